/-
  slices.Clone of inks.
-/
import Derived.Test.YtampdegpfndggaaImageE
import Derived.Shelf.SlicesE.Clone
import Derived.Lib.SliceRun
namespace Go.Proofs.Ytampdegpfndggaa
open Go.RowKit Go.Shelf
set_option linter.unusedVariables false
set_option maxRecDepth 20000
/-- The shelf's laying (as the kit's tool writes it). -/
def cloneI_ren : Go.Shelf.Ren := ⟨fun | 41 => 75 | n => n, fun | 22 => 49 | 23 => 29 | 4 => 4 | n => n, fun | n => n⟩
theorem cloneI : SlLaysE0.n41 Try.prog cloneI_ren := {
  mixed := by kernel_rfl
  f41 := ⟨Try.f75.name, by decide, Try.func75.trans (congrArg some (by kernel_rfl))⟩
  t4 := Try.underlying4
  a4 := Try.isAgg4
  z4 := Try.sizeOf4
  v4 := Try.zeroValue4
  t22 := Try.underlying49
  a22 := Try.isAgg49
  z22 := Try.sizeOf49
  v22 := Try.zeroValue49 }
noncomputable def inkI : TypeInfo := (Try.prog.info? 29).get (by kernel_rfl)
def flatI (n : Nat) (D : Nat → Nat → Int) : List Value := (List.range n).flatMap fun x => (List.range 8).map fun j => .int .u8 (D x j)
theorem flatI_length (n : Nat) (D : Nat → Nat → Int) : (flatI n D).length = n * 8 := by
  unfold flatI
  induction n with
  | zero => simp
  | succ n ih => rw [show List.range (n + 1) = List.range n ++ [n] from List.range_succ, List.flatMap_append, List.length_append, ih]; simp; omega
theorem flatI_get {n : Nat} {D : Nat → Nat → Int} : ∀ {x j : Nat}, x < n → j < 8 → (flatI n D)[x * 8 + j]? = some (.int .u8 (D x j)) := by
  induction n with
  | zero => intro x j h; omega
  | succ n ih =>
    intro x j hx hj
    have e : flatI (n + 1) D = flatI n D ++ (List.range 8).map fun j => Value.int .u8 (D n j) := by unfold flatI; rw [show List.range (n + 1) = List.range n ++ [n] from List.range_succ, List.flatMap_append]; simp only [List.flatMap_cons, List.flatMap_nil, List.append_nil]
    rw [e]
    by_cases h : x < n
    · rw [List.getElem?_append_left (by rw [flatI_length]; omega)]; exact ih h hj
    · obtain rfl : x = n := by omega
      rw [List.getElem?_append_right (by rw [flatI_length]; omega), flatI_length, show x * 8 + j - x * 8 = j by omega]
      simp [List.getElem?_range hj]
/-- Inks in memory. -/
structure InkM (G : Mem) (b off n : Nat) (D : Nat → Nat → Int) : Prop where
  cell : ∀ x j, x < n → j < 8 → G.cell? ⟨b, off + (x * 8 + j), none⟩ = some (.int .u8 (D x j))
theorem Clone_inks {b off n c : Nat} {G : Mem} {D : Nat → Nat → Int} (hB : InkM G b off n D) (hm : n ≤ maxLen) (hn : n * 8 ≤ 140737488355328) :
    Makes Try.prog 75 [.val (.slice (some ⟨b, off, none⟩) n c)] G id 29 8 n (flatI n D) := by
  intro w vs hG ha
  simp only [AV.rels, AV.rel] at ha
  obtain ⟨v, ts, hvs, rfl, rfl⟩ := ha
  have e : vs = #[.slice (some ⟨b, off, none⟩) n c] := Array.toList_inj.1 (by rw [hvs])
  subst e
  refine (AnyE.slices_Clone cloneI inkI (.agg #[.int .u8 0, .int .u8 0, .int .u8 0, .int .u8 0, .int .u8 0, .int .u8 0, .int .u8 0, .int .u8 0]) 8 8 (by kernel_rfl) (by kernel_rfl) (by kernel_rfl) (by kernel_rfl) rfl (by decide) Try.sizeOf29 b off n c (flatI n D) w (flatI_length n D) hm hn (fun j u hj => ?_) (fun u hu => ?_)).mono ?_
  · have hjl := (List.getElem?_eq_some_iff.1 hj).1
    rw [flatI_length] at hjl
    have h1 : j / 8 < n := by omega
    have h2 : j % 8 < 8 := by omega
    have h3 := flatI_get (D := D) h1 h2
    rw [show j / 8 * 8 + j % 8 = j by omega, hj] at h3
    cases h3
    have h4 := hB.cell _ _ h1 h2
    rw [show j / 8 * 8 + j % 8 = j by omega] at h4
    exact hG.cell h4
  · unfold flatI at hu
    simp at hu
    obtain ⟨x, _, j, _, rfl⟩ := hu
    rfl
  · rintro e w' ⟨v', rfl, h3, _, h4⟩
    exact ⟨_, v', rfl, by simp only [id, AV.rel], h3, h4⟩
set_option maxHeartbeats 1000000 in
theorem Clone_none {p : Option Addr} {c : Nat} {G : Mem} {D : Nat → Nat → Int} : Makes Try.prog 75 [.val (.slice p 0 c)] G id 29 8 0 (flatI 0 D) := by
  intro w vs hG ha
  simp only [AV.rels, AV.rel] at ha
  obtain ⟨v, ts, hvs, rfl, rfl⟩ := ha
  have e : vs = #[.slice p 0 c] := Array.toList_inj.1 (by rw [hvs])
  subst e
  cases p with
  | none =>
    refine (AnyE.slices_Clone_nil cloneI 0 c w).mono ?_
    rintro e w' ⟨rfl, rfl⟩
    exact ⟨_, .slice none 0 0, rfl, by simp only [id, AV.rel], World.ownsRow_nil _ _ _ _, Below.refl _ _⟩
  | some a =>
    have q22 : ∀ (w : World) (a : Option Addr) (n c n' c' : Nat), (binOp .eql 49 (.slice a n c) (.slice none n' c')).run Try.prog w = .ok (.bool a.isNone) w := fun w a n c n' c' => Lib.run_eql_slice_nil w _ _ a n c n' c' Try.underlying49
    clear hG
    go_enter Try.func75, Try.ntmps75
    go_wp2
    go_ret
    refine ⟨_, rfl, .slice (some ⟨w.heap.size, 0, none⟩) 0 0, by first | rfl | (simp only [id, AV.rel]; rfl), ⟨by simp [flatI], .inr ⟨w.heap.size, 0, #[], rfl, Nat.le_refl _, heap_alloc_new w _, Nat.le_refl _, Nat.zero_le _, rfl, rfl⟩⟩, by (repeat' (with_reducible first | exact Below.refl _ _ | refine past_le ?_ ?_ _ | refine Below.alloc ?_ ?_ _ | refine Below.drew ?_ | refine drewN_le ?_ _ | refine Below.setCell ?_ ?_ _ | refine step_le (by assumption) ?_ ?_ | omega | (simp only []; omega) | (simp only [World.size_alloc]; omega) | (simp only [World.size_setCell]; omega) | (simp only [World.size_drew]; omega) | (simp only [World.size_alloc, World.size_setCell]; omega) | (simp only [World.size_alloc, World.size_drew]; omega) | (simp only [World.size_setCell, World.size_drew]; omega) | (simp only [World.size_alloc, World.size_setCell, World.size_drew]; omega) | (simp only [World.size_alloc, World.size_setCell, World.size_drew, size_drewN]; omega)))⟩
end Go.Proofs.Ytampdegpfndggaa
