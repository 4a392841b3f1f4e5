/-
  strconv.Itoa over a world that holds the table; strings.Join of words.
-/
import Derived.Test.YtdakcfggecpjjaaDoorDecimal
import Derived.Test.YtdakcfggecpjjaaDoorPathsH
import Derived.Test.YtdakcfggecpjjaaDoorPathChk
import Derived.Lib.Join
import Derived.Lib.LaidTab
namespace Go.Proofs.YtdakcfggecpjjaaDoor
open Go.RowKit Go.Lib
set_option linter.unusedVariables false
set_option linter.unusedSimpArgs false
set_option maxRecDepth 20000
/-- What is known of memory has the table. -/
def TabM (G : Mem) : Prop := ∀ w, G.holds w → TabIs Tryd.prog w "internal/strconv.uint64pow10" .u64 pow10Tab
theorem TabM.mono {G G' : Mem} (h : TabM G) (hle : G.le G') : TabM G' := fun w hw => h w fun b o hb => hw b o (hle b o hb)
theorem tab_m {w : World} (h : TabIs Tryd.prog w "internal/strconv.uint64pow10" .u64 pow10Tab) : TabM (memOf w) := fun w' hw => by
  unfold TabIs World.var? at h ⊢
  cases hg : Tryd.prog.globalNamed "internal/strconv.uint64pow10" with
  | none => rw [hg] at h; cases h
  | some g =>
    rw [hg] at h
    simp only [Option.bind_some] at h ⊢
    cases hb : w.heap[g]? with
    | none => rw [hb] at h; cases h
    | some o =>
      rw [hb] at h
      rw [hw g o hb]
      exact h
theorem Itoa_gives {n : Int} {G : Mem} (hT : TabM G) (h0 : -9223372036854775808 ≤ n) (h1 : n ≤ 9223372036854775807) : Gives Tryd.prog 23 [.val (.int .i64 n)] G (.val (.string (bytesS (itoa n)))) :=
  Gives.of_calls (args := [.int .i64 n]) fun w hw => (Tryd.strconv_Itoa n h0 h1 w (hT w hw)).mono fun _ w' ⟨h, k, os, e⟩ => ⟨h, by
    subst e
    refine ⟨rfl, rfl, rfl, ?_, fun j hj => ?_⟩
    · show w.heap.size ≤ (w.heap ++ os).size
      simp
    · show (w.heap ++ os)[j]? = w.heap[j]?
      rw [Array.getElem?_append_left hj]⟩
/-- The words of a segment. -/
def segW (k x y u v w : Int) : List (List UInt8) := if k = 1 then [[109], itoa x, itoa y] else if k = 2 then [[108], itoa x, itoa y] else if k = 3 then [[113], itoa u, itoa v, itoa x, itoa y, itoa w] else [[104]]
def wordsS (S : Nat → SegD) : Nat → List (List UInt8)
  | 0 => []
  | i + 1 => wordsS S i ++ segW (S i).k (S i).x (S i).y (S i).u (S i).v (S i).w
theorem segW_len (k x y u v w : Int) : 1 ≤ (segW k x y u v w).length ∧ (segW k x y u v w).length ≤ 6 := by
  unfold segW; split; simp; split; simp; split <;> simp
theorem wordsS_len (S : Nat → SegD) : ∀ i, (wordsS S i).length ≤ 6 * i
  | 0 => by simp [wordsS]
  | i + 1 => by
    have := wordsS_len S i
    have := segW_len (S i).k (S i).x (S i).y (S i).u (S i).v (S i).w
    simp only [wordsS, List.length_append]; omega
theorem wordsS_pos (S : Nat → SegD) (i : Nat) : wordsS S (i + 1) ≠ [] := by
  have := segW_len (S i).k (S i).x (S i).y (S i).u (S i).v (S i).w
  intro h
  have h := congrArg List.length h
  simp only [wordsS, List.length_append, List.length_nil] at h
  omega
theorem join_add {a b : List (List UInt8)} (h : a ≠ []) : Lib.join (a ++ b) [32] = Lib.join a [32] ++ Lib.joinTail [32] b := by
  cases a with
  | nil => exact absurd rfl h
  | cons x r =>
    rw [List.cons_append, join_cons, join_cons]
    unfold joinTail
    simp
theorem joinTail_len {b : List (List UInt8)} (h : ∀ l ∈ b, l.length ≤ 6) : (Lib.joinTail [32] b).length ≤ 7 * b.length := by
  unfold joinTail
  induction b with
  | nil => simp
  | cons x r ih =>
    have h1 := h x (by simp)
    have h2 := ih fun l hl => h l (List.mem_cons_of_mem _ hl)
    simp only [List.map_cons, List.flatten_cons, List.length_append, List.length_cons, List.length_nil]
    omega
theorem join_len {b : List (List UInt8)} (h : ∀ l ∈ b, l.length ≤ 6) : (Lib.join b [32]).length ≤ 7 * b.length := by
  cases b with
  | nil => simp [join_nil]
  | cons x r =>
    rw [join_cons]
    have h1 := h x (by simp)
    have h2 := joinTail_len fun l hl => h l (List.mem_cons_of_mem _ hl)
    simp only [List.length_append, List.length_cons]
    omega
/-- All numbers of the first segments are small. -/
def Small (s : SegD) : Prop := s.x.natAbs ≤ 99999 ∧ s.y.natAbs ≤ 99999 ∧ s.u.natAbs ≤ 99999 ∧ s.v.natAbs ≤ 99999 ∧ s.w.natAbs ≤ 99999
theorem segW_small {s : SegD} (h : Small s) : ∀ l ∈ segW s.k s.x s.y s.u s.v s.w, l.length ≤ 6 := by
  obtain ⟨h1, h2, h3, h4, h5⟩ := h
  have i1 := itoa_len h1
  have i2 := itoa_len h2
  have i3 := itoa_len h3
  have i4 := itoa_len h4
  have i5 := itoa_len h5
  intro l hl
  unfold segW at hl
  split at hl
  · simp only [List.mem_cons, List.not_mem_nil, or_false] at hl
    rcases hl with rfl | rfl | rfl <;> first | assumption | simp
  · split at hl
    · simp only [List.mem_cons, List.not_mem_nil, or_false] at hl
      rcases hl with rfl | rfl | rfl <;> first | assumption | simp
    · split at hl
      · simp only [List.mem_cons, List.not_mem_nil, or_false] at hl
        rcases hl with rfl | rfl | rfl | rfl | rfl | rfl <;> first | assumption | simp
      · simp only [List.mem_cons, List.not_mem_nil, or_false] at hl
        rw [hl]; simp
theorem wordsS_small {S : Nat → SegD} : ∀ {n : Nat}, (∀ i, i < n → Small (S i)) → ∀ l ∈ wordsS S n, l.length ≤ 6
  | 0, _, l, hl => by simp [wordsS] at hl
  | n + 1, h, l, hl => by
    rw [wordsS, List.mem_append] at hl
    rcases hl with hl | hl
    · exact wordsS_small (fun i hi => h i (by omega)) l hl
    · exact segW_small (h n (by omega)) l hl
/-- The numbers of a valid path are small. -/
theorem path_small {S : Nat → SegD} {n : Nat} (h : pathE S n = 0) {i : Nat} (hi : i < n) : Small (S i) ∧ 1 ≤ (S i).k ∧ (S i).k ≤ 4 := by
  have hl : n ≤ 1000 := by
    unfold pathE at h
    split at h <;> omega
  unfold pathE at h
  rw [if_neg (by omega)] at h
  have h0 := firstV_ok h i hi
  unfold errS at h0
  generalize firstS S i = f at h0
  rw [segF_ref] at h0
  generalize hx : ptB (S i).x (S i).y = p at h0
  generalize hu : ptB (S i).u (S i).v = q at h0
  have key : (1 ≤ (S i).k ∧ (S i).k ≤ 4) ∧ p = true ∧ q = true ∧ ((S i).w = 0 ∨ (16 ≤ (S i).w ∧ (S i).w ≤ 4096)) := by
    cases p <;> cases q <;> simp only [Bool.false_eq_true, or_true, true_or, or_self, if_true, if_false, true_and, and_true, reduceCtorEq] at h0 ⊢ <;> (repeat' split at h0) <;> omega
  obtain ⟨hk, rfl, rfl, hw⟩ := key
  unfold ptB at hx hu
  simp only [Bool.and_eq_true] at hx hu
  have a1 := inB_iff.1 hx.1
  have a2 := inB_iff.1 hx.2
  have a3 := inB_iff.1 hu.1
  have a4 := inB_iff.1 hu.2
  refine ⟨⟨?_, ?_, ?_, ?_, ?_⟩, hk⟩ <;> omega
end Go.Proofs.YtdakcfggecpjjaaDoor
