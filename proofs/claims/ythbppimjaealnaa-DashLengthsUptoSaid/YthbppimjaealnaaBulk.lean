/-
  What the bound of the second form gives: how long slices are, and slices in slices.
-/
import Derived.Test.YthbppimjaealnaaRows
import Derived.Test.YthbppimjaealnaaLinesM
import Derived.ChangeArms
import Derived.OpenShut
namespace Go.Proofs.Ythbppimjaealnaa
open Go.RowKit Go.ChangeShapes Go.WideShapes Go.Deep
set_option linter.unusedVariables false
theorem bulk_one {H : Type} (d : DataW H) : 1 ≤ Rows.uptoBulk d := by
  cases d with
  | lit l => cases l <;> simp [Rows.uptoBulk]
  | nil => simp [Rows.uptoBulk]
  | ptr d => simp [Rows.uptoBulk]
  | slice elems spare => simp [Rows.uptoBulk]
  | agg parts => simp [Rows.uptoBulk]
  | iface t d => simp [Rows.uptoBulk]
  | map entries => simp [Rows.uptoBulk]
  | held h => simp [Rows.uptoBulk]
theorem bulk_part {H : Type} {d : DataW H} : ∀ {l : List (DataW H)}, d ∈ l → Rows.uptoBulk d ≤ Rows.uptoBulkAll l
  | [], h => by cases h
  | x :: r, h => by
    simp only [Rows.uptoBulkAll]
    rcases List.mem_cons.1 h with e | e
    · subst e; omega
    · have := bulk_part e; omega
theorem bulk_all {H : Type} {l : List (DataW H)} (hk : Rows.uptoSmall H l = true) : Rows.uptoBulkAll l ≤ 1048576 := of_decide_eq_true hk
def sumN (f : Nat → Nat) : Nat → Nat
  | 0 => 0
  | n + 1 => sumN f n + f n
theorem sumN_congr {f g : Nat → Nat} : ∀ {n : Nat}, (∀ x, x < n → f x = g x) → sumN f n = sumN g n
  | 0, _ => rfl
  | n + 1, h => by rw [sumN, sumN, sumN_congr (n := n) (fun x hx => h x (by omega)), h n (by omega)]
theorem bulk_sum {H : Type} : ∀ (l : List (DataW H)) (f : Nat → Nat), (∀ (i : Nat) d, l[i]? = some d → f i ≤ Rows.uptoBulk d) → sumN f l.length ≤ Rows.uptoBulkAll l := by
  have key : ∀ (r : List (DataW H)) (f : Nat → Nat), (∀ (i : Nat) d, r.reverse[i]? = some d → f i ≤ Rows.uptoBulk d) → sumN f r.length ≤ Rows.uptoBulkAll r.reverse := by
    have app : ∀ (l r : List (DataW H)), Rows.uptoBulkAll (l ++ r) = Rows.uptoBulkAll l + Rows.uptoBulkAll r := by
      intro l r
      induction l with
      | nil => simp [Rows.uptoBulkAll]
      | cons x l ih => simp only [List.cons_append, Rows.uptoBulkAll, ih]; omega
    intro r
    induction r with
    | nil => intro f _; simp [sumN]
    | cons x r ih =>
      intro f h
      rw [List.reverse_cons] at h ⊢
      rw [app, List.length_cons, sumN]
      have h1 := ih f (fun i d hi => h i d (by rw [List.getElem?_append_left (List.getElem?_eq_some_iff.1 hi).1]; exact hi))
      have h2 := h r.length x (by rw [List.getElem?_append_right (by simp)]; simp)
      simp only [Rows.uptoBulkAll]
      omega
  intro l f h
  have := key l.reverse f (by rw [List.reverse_reverse]; exact h)
  rw [List.reverse_reverse, List.length_reverse] at this
  exact this
section
variable {H : Type} {enc : TypeId × Value → H} {P : Program} {w : World} {base : Nat} {spare : Nat → Bool} {held : Bool}
theorem bulk_len {t e : TypeId} {fuel : Nat} {c : Value} {x : DataW H × List MemPlace} (ht : P.underlying t = some (.slice e)) (h : DataW.trod enc P w base spare held fuel t [c] = some x) : slN c ≤ Rows.uptoBulk x.1 := by
  rcases DataW.trod_slice ht h with ⟨h1, _⟩ | ⟨a, len, cap, elems, rest, k, hk, h1, hx, hb, hlc, hcm, hel, hg, _, _⟩
  · simp at h1; subst h1; simp [slN]
  · simp at h1; subst h1
    subst hx
    have h3 := bulk_sum (elems.map (·.1)) (fun _ => 1) (fun i d _ => bulk_one d)
    have h4 : ∀ n, sumN (fun _ => 1) n = n := fun n => by induction n with | zero => rfl | succ n ih => rw [sumN, ih]
    rw [h4, List.length_map, hel] at h3
    simp only [slN, Rows.uptoBulk]
    omega
/-- A slice of a parameter. -/
theorem bulk_slice {t e : TypeId} {A : Option Addr} {n cap : Nat} {d : DataW H} {ps : List MemPlace} (ht : P.underlying t = some (.slice e)) (h : DataW.Trod enc P w base spare held t (.slice A n cap) d ps) : n ≤ Rows.uptoBulk d := by
  obtain ⟨fuel, hf⟩ := h
  have hf' : DataW.trod enc P w base spare held fuel t [.slice A n cap] = some (d, ps) := by simpa [Value.cells] using hf
  exact bulk_len ht hf'
/-- A slice whose elements hold slices. -/
theorem bulk_rows {t e : TypeId} {A : Option Addr} {n cap : Nat} {d : DataW H} {ps : List MemPlace} {g : Nat → Nat → Value} (ht : P.underlying t = some (.slice e)) (h : DataW.Trod enc P w base spare held t (.slice A n cap) d ps) (hg : SliceG P w e A n g)
    (f : (Nat → Value) → Nat) (hf : ∀ (fuel : Nat) (cs : List Value) (x : DataW H × List MemPlace) (c : Nat → Value), (∀ j, j < P.cellsOf e → cs[j]? = some (c j)) → DataW.trod enc P w base spare held fuel e cs = some x → f c ≤ Rows.uptoBulk x.1) :
    sumN (fun x => f (g x)) n ≤ Rows.uptoBulk d := by
  obtain ⟨fuel, hfu⟩ := h
  have hf' : DataW.trod enc P w base spare held fuel t [.slice A n cap] = some (d, ps) := by simpa [Value.cells] using hfu
  rcases DataW.trod_slice ht hf' with ⟨h1, _⟩ | ⟨a, len, cap', elems, rest, k, hk, h1, hx, hb, hlc, hcm, hel, hge, _, _⟩
  · simp at h1
    rw [h1.2.1]; simp [sumN]
  · simp at h1
    obtain ⟨rfl, rfl, rfl⟩ := h1
    have h2 := bulk_sum (elems.map (·.1)) (fun x => f (g x)) (fun i dd hi => by
      rw [List.getElem?_map] at hi
      cases hz : elems[i]? with
      | none => rw [hz] at hi; cases hi
      | some z =>
        rw [hz] at hi
        simp at hi; subst hi
        have hin : i < n := by rw [← hel]; exact (List.getElem?_eq_some_iff.1 hz).1
        have h3 := hge i hin
        rw [hz] at h3
        obtain ⟨cs', hc, ht'⟩ := Option.bind_eq_some_iff.1 h3
        obtain ⟨_, hcl, hat⟩ := World.cells?_some hc
        obtain ⟨b, off, hA, _, hcell⟩ := hg (by omega)
        cases hA
        refine hf k cs' z (g i) (fun j hj => ?_) ht'
        have h5 := (hcell i hin).1 j hj
        have h6 := hat j hj
        rw [addr_add, addr_add] at h6
        rw [← h6]; exact h5)
    rw [List.length_map, hel] at h2
    simp only [Prod.mk.injEq] at hx
    rw [hx.1]
    simp only [Rows.uptoBulk]
    omega
end
section
variable {H : Type} {enc : TypeId × Value → H} {w : World} {base : Nat} {spare : Nat → Bool} {held : Bool}
theorem pts1 : Try.prog.cellsOf 41 = 1 := by kernel_rfl
theorem bulk_line {fuel : Nat} {cs : List Value} {x : DataW H × List MemPlace} {c : Nat → Value} (hc : ∀ j, j < Try.prog.cellsOf 43 → cs[j]? = some (c j)) (h : DataW.trod enc Try.prog w base spare held fuel 43 cs = some x) : slN (c 0) ≤ Rows.uptoBulk x.1 := by
  obtain ⟨xs, m, hm, hx, hl, hxl, hg⟩ := DataW.trod_struct Try.underlying43 h
  have h0 := hg 0 _ rfl
  have c0 := hc 0 (by rw [line2]; omega)
  have hcs : (cs.drop 0).take (Try.prog.cellsOf 41) = [c 0] := by
    rw [pts1]
    cases cs with
    | nil => simp at c0
    | cons a l => simp at c0; subst c0; rfl
  have hlt : 0 < xs.length := by rw [hxl]; decide
  rw [List.getElem?_eq_getElem hlt] at h0
  have h1 := bulk_len (c := c 0) uPts (by rw [← hcs]; exact h0)
  rw [hx]
  have h2 := bulk_part (l := xs.map (·.1)) (d := xs[0].1) (List.mem_map.2 ⟨xs[0], List.getElem_mem _, rfl⟩)
  simp only [Rows.uptoBulk]
  omega
/-- A line of a parameter: its points. -/
theorem bulk_line1 {A : Option Addr} {n cap : Nat} {v : Value} {d : DataW H} {ps : List MemPlace} (h : DataW.Trod enc Try.prog w base spare held 43 (.agg #[.slice A n cap, v]) d ps) : n ≤ Rows.uptoBulk d := by
  obtain ⟨fuel, hf⟩ := h
  have := bulk_line (cs := [.slice A n cap, v]) (c := fun j => (([.slice A n cap, v] : List Value)[j]?).getD undef) (fun j hj => by
    rw [line2] at hj
    match j, hj with
    | 0, _ => rfl
    | 1, _ => rfl) (by simpa [Value.cells] using hf)
  exact this
/-- Lines of a parameter: all their points together. -/
theorem bulk_lines {t : TypeId} {A : Option Addr} {n cap : Nat} {d : DataW H} {ps : List MemPlace} {g : Nat → Nat → Value} (ht : Try.prog.underlying t = some (.slice 43)) (h : DataW.Trod enc Try.prog w base spare held t (.slice A n cap) d ps) (hg : SliceG Try.prog w 43 A n g) :
    sumN (fun x => slN (g x 0)) n ≤ Rows.uptoBulk d :=
  bulk_rows ht h hg (fun c => slN (c 0)) (fun fuel cs x c hc hx => bulk_line hc hx)
end
end Go.Proofs.Ythbppimjaealnaa
