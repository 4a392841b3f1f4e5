/-
  Rows of elements, each given by its cells: in old memory and in a row of the call's own. No program in sight.
-/
import Derived.Test.YtbkhpddodmbdoaaMrg8
namespace Go.Proofs.Ytbkhpddodmbdoaa
open Go.RowKit
set_option linter.unusedVariables false
/-- The cells of the first n elements, one behind the other. -/
def flatC (c : Nat → List Value) : Nat → List Value
  | 0 => []
  | n + 1 => flatC c n ++ c n
theorem flatC_length {c : Nat → List Value} {sz : Nat} : ∀ {n : Nat}, (∀ x, x < n → (c x).length = sz) → (flatC c n).length = n * sz
  | 0, _ => by simp [flatC]
  | n + 1, h => by
    rw [flatC, List.length_append, flatC_length (n := n) (fun x hx => h x (by omega)), h n (by omega), Nat.add_mul, Nat.one_mul]
theorem flatC_get {c : Nat → List Value} {sz : Nat} : ∀ {n : Nat}, (∀ x, x < n → (c x).length = sz) → ∀ {x j : Nat}, x < n → j < sz → (flatC c n)[x * sz + j]? = (c x)[j]?
  | 0, _, _, _, hx, _ => by omega
  | n + 1, h, x, j, hx, hj => by
    have hl := flatC_length (n := n) (fun x hx => h x (by omega))
    rw [flatC]
    rcases Nat.lt_or_ge x n with h1 | h1
    · have : x * sz + j < n * sz := by
        have := Nat.mul_le_mul_right sz (show x + 1 ≤ n by omega)
        rw [Nat.add_mul, Nat.one_mul] at this; omega
      rw [List.getElem?_append_left (by omega)]
      exact flatC_get (fun x hx => h x (by omega)) h1 hj
    · obtain rfl : x = n := by omega
      rw [List.getElem?_append_right (by omega), hl]
      congr 1; omega
theorem flatC_congr {c d : Nat → List Value} : ∀ {n : Nat}, (∀ x, x < n → c x = d x) → flatC c n = flatC d n
  | 0, _ => rfl
  | n + 1, h => by rw [flatC, flatC, flatC_congr (n := n) (fun x hx => h x (by omega)), h n (by omega)]
theorem flatC_add (c : Nat → List Value) (m : Nat) : ∀ (n : Nat), flatC c (m + n) = flatC c m ++ flatC (fun x => c (m + x)) n
  | 0 => by simp [flatC]
  | n + 1 => by rw [← Nat.add_assoc, flatC, flatC_add c m n, flatC, List.append_assoc]
theorem flatC_one {c : Nat → List Value} : ∀ {n : Nat}, (∀ x, x < n → ∀ v ∈ c x, v.oneCell' = true) → ∀ v ∈ flatC c n, v.oneCell' = true
  | 0, _, v, hv => by simp [flatC] at hv
  | n + 1, h, v, hv => by
    rw [flatC, List.mem_append] at hv
    rcases hv with hv | hv
    · exact flatC_one (n := n) (fun x hx => h x (by omega)) v hv
    · exact h n (by omega) v hv
/-- Elements in memory that stands. -/
structure ElsM (G : Mem) (A : Option Addr) (sz n : Nat) (c : Nat → List Value) : Prop where
  len : ∀ x, x < n → (c x).length = sz
  at_ : ∀ x, x < n → ∃ b off, A = some ⟨b, off, none⟩ ∧ ∀ j v, (c x)[j]? = some v → G.cell? ⟨b, off + x * sz + j, none⟩ = some v
section
variable {G G' : Mem} {A : Option Addr} {sz n : Nat} {c d : Nat → List Value}
theorem ElsM.mono (h : ElsM G A sz n c) (hle : G.le G') : ElsM G' A sz n c := ⟨h.len, fun x hx => by
  obtain ⟨b, off, h1, h2⟩ := h.at_ x hx
  exact ⟨b, off, h1, fun j v hj => hle.cell (h2 j v hj)⟩⟩
theorem ElsM.less (h : ElsM G A sz n c) {k : Nat} (hk : k ≤ n) : ElsM G A sz k c := ⟨fun x hx => h.len x (by omega), fun x hx => h.at_ x (by omega)⟩
theorem ElsM.congr (h : ElsM G A sz n c) (e : ∀ x, x < n → c x = d x) : ElsM G A sz n d :=
  ⟨fun x hx => by rw [← e x hx]; exact h.len x hx, fun x hx => by rw [← e x hx]; exact h.at_ x hx⟩
theorem ElsM.none : ElsM G A sz 0 c := ⟨fun x hx => by omega, fun x hx => by omega⟩
/-- The elements from the k-th on. -/
theorem ElsM.drop (h : ElsM G A sz n c) {k : Nat} (hk : k ≤ n) : ElsM G (A.map fun p => p.add (k * sz)) sz (n - k) (fun x => c (k + x)) :=
  ⟨fun x hx => h.len _ (by omega), fun x hx => by
    obtain ⟨b, off, rfl, h2⟩ := h.at_ (k + x) (by omega)
    refine ⟨b, off + k * sz, by simp [addr_add], fun j v hj => ?_⟩
    have := h2 j v hj
    rwa [show off + k * sz + x * sz + j = off + (k + x) * sz + j by rw [Nat.add_mul]; omega]⟩
/-- What a walk asks at a load. -/
theorem ElsM.cells (h : ElsM G A sz n c) {x : Nat} (hx : x < n) : ∃ p : Addr, A = some p ∧ ∀ K : List Value → Prop, K (c x) → OldCells G (p.add (x * sz)) sz K := by
  obtain ⟨b, off, rfl, h2⟩ := h.at_ x hx
  refine ⟨_, rfl, fun K k => OldCells_list _ (h.len x hx) (fun j u hj => ?_) k⟩
  rw [addr_add, addr_add]
  exact h2 j u hj
/-- The same of one cell of an element. -/
theorem ElsM.cell (h : ElsM G A sz n c) {x j : Nat} {v : Value} (hx : x < n) (hj : (c x)[j]? = some v) : ∃ p : Addr, A = some p ∧ G.cell? (Addr.add (p.add (x * sz)) j) = some v := by
  obtain ⟨b, off, rfl, h2⟩ := h.at_ x hx
  exact ⟨_, rfl, by rw [addr_add, addr_add]; exact h2 j v hj⟩
theorem ElsM.frozen (hl : ∀ x, x < n → (c x).length = sz) (h : flatC c n = [] ∨ ∃ b, A = some ⟨b, 0, Option.none⟩ ∧ ∀ (j : Nat) u, (flatC c n)[j]? = some u → G.cell? ⟨b, j, Option.none⟩ = some u) (hA : 0 < sz) : ElsM G A sz n c := by
  refine ⟨hl, fun x hx => ?_⟩
  rcases h with h | ⟨b, rfl, h⟩
  · have := flatC_length hl
    rw [h] at this
    have h1 : 0 < n * sz := Nat.mul_pos (by omega) hA
    simp at this; omega
  · refine ⟨b, 0, rfl, fun j v hj => ?_⟩
    have hjl : j < sz := by have := (List.getElem?_eq_some_iff.1 hj).1; rw [hl x hx] at this; exact this
    rw [Nat.zero_add]
    exact h _ _ (by rw [flatC_get hl hx hjl]; exact hj)
end
end Go.Proofs.Ytbkhpddodmbdoaa
