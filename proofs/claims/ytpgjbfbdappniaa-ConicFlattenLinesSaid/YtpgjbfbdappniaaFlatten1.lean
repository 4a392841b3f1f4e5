/-
  The lines of a flattened path. No program in sight (but for what the imports bring).
-/
import Derived.Test.YtpgjbfbdappniaaFlatten0
import Derived.Test.YtpgjbfbdappniaaSameLines
import Derived.Test.YtpgjbfbdappniaaFreeze
namespace Go.Proofs.Ytpgjbfbdappniaa
open Go.RowKit
set_option linter.unusedVariables false
set_option linter.unusedSimpArgs false
section
variable {S : Nat → SegD} {n : Nat}
theorem seg_ok (h : pathE S n = 0) {i : Nat} (hi : i < n) : (1 ≤ (S i).k ∧ (S i).k ≤ 4) ∧ (firstS S i = true → (S i).k = 1) ∧ ptB (S i).x (S i).y = true ∧ ptB (S i).u (S i).v = true ∧ ((S i).k = 3 → 16 ≤ (S i).w ∧ (S i).w ≤ 4096) := by
  have hn : ¬ 1000 < n := fun h1 => by unfold pathE at h; rw [if_pos h1] at h; omega
  unfold pathE at h
  rw [if_neg hn] at h
  have h1 := firstV_ok h i hi
  unfold errS at h1
  rw [segF_ref] at h1
  split at h1
  · omega
  · rename_i a1
    split at h1
    · omega
    · rename_i a2
      split at h1
      · omega
      · split at h1
        · omega
        · split at h1
          · omega
          · rename_i a3
            split at h1
            · omega
            · rename_i a4
              refine ⟨Decidable.not_not.1 a1, fun e => Decidable.not_not.1 fun e2 => a2 ⟨e, e2⟩, ?_, ?_, fun e => Decidable.not_not.1 fun e2 => a4 ⟨e, e2⟩⟩
              · cases e : ptB (S i).x (S i).y
                · exact absurd (.inl e) a3
                · rfl
              · cases e : ptB (S i).u (S i).v
                · exact absurd (.inr e) a3
                · rfl
theorem seg_in (h : pathE S n = 0) {i e x : Nat} (hs : SubP S n i e) (h1 : i < x) (h2 : x < e) : ((S x).k = 4 ∧ x + 1 = e) ∨ (S x).k ≠ 4 ∧ ((S x).k = 2 ∨ ((S x).k = 3 ∧ CvOk (cvS (S (x - 1)).x (S (x - 1)).y (S x)))) := by
  have hle := hs.le
  obtain ⟨⟨k1, k2⟩, _, k4, k5, k6⟩ := seg_ok h (i := x) (by omega)
  obtain ⟨_, _, j4, _, _⟩ := seg_ok h (i := x - 1) (by omega)
  have kn := hs.no x h1 h2
  by_cases k : (S x).k = 4
  · left
    refine ⟨k, ?_⟩
    rcases Nat.lt_or_ge (x + 1) e with h3 | h3
    · exfalso
      obtain ⟨_, f2, _⟩ := seg_ok h (i := x + 1) (by omega)
      exact hs.no (x + 1) (by omega) h3 (f2 (by rw [firstS_succ]; simp [k]))
    · omega
  · right
    refine ⟨k, ?_⟩
    by_cases k3 : (S x).k = 3
    · right
      obtain ⟨a1, a2⟩ := ptB_iff.1 k4
      obtain ⟨a3, a4⟩ := ptB_iff.1 k5
      obtain ⟨a5, a6⟩ := ptB_iff.1 j4
      exact ⟨k3, a5, a6, a3, a4, a1, a2, k6 k3⟩
    · left; omega
def rowG (S : Nat → SegD) (n j : Nat) : Nat × Nat := (rowL S n).getD j (0, 0)
def lnP (S : Nat → SegD) (n j : Nat) : List (Int × Int) := subPts S (rowG S n j).1 ((rowG S n j).2 - 1)
def lnC (S : Nat → SegD) (n j : Nat) : Bool := decide ((S ((rowG S n j).1 + (rowG S n j).2 - 1)).k = 4)
abbrev lnV (S : Nat → SegD) (n : Nat) (a : Nat → Option Addr) (q : Nat → Nat) : Nat → List Value := fun j => [.slice (a j) (lnP S n j).length (q j), .bool (lnC S n j)]
structure FlS where
  i : Nat
  G : Mem
  a : Nat → Option Addr
  q : Nat → Nat
structure FlI (S : Nat → SegD) (n : Nat) (G1 : Mem) (s : FlS) : Prop where
  le : s.i ≤ (rowL S n).length
  mem : G1.le s.G
  pts : ∀ j, j < s.i → PtsM s.G (s.a j) (lnP S n j)
def FlS.next (s : FlS) (A : Option Addr) (cap : Nat) (G' : Mem) : FlS := ⟨s.i + 1, G', fun j => if j = s.i then A else s.a j, fun j => if j = s.i then cap else s.q j⟩
theorem FlI.next {G1 : Mem} {s : FlS} (h : FlI S n G1 s) {A : Option Addr} {cap : Nat} {G' : Mem} (hi : s.i < (rowL S n).length) (hle : s.G.le G') (hp : PtsM G' A (lnP S n s.i)) : FlI S n G1 (s.next A cap G') :=
  ⟨hi, Mem.le_trans h.mem hle, fun j hj => by
    show PtsM G' (if j = s.i then A else s.a j) _
    by_cases e : j = s.i
    · rw [if_pos e, e]; exact hp
    · rw [if_neg e]
      have hj : j < s.i + 1 := hj
      exact (h.pts j (by omega)).mono hle⟩
theorem lnV_next (s : FlS) (A : Option Addr) (cap : Nat) (G' : Mem) : flatC (lnV S n (s.next A cap G').a (s.next A cap G').q) (s.i + 1) = flatC (lnV S n s.a s.q) s.i ++ [.slice A (lnP S n s.i).length cap, .bool (lnC S n s.i)] := by
  rw [flatC, flatC_congr (d := lnV S n s.a s.q) (n := s.i) (fun x hx => ?_)]
  · show _ ++ [Value.slice (if s.i = s.i then A else s.a s.i) _ (if s.i = s.i then cap else s.q s.i), _] = _
    rw [if_pos rfl, if_pos rfl]
  · show [Value.slice (if x = s.i then A else s.a x) _ (if x = s.i then cap else s.q x), _] = _
    rw [if_neg (by omega), if_neg (by omega)]
/-- What flattening hands back. -/
def FlR (S : Nat → SegD) (n : Nat) (G : Mem) (A : Option Addr) (m : Nat) : Prop := m = (rowL S n).length ∧ ∃ a q, LnsM G A m (lnP S n) (lnC S n) a q
theorem FlI.res {G1 : Mem} {s : FlS} (h : FlI S n G1 s) (hi : s.i = (rowL S n).length) {G2 : Mem} {A : Option Addr} (hle : s.G.le G2) (hF : FlatM G2 A (flatC (lnV S n s.a s.q) s.i)) : FlR S n G2 A s.i :=
  ⟨hi, s.a, s.q, ⟨hF.els (sz := 2) (fun x hx => rfl) (by omega), fun j hj => (h.pts j hj).mono hle⟩⟩
theorem rowG_of {j : Nat} (hj : j < (rowL S n).length) : (rowL S n)[j]? = some (rowG S n j) := by
  unfold rowG
  rw [List.getD_eq_getElem?_getD, List.getElem?_eq_getElem hj]; rfl
theorem rowG_sub (h0 : 0 < n → (S 0).k = 1) {j : Nat} (hj : j < (rowL S n).length) : SubP S n (rowG S n j).1 ((rowG S n j).1 + (rowG S n j).2) := ((rowL_chain h0).1 j _ (rowG_of hj)).2
end
end Go.Proofs.Ytpgjbfbdappniaa
