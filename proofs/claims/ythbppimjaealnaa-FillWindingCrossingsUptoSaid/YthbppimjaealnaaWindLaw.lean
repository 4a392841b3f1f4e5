/-
  Winding numbers: the edges of lines, their crossings of a row, the sums. No program in sight.
-/
import Derived.Test.YthbppimjaealnaaArea
namespace Go.Proofs.Ythbppimjaealnaa
open Go.RowKit
set_option linter.unusedVariables false
set_option linter.unusedSimpArgs false
structure Edge where
  x : Int
  y : Int
  e : Int
  dx : Int
  dy : Int
  s : Int
  deriving Inhabited
def encE (r : Edge) : List Value := [.int .i64 r.x, .int .i64 r.y, .int .i64 r.e, .int .i64 r.dx, .int .i64 r.dy, .int .i64 r.s]
def edgeOf (ax ay bx by_ : Int) : List Edge := if by_ < ay then [⟨bx, by_, ay, ax - bx, ay - by_, -1⟩] else if ay < by_ then [⟨ax, ay, by_, bx - ax, by_ - ay, 1⟩] else []
def edgesL (X Y : Nat → Int) (n : Nat) : Nat → List Edge
  | 0 => []
  | i + 1 => edgesL X Y n i ++ edgeOf (X i) (Y i) (X (nx n i)) (Y (nx n i))
def edgesN (L : Nat → LineD) : Nat → List Edge
  | 0 => []
  | x + 1 => edgesN L x ++ edgesL (L x).X (L x).Y (L x).n (L x).n
def cntN (L : Nat → LineD) : Nat → Nat
  | 0 => 0
  | x + 1 => cntN L x + (L x).n
theorem cntN_mono {L : Nat → LineD} {x : Nat} : ∀ {n : Nat}, x ≤ n → cntN L x ≤ cntN L n
  | 0, h => by obtain rfl : x = 0 := by omega
               exact Nat.le_refl _
  | n + 1, h => by
    rcases Nat.lt_or_ge x (n + 1) with h1 | h1
    · exact Nat.le_trans (cntN_mono (show x ≤ n by omega)) (Nat.le_add_right _ _)
    · obtain rfl : x = n + 1 := by omega
      exact Nat.le_refl _
theorem cntN_part {L : Nat → LineD} {x n i : Nat} (hx : x < n) (hi : i ≤ (L x).n) : cntN L x + i ≤ cntN L n :=
  Nat.le_trans (Nat.add_le_add_left hi _) (cntN_mono (L := L) (show x + 1 ≤ n from hx))
theorem edgeOf_length (ax ay bx by_ : Int) : (edgeOf ax ay bx by_).length ≤ 1 := by
  unfold edgeOf; split
  · simp
  · split <;> simp
theorem edgesL_length {X Y : Nat → Int} {n : Nat} : ∀ i, (edgesL X Y n i).length ≤ i
  | 0 => by simp [edgesL]
  | i + 1 => by
    have h1 := edgesL_length (X := X) (Y := Y) (n := n) i
    have h2 := edgeOf_length (X i) (Y i) (X (nx n i)) (Y (nx n i))
    rw [edgesL, List.length_append]; omega
theorem edgesN_length {L : Nat → LineD} : ∀ n, (edgesN L n).length ≤ cntN L n
  | 0 => by simp [edgesN]
  | n + 1 => by
    have h1 := edgesN_length (L := L) n
    have h2 := edgesL_length (X := (L n).X) (Y := (L n).Y) (n := (L n).n) (L n).n
    rw [edgesN, List.length_append, cntN]; omega
structure EdgeOk (r : Edge) : Prop where
  x : -32767 ≤ r.x ∧ r.x ≤ 32767
  y : -32767 ≤ r.y ∧ r.y ≤ 32767
  e : -32767 ≤ r.e ∧ r.e ≤ 32767
  dx : -65534 ≤ r.dx ∧ r.dx ≤ 65534
  dy : 1 ≤ r.dy ∧ r.dy ≤ 65534
  d : r.dy = r.e - r.y
  s : r.s = 1 ∨ r.s = -1
theorem edgeOf_ok {ax ay bx by_ : Int} (ha : okXY ax ay = true) (hb : okXY bx by_ = true) : ∀ r ∈ edgeOf ax ay bx by_, EdgeOk r := by
  obtain ⟨a1, a2⟩ := okXY_of ha
  obtain ⟨b1, b2⟩ := okXY_of hb
  intro r hr
  unfold edgeOf at hr
  split at hr
  · simp at hr; subst hr
    exact ⟨b1, b2, a2, by simp only; omega, by simp only; omega, rfl, .inr rfl⟩
  · split at hr
    · simp at hr; subst hr
      exact ⟨a1, a2, b2, by simp only; omega, by simp only; omega, rfl, .inl rfl⟩
    · simp at hr
theorem edgesL_ok {X Y : Nat → Int} {n : Nat} (h : ∀ j, j < n → okXY (X j) (Y j) = true) : ∀ i, i ≤ n → ∀ r ∈ edgesL X Y n i, EdgeOk r
  | 0, _, r, hr => by simp [edgesL] at hr
  | i + 1, hi, r, hr => by
    rw [edgesL, List.mem_append] at hr
    rcases hr with hr | hr
    · exact edgesL_ok h i (by omega) r hr
    · exact edgeOf_ok (h i (by omega)) (h _ (nx_lt (by omega))) r hr
theorem edgesN_ok {L : Nat → LineD} : ∀ {n : Nat}, (∀ x, x < n → ∀ i, i < (L x).n → okXY ((L x).X i) ((L x).Y i) = true) → ∀ r ∈ edgesN L n, EdgeOk r
  | 0, _, r, hr => by simp [edgesN] at hr
  | n + 1, h, r, hr => by
    rw [edgesN, List.mem_append] at hr
    rcases hr with hr | hr
    · exact edgesN_ok (n := n) (fun x hx => h x (by omega)) r hr
    · exact edgesL_ok (h n (by omega)) _ (Nat.le_refl _) r hr
/-- A crossing of a row. -/
structure Cr where
  x : Int
  s : Int
  deriving Inhabited
def encC (r : Cr) : List Value := [.int .i64 r.x, .int .i64 r.s]
def numE (r : Edge) (y : Int) : Int := 2 * r.dy * r.x + r.dx * (2 * (y - r.y) + 1) - r.dy
def firstE (r : Edge) (y : Int) : Int := -(-(numE r y) / (2 * r.dy))
def meetsB (r : Edge) (y : Int) : Bool := decide (r.y ≤ y ∧ y < r.e)
def crossL (y : Int) : List Edge → List Cr
  | [] => []
  | r :: l => (if meetsB r y = true then [⟨firstE r y, r.s⟩] else []) ++ crossL y l
theorem crossL_append (y : Int) : ∀ (l m : List Edge), crossL y (l ++ m) = crossL y l ++ crossL y m
  | [], m => rfl
  | r :: l, m => by rw [List.cons_append, crossL, crossL, crossL_append y l m, List.append_assoc]
theorem crossL_length (y : Int) : ∀ (l : List Edge), (crossL y l).length ≤ l.length
  | [] => by simp [crossL]
  | r :: l => by
    have := crossL_length y l
    rw [crossL, List.length_append, List.length_cons]
    split <;> simp <;> omega
theorem crossL_take {y : Int} {l : List Edge} {k : Nat} {r : Edge} (h : l[k]? = some r) : crossL y (l.take (k + 1)) = crossL y (l.take k) ++ (if meetsB r y = true then [⟨firstE r y, r.s⟩] else []) := by
  rw [List.take_add_one, h, crossL_append]
  simp [crossL]
theorem crossL_sign {y : Int} : ∀ {l : List Edge}, (∀ r ∈ l, EdgeOk r) → ∀ c ∈ crossL y l, c.s = 1 ∨ c.s = -1
  | [], _, c, hc => by simp [crossL] at hc
  | r :: l, h, c, hc => by
    rw [crossL, List.mem_append] at hc
    rcases hc with hc | hc
    · split at hc
      · simp at hc; subst hc; exact (h r (by simp)).s
      · simp at hc
    · exact crossL_sign (fun q hq => h q (by simp [hq])) c hc
/-- The sum of the signs up to a cell. -/
def sumC (x : Int) : List Cr → Int
  | [] => 0
  | c :: l => (if c.x ≤ x then c.s else 0) + sumC x l
theorem sumC_append (x : Int) : ∀ (l m : List Cr), sumC x (l ++ m) = sumC x l + sumC x m
  | [], m => by simp [sumC]
  | c :: l, m => by rw [List.cons_append, sumC, sumC, sumC_append x l m]; omega
theorem sumC_perm {x : Int} {l m : List Cr} (h : l.Perm m) : sumC x l = sumC x m := by
  induction h with
  | nil => rfl
  | cons c _ ih => rw [sumC, sumC, ih]
  | swap a b l => rw [sumC, sumC, sumC, sumC]; omega
  | trans _ _ h1 h2 => rw [h1, h2]
theorem sumC_bd {x : Int} : ∀ {l : List Cr}, (∀ c ∈ l, c.s = 1 ∨ c.s = -1) → -(l.length : Int) ≤ sumC x l ∧ sumC x l ≤ (l.length : Int)
  | [], _ => by simp [sumC]
  | c :: l, h => by
    have h1 := sumC_bd (x := x) (l := l) (fun q hq => h q (by simp [hq]))
    have h2 := h c (by simp)
    rw [sumC, List.length_cons]
    split <;> omega
theorem sumC_none {x : Int} : ∀ {l : List Cr}, (∀ c ∈ l, x < c.x) → sumC x l = 0
  | [], _ => rfl
  | c :: l, h => by
    have h2 := h c (by simp)
    rw [sumC, sumC_none (fun q hq => h q (by simp [hq])), if_neg (by omega)]; rfl
def cmpC (a b : Cr) : Int := if a.x < b.x then -1 else if b.x < a.x then 1 else 0
theorem first_le {r : Edge} {x y : Int} (h : EdgeOk r) : firstE r y ≤ x ↔ 2 * r.x * r.dy + r.dx * (2 * y + 1 - 2 * r.y) ≤ (2 * x + 1) * r.dy := by
  have hd := h.dy
  unfold firstE
  have e1 : -(-(numE r y) / (2 * r.dy)) ≤ x ↔ -x ≤ -(numE r y) / (2 * r.dy) := by omega
  rw [e1, Int.le_ediv_iff_mul_le (by omega)]
  unfold numE
  have e2 : 2 * r.dy * r.x = 2 * r.x * r.dy := by rw [Int.mul_assoc, Int.mul_comm r.dy, ← Int.mul_assoc]
  have e3 : (2 * (y - r.y) + 1) = 2 * y + 1 - 2 * r.y := by omega
  have e4 : -x * (2 * r.dy) = -(2 * (x * r.dy)) := by rw [Int.neg_mul, Int.mul_left_comm]
  have e5 : (2 * x + 1) * r.dy = 2 * (x * r.dy) + r.dy := by rw [Int.add_mul, Int.mul_assoc, Int.one_mul]
  rw [e2, e3, e4, e5]
  omega
/-- What one side adds to a winding number. -/
def termW (ax ay bx by_ x y : Int) : Int := sumC x (crossL y (edgeOf ax ay bx by_))
def windL (X Y : Nat → Int) (n : Nat) (x y : Int) (s : Int) : Nat → Int
  | 0 => s
  | i + 1 => windL X Y n x y s i + termW (X i) (Y i) (X (nx n i)) (Y (nx n i)) x y
def windN (L : Nat → LineD) (x y : Int) : Nat → Int
  | 0 => 0
  | k + 1 => windL (L k).X (L k).Y (L k).n x y (windN L x y k) (L k).n
theorem windL_sum {X Y : Nat → Int} {n : Nat} {x y s : Int} : ∀ i, windL X Y n x y s i = s + sumC x (crossL y (edgesL X Y n i))
  | 0 => by simp [windL, edgesL, crossL, sumC]
  | i + 1 => by rw [windL, windL_sum i, edgesL, crossL_append, sumC_append, termW]; omega
theorem windN_sum {L : Nat → LineD} {x y : Int} : ∀ n, windN L x y n = sumC x (crossL y (edgesN L n))
  | 0 => by simp [windN, edgesN, crossL, sumC]
  | n + 1 => by rw [windN, windL_sum, windN_sum n, edgesN, crossL_append, sumC_append]
theorem windL_bd {L : Nat → LineD} {n k i : Nat} {x y : Int} (h : ∀ x, x < n → ∀ i, i < (L x).n → okXY ((L x).X i) ((L x).Y i) = true) (hk : k < n) (hi : i ≤ (L k).n) :
    -((cntN L n : Nat) : Int) ≤ windL (L k).X (L k).Y (L k).n x y (windN L x y k) i ∧ windL (L k).X (L k).Y (L k).n x y (windN L x y k) i ≤ ((cntN L n : Nat) : Int) := by
  rw [windL_sum, windN_sum, ← sumC_append, ← crossL_append]
  have h1 := edgesN_ok (n := k) (fun x hx => h x (by omega))
  have h2 := edgesL_ok (h k hk) i hi
  have h3 := sumC_bd (x := x) (crossL_sign (y := y) (l := edgesN L k ++ edgesL (L k).X (L k).Y (L k).n i) (fun r hr => by
    rcases List.mem_append.1 hr with hr | hr
    · exact h1 r hr
    · exact h2 r hr))
  have h4 := crossL_length y (edgesN L k ++ edgesL (L k).X (L k).Y (L k).n i)
  have h5 := edgesN_length (L := L) k
  have h6 := edgesL_length (X := (L k).X) (Y := (L k).Y) (n := (L k).n) i
  have h7 := cntN_part (L := L) hk hi
  rw [List.length_append] at h4
  omega
end Go.Proofs.Ythbppimjaealnaa
