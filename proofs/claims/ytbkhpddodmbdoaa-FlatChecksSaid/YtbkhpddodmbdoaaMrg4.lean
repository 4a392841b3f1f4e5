/-
  Merged: XRuns, XRegLaw.
-/
import Derived.WalkKit
import Derived.Test.YtbkhpddodmbdoaaMrg3
namespace Go.Proofs.Ytbkhpddodmbdoaa
open Go.RowKit Go.ChangeShapes Go.WideShapes Go.Deep

structure Run where
  y : Int
  x0 : Int
  x1 : Int

/-- A slice of n runs. -/
def RunsAt (w : World) (A : Option Addr) (n : Nat) (rs : Nat → Run) : Prop :=
  0 < n → ∃ b off, A = some ⟨b, off, none⟩ ∧ b < w.heap.size ∧ ∀ i, i < n → w.cell? ⟨b, off + i * 3, none⟩ = some (.int .i64 (rs i).y) ∧ w.cell? ⟨b, off + i * 3 + 1, none⟩ = some (.int .i64 (rs i).x0) ∧ w.cell? ⟨b, off + i * 3 + 2, none⟩ = some (.int .i64 (rs i).x1)
theorem RunsAt.below {w w' : World} {A : Option Addr} {n : Nat} {rs : Nat → Run} (h : RunsAt w A n rs) (hb : Below w.heap.size w w') : RunsAt w' A n rs := by
  intro hn
  obtain ⟨b, off, hA, hlt, hc⟩ := h hn
  refine ⟨b, off, hA, Nat.lt_of_lt_of_le hlt hb.size, fun i hi => ?_⟩
  obtain ⟨h1, h2, h3⟩ := hc i hi
  exact ⟨(hb.cell (p := ⟨b, _, none⟩) hlt).trans h1, (hb.cell (p := ⟨b, _, none⟩) hlt).trans h2, (hb.cell (p := ⟨b, _, none⟩) hlt).trans h3⟩
/-- The error of a run, seen beside the one before it. -/
def runErr (rs : Nat → Run) (k : Nat) : Int :=
  if (rs k).y < -8192 ∨ 8191 < (rs k).y ∨ (rs k).x0 < -8192 ∨ 8192 < (rs k).x0 ∨ (rs k).x1 < -8192 ∨ 8192 < (rs k).x1 then 3
  else if (rs k).x1 ≤ (rs k).x0 then 4
  else if 0 < k ∧ (rs k).y ≤ (rs (k - 1)).y ∧ ((rs k).y < (rs (k - 1)).y ∨ (rs k).x0 ≤ (rs (k - 1)).x1) then 18 else 0
/-- The first error of n runs; 0: there is none. -/
def regV (rs : Nat → Run) : Nat → Int
  | 0 => 0
  | n + 1 => if regV rs n ≠ 0 then regV rs n else runErr rs n
theorem regV_first {rs : Nat → Run} {k : Nat} (h0 : regV rs k = 0) (h : runErr rs k ≠ 0) : ∀ {n : Nat}, k < n → regV rs n = runErr rs k := by
  intro n hn
  induction n with
  | zero => omega
  | succ n ih =>
    unfold regV
    by_cases hk : k < n
    · rw [if_pos (by rw [ih hk]; exact h), ih hk]
    · have : k = n := by omega
      subst this
      rw [if_neg (by simp [h0])]
theorem regV_next {rs : Nat → Run} {k : Nat} (h0 : regV rs k = 0) (h : runErr rs k = 0) : regV rs (k + 1) = 0 := by
  unfold regV; rw [if_neg (by simp [h0]), h]
section
variable {H : Type} {enc : TypeId × Value → H} {P : Program} {w : World} {base b0 : Nat} {spare : Nat → Bool} {held : Bool} {r : Reach} {v : Value} {d : DataW H} {ps : List MemPlace}
theorem addr_plain {w : World} {a : Addr} {v : Value} (h : w.cell? a = some v) : a = ⟨a.block, a.off, none⟩ ∧ a.block < w.heap.size := by
  have hs := World.cell?_spot h
  refine ⟨by cases a; simp at hs; simp [hs], ?_⟩
  rcases Nat.lt_or_ge a.block w.heap.size with h' | h'
  · exact h'
  · unfold World.cell? at h; rw [Array.getElem?_eq_none h'] at h; simp at h
theorem plain_add (b off i : Nat) : (⟨b, off, none⟩ : Addr).add i = ⟨b, off + i, none⟩ := by
  unfold Addr.add
  split
  · rename_i h; subst h; rfl
  · rfl
theorem open_Runs {t e : TypeId} {fs : Array Field} (ht : P.underlying t = some (.slice e)) (he : P.underlying e = some (.struct fs)) (h3 : fs.size = 3) (hC : P.cellsOf e = fs.size)
    (hf : ∀ (i : Nat) (f : Field), fs[i]? = some f → f.offset = i ∧ P.cellsOf f.type = 1 ∧ P.underlying f.type = some (.int .i64)) (hv : Value.okWide P w r b0 t v) (h : DataW.Trod enc P w base spare held t v d ps) :
    ∃ (A : Option Addr) (n cap : Nat) (rs : Nat → Run), v = .slice A n cap ∧ n ≤ cap ∧ cap ≤ maxLen ∧ RunsAt w A n rs := by
  obtain ⟨A, n, cap, rfl⟩ := okWide_slice ht hv
  obtain ⟨m, hs⟩ := sees_of_Trod h
  rcases hs.slice ht with hnil | ⟨a, len, cap', hcs, h1, h2, k, hk⟩
  · simp [Value.cells] at hnil
    obtain ⟨rfl, rfl, rfl⟩ := hnil
    exact ⟨none, 0, 0, fun _ => ⟨0, 0, 0⟩, rfl, by omega, by simp [maxLen], fun h => absurd h (by omega)⟩
  · simp [Value.cells] at hcs
    obtain ⟨rfl, rfl, rfl⟩ := hcs
    have key : ∀ i, i < n → ∃ q : Run, w.cell? (a.add (i * 3)) = some (.int .i64 q.y) ∧ w.cell? (a.add (i * 3 + 1)) = some (.int .i64 q.x0) ∧ w.cell? (a.add (i * 3 + 2)) = some (.int .i64 q.x1) := by
      intro i hi
      obtain ⟨cs, hl, hc, hse⟩ := hk i hi
      rw [hC, h3] at hl hc
      obtain ⟨zs, hz1, hz2, _⟩ := hse.ints he hC hf
      match zs, hz1.trans h3 with
      | [y, x0, x1], _ =>
        subst hz2
        exact ⟨⟨y, x0, x1⟩, hc 0 (by omega), hc 1 (by omega), hc 2 (by omega)⟩
    have : Inhabited Run := ⟨⟨0, 0, 0⟩⟩
    obtain ⟨rs, hrs⟩ := choose_lt key
    refine ⟨some a, n, cap, rs, rfl, h1, h2, fun hn => ?_⟩
    have h00 : w.cell? a = some (.int .i64 (rs 0).y) := by have := (hrs 0 hn).1; simpa [Addr.add] using this
    obtain ⟨q1, q2⟩ := addr_plain h00
    refine ⟨a.block, a.off, by rw [← q1], q2, fun i hi => ?_⟩
    obtain ⟨c1, c2, c3⟩ := hrs i hi
    rw [q1, plain_add] at c1 c2 c3
    exact ⟨c1, c2, c3⟩
end
end Go.Proofs.Ytbkhpddodmbdoaa

namespace Go.Proofs.Ytbkhpddodmbdoaa

theorem Run.ext' {r s : Run} (h1 : r.y = s.y) (h2 : r.x0 = s.x0) (h3 : r.x1 = s.x1) : r = s := by
  cases r; cases s; simp_all
def okR : List Run → Prop
  | [] => True
  | r :: l => r.x0 < r.x1 ∧ (∀ s ∈ l, r.y < s.y ∨ (r.y = s.y ∧ r.x1 < s.x0)) ∧ okR l
def hasR (L : List Run) (x y : Int) : Prop := ∃ r ∈ L, r.y = y ∧ r.x0 ≤ x ∧ x < r.x1
theorem hasR_cons {r : Run} {l : List Run} {x y : Int} : hasR (r :: l) x y ↔ (r.y = y ∧ r.x0 ≤ x ∧ x < r.x1) ∨ hasR l x y := by
  simp [hasR]
theorem hasR_append {k l : List Run} {x y : Int} : hasR (k ++ l) x y ↔ hasR k x y ∨ hasR l x y := by
  constructor
  · rintro ⟨r, h, h'⟩
    rcases List.mem_append.1 h with h | h
    · exact .inl ⟨r, h, h'⟩
    · exact .inr ⟨r, h, h'⟩
  · rintro (⟨r, h, h'⟩ | ⟨r, h, h'⟩)
    · exact ⟨r, List.mem_append.2 (.inl h), h'⟩
    · exact ⟨r, List.mem_append.2 (.inr h), h'⟩
theorem hasR_one {r : Run} {x y : Int} : hasR [r] x y ↔ r.y = y ∧ r.x0 ≤ x ∧ x < r.x1 := by simp [hasR]
theorem hasR_nil {x y : Int} : ¬ hasR [] x y := by simp [hasR]
theorem okR_run {L : List Run} (h : okR L) {r : Run} (hr : r ∈ L) : r.x0 < r.x1 := by
  induction L with
  | nil => cases hr
  | cons s l ih =>
    rcases List.mem_cons.1 hr with rfl | hr
    · exact h.1
    · exact ih h.2.2 hr
theorem okR_append {k l : List Run} : okR (k ++ l) ↔ okR k ∧ okR l ∧ ∀ r ∈ k, ∀ s ∈ l, r.y < s.y ∨ (r.y = s.y ∧ r.x1 < s.x0) := by
  induction k with
  | nil => simp [okR]
  | cons a k ih =>
    simp only [List.cons_append, okR, ih, List.mem_append, List.mem_cons]
    constructor
    · rintro ⟨h1, h2, h3, h4, h5⟩
      refine ⟨⟨h1, fun s hs => h2 s (.inl hs), h3⟩, h4, fun r hr s hs => ?_⟩
      rcases hr with rfl | hr
      · exact h2 s (.inr hs)
      · exact h5 r hr s hs
    · rintro ⟨⟨h1, h2, h3⟩, h4, h5⟩
      refine ⟨h1, fun s hs => ?_, h3, h4, fun r hr s hs => h5 r (.inr hr) s hs⟩
      rcases hs with hs | hs
      · exact h2 s hs
      · exact h5 a (.inl rfl) s hs
theorem okR_first {r : Run} {l : List Run} (h : okR (r :: l)) {x y : Int} (hx : hasR (r :: l) x y) : r.y < y ∨ (r.y = y ∧ r.x0 ≤ x) := by
  rcases hasR_cons.1 hx with h1 | ⟨s, hs, h1⟩
  · omega
  · have h2 := h.2.1 s hs
    have h3 := h.1
    omega
theorem okR_rest {r : Run} {l : List Run} (h : okR (r :: l)) {x y : Int} (hx : hasR l x y) : r.y < y ∨ (r.y = y ∧ r.x1 < x + 0 ∨ r.y = y ∧ r.x1 < x) := by
  obtain ⟨s, hs, h1⟩ := hx
  have h2 := h.2.1 s hs
  omega
theorem okR_ext : ∀ {L M : List Run}, okR L → okR M → (∀ x y, hasR L x y ↔ hasR M x y) → L = M
  | [], [], _, _, _ => rfl
  | [], s :: m, _, hM, h => ((hasR_nil ((h s.x0 s.y).2 ⟨s, List.mem_cons_self .., rfl, Int.le_refl _, hM.1⟩))).elim
  | r :: l, [], hL, _, h => ((hasR_nil ((h r.x0 r.y).1 ⟨r, List.mem_cons_self .., rfl, Int.le_refl _, hL.1⟩))).elim
  | r :: l, s :: m, hL, hM, h => by
    have a1 := okR_first hM ((h r.x0 r.y).1 ⟨r, List.mem_cons_self .., rfl, Int.le_refl _, hL.1⟩)
    have a2 := okR_first hL ((h s.x0 s.y).2 ⟨s, List.mem_cons_self .., rfl, Int.le_refl _, hM.1⟩)
    have e1 : r.y = s.y := by omega
    have e2 : r.x0 = s.x0 := by omega
    have l1 := hL.1
    have m1 := hM.1
    have e3 : r.x1 = s.x1 := by
      rcases Int.lt_trichotomy r.x1 s.x1 with hlt | he | hlt
      · have b := (h r.x1 r.y).2 ⟨s, List.mem_cons_self .., by omega, by omega, hlt⟩
        rcases hasR_cons.1 b with b | b
        · omega
        · have := okR_rest hL b; omega
      · exact he
      · have b := (h s.x1 s.y).1 ⟨r, List.mem_cons_self .., by omega, by omega, hlt⟩
        rcases hasR_cons.1 b with b | b
        · omega
        · have := okR_rest hM b; omega
    obtain rfl := Run.ext' e1 e2 e3
    refine congrArg (r :: ·) (okR_ext hL.2.2 hM.2.2 fun x y => ⟨fun hx => ?_, fun hx => ?_⟩)
    · rcases hasR_cons.1 ((h x y).1 (hasR_cons.2 (.inr hx))) with b | b
      · have := okR_rest hL hx; omega
      · exact b
    · rcases hasR_cons.1 ((h x y).2 (hasR_cons.2 (.inr hx))) with b | b
      · have := okR_rest hM hx; omega
      · exact b
/-- All cells lie before a place. -/
def upTo (L : List Run) (y x : Int) : Prop := ∀ r ∈ L, r.y < y ∨ (r.y = y ∧ r.x1 ≤ x)
theorem upTo_mono {L : List Run} {y x y' x' : Int} (h : upTo L y x) (k : y < y' ∨ (y = y' ∧ x ≤ x')) : upTo L y' x' := fun r hr => by
  have := h r hr; omega
/-- Builder.Add. -/
def addR (L : List Run) (y a b : Int) : List Run :=
  if b ≤ a then L else match L.getLast? with
    | some r => if r.y = y ∧ a ≤ r.x1 then L.dropLast ++ [⟨y, r.x0, max r.x1 b⟩] else L ++ [⟨y, a, b⟩]
    | none => [⟨y, a, b⟩]
theorem addR_no {L : List Run} {y a b : Int} (h : b ≤ a) : addR L y a b = L := by simp [addR, h]
theorem addR_nil {y a b : Int} (h : ¬ b ≤ a) : addR [] y a b = [⟨y, a, b⟩] := by simp [addR, h]
theorem addR_join {L : List Run} {r : Run} {y a b : Int} (h : ¬ b ≤ a) (h1 : r.y = y) (h2 : a ≤ r.x1) : addR (L ++ [r]) y a b = L ++ [⟨y, r.x0, max r.x1 b⟩] := by simp [addR, h, h1, h2]
theorem addR_new {L : List Run} {r : Run} {y a b : Int} (h : ¬ b ≤ a) (h1 : ¬ (r.y = y ∧ a ≤ r.x1)) : addR (L ++ [r]) y a b = L ++ [r] ++ [⟨y, a, b⟩] := by
  unfold addR
  rw [if_neg h]
  have e : (L ++ [r]).getLast? = some r := by simp
  rw [e]
  simp only [if_neg h1]
theorem last_or (L : List Run) : L = [] ∨ ∃ K r, L = K ++ [r] := by
  rcases List.eq_nil_or_concat L with h | ⟨K, r, h⟩
  · exact .inl h
  · exact .inr ⟨K, r, by simpa using h⟩
theorem addR_ok {L : List Run} {y a b : Int} (h : okR L) (hu : upTo L y a) :
    okR (addR L y a b) ∧ (a < b → upTo (addR L y a b) y b) ∧ (∀ u v, hasR (addR L y a b) u v ↔ hasR L u v ∨ (v = y ∧ a ≤ u ∧ u < b)) := by
  by_cases hb : b ≤ a
  · rw [addR_no hb]
    refine ⟨h, fun h' => by omega, fun u v => ⟨.inl, ?_⟩⟩
    rintro (h' | h')
    · exact h'
    · omega
  · rcases last_or L with rfl | ⟨K, r, rfl⟩
    · rw [addR_nil hb]
      refine ⟨by simp [okR]; omega, fun _ s hs => ?_, fun u v => ?_⟩
      · simp at hs; subst hs; simp
      · rw [hasR_one]; simp only [hasR_nil, false_or]; omega
    · have hr := hu r (by simp)
      obtain ⟨o1, o2, o3⟩ := okR_append.1 h
      by_cases hj : r.y = y ∧ a ≤ r.x1
      · rw [addR_join hb hj.1 hj.2]
        have hm : max r.x1 b = b := by omega
        rw [hm]
        refine ⟨okR_append.2 ⟨o1, ?_, fun q hq s hs => ?_⟩, fun _ q hq => ?_, fun u v => ?_⟩
        · simp [okR] at o2 ⊢; omega
        · simp at hs; subst hs
          have := o3 q hq r (by simp)
          simp only; omega
        · rcases List.mem_append.1 hq with hq | hq
          · have := o3 q hq r (by simp)
            have := hu q (by simp [hq])
            omega
          · simp at hq; subst hq; simp
        · rw [hasR_append, hasR_append, hasR_one, hasR_one]
          have o4 := o2.1
          simp only
          constructor
          · rintro (h1 | h1)
            · exact .inl (.inl h1)
            · by_cases hx : u < r.x1
              · exact .inl (.inr (by omega))
              · exact .inr (by omega)
          · rintro ((h1 | h1) | h1)
            · exact .inl h1
            · exact .inr (by omega)
            · exact .inr (by omega)
      · rw [addR_new hb hj]
        refine ⟨okR_append.2 ⟨h, by simp [okR]; omega, fun q hq s hs => ?_⟩, fun _ q hq => ?_, fun u v => ?_⟩
        · simp at hs; subst hs
          simp only
          have hq' := hu q hq
          rcases List.mem_append.1 hq with hq | hq
          · have := o3 q hq r (by simp)
            have := o2.1
            omega
          · simp at hq; subst hq
            omega
        · rcases List.mem_append.1 hq with hq | hq
          · have := hu q hq; omega
          · simp at hq; subst hq; simp
        · rw [hasR_append (l := [⟨y, a, b⟩]), hasR_one]
          simp only
          constructor
          · rintro (h1 | h1)
            · exact .inl h1
            · exact .inr (by omega)
          · rintro (h1 | h1)
            · exact .inl h1
            · exact .inr (by omega)

/-! ### Runs in memory as a list -/
def runsL (rs : Nat → Run) (n : Nat) : List Run := (List.range n).map rs
theorem runsL_succ (rs : Nat → Run) (n : Nat) : runsL rs (n + 1) = runsL rs n ++ [rs n] := by
  unfold runsL; rw [List.range_succ, List.map_append]; rfl
theorem mem_runsL {rs : Nat → Run} {n : Nat} {r : Run} : r ∈ runsL rs n ↔ ∃ i, i < n ∧ rs i = r := by simp [runsL]
theorem hasR_runs {rs : Nat → Run} {n : Nat} {x y : Int} : hasR (runsL rs n) x y ↔ ∃ i, i < n ∧ (rs i).y = y ∧ (rs i).x0 ≤ x ∧ x < (rs i).x1 := by
  unfold hasR
  constructor
  · rintro ⟨r, hr, h⟩
    obtain ⟨i, hi, rfl⟩ := mem_runsL.1 hr
    exact ⟨i, hi, h⟩
  · rintro ⟨i, hi, h⟩
    exact ⟨_, mem_runsL.2 ⟨i, hi, rfl⟩, h⟩
/-- What a valid region is. -/
structure Valid (rs : Nat → Run) (n : Nat) : Prop where
  bd : ∀ i, i < n → (-8192 ≤ (rs i).y ∧ (rs i).y ≤ 8191) ∧ (-8192 ≤ (rs i).x0 ∧ (rs i).x0 < (rs i).x1 ∧ (rs i).x1 ≤ 8192)
  lt : ∀ i j, i < j → j < n → (rs i).y < (rs j).y ∨ ((rs i).y = (rs j).y ∧ (rs i).x1 < (rs j).x0)
theorem regV_all {rs : Nat → Run} : ∀ {n : Nat}, regV rs n = 0 → ∀ k, k < n → runErr rs k = 0
  | 0, _, k, hk => by omega
  | n + 1, h, k, hk => by
    unfold regV at h
    split at h
    · rename_i h1; exact (h1 h).elim
    · rename_i h1
      rcases Nat.lt_or_ge k n with h2 | h2
      · exact regV_all (Decidable.not_not.1 h1) k h2
      · have : k = n := by omega
        subst this; exact h
theorem runErr_zero {rs : Nat → Run} {k : Nat} (h : runErr rs k = 0) : ((-8192 ≤ (rs k).y ∧ (rs k).y ≤ 8191) ∧ (-8192 ≤ (rs k).x0 ∧ (rs k).x0 < (rs k).x1 ∧ (rs k).x1 ≤ 8192)) ∧ (0 < k → (rs (k - 1)).y < (rs k).y ∨ ((rs (k - 1)).y = (rs k).y ∧ (rs (k - 1)).x1 < (rs k).x0)) := by
  unfold runErr at h
  split at h
  · omega
  · split at h
    · omega
    · split at h
      · omega
      · refine ⟨by omega, fun hk => by omega⟩
set_option linter.unusedVariables false in
theorem valid_of {rs : Nat → Run} {n : Nat} (h : regV rs n = 0) : Valid rs n := by
  have h1 := fun k hk => runErr_zero (regV_all h k hk)
  refine ⟨fun i hi => (h1 i hi).1, fun i j hij hj => ?_⟩
  induction j with
  | zero => omega
  | succ j ih =>
    have h2 := (h1 (j + 1) hj).2 (by omega)
    simp only [Nat.add_sub_cancel] at h2
    rcases Nat.lt_or_ge i j with h3 | h3
    · have h4 := ih h3 (by omega)
      have h5 := (h1 j (by omega)).1
      omega
    · have : i = j := by omega
      subst this; exact h2
theorem Valid.ok {rs : Nat → Run} : ∀ {n : Nat}, Valid rs n → okR (runsL rs n)
  | 0, _ => trivial
  | n + 1, h => by
    rw [runsL_succ]
    refine okR_append.2 ⟨Valid.ok ⟨fun i hi => h.bd i (by omega), fun i j hij hj => h.lt i j hij (by omega)⟩, ?_, fun r hr s hs => ?_⟩
    · have := (h.bd n (by omega)).2
      simp [okR]; omega
    · simp at hs; subst hs
      obtain ⟨i, hi, rfl⟩ := mem_runsL.1 hr
      exact h.lt i n hi (by omega)

/-! ### The edges of a region -/
/-- Places in the order of rows. -/
def lexLe (y x y' x' : Int) : Prop := y < y' ∨ (y = y' ∧ x ≤ x')
def lexLt (y x y' x' : Int) : Prop := y < y' ∨ (y = y' ∧ x < x')
instance {y x y' x'} : Decidable (lexLe y x y' x') := by unfold lexLe; infer_instance
instance {y x y' x'} : Decidable (lexLt y x y' x') := by unfold lexLt; infer_instance
def eY (rs : Nat → Run) (i : Nat) : Int := (rs (i / 2)).y
def eX (rs : Nat → Run) (i : Nat) : Int := if i % 2 = 0 then (rs (i / 2)).x0 else (rs (i / 2)).x1
theorem edge_lt {rs : Nat → Run} {n : Nat} (h : Valid rs n) {i j : Nat} (hij : i < j) (hj : j < 2 * n) : lexLt (eY rs i) (eX rs i) (eY rs j) (eX rs j) := by
  unfold lexLt eY eX
  have b1 := h.bd (i / 2) (by omega)
  have b2 := h.bd (j / 2) (by omega)
  rcases Nat.lt_or_ge (i / 2) (j / 2) with h1 | h1
  · have := h.lt (i / 2) (j / 2) h1 (by omega)
    split <;> split <;> omega
  · have e : i / 2 = j / 2 := by omega
    rw [← e]
    have h2 : i % 2 = 0 := by omega
    have h3 : ¬ j % 2 = 0 := by omega
    rw [if_pos h2, if_neg h3]
    omega
/-- Between two edges that follow each other it is known what cells the region has. -/
theorem inside_of {rs : Nat → Run} {n : Nat} (h : Valid rs n) {i : Nat} (hi : i ≤ 2 * n) {x y : Int} (h1 : ∀ k, k < i → lexLe (eY rs k) (eX rs k) y x) (h2 : ∀ k, i ≤ k → k < 2 * n → lexLt y x (eY rs k) (eX rs k)) :
    hasR (runsL rs n) x y ↔ i % 2 = 1 := by
  rw [hasR_runs]
  constructor
  · rintro ⟨q, hq, h3, h4, h5⟩
    have g1 : ¬ i ≤ 2 * q := fun hle => by
      have := h2 (2 * q) hle (by omega)
      unfold lexLt eY eX at this
      rw [show 2 * q / 2 = q by omega, if_pos (by omega)] at this
      omega
    have g2 : ¬ 2 * q + 1 < i := fun hle => by
      have := h1 (2 * q + 1) hle
      unfold lexLe eY eX at this
      rw [show (2 * q + 1) / 2 = q by omega, if_neg (by omega)] at this
      omega
    omega
  · intro ho
    refine ⟨i / 2, by omega, ?_⟩
    have g1 := h1 (i - 1) (by omega)
    have g2 := h2 i (Nat.le_refl _) (by omega)
    unfold lexLe eY eX at g1
    unfold lexLt eY eX at g2
    rw [show (i - 1) / 2 = i / 2 by omega, if_pos (by omega)] at g1
    rw [if_neg (by omega)] at g2
    omega
end Go.Proofs.Ytbkhpddodmbdoaa
