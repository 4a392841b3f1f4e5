/-
  flat.apart: what its rows hold (plain).
-/
import Derived.Test.YtbkhpddodmbdoaaDelO
import Derived.Test.YtbkhpddodmbdoaaPieces
namespace Go.Proofs.Ytbkhpddodmbdoaa
open Go.RowKit
set_option linter.unusedVariables false
set_option linter.unusedSimpArgs false
set_option maxRecDepth 20000
def encQ (e : Run × Int) : List Value := [.int .i64 e.1.y, .int .i64 e.1.x0, .int .i64 e.1.x1, .int .i64 e.2]
theorem encQ_len (e : Run × Int) : (encQ e).length = 4 := rfl
/-- All runs of the first i pieces, with the numbers of these. -/
def allP (p : Nat → PcD) : Nat → List (Run × Int)
  | 0 => []
  | i + 1 => allP p i ++ (p i).L.map fun r => (r, (i : Int))
theorem mem_allP {p : Nat → PcD} {r : Run} {k : Int} : ∀ {n : Nat}, (r, k) ∈ allP p n ↔ ∃ i, i < n ∧ k = (i : Int) ∧ r ∈ (p i).L
  | 0 => by simp [allP]
  | n + 1 => by
    simp only [allP, List.mem_append, mem_allP (n := n), List.mem_map, Prod.mk.injEq]
    constructor
    · rintro (⟨i, h1, h2, h3⟩ | ⟨s, h1, rfl, rfl⟩)
      · exact ⟨i, by omega, h2, h3⟩
      · exact ⟨n, by omega, rfl, h1⟩
    · rintro ⟨i, h1, h2, h3⟩
      by_cases e : i = n
      · subst e; exact .inr ⟨r, h3, rfl, h2.symm⟩
      · exact .inl ⟨i, by omega, h2, h3⟩
theorem allP_len {p : Nat → PcD} {m : Nat} : ∀ {n : Nat}, (∀ i, i < n → (p i).L.length ≤ m) → (allP p n).length ≤ n * m
  | 0, _ => by simp [allP]
  | n + 1, h => by
    have h1 := allP_len (n := n) fun i hi => h i (by omega)
    have h2 := h n (by omega)
    simp only [allP, List.length_append, List.length_map, Nat.add_mul]; omega
theorem ow_ex : ∀ (L : List (Run × Int)), (∀ e ∈ L, (-100000 ≤ e.1.y ∧ e.1.y ≤ 100000) ∧ (-100000 ≤ e.1.x0 ∧ e.1.x0 ≤ 100000) ∧ (0 ≤ e.2 ∧ e.2 ≤ 100000)) → ∃ l : List Ow, l.map (fun o => (o.r, o.p)) = L
  | [], _ => ⟨[], rfl⟩
  | e :: L, h => by
    obtain ⟨l, hl⟩ := ow_ex L fun s hs => h s (by simp [hs])
    have := h e (by simp)
    exact ⟨⟨e.1, e.2, this.1, this.2.1, this.2.2⟩ :: l, by simp [hl]⟩
theorem flat_o (l : List Ow) : (l.map fun o => (o.r, o.p)).flatMap encQ = l.flatMap encO := by rw [List.flatMap_map]; rfl
theorem allP_pw {p : Nat → PcD} : ∀ {n : Nat}, (∀ i, i < n → ValidL (p i).L) → (allP p n).Pairwise fun a b => a.2 = b.2 → ¬ meets a.1 b.1
  | 0, _ => by simp [allP]
  | n + 1, h => by
    rw [allP, List.pairwise_append]
    refine ⟨allP_pw fun i hi => h i (by omega), ?_, ?_⟩
    · rw [List.pairwise_map]
      refine List.pairwise_iff_getElem.2 fun i j hi hj hij _ hm => ?_
      have := okR_lt (h n (by omega)).ok hij (List.getElem?_eq_getElem hi) (List.getElem?_eq_getElem hj)
      obtain ⟨h1, x, h2, h3⟩ := hm
      dsimp only at h1 h2 h3
      omega
    · rintro ⟨r, k⟩ hr ⟨s, j⟩ hs e
      obtain ⟨i, h1, h2, _⟩ := mem_allP.1 hr
      simp only [List.mem_map, Prod.mk.injEq] at hs
      obtain ⟨_, _, _, h3⟩ := hs
      simp only at e; omega
/-! ### The marks -/
def marks (T : List Bool) (q : Int) (l : List Ow) : List Bool := l.foldl (fun T x => T.set (max x.p q).toNat true) T
theorem marks_snoc (T : List Bool) (q : Int) (l : List Ow) (x : Ow) : marks T q (l ++ [x]) = (marks T q l).set (max x.p q).toNat true := by simp [marks]
theorem marks_len (T : List Bool) (q : Int) (l : List Ow) : (marks T q l).length = T.length := by
  unfold marks
  induction l generalizing T with
  | nil => rfl
  | cons a l ih => simp [ih]
theorem marks_get {q : Int} {i : Nat} : ∀ {l : List Ow} {T : List Bool}, i < T.length → ((marks T q l)[i]? = some true ↔ T[i]? = some true ∨ ∃ a ∈ l, (max a.p q).toNat = i)
  | [], T, hi => by simp [marks]
  | a :: l, T, hi => by
    have := marks_get (q := q) (i := i) (l := l) (T := T.set (max a.p q).toNat true) (by simpa using hi)
    have e : marks T q (a :: l) = marks (T.set (max a.p q).toNat true) q l := rfl
    rw [e, this, List.getElem?_set]
    by_cases h : (max a.p q).toNat = i
    · simp [h, hi]
    · simp [h]
def tAll (n : Nat) (S : List Ow) : Nat → List Bool
  | 0 => List.replicate n false
  | b + 1 => match S[b]? with
    | some q => marks (tAll n S b) q.p (liveB S b)
    | none => tAll n S b
theorem tAll_len (n : Nat) (S : List Ow) : ∀ b, (tAll n S b).length = n
  | 0 => by simp [tAll]
  | b + 1 => by
    unfold tAll
    split
    · rw [marks_len, tAll_len n S b]
    · exact tAll_len n S b
theorem tAll_get {n : Nat} {S : List Ow} {i : Nat} (hi : i < n) : ∀ {b : Nat}, b ≤ S.length → ((tAll n S b)[i]? = some true ↔ ∃ c q a, c < b ∧ S[c]? = some q ∧ a ∈ liveB S c ∧ max a.p q.p = (i : Int))
  | 0, _ => by simp [tAll, List.getElem?_replicate, hi]
  | b + 1, hb => by
    have hbl : b < S.length := by omega
    obtain ⟨q, hq⟩ : ∃ q, S[b]? = some q := ⟨_, List.getElem?_eq_getElem hbl⟩
    have ih := tAll_get (S := S) hi (b := b) (by omega)
    have e : tAll n S (b + 1) = marks (tAll n S b) q.p (liveB S b) := by simp [tAll, hq]
    rw [e, marks_get (by rw [tAll_len]; exact hi), ih]
    have hmx : ∀ a : Ow, (max a.p q.p).toNat = i ↔ max a.p q.p = (i : Int) := fun a => by
      have := a.hp; omega
    constructor
    · rintro (⟨c, q', a, h1, h2⟩ | ⟨a, h1, h2⟩)
      · exact ⟨c, q', a, by omega, h2⟩
      · exact ⟨b, q, a, by omega, hq, h1, (hmx a).1 h2⟩
    · rintro ⟨c, q', a, h1, h2, h3, h4⟩
      by_cases e : c = b
      · subst e; rw [hq] at h2; cases h2
        exact .inr ⟨a, h3, (hmx a).2 h4⟩
      · exact .inl ⟨c, q', a, by omega, h2, h3, h4⟩
/-- What the marks say in the end. -/
theorem tAll_end {n : Nat} {p : Nat → PcD} {l S : List Ow} (hl : l.map (fun o => (o.r, o.p)) = allP p n) (hp : S.Perm l) (hs : S.Pairwise leO) (hv : ∀ i, i < n → ValidL (p i).L) {i : Nat} (hi : i < n) :
    (tAll n S S.length)[i]? = some true ↔ ∃ k, k < i ∧ meetL (p k).L (p i).L := by
  have hmem : ∀ {a : Ow}, a ∈ l ↔ (a.r, a.p) ∈ allP p n := fun {a} => by
    rw [← hl, List.mem_map]
    constructor
    · intro h; exact ⟨a, h, rfl⟩
    · rintro ⟨b, h1, h2⟩
      have : b = a := by
        cases a; cases b; simp only [Prod.mk.injEq] at h2; obtain ⟨rfl, rfl⟩ := h2; rfl
      rwa [← this]
  have hpw : l.Pairwise fun a b => a.p = b.p → ¬ meets a.r b.r := by
    have := allP_pw hv
    rw [← hl, List.pairwise_map] at this
    exact this
  have hlt : ∀ a ∈ l, a.r.x0 < a.r.x1 := fun a ha => by
    obtain ⟨k, h1, _, h2⟩ := mem_allP.1 (hmem.1 ha)
    have := (hv k h1).bd h2; omega
  rw [tAll_get hi (Nat.le_refl _)]
  have h0 := sweep hp hs hlt hpw (i : Int)
  have e1 : (∃ c q a, c < S.length ∧ S[c]? = some q ∧ a ∈ liveB S c ∧ max a.p q.p = (i : Int)) ↔ ∃ c q a, S[c]? = some q ∧ a ∈ liveB S c ∧ max a.p q.p = (i : Int) :=
    ⟨fun ⟨c, q, a, _, h⟩ => ⟨c, q, a, h⟩, fun ⟨c, q, a, h⟩ => ⟨c, q, a, (List.getElem?_eq_some_iff.1 h.1).1, h⟩⟩
  rw [e1, h0]
  constructor
  · rintro ⟨a, ha, b, hb, h1, h2, hm⟩
    obtain ⟨k, k1, k2, k3⟩ := mem_allP.1 (hmem.1 ha)
    obtain ⟨j, j1, j2, j3⟩ := mem_allP.1 (hmem.1 hb)
    have : j = i := by omega
    subst this
    obtain ⟨h4, x, h5, h6⟩ := hm
    exact ⟨k, by omega, x, a.r.y, ⟨a.r, k3, rfl, h5⟩, ⟨b.r, j3, h4.symm, h6⟩⟩
  · rintro ⟨k, hk, x, y, ⟨r, hr, r1, r2⟩, ⟨s, hs', s1, s2⟩⟩
    have g1 : (r, (k : Int)) ∈ allP p n := mem_allP.2 ⟨k, by omega, rfl, hr⟩
    have g2 : (s, (i : Int)) ∈ allP p n := mem_allP.2 ⟨i, hi, rfl, hs'⟩
    rw [← hl, List.mem_map] at g1 g2
    obtain ⟨a, a1, a2⟩ := g1
    obtain ⟨b, b1, b2⟩ := g2
    simp only [Prod.mk.injEq] at a2 b2
    refine ⟨a, a1, b, b1, by omega, by omega, ?_, x, ?_, ?_⟩
    · rw [a2.1, b2.1, r1, s1]
    · rw [a2.1]; exact r2
    · rw [b2.1]; exact s2
/-! ### The vectors that were seen -/
def seenL (p : Nat → PcD) : Nat → List (List Value × Value)
  | 0 => []
  | i + 1 => seenL p i ++ [(inkC (p i).I, .int .i64 i)]
theorem eq_ink {I J : Nat → Int} : eqList (inkC I) (inkC J) = true ↔ sameI I J := by
  simp [inkC, eqList, sameI, and_assoc]
theorem atV_append {k : List Value} : ∀ {l m : List (List Value × Value)}, atV? k (l ++ m) = (atV? k l).or (atV? k m)
  | [], m => by simp [atV?]
  | (j, v) :: l, m => by
    simp only [List.cons_append, atV?]
    split
    · simp
    · exact atV_append
theorem seen_none {p : Nat → PcD} {I : Nat → Int} : ∀ {i : Nat}, atV? (inkC I) (seenL p i) = none ↔ ∀ k, k < i → ¬ sameI I (p k).I
  | 0 => by simp [seenL, atV?]
  | i + 1 => by
    rw [seenL, atV_append, Option.or_eq_none_iff, seen_none (i := i)]
    simp only [atV?]
    constructor
    · rintro ⟨h1, h2⟩ k hk hs
      by_cases e : k = i
      · subst e
        rw [if_pos (eq_ink.2 hs)] at h2; cases h2
      · exact h1 k (by omega) hs
    · intro h
      refine ⟨fun k hk => h k (by omega), ?_⟩
      rw [if_neg (fun e => h i (by omega) (eq_ink.1 e))]
theorem sameI_symm {I J : Nat → Int} (h : sameI I J) : sameI J I := by unfold sameI at *; omega
theorem liveB_len (S : List Ow) (b : Nat) : (liveB S b).length ≤ b := by
  unfold liveB
  split
  · exact Nat.le_trans (List.length_filter_le _ _) (List.length_take_le _ _)
  · exact Nat.zero_le _
theorem liveS_next {S : List Ow} {b : Nat} {q : Ow} (hq : S[b]? = some q) : liveS S (b + 1) = liveB S b ++ [q] := by simp [liveS, hq]
theorem liveS_len (S : List Ow) (b : Nat) : (liveS S b).length ≤ b := by
  cases b with
  | zero => simp [liveS]
  | succ b =>
    have := liveB_len S b
    cases hq : S[b]? with
    | none => simp [liveS, hq]
    | some q => rw [liveS_next hq]; simp only [List.length_append, List.length_cons, List.length_nil]; omega
theorem rowS_next {S : List Ow} {b : Nat} {q : Ow} (hq : S[b]? = some q) : rowS S (b + 1) = q.r.y := by simp [rowS, hq]
theorem tAll_next {n : Nat} {S : List Ow} {b : Nat} {q : Ow} (hq : S[b]? = some q) : tAll n S (b + 1) = marks (tAll n S b) q.p (liveB S b) := by simp [tAll, hq]
theorem own_load_take {l : List Ow} {xs : List Value} {m o j : Nat} (hx : xs.take (m * 4) = l.flatMap encO) {x : Ow} (h : l[j]? = some x) (ho : o = j * 4) {K : List Value → Prop} (k : K [.int .i64 x.r.y, .int .i64 x.r.x0, .int .i64 x.r.x1, .int .i64 x.p]) : OwnCells xs o 4 K :=
  OwnCells_list _ rfl (fun i v hj => by
    have hj4 : i < 4 := (List.getElem?_eq_some_iff.1 hj).1
    have h1 := encO_get h i hj4
    rw [← hx, List.getElem?_take] at h1
    subst ho
    split at h1
    · rw [h1]; exact hj
    · have : (encO x)[i]? = some v := hj
      rw [← h1] at this; cases this) k
theorem bools_set (T : List Bool) (o : Nat) (ho : o < T.length) : (T.map Value.bool).take o ++ [Value.bool true] ++ (T.map Value.bool).drop (o + 1) = (T.set o true).map Value.bool := by
  rw [List.map_set, List.set_eq_take_append_cons_drop, if_pos (by simpa using ho)]
  simp
theorem bools_new (n : Nat) : (List.replicate n [Value.bool false]).flatten = (List.replicate n false).map Value.bool := by
  induction n with
  | zero => rfl
  | succ n ih => rw [List.replicate_succ, List.flatten_cons, ih, List.replicate_succ]; rfl
theorem mem_liveB {S : List Ow} {b : Nat} {x : Ow} (h : x ∈ liveB S b) : x ∈ S := by
  unfold liveB at h
  split at h
  · exact List.mem_of_mem_take (List.mem_filter.1 h).1
  · cases h
theorem keyT_inks : KeyT Try.prog 27 8 .u8 := ⟨⟨5, by kernel_rfl, by kernel_rfl, (Try.prog.info? 5).get (by kernel_rfl), by kernel_rfl, by kernel_rfl⟩, by kernel_rfl⟩
theorem map_inks : Try.prog.underlying 83 = some (.map 27 3) := by kernel_rfl
theorem zero_int (w : World) : (zeroValue 3).run Try.prog w = .ok (.int .i64 0) w := by kernel_rfl
theorem kinds_ink (I : Nat → Int) : kindsB (List.replicate 8 (.int .u8)) (inkC I) = true := by rfl
theorem first_cell {L : List Run} (h : L.length ≠ 0) {G : Mem} {A : Option Addr} (hR : RunsM G A L) : ∃ a : Addr, A = some a ∧ ∀ K : List Value → Prop, K [.int .i64 (firstR L).y, .int .i64 (firstR L).x0, .int .i64 (firstR L).x1] → OldCells G (a.add (0 * 3)) 3 K := by
  have h0 : L[0]? = some (firstR L) := by
    unfold firstR nthR
    rw [List.getElem?_eq_getElem (show 0 < L.length by omega)]; rfl
  exact hR.cells h0
end Go.Proofs.Ytbkhpddodmbdoaa
