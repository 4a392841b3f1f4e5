/-
  Merged: XSettle, XRowAt.
-/
import Derived.Test.YtiakdbcikmkomaaMrg11
import Derived.Test.YtiakdbcikmkomaaMrg10
import Derived.Test.YtiakdbcikmkomaaMrg9
import Derived.Test.YtiakdbcikmkomaaMrg8
namespace Go.Proofs.Ytiakdbcikmkomaa
open Go.RowKit
set_option linter.unusedVariables false
set_option linter.unusedSimpArgs false
def updM (f : Int → Option Value) (i : Int) (s : Value) : Int → Option Value := fun k => if k = i then some s else f k
theorem HR.settle {w0 : World} {G0 : Mem} {β : Nm} {hp : List Blk} {G : Mem} {w : World} (hr : HR w0 G0 β hp G w) {q : Nat} {y : Value} {f : Int → Option Value} {i : Int} {s : Value} (hy : β q = some y) (hq : hp[q]? = some (.mp f [i] [.val s])) : HR w0 G0 β (hp.set q (.mp (updM f i s) [] [])) G w := by
  obtain ⟨x, h1, h2⟩ := hr.blk q y hy
  rw [hq] at h1; cases h1
  obtain ⟨b, ys, rfl, q2, q3, ⟨l, q4, q7⟩, q5, q6⟩ := h2
  refine hr.setBlk hy hq rfl (b := b) rfl (w' := w) ⟨rfl, rfl, rfl, Nat.le_refl _, fun _ _ _ => rfl⟩ ⟨b, [], rfl, q2, q3, ⟨l, q4, fun k => ?_⟩, rfl, by simp [AV.rels]⟩
  simp only [AV.rels, AV.rel] at q6
  obtain ⟨z, t, rfl, rfl, rfl⟩ := q6
  rw [q7]
  simp only [List.zip_cons_cons, List.zip_nil_right, List.zip_nil_left, atI?, updM]
  split <;> simp
theorem map_named {β : Nm} {q : Nat} : ∀ {l : List AV} {ys : List Value}, AV.rels β l ys → AV.mpv q ∈ l → ∃ y, β q = some y
  | [], ys, h, hin => by simp at hin
  | a :: l, ys, h, hin => by
    simp only [AV.rels] at h
    obtain ⟨y, t, rfl, h1, h2⟩ := h
    rcases List.mem_cons.1 hin with rfl | hin
    · simp only [AV.rel] at h1
      obtain ⟨v, b, h3, _⟩ := h1
      exact ⟨v, h3⟩
    · exact map_named h2 hin
/-- What is known when a row that grew in a map comes to stand. -/
def SettleP (q k n : Nat) (i : Int) (f : Int → Option Value) (xs : List Value) (fr : List AV) (hp : List Blk) (G : Mem) (K : List AV → List Blk → Mem → Prop) : Prop :=
  ∀ A cap G', G.le G' → n ≤ cap → cap ≤ maxLen → FlatM G' A xs → plugsF k (.slice A n cap) fr fun fr' => plugBF k (.slice A n cap) hp fun hp1 => setF hp1 k .gone fun hp2 => setF hp2 q (.mp (updM f i (.slice A n cap)) [] []) fun hp3 => K fr' hp3 G'
theorem settle_ok {w0 : World} {G0 : Mem} {β : Nm} {hp : List Blk} {G : Mem} {w : World} {fr : List AV} {a : Act} {K : List AV → List Blk → Mem → Prop} {c q k n sz : Nat} {E t : TypeId} {i : Int} {f : Int → Option Value} {xs : List Value}
    (hr : HR w0 G0 β hp G w) (hf : AV.rels β fr a.tmps.toList) (hq : nthB hp q = .mp f [i] [.own k]) (hk : nthB hp k = .own E sz n xs) (hyq : ∃ y, β q = some y) (h : SettleP q k n i f xs fr hp G K) :
    ∃ fr' hp' G', HR w0 G0 β hp' G' w ∧ AV.rels β fr' a.tmps.toList ∧ K fr' hp' G' := by
  obtain ⟨y, hy⟩ := hyq
  have hqx := nthB_live hq rfl
  obtain ⟨x, h1, h2⟩ := hr.blk q y hy
  rw [hqx] at h1; cases h1
  obtain ⟨b, ys, rfl, q2, q3, _, q5, q6⟩ := h2
  obtain ⟨v, hv⟩ : ∃ v, β k = some v := by
    simp only [AV.rels, AV.rel] at q6
    obtain ⟨z, t, rfl, h3, _⟩ := q6
    exact ⟨_, h3.1⟩
  obtain ⟨A, cap, G', rfl, hle, hn, hm, hF, hr'⟩ := hr.freeze hv hk
  have h3 := h A cap G' hle hn hm hF
  rw [plugsF_eq, plugBF_eq, setF_eq, setF_eq] at h3
  have hr2 := hr'.plug hv
  have e : (hp.set k .gone).map (Blk.plug k (.slice A n cap)) = (hp.map (Blk.plug k (.slice A n cap))).set k .gone := by
    rw [List.map_set]; rfl
  rw [e] at hr2
  have hkq : k ≠ q := fun e => by subst e; rw [hk] at hq; cases hq
  refine ⟨_, _, G', hr2.settle hy (s := .slice A n cap) (i := i) (f := f) ?_, plugs_rel hv hf, h3⟩
  rw [List.getElem?_set_ne hkq, List.getElem?_map, hqx]
  show some (Blk.mp f [i] (plugs k (.slice A n cap) [.own k])) = _
  simp [plugs, AV.plug]
theorem cell_map {w0 : World} {G0 : Mem} {β : Nm} {hp : List Blk} {G : Mem} {w : World} (hr : HR w0 G0 β hp G w) {c q : Nat} {t : TypeId} {l : List AV} {fr : List AV} {ys : List Value} (hc : nthB hp c = .cells t l) (hin : AV.mpv q ∈ l) (hn : ∃ y, β c = some y) : ∃ y, β q = some y := by
  obtain ⟨y, hy⟩ := hn
  obtain ⟨x, h1, h2⟩ := hr.blk c y hy
  rw [nthB_live hc rfl] at h1; cases h1
  obtain ⟨b, cs, _, _, _, _, q5⟩ := h2
  exact map_named q5 hin
theorem ptr_named {β : Nm} {c : Nat} {o : Nat} : ∀ {l : List AV} {ys : List Value}, AV.rels β l ys → AV.ptr c o ∈ l → ∃ y, β c = some y
  | [], ys, h, hin => by simp at hin
  | a :: l, ys, h, hin => by
    simp only [AV.rels] at h
    obtain ⟨y, t, rfl, h1, h2⟩ := h
    rcases List.mem_cons.1 hin with rfl | hin
    · simp only [AV.rel] at h1
      obtain ⟨v, b, h3, _⟩ := h1
      exact ⟨v, h3⟩
    · exact ptr_named h2 hin
/-- (c: the block of the variable that holds the map; the frame's slot d points to it.) -/
theorem LoopP_settle {P : Program} (c q k d : Nat) {n0 : Nat} {b : Code} {fr : List AV} {hp : List Blk} {G : Mem} {Q : Post} {E t : TypeId} {sz n : Nat} {i : Int} {f : Int → Option Value} {xs : List Value}
    (hd : fr[d]? = some (.ptr c 0)) (hc : nthB hp c = .cells t [.mpv q]) (hq : nthB hp q = .mp f [i] [.own k]) (hk : nthB hp k = .own E sz n xs) (h : SettleP q k n i f xs fr hp G fun fr' hp' G' => LoopP P n0 b fr' hp' G' Q) : LoopP P n0 b fr hp G Q := by
  refine ⟨fun w0 G0 ds β0 β a w m ro hfit h0 h1 hr hf hd' bf kk cs hro => ?_⟩
  obtain ⟨fr', hp', G', h2, h3, h4⟩ := settle_ok (t := t) (c := c) hr hf hq hk (cell_map (fr := fr) (ys := []) hr hc (by simp) (ptr_named hf (List.mem_of_getElem? hd))) h
  exact h4.out w0 G0 ds β0 β a w m ro hfit h0 h1 h2 h3 hd' bf kk cs hro
theorem RangeP_settle {P : Program} (c q k d : Nat) {n0 : Nat} {g : Operand} {ps : Array Tmp} {ca b : Code} {fr : List AV} {hp : List Blk} {G : Mem} {Q : Post} {E t : TypeId} {sz n : Nat} {i : Int} {f : Int → Option Value} {xs : List Value}
    (hd : fr[d]? = some (.ptr c 0)) (hc : nthB hp c = .cells t [.mpv q]) (hq : nthB hp q = .mp f [i] [.own k]) (hk : nthB hp k = .own E sz n xs) (h : SettleP q k n i f xs fr hp G fun fr' hp' G' => RangeP P n0 g ps ca b fr' hp' G' Q) : RangeP P n0 g ps ca b fr hp G Q := by
  refine ⟨fun w0 G0 ds β0 β a w h0 h1 hr hf hd' => ?_⟩
  obtain ⟨fr', hp', G', h2, h3, h4⟩ := settle_ok (t := t) (c := c) hr hf hq hk (cell_map (fr := fr) (ys := []) hr hc (by simp) (ptr_named hf (List.mem_of_getElem? hd))) h
  exact h4.out w0 G0 ds β0 β a w h0 h1 h2 h3 hd'
/-- A place that is not used. -/
theorem Le_pad {n0 : Nat} {fr fr' : List AV} {hp hp' : List Blk} {G G' : Mem} (h : catF hp [.gone] fun hq => Le n0 fr hq G fr' hp' G') : Le n0 fr hp G fr' hp' G' := by
  rw [catF_eq] at h
  refine ⟨fun w0 G0 β0 β w ys h0 h1 hr hf => h.out w0 G0 β0 β w ys h0 h1 ⟨hr.below, hr.hold, hr.sub, hr.grow, fun k y hk => ?_, fun k k' y y' x x' b hne hk hk' hx hx' hl hl' hb => ?_⟩ hf⟩
  · obtain ⟨x, h2, h3⟩ := hr.blk k y hk
    exact ⟨x, by rw [List.getElem?_append_left (List.getElem?_eq_some_iff.1 h2).1]; exact h2, h3⟩
  · obtain ⟨z, h2, _⟩ := hr.blk k y hk
    obtain ⟨z', h2', _⟩ := hr.blk k' y' hk'
    rw [List.getElem?_append_left (List.getElem?_eq_some_iff.1 h2).1] at hx
    rw [List.getElem?_append_left (List.getElem?_eq_some_iff.1 h2').1] at hx'
    exact hr.inj k k' y y' x x' b hne hk hk' hx hx' hl hl' hb
/-- A row takes a new name. -/
theorem Le_up (q : Nat) {n0 : Nat} {fr fr' : List AV} {hp hp' : List Blk} {G G' : Mem} (hq : Nat.blt q hp.length = true)
    (h : lenF hp fun n => mvsF q n fr fun fr1 => mvBF q n hp fun hp1 => forceB (nthB hp1 q) fun x => setF hp1 q .gone fun hp2 => catF hp2 [x] fun hp3 => Le n0 fr1 hp3 G fr' hp' G') : Le n0 fr hp G fr' hp' G' := by
  have h0 := lenF_eq h
  rw [mvsF_eq, mvBF_eq, forceB_eq, setF_eq, catF_eq, mvB_eq] at h0
  have hql := lt_of_blt hq
  have hqn : q ≠ hp.length := by omega
  refine ⟨fun w0 G0 β0 β w ys hb hle hr hfr => ?_⟩
  have hβn : β hp.length = none := hr.fresh (Nat.le_refl _)
  obtain ⟨β', hβ'⟩ : ∃ β' : Nm, β' = fun j => if j = hp.length then β q else β j := ⟨_, rfl⟩
  have hmv : (β.mv q hp.length).le β' := fun j v hj => by
    rw [hβ']
    simp only [Nm.mv] at hj
    by_cases e : j = hp.length
    · rw [if_pos e] at hj; simp only [if_pos e]; exact hj
    · rw [if_neg e] at hj
      simp only [if_neg e]
      split at hj
      · cases hj
      · exact hj
  have hup : β.le β' := fun j v hj => by
    rw [hβ']
    have e : j ≠ hp.length := fun e => by rw [e, hβn] at hj; cases hj
    simp only [if_neg e]; exact hj
  have get : ∀ (j : Nat) (x : Blk), ((hp.map (·.mv q hp.length)).set q .gone ++ [nthB (hp.map (·.mv q hp.length)) q])[j]? = some x → (j = q ∧ x = .gone) ∨ (j = hp.length ∧ ∃ x', hp[q]? = some x' ∧ x = x'.mv q hp.length) ∨ (j ≠ q ∧ j ≠ hp.length ∧ ∃ x', hp[j]? = some x' ∧ x = x'.mv q hp.length) := by
    intro j x hx
    rcases Nat.lt_trichotomy j hp.length with h1 | h1 | h1
    · rw [List.getElem?_append_left (by simpa using h1)] at hx
      by_cases e : j = q
      · subst e
        rw [List.getElem?_set_self (by simpa using h1)] at hx
        cases hx; exact .inl ⟨rfl, rfl⟩
      · rw [List.getElem?_set_ne (fun h => e h.symm), List.getElem?_map] at hx
        cases hz : hp[j]? with
        | none => rw [hz] at hx; cases hx
        | some z => rw [hz] at hx; cases hx; exact .inr (.inr ⟨e, by omega, z, rfl, rfl⟩)
    · subst h1
      rw [List.getElem?_append_right (by simp)] at hx
      simp at hx
      refine .inr (.inl ⟨rfl, ?_⟩)
      have hz : hp[q]? = some hp[q] := List.getElem?_eq_getElem hql
      refine ⟨hp[q], hz, ?_⟩
      rw [← hx, nthB_eq, List.getElem?_map, hz]; rfl
    · rw [List.getElem?_eq_none (by simp; omega)] at hx; cases hx
  have back : ∀ (j : Nat) (y : Value) (x : Blk), β' j = some y → ((hp.map (·.mv q hp.length)).set q .gone ++ [nthB (hp.map (·.mv q hp.length)) q])[j]? = some x → x.live = true → j ≠ q ∧ ∃ x', β (if j = hp.length then q else j) = some y ∧ hp[if j = hp.length then q else j]? = some x' ∧ x'.live = true := by
    intro j y x hj hx hl
    rcases get j x hx with ⟨e, rfl⟩ | ⟨e, x', h1, rfl⟩ | ⟨e, e2, x', h1, rfl⟩
    · cases hl
    · refine ⟨by omega, x', ?_, by rw [if_pos e]; exact h1, by rw [Blk.mv_live] at hl; exact hl⟩
      rw [hβ'] at hj
      simp only [if_pos e] at hj ⊢
      exact hj
    · refine ⟨e, x', ?_, by rw [if_neg e2]; exact h1, by rw [Blk.mv_live] at hl; exact hl⟩
      rw [hβ'] at hj
      simp only [if_neg e2] at hj ⊢
      exact hj
  refine h0.out w0 G0 β0 β' w ys hb (Nm.le_trans hle hup) ⟨hr.below, hr.hold, hr.sub, hr.grow, fun j y hj => ?_, fun j j' y y' x x' b hne hj hj' hx hx' hl hl' hb => ?_⟩ (AV.rels_mono hmv _ _ (AV.rels_mv hqn _ _ hfr))
  · by_cases e : j = hp.length
    · have hj2 : β q = some y := by rw [hβ'] at hj; simpa only [if_pos e] using hj
      obtain ⟨x, h1, h2⟩ := hr.blk q y hj2
      refine ⟨x.mv q hp.length, ?_, Blk.rel_of hmv (Blk.mv_rel hqn h2) (fun b _ => ⟨rfl, id⟩)⟩
      rw [e, List.getElem?_append_right (by simp)]
      simp [nthB_eq, h1]
    · have hj2 : β j = some y := by rw [hβ'] at hj; simpa only [if_neg e] using hj
      obtain ⟨x, h1, h2⟩ := hr.blk j y hj2
      have hjl := (List.getElem?_eq_some_iff.1 h1).1
      by_cases e2 : j = q
      · subst e2
        exact ⟨.gone, by rw [List.getElem?_append_left (by simpa using hjl), List.getElem?_set_self (by simpa using hjl)], trivial⟩
      · refine ⟨x.mv q hp.length, ?_, Blk.rel_of hmv (Blk.mv_rel hqn h2) (fun b _ => ⟨rfl, id⟩)⟩
        rw [List.getElem?_append_left (by simpa using hjl), List.getElem?_set_ne (fun h => e2 h.symm), List.getElem?_map, h1]; rfl
  · obtain ⟨n1, z, g1, g2, g3⟩ := back j y x hj hx hl
    obtain ⟨n2, z', g1', g2', g3'⟩ := back j' y' x' hj' hx' hl'
    refine hr.inj _ _ y y' z z' b (fun e => ?_) g1 g1' g2 g2' g3 g3' hb
    split at e <;> split at e <;> omega
end Go.Proofs.Ytiakdbcikmkomaa

namespace Go.Proofs.Ytiakdbcikmkomaa
open Go.RowKit
set_option linter.unusedVariables false
/-- A row of a region: the runs from i to k. -/
structure RowAt (L : List Run) (i k : Nat) (y : Int) : Prop where
  lt : i < k
  le : k ≤ L.length
  same : ∀ t r, i ≤ t → t < k → L[t]? = some r → r.y = y
  next : ∀ r, L[k]? = some r → y < r.y
theorem row_at {L : List Run} (v : ValidL L) {i : Nat} {r : Run} (hr : L[i]? = some r) : ∃ k, RowAt L i k r.y := by
  have hlt := (List.getElem?_eq_some_iff.1 hr).1
  have key : ∀ (n k : Nat), n = L.length - k → i < k → k ≤ L.length → (∀ t q, i ≤ t → t < k → L[t]? = some q → q.y = r.y) → ∃ k, RowAt L i k r.y := by
    intro n
    induction n with
    | zero => intro k hn h1 h2 h3; exact ⟨k, h1, h2, h3, fun q hq => by have := (List.getElem?_eq_some_iff.1 hq).1; omega⟩
    | succ n ih =>
      intro k hn h1 h2 h3
      obtain ⟨q, hq⟩ : ∃ q, L[k]? = some q := ⟨L[k]'(by omega), List.getElem?_eq_getElem (by omega)⟩
      have h4 := okR_lt v.ok h1 hr hq
      by_cases h5 : q.y = r.y
      · refine ih (k + 1) (by omega) (by omega) (by omega) fun t u ht ht' hu => ?_
        by_cases h6 : t = k
        · subst h6; rw [hq] at hu; cases hu; exact h5
        · exact h3 t u ht (by omega) hu
      · exact ⟨k, h1, h2, h3, fun u hu => by rw [hq] at hu; cases hu; omega⟩
  exact key _ (i + 1) rfl (by omega) (by omega) fun t q h1 h2 hq => by
    obtain rfl : t = i := by omega
    rw [hr] at hq; cases hq; rfl
theorem RowAt.edge {L : List Run} {i t : Nat} {y : Int} (h : RowAt L i t y) {q u : Run} (hq : L[t - 1]? = some q) (hu : L[t]? = some u) : q.y < u.y := by
  have := h.lt
  rw [h.same (t - 1) q (by omega) (by omega) hq]
  exact h.next u hu
theorem runs_sub {G : Mem} {p : Addr} {L : List Run} (h : RunsM G (some p) L) (i n : Nat) : RunsM G (some (p.add (i * 3))) ((L.drop i).take n) := by
  intro j r hj
  have hj' : L[i + j]? = some r := by
    rw [List.getElem?_take] at hj
    split at hj
    · rwa [List.getElem?_drop] at hj
    · cases hj
  obtain ⟨b, off, hp, c0, c1, c2⟩ := h (i + j) r hj'
  cases hp
  refine ⟨b, off + i * 3, by rw [addr_add], ?_, ?_, ?_⟩
  · rw [show off + i * 3 + j * 3 = off + (i + j) * 3 by omega]; exact c0
  · rw [show off + i * 3 + j * 3 = off + (i + j) * 3 by omega]; exact c1
  · rw [show off + i * 3 + j * 3 = off + (i + j) * 3 by omega]; exact c2
def narR (w : Int) (r : Run) : Option Run := if r.x0 + w < r.x1 - w then some ⟨r.y, r.x0 + w, r.x1 - w⟩ else none
/-- A row's runs, narrowed. -/
def narY (w : Int) (L : List Run) (y : Int) : List Run := (L.filter fun r => decide (r.y = y)).filterMap (narR w)
theorem narY_app (w : Int) (K L : List Run) (y : Int) : narY w (K ++ L) y = narY w K y ++ narY w L y := by simp [narY, List.filter_append, List.filterMap_append]
theorem narY_one (w : Int) (r : Run) (y : Int) : narY w [r] y = if r.y = y then (if r.x0 + w < r.x1 - w then [⟨r.y, r.x0 + w, r.x1 - w⟩] else []) else [] := by
  by_cases h : r.y = y
  · rw [if_pos h]
    by_cases h2 : r.x0 + w < r.x1 - w
    · rw [if_pos h2]; simp [narY, h, narR, h2]
    · rw [if_neg h2]; simp [narY, h, narR, h2]
  · rw [if_neg h]; simp [narY, h]
theorem narY_next {w : Int} {L : List Run} {x : Nat} {r : Run} (h : L[x]? = some r) (y : Int) : narY w (L.take (x + 1)) y = narY w (L.take x) y ++ narY w [r] y := by
  rw [← narY_app, List.take_add_one, h]; rfl
theorem narY_len (w : Int) (L : List Run) (y : Int) : (narY w L y).length ≤ L.length := by
  unfold narY
  exact Nat.le_trans (List.length_filterMap_le _ _) (List.length_filter_le _ _)
theorem narY_none {w : Int} {L : List Run} {y : Int} (h : ∀ r ∈ L, r.y ≠ y) : narY w L y = [] := by
  unfold narY
  rw [List.filter_eq_nil_iff.2 fun r hr => by simpa using h r hr]; rfl
theorem narY_row {w : Int} {L : List Run} {i k : Nat} {y0 y : Int} (h : RowAt L i k y0) (hne : y ≠ y0) : narY w (L.take k) y = narY w (L.take i) y := by
  have h1 := h.lt
  have e : L.take k = L.take i ++ (L.drop i).take (k - i) := by rw [show k = i + (k - i) by omega, List.take_add, show i + (k - i) - i = k - i by omega]
  rw [e, narY_app, narY_none (L := (L.drop i).take (k - i)), List.append_nil]
  intro r hr
  obtain ⟨j, hj⟩ := List.getElem?_of_mem hr
  rw [List.getElem?_take] at hj
  split at hj
  · rw [List.getElem?_drop] at hj
    rw [h.same (i + j) r (by omega) (by omega) hj]
    exact fun h => hne h.symm
  · cases hj
theorem narY_new {w : Int} {L : List Run} (v : ValidL L) {i : Nat} {y0 : Int} (h : ∀ r q, 0 < i → L[i - 1]? = some r → L[i]? = some q → r.y < q.y) {q : Run} (hq : L[i]? = some q) : narY w (L.take i) q.y = [] := by
  refine narY_none fun r hr => ?_
  obtain ⟨j, hj⟩ := List.getElem?_of_mem hr
  rw [List.getElem?_take] at hj
  split at hj
  · rename_i hji
    obtain ⟨u, hu⟩ : ∃ u, L[i - 1]? = some u := ⟨L[i - 1]'(by have := (List.getElem?_eq_some_iff.1 hq).1; omega), List.getElem?_eq_getElem _⟩
    have h1 := h u q (by omega) hu hq
    by_cases h2 : j = i - 1
    · subst h2; rw [hj] at hu; cases hu; omega
    · have := okR_lt v.ok (show j < i - 1 by omega) hj hu
      omega
  · cases hj
/-- What a map has of a row: nothing, or a row that stands. -/
def RowF (G : Mem) (q : Option Value) (l : List Run) : Prop := (l = [] ∧ q = none) ∨ (l ≠ [] ∧ ∃ A cap, q = some (.slice A l.length cap) ∧ RunsM G A l ∧ l.length ≤ cap ∧ cap ≤ maxLen)
theorem RowF.mono {G G' : Mem} {q : Option Value} {l : List Run} (h : RowF G q l) (hle : G.le G') : RowF G' q l := by
  rcases h with h | ⟨h0, A, cap, h1, h2, h3⟩
  · exact .inl h
  · exact .inr ⟨h0, A, cap, h1, h2.mono hle, h3⟩
/-- The map's rows, when the runs ahead of i are in; hot: the row that was last put in. -/
def RowsM (w : Int) (L : List Run) (G : Mem) (f : Int → Option Value) (hot : Option (Int × List Run)) (i : Nat) : Prop :=
  (∀ y, (∀ l, hot ≠ some (y, l)) → RowF G (f y) (narY w (L.take i) y)) ∧ ∀ y l, hot = some (y, l) → l = narY w (L.take i) y ∧ l ≠ []
theorem RowsM.mono {w : Int} {L : List Run} {G G' : Mem} {f : Int → Option Value} {hot : Option (Int × List Run)} {i : Nat} (h : RowsM w L G f hot i) (hle : G.le G') : RowsM w L G' f hot i :=
  ⟨fun y hy => (h.1 y hy).mono hle, h.2⟩
theorem RowsM.settle {w : Int} {L : List Run} {G G' : Mem} {f : Int → Option Value} {y0 : Int} {l0 : List Run} {i : Nat} (h : RowsM w L G f (some (y0, l0)) i) (hle : G.le G') {A : Option Addr} {cap : Nat} (hc : l0.length ≤ cap) (hm : cap ≤ maxLen) (hF : FlatM G' A (flatR l0)) :
    RowsM w L G' (updM f y0 (.slice A l0.length cap)) none i := by
  refine ⟨fun y _ => ?_, fun y l h => by cases h⟩
  obtain ⟨h1, h2⟩ := h.2 y0 l0 rfl
  unfold updM
  by_cases e : y = y0
  · subst e
    rw [if_pos rfl, ← h1]
    refine .inr ⟨h2, A, cap, rfl, ?_, hc, hm⟩
    intro j r hr
    obtain ⟨f0, f1, f2⟩ := flatR_get hr
    rcases hF with ⟨_, h⟩ | ⟨b, off, hA, h⟩
    · rw [h] at f0; simp at f0
    · exact ⟨b, off, hA, h _ _ f0, by rw [Nat.add_assoc]; exact h _ _ f1, by rw [Nat.add_assoc]; exact h _ _ f2⟩
  · rw [if_neg e]
    exact (h.1 y fun l hl => e (by cases hl; rfl)).mono hle
theorem RowsM.next {w : Int} {L : List Run} {G : Mem} {f : Int → Option Value} {i k : Nat} {y0 : Int} (h : RowsM w L G f none i) (hK : RowAt L i k y0) {l : List Run} (hl : narY w (L.take k) y0 = l) (hne : l ≠ []) : RowsM w L G f (some (y0, l)) k := by
  refine ⟨fun y hy => ?_, fun y l' h => by cases h; exact ⟨hl.symm, hne⟩⟩
  have e : y ≠ y0 := fun e => hy l (by rw [e])
  rw [narY_row hK e]
  exact h.1 y fun l hl => by cases hl
theorem RowsM.skip {w : Int} {L : List Run} {G : Mem} {f : Int → Option Value} {i k : Nat} {y0 : Int} (h : RowsM w L G f none i) (hK : RowAt L i k y0) (hi : narY w (L.take i) y0 = []) (hl : narY w (L.take k) y0 = []) : RowsM w L G f none k := by
  refine ⟨fun y hy => ?_, fun y l' h => by cases h⟩
  by_cases e : y = y0
  · subst e
    rw [hl]
    have := h.1 y fun l hl => by cases hl
    rwa [hi] at this
  · rw [narY_row hK e]
    exact h.1 y fun l hl => by cases hl
end Go.Proofs.Ytiakdbcikmkomaa
