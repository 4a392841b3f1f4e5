/-
  The engine: a region that draws its order: the theorem. No program in sight.
-/
import Derived.Test.YtampdegpfndggaaEr
namespace Go.Proofs.Ytampdegpfndggaa
open Go.RowKit
set_option linter.unusedVariables false
set_option linter.unusedSimpArgs false
set_option linter.unnecessarySimpa false

theorem getD_set_same {l : Array Bool} {i : Nat} (h : i < l.size) (b d : Bool) : (l.setIfInBounds i b).getD i d = b := by simp [Array.getD, h]
theorem getD_set_other {l : Array Bool} {i j : Nat} (h : i ≠ j) (b d : Bool) : (l.setIfInBounds i b).getD j d = l.getD j d := by
  rw [Array.getD_eq_getD_getElem?, Array.getD_eq_getD_getElem?, Array.getElem?_setIfInBounds_ne h]
theorem getD_any {l : Array Bool} {i : Nat} (h : i < l.size) : l.getD i true = l.getD i false := by simp [Array.getD, h]
section
variable {P : Program} {T : Tab} {ops : List Oper} {N : Nat} {w0 : World} {G0 : Mem} {β0 : Nm} {Q : Exit → Act → World → Prop} {K : List AV → List Blk → Mem → Prop}
theorem ready_none {listed : Array Bool} (h : ∀ i, i < ops.length → listed.getD i true = true) : Region.ready .any ops.toArray listed = [] := by
  rw [List.eq_nil_iff_forall_not_mem]
  intro i hi
  obtain ⟨h1, o, h2, _⟩ := mem_ready.1 hi
  have hlt : i < ops.length := by
    have := (Array.getElem?_eq_some_iff.1 h2).1; simpa using this
  rw [h i hlt] at h1; cases h1
theorem ready_some (hok : DrawOk ops N) {listed : Array Bool} (hs : listed.size = ops.length) (h : unl listed ops.length ≠ 0) : Region.ready .any ops.toArray listed ≠ [] := by
  obtain ⟨i, h1, h2, h3⟩ := unl_pos _ h
  have ho : ops[i]? = some ops[i] := List.getElem?_eq_getElem h1
  have : i ∈ Region.ready .any ops.toArray listed := mem_ready.2 ⟨h2, ops[i], by simpa using ho, fun e he hb => by
    have h4 := hok.edge i _ ho e he hb
    rw [← getD_any (by omega)]; exact h3 _ h4⟩
  intro hnil
  rw [hnil] at this; cases this
theorem waits_listed {L : Nat → Prop} (hcl : ∀ (i : Nat) o, ops[i]? = some o → L i → ∀ j, depB o j = true → L j) : ∀ (n i : Nat) o, ops[i]? = some o → (∀ j, depB o j = true → L j) → ∀ j, waitsB ops n i j = true → L j
  | 0, _, _, _, _, _, h => by simp [waitsB] at h
  | n + 1, i, o, ho, hd, j, h => by
    unfold waitsB at h
    rw [ho] at h
    simp only [Bool.or_eq_true] at h
    rcases h with h | h
    · exact hd j h
    · obtain ⟨k, h1, h2⟩ := List.any_eq_true.1 h
      simp only [Bool.and_eq_true] at h2
      have hk := hd k h2.1
      have hlt : i < ops.length := (List.getElem?_eq_some_iff.1 ho).1
      have hkl : k < ops.length := by have := List.mem_range.1 h1; omega
      have hko : ops[k]? = some ops[k] := List.getElem?_eq_getElem hkl
      exact waits_listed hcl n k _ hko (hcl k _ hko hk) j h2.2
theorem tail_any (hT : TOk P T) (hok : DrawOk ops N) (hQ : ∀ a' w', Sat w0 G0 β0 K a' w' → Q .normal a' w') :
    ∀ (fuel p : Nat) (listed : Array Bool) (fr : List AV) (hp : List Blk) (G : Mem) (β : Nm) (a : Act) (w : World), N ≤ p → listed.size = ops.length → (∀ i, i < ops.length → (listed.getD i true = true ↔ i < p)) → unl listed ops.length = fuel → β0.le β → HR w0 G0 β hp G w → AV.rels β fr a.tmps.toList → a.defers = [] →
      vops P T ops (ops.drop p) fr hp G K → wpAny P .any ops.toArray Q fuel listed a w := by
  intro fuel
  induction fuel with
  | zero =>
    intro p listed fr hp G β a w hNp hs hl hu hβ hr hf hd h
    have hall := unl_zero _ hu
    refine ⟨ready_none hall, hQ a w ⟨β, fr, hp, G, hβ, hr, hf, hd, ?_⟩⟩
    have : ops.drop p = [] := List.drop_eq_nil_of_le (by
      rcases Nat.lt_or_ge p ops.length with h1 | h1
      · have := (hl p h1).1 (hall p h1); omega
      · exact h1)
    rw [this] at h; exact h
  | succ fuel ih =>
    intro p listed fr hp G β a w hNp hs hl hu hβ hr hf hd h
    refine ⟨fun he => absurd he (ready_some hok hs (by omega)), fun i hi => ?_⟩
    obtain ⟨h1, o, h2, h3⟩ := mem_ready.1 hi
    have hlt : i < ops.length := by have := (Array.getElem?_eq_some_iff.1 h2).1; simpa using this
    have h2' : ops[i]? = some o := by simpa using h2
    have hip : i = p := by
      have hge : p ≤ i := by
        rcases Nat.lt_or_ge i p with h4 | h4
        · rw [(hl i hlt).2 h4] at h1; cases h1
        · exact h4
      rcases Nat.lt_or_ge p i with h4 | h4
      · have hw := waits_listed (ops := ops) (L := fun j => j < p) (fun k q hq hk j hj => by
          obtain ⟨e, he, hb, heq⟩ := depB_eq hj
          have := hok.edge k q hq e he hb
          omega) 6 i o h2' (fun j hj => by
          obtain ⟨e, he, hb, heq⟩ := depB_eq hj
          have h5 := h3 e he hb
          have h6 := hok.edge i o h2' e he hb
          rw [heq, ← getD_any (by omega)] at h5
          exact (hl j (by omega)).1 h5) p (hok.tail i o (by omega) h2' p h4)
        omega
      · omega
    subst hip
    have hdrop : ops.drop i = o :: ops.drop (i + 1) := by
      rw [List.drop_eq_getElem_cons hlt]
      have : ops[i] = o := by rw [List.getElem?_eq_getElem hlt] at h2'; injection h2'
      rw [this]
    rw [hdrop] at h
    have hs' : (listed.setIfInBounds i true).size = ops.length := by simp [hs]
    have hl' : ∀ j, j < ops.length → ((listed.setIfInBounds i true).getD j true = true ↔ j < i + 1) := fun j hj => by
      by_cases hji : i = j
      · subst hji; rw [getD_set_same (by omega)]; simp
      · rw [getD_set_other hji, hl j hj]; omega
    have hu' : unl (listed.setIfInBounds i true) ops.length = fuel := by
      have := unl_set h1 ops.length
      rw [if_pos hlt] at this; omega
    unfold wpOp
    rw [h2]
    simp only
    rw [vops_cons] at h
    rcases wanted_guard hf h with ⟨hw, h4⟩ | ⟨hw, h4⟩
    · rw [if_pos hw]
      refine .inl (vop_ok hT h4 w0 G0 β a w Q _ hr hf ?_)
      intro β' v y hp' G' w' g2 g3 g4 g5
      obtain ⟨fr', g6, g7⟩ := put_rel (AV.rels_mono g2 _ _ hf) g4 g5
      exact ih (i + 1) _ fr' hp' G' β' _ w' (by omega) hs' hl' hu' (Nm.le_trans hβ g2) g3 g6 (by rw [put_defers']; exact hd) g7
    · rw [if_neg (by rw [hw]; simp)]
      obtain ⟨fr', g6, g7⟩ := put_rel hf (by simp only [AV.rel] : AV.rel β (.val undef) undef) h4
      exact ih (i + 1) _ fr' hp G β _ w (by omega) hs' hl' hu' hβ hr g6 (by rw [put_defers']; exact hd) g7
/-- What a slot holds. -/
def slotAt (ops : List Oper) (N : Nat) (fr0 frF : List AV) (listed : Array Bool) (x : Nat) (v : AV) : Prop :=
  ((∃ (i : Nat) (o : Oper), i < N ∧ ops[i]? = some o ∧ o.dst = some x ∧ listed.getD i true = true) ∧ frF[x]? = some v) ∨ ((∀ (i : Nat) (o : Oper), i < N → ops[i]? = some o → o.dst = some x → listed.getD i true = false) ∧ fr0[x]? = some v)
/-- The heap while some have come up: a block that the head writes is new if its store has, else as it was. -/
structure HD (ks : List Nat) (base0 hpF : List Blk) (N : Nat) (st : Nat → Option (Nat × Blk)) (L : Nat → Prop) (hp : List Blk) : Prop where
  len : hp.length = hpF.length
  at_ : ∀ (k : Nat) (x : Blk), hp[k]? = some x → (k ∉ ks ∧ hpF[k]? = some x) ∨ (k ∈ ks ∧ ((∃ i, i < N ∧ L i ∧ st i = some (k, x)) ∨ ((∀ i new, i < N → st i = some (k, new) → ¬ L i) ∧ base0[k]? = some x)))
structure HeadInv (P : Program) (ops : List Oper) (N : Nat) (w0 : World) (G0 : Mem) (β0 : Nm) (G : Mem) (ks : List Nat) (base0 : List Blk) (st : Nat → Option (Nat × Blk)) (fr0 frF : List AV) (n0 : Nat) (hpF : List Blk) (lo : Nat → Nat) (listed : Array Bool) (a : Act) (w : World) : Prop where
  size : listed.size = ops.length
  tail : ∀ i, N ≤ i → i < ops.length → listed.getD i true = false
  closed : ∀ (i : Nat) o, ops[i]? = some o → listed.getD i true = true → ∀ j, depB o j = true → listed.getD j true = true
  state : ∃ β hp, HD ks base0 hpF N st (fun i => listed.getD i true = true) hp ∧ β0.le β ∧ HR w0 G0 β hp G w ∧ (∀ k y, β k = some y → k < n0 ∨ ∃ i, i < N ∧ listed.getD i true = true ∧ lo i ≤ k ∧ k < lo (i + 1)) ∧ a.defers = [] ∧ a.tmps.size = fr0.length ∧ ∀ x v, slotAt ops N fr0 frF listed x v → ∃ y, a.tmps[x]? = some y ∧ v.rel β y
theorem dst_one (hok : DrawOk ops N) {i j : Nat} {o q : Oper} {x : Nat} (hi : i < N) (hj : j < N) (ho : ops[i]? = some o) (hq : ops[j]? = some q) (hx : o.dst = some x) (hx' : q.dst = some x) : i = j := by
  have key : ∀ (l : List Oper), (l.filterMap (·.dst)).Nodup → ∀ (i j : Nat) (o q : Oper), l[i]? = some o → l[j]? = some q → o.dst = some x → q.dst = some x → i = j := by
    intro l
    induction l with
    | nil => intro _ i j o q h; simp at h
    | cons p l ih =>
      intro hnd i j o q h1 h2 h3 h4
      cases i with
      | zero =>
        cases j with
        | zero => rfl
        | succ j =>
          simp at h1; subst h1
          rw [List.filterMap_cons_some h3] at hnd
          exact absurd (List.mem_filterMap.2 ⟨q, List.mem_of_getElem? (by simpa using h2), h4⟩) (List.nodup_cons.1 hnd).1
      | succ i =>
        cases j with
        | zero =>
          simp at h2; subst h2
          rw [List.filterMap_cons_some h4] at hnd
          exact absurd (List.mem_filterMap.2 ⟨o, List.mem_of_getElem? (by simpa using h1), h3⟩) (List.nodup_cons.1 hnd).1
        | succ j =>
          have hnd' : (l.filterMap (·.dst)).Nodup := by
            cases hd : p.dst with
            | none => simpa [hd] using hnd
            | some d => rw [List.filterMap_cons_some hd] at hnd; exact hnd.of_cons
          rw [ih hnd' i j o q (by simpa using h1) (by simpa using h2) h3 h4]
  exact key _ hok.nodup i j o q (by rw [List.getElem?_take, if_pos hi]; exact ho) (by rw [List.getElem?_take, if_pos hj]; exact hq) hx hx'
theorem HD.unique {ks : List Nat} {base0 hpF : List Blk} {st : Nat → Option (Nat × Blk)} {L : Nat → Prop} (hst : ∀ i j k new new', st i = some (k, new) → st j = some (k, new') → i = j) {a b : List Blk} (ha : HD ks base0 hpF N st L a) (hb : HD ks base0 hpF N st L b) : a = b := by
  apply List.ext_getElem?
  intro k
  by_cases hk : k < a.length
  · have h1 := ha.at_ k _ (List.getElem?_eq_getElem hk)
    have h2 := hb.at_ k _ (List.getElem?_eq_getElem (by rw [hb.len, ← ha.len]; exact hk))
    rw [List.getElem?_eq_getElem hk, List.getElem?_eq_getElem (by rw [hb.len, ← ha.len]; exact hk)]
    rcases h1 with ⟨n1, e1⟩ | ⟨n1, e1⟩ <;> rcases h2 with ⟨n2, e2⟩ | ⟨n2, e2⟩
    · rw [e1] at e2; exact e2
    · exact absurd n2 n1
    · exact absurd n1 n2
    · rcases e1 with ⟨i, hi, hL, hs⟩ | ⟨hn, hs⟩ <;> rcases e2 with ⟨j, hj, hL', hs'⟩ | ⟨hn', hs'⟩
      · have := hst i j k _ _ hs hs'
        subst this
        rw [hs] at hs'; simp only [Option.some.injEq, Prod.mk.injEq, true_and] at hs'; rw [hs']
      · exact absurd hL (hn' i _ hi hs)
      · exact absurd hL' (hn j _ hj hs')
      · rw [hs] at hs'; exact hs'
  · rw [List.getElem?_eq_none (by omega), List.getElem?_eq_none (by rw [hb.len, ← ha.len]; omega)]
theorem head_any (hT : TOk P T) (hok : DrawOk ops N) {G : Mem} {fr0 frF : List AV} {hp0 hpF hpE base0 : List Blk} {ks : List Nat} {st : Nat → Option (Nat × Blk)} {lo : Nat → Nat} (hQ : ∀ a' w', Sat w0 G0 β0 K a' w' → Q .normal a' w')
    (hlen : frF.length = fr0.length) (hsame : ∀ x, some x ∉ (ops.take N).map (·.dst) → frF[x]? = fr0[x]?) (hlo0 : lo 0 = hp0.length) (hlo : ∀ i, lo i ≤ lo (i + 1))
    (hseen : ∀ i o, (ops.take N)[i]? = some o → Seen P ops G base0 ks fr0 frF hp0 hpF ((ops.take N).map (·.dst)) i o (lo i) (lo (i + 1)) (st i))
    (hstN : ∀ i, N ≤ i → st i = none) (hst : ∀ i j k new new', st i = some (k, new) → st j = some (k, new') → i = j) (hmask : ∀ k, k ∈ ks → k < hp0.length → hp0[k]? = some .gone) (hbase : base0.length = hp0.length) (hksl : ∀ k ∈ ks, k < hp0.length)
    (hE : HD ks base0 hpF N st (fun i => i < N) hpE) (hend : vops P T ops (ops.drop N) frF hpE G K) :
    ∀ (fuel : Nat) (listed : Array Bool) (a : Act) (w : World), unl listed ops.length = fuel → HeadInv P ops N w0 G0 β0 G ks base0 st fr0 frF hp0.length hpF lo listed a w → wpAny P .any ops.toArray Q fuel listed a w := by
  have mono : ∀ i j, i ≤ j → lo i ≤ lo j := fun i j h => by
    induction h with
    | refl => exact Nat.le_refl _
    | step _ ih => exact Nat.le_trans ih (hlo _)
  -- the head is done
  have done : ∀ (fuel : Nat) (listed : Array Bool) (a : Act) (w : World), unl listed ops.length = fuel → HeadInv P ops N w0 G0 β0 G ks base0 st fr0 frF hp0.length hpF lo listed a w → (∀ i, i < N → listed.getD i true = true) → wpAny P .any ops.toArray Q fuel listed a w := by
    intro fuel listed a w hu hI hallN
    obtain ⟨β, hp, hhd, hβ, hr, hk, hd, hsz, hslot⟩ := hI.state
    have hpe : hp = hpE := by
      refine HD.unique (N := N) (L := fun i => i < N) hst ⟨hhd.len, fun k x hx => ?_⟩ hE
      rcases hhd.at_ k x hx with h | ⟨h1, ⟨i, h2, h3, h4⟩ | ⟨h2, h3⟩⟩
      · exact .inl h
      · exact .inr ⟨h1, .inl ⟨i, h2, h2, h4⟩⟩
      · exact .inr ⟨h1, .inr ⟨fun i new hi hs => absurd (hallN i hi) (h2 i new hi hs), h3⟩⟩
    subst hpe
    refine tail_any hT hok hQ fuel N listed frF hp G β a w (Nat.le_refl _) hI.size (fun i hi => ⟨fun h => ?_, fun h => hallN i h⟩) hu hβ hr ?_ hd hend
    · rcases Nat.lt_or_ge i N with h1 | h1
      · exact h1
      · have := hI.tail i h1 hi; rw [h] at this; cases this
    · refine AV.rels_of_get (by simp [hsz, hlen]) fun x v y hx hy => ?_
      obtain ⟨y', h1, h2⟩ := hslot x v (by
        by_cases hm : some x ∈ (ops.take N).map (·.dst)
        · obtain ⟨o, ho, hox⟩ := List.mem_map.1 hm
          obtain ⟨i, hi⟩ := List.mem_iff_getElem?.1 ho
          have hiN : i < N := by
            have := (List.getElem?_eq_some_iff.1 hi).1; rw [List.length_take] at this; omega
          rw [List.getElem?_take, if_pos hiN] at hi
          exact .inl ⟨⟨i, o, hiN, hi, hox, hallN i hiN⟩, hx⟩
        · refine .inr ⟨fun i o hi ho hox => absurd ?_ hm, by rw [← hsame x hm]; exact hx⟩
          exact List.mem_map.2 ⟨o, List.mem_of_getElem? (by rw [List.getElem?_take, if_pos hi]; exact ho), hox⟩)
      have : y = y' := by
        have h3 : a.tmps[x]? = some y := by simpa using hy
        rw [h1] at h3; cases h3; rfl
      rw [this]; exact h2
  intro fuel
  induction fuel with
  | zero => exact fun listed a w hu hI => done 0 listed a w hu hI (fun i hi => by
      rcases Nat.lt_or_ge i ops.length with h | h
      · exact unl_zero _ hu i h
      · simp [Array.getD, show ¬ i < listed.size by rw [hI.size]; omega])
  | succ fuel ih =>
    intro listed a w hu hI
    by_cases hallN : ∀ i, i < N → listed.getD i true = true
    · exact done (fuel + 1) listed a w hu hI hallN
    · obtain ⟨β, hp, hhd, hβ, hr, hk, hd, hsz, hslot⟩ := hI.state
      refine ⟨fun he => absurd he (ready_some hok hI.size (by omega)), fun i hi => ?_⟩
      obtain ⟨h1, o, h2, h3⟩ := mem_ready.1 hi
      have hlt : i < ops.length := by have := (Array.getElem?_eq_some_iff.1 h2).1; simpa using this
      have h2' : ops[i]? = some o := by simpa using h2
      have hdep : ∀ j, depB o j = true → listed.getD j true = true := fun j hj => by
        obtain ⟨e, he, hb, heq⟩ := depB_eq hj
        have h5 := h3 e he hb
        rw [heq] at h5
        rcases Nat.lt_or_ge j listed.size with h6 | h6
        · rw [getD_any h6]; exact h5
        · simp [Array.getD, Nat.not_lt.2 h6]
      have hiN : i < N := by
        rcases Nat.lt_or_ge i N with h4 | h4
        · exact h4
        · refine absurd (fun j hj => ?_) hallN
          exact waits_listed (ops := ops) (L := fun j => listed.getD j true = true) (fun k q hq hk j hj => hI.closed k q hq hk j hj) 6 i o h2' hdep j (hok.tail i o h4 h2' j (by omega))
      have h2t : (ops.take N)[i]? = some o := by rw [List.getElem?_take, if_pos hiN]; exact h2'
      obtain ⟨fr, hpi, hpi', v, k1, k2, k3, k4, k5, k6, k7, k8⟩ := (hseen i o h2t).out
      -- the slots that it looks at
      have hag : Agree ops o fr β a := by
        intro x hx u hu'
        refine hslot x u ?_
        rw [k6 x] at hu'
        split at hu'
        · rename_i hm
          rw [← List.map_take] at hm
          obtain ⟨q, hq, hqx⟩ := List.mem_map.1 hm
          obtain ⟨j, hj⟩ := List.mem_iff_getElem?.1 hq
          have hji : j < i := by
            have := (List.getElem?_eq_some_iff.1 hj).1; rw [List.length_take] at this; omega
          rw [List.getElem?_take, if_pos hji, List.getElem?_take, if_pos (by omega)] at hj
          have hjl : listed.getD j true = true := by
            rcases hok.look i o hiN h2' x hx j q (by omega) hj hqx with h5 | ⟨h5, h6⟩ | ⟨h5, _⟩
            · omega
            · exact hdep j h6
            · omega
          exact .inl ⟨⟨j, q, by omega, hj, hqx, hjl⟩, hu'⟩
        · rename_i hm
          refine .inr ⟨fun j q hj hq hqx => ?_, hu'⟩
          rcases hok.look i o hiN h2' x hx j q hj hq hqx with h5 | ⟨h5, h6⟩ | ⟨h5, h6⟩
          · subst h5; exact h1
          · refine absurd ?_ hm
            rw [← List.map_take]
            exact List.mem_map.2 ⟨q, List.mem_of_getElem? (by rw [List.getElem?_take, if_pos h5, List.getElem?_take, if_pos (by omega)]; exact hq), hqx⟩
          · cases hl : listed.getD j true with
            | false => rfl
            | true =>
              have := hI.closed j q hq hl i h6
              rw [h1] at this; cases this
      -- what stands behind it
      have next : ∀ (β' : Nm) (hp' : List Blk) (y : Value) (w' : World), β.le β' → HD ks base0 hpF N st (fun j => (listed.setIfInBounds i true).getD j true = true) hp' → HR w0 G0 β' hp' G w' → v.rel β' y → (∀ k z, β' k = some z → β k = some z ∨ (lo i ≤ k ∧ k < lo (i + 1))) →
          wpAny P .any ops.toArray Q fuel (listed.setIfInBounds i true) (a.put o.dst y) w' := by
        intro β' hp' y w' g1 g0 g2 g3 g4
        refine ih _ _ _ ?_ ⟨by simp [hI.size], fun j hj hjl => ?_, fun j q hq hl d hd' => ?_, β', hp', g0, Nm.le_trans hβ g1, g2, fun k z hz => ?_, by rw [put_defers']; exact hd, by cases o.dst <;> simp [Act.put, hsz], fun x u hx => ?_⟩
        · have := unl_set h1 ops.length
          rw [if_pos hlt] at this; omega
        · rw [getD_set_other (by omega)]; exact hI.tail j hj hjl
        · by_cases hdi : i = d
          · subst hdi; rw [getD_set_same (by rw [hI.size]; exact hlt)]
          · rw [getD_set_other hdi]
            by_cases hji : i = j
            · subst hji
              rw [h2'] at hq; cases hq
              exact hdep d hd'
            · rw [getD_set_other hji] at hl
              exact hI.closed j q hq hl d hd'
        · rcases g4 k z hz with h5 | ⟨h5, h6⟩
          · rcases hk k z h5 with h7 | ⟨j, h7, h8, h9⟩
            · exact .inl h7
            · refine .inr ⟨j, h7, ?_, h9⟩
              by_cases hij : i = j
              · subst hij; rw [getD_set_same (by rw [hI.size]; exact hlt)]
              · rw [getD_set_other hij]; exact h8
          · exact .inr ⟨i, hiN, by rw [getD_set_same (by rw [hI.size]; exact hlt)], h5, h6⟩
        · by_cases hxd : o.dst = some x
          · -- the slot itself
            have hv : frF[x]? = some u := by
              rcases hx with ⟨_, h5⟩ | ⟨h5, _⟩
              · exact h5
              · have := h5 i o hiN h2' hxd
                rw [getD_set_same (by rw [hI.size]; exact hlt)] at this; cases this
            have hxl : x < fr0.length := by rw [← hlen]; exact (List.getElem?_eq_some_iff.1 hv).1
            rw [k7 x hxd hxl] at hv; cases hv
            refine ⟨y, ?_, g3⟩
            rw [hxd]
            simp [Act.put, hsz, hxl]
          · obtain ⟨z, h5, h6⟩ := hslot x u (by
              rcases hx with ⟨⟨j, q, h5, h6, h7, h8⟩, h9⟩ | ⟨h5, h6⟩
              · refine .inl ⟨⟨j, q, h5, h6, h7, ?_⟩, h9⟩
                have hij : i ≠ j := fun e => by subst e; rw [h2'] at h6; cases h6; exact hxd h7
                rwa [getD_set_other hij] at h8
              · refine .inr ⟨fun j q h7 h8 h9 => ?_, h6⟩
                have hij : i ≠ j := fun e => by subst e; rw [h2'] at h8; cases h8; exact hxd h9
                have := h5 j q h7 h8 h9
                rwa [getD_set_other hij] at this)
            refine ⟨z, ?_, AV.rel_mono g1 _ _ h6⟩
            cases hod : o.dst with
            | none => simpa [Act.put] using h5
            | some d =>
              have hne : d ≠ x := fun e => hxd (by rw [hod, e])
              simp only [Act.put]
              rw [Array.getElem?_setIfInBounds_ne hne]; exact h5
      -- an operation that is no store leaves the written blocks as they are
      have keepHD : st i = none → HD ks base0 hpF N st (fun j => (listed.setIfInBounds i true).getD j true = true) hp := fun hn => ⟨hhd.len, fun k x hx => by
        rcases hhd.at_ k x hx with h | ⟨g1, ⟨j, g2, g3, g4⟩ | ⟨g2, g3⟩⟩
        · exact .inl h
        · refine .inr ⟨g1, .inl ⟨j, g2, ?_, g4⟩⟩
          have hij : i ≠ j := fun e => by subst e; rw [hn] at g4; cases g4
          rw [getD_set_other hij]; exact g3
        · refine .inr ⟨g1, .inr ⟨fun j new hj hs => ?_, g3⟩⟩
          have hij : i ≠ j := fun e => by subst e; rw [hn] at hs; cases hs
          rw [getD_set_other hij]; exact g2 j new hj hs⟩
      unfold wpOp
      rw [h2]
      simp only
      have hpF0 : hp0.length ≤ hpF.length := ((k3.trans k4).trans k5).len
      have hbr : BR w0.heap.size β hpi G w := ⟨fun k y x hky hkx => by
        by_cases hkk : k ∈ ks
        · have hx0 := hmask k hkk (hksl k hkk)
          have := k3.get hx0
          rw [hkx] at this; cases this; trivial
        · obtain ⟨x', h5, h6⟩ := hr.blk k y hky
          have h7 := (k4.trans k5).get hkx
          rcases hhd.at_ k x' h5 with ⟨_, h8⟩ | ⟨h8, _⟩
          · rw [h7] at h8; cases h8; exact h6
          · exact absurd h8 hkk, hr.hold⟩
      rcases k8 with ⟨hw, hst0, hcore⟩ | ⟨hw, hst0, rfl, rfl⟩ | ⟨hw, rfl, rfl, k, old, new, hst0, hb0, hol, hkk, hcore⟩
      · rw [if_pos (hw β a hag)]
        left
        have hreads := hag.reads
        have hhd' := keepHD hst0
        rcases hcore with ⟨rfl, hc⟩ | ⟨x, rfl, hc⟩ | ⟨rfl, f, hc⟩
        · obtain ⟨y, h5, h6⟩ := hc _ β a.eval w hbr hreads
          unfold Oper.wp
          rw [h5]
          exact next β hp y w (Nm.le_refl _) hhd' hr h6 (fun k z hz => .inl hz)
        · have hn : β hpi.length = none := by
            cases hb : β hpi.length with
            | none => rfl
            | some z =>
              rcases hk _ z hb with h5 | ⟨j, h5, h6, h7, h8⟩
              · have := k3.len; omega
              · rw [k1] at h7 h8
                have hij : j ≠ i := fun e => by subst e; rw [h1] at h6; cases h6
                rcases Nat.lt_or_ge j i with h9 | h9
                · have := mono (j + 1) i (by omega); omega
                · have h10 := mono (i + 1) j (by omega)
                  simp at k2; omega
          obtain ⟨y, z, w', h5, h6, h7, h8, h9⟩ := hc _ β a.eval w hbr hr.below.size hn hreads
          unfold Oper.wp
          rw [h5]
          have hlen' : hpi.length < hpF.length := by have := k5.len; simp at this; omega
          have hgetF : hpF[hpi.length]? = some x := k5.get (by simp)
          have hnk : hpi.length ∉ ks := fun hm => by
            have := hksl _ hm
            have := k3.len; omega
          have hget : hp[hpi.length]? = some x := by
            have h10 : hp[hpi.length]? = some (hp[hpi.length]'(by rw [hhd.len]; exact hlen')) := List.getElem?_eq_getElem _
            rcases hhd.at_ _ _ h10 with ⟨_, h11⟩ | ⟨h11, _⟩
            · rw [hgetF] at h11; rw [h10, ← h11]
            · exact absurd h11 hnk
          refine next (β.put hpi.length z) hp y w' (Nm.le_put z hn) hhd' ?_ h9 (fun k u hu' => ?_)
          · -- the heap with the new name
            refine ⟨(hr.step h6).below, (hr.step h6).hold, hr.sub, hr.grow, fun k u hku => ?_, fun j j' q q' s s' b hne hj hj' hs hs' hls hls' hq hq' => ?_⟩
            · by_cases hkn : k = hpi.length
              · rw [hkn, Nm.put_same] at hku; cases hku
                exact ⟨x, by rw [hkn]; exact hget, h7⟩
              · rw [Nm.put_ne _ _ hkn] at hku
                obtain ⟨x', h10, h11⟩ := (hr.step h6).blk k u hku
                exact ⟨x', h10, Blk.rel_of (Nm.le_put z hn) h11 (fun b _ => ⟨rfl, id⟩)⟩
            · have old : ∀ {j : Nat} {q : Value} {s : Blk} {c : Nat}, j ≠ hpi.length → (β.put hpi.length z) j = some q → hp[j]? = some s → s.live = true → blkOf q = some c → c < w.heap.size ∧ β j = some q := by
                intro j q s c hj hq hs hls hqb
                rw [Nm.put_ne _ _ hj] at hq
                exact ⟨(hr.lt hq hs hls hqb).2.1, hq⟩
              by_cases h10 : j = hpi.length
              · have h11 : j' ≠ hpi.length := by omega
                obtain ⟨h12, _⟩ := old h11 hj' hs' hls' hq'
                rw [h10, Nm.put_same] at hj; cases hj
                have := h8 b hq; omega
              · obtain ⟨h12, h13⟩ := old h10 hj hs hls hq
                by_cases h11 : j' = hpi.length
                · rw [h11, Nm.put_same] at hj'; cases hj'
                  have := h8 b hq'; omega
                · obtain ⟨_, h14⟩ := old h11 hj' hs' hls' hq'
                  exact hr.inj j j' q q' s s' b hne h13 h14 hs hs' hls hls' hq hq'
          · by_cases hkn : k = hpi.length
            · right; simp at k2; omega
            · rw [Nm.put_ne _ _ hkn] at hu'; exact .inl hu'
        · obtain ⟨args, h5, h6⟩ := hc _ β a.eval w hbr hreads
          unfold Oper.wp
          rw [h5]
          refine h6.mono ?_
          rintro e w' ⟨y, rfl, hv, hb⟩
          exact next β hp y w' (Nm.le_refl _) hhd' (hr.step hb) (AV.rel_mono (noName_le β) _ _ hv) (fun k z hz => .inl hz)
      · rw [if_neg (by rw [hw β a hag]; simp)]
        exact next β hp undef w (Nm.le_refl _) (keepHD hst0) hr (by simp only [AV.rel]) (fun k z hz => .inl hz)
      · -- a store into a block of the head's own
        rw [if_pos (hw β a hag)]
        left
        have hreads := hag.reads
        have hkF : k < hp.length := by rw [hhd.len]; have := hksl k hkk; omega
        have hold : hp[k]? = some old := by
          have h10 : hp[k]? = some (hp[k]'hkF) := List.getElem?_eq_getElem hkF
          rcases hhd.at_ _ _ h10 with ⟨h11, _⟩ | ⟨_, ⟨j, h11, h12, h13⟩ | ⟨_, h12⟩⟩
          · exact absurd hkk h11
          · have := hst i j k _ _ hst0 h13
            subst this
            rw [h1] at h12; cases h12
          · rw [hb0] at h12; rw [h10, ← h12]
        have hhd' : HD ks base0 hpF N st (fun j => (listed.setIfInBounds i true).getD j true = true) (hp.set k new) := ⟨by simp [hhd.len], fun j x hx => by
          by_cases hjk : k = j
          · subst hjk
            rw [List.getElem?_set_self hkF] at hx; cases hx
            exact .inr ⟨hkk, .inl ⟨i, hiN, by rw [getD_set_same (by rw [hI.size]; exact hlt)], hst0⟩⟩
          · rw [List.getElem?_set_ne hjk] at hx
            rcases hhd.at_ j x hx with h | ⟨g1, ⟨q, g2, g3, g4⟩ | ⟨g2, g3⟩⟩
            · exact .inl h
            · refine .inr ⟨g1, .inl ⟨q, g2, ?_, g4⟩⟩
              have hij : i ≠ q := fun e => by subst e; rw [hst0] at g4; cases g4; exact hjk rfl
              rw [getD_set_other hij]; exact g3
            · refine .inr ⟨g1, .inr ⟨fun q nw hq hs => ?_, g3⟩⟩
              have hij : i ≠ q := fun e => by subst e; rw [hst0] at hs; cases hs; exact hjk rfl
              rw [getD_set_other hij]; exact g2 q nw hq hs⟩
        obtain ⟨y, w', b, hβk, h12, h13, h14, h15⟩ := hcore _ β a.eval w (fun y hβk => by
          obtain ⟨x', h10, h11⟩ := hr.blk k y hβk
          rw [hold] at h10; cases h10; exact h11) hreads
        unfold Oper.wp
        rw [h12]
        exact next β _ undef w' (Nm.le_refl _) hhd' (hr.setBlk hβk hold hol h13 h14 h15) (by simp only [AV.rel]) (fun k z hz => .inl hz)
end
/-- The blocks that the head writes are hidden from its other operations. -/
def maskB (ks : List Nat) : Nat → List Blk → List Blk
  | _, [] => []
  | i, x :: l => (match elemN i ks with | true => .gone | false => x) :: maskB ks (i + 1) l
def maskBF (ks : List Nat) : Nat → List Blk → (List Blk → Prop) → Prop
  | _, [], K => K []
  | i, x :: l, K => maskBF ks (i + 1) l fun m => match elemN i ks with
    | true => K (.gone :: m)
    | false => K (x :: m)
theorem maskBF_eq (ks : List Nat) : ∀ (l : List Blk) (i : Nat) (K : List Blk → Prop), maskBF ks i l K = K (maskB ks i l)
  | [], _, _ => rfl
  | x :: l, i, K => by
    rw [maskBF, maskBF_eq ks l, maskB]
    cases elemN i ks <;> rfl
def findB (k : Nat) : List (Nat × Blk) → Option Blk
  | [] => none
  | (j, x) :: l => match Nat.beq k j with
    | true => some x
    | false => findB k l
/-- And seen again behind it. -/
def unmask (ks : List Nat) (ps : List (Nat × Blk)) (base0 : List Blk) : Nat → List Blk → List Blk
  | _, [] => []
  | i, x :: l => (match elemN i ks with
    | true => (match findB i ps with | some n => n | none => nthB base0 i)
    | false => x) :: unmask ks ps base0 (i + 1) l
def unmaskF (ks : List Nat) (ps : List (Nat × Blk)) (base0 : List Blk) : Nat → List Blk → (List Blk → Prop) → Prop
  | _, [], K => K []
  | i, x :: l, K => unmaskF ks ps base0 (i + 1) l fun m => match elemN i ks with
    | true => (match findB i ps with | some n => K (n :: m) | none => K (nthB base0 i :: m))
    | false => K (x :: m)
theorem unmaskF_eq (ks : List Nat) (ps : List (Nat × Blk)) (base0 : List Blk) : ∀ (l : List Blk) (i : Nat) (K : List Blk → Prop), unmaskF ks ps base0 i l K = K (unmask ks ps base0 i l)
  | [], _, _ => rfl
  | x :: l, i, K => by
    rw [unmaskF, unmaskF_eq ks ps base0 l, unmask]
    cases elemN i ks with
    | false => rfl
    | true => cases findB i ps <;> rfl
theorem elemN_iff : ∀ (l : List Nat) (k : Nat), elemN k l = true ↔ k ∈ l
  | [], k => by simp [elemN]
  | a :: l, k => by
    unfold elemN
    cases hb : Nat.beq k a with
    | true => have := Nat.eq_of_beq_eq_true hb; simp [this]
    | false =>
      have hne : k ≠ a := fun e => by subst e; simp at hb
      simp [elemN_iff l k, hne]
theorem mask_get (ks : List Nat) : ∀ (l : List Blk) (i k : Nat), (maskB ks i l)[k]? = (l[k]?).map fun x => if i + k ∈ ks then .gone else x
  | [], _, _ => by simp [maskB]
  | x :: l, i, 0 => by
    have := elemN_iff ks i
    unfold maskB
    cases h : elemN i ks <;> simp_all
  | x :: l, i, k + 1 => by
    unfold maskB
    simp only [List.getElem?_cons_succ]
    rw [mask_get ks l (i + 1) k, show i + 1 + k = i + (k + 1) by omega]
theorem mask_len (ks : List Nat) : ∀ (l : List Blk) (i : Nat), (maskB ks i l).length = l.length
  | [], _ => rfl
  | x :: l, i => by simp [maskB, mask_len ks l]
theorem unmask_get (ks : List Nat) (ps : List (Nat × Blk)) (base0 : List Blk) : ∀ (l : List Blk) (i k : Nat), (unmask ks ps base0 i l)[k]? = (l[k]?).map fun x => if i + k ∈ ks then (findB (i + k) ps).getD (nthB base0 (i + k)) else x
  | [], _, _ => by simp [unmask]
  | x :: l, i, 0 => by
    have := elemN_iff ks i
    unfold unmask
    cases h : elemN i ks
    · simp_all
    · cases hf : findB i ps <;> simp_all
  | x :: l, i, k + 1 => by
    unfold unmask
    simp only [List.getElem?_cons_succ]
    rw [unmask_get ks ps base0 l (i + 1) k, show i + 1 + k = i + (k + 1) by omega]
theorem unmask_len (ks : List Nat) (ps : List (Nat × Blk)) (base0 : List Blk) : ∀ (l : List Blk) (i : Nat), (unmask ks ps base0 i l).length = l.length
  | [], _ => rfl
  | x :: l, i => by simp [unmask, unmask_len ks ps base0 l]
theorem findB_some {k : Nat} {x : Blk} : ∀ {l : List (Nat × Blk)}, findB k l = some x → (k, x) ∈ l
  | [], h => by cases h
  | (j, y) :: l, h => by
    unfold findB at h
    cases hb : Nat.beq k j with
    | true =>
      rw [hb] at h
      have := Nat.eq_of_beq_eq_true hb
      subst this; cases h; simp
    | false => rw [hb] at h; exact List.mem_cons_of_mem _ (findB_some h)
theorem findB_none {k : Nat} : ∀ {l : List (Nat × Blk)}, findB k l = none → ∀ x, (k, x) ∉ l
  | [], _, x, h => by cases h
  | (j, y) :: l, h, x, hm => by
    unfold findB at h
    cases hb : Nat.beq k j with
    | true => rw [hb] at h; cases h
    | false =>
      rw [hb] at h
      rcases List.mem_cons.1 hm with e | e
      · cases e; simp at hb
      · exact findB_none h x e
/-- A region that draws its order: its first N operations in any order (those that store into the blocks of 'ks', which no other one looks at, among them), the others in their own. -/
theorem DrawP_mk {P : Program} {T : Tab} (hT : TOk P T) (hm : P.follows .mixedOrders = true) {ops : List Oper} (N : Nat) (ks : List Nat) (hB : drawB ops N = true) {fr : List AV} {hp : List Blk} {G : Mem} {K : List AV → List Blk → Mem → Prop}
    (h : testP (ks.all fun k => Nat.blt k hp.length) (maskBF ks 0 hp fun hpm => vrops P T ops hp ks (ops.take N) fr hpm G [] fun fr' hp' ps => unmaskF ks ps hp 0 hp' fun hq => vops P T ops (ops.drop N) fr' hq G K)) : DrawP P ops fr hp G K := by
  constructor
  intro w0 G0 β0 β a w id Q hβ hr hf hd hQ
  have hok := drawB_ok hB
  obtain ⟨hks0, h'⟩ := testP_eq h
  rw [maskBF_eq] at h'
  have hksl : ∀ k ∈ ks, k < hp.length := fun k hk => by
    rw [List.all_eq_true] at hks0
    exact lt_of_blt (hks0 k hk)
  obtain ⟨frF, hpF, psF, h1, h2, h3, h4, lo, st, h5, h6, h7, h8, h9, h10, h11⟩ := trace hT (ops.take N) fr (maskB ks 0 hp) [] _ hok.nodup h'
  rw [unmaskF_eq] at h1
  refine wp_region_any hm ?_
  have hrep : ∀ i, i < ops.length → (Array.replicate ops.length false).getD i true = false := fun i hi => by simp [Array.getD, hi]
  have hunl : ∀ n, n ≤ ops.length → unl (Array.replicate ops.length false) n = n := by
    intro n
    induction n with
    | zero => intro _; rfl
    | succ n ih => intro hn; simp only [unl, ih (by omega), hrep n (by omega), if_true]
  have hfl := AV.rels_length hf
  have hsz : a.tmps.size = fr.length := by simpa using hfl
  have hml := mask_len ks hp 0
  have hN : (ops.take N).length = N := by have := hok.le; simp; omega
  have hstN : ∀ i, N ≤ i → st i = none := fun i hi => h8 i (by rw [hN]; exact hi)
  have hpFl : hp.length ≤ hpF.length := by have := h2.len; omega
  have nthk : ∀ k, k < hp.length → hp[k]? = some (nthB hp k) := fun k hk => by rw [nthB_eq, List.getElem?_eq_getElem hk]; rfl
  have low : ∀ k, k < hp.length → k ∉ ks → hpF[k]? = hp[k]? := fun k hk hn => by
    have e : (maskB ks 0 hp)[k]? = some (hp[k]'hk) := by rw [mask_get, List.getElem?_eq_getElem hk]; simp [hn]
    rw [h2.get e, List.getElem?_eq_getElem hk]
  have hE : HD ks hp hpF N st (fun i => i < N) (unmask ks psF hp 0 hpF) := ⟨unmask_len ks psF hp hpF 0, fun k x hx => by
    rw [unmask_get, Nat.zero_add] at hx
    cases hF : hpF[k]? with
    | none => rw [hF] at hx; cases hx
    | some z =>
      rw [hF] at hx
      simp only [Option.map_some, Option.some.injEq] at hx
      by_cases hk : k ∈ ks
      · rw [if_pos hk] at hx
        refine .inr ⟨hk, ?_⟩
        cases hfb : findB k psF with
        | some n =>
          rw [hfb] at hx
          simp only [Option.getD_some] at hx
          subst hx
          rcases (h11 k n).1 (findB_some hfb) with h12 | ⟨i, h12⟩
          · cases h12
          · refine .inl ⟨i, ?_, ?_, h12⟩ <;>
              (rcases Nat.lt_or_ge i N with h13 | h13
               · exact h13
               · rw [hstN i h13] at h12; cases h12)
        | none =>
          rw [hfb] at hx
          simp only [Option.getD_none] at hx
          subst hx
          exact .inr ⟨fun i new _ hs => absurd ((h11 k new).2 (.inr ⟨i, hs⟩)) (findB_none hfb new), nthk k (hksl k hk)⟩
      · rw [if_neg hk] at hx
        exact .inl ⟨hk, by rw [hx]⟩⟩
  have hkl0 : (maskB ks 0 hp).length = hp.length := hml
  refine head_any (N := N) (hp0 := maskB ks 0 hp) (base0 := hp) (ks := ks) (st := st) hT hok hQ h3 h4 h5 h6 h7 hstN h10 (fun k hk hkl => ?_) hml.symm (fun k hk => by rw [hml]; exact hksl k hk) hE h1 _ _ _ _ (by simpa using hunl ops.length (Nat.le_refl _)) ⟨by simp, fun i hi hil => hrep i hil, fun i o ho hl => ?_, β, unmask ks [] hp 0 hpF, ?_, hβ, ?_, fun k y hk => .inl (by rw [hml]; exact Nm.below_of hr k y hk), hd, hsz, fun x v hx => ?_⟩
  · rw [mask_get, nthk k (hksl k hk)]; simp [hk]
  · have hi : i < ops.length := (List.getElem?_eq_some_iff.1 ho).1
    have := hrep i hi
    simp only [List.size_toArray] at hl
    rw [this] at hl; cases hl
  · refine ⟨unmask_len ks [] hp hpF 0, fun k x hx => ?_⟩
    rw [unmask_get, Nat.zero_add] at hx
    cases hF : hpF[k]? with
    | none => rw [hF] at hx; cases hx
    | some z =>
      rw [hF] at hx
      simp only [Option.map_some, Option.some.injEq] at hx
      by_cases hk : k ∈ ks
      · rw [if_pos hk] at hx
        simp only [findB, Option.getD_none] at hx
        subst hx
        refine .inr ⟨hk, .inr ⟨fun i new hi hs hl => ?_, nthk k (hksl k hk)⟩⟩
        have hil : i < ops.length := by have := hok.le; omega
        have := hrep i hil
        simp only [List.size_toArray] at hl
        rw [this] at hl; cases hl
      · rw [if_neg hk] at hx
        exact .inl ⟨hk, by rw [hx]⟩
  · -- the whole heap, whose new blocks have no name yet
    have hr' := hr.drew
    have look : ∀ k, k < hp.length → (unmask ks [] hp 0 hpF)[k]? = hp[k]? := fun k hk => by
      rw [unmask_get, Nat.zero_add]
      by_cases hkk : k ∈ ks
      · rw [List.getElem?_eq_getElem (show k < hpF.length by omega), nthk k hk]; simp [hkk, findB]
      · rw [low k hk hkk, List.getElem?_eq_getElem hk]; simp [hkk]
    refine ⟨hr'.below, hr'.hold, hr'.sub, hr'.grow, fun k y hk => ?_, fun j j' z z' u u' c hne hj hj' hu hu' => ?_⟩
    · obtain ⟨x, h12, h13⟩ := hr'.blk k y hk
      exact ⟨x, by rw [look k (List.getElem?_eq_some_iff.1 h12).1]; exact h12, h13⟩
    · rw [look j (Nm.below_of hr j z hj)] at hu
      rw [look j' (Nm.below_of hr j' z' hj')] at hu'
      exact hr'.inj j j' z z' u u' c hne hj hj' hu hu'
  · rcases hx with ⟨⟨i, o, h12, h13, h14, h15⟩, _⟩ | ⟨_, h12⟩
    · have := hrep i (List.getElem?_eq_some_iff.1 h13).1
      simp only [List.size_toArray] at h15
      rw [this] at h15; cases h15
    · obtain ⟨y, h13, h14⟩ := AV.rels_get hf h12
      exact ⟨y, by simpa using h13, h14⟩
end Go.Proofs.Ytampdegpfndggaa
