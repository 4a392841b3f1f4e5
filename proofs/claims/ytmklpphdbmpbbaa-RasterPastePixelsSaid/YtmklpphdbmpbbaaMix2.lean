/-
  As XMix, but the new memory's value and content may hang on what the head yields (a new row of elements, for example). No program in sight.
-/
import Derived.Test.YtmklpphdbmpbbaaMix
namespace Go.Proofs.Ytmklpphdbmpbbaa
open Go.RowKit

section
variable {P : Program} {ops : Array Oper} {md : Region.Mode} {w0 : World} {mk : Nat → Value} {z : Obj}
/-- One operation of the head: a read or a call; or the new variable. -/
def gOp2 (P : Program) (ops : Array Oper) (w0 : World) (mk : Nat → Value) (z : Obj) (N : Nat) (i : Nat) (K : Act → Prop) (a : Act) : Prop :=
  match ops[i]? with
  | none => K a
  | some o => if i < N then ∃ v, Yv P ops w0 o v a ∧ K (a.put o.dst v) else (∀ w, (execOp a.eval o).run P w = .ok (.value (mk w.heap.size)) (w.alloc z)) ∧ ∀ b, w0.heap.size ≤ b → K (a.put o.dst (mk b))
theorem gOp_mono2 {N i : Nat} {a : Act} {K K' : Act → Prop} (h : ∀ a, K a → K' a) (hh : gOp2 P ops w0 mk z N i K a) : gOp2 P ops w0 mk z N i K' a := by
  unfold gOp2 at *
  split
  · exact h _ (by simpa [*] using hh)
  · rename_i o ho
    simp only [ho] at hh
    split
    · rename_i hi; rw [if_pos hi] at hh; obtain ⟨v, h1, h2⟩ := hh; exact ⟨v, h1, h _ h2⟩
    · rename_i hi; rw [if_neg hi] at hh; exact ⟨hh.1, fun b hb => h _ (hh.2 b hb)⟩
def gAny2 (P : Program) (md : Region.Mode) (ops : Array Oper) (w0 : World) (mk : Nat → Value) (z : Obj) (N n : Nat) (L : Array Bool → Act → Prop) : Nat → Array Bool → Act → Prop
  | 0, listed, a => L listed a
  | f + 1, listed, a =>
    Region.ready md ops listed ≠ [] ∧ ∀ i ∈ Region.ready md ops listed, i < n ∧ gOp2 P ops w0 mk z N i (gAny2 P md ops w0 mk z N n L f (listed.setIfInBounds i true)) a

theorem gOp_put2 {N j : Nat} {oi oj : Oper} {v : Value} (hj : ops[j]? = some oj) (hap : oi.apart ops oj = true)
    (hsi : ∀ cs b, oi.op ≠ .select cs b) (hsj : ∀ cs b, oj.op ≠ .select cs b) {K : Act → Prop} {a : Act}
    (hy : Yv P ops w0 oi v a) (h : gOp2 P ops w0 mk z N j K (a.put oi.dst v)) :
    gOp2 P ops w0 mk z N j (fun a' => Yv P ops w0 oi v a' ∧ K (a'.put oi.dst v)) a := by
  obtain ⟨h1, h2, h3⟩ := Oper.apart_spec hap
  have keep : ∀ (a : Act), Yv P ops w0 oi v a → ∀ u, Yv P ops w0 oi v (a.put oj.dst u) := fun a hy u =>
    hy.of_same (execOp_put oi hsi a oj.dst u h3) (wanted_put oi a oj.dst u h3)
  unfold gOp2 at *
  simp only [hj] at *
  split
  · rename_i hlt
    rw [if_pos hlt] at h
    obtain ⟨u, hu, hn⟩ := h
    refine ⟨u, ?_, keep a hy u, by rw [← Act.put_comm a v u h2]; exact hn⟩
    exact hu.of_same (execOp_put oj hsj a oi.dst v h1).symm (wanted_put oj a oi.dst v h1).symm
  · rename_i hlt
    rw [if_neg hlt] at h
    exact ⟨fun w => by rw [← execOp_put oj hsj a oi.dst v h1]; exact h.1 w, fun b hb => ⟨keep a hy _, by rw [← Act.put_comm a v _ h2]; exact h.2 b hb⟩⟩

theorem gAny_first2 {N n i : Nat} {oi : Oper} {v : Value} {L : Array Bool → Act → Prop} (hi : ops[i]? = some oi) (hsel : ∀ (j : Nat) (o : Oper) cs b, ops[j]? = some o → o.op ≠ .select cs b)
    (hs : Region.sinkB md ops n = true) (hc : Region.chainB md ops n = true) (hn : n < ops.size) (hiN : i < N) (hNn : N ≤ n)
    (hdone : ∀ listed a, L listed a → ∀ j ∈ Region.ready md ops listed, n ≤ j) :
    ∀ (f : Nat) (listed : Array Bool) (a : Act), HeadInv md ops n listed →
      (∀ j oj, ops[j]? = some oj → j ≠ i → listed.getD j true = false → (∀ e ∈ oj.after, Region.binds md e = true → e.on ≠ i) → oi.apart ops oj = true) →
      i ∈ Region.ready md ops listed → Yv P ops w0 oi v a →
      gAny2 P md ops w0 mk z N n L f (listed.setIfInBounds i true) (a.put oi.dst v) → gAny2 P md ops w0 mk z N n L (f + 1) listed a := by
  have hin : i < n := by omega
  have hgi : ∀ (K : Act → Prop) (a : Act), Yv P ops w0 oi v a → K (a.put oi.dst v) → gOp2 P ops w0 mk z N i K a := fun K a hy hk => by
    unfold gOp2; simp only [hi]; rw [if_pos hiN]; exact ⟨v, hy, hk⟩
  intro f
  induction f with
  | zero =>
    intro listed a inv _ hr hy H
    have hun := (mem_ready.1 hr).1
    refine ⟨fun h => (by rw [h] at hr; cases hr), fun j hj => ?_⟩
    have hjn : j < n := by
      rcases Nat.lt_or_ge j n with h | h
      · exact h
      · exact absurd hj (tail_waits hs hc hn inv _ i rfl hin hun j h)
    refine ⟨hjn, ?_⟩
    by_cases hji : j = i
    · subst hji; exact hgi _ _ hy H
    · have := hdone _ _ H j (ready_mono hj hji)
      omega
  | succ f ih =>
    intro listed a inv hfree hr hy H
    have hun := (mem_ready.1 hr).1
    refine ⟨fun h => (by rw [h] at hr; cases hr), fun j hj => ?_⟩
    have hjn : j < n := by
      rcases Nat.lt_or_ge j n with h | h
      · exact h
      · exact absurd hj (tail_waits hs hc hn inv _ i rfl hin hun j h)
    refine ⟨hjn, ?_⟩
    by_cases hji : j = i
    · subst hji; exact hgi _ _ hy H
    · have h1 := (H.2 j (ready_mono hj hji)).2
      obtain ⟨hjun, oj, hoj, hall⟩ := mem_ready.1 hj
      have hnot : ∀ e ∈ oj.after, Region.binds md e = true → e.on ≠ i := fun e he hb heq => by
        have h1 := hall e he hb
        rw [heq, getD_both hun] at h1
        cases h1
      have h2 := gOp_put2 hoj (hfree j oj hoj hji hjun hnot) (fun cs b => hsel i oi cs b hi) (fun cs b => hsel j oj cs b hoj) hy h1
      have hfree' : ∀ k ok, ops[k]? = some ok → k ≠ i → (listed.setIfInBounds j true).getD k true = false →
          (∀ e ∈ ok.after, Region.binds md e = true → e.on ≠ i) → oi.apart ops ok = true := fun k ok hk hki hun hno => by
        refine hfree k ok hk hki ?_ hno
        by_cases hjk : j = k
        · subst hjk; exact hjun
        · rw [getD_set_ne true hjk] at hun; exact hun
      refine gOp_mono2 (fun a' h3 => ih (listed.setIfInBounds j true) a' (inv.set hj hjn) hfree' (ready_mono hr (Ne.symm hji)) h3.1 ?_) h2
      rw [Array.setIfInBounds_comm _ _ hji]
      exact h3.2

/-- The head, walked in the order of the text; then what stands behind it ('the new variable', if there is one, is taken with the rest of the sequence). -/
theorem gAny_lex2 {N n g m : Nat} {Lq : Act → Prop} (hsel : Region.noSelect ops = true) (hs : Region.sinkB md ops n = true) (hc : Region.chainB md ops n = true) (hn : n < ops.size) (hNn : N ≤ n)
    (hq : ∀ listed a, Lq a → Region.seqB md ops g N listed = true → gAny2 P md ops w0 mk z N n (fun listed' a' => Region.seqB md ops (g - m) n listed' = true ∧ (m = 1 → listed'.getD N false = true) ∧ ∃ a0, Lq a0 ∧ ((m = 0 ∧ a' = a0) ∨ (m = 1 ∧ ∃ o b, ops[N]? = some o ∧ w0.heap.size ≤ b ∧ a' = a0.put o.dst (mk b)))) m listed a)
    (hdone : ∀ listed, Region.seqB md ops (g - m) n listed = true → ∀ j ∈ Region.ready md ops listed, n ≤ j) :
    ∀ (l : List Oper) (k : Nat) (listed : Array Bool) (a : Act), (∀ j, j < l.length → l[j]? = ops[k + j]?) → k + l.length = N → HeadInv md ops n listed →
    Region.lexHead md ops g l.length k listed = true → wpHead P ops w0 Lq l a →
    gAny2 P md ops w0 mk z N n (fun listed' a' => Region.seqB md ops (g - m) n listed' = true ∧ (m = 1 → listed'.getD N false = true) ∧ ∃ a0, Lq a0 ∧ ((m = 0 ∧ a' = a0) ∨ (m = 1 ∧ ∃ o b, ops[N]? = some o ∧ w0.heap.size ≤ b ∧ a' = a0.put o.dst (mk b)))) (l.length + m) listed a
  | [], k, listed, a, _, hk, _, hB, h => by
    have : k = N := by simpa using hk
    subst this
    rw [List.length_nil, Nat.zero_add]
    exact hq listed a h (by simpa [Region.lexHead] using hB)
  | o :: l, k, listed, a, hl, hk, inv, hB, h => by
    have h0 : ops[k]? = some o := by simpa using (hl 0 (by simp)).symm
    simp only [List.length_cons, Region.lexHead, Bool.and_eq_true] at hB
    obtain ⟨⟨hr, hf⟩, hB'⟩ := hB
    have hkN : k < N := by simp only [List.length_cons] at hk; omega
    have hr' : k ∈ Region.ready md ops listed := by simpa using hr
    obtain ⟨v, hy, hK⟩ := h
    rw [List.length_cons, show l.length + 1 + m = (l.length + m) + 1 by omega]
    exact gAny_first2 h0 (Region.noSelect_spec hsel) hs hc hn hkN hNn (fun listed' a' hL => hdone listed' hL.1) (l.length + m) listed a inv (Region.free_spec h0 hf) hr' hy
      (gAny_lex2 hsel hs hc hn hNn hq hdone l (k + 1) _ _ (fun j hj => by have := hl (j + 1) (by simp; omega); simpa [Nat.add_assoc, Nat.add_comm 1 j] using this) (by simp only [List.length_cons] at hk; omega) (inv.set hr' (by omega)) hB' hK)

/-- What is known of the world while the game goes on: d, z: the slot and the first content of the new variable. -/
structure Track2 (w0 : World) (mk : Nat → Value) (N : Nat) (d : Tmp) (z : Obj) (listed : Array Bool) (a : Act) (w : World) : Prop where
  below : Below w0.heap.size w0 w
  slot : listed.getD N false = true → ∃ b, a.tmps[d]? = some (mk b) ∧ w0.heap.size ≤ b ∧ w.heap[b]? = some z
  len : d < a.tmps.size

theorem wpAny_of_game2 {N n g : Nat} {d : Tmp} {L : Array Bool → Act → Prop} {Q' : Exit → Act → World → Prop} (hNn : N ≤ n ∧ n ≤ N + 1)
    (hal : n = N + 1 → ∃ o, ops[N]? = some o ∧ o.dst = some d ∧ o.guard = none)
    (hd : ∀ i o, i < N → ops[i]? = some o → o.dst ≠ some d)
    (hL : ∀ listed a w, L listed a → Track2 w0 mk N d z listed a w → (n = N + 1 → listed.getD N false = true) → wpAny P md ops Q' g listed a w) :
    ∀ (f : Nat) (listed : Array Bool) (a : Act) (w : World), Track2 w0 mk N d z listed a w → (∀ listed' a', L listed' a' → n = N + 1 → listed'.getD N false = true) → gAny2 P md ops w0 mk z N n L f listed a → wpAny P md ops Q' (f + g) listed a w
  | 0, listed, a, w, ht, hN, h => by rw [Nat.zero_add]; exact hL _ _ _ h ht (hN _ _ h)
  | f + 1, listed, a, w, ht, hN, h => by
    rw [show f + 1 + g = (f + g) + 1 by omega]
    refine ⟨fun h0 => absurd h0 h.1, fun i hi => ?_⟩
    obtain ⟨hin, hg⟩ := h.2 i hi
    unfold gOp2 at hg
    unfold wpOp
    have hlt : i < ops.size := by
      obtain ⟨_, o, ho, _⟩ := mem_ready.1 hi
      exact (Array.getElem?_eq_some_iff.1 ho).1
    have ho : ops[i]? = some ops[i] := Array.getElem?_eq_getElem hlt
    rw [ho] at hg ⊢
    simp only at hg ⊢
    by_cases hiN : i < N
    · rw [if_pos hiN] at hg
      obtain ⟨v, hy, hk⟩ := hg
      have hdi := hd i _ hiN ho
      obtain ⟨v', hv', hy'⟩ := hy (famOf ht.below)
      rw [← put_same hv'] at hk
      have next : ∀ w'', Below w.heap.size w w'' → wpAny P md ops Q' (f + g) (listed.setIfInBounds i true) (a.put ops[i].dst v') w'' := fun w'' hb => by
        refine wpAny_of_game2 hNn hal hd hL f _ _ w'' ⟨ht.below.trans (hb.mono ht.below.size), fun hl => ?_, by rw [put_size]; exact ht.len⟩ hN hk
        rw [getD_set_ne false (by omega)] at hl
        obtain ⟨b, h1, h2, h3⟩ := ht.slot hl
        refine ⟨b, by rw [put_get_ne hdi]; exact h1, h2, ?_⟩
        rw [hb.block b (by
          rcases Nat.lt_or_ge b w.heap.size with h' | h'
          · exact h'
          · rw [Array.getElem?_eq_none h'] at h3; cases h3)]
        exact h3
      rcases hy' with ⟨hw, hq⟩ | ⟨hw, rfl⟩
      · rw [if_pos hw]
        have h3 := hq w ⟨⟨w, Below.refl _ _⟩, rfl⟩
        refine .inl ?_
        unfold Oper.quietAt at h3
        unfold Oper.wp
        generalize (execOp a.eval ops[i]).run P w = r at *
        cases r with
        | ok nx w' =>
          cases nx <;> simp only [Oper.quietUpon] at h3 <;> simp only [Oper.upon]
          case value u =>
            obtain ⟨e1, e2⟩ := h3
            rw [e1, e2]
            exact next w (Below.refl _ _)
          case skip =>
            obtain ⟨e1, e2⟩ := h3
            rw [e1, ← e2]
            exact next w (Below.refl _ _)
          case enter fn args =>
            obtain ⟨e1, hc⟩ := h3
            rw [e1]
            exact hc.mono fun e w'' ⟨he, x, hw''⟩ => by subst he; rw [hw'']; exact next _ (past_below w x)
        | halt x w' => simp only [Oper.quietUpon] at h3
      · rw [if_neg (by rw [hw]; exact Bool.false_ne_true)]
        exact next w (Below.refl _ _)
    · rw [if_neg hiN] at hg
      have hiN' : i = N := by omega
      subst hiN'
      obtain ⟨o, ho', hod, hgd⟩ := hal (by omega)
      have hoo : ops[i] = o := by rw [ho] at ho'; exact Option.some.inj ho'
      rw [hoo] at hg ⊢
      rw [if_pos (by simp [Region.wanted, hgd])]
      refine .inl ?_
      unfold Oper.wp
      rw [hg.1]
      simp only [Oper.upon]
      refine wpAny_of_game2 hNn hal hd hL f _ _ _ ⟨ht.below.alloc ht.below.size _, fun _ => ⟨w.heap.size, ?_, ht.below.size, ?_⟩, by rw [put_size]; exact ht.len⟩ hN (hg.2 _ ht.below.size)
      · rw [hod]; exact put_get ht.len
      · exact (MapKept.heap_alloc w _).1

/-- Reads and calls, then ONE new variable, then the tail. -/
theorem wp_region_mix2 {id : Nat} {Q : Exit → Act → World → Prop} {a : Act} {w : World} {l : List Oper} (N : Nat) (d : Tmp) (mk : Nat → Value) (z : Obj) (A : Act) (hm : P.follows .mixedOrders = true) (hB : mixB l N (N + 1) d = true)
    (hlen : dstIn a.tmps.size (l.take N) = true ∧ d < a.tmps.size)
    (hal : ∃ o, l[N]? = some o ∧ o.dst = some d ∧ o.guard = none)
    (h : ∀ F : Fam w.drew, wpQuiet P l.toArray (fun w' => ∃ x, w' = F.f x) (fun a' => a' = A) (l.take N) a)
    (hinj : ∀ b b', mk b = mk b' → b = b')
    (hrun : ∀ o, l[N]? = some o → ∀ w, (execOp A.eval o).run P w = .ok (.value (mk w.heap.size)) (w.alloc z))
    (hend : ∀ b w', w.heap.size ≤ b → Below w.heap.size w w' → w'.heap[b]? = some z → wpList P l.toArray Q (l.drop (N + 1)) (A.put (some d) (mk b)) w') :
    (Code.region id l.toArray true).wp P Q a w := by
  simp only [mixB, Bool.and_eq_true, decide_eq_true_eq] at hB
  obtain ⟨⟨⟨⟨⟨⟨hsel, hn⟩, hs⟩, hc⟩, hlex⟩, hdd⟩, hdn⟩ := hB
  have htl : (l.take N).length = N := by simp; omega
  have hH := wpHead_of (P := P) (ops := l.toArray) (w0 := w.drew) hdd hlen.1 ⟨famOf (Below.refl _ _)⟩ h
  have inv0 : HeadInv .any l.toArray (N + 1) (Array.replicate l.length false) :=
    ⟨by simp, fun j oj _ hl => (by rw [getD_replicate_false] at hl; cases hl), fun t _ ht => getD_in (by simpa using ht) (getD_replicate_false _ _)⟩
  have hd : ∀ i o, i < N → l.toArray[i]? = some o → o.dst ≠ some d := fun i o hi ho => by
    have h1 := List.all_eq_true.1 hdn o (List.mem_of_getElem? (i := i) (by rw [List.getElem?_take]; simpa [hi] using ho))
    simpa using h1
  obtain ⟨o, ho, hod, hgd⟩ := hal
  have G := gAny_lex2 (P := P) (md := .any) (w0 := w.drew) (N := N) (n := N + 1) (g := l.length - N) (m := 1) (Lq := fun a' => a' = A) hsel hs hc (by simpa using hn) (by omega)
    (fun listed a' hLq hsq => by
      obtain ⟨g', hg'⟩ : ∃ g', l.length - N = g' + 1 := ⟨l.length - N - 1, by omega⟩
      rw [hg'] at hsq
      obtain ⟨hr, hs'⟩ := seqB_succ hsq
      refine ⟨by rw [hr]; simp, fun i hi => ?_⟩
      rw [hr] at hi
      have : i = N := by simpa using hi
      subst this
      refine ⟨by omega, ?_⟩
      unfold gOp2
      rw [show l.toArray[i]? = some o by simpa using ho]
      simp only
      rw [if_neg (Nat.lt_irrefl _)]
      refine ⟨by rw [show a' = A from hLq]; exact hrun o ho, fun b hb => ?_⟩
      have hrd : i ∈ Region.ready .any l.toArray listed := by rw [hr]; exact List.mem_singleton.2 rfl
      have hun := (mem_ready.1 hrd).1
      have hsz : i < listed.size := by
        rcases Nat.lt_or_ge i listed.size with h' | h'
        · exact h'
        · simp [Array.getElem?_eq_none h'] at hun
      exact ⟨by rw [hg']; exact hs', fun _ => by simp [hsz], a', hLq, .inr ⟨trivial, o, b, by simp, hb, rfl⟩⟩)
    (fun listed hsq => seqB_ready hsq) (l.take N) 0 (Array.replicate l.length false) a (fun j hj => by
      have hj' : j < N := by rw [htl] at hj; exact hj
      simp [hj']) (by simpa using htl) inv0 (by rw [htl]; exact hlex) hH
  refine wp_region_any hm ?_
  have hfin := wpAny_of_game2 (P := P) (md := .any) (w0 := w.drew) (N := N) (n := N + 1) (g := l.length - N - 1) (d := d) (z := z) (Q' := Q) ⟨by omega, by omega⟩
    (fun _ => ⟨o, by simpa using ho, hod, hgd⟩) hd
    (fun listed a' w' hL ht _ => by
      obtain ⟨hsq, hl2, a0, rfl, hcase⟩ := hL
      rcases hcase with ⟨h0, _⟩ | ⟨_, o', b, ho', hb, rfl⟩
      · omega
      · have : o' = o := by
          have h2 : l.toArray[N]? = some o := by simpa using ho
          rw [h2] at ho'; exact (Option.some.inj ho').symm
        subst this
        rw [hod] at ht ⊢
        have := wpAny_of_seq (P := P) (ops := l.toArray) (md := .any) (Q' := Q) (l.drop (N + 1)) (N + 1) listed (a0.put (some d) (mk b)) w' (fun j => by simp [List.getElem?_drop]) (by
            rw [List.length_drop, show l.length - (N + 1) = l.length - N - 1 by omega]; exact hsq) (by
            refine hend b w' hb ⟨ht.below.os, ht.below.tape, ht.below.output, ht.below.size, ht.below.block⟩ ?_
            have hlt : d < a0.tmps.size := by have := ht.len; rwa [put_size] at this
            obtain ⟨b', h1, _, h3⟩ := ht.slot (hl2 rfl)
            rw [put_get hlt] at h1
            rw [hinj _ _ (Option.some.inj h1)]; exact h3)
        rw [List.length_drop, show l.length - (N + 1) = l.length - N - 1 by omega] at this
        exact this)
    _ _ _ _ ⟨Below.refl _ _, fun hl => (by rw [getD_replicate_false] at hl; cases hl), hlen.2⟩ (fun listed' a' hL' _ => hL'.2.1 rfl) G
  rw [htl, show N + 1 + (l.length - N - 1) = l.length by omega] at hfin
  simpa using hfin

theorem mix2 {id : Nat} {Q : Exit → Act → World → Prop} {a : Act} {w : World} {l : List Oper} (N : Nat) (d : Tmp) (hm : P.follows .mixedOrders = true) (hB : mixB l N (N + 1) d = true)
    (hlen : dstIn a.tmps.size (l.take N) = true ∧ d < a.tmps.size)
    (hal : ∃ o, l[N]? = some o ∧ o.dst = some d ∧ o.guard = none)
    (h : ∃ (A : Act) (mk : Nat → Value) (z : Obj), (∀ b b', mk b = mk b' → b = b') ∧ (∀ F : Fam w.drew, wpQuiet P l.toArray (fun w' => ∃ x, w' = F.f x) (fun a' => a' = A) (l.take N) a) ∧
      (∀ o, l[N]? = some o → ∀ w, (execOp A.eval o).run P w = .ok (.value (mk w.heap.size)) (w.alloc z)) ∧
      ∀ b w', w.heap.size ≤ b → Below w.heap.size w w' → w'.heap[b]? = some z → wpList P l.toArray Q (l.drop (N + 1)) (A.put (some d) (mk b)) w') :
    (Code.region id l.toArray true).wp P Q a w := by
  obtain ⟨A, mk, z, h0, h1, h2, h3⟩ := h
  exact wp_region_mix2 N d mk z A hm hB hlen hal h1 h0 h2 h3
end
end Go.Proofs.Ytmklpphdbmpbbaa
