/-
  The engine: a region that draws its order: operations that read, reckon, call or make memory, in any order; then operations in a forced order, which may write. No program in sight.
-/
import Derived.Test.YtampdegpfndggaaEh
namespace Go.Proofs.Ytampdegpfndggaa
open Go.RowKit
set_option linter.unusedVariables false
set_option linter.unusedSimpArgs false
set_option linter.unnecessarySimpa false

/-- What an operation of the head does, its value and the heap behind it told. -/
def Core (P : Program) (o : Oper) (fr : List AV) (hp : List Blk) (G : Mem) (v : AV) (hp' : List Blk) : Prop :=
  (hp' = hp ∧ ∀ (base : Nat) (β : Nm) (ρ : Operand → Value) (w : World), BR base β hp G w → Reads o fr β ρ → ∃ y, (execOp ρ o).run P w = .ok (.value y) w ∧ v.rel β y) ∨
  (∃ x, hp' = hp ++ [x] ∧ ∀ (base : Nat) (β : Nm) (ρ : Operand → Value) (w : World), BR base β hp G w → base ≤ w.heap.size → β hp.length = none → Reads o fr β ρ →
    ∃ y z w', (execOp ρ o).run P w = .ok (.value y) w' ∧ Below w.heap.size w w' ∧ x.rel base (β.put hp.length z) G w' z ∧ (∀ b, blkOf z = some b → w.heap.size ≤ b) ∧ v.rel (β.put hp.length z) y) ∨
  (hp' = hp ∧ ∃ f, ∀ (base : Nat) (β : Nm) (ρ : Operand → Value) (w : World), BR base β hp G w → Reads o fr β ρ → ∃ args, (execOp ρ o).run P w = .ok (.enter f args) w ∧ Calls P f args w fun e w' => ∃ y, e = .returned y ∧ v.rel noName y ∧ Below w.heap.size w w')
theorem RobS.core {P : Program} {o : Oper} {fr : List AV} {hp : List Blk} {G : Mem} {K : AV → List Blk → Prop} (h : RobS P o fr hp G K) : ∃ v hp', Core P o fr hp G v hp' ∧ K v hp' := by
  cases h with
  | pure h => obtain ⟨v, h1, h2⟩ := h; exact ⟨v, hp, .inl ⟨rfl, h2⟩, h1⟩
  | new h => obtain ⟨v, x, h1, h2⟩ := h; exact ⟨v, _, .inr (.inl ⟨x, rfl, h2⟩), h1⟩
  | call v f h1 h2 => exact ⟨v, hp, .inr (.inr ⟨rfl, f, h2⟩), h1⟩
/-- A store into a block that no other operation of the head looks at. -/
def vpst (T : Tab) (hp0 : List Blk) (ks : List Nat) (t : TypeId) (x z : Operand) (fr : List AV) (ps : List (Nat × Blk)) (K : Nat → Blk → Prop) : Prop :=
  withT T t fun i => cellsF (ev fr z) fun cs => lenF cs fun m => testP (Nat.beq m i.size) (testP (AV.cells cs) (match ev fr x with
    | .ptr k o => testP (elemN k ks) (testP (!elemN k (ps.map (·.1))) (match nthB hp0 k with
      | .cells t' l => spliceF l o cs fun l' => K k (.cells t' l')
      | _ => False))
    | _ => False))
/-- What such a store does. -/
def StoreCore (P : Program) (o : Oper) (fr : List AV) (G : Mem) (k : Nat) (old new : Blk) : Prop :=
  ∀ (base : Nat) (β : Nm) (ρ : Operand → Value) (w : World), (∀ y, β k = some y → old.rel base β G w y) → Reads o fr β ρ → ∃ y w' b, β k = some y ∧ (execOp ρ o).run P w = .ok .skip w' ∧ blkOf y = some b ∧ w.grownBy w' (some b) ∧ new.rel base β G w' y
theorem vpst_ok {P : Program} {T : Tab} (hT : TOk P T) {o : Oper} {fr : List AV} {hp0 : List Blk} {G : Mem} {ks : List Nat} {ps : List (Nat × Blk)} {K : Nat → Blk → Prop} {t : TypeId} {x z : Operand} (ho : o.op = .store t x z) (h : vpst T hp0 ks t x z fr ps K) :
    ∃ k old new, hp0[k]? = some old ∧ old.live = true ∧ k ∈ ks ∧ k ∉ ps.map (·.1) ∧ StoreCore P o fr G k old new ∧ K k new := by
  have elem : ∀ (l : List Nat) (k : Nat), elemN k l = true ↔ k ∈ l := by
    intro l
    induction l with
    | nil => intro k; simp [elemN]
    | cons a l ih =>
      intro k
      unfold elemN
      cases hb : Nat.beq k a with
      | true => have := Nat.eq_of_beq_eq_true hb; simp [this]
      | false =>
        have hne : k ≠ a := fun e => by subst e; simp at hb
        simp [ih, hne]
  have hmx : x ∈ o.op.operands.toList := by simp [ho, Op.operands]
  have hmz : z ∈ o.op.operands.toList := by simp [ho, Op.operands]
  obtain ⟨i, hi, h1⟩ := withT_ok hT h
  obtain ⟨cs, h2, hcs⟩ := cellsF_eq h1
  obtain ⟨hlen0, h3⟩ := testP_eq (lenF_eq h2)
  obtain ⟨hcell, h4⟩ := testP_eq h3
  have hlen := Nat.eq_of_beq_eq_true hlen0
  split at h4
  · rename_i k off hx
    obtain ⟨hk1, h5⟩ := testP_eq h4
    obtain ⟨hk2, h6⟩ := testP_eq h5
    split at h6
    · rename_i t' l hl
      have hk := nthB_live hl rfl
      obtain ⟨h8, h9⟩ := spliceF_eq _ _ _ _ h6
      refine ⟨k, _, _, hk, rfl, (elem _ _).1 hk1, fun hm => by rw [(elem _ _).2 hm] at hk2; simp at hk2, ?_, h9⟩
      intro base β ρ w hr0 hf
      have he := hf x hmx
      rw [hx] at he
      simp only [AV.rel] at he
      obtain ⟨v, b, h10, h11, h12⟩ := he
      have hy := h10
      have hr := hr0 v hy
      have hz := hcs _ _ (hf z hmz)
      have hzl : (ρ z).cells.toList.length = i.size := by rw [AV.rels_length hz, hlen]
      have hone := AV.cells_rel hcell hz
      obtain ⟨b', c, rfl, hb1, hb2, hb3, hb4⟩ := hr
      simp [blkOf] at h11; subst h11
      have hcl := AV.rels_length hb4
      have hrun := storeVar_run (P := P) hi (off := off) rfl hb3 hzl (by rw [hzl, ← hlen]; simp at hcl; omega) hone
      generalize hL : (ρ z).cells.toList = L at *
      refine ⟨_, w.setRow b' (c.toList.take off ++ L ++ c.toList.drop (off + L.length)).toArray, b', hy, by simp [execOp, ho, h12, Instr.storeAt, Instr.sureAddr, hrun], rfl, below_grown_setRow _ _ _, b', _, rfl, hb1, hb2, setRow_heap _ _ _ _ _ _ hb3, ?_⟩
      have e : off + L.length = off + cs.length := by rw [AV.rels_length hz]
      rw [e]
      simpa [List.append_assoc] using AV.rels_append (AV.rels_append (AV.rels_take off hb4) hz) (AV.rels_drop (off + cs.length) hb4)
    · exact h6.elim
  · exact h4.elim
/-- One operation of the head. -/
def vhop (P : Program) (T : Tab) (hp0 : List Blk) (ks : List Nat) (op : Op) (fr : List AV) (hp : List Blk) (G : Mem) (ps : List (Nat × Blk)) (K : AV → List Blk → List (Nat × Blk) → Prop) : Prop :=
  match op with
  | .store t x z => vpst T hp0 ks t x z fr ps fun k new => K (.val undef) hp ((k, new) :: ps)
  | op => vrop P T op fr hp G fun v hp' => K v hp' ps
def vrops (P : Program) (T : Tab) (all : List Oper) (hp0 : List Blk) (ks : List Nat) (l : List Oper) : List AV → List Blk → Mem → List (Nat × Blk) → (List AV → List Blk → List (Nat × Blk) → Prop) → Prop :=
  List.rec (motive := fun _ => List AV → List Blk → Mem → List (Nat × Blk) → (List AV → List Blk → List (Nat × Blk) → Prop) → Prop) (fun fr hp _ ps K => K fr hp ps)
    (fun o _ ih fr hp G ps K => guardF all o.guard fr (vhop P T hp0 ks o.op fr hp G ps fun v hp' ps' => putF o.dst v fr fun fr' => ih fr' hp' G ps' K) (putF o.dst (.val undef) fr fun fr' => ih fr' hp G ps K)) l
theorem vrops_cons {P : Program} {T : Tab} {all : List Oper} {hp0 : List Blk} {ks : List Nat} {o : Oper} {rest : List Oper} {fr : List AV} {hp : List Blk} {G : Mem} {ps : List (Nat × Blk)} {K : List AV → List Blk → List (Nat × Blk) → Prop} :
    vrops P T all hp0 ks (o :: rest) fr hp G ps K = guardF all o.guard fr (vhop P T hp0 ks o.op fr hp G ps fun v hp' ps' => putF o.dst v fr fun fr' => vrops P T all hp0 ks rest fr' hp' G ps' K) (putF o.dst (.val undef) fr fun fr' => vrops P T all hp0 ks rest fr' hp G ps K) := rfl
/-- A slot's value is as the frame says, at the slots that the operation looks at. -/
def Agree (ops : List Oper) (o : Oper) (fr : List AV) (β : Nm) (a : Act) : Prop := ∀ x ∈ o.looksAt ops.toArray, ∀ v, fr[x]? = some v → ∃ y, a.tmps[x]? = some y ∧ v.rel β y
theorem Agree.reads {ops : List Oper} {o : Oper} {fr : List AV} {β : Nm} {a : Act} (h : Agree ops o fr β a) : Reads o fr β a.eval := by
  intro x hx
  cases x with
  | tmp t =>
    simp only [ev, Act.eval, nthA_eq]
    cases hb : fr[t]? with
    | none => simp only [Option.getD_none, AV.rel]
    | some b =>
      obtain ⟨y, h1, h2⟩ := h t (List.mem_append_left _ (List.mem_filterMap.2 ⟨.tmp t, by simpa using hx, rfl⟩)) b hb
      have : a.tmps.getD t undef = y := by
        rw [Array.getD_eq_getD_getElem?]; simp [h1]
      rw [this]; exact h2
  | const v => simp only [ev, Act.eval, AV.rel]
  | global g => simp only [ev, Act.eval, AV.rel]
  | func f => simp only [ev, Act.eval, AV.rel]
/-- Whether a guard lets the operation run: known of the frame, whatever the world. -/
theorem guard_known {ops : List Oper} {o : Oper} {fr : List AV} {A B : Prop} (h : guardF ops o.guard fr A B) :
    (A ∧ ∀ β a, Agree ops o fr β a → Region.wanted o (yielded ops.toArray a.tmps) = true) ∨ (B ∧ ∀ β a, Agree ops o fr β a → Region.wanted o (yielded ops.toArray a.tmps) = false) := by
  unfold guardF at h
  split at h
  · rename_i hg; exact .inl ⟨h, fun β a _ => by simp [Region.wanted, hg]⟩
  · rename_i j want hg
    split at h
    · rename_i d hd
      rw [dstAt_eq] at hd
      have hlook : d ∈ o.looksAt ops.toArray := by
        refine List.mem_append_right _ ?_
        have : (ops.toArray[j]?).bind (·.dst) = some d := by simpa using hd
        simp [hg]
        simpa using this
      have key : ∀ (v : AV), nthA fr d = v → v ≠ .any → ∀ β a, Agree ops o fr β a → ∃ y, a.tmps[d]? = some y ∧ v.rel β y := by
        intro v hv hne β a ha
        rw [nthA_eq] at hv
        cases hx : fr[d]? with
        | none => rw [hx] at hv; exact absurd hv.symm hne
        | some x =>
          rw [hx] at hv; simp at hv; subst hv
          exact ha d hlook _ hx
      have hdst : (ops.toArray[j]?).bind (·.dst) = some d := by simpa using hd
      split at h
      · rename_i b hb
        have hy : ∀ β a, Agree ops o fr β a → yielded ops.toArray a.tmps j = some b := fun β a ha => by
          obtain ⟨y, h1, h2⟩ := key _ hb (by simp) β a ha
          simp only [AV.rel] at h2
          subst h2
          unfold yielded; rw [hdst]; simp [h1]
        split at h
        · cases b
          · exact .inr ⟨h.no rfl, fun β a ha => by simp [Region.wanted, hg, hy β a ha]⟩
          · exact .inl ⟨h.yes rfl, fun β a ha => by simp [Region.wanted, hg, hy β a ha]⟩
        · cases b
          · exact .inl ⟨h.no rfl, fun β a ha => by simp [Region.wanted, hg, hy β a ha]⟩
          · exact .inr ⟨h.yes rfl, fun β a ha => by simp [Region.wanted, hg, hy β a ha]⟩
      · rename_i vs hb
        refine .inr ⟨h, fun β a ha => ?_⟩
        obtain ⟨y, h1, h2⟩ := key _ hb (by simp) β a ha
        simp only [AV.rel] at h2
        subst h2
        have hy : yielded ops.toArray a.tmps j = none := by
          unfold yielded; rw [hdst]; simp [h1]
        simp [Region.wanted, hg, hy]
      · exact h.elim
    · exact h.elim
/-- The first one is the beginning of the second. -/
def Pre (hp hq : List Blk) : Prop := ∃ r, hq = hp ++ r
theorem Pre.refl (hp : List Blk) : Pre hp hp := ⟨[], by simp⟩
theorem Pre.trans {a b c : List Blk} (h : Pre a b) (k : Pre b c) : Pre a c := by
  obtain ⟨r, rfl⟩ := h; obtain ⟨s, rfl⟩ := k; exact ⟨r ++ s, by simp⟩
theorem Pre.get {a b : List Blk} (h : Pre a b) {k : Nat} {x : Blk} (hx : a[k]? = some x) : b[k]? = some x := by
  obtain ⟨r, rfl⟩ := h
  rw [List.getElem?_append_left (List.getElem?_eq_some_iff.1 hx).1]; exact hx
theorem Pre.len {a b : List Blk} (h : Pre a b) : a.length ≤ b.length := by obtain ⟨r, rfl⟩ := h; simp
/-- What is known of operation number i of the head: its store, if it is one, is told by 'st'. -/
structure Seen (P : Program) (all : List Oper) (G : Mem) (base0 : List Blk) (ks : List Nat) (fr0 frF : List AV) (hp0 hpF : List Blk) (ds : List (Option Tmp)) (i : Nat) (o : Oper) (lo hi : Nat) (st : Option (Nat × Blk)) : Prop where
  out : ∃ fr hp hp' v, hp.length = lo ∧ hp'.length = hi ∧ Pre hp0 hp ∧ Pre hp hp' ∧ Pre hp' hpF ∧ (∀ x, fr[x]? = if some x ∈ ds.take i then frF[x]? else fr0[x]?) ∧ (∀ d, o.dst = some d → d < fr0.length → frF[d]? = some v) ∧
    (((∀ β a, Agree all o fr β a → Region.wanted o (yielded all.toArray a.tmps) = true) ∧ st = none ∧ Core P o fr hp G v hp') ∨ ((∀ β a, Agree all o fr β a → Region.wanted o (yielded all.toArray a.tmps) = false) ∧ st = none ∧ v = .val undef ∧ hp' = hp) ∨
      ((∀ β a, Agree all o fr β a → Region.wanted o (yielded all.toArray a.tmps) = true) ∧ v = .val undef ∧ hp' = hp ∧ ∃ k old new, st = some (k, new) ∧ base0[k]? = some old ∧ old.live = true ∧ k ∈ ks ∧ StoreCore P o fr G k old new))
theorem trace {P : Program} {T : Tab} (hT : TOk P T) {all : List Oper} {G : Mem} {base0 : List Blk} {ks : List Nat} : ∀ (l : List Oper) (fr : List AV) (hp : List Blk) (ps : List (Nat × Blk)) (K : List AV → List Blk → List (Nat × Blk) → Prop), (l.filterMap (·.dst)).Nodup → vrops P T all base0 ks l fr hp G ps K →
    ∃ frF hpF psF, K frF hpF psF ∧ Pre hp hpF ∧ frF.length = fr.length ∧ (∀ x, some x ∉ l.map (·.dst) → frF[x]? = fr[x]?) ∧ ∃ (lo : Nat → Nat) (st : Nat → Option (Nat × Blk)), lo 0 = hp.length ∧ (∀ i, lo i ≤ lo (i + 1)) ∧
      (∀ i o, l[i]? = some o → Seen P all G base0 ks fr frF hp hpF (l.map (·.dst)) i o (lo i) (lo (i + 1)) (st i)) ∧
      (∀ i, l.length ≤ i → st i = none) ∧ (∀ i k new, st i = some (k, new) → k ∉ ps.map (·.1)) ∧ (∀ i j k new new', st i = some (k, new) → st j = some (k, new') → i = j) ∧
      (∀ k new, (k, new) ∈ psF ↔ (k, new) ∈ ps ∨ ∃ i, st i = some (k, new))
  | [], fr, hp, ps, K, _, h => ⟨fr, hp, ps, h, Pre.refl _, rfl, fun _ _ => rfl, fun _ => hp.length, fun _ => none, rfl, fun _ => Nat.le_refl _, (fun i o hi => by simp at hi), fun _ _ => rfl, (fun i k new h => by cases h), (fun i j k a b h => by cases h), (fun k new => by simp)⟩
  | o :: l, fr, hp, ps, K, hnd, h => by
    -- the step
    have step : ∃ v fr' hp' ps' st, vrops P T all base0 ks l fr' hp' G ps' K ∧ Pre hp hp' ∧ (fr' = match o.dst with | some d => fr.set d v | none => fr) ∧
        ((st = none ∧ ps' = ps) ∨ ∃ k new, st = some (k, new) ∧ ps' = (k, new) :: ps ∧ k ∉ ps.map (·.1)) ∧
        (((∀ β a, Agree all o fr β a → Region.wanted o (yielded all.toArray a.tmps) = true) ∧ st = none ∧ Core P o fr hp G v hp') ∨ ((∀ β a, Agree all o fr β a → Region.wanted o (yielded all.toArray a.tmps) = false) ∧ st = none ∧ v = .val undef ∧ hp' = hp) ∨
          ((∀ β a, Agree all o fr β a → Region.wanted o (yielded all.toArray a.tmps) = true) ∧ v = .val undef ∧ hp' = hp ∧ ∃ k old new, st = some (k, new) ∧ base0[k]? = some old ∧ old.live = true ∧ k ∈ ks ∧ StoreCore P o fr G k old new)) := by
      have put : ∀ (v : AV) (K' : List AV → Prop), putF o.dst v fr K' → K' (match o.dst with | some d => fr.set d v | none => fr) := by
        intro v K' hk
        unfold putF at hk
        split at hk
        · rename_i d hd; rw [forceA_eq, setF_eq] at hk; simpa [hd] using hk
        · rename_i hd; simpa [hd] using hk
      rw [vrops_cons] at h
      rcases guard_known h with ⟨h1, h2⟩ | ⟨h1, h2⟩
      · generalize ho : o.op = op at h1
        unfold vhop at h1
        split at h1
        · rename_i t x z
          obtain ⟨k, old, new, q1, q2, q3, q4, q5, q6⟩ := vpst_ok (P := P) (G := G) hT ho h1
          exact ⟨_, _, hp, _, some (k, new), put _ _ q6, Pre.refl _, rfl, .inr ⟨k, new, rfl, rfl, q4⟩, .inr (.inr ⟨h2, rfl, rfl, k, old, new, rfl, q1, q2, q3, q5⟩)⟩
        · rw [← ho] at h1
          obtain ⟨v, hp', h3, h4⟩ := (vrop_ok hT h1).core
          refine ⟨v, _, hp', ps, none, put v _ h4, ?_, rfl, .inl ⟨rfl, rfl⟩, .inl ⟨h2, rfl, h3⟩⟩
          rcases h3 with ⟨rfl, _⟩ | ⟨x, rfl, _⟩ | ⟨rfl, _⟩
          · exact Pre.refl _
          · exact ⟨_, rfl⟩
          · exact Pre.refl _
      · exact ⟨_, _, hp, ps, none, put _ _ h1, Pre.refl _, rfl, .inl ⟨rfl, rfl⟩, .inr (.inl ⟨h2, rfl, rfl, rfl⟩)⟩
    obtain ⟨v, fr', hp', ps', st0, h1, h2, h3, h5, h4⟩ := step
    have hnd' : (l.filterMap (·.dst)).Nodup := by
      cases hd : o.dst with
      | none => simpa [hd] using hnd
      | some d => rw [List.filterMap_cons_some hd] at hnd; exact hnd.of_cons
    obtain ⟨frF, hpF, psF, g1, g2, g3, g4, lo, st, g5, g6, g7, g8, g9, g10, g11⟩ := trace hT l fr' hp' ps' K hnd' h1
    have hlen : fr'.length = fr.length := by rw [h3]; split <;> simp
    have hdl : ∀ d, o.dst = some d → some d ∉ l.map (·.dst) := fun d hd hm => by
      rw [List.filterMap_cons_some hd] at hnd
      refine (List.nodup_cons.1 hnd).1 ?_
      obtain ⟨o', h5, h6⟩ := List.mem_map.1 hm
      exact List.mem_filterMap.2 ⟨o', h5, h6⟩
    have hfr' : ∀ x, some x ≠ o.dst → fr'[x]? = fr[x]? := fun x hx => by
      rw [h3]
      split
      · rename_i d hd; rw [List.getElem?_set_ne (fun e => hx (by rw [hd, e]))]
      · rfl
    have hps : ∀ x, x ∈ ps → x ∈ ps' := fun x hx => by
      rcases h5 with ⟨_, e⟩ | ⟨k, new, _, e, _⟩ <;> rw [e]
      · exact hx
      · exact List.mem_cons_of_mem _ hx
    refine ⟨frF, hpF, psF, g1, h2.trans g2, g3.trans hlen, fun x hx => ?_, fun i => match i with | 0 => hp.length | i + 1 => lo i, fun i => match i with | 0 => st0 | i + 1 => st i, rfl, fun i => ?_, fun i q hq => ?_, fun i hi => ?_, fun i k new hi => ?_, fun i j k a b hi hj => ?_, fun k new => ?_⟩
    · rw [List.map_cons, List.mem_cons, not_or] at hx
      rw [g4 x hx.2, hfr' x hx.1]
    · cases i with
      | zero => show hp.length ≤ lo 0; rw [g5]; exact h2.len
      | succ i => exact g6 i
    · cases i with
      | zero =>
        simp at hq; subst hq
        refine ⟨fr, hp, hp', v, rfl, by show hp'.length = lo 0; rw [g5], Pre.refl _, h2, g2, fun x => by simp, fun d hd hlt => ?_, h4⟩
        rw [g4 d (hdl d hd), h3, hd]
        simp [hlt]
      | succ i =>
        obtain ⟨fr2, hp2, hp2', v2, k1, k2, k3, k4, k5, k6, k7, k8⟩ := (g7 i q (by simpa using hq)).out
        refine ⟨fr2, hp2, hp2', v2, k1, k2, h2.trans k3, k4, k5, fun x => ?_, fun d hd hlt => k7 d hd (by rw [hlen]; exact hlt), k8⟩
        rw [k6 x, List.map_cons, List.take_succ_cons]
        by_cases hx : some x = o.dst
        · have h5 : some x ∉ (l.map (·.dst)).take i := fun hm => hdl x hx.symm (List.mem_of_mem_take hm)
          rw [if_neg h5, if_pos (by rw [hx]; simp)]
          have h6 : some x ∉ l.map (·.dst) := hdl x hx.symm
          rw [g4 x h6]
        · rw [hfr' x hx]
          by_cases hm : some x ∈ (l.map (·.dst)).take i
          · rw [if_pos hm, if_pos (List.mem_cons_of_mem _ hm)]
          · rw [if_neg hm, if_neg (by rw [List.mem_cons]; simp [hx, hm])]
    · cases i with
      | zero => simp at hi
      | succ i => exact g8 i (by simpa using hi)
    · cases i with
      | zero =>
        rcases h5 with ⟨e, _⟩ | ⟨k', new', e, _, h6⟩
        · simp only at hi; rw [e] at hi; cases hi
        · simp only at hi; rw [e] at hi; cases hi; exact h6
      | succ i => exact fun hm => g9 i k new hi (by
          obtain ⟨x, hx1, hx2⟩ := List.mem_map.1 hm
          exact List.mem_map.2 ⟨x, hps x hx1, hx2⟩)
    · have cross : ∀ j a b, st0 = some (k, a) → st j = some (k, b) → False := fun j a b e1 e2 => by
        rcases h5 with ⟨e, _⟩ | ⟨k', new', e, e', _⟩
        · rw [e] at e1; cases e1
        · rw [e] at e1; cases e1
          exact g9 j k b e2 (by rw [e']; simp)
      cases i with
      | zero =>
        cases j with
        | zero => rfl
        | succ j => exact (cross j a b hi hj).elim
      | succ i =>
        cases j with
        | zero => exact (cross i b a hj hi).elim
        | succ j => rw [g10 i j k a b hi hj]
    · rw [g11]
      constructor
      · rintro (h6 | ⟨i, h6⟩)
        · rcases h5 with ⟨_, e⟩ | ⟨k', new', e1, e, _⟩
          · rw [e] at h6; exact .inl h6
          · rw [e] at h6
            rcases List.mem_cons.1 h6 with h7 | h7
            · exact .inr ⟨0, by simp only; rw [e1, h7]⟩
            · exact .inl h7
        · exact .inr ⟨i + 1, h6⟩
      · rintro (h6 | ⟨i, h6⟩)
        · exact .inl (hps _ h6)
        · cases i with
          | zero =>
            simp only at h6
            rcases h5 with ⟨e, _⟩ | ⟨k', new', e1, e, _⟩
            · rw [e] at h6; cases h6
            · rw [e1] at h6; cases h6; rw [e]; exact .inl (by simp)
          | succ i => exact .inr ⟨i, h6⟩

/-! ### The order -/
def depB (o : Oper) (j : Nat) : Bool := o.after.toList.any fun e => Region.binds .any e && Nat.beq e.on j
theorem depB_eq {o : Oper} {j : Nat} (h : depB o j = true) : ∃ e ∈ o.after, Region.binds .any e = true ∧ e.on = j := by
  unfold depB at h
  obtain ⟨e, h1, h2⟩ := List.any_eq_true.1 h
  simp only [Bool.and_eq_true] at h2
  exact ⟨e, by simpa using h1, h2.1, Nat.eq_of_beq_eq_true h2.2⟩
/-- What an operation waits for, directly or not. -/
def waitsB (ops : List Oper) : Nat → Nat → Nat → Bool
  | 0, _, _ => false
  | n + 1, i, j => match ops[i]? with
    | none => false
    | some o => depB o j || (List.range i).any fun k => depB o k && waitsB ops n k j
def drawB (ops : List Oper) (N : Nat) : Bool :=
  Nat.ble N ops.length &&
  (ops.zipIdx.all fun (o, i) => o.after.toList.all fun e => !Region.binds .any e || Nat.blt e.on i) &&
  ((ops.take N).zipIdx.all fun (o, i) => (o.looksAt ops.toArray).all fun x => (ops.take N).zipIdx.all fun (q, j) => !(q.dst == some x) || Nat.beq i j || (Nat.blt j i && depB o j) || (Nat.blt i j && depB q i)) &&
  decide ((ops.take N).filterMap (·.dst)).Nodup &&
  ((ops.zipIdx.drop N).all fun (_, i) => (List.range i).all fun j => waitsB ops 6 i j)
structure DrawOk (ops : List Oper) (N : Nat) : Prop where
  le : N ≤ ops.length
  edge : ∀ (i : Nat) o, ops[i]? = some o → ∀ e ∈ o.after, Region.binds .any e = true → e.on < i
  look : ∀ (i : Nat) o, i < N → ops[i]? = some o → ∀ x ∈ o.looksAt ops.toArray, ∀ (j : Nat) q, j < N → ops[j]? = some q → q.dst = some x → i = j ∨ (j < i ∧ depB o j = true) ∨ (i < j ∧ depB q i = true)
  nodup : ((ops.take N).filterMap (·.dst)).Nodup
  tail : ∀ (i : Nat) o, N ≤ i → ops[i]? = some o → ∀ j, j < i → waitsB ops 6 i j = true
theorem all_zipIdx {α : Type} {l : List α} {p : α × Nat → Bool} (h : l.zipIdx.all p = true) {i : Nat} {x : α} (hx : l[i]? = some x) : p (x, i) = true := by
  rw [List.all_eq_true] at h
  exact h _ (by rw [List.mem_zipIdx_iff_getElem?]; simpa using hx)
theorem drawB_ok {ops : List Oper} {N : Nat} (h : drawB ops N = true) : DrawOk ops N := by
  simp only [drawB, Bool.and_eq_true] at h
  obtain ⟨⟨⟨⟨h1, h2⟩, h3⟩, h4⟩, h5⟩ := h
  refine ⟨Nat.le_of_ble_eq_true h1, fun i o ho e he hb => ?_, fun i o hi ho x hx j q hj hq hd => ?_, of_decide_eq_true h4, fun i o hi ho j hj => ?_⟩
  · have := all_zipIdx h2 ho
    rw [List.all_eq_true] at this
    have := this e (by simpa using he)
    simp only [hb, Bool.not_true, Bool.false_or] at this
    exact lt_of_blt this
  · have ho' : (ops.take N)[i]? = some o := by rw [List.getElem?_take, if_pos hi]; exact ho
    have hq' : (ops.take N)[j]? = some q := by rw [List.getElem?_take, if_pos hj]; exact hq
    have := all_zipIdx h3 ho'
    rw [List.all_eq_true] at this
    have := all_zipIdx (this x hx) hq'
    simp only [hd, beq_self_eq_true, Bool.not_true, Bool.false_or, Bool.or_eq_true, Bool.and_eq_true] at this
    rcases this with (h6 | ⟨h6, h7⟩) | ⟨h6, h7⟩
    · exact .inl (Nat.eq_of_beq_eq_true h6)
    · exact .inr (.inl ⟨lt_of_blt h6, h7⟩)
    · exact .inr (.inr ⟨lt_of_blt h6, h7⟩)
  · rw [List.all_eq_true] at h5
    have hm : (o, i) ∈ ops.zipIdx.drop N := by
      rw [List.mem_iff_getElem?]
      refine ⟨i - N, ?_⟩
      rw [List.getElem?_drop, show N + (i - N) = i by omega, List.getElem?_zipIdx, ho]; simp
    have := h5 _ hm
    rw [List.all_eq_true] at this
    exact this j (List.mem_range.2 hj)
/-- How many have not come up. -/
def unl (listed : Array Bool) : Nat → Nat
  | 0 => 0
  | n + 1 => unl listed n + (if listed.getD n true = false then 1 else 0)
theorem unl_set {listed : Array Bool} {i : Nat} (hi : listed.getD i true = false) : ∀ (n : Nat), unl (listed.setIfInBounds i true) n + (if i < n then 1 else 0) = unl listed n
  | 0 => by simp [unl]
  | n + 1 => by
    have ih := unl_set hi n
    have hlt : i < listed.size := by
      rcases Nat.lt_or_ge i listed.size with h | h
      · exact h
      · simp [Array.getD, Nat.not_lt.2 h] at hi
    simp only [unl]
    by_cases hin : i = n
    · subst hin
      have h1 : (listed.setIfInBounds i true).getD i true = true := by simp [Array.getD, hlt]
      rw [h1, hi]
      simp at ih ⊢
      omega
    · have h1 : (listed.setIfInBounds i true).getD n true = listed.getD n true := by
        rw [Array.getD_eq_getD_getElem?, Array.getD_eq_getD_getElem?, Array.getElem?_setIfInBounds_ne hin]
      rw [h1]
      have e : (if i < n + 1 then 1 else 0) = (if i < n then 1 else 0) := by
        by_cases h : i < n
        · simp [h, show i < n + 1 by omega]
        · simp [h, show ¬ i < n + 1 by omega]
      rw [e]; omega
theorem unl_zero {listed : Array Bool} : ∀ (n : Nat), unl listed n = 0 → ∀ i, i < n → listed.getD i true = true
  | 0, _, i, h => by omega
  | n + 1, h, i, hi => by
    simp only [unl] at h
    rcases Nat.lt_or_ge i n with h1 | h1
    · exact unl_zero n (by omega) i h1
    · have : i = n := by omega
      subst this
      cases hl : listed.getD i true with
      | true => rfl
      | false => rw [hl] at h; simp at h
theorem unl_pos {listed : Array Bool} : ∀ (n : Nat), unl listed n ≠ 0 → ∃ i, i < n ∧ listed.getD i true = false ∧ ∀ j, j < i → listed.getD j true = true
  | 0, h => by simp [unl] at h
  | n + 1, h => by
    by_cases h0 : unl listed n = 0
    · refine ⟨n, by omega, ?_, unl_zero n h0⟩
      simp only [unl, h0] at h
      cases hl : listed.getD n true with
      | false => rfl
      | true => rw [hl] at h; simp at h
    · obtain ⟨i, h1, h2, h3⟩ := unl_pos n h0
      exact ⟨i, by omega, h2, h3⟩
end Go.Proofs.Ytampdegpfndggaa
