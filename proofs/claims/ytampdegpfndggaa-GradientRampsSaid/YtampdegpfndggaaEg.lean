/-
  The engine: any operation, any region whose order is fixed, any code. No program in sight.
-/
import Derived.Test.YtampdegpfndggaaEf
namespace Go.Proofs.Ytampdegpfndggaa
open Go.RowKit
set_option linter.unusedVariables false
set_option linter.unusedSimpArgs false
set_option linter.unnecessarySimpa false

theorem vPick_ok {P : Program} {o : Oper} {fr : List AV} {hp : List Blk} {G : Mem} {K : AV → Prop} {c x y : Operand} (ho : o.op = .pick c x y) (h : withBool (ev fr c) fun b => condP b (K (ev fr x)) (K (ev fr y))) : PureS P o fr hp G K := by
  have hmc : c ∈ o.op.operands.toList := by simp [ho, Op.operands]
  have hmx : x ∈ o.op.operands.toList := by simp [ho, Op.operands]
  have hmy : y ∈ o.op.operands.toList := by simp [ho, Op.operands]
  obtain ⟨b, h1, h2⟩ := withBool_eq h
  cases b
  · refine ⟨_, h2.no rfl, fun base β ρ w hr hf => ?_⟩
    have hc := hf c hmc
    rw [h1] at hc; simp only [AV.rel] at hc
    exact ⟨ρ y, by simp [execOp, ho, hc, asBool], hf y hmy⟩
  · refine ⟨_, h2.yes rfl, fun base β ρ w hr hf => ?_⟩
    have hc := hf c hmc
    rw [h1] at hc; simp only [AV.rel] at hc
    exact ⟨ρ x, by simp [execOp, ho, hc, asBool], hf x hmx⟩
def vop (P : Program) (T : Tab) (op : Op) (fr : List AV) (hp : List Blk) (G : Mem) (K : AV → List Blk → Mem → Prop) : Prop :=
  match op with
  | .move x => K (ev fr x) hp G
  | .assign x => K (ev fr x) hp G
  | .alloc e => vAlloc T e hp G K
  | .box e x => vBox e x fr hp G K
  | .build t ps => vBuild T t ps fr fun v => K v hp G
  | .buildSlice t n ps => vBuildSlice T t n ps fr hp G K
  | .load t x => vLoad T t x fr hp G K
  | .store t x z => vStore T t x z fr hp G K
  | .nilCheck x => vNilCheck x fr fun v => K v hp G
  | .binOp op t x y _ => vBin P op t x y fr fun v => K v hp G
  | .unOp op _ x => vUn op x fr fun v => K v hp G
  | .convert s d x => vConv T s d x fr fun v => K v hp G
  | .makeFunc f a b => vMakeFunc f a b fr fun v => K v hp G
  | .makeSlice t x y => vMakeSlice T t x y fr hp G K
  | .slice t x lo hi none => vSlice T t x lo hi fr fun v => K v hp G
  | .fieldAddr s x n => vFieldAddr T s x n fr fun v => K v hp G
  | .field s x n => vField T s x n fr fun v => K v hp G
  | .indexAddr t x i => vIndexAddr T t x i fr hp fun v => K v hp G
  | .index t x i => vIndex T t x i fr fun v => K v hp G
  | .extract x n => vExtract x n fr fun v => K v hp G
  | .pick c x y => withBool (ev fr c) fun b => condP b (K (ev fr x) hp G) (K (ev fr y) hp G)
  | .call ⟨.value f, xs, _⟩ => evsF fr xs.toList fun args => vFunc P (ev fr f) args hp G K
  | .call ⟨.builtin .len, ⟨[x]⟩, ⟨[t]⟩⟩ => vLen T t (ev fr x) hp fun v => K v hp G
  | .call ⟨.builtin .append, ⟨[d, x]⟩, ⟨[t, t']⟩⟩ => testP (Nat.beq t t') (vAppend T t (ev fr d) (ev fr x) hp G K)
  | .call ⟨.builtin .min, ⟨[x, y]⟩, _⟩ => vMin2 true (ev fr x) (ev fr y) fun v => K v hp G
  | .call ⟨.builtin .max, ⟨[x, y]⟩, _⟩ => vMin2 false (ev fr x) (ev fr y) fun v => K v hp G
  | _ => False
theorem vop_ok {P : Program} {T : Tab} (hT : TOk P T) {o : Oper} {fr : List AV} {hp : List Blk} {G : Mem} {K : AV → List Blk → Mem → Prop} (h : vop P T o.op fr hp G K) : OpS P o fr hp G K := by
  generalize ho : o.op = op at h
  unfold vop at h
  split at h
  · exact OpS.of_run (RunS.pure ⟨_, h, fun base β ρ w hr hf => ⟨_, by simp [execOp, ho]; (try rfl), hf _ (by simp [ho, Op.operands])⟩⟩)
  · exact OpS.of_run (RunS.pure ⟨_, h, fun base β ρ w hr hf => ⟨_, by simp [execOp, ho]; (try rfl), hf _ (by simp [ho, Op.operands])⟩⟩)
  · exact OpS.of_run (RunS.new (vAlloc_ok hT ho h))
  · exact OpS.of_run (RunS.new (vBox_ok ho h))
  · exact OpS.of_run (RunS.pure (vBuild_ok hT ho h))
  · exact OpS.of_run (RunS.new (vBuildSlice_ok hT ho h))
  · exact OpS.of_run (RunS.pure (vLoad_ok hT ho h))
  · exact OpS.of_run (vStore_ok hT ho h)
  · exact OpS.of_run (RunS.pure (vNilCheck_ok ho h))
  · exact OpS.of_run (RunS.pure (vBin_ok ho h))
  · exact OpS.of_run (RunS.pure (vUn_ok ho h))
  · exact OpS.of_run (RunS.pure (vConv_ok hT ho h))
  · exact OpS.of_run (RunS.pure (vMakeFunc_ok ho h))
  · exact OpS.of_run (RunS.new (vMakeSlice_ok hT ho h))
  · exact OpS.of_run (RunS.pure (vSlice_ok hT ho h))
  · exact OpS.of_run (RunS.pure (vFieldAddr_ok hT ho h))
  · exact OpS.of_run (RunS.pure (vField_ok hT ho h))
  · exact OpS.of_run (RunS.pure (vIndexAddr_ok hT ho h))
  · exact OpS.of_run (RunS.pure (vIndex_ok hT ho h))
  · exact OpS.of_run (RunS.pure (vExtract_ok ho h))
  · exact OpS.of_run (RunS.pure (vPick_ok ho h))
  · exact vFunc_ok ho h
  · exact OpS.of_run (RunS.pure (vLen_ok hT ho h))
  · obtain ⟨h1, h2⟩ := testP_eq h
    obtain rfl := Nat.eq_of_beq_eq_true h1
    exact OpS.of_run (vAppend_ok hT ho h2)
  · exact OpS.of_run (RunS.pure (vMin_ok ho h))
  · exact OpS.of_run (RunS.pure (vMax_ok ho h))
  · exact h.elim
def noName : Nm := fun _ => none
theorem noName_le (β : Nm) : noName.le β := fun _ _ h => by cases h
/-- One value or one new block, in whatever world: what an operation of a region that draws its order must be. -/
inductive RobS (P : Program) (o : Oper) (fr : List AV) (hp : List Blk) (G : Mem) (K : AV → List Blk → Prop) : Prop
  | pure (h : PureS P o fr hp G fun v => K v hp)
  | new (h : NewS P o fr hp G fun v hp' _ => K v hp')
  | call (v : AV) (f : FuncId) (hK : K v hp) (h : ∀ (base : Nat) (β : Nm) (ρ : Operand → Value) (w : World), BR base β hp G w → Reads o fr β ρ → ∃ args, (execOp ρ o).run P w = .ok (.enter f args) w ∧ Calls P f args w fun e w' => ∃ y, e = .returned y ∧ v.rel noName y ∧ Below w.heap.size w w')
/-- A call whose callee hands back one value, whatever was made meanwhile. -/
inductive RCallP (P : Program) (f : FuncId) (args : List AV) (hp : List Blk) (G : Mem) (K : AV → Prop) : Prop
  | mk (v : AV) (e : ∀ vs w, (callFunc f vs).run P w = .ok (.enter f vs) w) (c : ∀ (base : Nat) (β : Nm) (w : World) (vs : Array Value), BR base β hp G w → AV.rels β args vs.toList → Calls P f vs w fun e w' => ∃ y, e = .returned y ∧ v.rel noName y ∧ Below w.heap.size w w') (h : K v)
def vRFunc (P : Program) (c : AV) (args : List AV) (hp : List Blk) (G : Mem) (K : AV → Prop) : Prop :=
  match c with
  | .val (.func (.func f) a b) => valsF a.toList fun a => valsF b.toList fun b => catF a args fun r => catF r b fun r => RCallP P f r hp G K
  | .fn (.func f) a b => catF a args fun r => catF r b fun r => RCallP P f r hp G K
  | _ => False
def vrop (P : Program) (T : Tab) (op : Op) (fr : List AV) (hp : List Blk) (G : Mem) (K : AV → List Blk → Prop) : Prop :=
  match op with
  | .store _ _ _ => False
  | .call ⟨.value x, xs, _⟩ => evsF fr xs.toList fun args => vRFunc P (ev fr x) args hp G fun v => K v hp
  | .call ⟨.builtin .append, _, _⟩ => False
  | op => vop P T op fr hp G fun v hp' _ => K v hp'
theorem vrop_ok {P : Program} {T : Tab} (hT : TOk P T) {o : Oper} {fr : List AV} {hp : List Blk} {G : Mem} {K : AV → List Blk → Prop} (h : vrop P T o.op fr hp G K) : RobS P o fr hp G K := by
  generalize ho : o.op = op at h
  unfold vrop at h
  split at h
  · exact h.elim
  · rename_i x xs ts
    rw [evsF_eq] at h
    have hargs : ∀ (β : Nm) (ρ : Operand → Value), Reads o fr β ρ → AV.rels β (xs.toList.map (ev fr)) (xs.toList.map ρ) := fun β ρ hf => evs_rel (β := β) (fr := fr) (ρ := ρ) xs.toList (fun x hx => hf x (by simp [ho, Op.operands, Call.operands]; right; simpa using hx))
    have hxm : x ∈ o.op.operands.toList := by simp [ho, Op.operands, Call.operands]
    have fin : ∀ (f : FuncId) (A B : List AV) (v : AV), (∀ vs w, (callFunc f vs).run P w = .ok (.enter f vs) w) → (∀ (base : Nat) (β : Nm) (w : World) (vs : Array Value), BR base β hp G w → AV.rels β (A ++ xs.toList.map (ev fr) ++ B) vs.toList → Calls P f vs w fun e w' => ∃ y, e = .returned y ∧ v.rel noName y ∧ Below w.heap.size w w') →
        K v hp → (∀ (β : Nm) (y : Value), (ev fr x).rel β y → ∃ u z, y = .func (.func f) u z ∧ AV.rels β A u.toList ∧ AV.rels β B z.toList) → RobS P o fr hp G K := by
      intro f A B v h1 h2 h3 h4
      refine .call v f h3 fun base β ρ w hG hf => ?_
      obtain ⟨u, z, h5, h6, h7⟩ := h4 β _ (hf x hxm)
      have hrel : AV.rels β (A ++ xs.toList.map (ev fr) ++ B) (u ++ xs.map ρ ++ z).toList := by
        have := AV.rels_append (AV.rels_append h6 (hargs β ρ hf)) h7
        simpa using this
      refine ⟨u ++ xs.map ρ ++ z, ?_, h2 base β w _ hG hrel⟩
      simp only [execOp, ho, resolve, h5, Deferred.ofValue, Sem.run_bind, Sem.run_pure, Result.andThen_ok, invoke]
      exact h1 _ w
    unfold vRFunc at h
    split at h
    · rename_i f u z hx'
      rw [valsF_eq, valsF_eq, catF_eq, catF_eq] at h
      obtain ⟨v, h1, h2, h3⟩ := h
      refine fin f _ _ v h1 h2 h3 fun β y hy => ?_
      rw [hx'] at hy; simp only [AV.rel] at hy
      exact ⟨u, z, hy, AV.rels_vals _, AV.rels_vals _⟩
    · rename_i f A B hx'
      rw [catF_eq, catF_eq] at h
      obtain ⟨v, h1, h2, h3⟩ := h
      refine fin f A B v h1 h2 h3 fun β y hy => ?_
      rw [hx'] at hy; simp only [AV.rel] at hy
      exact hy
    · exact h.elim
  · exact h.elim
  · rename_i hs hc' ha
    unfold vop at h
    split at h
    · exact .pure ⟨_, h, fun base β ρ w hr hf => ⟨_, by simp [execOp, ho]; (try rfl), hf _ (by simp [ho, Op.operands])⟩⟩
    · exact .pure ⟨_, h, fun base β ρ w hr hf => ⟨_, by simp [execOp, ho]; (try rfl), hf _ (by simp [ho, Op.operands])⟩⟩
    · exact .new (vAlloc_ok hT ho h)
    · exact .new (vBox_ok ho h)
    · exact .pure (vBuild_ok hT ho h)
    · exact .new (vBuildSlice_ok hT ho h)
    · exact .pure (vLoad_ok hT ho h)
    · exact absurd rfl (hs _ _ _)
    · exact .pure (vNilCheck_ok ho h)
    · exact .pure (vBin_ok ho h)
    · exact .pure (vUn_ok ho h)
    · exact .pure (vConv_ok hT ho h)
    · exact .pure (vMakeFunc_ok ho h)
    · exact .new (vMakeSlice_ok hT ho h)
    · exact .pure (vSlice_ok hT ho h)
    · exact .pure (vFieldAddr_ok hT ho h)
    · exact .pure (vField_ok hT ho h)
    · exact .pure (vIndexAddr_ok hT ho h)
    · exact .pure (vIndex_ok hT ho h)
    · exact .pure (vExtract_ok ho h)
    · exact .pure (vPick_ok ho h)
    · exact absurd rfl (hc' _ _ _)
    · exact .pure (vLen_ok hT ho h)
    · exact absurd rfl (ha _ _)
    · exact .pure (vMin_ok ho h)
    · exact .pure (vMax_ok ho h)
    · exact h.elim

/-! ### Regions -/
def putF (dst : Option Tmp) (v : AV) (fr : List AV) (K : List AV → Prop) : Prop :=
  match dst with
  | some d => forceA v fun v => setF fr d v K
  | none => K fr
theorem put_rel {β : Nm} {dst : Option Tmp} {v : AV} {y : Value} {fr : List AV} {a : Act} {K : List AV → Prop} (hf : AV.rels β fr a.tmps.toList) (hv : v.rel β y) (h : putF dst v fr K) : ∃ fr', AV.rels β fr' (a.put dst y).tmps.toList ∧ K fr' := by
  unfold putF at h
  split at h
  · rename_i d
    rw [forceA_eq, setF_eq] at h
    exact ⟨_, by simpa [Act.put, Array.toList_setIfInBounds] using AV.rels_set d hf hv, h⟩
  · exact ⟨fr, by simpa [Act.put] using hf, h⟩
def dstAt : List Oper → Nat → Option Tmp
  | [], _ => none
  | o :: _, 0 => o.dst
  | _ :: l, n + 1 => dstAt l n
theorem dstAt_eq : ∀ (l : List Oper) (n : Nat), dstAt l n = (l[n]?).bind (·.dst)
  | [], _ => rfl
  | _ :: _, 0 => rfl
  | _ :: l, n + 1 => by simpa [dstAt] using dstAt_eq l n
/-- An operation under a guard. -/
def guardF (all : List Oper) (g : Option (Nat × Bool)) (fr : List AV) (A B : Prop) : Prop :=
  match g with
  | none => A
  | some (j, want) => match dstAt all j with
    | some d => match nthA fr d with
      | .val (.bool b) => match want with
        | true => condP b A B
        | false => condP b B A
      | .val (.tuple _) => B
      | _ => False
    | none => False
theorem wanted_guard {β : Nm} {ops : List Oper} {o : Oper} {fr : List AV} {a : Act} {A B : Prop} (hf : AV.rels β fr a.tmps.toList) (h : guardF ops o.guard fr A B) :
    (Region.wanted o (yielded ops.toArray a.tmps) = true ∧ A) ∨ (Region.wanted o (yielded ops.toArray a.tmps) = false ∧ B) := by
  unfold guardF at h
  split at h
  · rename_i hg; exact .inl ⟨by simp [Region.wanted, hg], h⟩
  · rename_i j want hg
    split at h
    · rename_i d hd
      rw [dstAt_eq] at hd
      have key : ∀ (v : AV), nthA fr d = v → v ≠ .any → ∃ y, a.tmps[d]? = some y ∧ v.rel β y := by
        intro v hv hne
        rw [nthA_eq] at hv
        cases hx : fr[d]? with
        | none => rw [hx] at hv; exact absurd hv.symm hne
        | some x =>
          rw [hx] at hv; simp at hv; subst hv
          obtain ⟨y, h1, h2⟩ := AV.rels_get hf hx
          exact ⟨y, by simpa using h1, h2⟩
      split at h
      · rename_i b hb
        obtain ⟨y, h1, h2⟩ := key _ hb (by simp)
        simp only [AV.rel] at h2
        subst h2
        have hy : yielded ops.toArray a.tmps j = some b := by
          have : (ops.toArray[j]?).bind (·.dst) = some d := by simpa using hd
          unfold yielded; rw [this]; simp [h1]
        split at h
        · cases b
          · exact .inr ⟨by simp [Region.wanted, hg, hy], h.no rfl⟩
          · exact .inl ⟨by simp [Region.wanted, hg, hy], h.yes rfl⟩
        · cases b
          · exact .inl ⟨by simp [Region.wanted, hg, hy], h.no rfl⟩
          · exact .inr ⟨by simp [Region.wanted, hg, hy], h.yes rfl⟩
      · rename_i vs hb
        obtain ⟨y, h1, h2⟩ := key _ hb (by simp)
        simp only [AV.rel] at h2
        subst h2
        have hy : yielded ops.toArray a.tmps j = none := by
          have : (ops.toArray[j]?).bind (·.dst) = some d := by simpa using hd
          unfold yielded; rw [this]; simp [h1]
        exact .inr ⟨by simp [Region.wanted, hg, hy], h⟩
      · exact h.elim
    · exact h.elim
/-- (By the recursor itself: what is left of a walk must be spelled alike by the elaborator and by the kernel.) -/
def vops (P : Program) (T : Tab) (all : List Oper) (l : List Oper) : List AV → List Blk → Mem → (List AV → List Blk → Mem → Prop) → Prop :=
  List.rec (motive := fun _ => List AV → List Blk → Mem → (List AV → List Blk → Mem → Prop) → Prop) (fun fr hp G K => K fr hp G)
    (fun o _ ih fr hp G K => guardF all o.guard fr (vop P T o.op fr hp G fun v hp' G' => putF o.dst v fr fun fr' => ih fr' hp' G' K) (putF o.dst (.val undef) fr fun fr' => ih fr' hp G K)) l
theorem vops_cons {P : Program} {T : Tab} {all : List Oper} {o : Oper} {rest : List Oper} {fr : List AV} {hp : List Blk} {G : Mem} {K : List AV → List Blk → Mem → Prop} :
    vops P T all (o :: rest) fr hp G K = guardF all o.guard fr (vop P T o.op fr hp G fun v hp' G' => putF o.dst v fr fun fr' => vops P T all rest fr' hp' G' K) (putF o.dst (.val undef) fr fun fr' => vops P T all rest fr' hp G K) := rfl
/-- What an abstract state says of a frame and a world. -/
def Sat (w0 : World) (G0 : Mem) (β0 : Nm) (K : List AV → List Blk → Mem → Prop) (a : Act) (w : World) : Prop :=
  ∃ β fr hp G, β0.le β ∧ HR w0 G0 β hp G w ∧ AV.rels β fr a.tmps.toList ∧ a.defers = [] ∧ K fr hp G
theorem put_defers' (a : Act) (d : Option Tmp) (v : Value) : (a.put d v).defers = a.defers := by cases d <;> rfl
theorem vops_ok {P : Program} {T : Tab} (hT : TOk P T) {all : List Oper} {w0 : World} {G0 : Mem} {β0 : Nm} {Q : Exit → Act → World → Prop} :
    ∀ (l : List Oper) (fr : List AV) (hp : List Blk) (G : Mem) (K : List AV → List Blk → Mem → Prop) (β : Nm) (a : Act) (w : World) (i : Nat), (∀ j, l[j]? = all[i + j]?) → β0.le β → HR w0 G0 β hp G w → AV.rels β fr a.tmps.toList → a.defers = [] → vops P T all l fr hp G K →
      (∀ a' w', Sat w0 G0 β0 K a' w' → Q .normal a' w') → wpOps P all.toArray Q (List.range' i l.length) a w
  | [], fr, hp, G, K, β, a, w, i, _, h0, hr, hf, hd, h, hQ => hQ a w ⟨β, fr, hp, G, h0, hr, hf, hd, h⟩
  | o :: rest, fr, hp, G, K, β, a, w, i, hi, hβ, hr, hf, hd, h, hQ => by
    have h0 : all.toArray[i]? = some o := by simpa using (hi 0).symm
    have hi' : ∀ j, rest[j]? = all[i + 1 + j]? := fun j => by have := hi (j + 1); simpa [Nat.add_assoc, Nat.add_comm 1 j] using this
    rw [List.length_cons, List.range'_succ]
    simp only [wpOps, h0]
    rw [vops_cons] at h
    rcases wanted_guard hf h with ⟨hw, h1⟩ | ⟨hw, h1⟩
    · rw [if_pos hw]
      refine .inl (vop_ok hT h1 w0 G0 β a w Q _ hr hf ?_)
      intro β' v y hp' G' w' h2 h3 h4 h5
      obtain ⟨fr', h6, h7⟩ := put_rel (AV.rels_mono h2 _ _ hf) h4 h5
      exact vops_ok hT rest fr' hp' G' K β' _ w' (i + 1) hi' (Nm.le_trans hβ h2) h3 h6 (by rw [put_defers']; exact hd) h7 hQ
    · rw [if_neg (by rw [hw]; simp)]
      obtain ⟨fr', h6, h7⟩ := put_rel hf (by simp only [AV.rel] : AV.rel β (.val undef) undef) h1
      exact vops_ok hT rest fr' hp G K β _ w (i + 1) hi' hβ hr h6 (by rw [put_defers']; exact hd) h7 hQ
theorem vops_region {P : Program} {T : Tab} (hT : TOk P T) {w0 : World} {G0 : Mem} {β0 : Nm} {Q : Exit → Act → World → Prop} {id : Nat} {ops : Array Oper} {fr : List AV} {hp : List Blk} {G : Mem} {K : List AV → List Blk → Mem → Prop} {β : Nm} {a : Act} {w : World}
    (hβ : β0.le β) (hr : HR w0 G0 β hp G w) (hf : AV.rels β fr a.tmps.toList) (hd : a.defers = []) (h : vops P T ops.toList ops.toList fr hp G K) (hQ : ∀ a' w', Sat w0 G0 β0 K a' w' → Q .normal a' w') : (Code.region id ops false).wp P Q a w := by
  refine wp_region ?_
  have := vops_ok hT ops.toList fr hp G K β a w 0 (by simp) hβ hr hf hd h hQ
  simpa [List.range_eq_range'] using this

/-! ### Code -/
abbrev Post := Exit → List AV → List Blk → Mem → Prop
/-- A region that draws its order: to be shown by hand, or by what follows. -/
structure DrawP (P : Program) (ops : List Oper) (fr : List AV) (hp : List Blk) (G : Mem) (K : List AV → List Blk → Mem → Prop) : Prop where
  out : ∀ (w0 : World) (G0 : Mem) (β0 β : Nm) (a : Act) (w : World) (id : Nat) (Q : Exit → Act → World → Prop), β0.le β → HR w0 G0 β hp G w → AV.rels β fr a.tmps.toList → a.defers = [] → (∀ a' w', Sat w0 G0 β0 K a' w' → Q .normal a' w') → (Code.region id ops.toArray true).wp P Q a w
/-- All names are less. -/
def Nm.below (β : Nm) (n : Nat) : Prop := ∀ k v, β k = some v → k < n
/-- A loop: to be shown by hand. -/
structure LoopP (P : Program) (n0 : Nat) (b : Code) (fr : List AV) (hp : List Blk) (G : Mem) (Q : Post) : Prop where
  out : ∀ (w0 : World) (G0 : Mem) (β0 β : Nm) (a : Act) (w : World), β0.below n0 → β0.le β → HR w0 G0 β hp G w → AV.rels β fr a.tmps.toList → a.defers = [] → ∀ (bf : Frame) (k : List Item) (cs : List Frame), ∃ e a' w', Sat w0 G0 β0 (Q e) a' w' ∧ Arrives P (lone (bf.at a (.code b :: .inLoop b :: k)) cs w) bf k cs e a' w'
def vcode (P : Program) (T : Tab) (n0 : Nat) (c : Code) : List AV → List Blk → Mem → Post → Prop :=
  Code.rec (motive := fun _ => List AV → List Blk → Mem → Post → Prop)
    (skip := fun fr hp G Q => Q .normal fr hp G)
    (region := fun _ ops draw fr hp G Q => match draw with
      | false => vops P T ops.toList ops.toList fr hp G (Q .normal)
      | true => DrawP P ops.toList fr hp G (Q .normal))
    (seq := fun _ _ iha ihb fr hp G Q => iha fr hp G fun e fr' hp' G' => match e with
      | .normal => ihb fr' hp' G' Q
      | e => Q e fr' hp' G')
    (cond := fun c _ _ iha ihb fr hp G Q => withBool (ev fr c) fun t => condP t (iha fr hp G Q) (ihb fr hp G Q))
    (block := fun id _ ih fr hp G Q => ih fr hp G fun e fr' hp' G' => match e with
      | .exit i => match Nat.beq i id with
        | true => Q .normal fr' hp' G'
        | false => Q (.exit i) fr' hp' G'
      | e => Q e fr' hp' G')
    (loop := fun b _ fr hp G Q => LoopP P n0 b fr hp G Q)
    (rangeFunc := fun _ _ _ _ _ _ _ _ _ _ => False)
    (exit := fun id fr hp G Q => Q (.exit id) fr hp G)
    (scope := fun _ ih fr hp G Q => ih fr hp G fun e fr' hp' G' => match e with
      | .goto _ => False
      | e => Q e fr' hp' G')
    (label := fun _ fr hp G Q => Q .normal fr hp G)
    (goto := fun _ _ _ _ _ => False)
    (ret := fun fr hp G Q => Q .ret fr hp G)
    (refuse := fun _ _ _ _ _ => False) c
theorem Sat.mono {w0 : World} {G0 : Mem} {β0 : Nm} {K K' : List AV → List Blk → Mem → Prop} (h : ∀ fr hp G, K fr hp G → K' fr hp G) {a : Act} {w : World} (s : Sat w0 G0 β0 K a w) : Sat w0 G0 β0 K' a w := by
  obtain ⟨β, fr, hp, G, h0, h1, h2, h3, h4⟩ := s
  exact ⟨β, fr, hp, G, h0, h1, h2, h3, h _ _ _ h4⟩
theorem vcode_ok {P : Program} {T : Tab} (hT : TOk P T) {n0 : Nat} {w0 : World} {G0 : Mem} {β0 : Nm} (hn0 : β0.below n0) : ∀ (c : Code) (fr : List AV) (hp : List Blk) (G : Mem) (Q : Post) (β : Nm) (a : Act) (w : World), β0.le β → HR w0 G0 β hp G w → AV.rels β fr a.tmps.toList → a.defers = [] → vcode P T n0 c fr hp G Q →
    c.wp P (fun e => Sat w0 G0 β0 (Q e)) a w := by
  intro c
  induction c with
  | skip => intro fr hp G Q β a w hβ hr hf hd h; exact wp_skip ⟨β, fr, hp, G, hβ, hr, hf, hd, h⟩
  | region id ops draw =>
    intro fr hp G Q β a w hβ hr hf hd h
    cases draw with
    | false => exact vops_region hT hβ hr hf hd h (fun a' w' hs => hs)
    | true =>
      have := h.out w0 G0 β0 β a w id (fun e => Sat w0 G0 β0 (Q e)) hβ hr hf hd (fun a' w' hs => hs)
      simpa using this
  | seq x y ihx ihy =>
    intro fr hp G Q β a w hβ hr hf hd h
    refine wp_seq (wp_mono (ihx fr hp G _ β a w hβ hr hf hd h) ?_)
    intro e a' w' hs
    cases e with
    | normal =>
      obtain ⟨β', fr', hp', G', h0, h1, h2, h3, h4⟩ := hs
      exact ihy fr' hp' G' Q β' a' w' h0 h1 h2 h3 h4
    | exit id => exact hs
    | goto l => exact hs
    | ret => exact hs
    | panic ch => exact hs
    | outgrown => exact hs
  | cond c x y ihx ihy =>
    intro fr hp G Q β a w hβ hr hf hd h
    obtain ⟨t, h1, h2⟩ := withBool_eq h
    have hc := ev_rel hf c
    rw [h1] at hc; simp only [AV.rel] at hc
    refine wp_cond hc ?_
    cases t
    · exact ihy fr hp G Q β a w hβ hr hf hd (h2.no rfl)
    · exact ihx fr hp G Q β a w hβ hr hf hd (h2.yes rfl)
  | block id b ih =>
    intro fr hp G Q β a w hβ hr hf hd h
    refine wp_block (wp_mono (ih fr hp G _ β a w hβ hr hf hd h) ?_)
    intro e a' w' hs
    cases e with
    | normal => exact hs
    | exit i =>
      simp only [Exit.inBlock]
      by_cases hi : i = id
      · rw [if_pos hi]
        refine hs.mono fun fr' hp' G' hq => ?_
        have hb : Nat.beq i id = true := by rw [hi]; simp
        simpa [hb] using hq
      · rw [if_neg hi]
        refine hs.mono fun fr' hp' G' hq => ?_
        have : Nat.beq i id = false := by rw [← Bool.not_eq_true, Nat.beq_eq]; exact hi
        simpa [this] using hq
    | goto l => exact hs
    | ret => exact hs
    | panic ch => exact hs
    | outgrown => exact hs
  | loop b ih =>
    intro fr hp G Q β a w hβ hr hf hd h
    intro bf k cs
    obtain ⟨e, a', w', hq, harr⟩ := h.out w0 G0 β0 β a w hn0 hβ hr hf hd bf k cs
    exact ⟨e, a', w', hq, .of_steps (.one step_loop) harr⟩
  | exit id => intro fr hp G Q β a w hβ hr hf hd h; exact wp_exit ⟨β, fr, hp, G, hβ, hr, hf, hd, h⟩
  | ret => intro fr hp G Q β a w hβ hr hf hd h; exact wp_ret ⟨β, fr, hp, G, hβ, hr, hf, hd, h⟩
  | label l => intro fr hp G Q β a w hβ hr hf hd h; exact wp_label ⟨β, fr, hp, G, hβ, hr, hf, hd, h⟩
  | scope b ih =>
    intro fr hp G Q β a w hβ hr hf hd h
    refine wp_scope_straight (wp_mono (ih fr hp G _ β a w hβ hr hf hd h) ?_)
    intro e a' w' hs
    cases e with
    | goto l => obtain ⟨_, _, _, _, _, _, _, _, h4⟩ := hs; exact h4.elim
    | normal => exact hs
    | exit id => exact hs
    | ret => exact hs
    | panic ch => exact hs
    | outgrown => exact hs
  | rangeFunc f ps a b iha ihb => intro fr hp G Q β a w hβ hr hf hd h; exact h.elim
  | goto l => intro fr hp G Q β a w hβ hr hf hd h; exact h.elim
  | refuse why => intro fr hp G Q β a w hβ hr hf hd h; exact h.elim
end Go.Proofs.Ytampdegpfndggaa
