/-
  The engine: literals, slices, calls. No program in sight.
-/
import Derived.Test.YtampdegpfndggaaEd
namespace Go.Proofs.Ytampdegpfndggaa
open Go.RowKit
set_option linter.unusedVariables false
set_option linter.unusedSimpArgs false
set_option linter.unnecessarySimpa false

def vIndex (T : Tab) (t : TypeId) (x ix : Operand) (fr : List AV) (K : AV → Prop) : Prop :=
  withInt (ev fr ix) fun _ i => withT T t fun q => match q.td with
    | .arr n e => withT T e fun j => withAgg (ev fr x) fun l => withIx i n fun m => subF l (m * j.size) j.size fun cs => aggF j cs K
    | .str => withStr (ev fr x) fun s => mustP (0 ≤ i) (∃ b : UInt8, s[i.toNat]? = some b ∧ K (.val (.int .u8 b.toNat)))
    | _ => False
theorem vIndex_ok {P : Program} {T : Tab} (hT : TOk P T) {o : Oper} {fr : List AV} {hp : List Blk} {G : Mem} {K : AV → Prop} {t : TypeId} {x ix : Operand} (ho : o.op = .index t x ix) (h : vIndex T t x ix fr K) : PureS P o fr hp G K := by
  have hmx : x ∈ o.op.operands.toList := by simp [ho, Op.operands]
  have hmi : ix ∈ o.op.operands.toList := by simp [ho, Op.operands]
  obtain ⟨ki, i, he, h1⟩ := withInt_eq h
  obtain ⟨q, hq, h2⟩ := withT_ok hT h1
  split at h2
  · rename_i n e hd
    have hu := und_of (hd ▸ hq.td)
    simp only [TD.says] at hu
    obtain ⟨j, hj, h3⟩ := withT_ok hT h2
    obtain ⟨l, h4, h5⟩ := withAgg_eq h3
    obtain ⟨⟨h8, h9⟩, h10⟩ := h4
    obtain ⟨v, h11, h12⟩ := part_run hj h10
    refine ⟨v, h11, fun base β ρ w hr hf => ?_⟩
    have hix := hf ix hmi
    rw [he] at hix; simp only [AV.rel] at hix
    obtain ⟨cs, h6, h7⟩ := h5 β _ (hf x hmx)
    obtain ⟨y, h13, h14⟩ := h12 β cs w h7
    exact ⟨y, by simp [execOp, ho, h6, hix, Instr.index, asIntOf, run_underlying hu, h8, h9, hj.size, h13], h14⟩
  · rename_i hd
    have hu := und_of (hd ▸ hq.td)
    simp only [TD.says] at hu
    obtain ⟨s, hs, h3, b, h4, h5⟩ := withStr_eq h2
    refine ⟨_, h5, fun base β ρ w hr hf => ?_⟩
    have hx := hf x hmx
    have hix := hf ix hmi
    rw [he] at hix; rw [hs] at hx; simp only [AV.rel] at hx hix
    exact ⟨.int .u8 b.toNat, by simp [execOp, ho, hx, hix, Instr.index, asIntOf, run_underlying hu, h3, h4], by simp only [AV.rel]⟩
  · exact h2.elim
/-- The bounds of a slice expression. -/
def lowF (x : Option Operand) (fr : List AV) (d : Nat) (K : Int → Prop) : Prop :=
  match x with
  | none => K d
  | some x => withInt (ev fr x) fun _ i => K i
def vSlice (T : Tab) (t : TypeId) (x : Operand) (lo hi : Option Operand) (fr : List AV) (K : AV → Prop) : Prop :=
  withT T t fun q => match q.td with
    | .slice e => withT T e fun j => match ev fr x with
      | .val (.slice A n c) => lowF lo fr 0 fun l => lowF hi fr n fun h => mustP (0 ≤ l ∧ l ≤ h ∧ h ≤ c) (K (.val (.slice (if c = l.toNat then A else A.map (·.add (l.toNat * j.size))) (h.toNat - l.toNat) (c - l.toNat))))
      | _ => False
    | .str => match ev fr x with
      | .val (.string s) => lowF lo fr 0 fun l => lowF hi fr s.size fun h => mustP (0 ≤ l ∧ l ≤ h ∧ h ≤ s.size) (K (.val (.string (s.extract l.toNat h.toNat))))
      | _ => False
    | _ => False
theorem lowF_run {fr : List AV} {lo : Option Operand} {d : Nat} {K : Int → Prop} (h : lowF lo fr d K) :
    ∃ l, K l ∧ ∀ (β : Nm) (ρ : Operand → Value), (∀ x ∈ lo.toArray.toList, (ev fr x).rel β (ρ x)) → ((lo = none ∧ l = d) ∨ ∃ x k, lo = some x ∧ ρ x = .int k l) := by
  unfold lowF at h
  split at h
  · exact ⟨_, h, fun _ _ _ => .inl ⟨rfl, rfl⟩⟩
  · rename_i x
    obtain ⟨k, i, h1, h2⟩ := withInt_eq h
    refine ⟨i, h2, fun β ρ hf => ?_⟩
    have := hf x (by simp)
    rw [h1] at this; simp only [AV.rel] at this
    exact .inr ⟨x, k, rfl, this⟩
theorem sliceBounds_run {P : Program} {ρ : Operand → Value} {w : World} {isS : Bool} {len cap : Nat} {lo hi : Option Operand} {l h : Int} (hl : (lo = none ∧ l = (0 : Nat)) ∨ ∃ x k, lo = some x ∧ ρ x = .int k l) (hh : (hi = none ∧ h = len) ∨ ∃ x k, hi = some x ∧ ρ x = .int k h)
    (h1 : 0 ≤ l) (h2 : l ≤ h) (h3 : h ≤ cap) : (Instr.sliceBounds isS len cap (lo.map ρ) (hi.map ρ) none).run P w = .ok (l.toNat, h.toNat, cap) w := by
  have b : ∀ (k : IntKind) (i : Int) (y : Nat) (code : BoundsCode), 0 ≤ i → i ≤ y → (Instr.sliceBound (.int k i) y code).run P w = .ok i.toNat w := fun k i y code g1 g2 => run_sliceBound w k i y code g1 g2
  have hh' : h = (h.toNat : Int) := by omega
  rcases hl with ⟨rfl, rfl⟩ | ⟨x, k, rfl, e1⟩ <;> rcases hh with ⟨rfl, rfl⟩ | ⟨x', k', rfl, e2⟩
  · simp [Instr.sliceBounds]
  · simp [Instr.sliceBounds, e2, b k' h cap _ (by omega) h3]
  · simp [Instr.sliceBounds, e1, b k l len _ h1 h2]
  · simp [Instr.sliceBounds, e1, e2, b k' h cap _ (by omega) h3, b k l h.toNat _ h1 (by omega)]
theorem vSlice_ok {P : Program} {T : Tab} (hT : TOk P T) {o : Oper} {fr : List AV} {hp : List Blk} {G : Mem} {K : AV → Prop} {t : TypeId} {x : Operand} {lo hi : Option Operand} (ho : o.op = .slice t x lo hi none) (h : vSlice T t x lo hi fr K) : PureS P o fr hp G K := by
  have hmx : x ∈ o.op.operands.toList := by simp [ho, Op.operands]
  have hml : ∀ z ∈ lo.toArray.toList, z ∈ o.op.operands.toList := fun z hz => by cases lo <;> simp_all [Op.operands]
  have hmh : ∀ z ∈ hi.toArray.toList, z ∈ o.op.operands.toList := fun z hz => by cases hi <;> simp_all [Op.operands]
  obtain ⟨q, hq, h1⟩ := withT_ok hT h
  split at h1
  · rename_i e hd
    have hu := und_of (hd ▸ hq.td)
    simp only [TD.says] at hu
    obtain ⟨j, hj, h2⟩ := withT_ok hT h1
    split at h2
    · rename_i A n c hx'
      obtain ⟨l, h3, hl⟩ := lowF_run h2
      obtain ⟨r, h4, hh⟩ := lowF_run h3
      obtain ⟨⟨g1, g2, g3⟩, h5⟩ := h4
      refine ⟨_, h5, fun base β ρ w hr hf => ?_⟩
      have hx := hf x hmx
      rw [hx'] at hx; simp only [AV.rel] at hx
      have hb := sliceBounds_run (P := P) (w := w) (isS := true) (hl β ρ fun z hz => hf z (hml z hz)) (hh β ρ fun z hz => hf z (hmh z hz)) g1 g2 g3
      exact ⟨_, by simp [execOp, ho, hx, Instr.sliceAt, Instr.slice, run_underlying hu, hb, hj.size]; (try rfl), by simp only [AV.rel]⟩
    · exact h2.elim
  · rename_i hd
    have hu := und_of (hd ▸ hq.td)
    simp only [TD.says] at hu
    split at h1
    · rename_i s hx'
      obtain ⟨l, h3, hl⟩ := lowF_run h1
      obtain ⟨r, h4, hh⟩ := lowF_run h3
      obtain ⟨⟨g1, g2, g3⟩, h5⟩ := h4
      refine ⟨_, h5, fun base β ρ w hr hf => ?_⟩
      have hx := hf x hmx
      rw [hx'] at hx; simp only [AV.rel] at hx
      have hb := sliceBounds_run (P := P) (w := w) (isS := false) (hl β ρ fun z hz => hf z (hml z hz)) (hh β ρ fun z hz => hf z (hmh z hz)) g1 g2 g3
      exact ⟨_, by simp [execOp, ho, hx, Instr.sliceAt, Instr.slice, run_underlying hu, hb]; (try rfl), by simp only [AV.rel]⟩
    · exact h1.elim
  · exact h1.elim
def vExtract (x : Operand) (n : Nat) (fr : List AV) (K : AV → Prop) : Prop :=
  match ev fr x with
  | .tup l => testP (Nat.blt n l.length) (K (nthA l n))
  | .val (.tuple vs) => nthV vs.toList n fun v => K (.val v)
  | _ => False
theorem vExtract_ok {P : Program} {o : Oper} {fr : List AV} {hp : List Blk} {G : Mem} {K : AV → Prop} {x : Operand} {n : Nat} (ho : o.op = .extract x n) (h : vExtract x n fr K) : PureS P o fr hp G K := by
  have hmx : x ∈ o.op.operands.toList := by simp [ho, Op.operands]
  unfold vExtract at h
  split at h
  · rename_i l hx'
    obtain ⟨h1, h2⟩ := testP_eq h
    refine ⟨_, h2, fun base β ρ w hr hf => ?_⟩
    have hx := hf x hmx
    rw [hx'] at hx; simp only [AV.rel] at hx
    obtain ⟨cs, h3, h4⟩ := hx
    have hlt := lt_of_blt h1
    obtain ⟨y, h5, h6⟩ := AV.rels_get h4 (List.getElem?_eq_getElem hlt)
    have h7 : cs[n]? = some y := by simpa using h5
    refine ⟨y, by simp [execOp, ho, h3, Instr.extract, h7], ?_⟩
    rw [nthA_eq, List.getElem?_eq_getElem hlt]; exact h6
  · rename_i vs hx'
    obtain ⟨v, h10, h2⟩ := nthV_eq h
    have h1 : vs[n]? = some v := by simpa using h10
    refine ⟨_, h2, fun base β ρ w hr hf => ?_⟩
    have hx := hf x hmx
    rw [hx'] at hx; simp only [AV.rel] at hx
    exact ⟨v, by simp [execOp, ho, hx, Instr.extract, h1], by simp only [AV.rel]⟩
  · exact h.elim
def evsF (fr : List AV) : List Operand → (List AV → Prop) → Prop
  | [], K => K []
  | x :: l, K => evsF fr l fun m => forceA (ev fr x) fun a => K (a :: m)
theorem evsF_eq (fr : List AV) : ∀ (l : List Operand) (K : List AV → Prop), evsF fr l K = K (l.map (ev fr))
  | [], _ => rfl
  | x :: l, K => by
    rw [evsF, evsF_eq fr l, List.map_cons, forceA_eq]
theorem evs_rel {β : Nm} {fr : List AV} {ρ : Operand → Value} : ∀ (l : List Operand), (∀ x ∈ l, (ev fr x).rel β (ρ x)) → AV.rels β (l.map (ev fr)) (l.map ρ)
  | [], _ => by simp [AV.rels]
  | x :: l, h => by simp only [List.map_cons, AV.rels]; exact ⟨_, _, rfl, h x (by simp), evs_rel l fun z hz => h z (by simp [hz])⟩
def vMakeFunc (f : Fn) (first caps : Array Operand) (fr : List AV) (K : AV → Prop) : Prop :=
  evsF fr first.toList fun a => evsF fr caps.toList fun b => K (.fn f a b)
theorem vMakeFunc_ok {P : Program} {o : Oper} {fr : List AV} {hp : List Blk} {G : Mem} {K : AV → Prop} {f : Fn} {first caps : Array Operand} (ho : o.op = .makeFunc f first caps) (h : vMakeFunc f first caps fr K) : PureS P o fr hp G K := by
  unfold vMakeFunc at h
  rw [evsF_eq, evsF_eq] at h
  refine ⟨_, h, fun base β ρ w hr hf => ⟨.func f (first.map ρ) (caps.map ρ), by simp [execOp, ho, Instr.makeFunc], ?_⟩⟩
  simp only [AV.rel]
  have h1 := evs_rel (β := β) (fr := fr) (ρ := ρ) first.toList fun z hz => hf z (by simp [ho, Op.operands]; left; simpa using hz)
  have h2 := evs_rel (β := β) (fr := fr) (ρ := ρ) caps.toList fun z hz => hf z (by simp [ho, Op.operands]; right; simpa using hz)
  exact ⟨_, _, rfl, by simpa using h1, by simpa using h2⟩
/-! ### Literals -/
def placeF (T : Tab) (d : TD) (i : Nat) (K : Nat → Nat → Prop) : Prop :=
  match d with
  | .strct fs => pickF fs i fun off t => withT T t fun j => K off j.size
  | .arr _ e => withT T e fun j => K (i * j.size) j.size
  | .slice e => withT T e fun j => K (i * j.size) j.size
  | _ => False
def vFill (T : Tab) (d : TD) (fr : List AV) : List (Nat × Operand) → List AV → (List AV → Prop) → Prop
  | [], cs, K => K cs
  | (i, x) :: ps, cs, K => placeF T d i fun off sz => cellsF (ev fr x) fun l => lenF l fun m => testP (Nat.beq m sz) (spliceF cs off l fun cs' => vFill T d fr ps cs' K)
theorem foldl_splice (l : List Value) : ∀ (off : Nat) (cs : Array Value), off + l.length ≤ cs.size → ((l.zipIdx 0).foldl (fun cs (c, j) => cs.setIfInBounds (off + j) c) cs).toList = cs.toList.take off ++ l ++ cs.toList.drop (off + l.length) := by
  have key : ∀ (l : List Value) (k off : Nat) (cs : Array Value), off + k + l.length ≤ cs.size → ((l.zipIdx k).foldl (fun cs (c, j) => cs.setIfInBounds (off + j) c) cs).toList = cs.toList.take (off + k) ++ l ++ cs.toList.drop (off + k + l.length) := by
    intro l
    induction l with
    | nil => intro k off cs h; simp
    | cons x l ih =>
      intro k off cs h
      rw [List.zipIdx_cons, List.foldl_cons, ih (k + 1) off _ (by simp at h ⊢; omega)]
      have e := list_seg_step cs.toList (off + k) x l (by simp at h ⊢; omega)
      simpa [Array.toList_setIfInBounds, Nat.add_assoc] using e
  intro off cs h
  have := key l 0 off cs (by simpa using h)
  simpa using this
theorem vFill_ok {P : Program} {T : Tab} (hT : TOk P T) {d : TD} {fr : List AV} (place : Nat → Option (Nat × Nat)) (hplace : ∀ i (K : Nat → Nat → Prop), placeF T d i K → ∃ off sz, place i = some (off, sz) ∧ K off sz) :
    ∀ (ps : List (Nat × Operand)) (cs : List AV) (K : List AV → Prop), vFill T d fr ps cs K → ∃ cs', K cs' ∧ ∀ (β : Nm) (ρ : Operand → Value) (c : Array Value), (∀ p ∈ ps, (ev fr p.2).rel β (ρ p.2)) → AV.rels β cs c.toList → ∃ c', Instr.fill place c (ps.map fun (i, x) => (i, ρ x)) = some c' ∧ AV.rels β cs' c'.toList
  | [], cs, K, h => ⟨cs, h, fun β ρ c _ hc => ⟨c, rfl, hc⟩⟩
  | (i, x) :: ps, cs, K, h => by
    obtain ⟨off, sz, h1, h2⟩ := hplace i _ h
    obtain ⟨l, h3, h4⟩ := cellsF_eq h2
    obtain ⟨h50, h6⟩ := testP_eq (lenF_eq h3)
    have h5 := Nat.eq_of_beq_eq_true h50
    obtain ⟨h7, h8⟩ := spliceF_eq _ _ _ _ h6
    obtain ⟨cs', h9, h10⟩ := vFill_ok hT place hplace ps _ K h8
    refine ⟨cs', h9, fun β ρ c hf hc => ?_⟩
    have hz := h4 _ _ (hf (i, x) (by simp))
    simp only at hz
    have hzl := AV.rels_length hz
    have hcl := AV.rels_length hc
    have hsz : (ρ x).cells.size = sz := by rw [← h5, ← hzl]; simp
    simp at hcl
    have hfold := foldl_splice (ρ x).cells.toList off c (by rw [hzl]; omega)
    obtain ⟨c', h11, h12⟩ := h10 β ρ ((ρ x).cells.zipIdx.foldl (fun cs (c, j) => cs.setIfInBounds (off + j) c) c) (fun p hp => hf p (by simp [hp])) (by
      have e : ((ρ x).cells.zipIdx.foldl (fun cs (c, j) => cs.setIfInBounds (off + j) c) c).toList = c.toList.take off ++ (ρ x).cells.toList ++ c.toList.drop (off + (ρ x).cells.toList.length) := by
        rw [← hfold, ← Array.foldl_toList]; simp
      rw [e, hzl]
      exact AV.rels_append (AV.rels_append (AV.rels_take off hc) hz) (AV.rels_drop _ hc))
    refine ⟨c', ?_, h12⟩
    have hle : ¬ (off + (ρ x).cells.size > c.size) := by rw [hsz, ← h5]; omega
    simp only [List.map_cons, Instr.fill, h1, hsz, ne_eq, not_true_eq_false]
    rw [if_neg (by rw [hsz] at hle; simpa using hle)]
    exact h11
def allIn (T : Tab) : List (Nat × TypeId) → Bool
  | [] => true
  | (_, t) :: l => (look T t).isSome && allIn T l
theorem allIn_get {P : Program} {T : Tab} (hT : TOk P T) : ∀ {l : List (Nat × TypeId)}, allIn T l = true → ∀ x ∈ l, ∃ i, look T x.2 = some i ∧ TIok P x.2 i
  | [], _, _, h => by cases h
  | (o, t) :: l, h, x, hx => by
    simp only [allIn, Bool.and_eq_true] at h
    rcases List.mem_cons.1 hx with rfl | hx
    · obtain ⟨i, hi⟩ := Option.isSome_iff_exists.1 h.1
      exact ⟨i, hi, tiOk hT hi⟩
    · exact allIn_get hT h.2 x hx
def vBuild (T : Tab) (t : TypeId) (ps : Array (Nat × Operand)) (fr : List AV) (K : AV → Prop) : Prop :=
  withT T t fun i => match i.td with
    | .strct fs => testP (allIn T fs) (valsF i.zero fun zs => vFill T (.strct fs) fr ps.toList zs fun cs => K (.agg cs))
    | .arr n e => withT T e fun _ => valsF i.zero fun zs => vFill T (.arr n e) fr ps.toList zs fun cs => K (.agg cs)
    | _ => False
theorem placesM {P : Program} : ∀ (gs : List Field), (∀ f ∈ gs, ∃ i, TIok P f.type i) →
    ∃ ps : List (Nat × Nat), (∀ w, (gs.mapM fun (f : Field) => Prod.mk f.offset <$> sizeOf f.type).run P w = .ok ps w) ∧ ∀ (j : Nat) (f : Field), gs[j]? = some f → ∃ i, TIok P f.type i ∧ ps[j]? = some (f.offset, i.size)
  | [], _ => ⟨[], by simp, by simp⟩
  | f :: gs, h => by
    obtain ⟨i, hi⟩ := h f (by simp)
    obtain ⟨ps, h1, h2⟩ := placesM gs (fun f hf => h f (by simp [hf]))
    refine ⟨(f.offset, i.size) :: ps, fun w => ?_, ?_⟩
    · simp [List.mapM_cons, hi.size, h1]
    · intro j g hg
      cases j with
      | zero => simp at hg; subst hg; exact ⟨i, hi, by simp⟩
      | succ j => simpa using h2 j g (by simpa using hg)
theorem vBuild_ok {P : Program} {T : Tab} (hT : TOk P T) {o : Oper} {fr : List AV} {hp : List Blk} {G : Mem} {K : AV → Prop} {t : TypeId} {ps : Array (Nat × Operand)} (ho : o.op = .build t ps) (h : vBuild T t ps fr K) : PureS P o fr hp G K := by
  have hm : ∀ p ∈ ps.toList, p.2 ∈ o.op.operands.toList := fun p hp => by
    simp [ho, Op.operands]; exact ⟨p.1, by simpa using hp⟩
  obtain ⟨i, hi, h1⟩ := withT_ok hT h
  split at h1
  · rename_i fs hd
    obtain ⟨ha, h2⟩ := testP_eq h1
    rw [valsF_eq] at h2
    obtain ⟨gs, hu, hgs⟩ := und_of (hd ▸ hi.td)
    have hin : ∀ f ∈ gs.toList, ∃ i, TIok P f.type i := fun f hfm => by
      obtain ⟨i, _, h3⟩ := allIn_get hT ha (f.offset, f.type) (by rw [← hgs]; exact List.mem_map_of_mem (f := fun f : Field => (f.offset, f.type)) hfm)
      exact ⟨i, h3⟩
    obtain ⟨pl, hpl0, hpl2⟩ := placesM (P := P) gs.toList hin
    obtain ⟨cs', h5, h6⟩ := vFill_ok hT (fun x => pl.toArray[x]?) (fun j K hK => by
      obtain ⟨off, ty, g1, g2⟩ := pickF_eq hK
      obtain ⟨q, hq, g3⟩ := withT_ok hT g2
      rw [← hgs, List.getElem?_map] at g1
      cases hg : gs.toList[j]? with
      | none => rw [hg] at g1; cases g1
      | some f =>
        rw [hg] at g1
        simp at g1
        obtain ⟨rfl, rfl⟩ := g1
        obtain ⟨q', hq', g4⟩ := hpl2 j f hg
        have e1 : q'.size = q.size := by
          have a1 := hq'.size (default : World); have a2 := hq.size (default : World)
          rw [a1] at a2; injection a2
        exact ⟨f.offset, q.size, by simp [g4, e1], g3⟩) ps.toList _ _ h2
    refine ⟨_, h5, fun base β ρ w hr hf => ?_⟩
    obtain ⟨z, hz, hz2⟩ := hi.zero (P := P) w
    have hzr : AV.rels β (i.zero.map .val) z.cells.toList := by rw [hz2]; exact AV.rels_vals _
    obtain ⟨c', h3, h4⟩ := h6 β ρ z.cells (fun p hp => hf _ (hm p hp)) hzr
    have hpl := hpl0 w
    refine ⟨.agg c', ?_, by simp only [AV.rel]; exact ⟨c', rfl, h4⟩⟩
    simp [execOp, ho, Instr.build, run_underlying hu, hz, Array.mapM_eq_mapM_toList, hpl]
    simp at h3
    simp [h3]
  · rename_i n e hd
    obtain ⟨j, hj, h2⟩ := withT_ok hT h1
    rw [valsF_eq] at h2
    have hu := und_of (hd ▸ hi.td)
    simp only [TD.says] at hu
    obtain ⟨cs', h5, h6⟩ := vFill_ok hT (fun m => some (m * j.size, j.size)) (fun m K hK => by
      obtain ⟨q, hq, g3⟩ := withT_ok hT hK
      have e1 : q.size = j.size := by
        have a1 := hq.size (default : World); have a2 := hj.size (default : World)
        rw [a1] at a2; injection a2
      exact ⟨m * j.size, j.size, rfl, by rw [e1] at g3; exact g3⟩) ps.toList _ _ h2
    refine ⟨_, h5, fun base β ρ w hr hf => ?_⟩
    obtain ⟨z, hz, hz2⟩ := hi.zero (P := P) w
    have hzr : AV.rels β (i.zero.map .val) z.cells.toList := by rw [hz2]; exact AV.rels_vals _
    obtain ⟨c', h3, h4⟩ := h6 β ρ z.cells (fun p hp => hf _ (hm p hp)) hzr
    refine ⟨.agg c', ?_, by simp only [AV.rel]; exact ⟨c', rfl, h4⟩⟩
    simp [execOp, ho, Instr.build, run_underlying hu, hz, hj.size]
    simp at h3
    simp [h3]
  · exact h1.elim
/-- n times the same cells. -/
def repF : Nat → List Value → (List AV → Prop) → Prop
  | 0, _, K => K []
  | n + 1, z, K => repF n z fun m => valsF z fun q => catF q m K
theorem repF_eq : ∀ (n : Nat) (z : List Value) (K : List AV → Prop), repF n z K = K ((List.replicate n z).flatten.map .val)
  | 0, _, _ => rfl
  | n + 1, z, K => by
    rw [repF, repF_eq n z, valsF_eq, catF_eq, List.replicate_succ, List.flatten_cons, List.map_append]
theorem rep_cells (z : Array Value) : ∀ (n : Nat), ((Array.range (n * z.size)).map (z[· % z.size]!)).toList = (List.replicate n z.toList).flatten := by
  intro n
  apply List.ext_getElem?
  intro j
  by_cases hz : z.size = 0
  · have : z.toList = [] := by simpa using hz
    simp [hz, this]
  · have key : ∀ n j, (List.replicate n z.toList).flatten[j]? = if j < n * z.size then some z[j % z.size]! else none := by
      intro n
      induction n with
      | zero => intro j; simp
      | succ n ih =>
        intro j
        rw [List.replicate_succ, List.flatten_cons, List.getElem?_append]
        by_cases hj : j < z.size
        · have h2 : j < (n + 1) * z.size := by rw [Nat.add_mul]; omega
          simp [hj, h2, Nat.mod_eq_of_lt hj]
        · have e : j % z.size = (j - z.size) % z.size := by rw [← Nat.mod_eq_sub_mod (by omega)]
          simp only [Array.length_toList, hj, if_false, ih, e]
          have : (j - z.size < n * z.size) = (j < (n + 1) * z.size) := by rw [Nat.add_mul]; apply propext; omega
          simp [this]
    rw [key]
    by_cases hj : j < n * z.size
    · simp [hj]
    · simp [hj]
def vBuildSlice (T : Tab) (t : TypeId) (len : Nat) (ps : Array (Nat × Operand)) (fr : List AV) (hp : List Blk) (G : Mem) (K : AV → List Blk → Mem → Prop) : Prop :=
  withT T t fun i => match i.td with
    | .slice e => withT T e fun j => testP (Nat.ble (len * j.size) 16777216) (testP (Nat.beq j.zero.length j.size) (repF len j.zero fun zs => vFill T (.slice e) fr ps.toList zs fun cs =>
        lenF hp fun n => catF hp [.cells e cs] fun hp' => K (.sli n 0 len len) hp' G))
    | _ => False
theorem vBuildSlice_ok {P : Program} {T : Tab} (hT : TOk P T) {o : Oper} {fr : List AV} {hp : List Blk} {G : Mem} {K : AV → List Blk → Mem → Prop} {t : TypeId} {len : Nat} {ps : Array (Nat × Operand)} (ho : o.op = .buildSlice t len ps) (h : vBuildSlice T t len ps fr hp G K) : NewS P o fr hp G K := by
  have hm : ∀ p ∈ ps.toList, p.2 ∈ o.op.operands.toList := fun p hp => by
    simp [ho, Op.operands]; exact ⟨p.1, by simpa using hp⟩
  obtain ⟨i, hi, h1⟩ := withT_ok hT h
  split at h1
  · rename_i e hd
    have hu := und_of (hd ▸ hi.td)
    simp only [TD.says] at hu
    obtain ⟨j, hj, h20⟩ := withT_ok hT h1
    obtain ⟨hle, h21⟩ := testP_eq h20
    obtain ⟨hzl0, h2⟩ := testP_eq h21
    have hzl := Nat.eq_of_beq_eq_true hzl0
    rw [repF_eq] at h2
    obtain ⟨cs', h5, h10⟩ := vFill_ok hT (fun m => some (m * j.size, j.size)) (fun m K hK => by
      obtain ⟨q, hq, g3⟩ := withT_ok hT hK
      have e1 : q.size = j.size := by
        have a1 := hq.size (default : World); have a2 := hj.size (default : World)
        rw [a1] at a2; injection a2
      exact ⟨m * j.size, j.size, rfl, by rw [e1] at g3; exact g3⟩) ps.toList _ _ h2
    have h6 := lenF_eq h5
    rw [catF_eq] at h6
    refine ⟨.sli hp.length 0 len len, _, h6, fun base β ρ w hb hs hn hf => ?_⟩
    obtain ⟨z, hz, hz2⟩ := hj.zero (P := P) w
    have hzs : z.cells.size = j.size := by rw [← hzl, ← hz2]; simp
    have hrep := rep_cells z.cells len
    rw [hzs, hz2] at hrep
    obtain ⟨c', h3, h4⟩ := h10 β ρ ((Array.range (len * j.size)).map (z.cells[· % j.size]!)) (fun p hp => hf _ (hm p hp)) (by rw [hrep]; exact AV.rels_vals _)
    have hle' : ¬ (len * j.size > 2 ^ 24) := by have := Nat.le_of_ble_eq_true hle; omega
    have hrun : (Instr.buildSlice t len (ps.map fun (i, x) => (i, ρ x))).run P w = .ok (.slice (some ⟨w.heap.size, 0, none⟩) len len) (w.alloc (.cells c' e)) := by
      have h3' := h3
      rw [← hzs] at h3'
      by_cases h0 : len * j.size = 0
      · have hz0 : ((Array.range (len * j.size)).map (z.cells[· % z.cells.size]!)) = #[] := by rw [h0]; simp
        rw [hzs] at h3'
        simp only [hzs] at hz0
        rw [hz0] at h3'
        simp at h3'
        simp [Instr.buildSlice, run_underlying hu, hj.size, h0, newRow, h3', Array.range_zero']
      · rw [hzs] at h3'
        simp at h3'
        simp [Instr.buildSlice, run_underlying hu, hj.size, hle', h0, newRow, hz, hzs, h3']
    refine ⟨_, .pointer (some ⟨w.heap.size, 0, none⟩), _, by simp [execOp, ho, hrun]; rfl, (Below.refl _ _).alloc (Nat.le_refl _) _, cells_new hb hs hn h4, fun b hb' => by simp [blkOf] at hb'; omega, ?_⟩
    simp only [AV.rel]
    exact ⟨_, w.heap.size, Nm.put_same _ _ _, rfl, rfl⟩
  · exact h1.elim
end Go.Proofs.Ytampdegpfndggaa
