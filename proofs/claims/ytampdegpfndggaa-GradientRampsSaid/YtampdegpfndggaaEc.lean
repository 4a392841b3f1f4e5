/-
  The engine: one operation. No program in sight.
-/
import Derived.Test.YtampdegpfndggaaEb
namespace Go.Proofs.Ytampdegpfndggaa
open Go.RowKit
set_option linter.unusedVariables false
set_option linter.unusedSimpArgs false
set_option linter.unnecessarySimpa false

def ev (fr : List AV) : Operand → AV
  | .tmp t => nthA fr t
  | .const v => .val v
  | .global g => .val (.pointer (some ⟨g, 0, none⟩))
  | .func f => .val (.func (.func f) #[] #[])
theorem ev_rel {β : Nm} {fr : List AV} {a : Act} (h : AV.rels β fr a.tmps.toList) (x : Operand) : (ev fr x).rel β (a.eval x) := by
  cases x with
  | tmp t =>
    simp only [ev, Act.eval, nthA_eq]
    cases hb : fr[t]? with
    | none => simp only [Option.getD_none, AV.rel]
    | some b =>
      obtain ⟨y, h1, h2⟩ := AV.rels_get h hb
      have : a.tmps.getD t undef = y := by
        rw [Array.getD_eq_getD_getElem?]
        simp at h1; simp [h1]
      rw [this]; exact h2
  | const v => simp only [ev, Act.eval, AV.rel]
  | global g => simp only [ev, Act.eval, AV.rel]
  | func f => simp only [ev, Act.eval, AV.rel]

/-- An operation is carried out: its value, the heap behind it. -/
def OpS (P : Program) (o : Oper) (fr : List AV) (hp : List Blk) (G : Mem) (K : AV → List Blk → Mem → Prop) : Prop :=
  ∀ (w0 : World) (G0 : Mem) (β : Nm) (a : Act) (w : World) (Q : Exit → Act → World → Prop) (N : Act → World → Prop), HR w0 G0 β hp G w → AV.rels β fr a.tmps.toList →
    (∀ β' v y hp' G' w', β.le β' → HR w0 G0 β' hp' G' w' → v.rel β' y → K v hp' G' → N (a.put o.dst y) w') → o.wp P a w N Q
def RunS (P : Program) (o : Oper) (fr : List AV) (hp : List Blk) (G : Mem) (K : AV → List Blk → Mem → Prop) : Prop :=
  ∀ (w0 : World) (G0 : Mem) (β : Nm) (a : Act) (w : World), HR w0 G0 β hp G w → AV.rels β fr a.tmps.toList →
    ∃ nx y w' β' v hp' G', (execOp a.eval o).run P w = .ok nx w' ∧ (nx = .value y ∨ nx = .skip ∧ y = undef) ∧ β.le β' ∧ HR w0 G0 β' hp' G' w' ∧ v.rel β' y ∧ K v hp' G'
theorem OpS.of_run {P : Program} {o : Oper} {fr : List AV} {hp : List Blk} {G : Mem} {K : AV → List Blk → Mem → Prop} (h : RunS P o fr hp G K) : OpS P o fr hp G K := by
  intro w0 G0 β a w Q N hr hf hN
  obtain ⟨nx, y, w', β', v, hp', G', h1, h2, h3, h4, h5, h6⟩ := h w0 G0 β a w hr hf
  unfold Oper.wp
  rw [h1]
  rcases h2 with rfl | ⟨rfl, rfl⟩
  · exact hN β' v y hp' G' w' h3 h4 h5 h6
  · exact hN β' v undef hp' G' w' h3 h4 h5 h6
/-- What of an abstract heap an operation may look at. -/
structure BR (base : Nat) (β : Nm) (hp : List Blk) (G : Mem) (w : World) : Prop where
  blk : ∀ k y x, β k = some y → hp[k]? = some x → x.rel base β G w y
  hold : G.holds w
theorem HR.br {w0 : World} {G0 : Mem} {β : Nm} {hp : List Blk} {G : Mem} {w : World} (h : HR w0 G0 β hp G w) : BR w0.heap.size β hp G w :=
  ⟨fun k y x hk hx => by
    obtain ⟨x', h1, h2⟩ := h.blk k y hk
    rw [hx] at h1; cases h1; exact h2, h.hold⟩
/-- The operands are as the frame says. -/
def Reads (o : Oper) (fr : List AV) (β : Nm) (ρ : Operand → Value) : Prop := ∀ x ∈ o.op.operands.toList, (ev fr x).rel β (ρ x)
theorem reads_of {o : Oper} {fr : List AV} {β : Nm} {a : Act} (h : AV.rels β fr a.tmps.toList) : Reads o fr β a.eval := fun x _ => ev_rel h x
/-- ONE value in whatever world, the world as it was. -/
def PureS (P : Program) (o : Oper) (fr : List AV) (hp : List Blk) (G : Mem) (K : AV → Prop) : Prop :=
  ∃ v, K v ∧ ∀ (base : Nat) (β : Nm) (ρ : Operand → Value) (w : World), BR base β hp G w → Reads o fr β ρ → ∃ y, (execOp ρ o).run P w = .ok (.value y) w ∧ v.rel β y
theorem RunS.pure {P : Program} {o : Oper} {fr : List AV} {hp : List Blk} {G : Mem} {K : AV → List Blk → Mem → Prop} (h : PureS P o fr hp G fun v => K v hp G) : RunS P o fr hp G K := by
  intro w0 G0 β a w hr hf
  obtain ⟨v, h1, h2⟩ := h
  obtain ⟨y, h3, h4⟩ := h2 _ β a.eval w hr.br (reads_of hf)
  exact ⟨_, y, w, β, v, hp, G, h3, .inl rfl, Nm.le_refl _, hr, h4, h1⟩

/-! ### Taking abstract values apart -/
def withInt (a : AV) (K : IntKind → Int → Prop) : Prop :=
  match a with
  | .val (.int k n) => K k n
  | _ => False
theorem withInt_eq {a : AV} {K : IntKind → Int → Prop} (h : withInt a K) : ∃ k n, a = .val (.int k n) ∧ K k n := by
  unfold withInt at h
  split at h
  · exact ⟨_, _, rfl, h⟩
  · exact h.elim
def withBool (a : AV) (K : Bool → Prop) : Prop :=
  match a with
  | .val (.bool b) => K b
  | _ => False
theorem withBool_eq {a : AV} {K : Bool → Prop} (h : withBool a K) : ∃ b, a = .val (.bool b) ∧ K b := by
  unfold withBool at h
  split at h
  · exact ⟨_, rfl, h⟩
  · exact h.elim
def withStr (a : AV) (K : ByteArray → Prop) : Prop :=
  match a with
  | .val (.string s) => K s
  | _ => False
theorem withStr_eq {a : AV} {K : ByteArray → Prop} (h : withStr a K) : ∃ b, a = .val (.string b) ∧ K b := by
  unfold withStr at h
  split at h
  · exact ⟨_, rfl, h⟩
  · exact h.elim
/-- Its cells. -/
def cellsF (a : AV) (K : List AV → Prop) : Prop :=
  match a with
  | .agg l => K l
  | .val (.agg cs) => valsF cs.toList K
  | .val (.tuple _) => False
  | .any => False
  | .tup _ => False
  | .val x => K [.val x]
  | .ptr k o => K [.ptr k o]
  | .sli k o l c => K [.sli k o l c]
  | .own k => K [.own k]
  | .fn f a b => K [.fn f a b]
theorem cellsF_eq {a : AV} {K : List AV → Prop} (h : cellsF a K) : ∃ l, K l ∧ ∀ β y, a.rel β y → AV.rels β l y.cells.toList := by
  unfold cellsF at h
  split at h
  · rename_i l
    refine ⟨l, h, fun β y e => ?_⟩
    simp only [AV.rel] at e
    obtain ⟨cs, rfl, h2⟩ := e
    exact h2
  · rename_i cs
    rw [valsF_eq] at h
    refine ⟨_, h, fun β y e => ?_⟩
    simp only [AV.rel] at e
    subst e
    exact AV.rels_vals _
  · exact h.elim
  · exact h.elim
  · exact h.elim
  · rename_i x h1 h2
    refine ⟨_, h, fun β y e => ?_⟩
    have e' := e
    simp only [AV.rel] at e'
    subst e'
    have hc : y.cells = #[y] := by cases y <;> first | rfl | exact absurd rfl (h1 _)
    rw [hc]; simp only [AV.rels]; exact ⟨y, [], rfl, e, rfl⟩
  · refine ⟨_, h, fun β y e => ?_⟩
    have hc : y.cells = #[y] := by
      simp only [AV.rel] at e; obtain ⟨_, _, _, _, rfl⟩ := e; rfl
    rw [hc]; simp only [AV.rels]; exact ⟨y, [], rfl, e, rfl⟩
  · refine ⟨_, h, fun β y e => ?_⟩
    have hc : y.cells = #[y] := by
      simp only [AV.rel] at e; obtain ⟨_, _, _, _, rfl⟩ := e; rfl
    rw [hc]; simp only [AV.rels]; exact ⟨y, [], rfl, e, rfl⟩
  · refine ⟨_, h, fun β y e => ?_⟩
    have hc : y.cells = #[y] := by
      simp only [AV.rel] at e; obtain ⟨_, e2⟩ := e
      cases y <;> first | rfl | cases e2
    rw [hc]; simp only [AV.rels]; exact ⟨y, [], rfl, e, rfl⟩
  · refine ⟨_, h, fun β y e => ?_⟩
    have hc : y.cells = #[y] := by
      simp only [AV.rel] at e; obtain ⟨_, _, rfl, _⟩ := e; rfl
    rw [hc]; simp only [AV.rels]; exact ⟨y, [], rfl, e, rfl⟩

/-! ### New variables -/
def vNew (t : TypeId) (cs : List AV) (hp : List Blk) (G : Mem) (K : AV → List Blk → Mem → Prop) : Prop :=
  lenF hp fun n => catF hp [.cells t cs] fun hp' => K (.ptr n 0) hp' G
/-- ONE new block in whatever world. -/
def NewS (P : Program) (o : Oper) (fr : List AV) (hp : List Blk) (G : Mem) (K : AV → List Blk → Mem → Prop) : Prop :=
  ∃ v x, K v (hp ++ [x]) G ∧ ∀ (base : Nat) (β : Nm) (ρ : Operand → Value) (w : World), BR base β hp G w → base ≤ w.heap.size → β hp.length = none → Reads o fr β ρ →
    ∃ y z w', (execOp ρ o).run P w = .ok (.value y) w' ∧ Below w.heap.size w w' ∧ x.rel base (β.put hp.length z) G w' z ∧ (∀ b, blkOf z = some b → w.heap.size ≤ b) ∧ v.rel (β.put hp.length z) y
theorem RunS.new {P : Program} {o : Oper} {fr : List AV} {hp : List Blk} {G : Mem} {K : AV → List Blk → Mem → Prop} (h : NewS P o fr hp G K) : RunS P o fr hp G K := by
  intro w0 G0 β a w hr hf
  obtain ⟨v, x, h1, h2⟩ := h
  have hn := hr.fresh (Nat.le_refl _)
  obtain ⟨y, z, w', h3, h4, h5, h6, h7⟩ := h2 _ β a.eval w hr.br hr.below.size hn (reads_of hf)
  exact ⟨_, y, w', _, v, _, G, h3, .inl rfl, Nm.le_put z hn, hr.name h4 h5 rfl h6, h7, h1⟩
theorem mem_new {G : Mem} {w : World} (h : G.holds w) {b : Nat} (hb : w.heap.size ≤ b) : G b = none := by
  cases hg : G b with
  | none => rfl
  | some o =>
    have := (Array.getElem?_eq_some_iff.1 (h _ _ hg)).1
    omega
theorem cells_new {base : Nat} {β : Nm} {hp : List Blk} {G : Mem} {w : World} (h : BR base β hp G w) (hb : base ≤ w.heap.size) {n : Nat} (hn : β n = none) {t : TypeId} {l : List AV} {c : Array Value} (hc : AV.rels β l c.toList) :
    (Blk.cells t l).rel base (β.put n (.pointer (some ⟨w.heap.size, 0, none⟩))) G (w.alloc (.cells c t)) (.pointer (some ⟨w.heap.size, 0, none⟩)) :=
  ⟨_, c, rfl, hb, mem_new h.hold (Nat.le_refl _), heap_alloc_new w _, AV.rels_mono (Nm.le_put _ hn) _ _ hc⟩
theorem vNew_ok {P : Program} {o : Oper} {fr : List AV} {hp : List Blk} {G : Mem} {K : AV → List Blk → Mem → Prop} {t : TypeId} {cs : List AV} (h : vNew t cs hp G K)
    (hrun : ∀ (base : Nat) (β : Nm) (ρ : Operand → Value) (w : World), BR base β hp G w → Reads o fr β ρ → ∃ c, AV.rels β cs c.toList ∧ (execOp ρ o).run P w = .ok (.value (.pointer (some ⟨w.heap.size, 0, none⟩))) (w.alloc (.cells c t))) : NewS P o fr hp G K := by
  have h3 := lenF_eq h
  rw [catF_eq] at h3
  refine ⟨_, _, h3, fun base β ρ w hb hs hn hf => ?_⟩
  obtain ⟨c, h1, h2⟩ := hrun base β ρ w hb hf
  refine ⟨_, .pointer (some ⟨w.heap.size, 0, none⟩), _, h2, (Below.refl _ _).alloc (Nat.le_refl _) _, cells_new hb hs hn h1, fun b hb' => by simp [blkOf] at hb'; omega, ?_⟩
  simp only [AV.rel]
  exact ⟨_, w.heap.size, Nm.put_same _ _ _, rfl, rfl⟩
def vAlloc (T : Tab) (e : TypeId) (hp : List Blk) (G : Mem) (K : AV → List Blk → Mem → Prop) : Prop :=
  withT T e fun i => valsF i.zero fun zs => vNew e zs hp G K
theorem vAlloc_ok {P : Program} {T : Tab} (hT : TOk P T) {o : Oper} {fr : List AV} {hp : List Blk} {G : Mem} {K : AV → List Blk → Mem → Prop} {e : TypeId} (ho : o.op = .alloc e) (h : vAlloc T e hp G K) : NewS P o fr hp G K := by
  obtain ⟨i, hi, h1⟩ := withT_ok hT h
  rw [valsF_eq] at h1
  refine vNew_ok h1 fun base β ρ w hr hf => ?_
  obtain ⟨z, hz, hz2⟩ := hi.zero (P := P) w
  refine ⟨z.cells, by rw [hz2]; exact AV.rels_vals _, ?_⟩
  simp [execOp, ho, Instr.alloc, hz, newVar, newRow]
def vBox (e : TypeId) (x : Operand) (fr : List AV) (hp : List Blk) (G : Mem) (K : AV → List Blk → Mem → Prop) : Prop :=
  cellsF (ev fr x) fun cs => vNew e cs hp G K
theorem vBox_ok {P : Program} {o : Oper} {fr : List AV} {hp : List Blk} {G : Mem} {K : AV → List Blk → Mem → Prop} {e : TypeId} {x : Operand} (ho : o.op = .box e x) (h : vBox e x fr hp G K) : NewS P o fr hp G K := by
  obtain ⟨l, h1, h2⟩ := cellsF_eq h
  refine vNew_ok h1 fun base β ρ w hr hf => ⟨(ρ x).cells, h2 _ _ (hf x (by simp [ho, Op.operands])), ?_⟩
  simp [execOp, ho, Instr.box, newVar, newRow]

/-! ### Loads and stores -/
def TD.agg : TD → Bool
  | .strct _ => true
  | .arr _ _ => true
  | _ => false
def TD.says (P : Program) (t : TypeId) : TD → Prop
  | .int k => P.underlying t = some (.int k)
  | .bool => P.underlying t = some .bool
  | .str => P.underlying t = some .string
  | .ptr => ∃ e, P.underlying t = some (.pointer e)
  | .slice e => P.underlying t = some (.slice e)
  | .arr n e => P.underlying t = some (.array n e)
  | .strct fs => ∃ gs, P.underlying t = some (.struct gs) ∧ gs.toList.map (fun f => (f.offset, f.type)) = fs
  | .fn => ∃ a b c, P.underlying t = some (.func a b c)
  | .other => True
theorem und_of {P : Program} {t : TypeId} {d : TD} (h : tdOf P t = d) : d.says P t := by
  subst h
  unfold tdOf
  cases hd : P.underlying t with
  | none => trivial
  | some d => cases d <;> simp [TD.says, hd]
def TD.known : TD → Bool
  | .other => false
  | _ => true
theorem isAgg_run {P : Program} {t : TypeId} {i : TI} (h : TIok P t i) (hk : i.td.known = true) (w : World) : (isAgg t).run P w = .ok i.td.agg w := by
  have h1 := und_of h.td
  cases hd : i.td with
  | other => rw [hd] at hk; simp [TD.known] at hk
  | strct fs => rw [hd] at h1; obtain ⟨gs, h2, _⟩ := h1; simp [isAgg, run_underlying h2, TD.agg]
  | ptr => rw [hd] at h1; obtain ⟨gs, h2⟩ := h1; simp [isAgg, run_underlying h2, TD.agg]
  | fn => rw [hd] at h1; obtain ⟨_, _, _, h2⟩ := h1; simp [isAgg, run_underlying h2, TD.agg]
  | _ => rw [hd] at h1; simp [isAgg, run_underlying h1, TD.agg]
theorem addr_add (b o j : Nat) : (⟨b, o, none⟩ : Addr).add j = ⟨b, o + j, none⟩ := by unfold Addr.add; split <;> simp_all
theorem loadVar_run {P : Program} {t : TypeId} {i : TI} (h : TIok P t i) (hk : i.td.known = true) (w : World) (a : Addr) (cs : List Value) (hc : ∀ j v, cs[j]? = some v → w.cell? (a.add j) = some v) (hl : cs.length = i.size) :
    (i.td.agg = true → (loadVar t a).run P w = .ok (.agg cs.toArray) w) ∧ (i.td.agg = false → ∀ v, cs = [v] → (loadVar t a).run P w = .ok v w) := by
  refine ⟨fun ha => ?_, fun ha v hv => ?_⟩
  · have h1 := run_loadCells_list (P := P) w a cs hc
    rw [hl] at h1
    simp [loadVar, isAgg_run h hk, ha, h.size, h1]
  · subst hv
    have h1 := hc 0 v (by simp)
    have : a.add 0 = a := by simp [Addr.add]
    rw [this] at h1
    simp [loadVar, isAgg_run h hk, ha, load, Sem.run, h1]
/-- A value out of its cells. -/
def aggF (i : TI) (cs : List AV) (K : AV → Prop) : Prop :=
  match i.td with
  | .other => False
  | .strct _ => K (.agg cs)
  | .arr _ _ => K (.agg cs)
  | _ => match cs with
    | [c] => K c
    | _ => False
theorem aggF_eq {i : TI} {cs : List AV} {K : AV → Prop} (h : aggF i cs K) : i.td.known = true ∧ ((i.td.agg = true ∧ K (.agg cs)) ∨ (i.td.agg = false ∧ ∃ c, cs = [c] ∧ K c)) := by
  unfold aggF at h
  cases hd : i.td <;> rw [hd] at h <;> simp only [TD.known, TD.agg, true_and, Bool.true_eq_false, Bool.false_eq_true, false_and, or_false, false_or] at *
  all_goals first | exact h.elim | exact h | skip
  all_goals
    split at h
    · exact ⟨_, rfl, h⟩
    · exact h.elim
/-- The cells in memory that does not change: to be shown by hand. -/
def Mem.cellsAt (G : Mem) (a : Addr) (vs : List Value) : Prop := ∀ j v, vs[j]? = some v → G.cell? (a.add j) = some v
inductive OldCells (G : Mem) (a : Addr) (n : Nat) (K : List Value → Prop) : Prop
  | mk (vs : List Value) (e : vs.length = n ∧ G.cellsAt a vs) (h : K vs)
/-- Cells of a row of the call's own. -/
inductive OwnCells (xs : List Value) (o n : Nat) (K : List Value → Prop) : Prop
  | mk (vs : List Value) (e : vs.length = n ∧ ∀ (j : Nat) v, vs[j]? = some v → xs[o + j]? = some v) (h : K vs)
def vLoad (T : Tab) (t : TypeId) (x : Operand) (fr : List AV) (hp : List Blk) (G : Mem) (K : AV → List Blk → Mem → Prop) : Prop :=
  withT T t fun i =>
    match ev fr x with
    | .ptr k o => match nthB hp k with
      | .cells _ l => subF l o i.size fun cs => aggF i cs fun v => K v hp G
      | .own _ _ _ xs => OwnCells xs o i.size fun vs => valsF vs fun cs => aggF i cs fun v => K v hp G
      | .gone => False
    | .val (.pointer (some a)) => OldCells G a i.size fun vs => valsF vs fun cs => aggF i cs fun v => K v hp G
    | _ => False
theorem cells_of_block {w : World} {b : Nat} {c : Array Value} {t : TypeId} {fr : Nat × Nat} (h : w.heap[b]? = some (.cells c t fr)) (o : Nat) : w.cell? ⟨b, o, none⟩ = c[o]? := by simp [World.cell?, h]
theorem ownsRow_cell {w : World} {base e sz n : Nat} {y : Value} {xs : List Value} {b : Nat} (h : w.ownsRow base e sz y n xs) (hb : blkOf y = some b) {j : Nat} {v : Value} (hj : xs[j]? = some v) : w.cell? ⟨b, j, none⟩ = some v := by
  have hob : y.ownBlock = some b := by
    rcases blkOf_own y with h1 | h1
    · rw [h1]; exact hb
    · rcases h.2 with ⟨rfl, _⟩ | ⟨g, cap, cur, rfl, _⟩
      · simp [blkOf] at hb
      · simp [Value.ownBlock] at h1
  have := h.cells hob j v hj
  rwa [addr_add, Nat.zero_add] at this
theorem agg_doneP {P : Program} {t : TypeId} {i : TI} (h : TIok P t i) {cs : List AV} {K : AV → Prop} (hK : aggF i cs K) :
    ∃ v, K v ∧ ∀ (w : World) (a : Addr) (ys : List Value) (β : Nm), AV.rels β cs ys → (∀ j v, ys[j]? = some v → w.cell? (a.add j) = some v) → ys.length = i.size → ∃ y, (loadVar t a).run P w = .ok y w ∧ v.rel β y := by
  obtain ⟨hk, h1⟩ := aggF_eq hK
  rcases h1 with ⟨ha, hK'⟩ | ⟨ha, c, rfl, hK'⟩
  · refine ⟨_, hK', fun w a ys β hr hc hl => ?_⟩
    obtain ⟨h2, h3⟩ := loadVar_run h hk w a ys hc hl
    exact ⟨_, h2 ha, by simp only [AV.rel]; exact ⟨_, rfl, by simpa using hr⟩⟩
  · refine ⟨_, hK', fun w a ys β hr hc hl => ?_⟩
    obtain ⟨h2, h3⟩ := loadVar_run h hk w a ys hc hl
    simp only [AV.rels] at hr
    obtain ⟨y, zs, rfl, h4, rfl⟩ := hr
    exact ⟨y, h3 ha y rfl, h4⟩
/-- A load, wherever its address comes from. -/
theorem vLoad_core {P : Program} {T : Tab} (hT : TOk P T) {fr : List AV} {hp : List Blk} {G : Mem} {K : AV → List Blk → Mem → Prop} {t : TypeId} {x : Operand} (h : vLoad T t x fr hp G K) :
    ∃ v, K v hp G ∧ ∀ (base : Nat) (β : Nm) (u : Value) (w : World), BR base β hp G w → (ev fr x).rel β u → ∃ p y, u = .pointer (some p) ∧ (loadVar t p).run P w = .ok y w ∧ v.rel β y := by
  obtain ⟨i, hi, h1⟩ := withT_ok hT h
  split at h1
  · rename_i k off hx
    split at h1
    · rename_i t' l hl
      obtain ⟨h5, h6⟩ := subF_eq h1
      have hk := nthB_live hl rfl
      obtain ⟨v, hv, hrun⟩ := agg_doneP hi h6
      refine ⟨v, hv, fun base β u w hr he => ?_⟩
      rw [hx] at he
      simp only [AV.rel] at he
      obtain ⟨q, b, h2, h3, h4⟩ := he
      obtain ⟨b', c, rfl, _, _, h9, h10⟩ := hr.blk k q _ h2 hk
      simp [blkOf] at h3; subst h3
      obtain ⟨y, h7, h8⟩ := hrun w ⟨b', off, none⟩ _ β (AV.rels_take _ (AV.rels_drop _ h10)) (fun j v hj => by
        rw [addr_add, cells_of_block h9]
        rw [List.getElem?_take] at hj
        split at hj
        · simpa using hj
        · cases hj) (by
        have := AV.rels_length h10
        rw [List.length_take, List.length_drop]; omega)
      exact ⟨_, y, h4, h7, h8⟩
    · rename_i e sz n xs hl
      obtain ⟨vs, ⟨h5, h6⟩, h7⟩ := h1
      rw [valsF_eq] at h7
      have hk := nthB_live hl rfl
      obtain ⟨v, hv, hrun⟩ := agg_doneP hi h7
      refine ⟨v, hv, fun base β u w hr he => ?_⟩
      rw [hx] at he
      simp only [AV.rel] at he
      obtain ⟨q, b, h2, h3, h4⟩ := he
      have h9 := hr.blk k q _ h2 hk
      obtain ⟨y, h10, h11⟩ := hrun w ⟨b, off, none⟩ _ β (AV.rels_vals _) (fun j v hj => by
        rw [addr_add]
        exact ownsRow_cell h9.1 h3 (h6 j v hj)) h5
      exact ⟨_, y, h4, h10, h11⟩
    · exact h1.elim
  · rename_i p hx
    obtain ⟨vs, ⟨h5, h6⟩, h7⟩ := h1
    rw [valsF_eq] at h7
    obtain ⟨v, hv, hrun⟩ := agg_doneP hi h7
    refine ⟨v, hv, fun base β u w hr he => ?_⟩
    rw [hx] at he
    simp only [AV.rel] at he
    obtain ⟨y, h10, h11⟩ := hrun w p _ β (AV.rels_vals _) (fun j v hj => hr.hold.cell (h6 j v hj)) h5
    exact ⟨_, y, he, h10, h11⟩
  · exact h1.elim
theorem vLoad_ok {P : Program} {T : Tab} (hT : TOk P T) {o : Oper} {fr : List AV} {hp : List Blk} {G : Mem} {K : AV → List Blk → Mem → Prop} {t : TypeId} {x : Operand} (ho : o.op = .load t x) (h : vLoad T t x fr hp G K) : PureS P o fr hp G fun v => K v hp G := by
  obtain ⟨v, h1, h2⟩ := vLoad_core hT h
  refine ⟨v, h1, fun base β ρ w hr hf => ?_⟩
  obtain ⟨p, y, h3, h4, h5⟩ := h2 base β _ w hr (hf x (by simp [ho, Op.operands]))
  exact ⟨y, by simp [execOp, ho, h3, Instr.loadAt, Instr.sureAddr, h4], h5⟩
/-- Something to be shown. -/
structure mustP (A B : Prop) : Prop where
  left : A
  right : B
def setB : List Blk → Nat → Blk → (List Blk → Prop) → Prop := setF
def vStore (T : Tab) (t : TypeId) (x z : Operand) (fr : List AV) (hp : List Blk) (G : Mem) (K : AV → List Blk → Mem → Prop) : Prop :=
  withT T t fun i => cellsF (ev fr z) fun cs => lenF cs fun m => testP (Nat.beq m i.size) (testP (AV.cells cs)
    (match ev fr x with
    | .ptr k o => match nthB hp k with
      | .cells t' l => spliceF l o cs fun l' => setF hp k (.cells t' l') fun hp' => K (.val undef) hp' G
      | .own e sz n xs => plainF cs fun vs => mustP (o + vs.length ≤ xs.length) (setF hp k (.own e sz n (xs.take o ++ vs ++ xs.drop (o + vs.length))) fun hp' => K (.val undef) hp' G)
      | .gone => False
    | _ => False))
theorem below_grown_setRow (w : World) (b : Nat) (c : Array Value) : w.grownBy (w.setRow b c) (some b) :=
  ⟨rfl, rfl, rfl, by simp, fun k _ hne => setRow_other w b k c (fun e => hne (by rw [e]))⟩
theorem storeVar_run {P : Program} {t : TypeId} {i : TI} (hi : TIok P t i) {w : World} {b off : Nat} {c : Array Value} {t' : TypeId} {y : Value} {L : List Value} (hL : y.cells.toList = L) (hb : w.heap[b]? = some (.cells c t' (0, 0))) (hs : L.length = i.size) (hle : off + L.length ≤ c.size)
    (h1 : ∀ v ∈ L, v.oneCell' = true) : (storeVar t ⟨b, off, none⟩ y).run P w = .ok () (w.setRow b (c.toList.take off ++ L ++ c.toList.drop (off + L.length)).toArray) := by
  have h2 := run_storeCells_at P b off t' L 0 c w hb (by simpa using hle) h1
  simp only [Nat.add_zero] at h2
  have h3 : y.cells.size = i.size := by rw [← hs, ← hL]; simp
  unfold storeVar
  simp only [Sem.run_bind, hi.size, Result.andThen_ok, h3, ne_eq, not_true_eq_false, if_false]
  rw [hL]
  simpa using h2
theorem vStore_ok {P : Program} {T : Tab} (hT : TOk P T) {o : Oper} {fr : List AV} {hp : List Blk} {G : Mem} {K : AV → List Blk → Mem → Prop} {t : TypeId} {x z : Operand} (ho : o.op = .store t x z) (h : vStore T t x z fr hp G K) : RunS P o fr hp G K := by
  obtain ⟨i, hi, h1⟩ := withT_ok hT h
  obtain ⟨cs, h2, hcs⟩ := cellsF_eq h1
  have h3 := lenF_eq h2
  obtain ⟨hlen0, h3'⟩ := testP_eq h3
  obtain ⟨hcell, h4⟩ := testP_eq h3'
  have hlen := Nat.eq_of_beq_eq_true hlen0
  intro w0 G0 β a w hr hf
  have he := ev_rel hf x
  have hz := hcs _ _ (ev_rel hf z)
  have hzl : (a.eval z).cells.toList.length = i.size := by rw [AV.rels_length hz, hlen]
  have hone := AV.cells_rel hcell hz
  split at h4
  · rename_i k off hx
    rw [hx] at he
    simp only [AV.rel] at he
    obtain ⟨v, b, h5, h6, h7⟩ := he
    split at h4
    · rename_i t' l hl
      have hk := nthB_live hl rfl
      obtain ⟨h8, h9⟩ := spliceF_eq _ _ _ _ h4
      rw [setF_eq] at h9
      obtain ⟨x', h10, h11⟩ := hr.blk k v h5
      rw [hk] at h10; cases h10
      obtain ⟨b', c, rfl, hb1, hb2, hb3, hb4⟩ := h11
      have h6' := h6
      simp [blkOf] at h6; subst h6
      have hcl := AV.rels_length hb4
      have hrun := storeVar_run (P := P) hi (off := off) rfl hb3 hzl (by rw [hzl, ← hlen]; simp at hcl; omega) hone
      generalize hL : (a.eval z).cells.toList = L at *
      refine ⟨.skip, undef, _, β, .val undef, _, G, by simp [execOp, ho, h7, Instr.storeAt, Instr.sureAddr, hrun]; rfl, .inr ⟨rfl, rfl⟩, Nm.le_refl _, ?_, by simp only [AV.rel], h9⟩
      refine hr.setBlk h5 hk rfl h6' (below_grown_setRow _ _ _) ⟨b', _, rfl, hb1, hb2, setRow_heap _ _ _ _ _ _ hb3, ?_⟩
      have e : off + L.length = off + cs.length := by rw [AV.rels_length hz]
      rw [e]
      simpa [List.append_assoc] using AV.rels_append (AV.rels_append (AV.rels_take off hb4) hz) (AV.rels_drop (off + cs.length) hb4)
    · rename_i e sz n xs hl
      have hk := nthB_live hl rfl
      obtain ⟨vs, rfl, h8, h9⟩ := plainF_eq _ _ h4
      rw [setF_eq] at h9
      obtain ⟨x', h10, h11⟩ := hr.blk k v h5
      rw [hk] at h10; cases h10
      obtain ⟨hown, hG⟩ := h11
      have hzv := rels_plain hz
      rcases hown.2 with ⟨rfl, _⟩ | ⟨g, cap, cur, rfl, hg1, hg2, hg3, hg4, hg5, hg6⟩
      · simp [blkOf] at h6
      have h6' := h6
      simp [blkOf] at h6; subst h6
      have hxl : xs.length ≤ cur.size := by rw [← hg6, List.length_take]; simp; omega
      have hrun := storeVar_run (P := P) hi (off := off) hzv hg2 (by rw [← hzv]; exact hzl) (by omega) (by rw [← hzv]; exact hone)
      refine ⟨.skip, undef, _, β, .val undef, _, G, by simp [execOp, ho, h7, Instr.storeAt, Instr.sureAddr, hrun]; rfl, .inr ⟨rfl, rfl⟩, Nm.le_refl _, ?_, by simp only [AV.rel], h9⟩
      refine hr.setBlk h5 hk rfl h6' (below_grown_setRow _ _ _) ⟨⟨?_, .inr ⟨g, cap, _, rfl, hg1, setRow_heap _ _ _ _ _ _ hg2, hg3, hg4, ?_, ?_⟩⟩, hG⟩
      · rw [← hown.1]
        simp [List.length_take, List.length_drop]; omega
      · rw [← hg5]
        simp [List.length_take, List.length_drop]; omega
      · have hn : n * sz = xs.length := hown.1.symm
        rw [hn] at hg6 ⊢
        apply List.ext_getElem?
        intro j
        have hx : ∀ j, j < xs.length → cur.toList[j]? = xs[j]? := fun j hj => by rw [← hg6, List.getElem?_take, if_pos hj]
        simp only [List.getElem?_take, List.getElem?_append, List.length_take, List.length_append, List.getElem?_drop, Array.length_toList]
        have e1 : min off cur.size = off := by omega
        have e2 : min off xs.length = off := by omega
        rw [e1, e2]
        by_cases hj : j < xs.length
        · rw [if_pos hj]
          by_cases hj2 : j < off
          · simp only [if_pos (show j < off + vs.length by omega), if_pos hj2]; exact hx j hj
          · by_cases hj3 : j < off + vs.length
            · simp only [if_pos hj3, if_neg hj2, if_pos (show j - off < vs.length by omega)]
            · simp only [if_neg hj3, if_neg hj2, if_neg (show ¬ j - off < vs.length by omega)]
              rw [hx _ (by omega), Nat.sub_sub]
        · rw [if_neg hj]
          by_cases hj2 : j < off + vs.length
          · omega
          · rw [if_neg hj2, List.getElem?_eq_none (by omega)]
    · exact h4.elim
  · exact h4.elim
end Go.Proofs.Ytampdegpfndggaa
