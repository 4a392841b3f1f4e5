/-
  The engine: ranges over functions. No program in sight.
-/
import Derived.Test.YtbkhpddodmbdoaaEng2
namespace Go.Proofs.Ytbkhpddodmbdoaa
open Go.RowKit
set_option linter.unusedVariables false
set_option linter.unusedSimpArgs false
set_option linter.unnecessarySimpa false

/-- The loop's parameters get their values. -/
def psF : List Tmp → List AV → List AV → (List AV → Prop) → Prop
  | [], [], fr, K => K fr
  | t :: ts, a :: l, fr, K => setF fr t a fun fr' => psF ts l fr' K
  | _, _, _, _ => False
theorem psF_ok {β : Nm} : ∀ (ts : List Tmp) (l fr : List AV) (K : List AV → Prop), psF ts l fr K → ∀ (vs : List Value) (tm : Array Value), AV.rels β l vs → AV.rels β fr tm.toList →
    vs.length = ts.length ∧ ∃ fr', AV.rels β fr' ((ts.zip vs).foldl (fun t (p : Tmp × Value) => t.setIfInBounds p.1 p.2) tm).toList ∧ K fr'
  | [], [], fr, K, h, vs, tm, ha, hf => by
    simp only [AV.rels] at ha; subst ha
    exact ⟨rfl, fr, by simpa using hf, h⟩
  | t :: ts, a :: l, fr, K, h, vs, tm, ha, hf => by
    simp only [AV.rels] at ha
    obtain ⟨y, zs, rfl, h1, h2⟩ := ha
    simp only [psF, setF_eq] at h
    obtain ⟨h3, fr', h4, h5⟩ := psF_ok ts l _ K h zs (tm.setIfInBounds t y) h2 (by simpa using AV.rels_set t hf h1)
    exact ⟨by simp [h3], fr', by simpa using h4, h5⟩
  | [], _ :: _, _, _, h, _, _, _, _ => h.elim
  | _ :: _, [], _, _, h, _, _, _, _ => h.elim
/-- The record's state in the abstract heap. -/
def lpF (hp : List Blk) (k : Nat) (K : LpI → List AV → LoopState → Option Code → Prop) : Prop :=
  match nthB hp k with
  | .lp i fr st p => K i fr st p
  | _ => False
theorem lpF_eq {hp : List Blk} {k : Nat} {K : LpI → List AV → LoopState → Option Code → Prop} (h : lpF hp k K) : ∃ i fr st p, hp[k]? = some (.lp i fr st p) ∧ K i fr st p := by
  unfold lpF at h
  split at h
  · rename_i i fr st p hb
    exact ⟨i, fr, st, p, nthB_live hb rfl, h⟩
  · exact h.elim
/-- The record is turned. -/
theorem HR.turnLp {w0 : World} {G0 : Mem} {β : Nm} {hp : List Blk} {G : Mem} {w : World} (hr : HR w0 G0 β hp G w) {k : Nat} {v : Value} {l : Nat} (hv : β k = some v) (hl : blkOf v = some l) {i : LpI} {fr : List AV} {st : LoopState} {p : Option Code} (hk : hp[k]? = some (.lp i fr st p)) :
    i.l = l ∧ ∃ tmps, w.heap[l]? = some (i.rec_ tmps st p) ∧ ∀ st' p', HR w0 G0 β (hp.set k (.lp i fr st' p')) G (w.putObj l (i.rec_ tmps st' p')) := by
  obtain ⟨x, h1, h2⟩ := hr.blk k v hv
  rw [hk] at h1; cases h1
  obtain ⟨rfl, h3, h4, tm, h5, h6⟩ := h2
  simp [blkOf] at hl; subst hl
  refine ⟨rfl, tm, h5, fun st' p' => ?_⟩
  refine hr.setBlk hv hk rfl rfl (grownBy_putObj' w i.l _) ?_
  exact ⟨rfl, h3, h4, tm, World.putObj_heap_same (Array.getElem?_eq_some_iff.1 h5).1, h6⟩
def roundEnd (e : Exit) (hp : List Blk) (k : Nat) (B0 : Blk) (i : LpI) (fr : List AV) (G : Mem) (K : AV → List Blk → Mem → Prop) : Prop :=
  match e with
  | .normal => setF hp k B0 fun hp' => K (.val (.bool true)) hp' G
  | .ret => setF hp k (.lp i fr .done (some .ret)) fun hp' => K (.val (.bool false)) hp' G
  | .exit id => setF hp k (.lp i fr .done (some (.exit id))) fun hp' => K (.val (.bool false)) hp' G
  | _ => False
theorem roundEnd_ok {P : Program} {w0 : World} {G0 : Mem} {β0 : Nm} {k : Nat} {v : Value} {l : Nat} (hv : β0 k = some v) (hl : blkOf v = some l) {K : AV → List Blk → Mem → Prop} {B0 B1 : Blk} {i : LpI} {fi : List AV} (hB0 : B0 = .lp i fi .ready none) (hB1 : B1 = .lp i fi .busy none) {e : Exit} {a : Act} {w : World} {m : Bool} {ds : List Deferred}
    (hm : m = false) (h : SatM m w0 G0 β0 ds (fun _ hp G => mustP (nthB hp k = B1) (roundEnd e hp k B0 i fi G K)) a w) :
    roundPost P l (fun e w' => ∃ y β' v hp' G', e = .returned y ∧ β0.le β' ∧ HR w0 G0 β' hp' G' w' ∧ v.rel β' y ∧ K v hp' G') e a w := by
  obtain ⟨G1, ds', he, β, fr, hp, G, h0, h1, h2, h3, h4, h6⟩ := h
  obtain ⟨rfl, rfl⟩ := he.none_ hm
  subst hB0 hB1
  have h5 := nthB_live h4 rfl
  obtain ⟨h7, tm, h8, h9⟩ := h1.turnLp (h0 _ _ hv) hl h5
  subst h7
  unfold roundEnd at h6
  split at h6
  · rw [setF_eq] at h6
    exact ⟨_, _, run_endRound none h8, _, β, .val (.bool true), _, _, rfl, h0, h9 .ready none, by simp only [AV.rel]; rfl, h6⟩
  · rw [setF_eq] at h6
    exact ⟨_, _, run_endRound (some .ret) h8, _, β, .val (.bool false), _, _, rfl, h0, h9 .done _, by simp only [AV.rel]; rfl, h6⟩
  · rw [setF_eq] at h6
    exact ⟨_, _, run_endRound (some (.exit _)) h8, _, β, .val (.bool false), _, _, rfl, h0, h9 .done _, by simp only [AV.rel]; rfl, h6⟩
  · exact h6.elim
/-- A call of yield: the round is walked in place. -/
theorem YieldP_round {P : Program} {T : Tab} (hT : TOk P T) {k n : Nat} {args : List AV} {hp : List Blk} {G : Mem} {K : AV → List Blk → Mem → Prop} {B0 : Blk} {i : LpI} {frC : List AV} (hk : nthB hp k = B0) (hB0 : B0 = .lp i frC .ready none) {ps : Array Tmp} (hps : i.ps = ps) {ca b : Code} (hca : i.ca = ca) (hb : i.body = b) (nca : ndCode ca = true) (nb : ndCode b = true) (rca : noRng ca = true) (rb : noRng b = true) (hn : hp.length = n)
    (h : psF ps.toList args frC fun fr1 => vcode P T n ca fr1 hp G fun e fr2 hp2 G2 => match e with
      | .normal => mustP (nthB hp2 k = B0) (∀ B1 : Blk, B1 = .lp i frC .busy none → setF hp2 k B1 fun hp3 => vcode P T n b fr2 hp3 G2 fun e _ hp4 G4 => mustP (nthB hp4 k = B1) (roundEnd e hp4 k B0 i frC G4 K))
      | _ => False) : YieldP P k args hp G K := by
  subst hps hca hb hn
  constructor
  intro w0 G0 β w vs v l hv hl hr hargs
  have hk' := nthB_live (hk.trans hB0) rfl
  obtain ⟨hil, tm, hw, _⟩ := hr.turnLp hv hl hk'
  have hf : AV.rels β frC tm.toList := by
    obtain ⟨x, h1, h2⟩ := hr.blk k v hv
    rw [hk'] at h1; cases h1
    obtain ⟨_, _, _, tm', h5, h6⟩ := h2
    rw [hil, hw] at h5
    simp only [Option.some.injEq, LpI.rec_, Obj.loop.injEq, Loop.mk.injEq] at h5
    rw [h5.2.2.2.1]; exact h6
  obtain ⟨h1, fr1, h2, h3⟩ := psF_ok _ _ _ _ h vs.toList tm hargs hf
  have hz : (i.ps.zip vs).foldl (fun t (x : Tmp × Value) => t.setIfInBounds x.1 x.2) tm = (i.ps.toList.zip vs.toList).foldl (fun t (p : Tmp × Value) => t.setIfInBounds p.1 p.2) tm := by
    rw [← Array.foldl_toList, Array.toList_zip]
  refine ⟨_, _, _, _, run_yield hw (by simpa using h1), ?_⟩
  have hbel := Nm.below_of hr
  refine roundIn_of_wpIn trivial (wpIn_mono (vcode_ok (m := false) (ro := some l) hT hbel i.ca fr1 hp G _ G0 [] β _ w ⟨.inr nca, .inr rca⟩ (Nm.le_refl _) hr (by
    show AV.rels β fr1 (Array.toList _)
    rw [← hz] at h2; exact h2) rfl h3) ?_)
  intro e a1 w1 hs
  cases e with
  | normal =>
    obtain ⟨G1, ds', he, β1, fr2, hp2, G2, g0, g1, g2, g3, g4⟩ := hs
    obtain ⟨rfl, rfl⟩ := he.none_ rfl
    obtain ⟨g5, g6⟩ := g4
    have g5' := nthB_live (g5.trans hB0) rfl
    obtain ⟨g7, tm', g8, g9⟩ := g1.turnLp (g0 _ _ hv) hl g5'
    have g6 := g6 _ rfl
    rw [setF_eq] at g6
    refine ⟨_, run_beginRound g8 rfl, ?_⟩
    refine wpIn_mono (vcode_ok (m := false) (ro := some l) hT hbel i.body fr2 _ G2 _ _ _ β1 _ _ ⟨.inr nb, .inr rb⟩ g0 (g9 .busy none) g2 g3 g6) ?_
    intro e a2 w2 hs2
    exact roundEnd_ok hv hl hB0 rfl rfl hs2
  | exit id => obtain ⟨_, _, _, _, _, _, _, _, _, _, _, h4⟩ := hs; exact h4.elim
  | goto l => obtain ⟨_, _, _, _, _, _, _, _, _, _, _, h4⟩ := hs; exact h4.elim
  | ret => obtain ⟨_, _, _, _, _, _, _, _, _, _, _, h4⟩ := hs; exact h4.elim
  | panic ch => obtain ⟨_, _, _, _, _, _, _, _, _, _, _, h4⟩ := hs; exact h4.elim
  | outgrown => obtain ⟨_, _, _, _, _, _, _, _, _, _, _, h4⟩ := hs; exact h4.elim
/-- The iterator that is ranged over, and what it has captured. -/
def rangeF (c : AV) (K : FuncId → List AV → Prop) : Prop :=
  match c with
  | .val (.func (.func f) ⟨[]⟩ b) => valsF b.toList fun B => K f B
  | .fn (.func f) [] B => K f B
  | _ => False
theorem rangeF_eq {c : AV} {K : FuncId → List AV → Prop} (h : rangeF c K) : ∃ f B, K f B ∧ ∀ β y, c.rel β y → ∃ cs, y = .func (.func f) #[] cs ∧ AV.rels β B cs.toList := by
  unfold rangeF at h
  split at h
  · rename_i f b
    rw [valsF_eq] at h
    exact ⟨f, _, h, fun β y e => by simp only [AV.rel] at e; exact ⟨b, e, AV.rels_vals _⟩⟩
  · rename_i f B
    refine ⟨f, B, h, fun β y e => ?_⟩
    simp only [AV.rel, AV.rels] at e
    obtain ⟨xs, ys, rfl, h1, h2⟩ := e
    obtain rfl : xs = #[] := Array.toList_eq_nil_iff.1 h1
    exact ⟨ys, rfl, h2⟩
  · exact h.elim
/-- How the statement is left. -/
inductive RangeEnd (hp : List Blk) (k : Nat) (B0 : Blk) (i : LpI) (fr : List AV) (G : Mem) (Q : Post) : Prop
  | all (h : nthB hp k = B0) (h2 : setF hp k .gone fun hp' => Q .normal fr hp' G)
  | ret (h : nthB hp k = .lp i fr .done (some .ret)) (h2 : setF hp k .gone fun hp' => Q .ret fr hp' G)
  | exit (id : Nat) (h : nthB hp k = .lp i fr .done (some (.exit id))) (h2 : setF hp k .gone fun hp' => Q (.exit id) fr hp' G)
def Mem.put (G : Mem) (D : Nat) (o : Obj) : Mem := fun b => if b = D then some o else G b
theorem Mem.put_same (G : Mem) (D : Nat) (o : Obj) : G.put D o D = some o := by simp [Mem.put]
theorem Mem.put_ne (G : Mem) {D b : Nat} (o : Obj) (h : b ≠ D) : G.put D o b = G b := by simp [Mem.put, h]
theorem HR.allocM {w0 : World} {G0 : Mem} {β : Nm} {hp : List Blk} {G : Mem} {w : World} (hr : HR w0 G0 β hp G w) (o : Obj) (hmu : noMu 0 hp = true) : HR w0 (G.put w.heap.size o) β hp (G.put w.heap.size o) (w.alloc o) := by
  have hb : Below w.heap.size w (w.alloc o) := (Below.refl _ _).alloc (Nat.le_refl _) _
  refine ⟨(hr.step hb).below, fun b o' h => ?_, Mem.le_refl _, fun _ _ h => .inl h, fun k y hk => ?_, hr.inj, fun k S hk => absurd hk (noMu_ok hmu k S (Nat.zero_le _))⟩
  · by_cases e : b = w.heap.size
    · subst e
      rw [Mem.put_same] at h; cases h
      exact World.alloc_heap_new w o
    · rw [Mem.put_ne _ _ e] at h
      exact (hr.step hb).hold b o' h
  · obtain ⟨x, h1, h2⟩ := hr.blk k y hk
    refine ⟨x, h1, ?_⟩
    by_cases hl : x.live = true
    · refine Blk.rel_of (Nm.le_refl _) h2 (fun b hb' => ?_)
      have h3 := (hr.lt hk h1 hl hb').2.1
      exact ⟨hb.block b h3, fun h4 => by rw [Mem.put_ne _ _ (by omega)]; exact h4⟩
    · cases x <;> simp [Blk.live] at hl <;> first | trivial | exact h2.elim
/-- A range over an iterator of the program: the iterator is walked in place; its calls of yield are rounds. -/
theorem RangeP_enter {P : Program} {T : Tab} (hT : TOk P T) {n0 : Nat} {f : Operand} {ps : Array Tmp} {ca b : Code} {fr : List AV} {hp : List Blk} {G : Mem} {Q : Post} {g : FuncId} {fn : Func} (hfn : P.funcs[g]? = some fn) (hen : ∀ vs w, (callFunc g vs).run P w = .ok (.enter g vs) w)
    (h : rangeF (ev fr f) fun g' B => testP (Nat.beq g' g && noMu 0 hp) (lenF hp fun k => ∀ (i : LpI) (G' : Mem) (B0 : Blk), B0 = .lp i fr .ready none → i.ps = ps → i.ca = ca → i.body = b → G.le G' →
      catF hp [B0] fun hp' => bodyV P T (Nat.succ k) fn (.yl k :: B) hp' G' fun _ hp'' G'' => ∀ G3 : Mem, G.le G3 → G''.cle G3 → RangeEnd hp'' k B0 i fr G3 Q)) : RangeP P n0 f ps ca b fr hp G Q := by
  constructor
  intro w0 G0 ds β0 β a w hb hβ hr hf hd
  obtain ⟨g', B, h1, hcl⟩ := rangeF_eq h
  obtain ⟨h2, h3⟩ := testP_eq h1
  rw [Bool.and_eq_true] at h2
  obtain ⟨h2, hmu⟩ := h2
  obtain rfl := Nat.eq_of_beq_eq_true h2
  have h4 := lenF_eq h3
  obtain ⟨cs, hev, hB⟩ := hcl β _ (ev_rel hf f)
  refine wpIn_rangeFunc (fun fnc _ => ?_)
  obtain ⟨i, hi⟩ : ∃ i : LpI, i = ⟨w.heap.size + 1, w.heap.size, fnc, ps, ca, b⟩ := ⟨_, rfl⟩
  have hrec : i.rec_ a.tmps .ready none = .loop { state := .ready, pending := none, fn := fnc, tmps := a.tmps, params := ps, assign := ca, body := b, defers := w.heap.size } := by rw [hi]; rfl
  have hGD : G w.heap.size = none := mem_new hr.hold (Nat.le_refl _)
  have hr1 := hr.allocM (.deferred (some [])) hmu
  generalize hw1 : w.alloc (.deferred (some [])) = w1 at hr1
  have hs1 : w1.heap.size = w.heap.size + 1 := by rw [← hw1, World.size_alloc]
  have hn : β hp.length = none := hr.fresh (Nat.le_refl _)
  have hb2 : Below w1.heap.size w1 (w1.alloc (i.rec_ a.tmps .ready none)) := (Below.refl _ _).alloc (Nat.le_refl _) _
  have hr2 := hr1.name hb2 (y := .pointer (some ⟨w1.heap.size, 0, none⟩)) (x := .lp i fr .ready none) (n := hp.length) ⟨by rw [hi, hs1], by
      rw [hi]
      have := hr.below.size
      show w0.heap.size ≤ w.heap.size + 1
      omega, by
      rw [hi]
      show Mem.put G w.heap.size _ (w.heap.size + 1) = none
      rw [Mem.put_ne _ _ (by omega)]
      exact mem_new hr.hold (by omega), a.tmps, by
      rw [show i.l = w1.heap.size by rw [hi, hs1]]
      exact World.alloc_heap_new _ _, AV.rels_mono (Nm.le_put _ hn) _ _ hf⟩ rfl (fun b hb => by simp [blkOf] at hb; omega)
  have hnm : (β.put hp.length (.pointer (some ⟨w1.heap.size, 0, none⟩))) hp.length = some (.pointer (some ⟨w1.heap.size, 0, none⟩)) := Nm.put_same _ _ _
  have hβ2 : β.le (β.put hp.length (.pointer (some ⟨w1.heap.size, 0, none⟩))) := Nm.le_put _ hn
  have h5 := h4 i (G.put w.heap.size (.deferred (some []))) _ rfl (by rw [hi]) (by rw [hi]) (by rw [hi]) (fun b o hb => by
    rw [Mem.put_ne _ _ (fun e => by rw [e, hGD] at hb; cases hb)]; exact hb)
  rw [catF_eq] at h5
  have hlen : (hp ++ [Blk.lp i fr .ready none]).length = Nat.succ hp.length := by simp
  rw [← hlen] at h5
  refine ⟨w.heap.size + 1, [mark w.heap.size], w1.alloc (i.rec_ a.tmps .ready none), { target := .fn (.func g') cs, args := #[.func (.yield (w.heap.size + 1)) #[] #[]] }, w1.alloc (i.rec_ a.tmps .ready none), g', #[.func (.yield (w.heap.size + 1)) #[] #[]] ++ cs, w1.alloc (i.rec_ a.tmps .ready none), ?_, ?_, fun _ _ => trivial, ?_, fun h => (by cases h), ?_⟩
  · rw [hrec, ← hw1]; exact run_enterLoop_outer _ _ _ _ _
  · simp only [resolve, hev]
    simp [go_sem]
  · simp [invoke, go_sem, hen]
  · have hc := bodyV_ok hT hfn h5 (.inr fun v hp G4 G5 h45 hK G3 h6 h7 => hK G3 h6 (fun a v hv => h7 a v (h45 a v hv))) w0 _ _ _ (#[.func (.yield (w.heap.size + 1)) #[] #[]] ++ cs) hr2 ?_
    rotate_left
    · have e : (#[Value.func (.yield (w.heap.size + 1)) #[] #[]] ++ cs).toList = .func (.yield (w.heap.size + 1)) #[] #[] :: cs.toList := by simp
      rw [e]
      simp only [AV.rels]
      exact ⟨_, _, rfl, by simp only [AV.rel]; exact ⟨_, _, hnm, rfl, by rw [hs1]⟩, AV.rels_mono hβ2 _ _ hB⟩
    · rw [show FW none = Fence.wide from rfl]
      refine CallsIn.mono (callsIn_wide.2 hc) ?_
      rintro e w' ⟨y, β', v, hp', G'', rfl, g1, g2, g3, g4⟩
      have hle : G.le G'' := fun b o hb => g2.sub b o (by rw [Mem.put_ne _ _ (fun e => by rw [e, hGD] at hb; cases hb)]; exact hb)
      have turn : ∀ (st : LoopState) (p : Option Code), nthB hp' hp.length = .lp i fr st p → ∃ tm, w'.heap[w.heap.size + 1]? = some (i.rec_ tm st p) ∧ hp'[hp.length]? = some (.lp i fr st p) := by
        intro st p hk
        have g5 := nthB_live hk rfl
        obtain ⟨g7, tm, g8, _⟩ := g2.turnLp (g1 _ _ hnm) rfl g5
        rw [hs1] at g8
        exact ⟨tm, g8, g5⟩
      have hsat : ∀ (K : List AV → List Blk → Mem → Prop) (o : Obj) (st : LoopState) (p : Option Code), hp'[hp.length]? = some (.lp i fr st p) → K fr (hp'.set hp.length .gone) G'' → SatM true w0 G0 β0 ds K { a with defers := [mark w.heap.size] ++ a.defers } (w'.putObj (w.heap.size + 1) o) := by
        intro K o st p g5 hK
        refine ⟨G0.put w.heap.size (.deferred (some [])), [mark w.heap.size] ++ ds, ⟨fun b o hb => ?_, fun b o hb => ?_, ⟨[w.heap.size], rfl, by simp, fun D hD => ?_⟩, fun h => by cases h⟩, β', fr, _, G'', Nm.le_trans hβ (Nm.le_trans hβ2 g1), ?_, AV.rels_mono (Nm.le_trans hβ2 g1) _ _ hf, by rw [hd], hK⟩
        · rw [Mem.put_ne _ _ (fun e => by have := hr.sub b o hb; rw [e, hGD] at this; cases this)]; exact hb
        · by_cases e : b = w.heap.size
          · right; rw [e]; exact hr.below.size
          · left; rw [Mem.put_ne _ _ e] at hb; exact hb
        · simp at hD; subst hD
          refine ⟨?_, hr.below.size, Mem.put_same _ _ _⟩
          cases hg : G0 w.heap.size with
          | none => rfl
          | some o => rw [hr.sub _ _ hg] at hGD; cases hGD
        · have g9 := g2.setBlk (w' := w'.putObj (w.heap.size + 1) o) (x' := .gone) (g1 _ _ hnm) g5 rfl (b := w.heap.size + 1) (by rw [← hs1]; rfl) (grownBy_putObj' w' (w.heap.size + 1) o) trivial
          refine ⟨g9.below, g9.hold, fun b o hb => ?_, fun b o hb => ?_, g9.blk, g9.inj, fun k S hk b hb => ⟨(g9.wrt k S hk b hb).1, (g9.wrt k S hk b hb).2.1, Mem.le.none (H := G.put w.heap.size (.deferred (some []))) (fun c o hc => by
            by_cases e : c = w.heap.size
            · subst e; rw [Mem.put_same] at hc ⊢; exact hc
            · rw [Mem.put_ne _ _ e] at hc ⊢; exact hr.sub c o hc) (g9.wrt k S hk b hb).2.2⟩⟩
          · by_cases e : b = w.heap.size
            · rw [e, Mem.put_same] at hb; cases hb
              rw [e]; exact g9.sub _ _ (Mem.put_same _ _ _)
            · rw [Mem.put_ne _ _ e] at hb
              exact hle b o (hr.sub b o hb)
          · by_cases e : b = w.heap.size
            · right; rw [e]; exact hr.below.size
            · rcases g9.grow b o hb with h6 | h6
              · rw [Mem.put_ne _ _ e] at h6
                rcases hr.grow b o h6 with h7 | h7
                · left; rw [Mem.put_ne _ _ e]; exact h7
                · exact .inr h7
              · exact .inr h6
      rcases g4 G'' hle (Mem.cle_refl _) with ⟨k1, k2⟩ | ⟨k1, k2⟩ | ⟨id, k1, k2⟩
      · rw [setF_eq] at k2
        obtain ⟨tm, g8, g5⟩ := turn _ _ k1
        exact ⟨_, _, run_endLoop g8 (by simp), hsat _ _ _ _ g5 k2⟩
      · rw [setF_eq] at k2
        obtain ⟨tm, g8, g5⟩ := turn _ _ k1
        exact ⟨_, _, run_endLoop g8 (by simp), wpIn_ret (hsat _ _ _ _ g5 k2)⟩
      · rw [setF_eq] at k2
        obtain ⟨tm, g8, g5⟩ := turn _ _ k1
        exact ⟨_, _, run_endLoop g8 (by simp), wpIn_exit (hsat _ _ _ _ g5 k2)⟩
/-- The record's block under a name of its own. -/
theorem hpLe_lpv {n : Nat} {B : Blk} {i : LpI} {fr : List AV} {st : LoopState} {p : Option Code} {l m : List Blk} (hB : B = .lp i fr st p) (hu : ∀ a ∈ fr, a.under n = true) (h : hpLe n l m) : hpLe n (.lp i fr st p :: l) (B :: m) := by
  subst hB
  refine ⟨⟨⟨rfl, rfl, rfl⟩, ?_⟩, h⟩
  clear h
  induction fr with
  | nil => exact frLe_nil
  | cons a fr ih => exact frLe_eq rfl (hu a (by simp)) (ih fun b hb => hu b (by simp [hb]))
theorem hpLe_lpw {n : Nat} {B : Blk} {i : LpI} {fr : List AV} {st : LoopState} {p : Option Code} {l m : List Blk} (hB : B = .lp i fr st p) (hu : ∀ a ∈ fr, a.under n = true) (h : hpLe n l m) : hpLe n (B :: l) (B :: m) := by
  have := hpLe_lpv hB hu h
  rwa [← hB] at this
theorem under_all {n : Nat} : ∀ {l : List AV}, AV.unders n l = true → ∀ a ∈ l, a.under n = true
  | [], _, a, h => by cases h
  | b :: l, h, a, ha => by
    simp only [AV.unders, Bool.and_eq_true] at h
    rcases List.mem_cons.1 ha with rfl | ha
    · exact h.1
    · exact under_all h.2 a ha
end Go.Proofs.Ytbkhpddodmbdoaa
