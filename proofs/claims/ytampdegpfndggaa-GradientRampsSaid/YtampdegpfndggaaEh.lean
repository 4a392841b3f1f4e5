/-
  The engine: functions, loops, weakening. No program in sight.
-/
import Derived.Test.YtampdegpfndggaaEg
namespace Go.Proofs.Ytampdegpfndggaa
open Go.RowKit
set_option linter.unusedVariables false
set_option linter.unusedSimpArgs false
set_option linter.unnecessarySimpa false

/-! ### What a function hands back -/
def resOne (T : Tab) (r : ResultVar) (fr : List AV) (hp : List Blk) (G : Mem) (K : AV → Prop) : Prop :=
  match r with
  | .tmp t => forceA (nthA fr t) K
  | .cell t ty => vLoad T ty (.tmp t) fr hp G fun v _ _ => K v
def resList (T : Tab) (l : List ResultVar) : List AV → List Blk → Mem → (List AV → Prop) → Prop :=
  List.rec (motive := fun _ => List AV → List Blk → Mem → (List AV → Prop) → Prop) (fun _ _ _ K => K [])
    (fun r _ ih fr hp G K => resOne T r fr hp G fun v => ih fr hp G fun vs => K (v :: vs)) l
def resF (T : Tab) (rs : List ResultVar) (fr : List AV) (hp : List Blk) (G : Mem) (K : AV → Prop) : Prop :=
  resList T rs fr hp G fun vs => match vs with
    | [v] => K v
    | vs => K (.tup vs)
/-- One result, as the machine computes it. -/
def resRun (tmps : Array Value) (r : ResultVar) : Sem Value :=
  match r with
  | .tmp t => pure (tmps.getD t undef)
  | .cell a t => do loadVar t (← asAddr (tmps.getD a undef))
theorem resOne_ok {P : Program} {T : Tab} (hT : TOk P T) {w0 : World} {G0 : Mem} {β : Nm} {hp : List Blk} {G : Mem} {w : World} (hr : HR w0 G0 β hp G w) {fr : List AV} {a : Act} (hf : AV.rels β fr a.tmps.toList) {r : ResultVar} {K : AV → Prop} (h : resOne T r fr hp G K) :
    ∃ y v, (resRun a.tmps r).run P w = .ok y w ∧ v.rel β y ∧ K v := by
  cases r with
  | tmp t => have h' : forceA (nthA fr t) K := h; rw [forceA_eq] at h'; exact ⟨_, _, rfl, ev_rel hf (.tmp t), h'⟩
  | cell t ty =>
    have hx := ev_rel hf (.tmp t)
    obtain ⟨v, h1, h2⟩ := vLoad_core hT (show vLoad T ty (.tmp t) fr hp G fun v _ _ => K v from h)
    obtain ⟨p, y, h3, h4, h5⟩ := h2 _ β _ w hr.br hx
    have he : a.tmps.getD t undef = .pointer (some p) := h3
    exact ⟨y, v, by simp [resRun, he, asAddr, h4], h5, h1⟩
theorem resList_ok {P : Program} {T : Tab} (hT : TOk P T) {w0 : World} {G0 : Mem} {β : Nm} {hp : List Blk} {G : Mem} {w : World} (hr : HR w0 G0 β hp G w) {fr : List AV} {a : Act} (hf : AV.rels β fr a.tmps.toList) :
    ∀ (rs : List ResultVar) (K : List AV → Prop), resList T rs fr hp G K → ∃ ys vs, (rs.mapM (resRun a.tmps)).run P w = .ok ys w ∧ AV.rels β vs ys ∧ K vs
  | [], K, h => ⟨[], [], rfl, by simp only [AV.rels], h⟩
  | r :: rs, K, h => by
    obtain ⟨y, v, h1, h2, h3⟩ := resOne_ok (P := P) hT hr hf h
    obtain ⟨ys, vs, h4, h5, h6⟩ := resList_ok hT hr hf rs _ h3
    refine ⟨y :: ys, v :: vs, ?_, by simp only [AV.rels]; exact ⟨y, ys, rfl, h2, h5⟩, h6⟩
    simp [List.mapM_cons, h1, h4]
theorem resF_ok {P : Program} {T : Tab} (hT : TOk P T) {w0 : World} {G0 : Mem} {β : Nm} {hp : List Blk} {G : Mem} {w : World} (hr : HR w0 G0 β hp G w) {fr : List AV} {a : Act} (hf : AV.rels β fr a.tmps.toList) {fn : Func} {K : AV → Prop} (h : resF T fn.results.toList fr hp G K) :
    ∃ y v, (results fn a.tmps).run P w = .ok y w ∧ v.rel β y ∧ K v := by
  obtain ⟨ys, vs, h1, h2, h3⟩ := resList_ok (P := P) hT hr hf _ _ h
  have hl := AV.rels_length h2
  have hres : (results fn a.tmps).run P w = .ok (if h : ys.toArray.size = 1 then ys.toArray[0] else .tuple ys.toArray) w := by
    have e : results fn a.tmps = (do
        let vs ← fn.results.mapM (resRun a.tmps)
        pure (if h : vs.size = 1 then vs[0] else .tuple vs)) := by
      unfold results
      congr 2
    rw [e, Array.mapM_eq_mapM_toList]
    simp [h1]
  split at h3
  · rename_i v
    simp only [AV.rels] at h2
    obtain ⟨y, zs, rfl, h4, rfl⟩ := h2
    exact ⟨y, v, by rw [hres]; rfl, h4, h3⟩
  · rename_i hne
    have hy : ys.length ≠ 1 := fun e => by
      rw [hl] at e
      obtain ⟨v, hv⟩ := List.length_eq_one_iff.1 e
      exact hne v hv
    refine ⟨.tuple ys.toArray, .tup vs, by rw [hres]; simp [hy], ?_, h3⟩
    simp only [AV.rel]
    exact ⟨_, rfl, by simpa using h2⟩

/-! ### A function's body -/
def bodyV (P : Program) (T : Tab) (n0 : Nat) (fn : Func) (args : List AV) (hp : List Blk) (G : Mem) (K : AV → List Blk → Mem → Prop) : Prop :=
  match fn.body with
  | some c => lenF args fun m => repF (fn.ntmps - m) [undef] fun us => catF args us fun fr => vcode P T n0 c fr hp G fun e fr' hp' G' => match e with
    | .normal => resF T fn.results.toList fr' hp' G' fun v => K v hp' G'
    | .ret => resF T fn.results.toList fr' hp' G' fun v => K v hp' G'
    | _ => False
  | none => False
theorem Nm.below_of {w0 : World} {G0 : Mem} {β : Nm} {hp : List Blk} {G : Mem} {w : World} (hr : HR w0 G0 β hp G w) : β.below hp.length := fun k v hk => by
  obtain ⟨x, h1, _⟩ := hr.blk k v hk
  exact (List.getElem?_eq_some_iff.1 h1).1
theorem bodyV_ok {P : Program} {T : Tab} (hT : TOk P T) {f : FuncId} {fn : Func} (hfn : P.funcs[f]? = some fn) {args : List AV} {hp : List Blk} {G : Mem} {K : AV → List Blk → Mem → Prop} (h : bodyV P T hp.length fn args hp G K)
    (w0 : World) (G0 : Mem) (β : Nm) (w : World) (vs : Array Value) (hr : HR w0 G0 β hp G w) (ha : AV.rels β args vs.toList) :
    Calls P f vs w fun e w' => ∃ y β' v hp' G', e = .returned y ∧ β.le β' ∧ HR w0 G0 β' hp' G' w' ∧ v.rel β' y ∧ K v hp' G' := by
  unfold bodyV at h
  split at h
  · rename_i c hc
    have h1 := lenF_eq h
    rw [repF_eq, catF_eq] at h1
    refine calls_of_wp hfn hc (wp_mono (vcode_ok hT (Nm.below_of hr) c _ hp G _ β _ w (Nm.le_refl _) hr ?_ rfl h1) ?_)
    · have hl := AV.rels_length ha
      have e : (vs ++ Array.replicate (fn.ntmps - vs.size) undef).toList = vs.toList ++ (List.replicate (fn.ntmps - args.length) [undef]).flatten := by
        simp at hl
        rw [← hl]; simp
      show AV.rels β _ (vs ++ Array.replicate (fn.ntmps - vs.size) undef).toList
      rw [e]
      exact AV.rels_append ha (AV.rels_vals _)
    · intro e a' w' hs
      obtain ⟨β', fr', hp', G', h0, h2, h3, h4, h5⟩ := hs
      cases e with
      | normal =>
        obtain ⟨y, v, h6, h7, h8⟩ := resF_ok (P := P) hT h2 h3 h5
        exact ⟨h4, y, h6, y, β', v, hp', G', rfl, h0, h2, h7, h8⟩
      | ret =>
        obtain ⟨y, v, h6, h7, h8⟩ := resF_ok (P := P) hT h2 h3 h5
        exact ⟨h4, y, h6, y, β', v, hp', G', rfl, h0, h2, h7, h8⟩
      | exit id => exact h5.elim
      | goto l => exact h5.elim
      | panic ch => exact h5.elim
      | outgrown => exact h5.elim
  · exact h.elim
/-- A call is carried out in place. -/
theorem CallP_enter {P : Program} {T : Tab} (hT : TOk P T) {f : FuncId} {fn : Func} (hfn : P.funcs[f]? = some fn) (hen : ∀ vs w, (callFunc f vs).run P w = .ok (.enter f vs) w) {args : List AV} {hp : List Blk} {G : Mem} {K : AV → List Blk → Mem → Prop} {n0 : Nat} (hn : hp.length = n0)
    (h : bodyV P T n0 fn args hp G K) : CallP P f args hp G K := by
  subst hn
  exact ⟨hen, fun w0 G0 β w vs hr ha => bodyV_ok hT hfn h w0 G0 β w vs hr ha⟩
/-- The contract of a function that gets plain values: what it hands back, and what of it is the call's own. -/
theorem HR.init {G : Mem} {w : World} (hG : G.holds w) : HR w G (fun _ => none) [] G w :=
  ⟨Below.refl _ _, hG, Mem.le_refl _, fun _ _ h => .inl h, fun _ _ h => (by cases h), fun _ _ _ _ _ _ _ _ h => (by cases h)⟩
theorem rels_map_val {β : Nm} (l : List Value) : AV.rels β (l.map .val) l := AV.rels_vals l
theorem calls_of_body {P : Program} {T : Tab} (hT : TOk P T) {f : FuncId} {fn : Func} (hfn : P.funcs[f]? = some fn) {args : List AV} {vs : Array Value} (ha : AV.rels (fun _ => none) args vs.toList) {G : Mem} {w : World} (hG : G.holds w) {K : AV → List Blk → Mem → Prop} (h : bodyV P T 0 fn args [] G K) :
    Calls P f vs w fun e w' => ∃ y β' v hp' G', e = .returned y ∧ HR w G β' hp' G' w' ∧ v.rel β' y ∧ K v hp' G' := by
  refine (bodyV_ok hT hfn (hp := []) h w G _ w vs (HR.init hG) ha).mono ?_
  rintro e w' ⟨y, β', v, hp', G', h1, _, h2, h3, h4⟩
  exact ⟨y, β', v, hp', G', h1, h2, h3, h4⟩
/-- A callee that hands back a plain value and leaves all that was there. -/
theorem CallP_pure {P : Program} {f : FuncId} (hen : ∀ vs w, (callFunc f vs).run P w = .ok (.enter f vs) w) {args : List Value} {hp : List Blk} {G : Mem} {K : AV → List Blk → Mem → Prop} {y : Value}
    (hc : ∀ w, G.holds w → Calls P f args.toArray w fun e w' => e = .returned y ∧ Below w.heap.size w w') (h : K (.val y) hp G) : CallP P f (args.map .val) hp G K := by
  refine ⟨hen, fun w0 G0 β w vs hr ha => ?_⟩
  have e : vs = args.toArray := by rw [← rels_plain ha]
  subst e
  refine (hc w hr.hold).mono ?_
  rintro e w' ⟨rfl, hb⟩
  exact ⟨y, β, .val y, hp, G, rfl, Nm.le_refl _, hr.step hb, by simp only [AV.rel], h⟩

/-! ### Weakening -/
/-- The second state says less than the first. -/
structure Le (n0 : Nat) (fr : List AV) (hp : List Blk) (G : Mem) (fr' : List AV) (hp' : List Blk) (G' : Mem) : Prop where
  out : ∀ (w0 : World) (G0 : Mem) (β0 β : Nm) (w : World) (ys : List Value), β0.below n0 → β0.le β → HR w0 G0 β hp G w → AV.rels β fr ys → ∃ β', β0.le β' ∧ HR w0 G0 β' hp' G' w ∧ AV.rels β' fr' ys
theorem Le_refl (n0 : Nat) (fr : List AV) (hp : List Blk) (G : Mem) : Le n0 fr hp G fr hp G := ⟨fun _ _ _ β _ _ _ h hr hf => ⟨β, h, hr, hf⟩⟩
theorem Le_mk {n0 n : Nat} {fr fr' : List AV} {hp hp' : List Blk} {G : Mem} (hn : hp'.length = n) (h0 : Nat.ble n0 n = true) (hf : frLe n fr fr') (hh : hpLe n hp hp') : Le n0 fr hp G fr' hp' G := by
  constructor
  intro w0 G0 β0 β w ys hb hle hr hfr
  refine ⟨β.cut n, fun k v hk => ?_, hr.weaken hn hh, frLe_rels hf hfr⟩
  have h1 := hb k v hk
  have h2 := Nat.le_of_ble_eq_true h0
  rw [Nm.cut_lt (by omega)]
  exact hle k v hk
mutual
def AV.mv (q k : Nat) : AV → AV
  | .val x => .val x
  | .ptr j o => if Nat.beq j q then .ptr k o else if Nat.beq j k then .any else .ptr j o
  | .sli j o l c => if Nat.beq j q then .sli k o l c else if Nat.beq j k then .any else .sli j o l c
  | .own j => if Nat.beq j q then .own k else if Nat.beq j k then .any else .own j
  | .agg l => .agg (AV.mvs q k l)
  | .tup l => .tup (AV.mvs q k l)
  | .fn f a b => .fn f (AV.mvs q k a) (AV.mvs q k b)
  | .any => .any
def AV.mvs (q k : Nat) : List AV → List AV
  | [] => []
  | a :: l => AV.mv q k a :: AV.mvs q k l
end
def Nm.mv (β : Nm) (q k : Nat) : Nm := fun j => if j = k then β q else if j = q then none else β j
theorem mv_at {β : Nm} {q k j : Nat} (hqk : q ≠ k) {v : Value} (h : β j = some v) : (j = q → β.mv q k k = some v) ∧ (j ≠ q → j ≠ k → β.mv q k j = some v) := by
  refine ⟨fun e => ?_, fun h1 h2 => ?_⟩
  · subst e; simp [Nm.mv, h]
  · simp [Nm.mv, h1, h2, h]
mutual
theorem AV.rel_mv {β : Nm} {q k : Nat} (hqk : q ≠ k) : ∀ (a : AV) (y : Value), AV.rel β a y → AV.rel (β.mv q k) (a.mv q k) y
  | .val _, _, e => by simpa [AV.rel, AV.mv] using e
  | .ptr j o, _, e => by
    simp only [AV.rel] at e
    obtain ⟨v, b, h1, h2, h3⟩ := e
    obtain ⟨g1, g2⟩ := mv_at hqk h1
    simp only [AV.mv]
    split
    · rename_i h; simp only [AV.rel]; exact ⟨v, b, g1 (Nat.eq_of_beq_eq_true h), h2, h3⟩
    · split
      · simp only [AV.rel]
      · rename_i h h'; simp only [AV.rel]; exact ⟨v, b, g2 (fun e => h (by rw [e]; simp)) (fun e => h' (by rw [e]; simp)), h2, h3⟩
  | .sli j o l c, _, e => by
    simp only [AV.rel] at e
    obtain ⟨v, b, h1, h2, h3⟩ := e
    obtain ⟨g1, g2⟩ := mv_at hqk h1
    simp only [AV.mv]
    split
    · rename_i h; simp only [AV.rel]; exact ⟨v, b, g1 (Nat.eq_of_beq_eq_true h), h2, h3⟩
    · split
      · simp only [AV.rel]
      · rename_i h h'; simp only [AV.rel]; exact ⟨v, b, g2 (fun e => h (by rw [e]; simp)) (fun e => h' (by rw [e]; simp)), h2, h3⟩
  | .own j, _, e => by
    simp only [AV.rel] at e
    obtain ⟨e, e2⟩ := e
    obtain ⟨g1, g2⟩ := mv_at hqk e
    simp only [AV.mv]
    split
    · rename_i h; simp only [AV.rel]; exact ⟨g1 (Nat.eq_of_beq_eq_true h), e2⟩
    · split
      · simp only [AV.rel]
      · rename_i h h'; simp only [AV.rel]; exact ⟨g2 (fun e => h (by rw [e]; simp)) (fun e => h' (by rw [e]; simp)), e2⟩
  | .agg l, _, e => by simp only [AV.rel, AV.mv] at e ⊢; obtain ⟨cs, h1, h2⟩ := e; exact ⟨cs, h1, AV.rels_mv hqk l _ h2⟩
  | .tup l, _, e => by simp only [AV.rel, AV.mv] at e ⊢; obtain ⟨cs, h1, h2⟩ := e; exact ⟨cs, h1, AV.rels_mv hqk l _ h2⟩
  | .fn _ a b, _, e => by simp only [AV.rel, AV.mv] at e ⊢; obtain ⟨xs, ys, h1, h2, h3⟩ := e; exact ⟨xs, ys, h1, AV.rels_mv hqk a _ h2, AV.rels_mv hqk b _ h3⟩
  | .any, _, _ => by simp only [AV.rel, AV.mv]
theorem AV.rels_mv {β : Nm} {q k : Nat} (hqk : q ≠ k) : ∀ (l : List AV) (ys : List Value), AV.rels β l ys → AV.rels (β.mv q k) (AV.mvs q k l) ys
  | [], _, e => by simpa [AV.rels, AV.mvs] using e
  | a :: l, _, e => by
    simp only [AV.rels, AV.mvs] at e ⊢
    obtain ⟨y, zs, h1, h2, h3⟩ := e
    exact ⟨y, zs, h1, AV.rel_mv hqk a _ h2, AV.rels_mv hqk l _ h3⟩
end
def Blk.mv (q k : Nat) : Blk → Blk
  | .cells t l => .cells t (AV.mvs q k l)
  | x => x
def mvB (q k : Nat) : List Blk → List Blk
  | [] => []
  | x :: l => x.mv q k :: mvB q k l
theorem mvB_eq (q k : Nat) : ∀ (l : List Blk), mvB q k l = l.map (·.mv q k)
  | [] => rfl
  | x :: l => by simp [mvB, mvB_eq q k l]
theorem Blk.mv_live (q k : Nat) (x : Blk) : (x.mv q k).live = x.live := by cases x <;> rfl
theorem Blk.mv_rel {base : Nat} {β : Nm} {q k : Nat} (hqk : q ≠ k) {G : Mem} {w : World} {x : Blk} {y : Value} (e : x.rel base β G w y) : (x.mv q k).rel base (β.mv q k) G w y := by
  cases x with
  | gone => trivial
  | cells t l =>
    obtain ⟨b, c, h3, h4, h5, h6, h7⟩ := e
    exact ⟨b, c, h3, h4, h5, h6, AV.rels_mv hqk _ _ h7⟩
  | own e' sz n xs => exact e
/-- What bears the name q takes the name k. -/
theorem Le_mv {n0 q k : Nat} {fr fr' : List AV} {hp hp' : List Blk} {G G' : Mem} (h1 : Nat.ble n0 q = true) (h2 : Nat.ble n0 k = true) (h3 : Nat.blt k q = true) (h4 : Nat.blt q hp.length = true) (h : Le n0 (AV.mvs q k fr) (((mvB q k hp).set k (nthB (mvB q k hp) q)).set q .gone) G fr' hp' G') : Le n0 fr hp G fr' hp' G' := by
  constructor
  intro w0 G0 β0 β w ys hb hle hr hfr
  have g1 := Nat.le_of_ble_eq_true h1
  have g2 := Nat.le_of_ble_eq_true h2
  have g3 := lt_of_blt h3
  have hqk : q ≠ k := by omega
  have hql := lt_of_blt h4
  refine h.out w0 G0 β0 (β.mv q k) w ys hb (fun j v hj => ?_) ?_ (AV.rels_mv hqk _ _ hfr)
  · have := hb j v hj
    have h5 := hle j v hj
    simp only [Nm.mv]
    rw [if_neg (by omega), if_neg (by omega)]; exact h5
  · have hkl : k < hp.length := by omega
    have get : ∀ (j : Nat) (x : Blk), (((mvB q k hp).set k (nthB (mvB q k hp) q)).set q .gone)[j]? = some x → (j = q ∧ x = .gone) ∨ (j ≠ q ∧ j = k ∧ ∃ x', hp[q]? = some x' ∧ x = x'.mv q k) ∨ (j ≠ q ∧ j ≠ k ∧ ∃ x', hp[j]? = some x' ∧ x = x'.mv q k) := by
      intro j x hx
      rw [mvB_eq] at hx
      by_cases hjq : j = q
      · left
        subst hjq
        rw [List.getElem?_set_self (by simp; omega)] at hx
        cases hx; exact ⟨rfl, rfl⟩
      · right
        rw [List.getElem?_set_ne (by omega)] at hx
        by_cases hjk : j = k
        · left
          subst hjk
          rw [List.getElem?_set_self (by simp; omega)] at hx
          cases hx
          refine ⟨hjq, rfl, hp[q], List.getElem?_eq_getElem hql, ?_⟩
          rw [nthB_eq, List.getElem?_map, List.getElem?_eq_getElem hql]; rfl
        · right
          rw [List.getElem?_set_ne (by omega), List.getElem?_map] at hx
          cases hhj : hp[j]? with
          | none => rw [hhj] at hx; cases hx
          | some x' => rw [hhj] at hx; simp at hx; exact ⟨hjq, hjk, x', rfl, hx.symm⟩
    have mvs : ∀ (j : Nat) (v : Value), (β.mv q k) j = some v → (j = k ∧ β q = some v) ∨ (j ≠ k ∧ j ≠ q ∧ β j = some v) := by
      intro j v hj
      simp only [Nm.mv] at hj
      split at hj
      · exact .inl ⟨by assumption, hj⟩
      · split at hj
        · cases hj
        · exact .inr ⟨by assumption, by assumption, hj⟩
    refine ⟨hr.below, hr.hold, hr.sub, hr.grow, fun j v hj => ?_, fun j j' z z' u u' c hne hj hj' hu hu' hul hul' hz hz' => ?_⟩
    · rcases mvs j v hj with ⟨rfl, h5⟩ | ⟨h5, h6, h7⟩
      · obtain ⟨x, h8, h9⟩ := hr.blk q v h5
        refine ⟨x.mv q j, ?_, Blk.mv_rel hqk h9⟩
        rw [List.getElem?_set_ne (by omega), List.getElem?_set_self (by rw [mvB_eq]; simp; omega), nthB_eq, mvB_eq, List.getElem?_map, h8]; rfl
      · obtain ⟨x, h8, h9⟩ := hr.blk j v h7
        refine ⟨x.mv q k, ?_, Blk.mv_rel hqk h9⟩
        rw [List.getElem?_set_ne (by omega), List.getElem?_set_ne (by omega), mvB_eq, List.getElem?_map, h8]; rfl
    · have src : ∀ (i : Nat) (p : Value) (r : Blk), (β.mv q k) i = some p → (((mvB q k hp).set k (nthB (mvB q k hp) q)).set q .gone)[i]? = some r → r.live = true → ∃ i' r', β i' = some p ∧ hp[i']? = some r' ∧ r'.live = true ∧ ((i = k ∧ i' = q) ∨ (i ≠ k ∧ i ≠ q ∧ i' = i)) := by
        intro i p r hi hri hrl
        rcases get i r hri with ⟨_, rfl⟩ | ⟨h5, rfl, x', h6, rfl⟩ | ⟨h5, h6, x', h7, rfl⟩
        · simp [Blk.live] at hrl
        · rcases mvs i p hi with ⟨_, h8⟩ | ⟨h8, _, _⟩
          · exact ⟨q, x', h8, h6, by rw [← Blk.mv_live q i]; exact hrl, .inl ⟨rfl, rfl⟩⟩
          · exact absurd rfl h8
        · rcases mvs i p hi with ⟨h8, _⟩ | ⟨_, _, h8⟩
          · exact absurd h8 h6
          · exact ⟨i, x', h8, h7, by rw [← Blk.mv_live q k]; exact hrl, .inr ⟨h6, h5, rfl⟩⟩
      obtain ⟨i, r, h5, h6, h7, h8⟩ := src j z u hj hu hul
      obtain ⟨i', r', h5', h6', h7', h8'⟩ := src j' z' u' hj' hu' hul'
      refine hr.inj i i' z z' r r' c ?_ h5 h5' h6 h6' h7 h7' hz hz'
      rcases h8 with ⟨rfl, rfl⟩ | ⟨a1, a2, rfl⟩ <;> rcases h8' with ⟨rfl, rfl⟩ | ⟨b1, b2, rfl⟩ <;> omega

/-! ### Loops -/
theorem LoopP_mk {P : Program} {T : Tab} (hT : TOk P T) {n0 : Nat} {b : Code} {fr : List AV} {hp : List Blk} {G : Mem} {Q : Post} {ι : Type} (inv : ι → Prop) (F : ι → List AV) (H : ι → List Blk) (M : ι → Mem) (μ : ι → Nat)
    (hstart : ∃ i, inv i ∧ Le n0 fr hp G (F i) (H i) (M i))
    (round : ∀ i, inv i → vcode P T n0 b (F i) (H i) (M i) fun e fr' hp' G' => match e with
      | .normal => ∃ i', inv i' ∧ μ i' < μ i ∧ Le n0 fr' hp' G' (F i') (H i') (M i')
      | e => Q e fr' hp' G') : LoopP P n0 b fr hp G Q := by
  constructor
  intro w0 G0 β0 β a w hb hβ hr hf hd bf k cs
  obtain ⟨i0, hv0, hi0⟩ := hstart
  obtain ⟨β1, hβ1, hr1, hf1⟩ := hi0.out w0 G0 β0 β w _ hb hβ hr hf
  have key : ∀ (n : Nat) (i : ι), inv i → μ i = n → ∀ (β : Nm) (a : Act) (w : World), β0.le β → HR w0 G0 β (H i) (M i) w → AV.rels β (F i) a.tmps.toList → a.defers = [] →
      ∃ e a' w', Sat w0 G0 β0 (Q e) a' w' ∧ Arrives P (lone (bf.at a (.code b :: .inLoop b :: k)) cs w) bf k cs e a' w' := by
    intro n
    induction n using Nat.strongRecOn with
    | _ n ih =>
      intro i hv hn β a w hβ hr hf hd
      obtain ⟨e, a₁, w₁, hq, harr⟩ := vcode_ok hT hb b (F i) (H i) (M i) _ β a w hβ hr hf hd (round i hv) bf (.inLoop b :: k) cs
      cases e with
      | normal =>
        obtain ⟨β', fr', hp', G', g0, g1, g2, g3, i', hv', hlt, hle⟩ := hq
        obtain ⟨β2, k1, k2, k3⟩ := hle.out w0 G0 β0 β' w₁ _ hb g0 g1 g2
        obtain ⟨e₂, a₂, w₂, hq₂, harr₂⟩ := ih (μ i') (hn ▸ hlt) i' hv' rfl β2 a₁ w₁ k1 k2 k3 g3
        exact ⟨e₂, a₂, w₂, hq₂, .of_steps (Steps.trans harr (.one step_inLoop)) harr₂⟩
      | exit id => exact ⟨_, a₁, w₁, hq, .pass (x := .inLoop b) rfl (fun _ _ => .inl (by simp)) harr⟩
      | goto l => exact ⟨_, a₁, w₁, hq, .pass (x := .inLoop b) rfl (fun _ _ => .inl (by simp)) harr⟩
      | ret => exact ⟨_, a₁, w₁, hq, .pass (x := .inLoop b) rfl (fun _ _ => .inl (by simp)) harr⟩
      | panic ch => exact ⟨_, a₁, w₁, hq, .pass (x := .inLoop b) rfl (fun _ _ => .inl (by simp)) harr⟩
      | outgrown => exact ⟨_, a₁, w₁, hq, .pass (x := .inLoop b) rfl (fun _ _ => .inl (by simp)) harr⟩
  exact key _ i0 hv0 rfl β1 a w hβ1 hr1 hf1 hd
/-- One round of a loop, then the loop again. -/
theorem LoopP_step {P : Program} {T : Tab} (hT : TOk P T) {n0 : Nat} {b : Code} {fr : List AV} {hp : List Blk} {G : Mem} {Q : Post} (h : vcode P T n0 b fr hp G fun e fr' hp' G' => match e with
      | .normal => LoopP P n0 b fr' hp' G' Q
      | e => Q e fr' hp' G') : LoopP P n0 b fr hp G Q := by
  constructor
  intro w0 G0 β0 β a w hb hβ hr hf hd bf k cs
  obtain ⟨e, a₁, w₁, hq, harr⟩ := vcode_ok hT hb b fr hp G _ β a w hβ hr hf hd h bf (.inLoop b :: k) cs
  cases e with
  | normal =>
    obtain ⟨β', fr', hp', G', g0, g1, g2, g3, g4⟩ := hq
    obtain ⟨e₂, a₂, w₂, hq₂, harr₂⟩ := g4.out w0 G0 β0 β' a₁ w₁ hb g0 g1 g2 g3 bf k cs
    exact ⟨e₂, a₂, w₂, hq₂, .of_steps (Steps.trans harr (.one step_inLoop)) harr₂⟩
  | exit id => exact ⟨_, a₁, w₁, hq, .pass (x := .inLoop b) rfl (fun _ _ => .inl (by simp)) harr⟩
  | goto l => exact ⟨_, a₁, w₁, hq, .pass (x := .inLoop b) rfl (fun _ _ => .inl (by simp)) harr⟩
  | ret => exact ⟨_, a₁, w₁, hq, .pass (x := .inLoop b) rfl (fun _ _ => .inl (by simp)) harr⟩
  | panic ch => exact ⟨_, a₁, w₁, hq, .pass (x := .inLoop b) rfl (fun _ _ => .inl (by simp)) harr⟩
  | outgrown => exact ⟨_, a₁, w₁, hq, .pass (x := .inLoop b) rfl (fun _ _ => .inl (by simp)) harr⟩
end Go.Proofs.Ytampdegpfndggaa
