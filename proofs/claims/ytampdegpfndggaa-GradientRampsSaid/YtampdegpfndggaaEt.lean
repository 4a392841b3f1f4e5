/-
  The engine: contracts, and rules for the walk. No program in sight.
-/
import Derived.Test.YtampdegpfndggaaEs
namespace Go.Proofs.Ytampdegpfndggaa
open Go.RowKit
set_option linter.unusedVariables false
set_option linter.unusedSimpArgs false
set_option linter.unnecessarySimpa false

theorem condP_not {b : Bool} {A B : Prop} (h : condP b B A) : condP (!b) A B := ⟨fun e => h.no (by simpa using e), fun e => h.yes (by simpa using e)⟩
theorem condP_and {b c : Bool} {A B : Prop} (h : condP b (condP c A B) B) : condP (b && c) A B := by
  refine ⟨fun e => ?_, fun e => ?_⟩
  · simp at e; exact (h.yes e.1).yes e.2
  · cases b
    · exact h.no rfl
    · simp at e; exact (h.yes rfl).no e
/-- How many operations stand ahead of the first one that writes. -/
def headN : List Oper → Nat
  | [] => 0
  | o :: l => match o.op with
    | .store _ _ _ => 0
    | .call ⟨.builtin .append, _, _⟩ => 0
    | .call ⟨.builtin .copy, _, _⟩ => 0
    | _ => headN l + 1
/-- The same, the head being all that stands ahead of the first write. -/
theorem DrawP_auto {P : Program} {T : Tab} (hT : TOk P T) (hm : P.follows .mixedOrders = true) {ops : List Oper} (hB : drawB ops (headN ops) = true) {fr : List AV} {hp : List Blk} {G : Mem} {K : List AV → List Blk → Mem → Prop}
    (h : testP (([] : List Nat).all fun k => Nat.blt k hp.length) (maskBF [] 0 hp fun hpm => vrops P T ops hp [] (ops.take (headN ops)) fr hpm G [] fun fr' hp' ps => unmaskF [] ps hp 0 hp' fun hq => vops P T ops (ops.drop (headN ops)) fr' hq G K)) : DrawP P ops fr hp G K := DrawP_mk hT hm (headN ops) [] hB h

/-! ### Contracts: plain values -/
/-- A function that hands back a value without names and leaves all that was there. -/
def Gives (P : Program) (f : FuncId) (args : List AV) (G : Mem) (v : AV) : Prop :=
  ∀ (w : World) (vs : Array Value), G.holds w → AV.rels noName args vs.toList → Calls P f vs w fun e w' => ∃ y, e = .returned y ∧ v.rel noName y ∧ Below w.heap.size w w'
theorem cut_zero (β : Nm) : β.cut 0 = noName := by funext k; simp [Nm.cut, noName]
theorem bare_rel {β : Nm} {v : AV} {y : Value} (h : v.under 0 = true) (e : v.rel β y) : v.rel noName y := by
  rw [← cut_zero β]; exact AV.rel_cut v y h e
theorem bare_rels {β : Nm} {l : List AV} {ys : List Value} (h : AV.unders 0 l = true) (e : AV.rels β l ys) : AV.rels noName l ys := by
  rw [← cut_zero β]; exact AV.rels_cut l ys h e
theorem Gives_of {P : Program} {T : Tab} (hT : TOk P T) {f : FuncId} {fn : Func} (hfn : P.funcs[f]? = some fn) {args : List AV} {G : Mem} {v : AV} (h : bodyV P T 0 fn args [] G fun v' _ _ => v' = v ∧ v'.under 0 = true) : Gives P f args G v := by
  intro w vs hG ha
  refine (calls_of_body hT hfn (args := args) ha hG h).mono ?_
  rintro e w' ⟨y, β', v', hp', G', h1, h2, h3, rfl, h5⟩
  exact ⟨y, h1, bare_rel h5 h3, h2.below⟩
theorem CallP_gives {P : Program} {f : FuncId} (hen : ∀ vs w, (callFunc f vs).run P w = .ok (.enter f vs) w) {args : List AV} {hp : List Blk} {G : Mem} {K : AV → List Blk → Mem → Prop} {v : AV} (hu : AV.unders 0 args = true) (hc : Gives P f args G v) (h : K v hp G) : CallP P f args hp G K := by
  refine ⟨hen, fun w0 G0 β w vs hr ha => (hc w vs hr.hold (bare_rels hu ha)).mono ?_⟩
  rintro e w' ⟨y, rfl, h2, h3⟩
  exact ⟨y, β, v, hp, G, rfl, Nm.le_refl _, hr.step h3, AV.rel_mono (noName_le β) _ _ h2, h⟩
theorem RCallP_gives {P : Program} {f : FuncId} (hen : ∀ vs w, (callFunc f vs).run P w = .ok (.enter f vs) w) {args : List AV} {hp : List Blk} {G : Mem} {K : AV → Prop} {v : AV} (hu : AV.unders 0 args = true) (hc : Gives P f args G v) (h : K v) : RCallP P f args hp G K :=
  ⟨v, hen, fun _ _ w vs hG ha => hc w vs hG.hold (bare_rels hu ha), h⟩
/-- Memory with one more block. -/
def Mem.and (G : Mem) (w : World) (b : Nat) : Mem := fun k => if k = b then w.heap[k]? else G k
theorem Mem.and_holds {G : Mem} {w : World} (h : G.holds w) (b : Nat) : (G.and w b).holds w := fun k o hk => by
  unfold Mem.and at hk
  split at hk
  · exact hk
  · exact h k o hk
theorem Mem.le_and {G : Mem} {w : World} (h : G.holds w) (b : Nat) : G.le (G.and w b) := fun k o hk => by
  unfold Mem.and
  split
  · exact h k o hk
  · exact hk
/-- A call whose arguments are one slice of a block that the caller made (f(x, y, ..) with a variable number of arguments). -/
theorem RCallP_var {P : Program} {f : FuncId} (hen : ∀ vs w, (callFunc f vs).run P w = .ok (.enter f vs) w) {k n c : Nat} {hp : List Blk} {G : Mem} {K : AV → Prop} {v : AV} {t : TypeId} {l : List AV} {vs : List Value} (hk : nthB hp k = .cells t l) (hl : l = vs.map .val)
    (hc : ∀ (b : Nat) (G2 : Mem), G.le G2 → (∀ (j : Nat) u, vs[j]? = some u → G2.cell? ⟨b, j, none⟩ = some u) → Gives P f [.val (.slice (some ⟨b, 0, none⟩) n c)] G2 v) (h : K v) : RCallP P f [.sli k 0 n c] hp G K := by
  refine ⟨v, hen, fun base β w us hb ha => ?_, h⟩
  simp only [AV.rels, AV.rel] at ha
  obtain ⟨y, zs, h1, ⟨u, b, h2, h3, rfl⟩, rfl⟩ := ha
  have h4 := hb.blk k u _ h2 (nthB_live hk rfl)
  obtain ⟨b', cs, rfl, _, _, h5, h6⟩ := h4
  simp [blkOf] at h3; subst h3
  subst hl
  have h7 := rels_plain h6
  refine hc b' (G.and w b') (Mem.le_and hb.hold b') (fun j u hj => ?_) w us (Mem.and_holds hb.hold b') ?_
  · rw [← h7] at hj
    simp only [Mem.cell?, Mem.and, if_true, h5]
    simpa using hj
  · rw [h1]
    simp only [AV.rels, AV.rel]
    exact ⟨_, [], rfl, rfl, rfl⟩
theorem CallP_var {P : Program} {f : FuncId} (hen : ∀ vs w, (callFunc f vs).run P w = .ok (.enter f vs) w) {k n c : Nat} {hp : List Blk} {G : Mem} {K : AV → List Blk → Mem → Prop} {v : AV} {t : TypeId} {l : List AV} {vs : List Value} (hk : nthB hp k = .cells t l) (hl : l = vs.map .val)
    (hc : ∀ (b : Nat) (G2 : Mem), G.le G2 → (∀ (j : Nat) u, vs[j]? = some u → G2.cell? ⟨b, j, none⟩ = some u) → Gives P f [.val (.slice (some ⟨b, 0, none⟩) n c)] G2 v) (h : K v hp G) : CallP P f [.sli k 0 n c] hp G K := by
  obtain ⟨v', _, h2, h3⟩ := RCallP_var (K := fun v' => v' = v) hen hk hl hc rfl
  subst h3
  refine ⟨hen, fun w0 G0 β w us hr ha => (h2 _ β w us hr.br ha).mono ?_⟩
  rintro e w' ⟨y, rfl, h4, h5⟩
  exact ⟨y, β, v', hp, G, rfl, Nm.le_refl _, hr.step h5, AV.rel_mono (noName_le β) _ _ h4, h⟩
/-- In the world's own words. -/
theorem Gives.calls {P : Program} {f : FuncId} {args : List Value} {G : Mem} {y : Value} (h : Gives P f (args.map .val) G (.val y)) {w : World} (hG : G.holds w) : Calls P f args.toArray w fun e w' => e = .returned y ∧ Below w.heap.size w w' := by
  refine (h w args.toArray hG (rels_map_val args)).mono ?_
  rintro e w' ⟨z, rfl, h2, h3⟩
  simp only [AV.rel] at h2
  subst h2
  exact ⟨rfl, h3⟩
theorem Gives.of_calls {P : Program} {f : FuncId} {args : List Value} {G : Mem} {y : Value} (h : ∀ w, G.holds w → Calls P f args.toArray w fun e w' => e = .returned y ∧ Below w.heap.size w w') : Gives P f (args.map .val) G (.val y) := by
  intro w vs hG ha
  have e : vs = args.toArray := by rw [← rels_plain ha]
  subst e
  refine (h w hG).mono ?_
  rintro e w' ⟨rfl, h3⟩
  exact ⟨y, rfl, by simp only [AV.rel], h3⟩

/-! ### Contracts: a row of the callee's own -/
/-- A function that hands back a row that it made (or nil), beside other values. -/
def Makes (P : Program) (f : FuncId) (args : List AV) (G : Mem) (wrap : AV → AV) (E : TypeId) (sz n : Nat) (xs : List Value) : Prop :=
  ∀ (w : World) (vs : Array Value), G.holds w → AV.rels noName args vs.toList → Calls P f vs w fun e w' => ∃ y s, e = .returned y ∧ (wrap (.val s)).rel noName y ∧ w'.ownsRow w.heap.size E sz s n xs ∧ Below w.heap.size w w'
/-- Alone, or at the head of a tuple. -/
inductive Wraps (wrap : AV → AV) : Prop
  | alone (h : ∀ a, wrap a = a)
  | pair (b : AV) (h : ∀ a, wrap a = .tup [a, b]) (u : b.under 0 = true)
theorem Wraps.rel {wrap : AV → AV} (h : Wraps wrap) {β : Nm} {s y : Value} {a : AV} (ha : a.rel β s) (e : (wrap (.val s)).rel noName y) : (wrap a).rel β y := by
  cases h with
  | alone h => rw [h] at e ⊢; simp only [AV.rel] at e; rw [e]; exact ha
  | pair b h u =>
    rw [h] at e ⊢
    simp only [AV.rel, AV.rels] at e ⊢
    obtain ⟨cs, h1, y1, zs, h2, h3, y2, zs2, h4, h5, h6⟩ := e
    exact ⟨cs, h1, y1, zs, h2, by rw [h3]; exact ha, y2, zs2, h4, AV.rel_mono (noName_le β) _ _ h5, h6⟩
theorem Wraps.back {wrap : AV → AV} (h : Wraps wrap) {β : Nm} {y : Value} {a : AV} (e : (wrap a).rel β y) : ∃ s, a.rel β s ∧ (wrap (.val s)).rel noName y := by
  cases h with
  | alone h => rw [h] at e; exact ⟨y, e, by rw [h]; simp only [AV.rel]⟩
  | pair b h u =>
    rw [h] at e
    simp only [AV.rel, AV.rels] at e
    obtain ⟨cs, h1, y1, zs, h2, h3, y2, zs2, h4, h5, h6⟩ := e
    refine ⟨y1, h3, ?_⟩
    rw [h]
    simp only [AV.rel, AV.rels]
    exact ⟨cs, h1, y1, zs, h2, rfl, y2, zs2, h4, bare_rel u h5, h6⟩
/-- What is handed back: a row of the call's own, or nil. -/
def OwnRes (wrap : AV → AV) (E : TypeId) (sz n : Nat) (xs : List Value) (v : AV) (hp : List Blk) : Prop :=
  (∃ k, v = wrap (.own k) ∧ nthB hp k = .own E sz n xs) ∨ (v = wrap (.val (.slice none 0 0)) ∧ n = 0 ∧ xs = [])
theorem Makes_of {P : Program} {T : Tab} (hT : TOk P T) {f : FuncId} {fn : Func} (hfn : P.funcs[f]? = some fn) {args : List AV} {G : Mem} {wrap : AV → AV} (hwr : Wraps wrap) {E : TypeId} {sz n : Nat} {xs : List Value}
    (h : bodyV P T 0 fn args [] G fun v hp' _ => OwnRes wrap E sz n xs v hp') : Makes P f args G wrap E sz n xs := by
  intro w vs hG ha
  refine (calls_of_body hT hfn (args := args) ha hG h).mono ?_
  rintro e w' ⟨y, β', v', hp', G', h1, h2, h3, h4⟩
  rcases h4 with ⟨k, rfl, hk⟩ | ⟨rfl, rfl, rfl⟩
  · obtain ⟨s, h5, h6⟩ := hwr.back h3
    simp only [AV.rel] at h5
    exact ⟨y, s, h1, h6, (h2.br.blk k s _ h5.1 (nthB_live hk rfl)).1, h2.below⟩
  · obtain ⟨s, h5, h6⟩ := hwr.back h3
    simp only [AV.rel] at h5
    subst h5
    exact ⟨y, _, h1, h6, World.ownsRow_nil _ _ _ _, h2.below⟩
theorem CallP_makes {P : Program} {f : FuncId} (hen : ∀ vs w, (callFunc f vs).run P w = .ok (.enter f vs) w) {args : List AV} {hp : List Blk} {G : Mem} {K : AV → List Blk → Mem → Prop} {wrap : AV → AV} (hwr : Wraps wrap) {E : TypeId} {sz n : Nat} {xs : List Value} (hu : AV.unders 0 args = true)
    (hc : Makes P f args G wrap E sz n xs) (h : lenF hp fun m => catF hp [.own E sz n xs] fun hp' => K (wrap (.own m)) hp' G) : CallP P f args hp G K := by
  have h0 := lenF_eq h
  rw [catF_eq] at h0
  refine ⟨hen, fun w0 G0 β w vs hr ha => (hc w vs hr.hold (bare_rels hu ha)).mono ?_⟩
  rintro e w' ⟨y, s, rfl, h2, h3, h4⟩
  have hfresh : ∀ b, blkOf s = some b → w.heap.size ≤ b := fun b hb => by
    rcases h3.2 with ⟨rfl, _⟩ | ⟨g, cap, cur, rfl, h5, _⟩
    · simp [blkOf] at hb
    · simp [blkOf] at hb; omega
  refine ⟨y, _, wrap (.own hp.length), _, G, rfl, Nm.le_put s (hr.fresh (Nat.le_refl _)), hr.name h4 (x := .own E sz n xs) ⟨?_, fun g hg => mem_new hr.hold (hfresh g hg)⟩ rfl hfresh, hwr.rel (by simp only [AV.rel]; exact ⟨Nm.put_same _ _ _, ownsRow_sl h3⟩) h2, h0⟩
  obtain ⟨q1, q2⟩ := h3
  refine ⟨q1, ?_⟩
  rcases q2 with q2 | ⟨g, cap, cur, q3, q4, q5⟩
  · exact .inl q2
  · exact .inr ⟨g, cap, cur, q3, Nat.le_trans hr.below.size q4, q5⟩

/-! ### Loops by the slots that they write -/
def dstsOf : List Oper → List Nat → List Nat
  | [], r => r
  | o :: l, r => match o.dst with
    | some d => d :: dstsOf l r
    | none => dstsOf l r
/-- The slots that a piece of code writes. -/
def written : Code → List Nat → List Nat
  | .region _ ops _, r => dstsOf ops.toList r
  | .seq a b, r => written a (written b r)
  | .cond _ a b, r => written a (written b r)
  | .block _ b, r => written b r
  | .loop b, r => written b r
  | .scope b, r => written b r
  | _, r => r
def havoc (ws : List Nat) : Nat → List AV → List AV
  | _, [] => []
  | i, a :: l => (match elemN i ws with | true => .any | false => a) :: havoc ws (i + 1) l
def havocF (ws : List Nat) : Nat → List AV → (List AV → Prop) → Prop
  | _, [], K => K []
  | i, a :: l, K => havocF ws (i + 1) l fun m => match elemN i ws with
    | true => K (.any :: m)
    | false => K (a :: m)
theorem havocF_eq (ws : List Nat) : ∀ (l : List AV) (i : Nat) (K : List AV → Prop), havocF ws i l K = K (havoc ws i l)
  | [], _, _ => rfl
  | a :: l, i, K => by
    rw [havocF, havocF_eq ws l, havoc]
    cases elemN i ws <;> rfl
def setAll : List AV → List (Nat × AV) → List AV
  | fr, [] => fr
  | fr, (d, v) :: l => setAll (fr.set d v) l
def setAllF : List AV → List (Nat × AV) → (List AV → Prop) → Prop
  | fr, [], K => K fr
  | fr, (d, v) :: l, K => setF fr d v fun fr' => setAllF fr' l K
theorem setAllF_eq : ∀ (l : List (Nat × AV)) (fr : List AV) (K : List AV → Prop), setAllF fr l K = K (setAll fr l)
  | [], _, _ => rfl
  | (d, v) :: l, fr, K => by rw [setAllF, setF_eq, setAllF_eq l, setAll]
def natsF : List Nat → (List Nat → Prop) → Prop
  | [], K => K []
  | x :: l, K => natsF l fun m => K (x :: m)
theorem natsF_eq : ∀ (l : List Nat) (K : List Nat → Prop), natsF l K = K l
  | [], _ => rfl
  | x :: l, K => by rw [natsF, natsF_eq l]
/-- The frame at the head of a loop: what the loop writes is forgotten but for the slots that are named. -/
def headFr (b : Code) (fr : List AV) (S : List (Nat × AV)) : List AV := setAll (havoc (written b []) 0 fr) S
theorem LoopP_at {P : Program} {T : Tab} (hT : TOk P T) {n0 : Nat} {b : Code} {fr : List AV} {hp : List Blk} {G : Mem} {Q : Post} {ι : Type} (inv : ι → Prop) (S : ι → List (Nat × AV)) (H : ι → List Blk) (μ : ι → Nat) (i0 : ι) (h0 : inv i0)
    (start : Le n0 fr hp G (headFr b fr (S i0)) (H i0) G)
    (round : ∀ i, inv i → natsF (written b []) fun ws => havocF ws 0 fr fun fr1 => setAllF fr1 (S i) fun fr2 => vcode P T n0 b fr2 (H i) G fun e fr' hp' G' => match e with
      | .normal => ∃ i', inv i' ∧ μ i' < μ i ∧ Le n0 fr' hp' G' (headFr b fr (S i')) (H i') G
      | e => Q e fr' hp' G') : LoopP P n0 b fr hp G Q := by
  refine LoopP_mk hT inv (fun i => headFr b fr (S i)) H (fun _ => G) μ ⟨i0, h0, start⟩ fun i hi => ?_
  have h := round i hi
  rw [natsF_eq, havocF_eq, setAllF_eq] at h
  exact h
theorem Le_trans {n0 : Nat} {fr fr' fr'' : List AV} {hp hp' hp'' : List Blk} {G G' G'' : Mem} (h : Le n0 fr hp G fr' hp' G') (k : Le n0 fr' hp' G' fr'' hp'' G'') : Le n0 fr hp G fr'' hp'' G'' := by
  constructor
  intro w0 G0 β0 β w ys hb hle hr hf
  obtain ⟨β', h1, h2, h3⟩ := h.out w0 G0 β0 β w ys hb hle hr hf
  exact k.out w0 G0 β0 β' w ys hb h1 h2 h3
/-- A nil slice bears a name of its own, where it is asked for. -/
def zipNil (k : Nat) : List AV → List AV → List AV
  | a :: l, b :: m => (match b with
    | .own j => match a with
      | .val (.slice none 0 0) => cond (Nat.beq j k) (.own k) (.val (.slice none 0 0))
      | a => a
    | _ => a) :: zipNil k l m
  | l, _ => l
def zipNilB (k : Nat) : List Blk → List Blk → List Blk
  | x :: l, y :: m => (match x, y with
    | .cells t cs, .cells _ ds => .cells t (zipNil k cs ds)
    | x, _ => x) :: zipNilB k l m
  | l, _ => l
theorem zipNil_rels {β : Nm} {k : Nat} (hk : β k = none) : ∀ {l m : List AV} {ys : List Value}, AV.rels β l ys → AV.rels (β.put k (.slice none 0 0)) (zipNil k l m) ys
  | [], m, ys, e => by simpa [zipNil, AV.rels] using e
  | a :: l, [], ys, e => AV.rels_mono (Nm.le_put _ hk) _ _ e
  | a :: l, b :: m, ys, e => by
    simp only [AV.rels] at e
    obtain ⟨y, zs, rfl, h2, h3⟩ := e
    simp only [zipNil, AV.rels]
    refine ⟨y, zs, rfl, ?_, zipNil_rels hk h3⟩
    have h4 := AV.rel_mono (Nm.le_put (.slice none 0 0) hk) _ _ h2
    cases b <;> try exact h4
    rename_i j
    dsimp only
    split
    · simp only [AV.rel] at h2
      subst h2
      cases hj : Nat.beq j k with
      | true =>
        have := Nat.eq_of_beq_eq_true hj
        subst this
        simp only [cond_true, AV.rel]; exact ⟨Nm.put_same _ _ _, rfl⟩
      | false => simp only [cond_false, AV.rel]
    · exact h4
theorem Le_nil {n0 : Nat} (E : TypeId) (sz : Nat) {fr fr' : List AV} {hp hp' : List Blk} {G G' : Mem} (h : lenF hp fun k => catF (zipNilB k hp hp') [.own E sz 0 []] fun hq => Le n0 (zipNil k fr fr') hq G fr' hp' G') : Le n0 fr hp G fr' hp' G' := by
  have h0 := lenF_eq h
  rw [catF_eq] at h0
  constructor
  intro w0 G0 β0 β w ys hb hle hr hf
  have hn := hr.fresh (Nat.le_refl _)
  refine h0.out w0 G0 β0 (β.put hp.length (.slice none 0 0)) w ys hb (Nm.le_trans hle (Nm.le_put _ hn)) ?_ (zipNil_rels hn hf)
  have hbase := hr.name (Below.refl _ _) (x := .own E sz 0 []) (y := .slice none 0 0) (n := hp.length) ⟨World.ownsRow_nil _ _ _ _, fun g hg => by simp [blkOf] at hg⟩ rfl (fun b hb => by simp [blkOf] at hb)
  have zl : ∀ (l m : List Blk), (zipNilB hp.length l m).length = l.length := by
    intro l
    induction l with
    | nil => intro m; cases m <;> rfl
    | cons x l ih => intro m; cases m with
      | nil => rfl
      | cons y m => simp [zipNilB, ih]
  have zg : ∀ (l m : List Blk) (k : Nat) (x : Blk), l[k]? = some x → ∃ y, (zipNilB hp.length l m)[k]? = some y ∧ y.live = x.live ∧ (∀ base G w z, x.rel base β G w z → y.rel base (β.put hp.length (.slice none 0 0)) G w z) := by
    intro l
    induction l with
    | nil => intro m k x h; simp at h
    | cons a l ih =>
      intro m k x h
      cases m with
      | nil => exact ⟨x, by simpa [zipNilB] using h, rfl, fun base G w z hz => Blk.rel_of (Nm.le_put _ hn) hz (fun b _ => ⟨rfl, id⟩)⟩
      | cons b m =>
        cases k with
        | succ k =>
          obtain ⟨y, h1, h2⟩ := ih m k x (by simpa using h)
          exact ⟨y, by simpa [zipNilB] using h1, h2⟩
        | zero =>
          simp at h; subst h
          have same : ∀ (x : Blk), (zipNilB hp.length (x :: l) (b :: m))[0]? = some x → ∃ y, (zipNilB hp.length (x :: l) (b :: m))[0]? = some y ∧ y.live = x.live ∧ (∀ base G w z, x.rel base β G w z → y.rel base (β.put hp.length (.slice none 0 0)) G w z) := fun x hx =>
            ⟨x, hx, rfl, fun base G w z hz => Blk.rel_of (Nm.le_put _ hn) hz (fun b _ => ⟨rfl, id⟩)⟩
          cases a with
          | gone => cases b <;> exact same _ rfl
          | own e sz n xs => cases b <;> exact same _ rfl
          | cells t cs =>
            cases b with
            | gone => exact same _ rfl
            | own e sz n xs => exact same _ rfl
            | cells t' ds =>
              refine ⟨.cells t (zipNil hp.length cs ds), rfl, rfl, fun base G w z hz => ?_⟩
              obtain ⟨b', c, h1, h2, h3, h4, h5⟩ := hz
              exact ⟨b', c, h1, h2, h3, h4, zipNil_rels hn h5⟩
  have back : ∀ (k : Nat) (x : Blk), (zipNilB hp.length hp hp' ++ [.own E sz 0 []])[k]? = some x → (k < hp.length ∧ ∃ x', hp[k]? = some x' ∧ x.live = x'.live) ∨ (k = hp.length ∧ x = .own E sz 0 []) := by
    intro k x hx
    rcases Nat.lt_or_ge k hp.length with h1 | h1
    · left
      rw [List.getElem?_append_left (by rw [zl]; exact h1)] at hx
      obtain ⟨y, h2, h3, _⟩ := zg hp hp' k _ (List.getElem?_eq_getElem h1)
      rw [hx] at h2; cases h2
      exact ⟨h1, _, List.getElem?_eq_getElem h1, h3⟩
    · right
      rw [List.getElem?_append_right (by rw [zl]; exact h1), zl] at hx
      have : k - hp.length = 0 := by
        have := (List.getElem?_eq_some_iff.1 hx).1; simp at this; omega
      rw [this] at hx
      simp at hx
      exact ⟨by omega, hx.symm⟩
  refine ⟨hbase.below, hbase.hold, hbase.sub, hbase.grow, fun k y hk => ?_, fun j j' z z' u u' c hne hj hj' hu hu' hul hul' hz hz' => ?_⟩
  · by_cases hkn : k = hp.length
    · rw [hkn, Nm.put_same] at hk; cases hk
      refine ⟨.own E sz 0 [], by rw [hkn, List.getElem?_append_right (by rw [zl]; exact Nat.le_refl _), zl]; simp, World.ownsRow_nil _ _ _ _, fun g hg => by simp [blkOf] at hg⟩
    · rw [Nm.put_ne _ _ hkn] at hk
      obtain ⟨x, h1, h2⟩ := hr.blk k y hk
      obtain ⟨x', h3, _, h5⟩ := zg hp hp' k x h1
      exact ⟨x', by rw [List.getElem?_append_left (List.getElem?_eq_some_iff.1 h3).1]; exact h3, h5 _ _ _ _ h2⟩
  · have old : ∀ (i : Nat) (p : Value) (r : Blk) (d : Nat), (β.put hp.length (.slice none 0 0)) i = some p → (zipNilB hp.length hp hp' ++ [.own E sz 0 []])[i]? = some r → r.live = true → blkOf p = some d → β i = some p ∧ ∃ r', hp[i]? = some r' ∧ r'.live = true := by
      intro i p r d hi hri hrl hd
      by_cases hin : i = hp.length
      · rw [hin, Nm.put_same] at hi; cases hi; simp [blkOf] at hd
      · rw [Nm.put_ne _ _ hin] at hi
        rcases back i r hri with ⟨_, r', h2, h3⟩ | ⟨h1, _⟩
        · exact ⟨hi, r', h2, by rw [← h3]; exact hrl⟩
        · exact absurd h1 hin
    obtain ⟨a1, r, a2, a3⟩ := old j z u c hj hu hul hz
    by_cases hj'n : blkOf z' = some c
    · obtain ⟨b1, r', b2, b3⟩ := old j' z' u' c hj' hu' hul' hj'n
      exact absurd hj'n (hr.inj j j' z z' r r' c hne a1 b1 a2 b2 a3 b3 hz)
    · exact hj'n hz'
end Go.Proofs.Ytampdegpfndggaa
