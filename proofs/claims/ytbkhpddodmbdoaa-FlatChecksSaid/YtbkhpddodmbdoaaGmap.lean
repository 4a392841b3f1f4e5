/-
  The engine: maps that stand in memory; their keys are arrays of numbers. No program in sight.
-/
import Derived.Test.YtbkhpddodmbdoaaGm
import Derived.Test.YtbkhpddodmbdoaaMrg9
namespace Go.Proofs.Ytbkhpddodmbdoaa
open Go.RowKit
set_option linter.unusedVariables false
set_option linter.unusedSimpArgs false
def entsV : List (List Value × Value) → Nat → List MapEntry
  | [], _ => []
  | (k, v) :: l, c => ⟨.agg k.toArray, v, c⟩ :: entsV l (c + 1)
theorem entsV_add : ∀ (l : List (List Value × Value)) (c : Nat) (k : List Value) (v : Value), entsV (l ++ [(k, v)]) c = entsV l c ++ [⟨.agg k.toArray, v, c + l.length⟩]
  | [], c, k, v => by simp [entsV]
  | (j, u) :: l, c, k, v => by
    simp only [List.cons_append, entsV, entsV_add l (c + 1) k v, List.length_cons]
    rw [show c + 1 + l.length = c + (l.length + 1) by omega]
def atV? (k : List Value) : List (List Value × Value) → Option Value
  | [] => none
  | (j, v) :: l => if eqList k j = true then some v else atV? k l
def placeV? (k : List Value) : List (List Value × Value) → Option Nat
  | [] => none
  | (j, v) :: l => if eqList k j = true then some 0 else (placeV? k l).map (· + 1)
theorem placeV_at {k : List Value} : ∀ {l : List (List Value × Value)}, placeV? k l = none ↔ atV? k l = none
  | [] => by simp [placeV?, atV?]
  | (j, v) :: l => by
    unfold placeV? atV?
    split
    · simp
    · simp [placeV_at (l := l)]
/-- The type of a map's keys: arrays of numbers of one kind. -/
structure KeyT (P : Program) (kt : TypeId) (m : Nat) (k : IntKind) : Prop where
  arr : ∃ e, P.underlying kt = some (.array m e) ∧ P.underlying e = some (.int k) ∧ ∃ i, P.info? e = some i ∧ i.size = 1
  flat : flatK P 8 kt = some (List.replicate m (.int k))
section
variable {P : Program} {t kt et : TypeId} {w : World} {b m : Nat} {kd : IntKind} {l : List (List Value × Value)} {xs : List Value} {z : Value}
theorem KeyT.eq (h : KeyT P kt m kd) {xs ys : List Value} (hx : kindsB (List.replicate m (.int kd)) xs = true) (hy : kindsB (List.replicate m (.int kd)) ys = true) (w : World) : (Op.equal kt (.agg xs.toArray) (.agg ys.toArray)).run P w = .ok (eqList xs ys) w := by
  obtain ⟨e, h1, _⟩ := h.arr
  have q := equalIn_flat 8 kt _ h.flat xs ys hx hy 9992 w
  unfold Op.equal
  simpa [wrapV, h1, Op.maxDepth] using q
theorem run_check (h : KeyT P kt m kd) (hx : kindsB (List.replicate m (.int kd)) xs = true) (c : Bool) (w : World) : (Instr.checkKey c 10000 kt (.agg xs.toArray)).run P w = .ok () w := by
  obtain ⟨e, h1, h2, i, h3, h4⟩ := h.arr
  have hlen := kindsB_length hx
  rw [List.length_replicate] at hlen
  have hs : (sizeOf e).run P w = .ok 1 w := by simp [sizeOf, typeInfo, h3, h4]
  have hp : ∀ j, j < m → ∃ v, (part e xs.toArray (j * 1)).run P w = .ok v w := fun j hj => by
    have hv : xs[j]? = some xs[j] := List.getElem?_eq_getElem (by omega)
    refine ⟨xs[j], ?_⟩
    simp [part, isAgg, run_underlying h2, hv]
  have hc : ∀ v, (Instr.checkKey c 9999 e v).run P w = .ok () w := fun v => by
    unfold Instr.checkKey
    simp [run_underlying h2, Result.andThen]
  rw [show (10000 : Nat) = 9999 + 1 from rfl, Instr.checkKey]
  simp only [Sem.run_bind, run_underlying h1, Result.andThen_ok]
  simp only [Std.Legacy.Range.forIn_eq_forIn_range', Std.Legacy.Range.size, Nat.sub_zero, Nat.add_one_sub_one, Nat.div_one]
  have each : ∀ j ∈ List.range' 0 m, j < m := fun j hj => by
    rw [List.mem_range'_1] at hj; omega
  generalize List.range' 0 m = is at each
  induction is with
  | nil => simp
  | cons j is ih =>
    obtain ⟨a, p1⟩ := hp j (each j (by simp))
    simp only [List.forIn_cons, Sem.run_bind, hs, Result.andThen_ok, p1, hc, Sem.run_pure]
    exact ih (fun y hy => each y (by simp [hy]))
theorem run_find (h : KeyT P kt m kd) (hx : kindsB (List.replicate m (.int kd)) xs = true) (w : World) (hl : ∀ e ∈ l, kindsB (List.replicate m (.int kd)) e.1 = true) (c : Nat) :
    (Instr.findKey kt (.agg xs.toArray) (entsV l c)).run P w = .ok (match placeV? xs l with
      | none => none
      | some p => (atV? xs l).map fun v => (p, v)) w := by
  have ask : ∀ (l : List (List Value × Value)) (c i : Nat), (∀ e ∈ l, kindsB (List.replicate m (.int kd)) e.1 = true) → (Instr.findAsking kt (.agg xs.toArray) (entsV l c) i).run P w = .ok (match placeV? xs l with
      | none => none
      | some p => (atV? xs l).map fun v => (i + p, v)) w := by
    intro l
    induction l with
    | nil => intro c i _; simp [entsV, Instr.findAsking, placeV?]
    | cons e l ih =>
      obtain ⟨k, v⟩ := e
      intro c i hl
      unfold entsV Instr.findAsking
      simp only [Sem.run_bind, h.eq hx (hl (k, v) (by simp)) w, Result.andThen_ok]
      by_cases hq : eqList xs k = true
      · simp [hq, placeV?, atV?]
      · have hq' : eqList xs k = false := by simpa using hq
        simp only [hq', Bool.false_eq_true, if_false, placeV?, atV?]
        rw [ih (c + 1) (i + 1) (fun e he => hl e (by simp [he]))]
        cases hp : placeV? xs l with
        | none => simp
        | some p =>
          simp only [Option.map_some]
          cases atV? xs l with
          | none => simp
          | some v => simp; omega
  obtain ⟨e, h1, h2, _⟩ := h.arr
  unfold Instr.findKey
  simp only [Sem.run_bind, run_underlying h1, Result.andThen_ok]
  cases l with
  | nil => simp [entsV, Instr.findNow, placeV?]
  | cons e' l =>
    obtain ⟨k, v⟩ := e'
    have hn : Instr.findNow (.array m e) (.agg xs.toArray) (entsV ((k, v) :: l) c) 0 = none := by
      simp [entsV, Instr.findNow, Instr.sameNow]
    simp only [hn]
    have := ask ((k, v) :: l) c 0 hl
    simpa using this
end
/-- A map in memory. -/
structure MapM (kd : IntKind) (m : Nat) (G : Mem) (b : Nat) (l : List (List Value × Value)) : Prop where
  at_ : G b = some (.map (entsV l 0).toArray l.length)
  kinds : ∀ e ∈ l, kindsB (List.replicate m (.int kd)) e.1 = true
theorem MapM.of {kd : IntKind} {m : Nat} {G G' : Mem} {b : Nat} {l : List (List Value × Value)} (h : MapM kd m G b l) (hG : G' b = G b) : MapM kd m G' b l := ⟨by rw [hG]; exact h.at_, h.kinds⟩
section
variable {P : Program} {t kt et : TypeId} {b m : Nat} {kd : IntKind} {l : List (List Value × Value)} {xs : List Value} {z : Value}
theorem run_lookG (ht : P.underlying t = some (.map kt et)) (hk : KeyT P kt m kd) {G : Mem} {w : World} (hG : G.holds w) (hM : MapM kd m G b l) (hx : kindsB (List.replicate m (.int kd)) xs = true) (hz : (zeroValue et).run P w = .ok z w) :
    (Instr.lookup t (.map (some b)) (.agg xs.toArray) true).run P w = .ok (match atV? xs l with
      | some v => .tuple #[v, .bool true]
      | none => .tuple #[z, .bool false]) w := by
  have hb := hG b _ hM.at_
  have hf := run_find hk hx w hM.kinds 0
  cases hp : placeV? xs l with
  | none =>
    have ha := placeV_at.1 hp
    rw [hp] at hf
    simp [Instr.lookup, run_underlying ht, MapKept.run_getObj_map hb, run_check hk hx, hf, hz, Result.andThen, ha]
  | some p =>
    cases ha : atV? xs l with
    | none => exact absurd (placeV_at.2 ha) (by rw [hp]; simp)
    | some v =>
      rw [hp, ha] at hf
      simp [Instr.lookup, run_underlying ht, MapKept.run_getObj_map hb, run_check hk hx, hf, hz, Result.andThen]
theorem LookG_mk (ht : P.underlying t = some (.map kt et)) (hk : KeyT P kt m kd) (hz : ∀ w, (zeroValue et).run P w = .ok z w) {G : Mem} (hM : MapM kd m G b l) (hx : kindsB (List.replicate m (.int kd)) xs = true) {k : List AV} (hkey : k = xs.map .val) {K : AV → Prop}
    (h : ∀ r, r = atV? xs l → K (match r with | some v => .tup [.val v, .val (.bool true)] | none => .tup [.val z, .val (.bool false)])) : LookGP P t (.val (.map (some b))) (.agg k) true G K := by
  subst hkey
  refine ⟨_, h _ rfl, fun β w x y hG hxr hyr => ?_⟩
  simp only [AV.rel] at hxr hyr
  obtain ⟨cs, rfl, hcs⟩ := hyr
  have e1 : cs = xs.toArray := by rw [← rels_plain hcs]
  subst e1; subst hxr
  refine ⟨_, run_lookG ht hk hG hM hx (hz w), ?_⟩
  cases atV? xs l <;> simp [AV.rel, AV.rels]
theorem LookG_none (ht : P.underlying t = some (.map kt et)) (hk : KeyT P kt m kd) (hz : ∀ w, (zeroValue et).run P w = .ok z w) {G : Mem} (hM : MapM kd m G b l) (hx : kindsB (List.replicate m (.int kd)) xs = true) {k : List AV} (hkey : k = xs.map .val) {K : AV → Prop} (hn : atV? xs l = none)
    (h : K (.tup [.val z, .val (.bool false)])) : LookGP P t (.val (.map (some b))) (.agg k) true G K := LookG_mk ht hk hz hM hx hkey fun r hr => by rw [hr, hn]; exact h
theorem LookG_some (ht : P.underlying t = some (.map kt et)) (hk : KeyT P kt m kd) (hz : ∀ w, (zeroValue et).run P w = .ok z w) {G : Mem} (hM : MapM kd m G b l) (hx : kindsB (List.replicate m (.int kd)) xs = true) {k : List AV} (hkey : k = xs.map .val) {K : AV → Prop} {v : Value} (hn : atV? xs l = some v)
    (h : K (.tup [.val v, .val (.bool true)])) : LookGP P t (.val (.map (some b))) (.agg k) true G K := LookG_mk ht hk hz hM hx hkey fun r hr => by rw [hr, hn]; exact h
/-- A new key is put into a map in memory. -/
theorem OpP_updG {op : Op} {fr : List AV} {hp : List Blk} {G : Mem} {K : AV → List Blk → Mem → Prop} {mm k x : Operand} (q : Nat) {S : Nat → Prop} (hS : nthB hp q = .muts S) (hSb : S b) (hop : op = .mapUpdate t mm k x) (hm : ev fr mm = .val (.map (some b))) {ka : List AV} (hkv : ev fr k = .agg ka) (hkey : ka = xs.map .val) {v : Value} (hv : ev fr x = .val v)
    (ht : P.underlying t = some (.map kt et)) (hk : KeyT P kt m kd) (hM : MapM kd m G b l) (hx : kindsB (List.replicate m (.int kd)) xs = true) (hn : atV? xs l = none)
    (h : ∀ G', (∀ c, c ≠ b → G' c = G c) → MapM kd m G' b (l ++ [(xs, v)]) → K (.val undef) hp G') : OpP P op fr hp G K := by
  subst hkey
  refine ⟨fun o ho => OpS.of_run fun w0 G0 β a w hr hf => ?_⟩
  have ho : o.op = .mapUpdate t mm k x := ho.trans hop
  have h1 := ev_rel hf mm
  rw [hm] at h1; simp only [AV.rel] at h1
  have h2 := ev_rel hf k
  rw [hkv] at h2; simp only [AV.rel] at h2
  obtain ⟨cs, hcs, hcs2⟩ := h2
  have e1 : cs = xs.toArray := by rw [← rels_plain hcs2]
  subst e1
  have h3 := ev_rel hf x
  rw [hv] at h3; simp only [AV.rel] at h3
  have hmS := nthB_muts hS
  obtain ⟨k1, k2, k3⟩ := hr.wrt q S hmS b hSb
  have hb := hr.hold b _ hM.at_
  have hfk := run_find hk hx w hM.kinds 0
  rw [placeV_at.2 hn] at hfk
  have hset := MapKept.run_setObj_map (P := P) (w := w) (Obj.map (entsV (l ++ [(xs, v)]) 0).toArray (l.length + 1)) hb
  have hrun : (Instr.mapUpdate t (.map (some b)) (.agg xs.toArray) v).run P w = .ok () { w with heap := w.heap.setIfInBounds b (.map (entsV (l ++ [(xs, v)]) 0).toArray (l.length + 1)) } := by
    simp [Instr.mapUpdate, run_underlying ht, MapKept.run_getObj_map hb, run_check hk hx, hfk, Result.andThen, entsV_add] at hset ⊢
    exact hset
  have hg : w.grownBy { w with heap := w.heap.setIfInBounds b (.map (entsV (l ++ [(xs, v)]) 0).toArray (l.length + 1)) } (some b) :=
    ⟨rfl, rfl, rfl, by simp, fun j hj hne => by
      simp only [Array.getElem?_setIfInBounds]
      rw [if_neg (fun e => hne (by rw [e]))]⟩
  have hat : ({ w with heap := w.heap.setIfInBounds b (.map (entsV (l ++ [(xs, v)]) 0).toArray (l.length + 1)) } : World).heap[b]? = some (.map (entsV (l ++ [(xs, v)]) 0).toArray (l.length + 1)) := by
    simp [Array.getElem?_setIfInBounds, (Array.getElem?_eq_some_iff.1 hb).1]
  refine ⟨.skip, undef, _, β, .val undef, hp, _, by simp [execOp, ho, h1, hcs, h3, hrun]; (try rfl), .inr ⟨rfl, rfl⟩, Nm.le_refl _, hr.writeG k1 k3 hM.at_ hg hat, by simp only [AV.rel], h _ (fun c hc => Mem.put_ne _ _ hc) ⟨by rw [Mem.put_same]; simp, fun e he => ?_⟩⟩
  rcases List.mem_append.1 he with he | he
  · exact hM.kinds e he
  · simp at he; subst he; exact hx
theorem OpP_makeMapG (q : Nat) {op : Op} {fr : List AV} {hp : List Blk} {G : Mem} {K : AV → List Blk → Mem → Prop} {S : Nat → Prop} (hS : nthB hp q = .muts S) (hop : op = .makeMap t none) (kd : IntKind) (m : Nat)
    (h : ∀ b G' S', G b = none → S' b → (∀ c, S c → S' c) → (∀ c, c ≠ b → G' c = G c) → MapM kd m G' b [] → setF hp q (.muts S') fun hp' => K (.val (.map (some b))) hp' G') : OpP P op fr hp G K := by
  refine ⟨fun o ho => OpS.of_run fun w0 G0 β a w hr hf => ?_⟩
  have ho : o.op = .makeMap t none := ho.trans hop
  have hmS := nthB_muts hS
  have hGn : G w.heap.size = none := mem_new hr.hold (Nat.le_refl _)
  have h0 := h w.heap.size (G.put w.heap.size (.map #[] 0)) (fun c => S c ∨ c = w.heap.size) hGn (.inr rfl) (fun c hc => .inl hc) (fun c hc => Mem.put_ne _ _ hc) ⟨by rw [Mem.put_same]; rfl, fun e he => by cases he⟩
  rw [setF_eq] at h0
  have hb : Below w.heap.size w (w.alloc (.map #[] 0)) := (Below.refl _ _).alloc (Nat.le_refl _) _
  have hr1 := hr.newG (Nat.le_refl _) hb (heap_alloc_new w (.map #[] 0))
  have hr2 := hr1.moreS hmS hr.below.size (by have := (Array.getElem?_eq_some_iff.1 (heap_alloc_new w (.map #[] 0))).1; exact this) (Mem.le.none hr.sub hGn)
  refine ⟨_, .map (some w.heap.size), _, β, _, _, _, ?_, .inl rfl, Nm.le_refl _, hr2, by simp only [AV.rel], h0⟩
  simp [execOp, ho, Instr.makeMap, newObj, Sem.run, World.alloc, Result.andThen, -World.alloc_eq]
end
/-! ### Contracts of walks that write in memory -/
theorem HR.initM {G : Mem} {w : World} (hG : G.holds w) : HR w G (fun _ => none) [.muts fun _ => False] G w :=
  ⟨Below.refl _ _, hG, Mem.le_refl _, fun _ _ h => .inl h, fun _ _ h => (by cases h), fun _ _ _ _ _ _ _ _ h => (by cases h), fun k S hk b hb => by
    cases k with
    | zero => simp at hk; subst hk; exact hb.elim
    | succ k => simp at hk⟩
theorem calls_of_bodyM {P : Program} {T : Tab} (hT : TOk P T) {f : FuncId} {fn : Func} (hfn : P.funcs[f]? = some fn) {args : List AV} {vs : Array Value} (ha : AV.rels (fun _ => none) args vs.toList) {G : Mem} {w : World} (hG : G.holds w) {K : AV → List Blk → Mem → Prop} (h : testP (noRngF fn) (bodyV P T 1 fn args [.muts fun _ => False] G K)) :
    Calls P f vs w fun e w' => ∃ y β' v hp' G', e = .returned y ∧ HR w G β' hp' G' w' ∧ v.rel β' y ∧ K v hp' G' := by
  obtain ⟨h1, h2⟩ := testP_eq h
  refine (bodyV_ok hT hfn (hp := [.muts fun _ => False]) h2 (.inl h1) w G _ w vs (HR.initM hG) ha).mono ?_
  rintro e w' ⟨y, β', v, hp', G', h1, _, h2, h3, h4⟩
  exact ⟨y, β', v, hp', G', h1, h2, h3, h4⟩
theorem Gives_ofM {P : Program} {T : Tab} (hT : TOk P T) {f : FuncId} {fn : Func} (hfn : P.funcs[f]? = some fn) {args : List AV} {G : Mem} {v : AV} (h : testP (noRngF fn) (bodyV P T 1 fn args [.muts fun _ => False] G fun v' _ _ => v' = v ∧ v'.under 0 = true)) : Gives P f args G v := by
  intro w vs hG ha
  refine (calls_of_bodyM hT hfn (args := args) ha hG h).mono ?_
  rintro e w' ⟨y, β', v', hp', G', h1, h2, h3, rfl, h5⟩
  exact ⟨y, h1, bare_rel h5 h3, h2.below⟩
theorem Makes_ofM {P : Program} {T : Tab} (hT : TOk P T) {f : FuncId} {fn : Func} (hfn : P.funcs[f]? = some fn) {args : List AV} {G : Mem} {wrap : AV → AV} (hwr : Wraps wrap) {E : TypeId} {sz n : Nat} {xs : List Value}
    (h : testP (noRngF fn) (bodyV P T 1 fn args [.muts fun _ => False] G fun v hp' G' => OwnRes wrap E sz n xs v hp' ∨ ∃ s S, v = wrap (.val s) ∧ nthB hp' 0 = .muts S ∧ RowS S G' E sz s n xs)) : Makes P f args G wrap E sz n xs := by
  intro w vs hG ha
  refine (calls_of_bodyM hT hfn (args := args) ha hG h).mono ?_
  rintro e w' ⟨y, β', v', hp', G', h1, h2, h3, h4⟩
  rcases h4 with (⟨k, rfl, hk⟩ | ⟨rfl, rfl, rfl⟩ | ⟨k, rfl, hk, hl, hm⟩) | ⟨s, S, rfl, hS, hrow⟩
  · obtain ⟨s, h5, h6⟩ := hwr.back h3
    simp only [AV.rel] at h5
    exact ⟨y, s, h1, h6, (h2.br.blk k s _ h5.1 (nthB_live hk rfl)).1, h2.below⟩
  · obtain ⟨s, h5, h6⟩ := hwr.back h3
    simp only [AV.rel] at h5
    subst h5
    exact ⟨y, _, h1, h6, World.ownsRow_nil _ _ _ _, h2.below⟩
  · obtain ⟨s, h5, h6⟩ := hwr.back h3
    simp only [AV.rel] at h5
    obtain ⟨v, b, h7, h8, rfl⟩ := h5
    have h9 := h2.br.blk k v _ h7 (nthB_live hk rfl)
    obtain ⟨b', c, rfl, g1, g2, g3, g4⟩ := h9
    simp [blkOf] at h8; subst h8
    have g5 := rels_plain g4
    refine ⟨y, _, h1, h6, ⟨hl, .inr ⟨b', n, c, rfl, g1, g3, Nat.le_refl _, hm, ?_, ?_⟩⟩, h2.below⟩
    · rw [← hl, ← g5]; simp
    · rw [g5, ← hl]; exact List.take_length
  · obtain ⟨s', h5, h6⟩ := hwr.back h3
    simp only [AV.rel] at h5
    subst h5
    exact ⟨y, _, h1, h6, hrow.owns h2 (nthB_muts hS), h2.below⟩
end Go.Proofs.Ytbkhpddodmbdoaa
