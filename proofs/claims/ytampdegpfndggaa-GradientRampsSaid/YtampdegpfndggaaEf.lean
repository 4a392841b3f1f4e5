/-
  The engine: calls, and any operation. No program in sight.
-/
import Derived.Test.YtampdegpfndggaaEe
import Derived.Maps.AppendAt
namespace Go.Proofs.Ytampdegpfndggaa
open Go.RowKit
set_option linter.unusedVariables false
set_option linter.unusedSimpArgs false
set_option linter.unnecessarySimpa false

/-- A call of a function of the program: to be shown by hand. -/
structure CallP (P : Program) (f : FuncId) (args : List AV) (hp : List Blk) (G : Mem) (K : AV → List Blk → Mem → Prop) : Prop where
  enters : ∀ vs w, (callFunc f vs).run P w = .ok (.enter f vs) w
  calls : ∀ (w0 : World) (G0 : Mem) (β : Nm) (w : World) (vs : Array Value), HR w0 G0 β hp G w → AV.rels β args vs.toList →
    Calls P f vs w fun e w' => ∃ y β' v hp' G', e = .returned y ∧ β.le β' ∧ HR w0 G0 β' hp' G' w' ∧ v.rel β' y ∧ K v hp' G'
def vFunc (P : Program) (c : AV) (args : List AV) (hp : List Blk) (G : Mem) (K : AV → List Blk → Mem → Prop) : Prop :=
  match c with
  | .val (.func (.func f) a b) => valsF a.toList fun a => valsF b.toList fun b => catF a args fun r => catF r b fun r => CallP P f r hp G K
  | .fn (.func f) a b => catF a args fun r => catF r b fun r => CallP P f r hp G K
  | _ => False
theorem vFunc_ok {P : Program} {o : Oper} {fr : List AV} {hp : List Blk} {G : Mem} {K : AV → List Blk → Mem → Prop} {x : Operand} {xs : Array Operand} {ts : Array TypeId} (ho : o.op = .call ⟨.value x, xs, ts⟩) (h : evsF fr xs.toList fun args => vFunc P (ev fr x) args hp G K) : OpS P o fr hp G K := by
  rw [evsF_eq] at h
  intro w0 G0 β a w Q N hr hf hN
  have hx := ev_rel hf x
  have hargs := evs_rel (β := β) (fr := fr) (ρ := a.eval) xs.toList (fun x _ => ev_rel hf x)
  have fin : ∀ (f : FuncId) (A B : List AV) (u v : Array Value), a.eval x = .func (.func f) u v → AV.rels β A u.toList → AV.rels β B v.toList → CallP P f (A ++ xs.toList.map (ev fr) ++ B) hp G K → o.wp P a w N Q := by
    intro f A B u v he hA hB hc
    have hrel : AV.rels β (A ++ xs.toList.map (ev fr) ++ B) (u ++ xs.map a.eval ++ v).toList := by
      have := AV.rels_append (AV.rels_append hA hargs) hB
      simpa using this
    have h1 := hc.2 w0 G0 β w _ hr hrel
    unfold Oper.wp
    have hrun : (execOp a.eval o).run P w = .ok (.enter f (u ++ xs.map a.eval ++ v)) w := by
      have h2 := hc.1 (u ++ xs.map a.eval ++ v) w
      simp only [execOp, ho, resolve, he, Deferred.ofValue, Sem.run_bind, Sem.run_pure, Result.andThen_ok, invoke]
      exact h2
    rw [hrun]
    refine h1.mono ?_
    rintro e w' ⟨y, β', v', hp', G', rfl, h3, h4, h5, h6⟩
    exact hN β' v' y hp' G' w' h3 h4 h5 h6
  unfold vFunc at h
  split at h
  · rename_i f u v hx'
    rw [hx'] at hx; simp only [AV.rel] at hx
    rw [valsF_eq, valsF_eq, catF_eq, catF_eq] at h
    exact fin f _ _ u v hx (AV.rels_vals _) (AV.rels_vals _) h
  · rename_i f A B hx'
    rw [hx'] at hx; simp only [AV.rel] at hx
    obtain ⟨u, v, h1, h2, h3⟩ := hx
    rw [catF_eq, catF_eq] at h
    exact fin f A B u v h1 h2 h3 h
  · exact h.elim

/-! ### The builtins -/
/-- The plain values that are appended. -/
def srcF (hp : List Blk) (G : Mem) (x : AV) (sz : Nat) (K : Nat → List Value → Prop) : Prop :=
  match x with
  | .val (.slice (some p) n _) => OldCells G p (n * sz) fun vs => mustP (∀ v ∈ vs, v.oneCell' = true) (K n vs)
  | .sli k 0 n _ => match nthB hp k with
    | .cells _ l => plainF l fun vs => testP (Nat.beq vs.length (n * sz)) (testP (allOne vs) (K n vs))
    | _ => False
  | _ => False
def vAppend (T : Tab) (t : TypeId) (d x : AV) (hp : List Blk) (G : Mem) (K : AV → List Blk → Mem → Prop) : Prop :=
  withT T t fun i => match i.td with
    | .slice e => withT T e fun j => testP (Nat.blt 0 j.size) (testP (Nat.beq j.zero.length j.size) (testP (Nat.blt 0 j.bytes) (srcF hp G x j.size fun m vs =>
        match d with
        | .val (.slice none 0 0) => mustP (m * j.bytes ≤ 140737488355328) (lenF hp fun n => catF hp [.own e j.size m vs] fun hp' => K (.own n) hp' G)
        | .own k => match nthB hp k with
          | .own e' sz n xs => testP (Nat.beq e' e) (testP (Nat.beq sz j.size) (mustP ((n + m) * j.bytes ≤ 140737488355328)
              (setF hp k .gone fun hp1 => lenF hp1 fun q => catF hp1 [.own e j.size (n + m) (xs ++ vs)] fun hp' => K (.own q) hp' G)))
          | _ => False
        | _ => False)))
    | _ => False
theorem HR.below_grown {w0 : World} {G0 : Mem} {β : Nm} {hp : List Blk} {G : Mem} {w w' : World} (h : HR w0 G0 β hp G w) {k : Nat} {y : Value} {x : Blk} (hk : β k = some y) (hx : hp[k]? = some x) (hl : x.live = true) (hg : w.grownBy w' (blkOf y)) :
    HR w0 G0 β (hp.set k .gone) G w' := by
  cases hb : blkOf y with
  | none =>
    rw [hb] at hg
    exact (h.forget k).step ⟨hg.os, hg.tape, hg.output, hg.size, fun j hj => hg.block j hj (by simp)⟩
  | some b =>
    rw [hb] at hg
    exact (h.setBlk hk hx hl hb hg (x' := .gone) trivial)
/-- An owned thing moves to a new name. -/
theorem HR.moveName {w0 : World} {G0 : Mem} {β : Nm} {hp : List Blk} {G : Mem} {w w' : World} (h : HR w0 G0 β hp G w) {k : Nat} {y : Value} {x : Blk} (hk : β k = some y) (hx : hp[k]? = some x) (hl : x.live = true) (hg : w.grownBy w' (blkOf y)) {z : Value} {u : Blk}
    (hz : ∀ b, blkOf z = some b → w.heap.size ≤ b ∨ blkOf y = some b) {n : Nat} (hn : n = hp.length) (hu : u.rel w0.heap.size (β.put n z) G w' z) : HR w0 G0 (β.put n z) (hp.set k .gone ++ [u]) G w' := by
  have h1 := h.below_grown hk hx hl hg
  have hlen : (hp.set k .gone).length = n := by simp [hn]
  have hlek : k < hp.length := (List.getElem?_eq_some_iff.1 hx).1
  refine ⟨h1.below, h1.hold, h1.sub, h1.grow, fun j q hj => ?_, fun j j' q q' s s' b hne hj hj' hs hs' hls hls' hq hq' => ?_⟩
  · by_cases hjn : j = n
    · rw [hjn, Nm.put_same] at hj; cases hj
      exact ⟨u, by rw [hjn, ← hlen]; simp, hu⟩
    · rw [Nm.put_ne _ _ hjn] at hj
      obtain ⟨x', h2, h3⟩ := h1.blk j q hj
      refine ⟨x', ?_, Blk.rel_of (Nm.le_put z (h.fresh (by omega))) h3 (fun b _ => ⟨rfl, id⟩)⟩
      rw [List.getElem?_append_left (List.getElem?_eq_some_iff.1 h2).1]; exact h2
  · have old : ∀ {i : Nat} {p : Value} {r : Blk} {c : Nat}, i ≠ n → (β.put n z) i = some p → (hp.set k .gone ++ [u])[i]? = some r → r.live = true → blkOf p = some c → c < w.heap.size ∧ (hp.set k .gone)[i]? = some r ∧ β i = some p ∧ blkOf y ≠ some c := by
      intro i p r c hi hp' hr' hlr hc
      rw [Nm.put_ne _ _ hi] at hp'
      obtain ⟨x', h2, _⟩ := h1.blk i p hp'
      rw [List.getElem?_append_left (List.getElem?_eq_some_iff.1 h2).1] at hr'
      have hik : k ≠ i := fun e => by
        subst e
        rw [List.getElem?_set] at hr'
        simp at hr'
        obtain ⟨_, rfl⟩ := hr'
        simp [Blk.live] at hlr
      have hr2 : hp[i]? = some r := by rw [List.getElem?_set, if_neg hik] at hr'; exact hr'
      exact ⟨(h.lt hp' hr2 hlr hc).2.1, hr', hp', fun e => h.inj k i y p x r c hik hk hp' hx hr2 hl hlr e hc⟩
    by_cases h2 : j = n
    · have h3 : j' ≠ n := by omega
      obtain ⟨h4, _, _, h5⟩ := old h3 hj' hs' hls' hq'
      rw [h2, Nm.put_same] at hj; cases hj
      rcases hz b hq with h6 | h6
      · omega
      · exact h5 h6
    · obtain ⟨h4, h5, h6, h7⟩ := old h2 hj hs hls hq
      by_cases h3 : j' = n
      · rw [h3, Nm.put_same] at hj'; cases hj'
        rcases hz b hq' with h8 | h8
        · omega
        · exact h7 h8
      · obtain ⟨_, h8, h9, _⟩ := old h3 hj' hs' hls' hq'
        exact h1.inj j j' q q' s s' b hne h6 h9 h5 h8 hls hls' hq hq'
theorem own_blk_of {w : World} {base e sz n : Nat} {y : Value} {xs : List Value} (h : w.ownsRow base e sz y n xs) : y.ownBlock = blkOf y := by
  rcases h.2 with ⟨rfl, _⟩ | ⟨g, cap, cur, rfl, _⟩ <;> rfl
theorem ownsRow_sl {w : World} {base e sz n : Nat} {y : Value} {xs : List Value} (h : w.ownsRow base e sz y n xs) : isSl y = true := by
  rcases h.2 with ⟨rfl, rfl⟩ | ⟨g, cap, cur, rfl, _⟩ <;> rfl
theorem srcF_eq {w0 : World} {G0 : Mem} {β : Nm} {hp : List Blk} {G : Mem} {w : World} (hr : HR w0 G0 β hp G w) {x : AV} {v : Value} (hx : x.rel β v) {sz : Nat} {K : Nat → List Value → Prop} (h : srcF hp G x sz K) :
    ∃ ad c m vs, v = .slice (some ad) m c ∧ vs.length = m * sz ∧ (∀ (i : Nat) u, vs[i]? = some u → w.cell? (ad.add i) = some u) ∧ (∀ u ∈ vs, u.oneCell' = true) ∧ K m vs := by
  unfold srcF at h
  split at h
  · obtain ⟨vs, ⟨g1, g2⟩, g4, g3⟩ := h
    simp only [AV.rel] at hx
    exact ⟨_, _, _, vs, hx, g1, fun i u hu => hr.hold.cell (g2 i u hu), g4, g3⟩
  · rename_i k m m'
    simp only [AV.rel] at hx
    obtain ⟨v', b, hv, hb, hxe⟩ := hx
    split at h
    · rename_i t' l hl
      obtain ⟨vs, rfl, h30⟩ := plainF_eq _ _ h
      obtain ⟨hvl0, h31⟩ := testP_eq h30
      obtain ⟨hone, h3⟩ := testP_eq h31
      have hvl := Nat.eq_of_beq_eq_true hvl0
      obtain ⟨x1, hx1, hx2⟩ := hr.blk k v' hv
      rw [nthB_live hl rfl] at hx1; cases hx1
      obtain ⟨b', c, rfl, hb1, hb2, hb3, hb4⟩ := hx2
      simp [blkOf] at hb; subst hb
      have hcv := rels_plain hb4
      refine ⟨_, _, _, vs, hxe, hvl, fun j u hj => ?_, allOne_eq hone, h3⟩
      rw [addr_add, Nat.zero_add, cells_of_block hb3]
      rw [← hcv] at hj; simpa using hj
    · exact h.elim
  · exact h.elim
theorem vAppend_ok {P : Program} {T : Tab} (hT : TOk P T) {o : Oper} {fr : List AV} {hp : List Blk} {G : Mem} {K : AV → List Blk → Mem → Prop} {d x : Operand} {t : TypeId} (ho : o.op = .call ⟨.builtin .append, #[d, x], #[t, t]⟩) (h : vAppend T t (ev fr d) (ev fr x) hp G K) : RunS P o fr hp G K := by
  intro w0 G0 β a w hr hf
  have hd := ev_rel hf d
  have hx := ev_rel hf x
  obtain ⟨i, hi, h1⟩ := withT_ok hT h
  split at h1
  · rename_i e htd
    have hu := und_of (htd ▸ hi.td)
    simp only [TD.says] at hu
    obtain ⟨j, hj, h20⟩ := withT_ok hT h1
    obtain ⟨hsz0, h21⟩ := testP_eq h20
    obtain ⟨hzl0, h22⟩ := testP_eq h21
    obtain ⟨hby0, h2⟩ := testP_eq h22
    have hzl := Nat.eq_of_beq_eq_true hzl0
    have hby : 0 < j.bytes := by simpa [Nat.blt_eq] using hby0
    have hmax : ∀ k, k * j.bytes ≤ 140737488355328 → k ≤ maxLen := fun k hk => by
      have := Nat.le_mul_of_pos_right k hby
      unfold maxLen; omega
    have hsz : 0 < j.size := by simpa [Nat.blt_eq] using hsz0
    obtain ⟨q, z, hq, hqs, hqb, hqz, hzz⟩ := hj.info
    have hzs : z.cells.size = j.size := by rw [← hzl, ← hzz]; simp
    obtain ⟨ad, c, m, vs, hxe, hvl, hnews, hone, h3⟩ := srcF_eq hr hx h2
    have run : ∀ (v : Value) (n : Nat) (xs : List Value), a.eval d = v → w.ownsRow w0.heap.size e j.size v n xs → n + m ≤ maxLen → (n + m) * j.bytes ≤ 140737488355328 → (∀ u ∈ vs, u.oneCell' = true) →
        ∃ v' w', (execOp a.eval o).run P w = .ok (.value v') w' ∧ w'.ownsRow w0.heap.size e j.size v' (n + m) (xs ++ vs) ∧ w.grownBy w' (blkOf v) ∧ (∀ b, blkOf v' = some b → w.heap.size ≤ b ∨ blkOf v = some b) := by
      intro v n xs hv hown g1 g2 g3
      obtain ⟨v', w', hrun, hown', hgr, _, hat⟩ := run_append_own_at (P := P) w w0.heap.size t o.type e q z j.size j.bytes hu hq hqz hqs hqb hzs hsz v n xs hown ad m c vs hvl hnews g3 g1 g2 hr.below.size
      refine ⟨v', w', by simp [execOp, ho, resolve, invoke, builtin, hv, hxe, hrun], hown', by rw [← own_blk_of hown]; exact hgr, fun b hb => ?_⟩
      rw [own_blk_of hown', own_blk_of hown] at hat
      rcases hat with h | h
      · right; rw [← h]; exact hb
      · left; rw [hb] at h; cases h; exact Nat.le_refl _
    split at h3
    · rename_i hd'
      obtain ⟨g1, h4⟩ := h3
      have g2 := hmax _ g1
      have g3 := hone
      have h5 := lenF_eq h4
      rw [catF_eq] at h5
      rw [hd'] at hd; simp only [AV.rel] at hd
      obtain ⟨v', w', hrun, hown, hgr, hat⟩ := run _ 0 [] hd (World.ownsRow_nil w _ _ _) (by omega) (by simpa using g1) g3
      have hb : Below w.heap.size w w' := ⟨hgr.os, hgr.tape, hgr.output, hgr.size, fun k hk => hgr.block k hk (by simp [blkOf])⟩
      have hfresh : ∀ b, blkOf v' = some b → w.heap.size ≤ b := fun b hb => by
        rcases hat b hb with h | h
        · exact h
        · simp [blkOf] at h
      refine ⟨_, v', w', _, .own hp.length, _, G, hrun, .inl rfl, Nm.le_put v' (hr.fresh (Nat.le_refl _)), hr.name hb (x := .own e j.size m vs) ⟨by simpa using hown, fun g hg => ?_⟩ rfl hfresh, by simp only [AV.rel]; exact ⟨Nm.put_same _ _ _, ownsRow_sl hown⟩, h5⟩
      cases hG : G g with
      | none => rfl
      | some ob =>
        have h6 := (Array.getElem?_eq_some_iff.1 (hr.hold _ _ hG)).1
        have h7 := hfresh g hg
        omega
    · rename_i k hd'
      rw [hd'] at hd; simp only [AV.rel] at hd
      split at h3
      · rename_i e' sz n xs hb
        obtain ⟨h31, h32⟩ := testP_eq h3
        obtain ⟨h33, g1, h4⟩ := testP_eq h32
        obtain rfl := Nat.eq_of_beq_eq_true h31
        obtain rfl := Nat.eq_of_beq_eq_true h33
        have g2 := hmax _ g1
        have g3 := hone
        rw [setF_eq] at h4
        have h5 := lenF_eq h4
        rw [catF_eq] at h5
        have hk := nthB_live hb rfl
        obtain ⟨x1, hx1, hx2⟩ := hr.blk k _ hd.1
        rw [hk] at hx1; cases hx1
        obtain ⟨v', w', hrun, hown, hgr, hat⟩ := run _ n xs rfl hx2.1 g2 g1 g3
        have hlen : (hp.set k .gone).length = hp.length := by simp
        rw [hlen] at h5
        refine ⟨_, v', w', _, .own hp.length, _, G, hrun, .inl rfl, Nm.le_put v' (hr.fresh (Nat.le_refl _)), hr.moveName hd.1 hk rfl hgr hat rfl (u := .own _ _ (n + m) (xs ++ vs)) ⟨hown, fun g hg => ?_⟩, by simp only [AV.rel]; exact ⟨Nm.put_same _ _ _, ownsRow_sl hown⟩, h5⟩
        rcases hat g hg with h7 | h7
        · cases hG : G g with
          | none => rfl
          | some ob =>
            have h6 := (Array.getElem?_eq_some_iff.1 (hr.hold _ _ hG)).1
            omega
        · exact (hr.lt hd.1 hk rfl h7).2.2
      · exact h3.elim
    · exact h3.elim
  · exact h1.elim
/-- The lengths of things. -/
def vLen (T : Tab) (t : TypeId) (x : AV) (hp : List Blk) (K : AV → Prop) : Prop :=
  withT T t fun i => match i.td with
    | .slice _ => match x with
      | .val (.slice _ n _) => K (.val (.int .i64 n))
      | .sli _ _ n _ => K (.val (.int .i64 n))
      | .own k => match nthB hp k with
        | .own _ _ n _ => K (.val (.int .i64 n))
        | _ => False
      | _ => False
    | .str => withStr x fun s => K (.val (.int .i64 s.size))
    | .arr n _ => K (.val (.int .i64 n))
    | _ => False
theorem ownsRow_form {w : World} {base e sz n : Nat} {y : Value} {xs : List Value} (h : w.ownsRow base e sz y n xs) : ∃ A c, y = .slice A n c := by
  rcases h.2 with ⟨rfl, rfl⟩ | ⟨g, cap, cur, rfl, _⟩
  · exact ⟨_, _, rfl⟩
  · exact ⟨_, _, rfl⟩
theorem vLen_ok {P : Program} {T : Tab} (hT : TOk P T) {o : Oper} {fr : List AV} {hp : List Blk} {G : Mem} {K : AV → Prop} {x : Operand} {t : TypeId} (ho : o.op = .call ⟨.builtin .len, #[x], #[t]⟩) (h : vLen T t (ev fr x) hp K) : PureS P o fr hp G K := by
  have hmx : x ∈ o.op.operands.toList := by simp [ho, Op.operands, Call.operands]
  obtain ⟨i, hi, h1⟩ := withT_ok hT h
  split at h1
  · rename_i e hd
    have hu := und_of (hd ▸ hi.td)
    simp only [TD.says] at hu
    have fin : ∀ (A : Option Addr) (n c : Nat) (β : Nm) (ρ : Operand → Value) (w : World), ρ x = .slice A n c → ∃ y, (execOp ρ o).run P w = .ok (.value y) w ∧ AV.rel β (.val (.int .i64 n)) y := fun A n c β ρ w he =>
      ⟨.int .i64 n, by simp [execOp, ho, resolve, invoke, builtin, Builtin.len_, run_underlying hu, he, goInt], by simp only [AV.rel]⟩
    split at h1
    · rename_i A n c hx'
      refine ⟨_, h1, fun base β ρ w hr hf => ?_⟩
      have hx := hf x hmx
      rw [hx'] at hx; simp only [AV.rel] at hx
      exact fin _ _ _ _ _ _ hx
    · rename_i k o' n c hx'
      refine ⟨_, h1, fun base β ρ w hr hf => ?_⟩
      have hx := hf x hmx
      rw [hx'] at hx; simp only [AV.rel] at hx
      obtain ⟨v, b, _, _, h2⟩ := hx
      exact fin _ _ _ _ _ _ h2
    · rename_i k hx'
      split at h1
      · rename_i e' sz n xs hb
        refine ⟨_, h1, fun base β ρ w hr hf => ?_⟩
        have hx := hf x hmx
        rw [hx'] at hx; simp only [AV.rel] at hx
        obtain ⟨A, c, h2⟩ := ownsRow_form (hr.blk k _ _ hx.1 (nthB_live hb rfl)).1
        exact fin _ _ _ _ _ _ h2
      · exact h1.elim
    · exact h1.elim
  · rename_i hd
    have hu := und_of (hd ▸ hi.td)
    simp only [TD.says] at hu
    obtain ⟨s, hs, h2⟩ := withStr_eq h1
    refine ⟨_, h2, fun base β ρ w hr hf => ?_⟩
    have hx := hf x hmx
    rw [hs] at hx; simp only [AV.rel] at hx
    exact ⟨.int .i64 s.size, by simp [execOp, ho, resolve, invoke, builtin, Builtin.len_, run_underlying hu, hx, goInt], by simp only [AV.rel]⟩
  · rename_i n e hd
    have hu := und_of (hd ▸ hi.td)
    simp only [TD.says] at hu
    exact ⟨_, h1, fun base β ρ w hr hf => ⟨.int .i64 n, by simp [execOp, ho, resolve, invoke, builtin, Builtin.len_, run_underlying hu, goInt], by simp only [AV.rel]⟩⟩
  · exact h1.elim
/-- Least and greatest of numbers. -/
def vMin2 (mn : Bool) (a b : AV) (K : AV → Prop) : Prop :=
  match mn with
  | true => withInt a fun k m => withInt b fun _ n => K (.val (.int k (min m n)))
  | false => withInt a fun k m => withInt b fun _ n => K (.val (.int k (max m n)))
theorem vMin_ok {P : Program} {o : Oper} {fr : List AV} {hp : List Blk} {G : Mem} {K : AV → Prop} {x y : Operand} {ts : Array TypeId} (ho : o.op = .call ⟨.builtin .min, #[x, y], ts⟩) (h : vMin2 true (ev fr x) (ev fr y) K) : PureS P o fr hp G K := by
  have hmx : x ∈ o.op.operands.toList := by simp [ho, Op.operands, Call.operands]
  have hmy : y ∈ o.op.operands.toList := by simp [ho, Op.operands, Call.operands]
  obtain ⟨k, m, hx', h1⟩ := withInt_eq h
  obtain ⟨k', n, hy', h2⟩ := withInt_eq h1
  refine ⟨_, h2, fun base β ρ w hr hf => ?_⟩
  have hx := hf x hmx
  have hy := hf y hmy
  rw [hx'] at hx; rw [hy'] at hy
  simp only [AV.rel] at hx hy
  refine ⟨.int k (min m n), ?_, by simp only [AV.rel]⟩
  have e : (if n < m then n else m) = min m n := by split <;> omega
  simp [execOp, ho, resolve, invoke, builtin, hx, hy, Builtin.min_, Builtin.min2, e]
theorem vMax_ok {P : Program} {o : Oper} {fr : List AV} {hp : List Blk} {G : Mem} {K : AV → Prop} {x y : Operand} {ts : Array TypeId} (ho : o.op = .call ⟨.builtin .max, #[x, y], ts⟩) (h : vMin2 false (ev fr x) (ev fr y) K) : PureS P o fr hp G K := by
  have hmx : x ∈ o.op.operands.toList := by simp [ho, Op.operands, Call.operands]
  have hmy : y ∈ o.op.operands.toList := by simp [ho, Op.operands, Call.operands]
  obtain ⟨k, m, hx', h1⟩ := withInt_eq h
  obtain ⟨k', n, hy', h2⟩ := withInt_eq h1
  refine ⟨_, h2, fun base β ρ w hr hf => ?_⟩
  have hx := hf x hmx
  have hy := hf y hmy
  rw [hx'] at hx; rw [hy'] at hy
  simp only [AV.rel] at hx hy
  refine ⟨.int k (max m n), ?_, by simp only [AV.rel]⟩
  have e : (if m < n then n else m) = max m n := by split <;> omega
  simp [execOp, ho, resolve, invoke, builtin, hx, hy, Builtin.max_, Builtin.max2, e]
/-- make([]T, len, cap). -/
def vMakeSlice (T : Tab) (t : TypeId) (x y : Operand) (fr : List AV) (hp : List Blk) (G : Mem) (K : AV → List Blk → Mem → Prop) : Prop :=
  withT T t fun i => match i.td with
    | .slice e => withT T e fun j => withInt (ev fr x) fun _ l => withInt (ev fr y) fun _ c =>
        mustP (0 ≤ l ∧ l ≤ c ∧ (j.bytes : Int) * c ≤ 281474976710656 ∧ c ≤ 9223372036854775807) (testP (Nat.beq j.zero.length j.size) (lenF hp fun n => catF hp [.own e j.size l.toNat (List.replicate l.toNat j.zero).flatten] fun hp' => K (.own n) hp' G))
    | _ => False
theorem madeCells_eq (z : Array Value) (n : Nat) : (madeCells z (n * z.size)).toList = (List.replicate n z.toList).flatten := rep_cells z n
theorem vMakeSlice_ok {P : Program} {T : Tab} (hT : TOk P T) {o : Oper} {fr : List AV} {hp : List Blk} {G : Mem} {K : AV → List Blk → Mem → Prop} {x y : Operand} {t : TypeId} (ho : o.op = .makeSlice t x y) (h : vMakeSlice T t x y fr hp G K) : NewS P o fr hp G K := by
  have hmx : x ∈ o.op.operands.toList := by simp [ho, Op.operands]
  have hmy : y ∈ o.op.operands.toList := by simp [ho, Op.operands]
  obtain ⟨i, hi, h1⟩ := withT_ok hT h
  split at h1
  · rename_i e hd
    have hu := und_of (hd ▸ hi.td)
    simp only [TD.says] at hu
    obtain ⟨j, hj, h2⟩ := withT_ok hT h1
    obtain ⟨k, l, hx', h3⟩ := withInt_eq h2
    obtain ⟨k', c, hy', ⟨g1, g2, g3, g4⟩, h40⟩ := withInt_eq h3
    obtain ⟨g50, h4⟩ := testP_eq h40
    have g5 := Nat.eq_of_beq_eq_true g50
    have h5 := lenF_eq h4
    rw [catF_eq] at h5
    refine ⟨.own hp.length, _, h5, fun base β ρ w hb hs hn hf => ?_⟩
    have hx := hf x hmx
    have hy := hf y hmy
    rw [hx'] at hx; rw [hy'] at hy
    simp only [AV.rel] at hx hy
    obtain ⟨q, z, hq, hqs, hqb, hqz, hzz⟩ := hj.info
    have hzs : z.cells.size = j.size := by rw [← g5, ← hzz]; simp
    have hrun := run_make (P := P) w t e q z hu hq hqz k k' l c g1 g2 (by rw [hqb]; exact g3) g4
    rw [hqs] at hrun
    have hG : G w.heap.size = none := mem_new hb.hold (Nat.le_refl _)
    refine ⟨.slice (some ⟨w.heap.size, 0, none⟩) l.toNat c.toNat, .slice (some ⟨w.heap.size, 0, none⟩) l.toNat c.toNat, w.alloc (.cells (madeCells z.cells (c.toNat * j.size)) e), by simp [execOp, ho, hx, hy, hrun], (Below.refl _ _).alloc (Nat.le_refl _) _,
      ⟨⟨?_, .inr ⟨w.heap.size, c.toNat, _, rfl, hs, heap_alloc_new w _, by omega, by unfold maxLen; omega, size_madeCells _ _, ?_⟩⟩, fun g hg => ?_⟩, fun b hb => by simp [blkOf] at hb; omega, by simp only [AV.rel]; exact ⟨Nm.put_same _ _ _, rfl⟩⟩
    · simp [g5]
    · rw [← hzs, madeCells_eq, hzz]
      have e1 : c.toNat = l.toNat + (c.toNat - l.toNat) := by omega
      rw [e1, ← List.replicate_append_replicate, List.flatten_append]
      have e2 : ((List.replicate l.toNat j.zero).flatten).length = l.toNat * z.cells.size := by simp [g5, hzs]
      rw [← e2, List.take_left']
      rfl
    · simp [blkOf] at hg; subst hg; exact hG
  · exact h1.elim
end Go.Proofs.Ytampdegpfndggaa
