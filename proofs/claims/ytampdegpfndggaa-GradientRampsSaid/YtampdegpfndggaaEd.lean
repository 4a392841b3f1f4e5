/-
  The engine: the other operations. No program in sight.
-/
import Derived.Test.YtampdegpfndggaaEc
namespace Go.Proofs.Ytampdegpfndggaa
open Go.RowKit
set_option linter.unusedVariables false
set_option linter.unusedSimpArgs false
set_option linter.unnecessarySimpa false

/-- Both ways of a test. -/
structure condP (b : Bool) (A B : Prop) : Prop where
  yes : b = true → A
  no : b = false → B
theorem condP_true {A B : Prop} (h : A) : condP true A B := ⟨fun _ => h, (fun e => by cases e)⟩
theorem condP_false {A B : Prop} (h : B) : condP false A B := ⟨(fun e => by cases e), fun _ => h⟩
theorem condP_yes {b : Bool} {A B : Prop} (e : b = true) (h : A) : condP b A B := by subst e; exact condP_true h
theorem condP_no {b : Bool} {A B : Prop} (e : b = false) (h : B) : condP b A B := by subst e; exact condP_false h
theorem condP_dt {p : Prop} {i : Decidable p} {A B : Prop} (e : p) (h : A) : condP (@decide p i) A B := condP_yes (decide_eq_true e) h
theorem condP_df {p : Prop} {i : Decidable p} {A B : Prop} (e : ¬ p) (h : B) : condP (@decide p i) A B := condP_no (decide_eq_false e) h
theorem condP_dec {p : Prop} {i : Decidable p} {A B : Prop} (h : p → A) (k : ¬ p → B) : condP (@decide p i) A B := ⟨fun e => h (of_decide_eq_true e), fun e => k (of_decide_eq_false e)⟩
/-- A number that may wrap. -/
inductive ArP (k : IntKind) (r : Int) (K : Int → Prop) : Prop
  | mk (c : Int) (e : k.wrap r = c) (h : K c)
theorem ArP_id {k : IntKind} {r : Int} {K : Int → Prop} (e : k.wrap r = r) (h : K r) : ArP k r K := ⟨r, e, h⟩
theorem ArP_as {k : IntKind} {r : Int} {K : Int → Prop} (c : Int) (e : k.wrap r = c) (h : K c) : ArP k r K := ⟨c, e, h⟩
theorem ArP_i64 {r : Int} {K : Int → Prop} (e : -9223372036854775808 ≤ r ∧ r ≤ 9223372036854775807) (h : K r) : ArP .i64 r K := ⟨r, IntWalk.i64_in _ e, h⟩
/-- A value to be told. -/
inductive isP {α : Type} (x : α) (K : α → Prop) : Prop
  | mk (c : α) (e : x = c) (h : K c)

def kindB : IntKind → IntKind → Bool
  | .i8, .i8 => true
  | .i16, .i16 => true
  | .i32, .i32 => true
  | .i64, .i64 => true
  | .u8, .u8 => true
  | .u16, .u16 => true
  | .u32, .u32 => true
  | .u64, .u64 => true
  | _, _ => false
theorem kindB_eq {a b : IntKind} (h : kindB a b = true) : a = b := by cases a <;> cases b <;> first | rfl | cases h

/-! ### Operations on values alone -/
/-- Integers. -/
def vInts (op : BinOp) (k : IntKind) (m : Int) (k' : IntKind) (n : Int) (K : AV → Prop) : Prop :=
  match op with
  | .shl => mustP (0 ≤ n) (ArP k (m * 2 ^ (min n.toNat k.bits)) fun c => K (.val (.int k c)))
  | .shr => mustP (0 ≤ n) (isP (m.fdiv (2 ^ (min n.toNat k.bits))) fun c => K (.val (.int k c)))
  | _ => match kindB k k' with
    | false => False
    | true => match op with
      | .add => ArP k (m + n) fun c => K (.val (.int k c))
      | .sub => ArP k (m - n) fun c => K (.val (.int k c))
      | .mul => ArP k (m * n) fun c => K (.val (.int k c))
      | .quo => mustP (n ≠ 0) (ArP k (m.tdiv n) fun c => K (.val (.int k c)))
      | .rem => mustP (n ≠ 0) (K (.val (.int k (m.tmod n))))
      | .and => isP (bits .and k m n) fun c => K (.val (.int k c))
      | .or => isP (bits .or k m n) fun c => K (.val (.int k c))
      | .xor => isP (bits .xor k m n) fun c => K (.val (.int k c))
      | .andNot => isP (bits .andNot k m n) fun c => K (.val (.int k c))
      | .eql => K (.val (.bool (decide (m = n))))
      | .neq => K (.val (.bool (decide (m ≠ n))))
      | .lss => K (.val (.bool (decide (m < n))))
      | .leq => K (.val (.bool (decide (m ≤ n))))
      | .gtr => K (.val (.bool (decide (n < m))))
      | .geq => K (.val (.bool (decide (n ≤ m))))
      | _ => False
theorem vInts_ok {P : Program} {op : BinOp} {t : TypeId} {k k' : IntKind} {m n : Int} {K : AV → Prop} (h : vInts op k m k' n K) : ∃ y, K (.val y) ∧ ∀ w, (binOp op t (.int k m) (.int k' n)).run P w = .ok y w := by
  unfold vInts at h
  split at h
  · obtain ⟨h0, c, h1, h2⟩ := h
    have : ¬ n < 0 := by omega
    exact ⟨_, h2, fun w => by simp [binOp, Op.shift, this, h1]⟩
  · obtain ⟨h0, c, h1, h2⟩ := h
    have : ¬ n < 0 := by omega
    exact ⟨_, h2, fun w => by simp [binOp, Op.shift, this, h1]⟩
  · rename_i hs1 hs2
    split at h
    · exact h.elim
    · rename_i hk
      obtain rfl := kindB_eq hk
      split at h
      · obtain ⟨c, h1, h2⟩ := h; exact ⟨_, h2, fun w => by simp [binOp, Op.intArith, h1]⟩
      · obtain ⟨c, h1, h2⟩ := h; exact ⟨_, h2, fun w => by simp [binOp, Op.intArith, h1]⟩
      · obtain ⟨c, h1, h2⟩ := h; exact ⟨_, h2, fun w => by simp [binOp, Op.intArith, h1]⟩
      · obtain ⟨h0, c, h1, h2⟩ := h; exact ⟨_, h2, fun w => by simp [binOp, Op.intDiv, h0, h1]⟩
      · obtain ⟨h0, h2⟩ := h; exact ⟨_, h2, fun w => by simp [binOp, Op.intDiv, h0]⟩
      · obtain ⟨c, h1, h2⟩ := h; exact ⟨.int k c, h2, fun w => by rw [← h1]; simp [binOp, Op.intBits, bits]⟩
      · obtain ⟨c, h1, h2⟩ := h; exact ⟨.int k c, h2, fun w => by rw [← h1]; simp [binOp, Op.intBits, bits]⟩
      · obtain ⟨c, h1, h2⟩ := h; exact ⟨.int k c, h2, fun w => by rw [← h1]; simp [binOp, Op.intBits, bits]⟩
      · obtain ⟨c, h1, h2⟩ := h; exact ⟨.int k c, h2, fun w => by rw [← h1]; simp [binOp, Op.intBits, bits]⟩
      · exact ⟨_, h, fun w => by simp [binOp, Op.intCmp]; try rfl⟩
      · refine ⟨_, h, fun w => ?_⟩
        have e : (m != n) = decide (m ≠ n) := by by_cases hh : m = n <;> simp [hh]
        simp only [binOp, Op.intCmp, ne_eq, not_true_eq_false, if_false]; rw [e]; rfl
      · exact ⟨_, h, fun w => by simp [binOp, Op.intCmp]; try rfl⟩
      · exact ⟨_, h, fun w => by simp [binOp, Op.intCmp]; try rfl⟩
      · exact ⟨_, h, fun w => by simp [binOp, Op.intCmp]; try rfl⟩
      · exact ⟨_, h, fun w => by simp [binOp, Op.intCmp]; try rfl⟩
      · exact h.elim
/-- The equality of two values that are not numbers or strings: to be shown by hand, once for each type. -/
inductive EqP (P : Program) (t : TypeId) (x y : Operand) (a b : AV) (K : Bool → Prop) : Prop
  | mk (q : Bool) (e : ∀ β u v w, a.rel β u → b.rel β v → (eqGuard .eql t x y u v).run P w = .ok () w ∧ (eqGuard .neq t x y u v).run P w = .ok () w ∧ (binOp .eql t u v).run P w = .ok (.bool q) w ∧ (binOp .neq t u v).run P w = .ok (.bool (!q)) w) (h : K q)
def vBin (P : Program) (op : BinOp) (t : TypeId) (x y : Operand) (fr : List AV) (K : AV → Prop) : Prop :=
  forceA (ev fr x) fun a => forceA (ev fr y) fun b => match a with
  | .val (.int k m) => withInt b fun k' n => vInts op k m k' n K
  | .val (.string s) => withStr b fun u => match op with
    | .eql => K (.val (.bool (s.toList == u.toList)))
    | .neq => K (.val (.bool (!(s.toList == u.toList))))
    | .add => mustP (s.size + u.size ≤ 9223372036854775807) (K (.val (.string (s ++ u))))
    | _ => False
  | a => match op with
    | .eql => EqP P t x y a b fun q => K (.val (.bool q))
    | .neq => EqP P t x y a b fun q => K (.val (.bool (!q)))
    | _ => False
theorem vBin_ok {P : Program} {o : Oper} {fr : List AV} {hp : List Blk} {G : Mem} {K : AV → Prop} {op : BinOp} {t yt : TypeId} {x y : Operand} (ho : o.op = .binOp op t x y yt) (h : vBin P op t x y fr K) : PureS P o fr hp G K := by
  have hmx : x ∈ o.op.operands.toList := by simp [ho, Op.operands]
  have hmy : y ∈ o.op.operands.toList := by simp [ho, Op.operands]
  unfold vBin at h
  rw [forceA_eq, forceA_eq] at h
  split at h
  · rename_i k m hx'
    obtain ⟨k', n, hy', h1⟩ := withInt_eq h
    obtain ⟨z, h3, h2⟩ := vInts_ok (P := P) (t := t) h1
    refine ⟨_, h3, fun base β ρ w hr hf => ?_⟩
    have hx := hf x hmx
    have hy := hf y hmy
    rw [hx'] at hx; rw [hy'] at hy
    simp only [AV.rel] at hx hy
    exact ⟨z, by simp [execOp, ho, hx, hy, eqGuard, h2], by simp only [AV.rel]⟩
  · rename_i s hx'
    obtain ⟨u, hy', h1⟩ := withStr_eq h
    split at h1
    · refine ⟨_, h1, fun base β ρ w hr hf => ?_⟩
      have hx := hf x hmx
      have hy := hf y hmy
      rw [hx'] at hx; rw [hy'] at hy
      simp only [AV.rel] at hx hy
      exact ⟨_, by simp [execOp, ho, hx, hy, eqGuard, binOp, Op.stringOp]; (try rfl), by simp only [AV.rel]⟩
    · refine ⟨_, h1, fun base β ρ w hr hf => ?_⟩
      have hx := hf x hmx
      have hy := hf y hmy
      rw [hx'] at hx; rw [hy'] at hy
      simp only [AV.rel] at hx hy
      exact ⟨_, by simp [execOp, ho, hx, hy, eqGuard, binOp, Op.stringOp]; (try rfl), by simp only [AV.rel]⟩
    · obtain ⟨h0, h2⟩ := h1
      refine ⟨_, h2, fun base β ρ w hr hf => ?_⟩
      have hx := hf x hmx
      have hy := hf y hmy
      rw [hx'] at hx; rw [hy'] at hy
      simp only [AV.rel] at hx hy
      exact ⟨_, by simp [execOp, ho, hx, hy, eqGuard, binOp, run_string_add_sum _ _ _ h0]; (try rfl), by simp only [AV.rel]⟩
    · exact h1.elim
  · split at h
    · obtain ⟨q, h1, h2⟩ := h
      refine ⟨_, h2, fun base β ρ w hr hf => ?_⟩
      obtain ⟨h3, _, h4, _⟩ := h1 β _ _ w (hf x hmx) (hf y hmy)
      exact ⟨_, by simp [execOp, ho, h3, h4]; (try rfl), by simp only [AV.rel]⟩
    · obtain ⟨q, h1, h2⟩ := h
      refine ⟨_, h2, fun base β ρ w hr hf => ?_⟩
      obtain ⟨_, h3, _, h4⟩ := h1 β _ _ w (hf x hmx) (hf y hmy)
      exact ⟨_, by simp [execOp, ho, h3, h4]; (try rfl), by simp only [AV.rel]⟩
    · exact h.elim
def vUn (op : UnOp) (x : Operand) (fr : List AV) (K : AV → Prop) : Prop :=
  match op with
  | .not => withBool (ev fr x) fun b => K (.val (.bool (!b)))
  | .neg => withInt (ev fr x) fun k n => ArP k (0 - n) fun c => K (.val (.int k c))
  | .xor => withInt (ev fr x) fun k n => isP (bits .xor k (if k.signed then -1 else k.max) n) fun c => K (.val (.int k c))
  | _ => False
theorem vUn_ok {P : Program} {o : Oper} {fr : List AV} {hp : List Blk} {G : Mem} {K : AV → Prop} {op : UnOp} {t : TypeId} {x : Operand} (ho : o.op = .unOp op t x) (h : vUn op x fr K) : PureS P o fr hp G K := by
  have hmx : x ∈ o.op.operands.toList := by simp [ho, Op.operands]
  unfold vUn at h
  split at h
  · obtain ⟨b, hx', h1⟩ := withBool_eq h
    refine ⟨_, h1, fun base β ρ w hr hf => ?_⟩
    have hx := hf x hmx
    rw [hx'] at hx; simp only [AV.rel] at hx
    exact ⟨_, by simp [execOp, ho, hx, Op.unary]; (try rfl), by simp only [AV.rel]⟩
  · obtain ⟨k, n, hx', c, h1, h2⟩ := withInt_eq h
    refine ⟨_, h2, fun base β ρ w hr hf => ?_⟩
    have hx := hf x hmx
    rw [hx'] at hx; simp only [AV.rel] at hx
    exact ⟨.int k c, by rw [← h1]; simp [execOp, ho, hx, Op.unary, Op.intArith], by simp only [AV.rel]⟩
  · obtain ⟨k, n, hx', c, h1, h2⟩ := withInt_eq h
    refine ⟨_, h2, fun base β ρ w hr hf => ?_⟩
    have hx := hf x hmx
    rw [hx'] at hx; simp only [AV.rel] at hx
    exact ⟨.int k c, by rw [← h1]; simp [execOp, ho, hx, Op.unary, Op.intBits, bits], by simp only [AV.rel]⟩
  · exact h.elim
def vConv (T : Tab) (s d : TypeId) (x : Operand) (fr : List AV) (K : AV → Prop) : Prop :=
  withT T s fun i => withT T d fun j => match j.td, i.td with
    | .int k, .int _ => withInt (ev fr x) fun _ n => ArP k n fun c => K (.val (.int k c))
    | .str, .str => withStr (ev fr x) fun s => K (.val (.string s))
    | _, _ => False
theorem vConv_ok {P : Program} {T : Tab} (hT : TOk P T) {o : Oper} {fr : List AV} {hp : List Blk} {G : Mem} {K : AV → Prop} {s d : TypeId} {x : Operand} (ho : o.op = .convert s d x) (h : vConv T s d x fr K) : PureS P o fr hp G K := by
  have hmx : x ∈ o.op.operands.toList := by simp [ho, Op.operands]
  obtain ⟨i, hi, h1⟩ := withT_ok hT h
  obtain ⟨j, hj, h2⟩ := withT_ok hT h1
  split at h2
  · rename_i k k' hd hs
    have e1 := und_of (hd ▸ hj.td); have e2 := und_of (hs ▸ hi.td)
    simp only [TD.says] at e1 e2
    obtain ⟨k2, n, hx', c, h3, h4⟩ := withInt_eq h2
    refine ⟨_, h4, fun base β ρ w hr hf => ?_⟩
    have hx := hf x hmx
    rw [hx'] at hx; simp only [AV.rel] at hx
    exact ⟨_, by simp [execOp, ho, hx, convert, run_underlying e1, run_underlying e2, Conv.intToInt]; (try rfl), by simp only [AV.rel]; rw [← h3]⟩
  · rename_i hd hs
    have e1 := und_of (hd ▸ hj.td); have e2 := und_of (hs ▸ hi.td)
    simp only [TD.says] at e1 e2
    obtain ⟨u, hx', h3⟩ := withStr_eq h2
    refine ⟨_, h3, fun base β ρ w hr hf => ?_⟩
    have hx := hf x hmx
    rw [hx'] at hx; simp only [AV.rel] at hx
    exact ⟨_, by simp [execOp, ho, hx, convert, run_underlying e1, run_underlying e2]; (try rfl), by simp only [AV.rel]⟩
  · exact h2.elim
def vNilCheck (x : Operand) (fr : List AV) (K : AV → Prop) : Prop :=
  match ev fr x with
  | .ptr k o => K (.ptr k o)
  | .val (.pointer (some a)) => K (.val (.pointer (some a)))
  | _ => False
theorem vNilCheck_ok {P : Program} {o : Oper} {fr : List AV} {hp : List Blk} {G : Mem} {K : AV → Prop} {x : Operand} (ho : o.op = .nilCheck x) (h : vNilCheck x fr K) : PureS P o fr hp G K := by
  have hmx : x ∈ o.op.operands.toList := by simp [ho, Op.operands]
  unfold vNilCheck at h
  split at h
  · rename_i k off hx'
    refine ⟨_, h, fun base β ρ w hr hf => ?_⟩
    have hx := hf x hmx
    rw [hx'] at hx
    have hx2 := hx
    simp only [AV.rel] at hx
    obtain ⟨v, b, _, _, h3⟩ := hx
    exact ⟨ρ x, by simp [execOp, ho, h3], hx2⟩
  · rename_i p hx'
    refine ⟨_, h, fun base β ρ w hr hf => ?_⟩
    have hx := hf x hmx
    rw [hx'] at hx
    have hx2 := hx
    simp only [AV.rel] at hx
    exact ⟨ρ x, by simp [execOp, ho, hx], hx2⟩
  · exact h.elim
def pickF : List (Nat × TypeId) → Nat → (Nat → TypeId → Prop) → Prop
  | [], _, _ => False
  | (o, t) :: _, 0, K => K o t
  | _ :: l, n + 1, K => pickF l n K
theorem pickF_eq : ∀ {l : List (Nat × TypeId)} {n : Nat} {K : Nat → TypeId → Prop}, pickF l n K → ∃ o t, l[n]? = some (o, t) ∧ K o t
  | [], _, _, h => h.elim
  | (o, t) :: _, 0, _, h => ⟨o, t, by simp, h⟩
  | _ :: l, n + 1, _, h => by
    obtain ⟨o, t, h1, h2⟩ := pickF_eq (l := l) (n := n) h
    exact ⟨o, t, by simpa using h1, h2⟩
theorem field_of {P : Program} {s : TypeId} {fs : List (Nat × TypeId)} (h : tdOf P s = .strct fs) {n o : Nat} {t : TypeId} (hn : fs[n]? = some (o, t)) : ∃ (gs : Array Field) (f : Field), P.underlying s = some (.struct gs) ∧ gs[n]? = some f ∧ f.offset = o ∧ f.type = t := by
  obtain ⟨gs, h1, h2⟩ := und_of h
  rw [← h2, List.getElem?_map] at hn
  cases hg : gs.toList[n]? with
  | none => rw [hg] at hn; cases hn
  | some f =>
    rw [hg] at hn
    simp at hn
    exact ⟨gs, f, h1, by simpa using hg, hn.1, hn.2⟩
def vFieldAddr (T : Tab) (s : TypeId) (x : Operand) (n : Nat) (fr : List AV) (K : AV → Prop) : Prop :=
  withT T s fun i => match i.td with
    | .strct fs => pickF fs n fun off t => withT T t fun j => testP (Nat.blt 0 j.size) (match ev fr x with
      | .ptr k o => K (.ptr k (o + off))
      | .val (.pointer (some a)) => K (.val (.pointer (some (a.add off))))
      | _ => False)
    | _ => False
theorem vFieldAddr_ok {P : Program} {T : Tab} (hT : TOk P T) {o : Oper} {fr : List AV} {hp : List Blk} {G : Mem} {K : AV → Prop} {s : TypeId} {x : Operand} {n : Nat} (ho : o.op = .fieldAddr s x n) (h : vFieldAddr T s x n fr K) : PureS P o fr hp G K := by
  have hmx : x ∈ o.op.operands.toList := by simp [ho, Op.operands]
  obtain ⟨i, hi, h1⟩ := withT_ok hT h
  split at h1
  · rename_i fs hd
    obtain ⟨off, t, h2, h3⟩ := pickF_eq h1
    obtain ⟨gs, f, h4, h5, h6, h7⟩ := field_of (hd ▸ hi.td) h2
    obtain ⟨j, hj, h89⟩ := withT_ok hT h3
    obtain ⟨h8, h9⟩ := testP_eq h89
    have hsz : j.size ≠ 0 := by simp [Nat.blt_eq] at h8; omega
    split at h9
    · rename_i k off' hx'
      refine ⟨_, h9, fun base β ρ w hr hf => ?_⟩
      have hx := hf x hmx
      have hfs := hj.size (P := P) w
      rw [← h7] at hfs
      rw [hx'] at hx
      simp only [AV.rel] at hx
      obtain ⟨v, b, h10, h11, h12⟩ := hx
      refine ⟨.pointer (some ⟨b, off' + off, none⟩), ?_, by simp only [AV.rel]; exact ⟨v, b, h10, h11, rfl⟩⟩
      simp [execOp, ho, h12, Instr.fieldAt, run_underlying h4, h5, Instr.sureAddr, fieldPlace, hfs, hsz, h6, addr_add]
    · rename_i p hx'
      refine ⟨_, h9, fun base β ρ w hr hf => ?_⟩
      have hx := hf x hmx
      have hfs := hj.size (P := P) w
      rw [← h7] at hfs
      rw [hx'] at hx
      simp only [AV.rel] at hx
      refine ⟨.pointer (some (p.add off)), ?_, by simp only [AV.rel]⟩
      simp [execOp, ho, hx, Instr.fieldAt, run_underlying h4, h5, Instr.sureAddr, fieldPlace, hfs, hsz, h6]
    · exact h9.elim
  · exact h1.elim
def withAgg (a : AV) (K : List AV → Prop) : Prop :=
  match a with
  | .agg l => K l
  | .val (.agg cs) => valsF cs.toList K
  | _ => False
theorem withAgg_eq {a : AV} {K : List AV → Prop} (h : withAgg a K) : ∃ l, K l ∧ ∀ β y, a.rel β y → ∃ cs, y = .agg cs ∧ AV.rels β l cs.toList := by
  unfold withAgg at h
  split at h
  · exact ⟨_, h, fun β y e => by simpa only [AV.rel] using e⟩
  · rename_i cs
    rw [valsF_eq] at h
    exact ⟨_, h, fun β y e => by simp only [AV.rel] at e; exact ⟨cs, e, AV.rels_vals _⟩⟩
  · exact h.elim
theorem part_run {P : Program} {t : TypeId} {i : TI} (hi : TIok P t i) {l : List AV} {off : Nat} {K : AV → Prop} (h : subF l off i.size fun m => aggF i m K) :
    ∃ v, K v ∧ ∀ (β : Nm) (cs : Array Value) (w : World), AV.rels β l cs.toList → ∃ y, (part t cs off).run P w = .ok y w ∧ v.rel β y := by
  obtain ⟨h1, h2⟩ := subF_eq h
  obtain ⟨hk, h3⟩ := aggF_eq h2
  rcases h3 with ⟨ha, h4⟩ | ⟨ha, c, hc, h4⟩
  · refine ⟨_, h4, fun β cs w hl => ⟨.agg (cs.extract off (off + i.size)), ?_, ?_⟩⟩
    · simp [part, isAgg_run hi hk, ha, hi.size]
    · simp only [AV.rel]
      refine ⟨_, rfl, ?_⟩
      have := AV.rels_take i.size (AV.rels_drop off hl)
      have e : (cs.extract off (off + i.size)).toList = (cs.toList.drop off).take i.size := by simp [List.extract_eq_take_drop]
      rw [e]; exact this
  · refine ⟨_, h4, fun β cs w hl => ?_⟩
    have := AV.rels_take i.size (AV.rels_drop off hl)
    rw [hc] at this
    simp only [AV.rels] at this
    obtain ⟨y, zs, h5, h6, rfl⟩ := this
    have h7 : cs[off]? = some y := by
      have h8 := congrArg (fun l : List Value => l[0]?) h5
      have hp : 0 < i.size := by
        rcases Nat.eq_zero_or_pos i.size with h0 | h0
        · rw [h0] at h5; simp at h5
        · exact h0
      simp [hp] at h8
      exact h8
    exact ⟨y, by simp [part, isAgg_run hi hk, ha, h7], h6⟩
def vField (T : Tab) (s : TypeId) (x : Operand) (n : Nat) (fr : List AV) (K : AV → Prop) : Prop :=
  withT T s fun i => match i.td with
    | .strct fs => pickF fs n fun off t => withT T t fun j => withAgg (ev fr x) fun l => subF l off j.size fun cs => aggF j cs K
    | _ => False
theorem vField_ok {P : Program} {T : Tab} (hT : TOk P T) {o : Oper} {fr : List AV} {hp : List Blk} {G : Mem} {K : AV → Prop} {s : TypeId} {x : Operand} {n : Nat} (ho : o.op = .field s x n) (h : vField T s x n fr K) : PureS P o fr hp G K := by
  have hmx : x ∈ o.op.operands.toList := by simp [ho, Op.operands]
  obtain ⟨i, hi, h1⟩ := withT_ok hT h
  split at h1
  · rename_i fs hd
    obtain ⟨off, t, h2, h3⟩ := pickF_eq h1
    obtain ⟨gs, f, h4, h5, h6, h7⟩ := field_of (hd ▸ hi.td) h2
    obtain ⟨j, hj, h8⟩ := withT_ok hT h3
    obtain ⟨l, h9, h10⟩ := withAgg_eq h8
    obtain ⟨v, h13, h14⟩ := part_run hj h9
    refine ⟨v, h13, fun base β ρ w hr hf => ?_⟩
    obtain ⟨cs, h11, h12⟩ := h10 β _ (hf x hmx)
    obtain ⟨y, h15, h16⟩ := h14 β cs w h12
    subst h6; subst h7
    exact ⟨y, by simp [execOp, ho, h11, Instr.field, run_underlying h4, h5, asAgg, h15], h16⟩
  · exact h1.elim
def withIx (i : Int) (n : Nat) (K : Nat → Prop) : Prop := mustP (0 ≤ i ∧ i < n) (K i.toNat)
def vIndexAddr (T : Tab) (t : TypeId) (x ix : Operand) (fr : List AV) (hp : List Blk) (K : AV → Prop) : Prop :=
  withInt (ev fr ix) fun _ i => withT T t fun q => match q.td with
    | .arr n e => withT T e fun j => match ev fr x with
      | .ptr k o => withIx i n fun m => K (.ptr k (o + m * j.size))
      | .val (.pointer (some a)) => withIx i n fun m => K (.val (.pointer (some (a.add (m * j.size)))))
      | _ => False
    | .slice e => withT T e fun j => match ev fr x with
      | .sli k o n _ => withIx i n fun m => K (.ptr k (o + m * j.size))
      | .own k => match nthB hp k with
        | .own _ _ n _ => withIx i n fun m => K (.ptr k (m * j.size))
        | _ => False
      | .val (.slice (some a) n _) => withIx i n fun m => K (.val (.pointer (some (a.add (m * j.size)))))
      | _ => False
    | _ => False
theorem vIndexAddr_ok {P : Program} {T : Tab} (hT : TOk P T) {o : Oper} {fr : List AV} {hp : List Blk} {G : Mem} {K : AV → Prop} {t : TypeId} {x ix : Operand} (ho : o.op = .indexAddr t x ix) (h : vIndexAddr T t x ix fr hp K) : PureS P o fr hp G K := by
  have hmx : x ∈ o.op.operands.toList := by simp [ho, Op.operands]
  have hmi : ix ∈ o.op.operands.toList := by simp [ho, Op.operands]
  obtain ⟨ki, i, he, h1⟩ := withInt_eq h
  obtain ⟨q, hq, h2⟩ := withT_ok hT h1
  split at h2
  · rename_i n e hd
    have hu := und_of (hd ▸ hq.td)
    simp only [TD.says] at hu
    obtain ⟨j, hj, h3⟩ := withT_ok hT h2
    split at h3
    · rename_i k off hx'
      obtain ⟨⟨h4, h5⟩, h6⟩ := h3
      refine ⟨_, h6, fun base β ρ w hr hf => ?_⟩
      have hx := hf x hmx
      have hix := hf ix hmi
      rw [he] at hix; rw [hx'] at hx; simp only [AV.rel] at hx hix
      obtain ⟨v, b, h7, h8, h9⟩ := hx
      refine ⟨.pointer (some ⟨b, off + i.toNat * j.size, none⟩), ?_, by simp only [AV.rel]; exact ⟨v, b, h7, h8, rfl⟩⟩
      simp [execOp, ho, h9, hix, Instr.indexAt, asIntOf, run_underlying hu, Instr.sureAddr, h4, h5, hj.size, addr_add]
    · rename_i p hx'
      obtain ⟨⟨h4, h5⟩, h6⟩ := h3
      refine ⟨_, h6, fun base β ρ w hr hf => ?_⟩
      have hx := hf x hmx
      have hix := hf ix hmi
      rw [he] at hix; rw [hx'] at hx; simp only [AV.rel] at hx hix
      refine ⟨.pointer (some (p.add (i.toNat * j.size))), ?_, by simp only [AV.rel]⟩
      simp [execOp, ho, hx, hix, Instr.indexAt, asIntOf, run_underlying hu, Instr.sureAddr, h4, h5, hj.size]
    · exact h3.elim
  · rename_i e hd
    have hu := und_of (hd ▸ hq.td)
    simp only [TD.says] at hu
    obtain ⟨j, hj, h3⟩ := withT_ok hT h2
    split at h3
    · rename_i k off n c hx'
      obtain ⟨⟨h4, h5⟩, h6⟩ := h3
      refine ⟨_, h6, fun base β ρ w hr hf => ?_⟩
      have hx := hf x hmx
      have hix := hf ix hmi
      rw [he] at hix; rw [hx'] at hx; simp only [AV.rel] at hx hix
      obtain ⟨v, b, h7, h8, h9⟩ := hx
      refine ⟨.pointer (some ⟨b, off + i.toNat * j.size, none⟩), ?_, by simp only [AV.rel]; exact ⟨v, b, h7, h8, rfl⟩⟩
      simp [execOp, ho, h9, hix, Instr.indexAt, asIntOf, run_underlying hu, h4, h5, hj.size, addr_add]
    · rename_i k hx'
      split at h3
      · rename_i e' sz n xs hb
        obtain ⟨⟨h4, h5⟩, h6⟩ := h3
        refine ⟨_, h6, fun base β ρ w hr hf => ?_⟩
        have hx := hf x hmx
        have hix := hf ix hmi
        rw [he] at hix; rw [hx'] at hx; simp only [AV.rel] at hx hix
        have hu2 := hr.blk k _ _ hx.1 (nthB_live hb rfl)
        rcases hu2.1.2 with ⟨h7, h8⟩ | ⟨g, cap, cur, h7, _⟩
        · omega
        · refine ⟨.pointer (some ⟨g, i.toNat * j.size, none⟩), ?_, by simp only [AV.rel]; exact ⟨_, g, hx.1, by rw [h7]; rfl, rfl⟩⟩
          simp [execOp, ho, h7, hix, Instr.indexAt, asIntOf, run_underlying hu, h4, h5, hj.size, addr_add]
      · exact h3.elim
    · rename_i p n c hx'
      obtain ⟨⟨h4, h5⟩, h6⟩ := h3
      refine ⟨_, h6, fun base β ρ w hr hf => ?_⟩
      have hx := hf x hmx
      have hix := hf ix hmi
      rw [he] at hix; rw [hx'] at hx; simp only [AV.rel] at hx hix
      refine ⟨.pointer (some (p.add (i.toNat * j.size))), ?_, by simp only [AV.rel]⟩
      simp [execOp, ho, hx, hix, Instr.indexAt, asIntOf, run_underlying hu, h4, h5, hj.size]
    · exact h3.elim
  · exact h2.elim
end Go.Proofs.Ytampdegpfndggaa
