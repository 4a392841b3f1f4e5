/-
  The engine: == on structs and arrays of numbers, truth values and strings. No program in sight.
-/
import Derived.Test.YtampdegpfndggaaEu
import Derived.Laws.StructEq
import Derived.ChangeKeysEq
namespace Go.Proofs.Ytampdegpfndggaa
open Go.RowKit
set_option linter.unusedVariables false
set_option linter.unusedSimpArgs false
set_option linter.unnecessarySimpa false

def flatFs (P : Program) (g : TypeId → Option (List TD)) : Nat → List Field → Option (List TD)
  | _, [] => some []
  | off, f :: fs => if f.name = "_" then none else if f.offset ≠ off then none else
    match g f.type, P.info? f.type with
    | some l, some i => if i.size ≠ l.length then none else
      match flatFs P g (off + l.length) fs with
      | some r => some (l ++ r)
      | none => none
    | _, _ => none
def flatK (P : Program) : Nat → TypeId → Option (List TD)
  | 0, _ => none
  | n + 1, t => match P.underlying t with
    | some (.int k) => some [.int k]
    | some .bool => some [.bool]
    | some .string => some [.str]
    | some (.struct fs) => if P.stoodInHeld t then none else flatFs P (flatK P n) 0 fs.toList
    | some (.array m e) => match flatK P n e, P.info? e with
      | some l, some i => if i.size ≠ l.length then none else some (List.replicate m l).flatten
      | _, _ => none
    | _ => none
def kindsB : List TD → List Value → Bool
  | [], [] => true
  | .int k :: l, .int k' _ :: vs => kindB k k' && kindsB l vs
  | .bool :: l, .bool _ :: vs => kindsB l vs
  | .str :: l, .string _ :: vs => kindsB l vs
  | _, _ => false
def eqList : List Value → List Value → Bool
  | [], [] => true
  | .int _ a :: xs, .int _ b :: ys => decide (a = b) && eqList xs ys
  | .bool a :: xs, .bool b :: ys => (a == b) && eqList xs ys
  | .string a :: xs, .string b :: ys => (a.toList == b.toList) && eqList xs ys
  | _, _ => false
theorem kindsB_append : ∀ {l m : List TD} {vs : List Value}, kindsB (l ++ m) vs = true → kindsB l (vs.take l.length) = true ∧ kindsB m (vs.drop l.length) = true
  | [], _, _, h => by simpa [kindsB] using h
  | t :: l, m, [], h => by cases t <;> simp [kindsB] at h
  | t :: l, m, v :: vs, h => by
    cases t <;> cases v <;> simp only [List.cons_append, kindsB, Bool.and_eq_true, Bool.false_eq_true] at h
    · have := kindsB_append h.2; simp [kindsB, h.1, this]
    · have := kindsB_append h; simp [kindsB, this]
    · have := kindsB_append h; simp [kindsB, this]
theorem kindsB_length : ∀ {l : List TD} {vs : List Value}, kindsB l vs = true → vs.length = l.length
  | [], [], _ => rfl
  | [], _ :: _, h => by simp [kindsB] at h
  | t :: l, [], h => by cases t <;> simp [kindsB] at h
  | t :: l, v :: vs, h => by
    cases t <;> cases v <;> simp only [kindsB, Bool.and_eq_true, Bool.false_eq_true] at h
    · simp [kindsB_length h.2]
    · simp [kindsB_length h]
    · simp [kindsB_length h]
theorem eqList_append : ∀ {l : List TD} {a b c d : List Value}, kindsB l a = true → kindsB l b = true → eqList (a ++ c) (b ++ d) = (eqList a b && eqList c d)
  | [], [], [], c, d, _, _ => by simp [eqList]
  | [], _ :: _, _, _, _, h, _ => by simp [kindsB] at h
  | [], [], _ :: _, _, _, _, h => by simp [kindsB] at h
  | t :: l, [], _, _, _, h, _ => by cases t <;> simp [kindsB] at h
  | t :: l, _ :: _, [], _, _, _, h => by cases t <;> simp [kindsB] at h
  | t :: l, x :: a, y :: b, c, d, h, h' => by
    cases t <;> cases x <;> simp only [kindsB, Bool.and_eq_true, Bool.false_eq_true] at h <;> cases y <;> simp only [kindsB, Bool.and_eq_true, Bool.false_eq_true] at h'
    · simp [eqList, eqList_append h.2 h'.2, Bool.and_assoc]
    · simp [eqList, eqList_append h h', Bool.and_assoc]
    · simp [eqList, eqList_append h h', Bool.and_assoc]
/-- A value out of its cells. -/
def wrapV (P : Program) (t : TypeId) (xs : List Value) : Value :=
  match P.underlying t, xs with
  | some (.struct _), xs => .agg xs.toArray
  | some (.array _ _), xs => .agg xs.toArray
  | _, [x] => x
  | _, _ => undef
theorem part_wrap {P : Program} {t : TypeId} {l : List TD} {n : Nat} (h : flatK P n t = some l) {i : TypeInfo} (hi : P.info? t = some i) (hs : i.size = l.length) {xs : List Value} {off : Nat} (hk : kindsB l ((xs.drop off).take l.length) = true) (w : World) :
    (part t xs.toArray off).run P w = .ok (wrapV P t ((xs.drop off).take l.length)) w := by
  cases n with
  | zero => simp [flatK] at h
  | succ n =>
    unfold flatK at h
    have hsz : (sizeOf t).run P w = .ok l.length w := by simp [sizeOf, typeInfo, hi, hs]
    have hlen := kindsB_length hk
    have scal : ∀ {d : TypeDesc}, P.underlying t = some d → (match d with | .struct _ => False | .array _ _ => False | _ => True) → l.length = 1 → (part t xs.toArray off).run P w = .ok (wrapV P t ((xs.drop off).take l.length)) w := by
      intro d hd hna h1
      rw [h1] at hlen ⊢
      obtain ⟨v, hv⟩ := List.length_eq_one_iff.1 hlen
      have hx : xs[off]? = some v := by
        have := congrArg (fun z : List Value => z[0]?) hv
        simpa using this
      have hag : (isAgg t).run P w = .ok false w := by cases d <;> simp_all [isAgg, run_underlying]
      have hw : wrapV P t [v] = v := by unfold wrapV; rw [hd]; cases d <;> simp_all
      rw [hv, hw]
      simp [part, hag, hx]
    split at h
    · rename_i k hd; cases h; exact scal hd trivial rfl
    · rename_i hd; cases h; exact scal hd trivial rfl
    · rename_i hd; cases h; exact scal hd trivial rfl
    · rename_i fs hd
      simp [part, isAgg, run_underlying hd, hsz, wrapV, hd]
    · rename_i m e hd
      simp [part, isAgg, run_underlying hd, hsz, wrapV, hd]
    · cases h
theorem equalIn_flat {P : Program} : ∀ (n : Nat) (t : TypeId) (l : List TD), flatK P n t = some l → ∀ (xs ys : List Value), kindsB l xs = true → kindsB l ys = true → ∀ (d : Nat) (w : World),
    (Op.equalIn (d + n) t (wrapV P t xs) (wrapV P t ys)).run P w = .ok (eqList xs ys) w
  | 0, _, _, h => by simp [flatK] at h
  | n + 1, t, l, h => by
    intro xs ys hx hy d w
    unfold flatK at h
    have one : ∀ {k : TD}, l = [k] → ∃ x y, xs = [x] ∧ ys = [y] := fun {k} e => by
      subst e
      have h1 := kindsB_length hx
      have h2 := kindsB_length hy
      obtain ⟨x, rfl⟩ := List.length_eq_one_iff.1 h1
      obtain ⟨y, rfl⟩ := List.length_eq_one_iff.1 h2
      exact ⟨x, y, rfl, rfl⟩
    split at h
    · rename_i k hd
      cases h
      obtain ⟨x, y, rfl, rfl⟩ := one rfl
      cases x <;> simp only [kindsB, Bool.and_eq_true, Bool.false_eq_true] at hx
      cases y <;> simp only [kindsB, Bool.and_eq_true, Bool.false_eq_true] at hy
      obtain rfl := kindB_eq hx.1
      obtain rfl := kindB_eq hy.1
      simp only [wrapV, hd]
      rw [show d + (n + 1) = (d + n) + 1 by omega, run_equalIn_int w (d + n) t _ _ _ _ hd]
      simp [eqList]; rfl
    · rename_i hd
      cases h
      obtain ⟨x, y, rfl, rfl⟩ := one rfl
      cases x <;> simp only [kindsB, Bool.and_eq_true, Bool.false_eq_true] at hx
      cases y <;> simp only [kindsB, Bool.and_eq_true, Bool.false_eq_true] at hy
      simp only [wrapV, hd]
      rw [show d + (n + 1) = (d + n) + 1 by omega, run_equalIn_bool' w (d + n) t _ _ hd]
      simp [eqList]
    · rename_i hd
      cases h
      obtain ⟨x, y, rfl, rfl⟩ := one rfl
      cases x <;> simp only [kindsB, Bool.and_eq_true, Bool.false_eq_true] at hx
      cases y <;> simp only [kindsB, Bool.and_eq_true, Bool.false_eq_true] at hy
      simp only [wrapV, hd]
      rw [show d + (n + 1) = (d + n) + 1 by omega, run_equalIn_string w (d + n) t _ _ hd]
      simp [eqList]
    · rename_i fs hd
      split at h
      · cases h
      · rename_i hst
        have hf : P.fieldsOf t = fs := by simp [Program.fieldsOf, hd]
        simp only [wrapV, hd]
        rw [show d + (n + 1) = (d + n) + 1 by omega, run_equalIn_struct w (d + n) t _ _ (by rw [hf]; exact hd) (by simpa using hst), hf]
        have key : ∀ (gs : List Field) (off : Nat) (r : List TD), flatFs P (flatK P n) off gs = some r → kindsB r (xs.drop off) = true → kindsB r (ys.drop off) = true →
            (Op.eqFields (d + n) xs.toArray ys.toArray gs).run P w = .ok (eqList (xs.drop off) (ys.drop off)) w := by
          intro gs
          induction gs with
          | nil =>
            intro off r hr h1 h2
            simp [flatFs] at hr; subst hr
            have e1 := List.eq_nil_of_length_eq_zero (kindsB_length h1)
            have e2 := List.eq_nil_of_length_eq_zero (kindsB_length h2)
            rw [e1, e2]; simp [Op.eqFields, eqList]
          | cons f gs ih =>
            intro off r hr h1 h2
            unfold flatFs at hr
            split at hr
            · cases hr
            · rename_i hnm
              split at hr
              · cases hr
              · rename_i hoff
                simp at hoff
                split at hr
                · rename_i l' i' hl' hi'
                  split at hr
                  · cases hr
                  · rename_i hsz
                    simp at hsz
                    split at hr
                    · rename_i r' hr'
                      cases hr
                      obtain ⟨a1, a2⟩ := kindsB_append h1
                      obtain ⟨b1, b2⟩ := kindsB_append h2
                      rw [List.drop_drop] at a2 b2
                      have p1 := part_wrap hl' hi' hsz a1 w
                      have p2 := part_wrap hl' hi' hsz b1 w
                      have q := equalIn_flat n f.type l' hl' _ _ a1 b1 d w
                      have i2 := ih (off + l'.length) r' hr' a2 b2
                      have e3 : eqList (xs.drop off) (ys.drop off) = (eqList ((xs.drop off).take l'.length) ((ys.drop off).take l'.length) && eqList (xs.drop (off + l'.length)) (ys.drop (off + l'.length))) := by
                        rw [← eqList_append a1 b1, ← List.drop_drop, ← List.drop_drop, List.take_append_drop, List.take_append_drop]
                      rw [e3]
                      simp only [Op.eqFields, ne_eq, hnm, not_false_eq_true, if_true, Sem.run_bind, hoff, p1, p2, Result.andThen_ok, q]
                      cases hq : eqList ((xs.drop off).take l'.length) ((ys.drop off).take l'.length)
                      · simp
                      · simpa using i2
                    · cases hr
                · cases hr
        have := key fs.toList 0 l h (by simpa using hx) (by simpa using hy)
        simpa using this
    · rename_i m e hd
      split at h
      · rename_i l' i' hl' hi'
        split at h
        · cases h
        · rename_i hsz
          simp at hsz
          cases h
          simp only [wrapV, hd]
          rw [show d + (n + 1) = (d + n) + 1 by omega, run_equalIn_array w (d + n) (e := e) (n := m) _ _ hd hi']
          have hc : P.cellsOf e = l'.length := by simp [Program.cellsOf, hi', hsz]
          rw [hc]
          have key : ∀ (k i : Nat), kindsB (List.replicate k l').flatten (xs.drop (i * l'.length)) = true → kindsB (List.replicate k l').flatten (ys.drop (i * l'.length)) = true →
              (Op.eqItems (d + n) e l'.length xs.toArray ys.toArray (List.range' i k)).run P w = .ok (eqList (xs.drop (i * l'.length)) (ys.drop (i * l'.length))) w := by
            intro k
            induction k with
            | zero =>
              intro i h1 h2
              have e1 := List.eq_nil_of_length_eq_zero (kindsB_length h1)
              have e2 := List.eq_nil_of_length_eq_zero (kindsB_length h2)
              rw [e1, e2]; simp [Op.eqItems, eqList]
            | succ k ih =>
              intro i h1 h2
              rw [List.replicate_succ, List.flatten_cons] at h1 h2
              obtain ⟨a1, a2⟩ := kindsB_append h1
              obtain ⟨b1, b2⟩ := kindsB_append h2
              rw [List.drop_drop] at a2 b2
              have e0 : i * l'.length + l'.length = (i + 1) * l'.length := by rw [Nat.add_mul]; omega
              rw [e0] at a2 b2
              have p1 := part_wrap hl' hi' hsz a1 w
              have p2 := part_wrap hl' hi' hsz b1 w
              have q := equalIn_flat n e l' hl' _ _ a1 b1 d w
              have i2 := ih (i + 1) a2 b2
              have e3 : eqList (xs.drop (i * l'.length)) (ys.drop (i * l'.length)) = (eqList ((xs.drop (i * l'.length)).take l'.length) ((ys.drop (i * l'.length)).take l'.length) && eqList (xs.drop ((i + 1) * l'.length)) (ys.drop ((i + 1) * l'.length))) := by
                rw [← eqList_append a1 b1, ← e0, ← List.drop_drop, ← List.drop_drop, List.take_append_drop, List.take_append_drop]
              rw [e3, List.range'_succ]
              simp only [Op.eqItems, Sem.run_bind, p1, p2, Result.andThen_ok, q]
              cases hq : eqList ((xs.drop (i * l'.length)).take l'.length) ((ys.drop (i * l'.length)).take l'.length)
              · simp
              · simpa using i2
          have := key m 0 (by simpa using hx) (by simpa using hy)
          simpa [List.range_eq_range'] using this
      · cases h
    · cases h
def eqListF : List Value → List Value → (Bool → Prop) → Prop
  | [], [], K => K true
  | .int _ a :: xs, .int _ b :: ys, K => eqListF xs ys fun r => K (decide (a = b) && r)
  | .bool a :: xs, .bool b :: ys, K => eqListF xs ys fun r => K ((a == b) && r)
  | .string a :: xs, .string b :: ys, K => eqListF xs ys fun r => K ((a.toList == b.toList) && r)
  | _, _, _ => False
theorem eqListF_eq : ∀ {xs ys : List Value} {K : Bool → Prop}, eqListF xs ys K → K (eqList xs ys) := by
  intro xs
  induction xs with
  | nil => intro ys K h; cases ys with
    | nil => exact h
    | cons => exact h.elim
  | cons x xs ih =>
    intro ys K h
    cases ys with
    | nil => cases x <;> exact h.elim
    | cons y ys =>
      cases x <;> cases y <;> first | exact h.elim | exact ih h
theorem EqP_agg {P : Program} {t : TypeId} {x y : Operand} {l m : List AV} {K : Bool → Prop} {ks : List TD} (hf : flatK P 8 t = some ks) (hg : P.eqGuardType P.depth t = false) (ha : wrapV P t [] = .agg #[])
    (h : plainF l fun xs => plainF m fun ys => testP (kindsB ks xs) (testP (kindsB ks ys) (eqListF xs ys K))) : EqP P t x y (.agg l) (.agg m) K := by
  obtain ⟨xs, rfl, h1⟩ := plainF_eq _ _ h
  obtain ⟨ys, rfl, h2⟩ := plainF_eq _ _ h1
  obtain ⟨k1, h3⟩ := testP_eq h2
  obtain ⟨k2, h4⟩ := testP_eq h3
  refine ⟨eqList xs ys, fun β u v w hu hv => ?_, eqListF_eq h4⟩
  simp only [AV.rel] at hu hv
  obtain ⟨cs, rfl, hcs⟩ := hu
  obtain ⟨ds, rfl, hds⟩ := hv
  have e1 : cs = xs.toArray := by rw [← rels_plain hcs]
  have e2 : ds = ys.toArray := by rw [← rels_plain hds]
  subst e1; subst e2
  have hw : ∀ zs : List Value, wrapV P t zs = .agg zs.toArray := fun zs => by
    unfold wrapV at ha ⊢
    split at ha <;> simp_all
    · cases ha
  have q := equalIn_flat 8 t ks hf xs ys k1 k2 9992 w
  rw [hw, hw] at q
  refine ⟨run_eqGuard_agg w .eql t x y _ _ hg, run_eqGuard_agg w .neq t x y _ _ hg, ?_, ?_⟩
  · rw [run_eql_struct, q]; rfl
  · rw [run_neq_struct, q]; rfl
theorem EqP_bool {P : Program} {t : TypeId} {x y : Operand} {a b : Bool} {K : Bool → Prop} (ht : P.underlying t = some .bool) (h : K (a == b)) : EqP P t x y (.val (.bool a)) (.val (.bool b)) K := by
  refine ⟨a == b, fun β u v w hu hv => ?_, h⟩
  simp only [AV.rel] at hu hv
  subst hu; subst hv
  have q := run_equalIn_bool' (P := P) w 9999 t a b ht
  refine ⟨by simp [eqGuard], by simp [eqGuard], ?_, ?_⟩
  · simp [binOp, Op.equal, Op.maxDepth, q]
  · simp [binOp, Op.equal, Op.maxDepth, q]
end Go.Proofs.Ytampdegpfndggaa
