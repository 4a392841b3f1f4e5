/-
  The engine: rows of the call's own that were cut short; heaps brought into form behind a call. No program in sight.
-/
import Derived.Test.YtbkhpddodmbdoaaArg
import Derived.Test.YtbkhpddodmbdoaaGm
namespace Go.Proofs.Ytbkhpddodmbdoaa
open Go.RowKit
set_option linter.unusedVariables false
set_option linter.unusedSimpArgs false
theorem hpLe_muts {n : Nat} {S S' : Nat → Prop} {l m : List Blk} (hS : ∀ b, S' b → S b) (h : hpLe n l m) : hpLe n (.muts S :: l) (.muts S' :: m) := ⟨hS, h⟩
/-- A value and a heap behind a call are brought into form. -/
theorem CallP_norm {P : Program} {f : FuncId} {args : List AV} {hp : List Blk} {G : Mem} {K : AV → List Blk → Mem → Prop} {n0 : Nat} (hn : hp.length = n0)
    (h : CallP P f args hp G fun v hp' G' => ∃ v1 hp1 G1, Le n0 [v] hp' G' [v1] hp1 G1 ∧ K v1 hp1 G1) : CallP P f args hp G K := by
  subst hn
  refine ⟨h.enters, fun w0 G0 β w vs hr ha => (h.calls w0 G0 β w vs hr ha).mono ?_⟩
  rintro e w' ⟨y, β', v, hp', G', rfl, h1, h2, h3, v1, hp1, G1, hle, hK⟩
  obtain ⟨β'', g1, g2, g3⟩ := hle.out w0 G0 β β' w' [y] (Nm.below_of hr) h1 h2 (by simp only [AV.rels]; exact ⟨y, [], rfl, h3, rfl⟩)
  simp only [AV.rels] at g3
  obtain ⟨z, zs, g4, g5, g6⟩ := g3
  cases g4
  exact ⟨y, β'', v1, hp1, G1, rfl, g1, g2, g5, hK⟩
theorem Le_ownvw {n0 q : Nat} {hp hp' : List Blk} {G G' : Mem} {fr' : List AV} {E : TypeId} {sz n : Nat} {xs : List Value} (hq : nthB hp q = .own E sz n xs) (h : Le n0 [.vw q 0 n] hp G fr' hp' G') : Le n0 [.own q] hp G fr' hp' G' := by
  refine ⟨fun w0 G0 β0 β w ys h0 h1 hr hf => h.out w0 G0 β0 β w ys h0 h1 hr ?_⟩
  simp only [AV.rels, AV.rel] at hf ⊢
  obtain ⟨y, zs, rfl, ⟨hy, _⟩, rfl⟩ := hf
  refine ⟨y, [], rfl, ?_, rfl⟩
  obtain ⟨x, hx1, hx2⟩ := hr.blk q y hy
  rw [nthB_live hq rfl] at hx1; cases hx1
  rcases hx2.1.2 with ⟨rfl, rfl⟩ | ⟨g, cap, cur, rfl, _, _, h8, _⟩
  · exact ⟨none, 0, rfl, Nat.le_refl _, ⟨fun _ => rfl, fun _ => ⟨0, hy⟩⟩, fun h => by omega⟩
  · exact ⟨_, cap, rfl, h8, ⟨(fun h => by cases h), fun _ => ⟨n, hy⟩⟩, fun _ => ⟨_, g, hy, rfl, rfl⟩⟩
/-- A row takes a new name, cut short or not. -/
theorem HR.trim {w0 : World} {G0 : Mem} {β : Nm} {hp : List Blk} {G : Mem} {w : World} (hr : HR w0 G0 β hp G w) {k N n m c : Nat} {E : TypeId} {sz : Nat} {xs : List Value} {A : Option Addr} (hk : nthB hp k = .own E sz N xs) (hβ : β k = some (.slice A m c)) (hn : n ≤ N) :
    HR w0 G0 (β.put hp.length (.slice A n c)) (hp.set k .gone ++ [.own E sz n (xs.take (n * sz))]) G w := by
  have hkx := nthB_live hk rfl
  obtain ⟨x1, hx1, hx2⟩ := hr.blk k _ hβ
  rw [hkx] at hx1; cases hx1
  obtain rfl := ownsRow_len hx2.1
  have eb : blkOf (.slice A n c) = blkOf (.slice A m c) := by cases A <;> rfl
  refine hr.moveName hβ hkx rfl (w' := w) ⟨rfl, rfl, rfl, Nat.le_refl _, fun _ _ _ => rfl⟩ (fun b hb => .inr (by rw [← eb]; exact hb)) rfl ⟨ownsRow_trim hx2.1 hn, fun g hg => hx2.2 g (by rw [← eb]; exact hg)⟩
theorem CallP_trim {P : Program} {f : FuncId} (hen : ∀ vs w, (callFunc f vs).run P w = .ok (.enter f vs) w) {k n N : Nat} {post : List AV} {hp : List Blk} {G : Mem} {K : AV → List Blk → Mem → Prop} {E : TypeId} {sz : Nat} {xs : List Value} (hk : nthB hp k = .own E sz N xs) (hn : n ≤ N)
    (h : setF hp k .gone fun hp1 => lenF hp1 fun q => catF hp1 [.own E sz n (xs.take (n * sz))] fun hp' => CallP P f (.own q :: post) hp' G K) : CallP P f (.vw k 0 n :: post) hp G K := by
  rw [setF_eq] at h
  have h0 := lenF_eq h
  rw [catF_eq] at h0
  have hlen : (hp.set k .gone).length = hp.length := by simp
  rw [hlen] at h0
  refine ⟨hen, fun w0 G0 β w vs hr ha => ?_⟩
  simp only [AV.rels, AV.rel] at ha
  obtain ⟨y, ts, hvs, ⟨A, c, rfl, hnc, ⟨_, hd⟩, _⟩, hts⟩ := ha
  obtain ⟨m, hβ⟩ := hd trivial
  have hle := Nm.le_put (.slice A n c) (hr.fresh (Nat.le_refl hp.length))
  refine (h0.calls w0 G0 _ w vs (hr.trim hk hβ hn) ?_).mono ?_
  · simp only [AV.rels, AV.rel]
    exact ⟨_, ts, hvs, ⟨Nm.put_same _ _ _, rfl⟩, AV.rels_mono hle _ _ hts⟩
  · rintro e w' ⟨y, β', v, hp', G', h1, h2, h3⟩
    exact ⟨y, β', v, hp', G', h1, Nm.le_trans hle h2, h3⟩
theorem CallP_fresh {P : Program} {f : FuncId} (hen : ∀ vs w, (callFunc f vs).run P w = .ok (.enter f vs) w) {k N : Nat} {post : List AV} {hp : List Blk} {G : Mem} {K : AV → List Blk → Mem → Prop} {E : TypeId} {sz : Nat} {xs : List Value} (hk : nthB hp k = .own E sz N xs)
    (h : setF hp k .gone fun hp1 => lenF hp1 fun q => catF hp1 [.own E sz N xs] fun hp' => CallP P f (.own q :: post) hp' G K) : CallP P f (.own k :: post) hp G K := by
  rw [setF_eq] at h
  have h0 := lenF_eq h
  rw [catF_eq] at h0
  have hlen : (hp.set k .gone).length = hp.length := by simp
  rw [hlen] at h0
  refine ⟨hen, fun w0 G0 β w vs hr ha => ?_⟩
  simp only [AV.rels, AV.rel] at ha
  obtain ⟨y, ts, hvs, ⟨hy, hsl⟩, hts⟩ := ha
  obtain ⟨A, m, c, rfl⟩ : ∃ A m c, y = .slice A m c := by cases y <;> first | exact ⟨_, _, _, rfl⟩ | cases hsl
  obtain ⟨x, hx1, hx2⟩ := hr.blk k _ hy
  rw [nthB_live hk rfl] at hx1; cases hx1
  obtain rfl := ownsRow_len hx2.1
  have hle := Nm.le_put (.slice A m c) (hr.fresh (Nat.le_refl hp.length))
  have ht := hr.trim hk hy (Nat.le_refl _)
  have hxs : xs.take (m * sz) = xs := List.take_of_length_le (by rw [hx2.1.1]; exact Nat.le_refl _)
  rw [hxs] at ht
  refine (h0.calls w0 G0 _ w vs ht ?_).mono ?_
  · simp only [AV.rels, AV.rel]
    exact ⟨_, ts, hvs, ⟨Nm.put_same _ _ _, rfl⟩, AV.rels_mono hle _ _ hts⟩
  · rintro e w' ⟨y, β', v, hp', G', h1, h2, h3⟩
    exact ⟨y, β', v, hp', G', h1, Nm.le_trans hle h2, h3⟩
section
variable {α : Type} {enc : α → List Value} {k : Nat}
/-- One element of a row is written. -/
theorem fm_set (hk : ∀ x, (enc x).length = k) : ∀ (l : List α) (i : Nat) (x : α), i < l.length → (l.flatMap enc).take (i * k) ++ enc x ++ (l.flatMap enc).drop (i * k + k) = (l.set i x).flatMap enc
  | [], i, x, h => by simp at h
  | a :: l, 0, x, _ => by
    simp only [List.flatMap_cons, Nat.zero_mul, List.take_zero, List.nil_append, Nat.zero_add, List.set_cons_zero]
    rw [List.drop_left' (hk a)]
  | a :: l, i + 1, x, h => by
    have e : (i + 1) * k = k + i * k := by rw [Nat.add_mul]; omega
    simp only [List.flatMap_cons, List.set_cons_succ]
    rw [e, Nat.add_assoc, ← hk a, List.take_length_add_append, List.drop_length_add_append, hk a]
    have := fm_set hk l i x (by simpa using h)
    rw [← this]; simp [List.append_assoc]
theorem fm_take (hk : ∀ x, (enc x).length = k) : ∀ (l : List α) (i : Nat), (l.flatMap enc).take (i * k) = (l.take i).flatMap enc
  | l, 0 => by simp
  | [], i + 1 => by simp
  | a :: l, i + 1 => by
    have e : (i + 1) * k = k + i * k := by rw [Nat.add_mul]; omega
    simp only [List.flatMap_cons, List.take_succ_cons]
    rw [e, ← hk a, List.take_length_add_append, hk a, fm_take hk l i]
theorem fm_drop (hk : ∀ x, (enc x).length = k) : ∀ (l : List α) (i : Nat), (l.flatMap enc).drop (i * k) = (l.drop i).flatMap enc
  | l, 0 => by simp
  | [], i + 1 => by simp
  | a :: l, i + 1 => by
    have e : (i + 1) * k = k + i * k := by rw [Nat.add_mul]; omega
    simp only [List.flatMap_cons, List.drop_succ_cons]
    rw [e, ← hk a, List.drop_length_add_append, hk a, fm_drop hk l i]
end
end Go.Proofs.Ytbkhpddodmbdoaa
