/-
  Merged: XHead, XCompose.
-/
import Derived.Test.YtampdegpfndggaaMrg10
import Derived.Test.YtampdegpfndggaaMrg8
import Derived.Test.YtampdegpfndggaaMrg9
namespace Go.Proofs.Ytampdegpfndggaa
open Go.RowKit

def headB (ops : List Oper) (N : Nat) : Bool :=
  Region.noSelect ops.toArray && decide (N < ops.length) && Region.sinkB .any ops.toArray N && Region.chainB .any ops.toArray N && lexHeadE .any ops.toArray (Region.seqB .any ops.toArray (ops.length - N) N) N 0 (Array.replicate ops.length false) &&
    distinctDst (ops.take N)
theorem wp_region_head {P : Program} {id : Nat} {Q : Exit → Act → World → Prop} {a : Act} {w : World} {l : List Oper} (N : Nat) (A : Act) (hm : P.follows .mixedOrders = true) (hB : headB l N = true)
    (hlen : dstIn a.tmps.size (l.take N) = true)
    (h : ∀ F : Fam w.drew, wpQuiet P l.toArray (fun w' => ∃ x, w' = F.f x) (fun a' => a' = A) (l.take N) a)
    (hend : ∀ w', Below w.heap.size w w' → wpList P l.toArray Q (l.drop N) A w') :
    (Code.region id l.toArray true).wp P Q a w := by
  simp only [headB, Bool.and_eq_true, decide_eq_true_eq] at hB
  obtain ⟨⟨⟨⟨⟨hsel, hn⟩, hs⟩, hc⟩, hlex⟩, hdd⟩ := hB
  have htl : (l.take N).length = N := by simp; omega
  have hH := wpHead_of (P := P) (ops := l.toArray) (w0 := w.drew) hdd hlen ⟨famOf (Below.refl _ _)⟩ h
  have inv0 : HeadInv .any l.toArray N (Array.replicate l.length false) :=
    ⟨by simp, fun j oj _ hl => (by rw [getD_replicate_false] at hl; cases hl), fun t _ ht => getD_in (by simpa using ht) (getD_replicate_false _ _)⟩
  have G := gAny_lex4 (P := P) (md := .any) (w0 := w.drew) (mk := fun _ => none) (N := N) (n := N) (m := 0) (E := Region.seqB .any l.toArray (l.length - N) N) (Lq := fun a' => a' = A)
    (L := fun listed a' => Region.seqB .any l.toArray (l.length - N) N listed = true ∧ a' = A) hsel hs hc (by simpa using hn) (Nat.le_refl _) (fun _ _ => rfl)
    (fun listed a' _ hq he => ⟨he, hq⟩) (fun listed a' hL => seqB_ready hL.1) (l.take N) 0 (Array.replicate l.length false) a (fun j hj => by
      have hj' : j < N := by rw [htl] at hj; exact hj
      simp [hj']) (by simpa using htl) inv0 (by rw [htl]; exact hlex) hH
  refine wp_region_any hm ?_
  have hfin := wpAny_of_game4 (P := P) (md := .any) (w0 := w.drew) (mk := fun _ => none) (n := N) (g := l.length - N) (Q' := Q) (fun i R h => by cases h) (fun i R h => by cases h) (fun j R oj d h => by cases h)
    (fun listed a' w' hL ht => by
      obtain ⟨hsq, rfl⟩ := hL
      have := wpAny_of_seq (P := P) (ops := l.toArray) (md := .any) (Q' := Q) (l.drop N) N listed a' w' (fun j => by simp [List.getElem?_drop]) (by
        rw [List.length_drop]; exact hsq) (hend w' ⟨ht.below.os, ht.below.tape, ht.below.output, ht.below.size, ht.below.block⟩)
      rw [List.length_drop] at this
      exact this)
    _ _ _ _ ⟨Below.refl _ _, (fun i R h => by cases h), (fun i R o d h => by cases h)⟩ G
  rw [htl, Nat.add_zero, show N + (l.length - N) = l.length by omega] at hfin
  simpa using hfin
theorem size_drewN (w : World) (n : Nat) : (w.drewN n).heap.size = w.heap.size := rfl
/-- A callee that only draws, in a family of worlds. -/
theorem fam_draws {P : Program} {f : FuncId} {args : Array Value} {w0 : World} {F : Fam w0} {x : F.X} {v : Value}
    (h : Calls P f args (F.f x) fun e w' => e = .returned v ∧ ∃ n, w' = (F.f x).drewN n) : Calls P f args (F.f x) fun e w'' => e = .returned v ∧ ∃ y, w'' = F.f y :=
  h.mono fun _ w' ⟨he, n, hb⟩ => ⟨he, F.closed x w' (hb ▸ drewN_le (Below.refl _ _) n)⟩
theorem head {P : Program} {id : Nat} {Q : Exit → Act → World → Prop} {a : Act} {w : World} {l : List Oper} (N : Nat) (hm : P.follows .mixedOrders = true) (hB : headB l N = true)
    (hlen : dstIn a.tmps.size (l.take N) = true)
    (h : ∃ A : Act, (∀ F : Fam w.drew, wpQuiet P l.toArray (fun w' => ∃ x, w' = F.f x) (fun a' => a' = A) (l.take N) a) ∧ ∀ w', Below w.heap.size w w' → wpList P l.toArray Q (l.drop N) A w') :
    (Code.region id l.toArray true).wp P Q a w := by
  obtain ⟨A, h1, h2⟩ := h
  exact wp_region_head N A hm hB hlen h1 h2
end Go.Proofs.Ytampdegpfndggaa

namespace Go.Proofs.Ytampdegpfndggaa
open Go.RowKit

def zer8 (I : Nat → Int) : Bool := (List.range 8).all fun i => I i == 0
theorem zer8_yes {I : Nat → Int} (h : zer8 I = true) : I 0 = 0 ∧ I 1 = 0 ∧ I 2 = 0 ∧ I 3 = 0 ∧ I 4 = 0 ∧ I 5 = 0 ∧ I 6 = 0 ∧ I 7 = 0 := by
  simpa [zer8, List.range, List.range.loop] using h
theorem zer8_no {I : Nat → Int} (h : zer8 I = false) : (I 0 == 0) = false ∨ (I 0 = 0 ∧ (I 1 == 0) = false) ∨ (I 0 = 0 ∧ I 1 = 0 ∧ (I 2 == 0) = false) ∨ (I 0 = 0 ∧ I 1 = 0 ∧ I 2 = 0 ∧ (I 3 == 0) = false) ∨ (I 0 = 0 ∧ I 1 = 0 ∧ I 2 = 0 ∧ I 3 = 0 ∧ (I 4 == 0) = false) ∨
    (I 0 = 0 ∧ I 1 = 0 ∧ I 2 = 0 ∧ I 3 = 0 ∧ I 4 = 0 ∧ (I 5 == 0) = false) ∨ (I 0 = 0 ∧ I 1 = 0 ∧ I 2 = 0 ∧ I 3 = 0 ∧ I 4 = 0 ∧ I 5 = 0 ∧ (I 6 == 0) = false) ∨ (I 0 = 0 ∧ I 1 = 0 ∧ I 2 = 0 ∧ I 3 = 0 ∧ I 4 = 0 ∧ I 5 = 0 ∧ I 6 = 0 ∧ (I 7 == 0) = false) := by
  simp [zer8, List.range, List.range.loop] at h
  simp only [beq_eq_false_iff_ne, ne_eq]
  refine (Classical.em (I 0 = 0)).elim (fun h0 => .inr ?_) .inl
  refine (Classical.em (I 1 = 0)).elim (fun h1 => .inr ?_) (fun h => .inl ⟨h0, h⟩)
  refine (Classical.em (I 2 = 0)).elim (fun h2 => .inr ?_) (fun h => .inl ⟨h0, h1, h⟩)
  refine (Classical.em (I 3 = 0)).elim (fun h3 => .inr ?_) (fun h => .inl ⟨h0, h1, h2, h⟩)
  refine (Classical.em (I 4 = 0)).elim (fun h4 => .inr ?_) (fun h => .inl ⟨h0, h1, h2, h3, h⟩)
  refine (Classical.em (I 5 = 0)).elim (fun h5 => .inr ?_) (fun h => .inl ⟨h0, h1, h2, h3, h4, h⟩)
  refine (Classical.em (I 6 = 0)).elim (fun h6 => .inr ?_) (fun h => .inl ⟨h0, h1, h2, h3, h4, h5, h⟩)
  exact ⟨h0, h1, h2, h3, h4, h5, h6, fun h7 => h h0 h1 h2 h3 h4 h5 h6 h7⟩
/-- The inks of a state: its cells behind the first. -/
def inksOf (S : Nat → Int) (i : Nat) : Int := S (i + 1)
def stE (S : Nat → Int) : Int := if S 0 = 0 ∧ zer8 (inksOf S) = false then 4 else 0
set_option maxRecDepth 20000 in
theorem composeCheck_any (S : Nat → Int) (w : World) :
    Calls Try.prog 21 #[.agg #[.int .u8 (S 0), .int .u8 (S 1), .int .u8 (S 2), .int .u8 (S 3), .int .u8 (S 4), .int .u8 (S 5), .int .u8 (S 6), .int .u8 (S 7), .int .u8 (S 8)]] w fun e w' => e = .returned (.int .i64 (stE S)) ∧ w.alloc (.cells #[Value.int .u8 (S 0), .int .u8 (S 1), .int .u8 (S 2), .int .u8 (S 3), .int .u8 (S 4), .int .u8 (S 5), .int .u8 (S 6), .int .u8 (S 7), .int .u8 (S 8)] 31) = w' := by
  by_cases h0 : S 0 = 0
  · cases hz : zer8 (inksOf S) with
    | true =>
      have H : Hid (stE S = 0) := by show stE S = 0; simp [stE, hz]
      obtain ⟨h1, h2, h3, h4, h5, h6, h7, h8⟩ := zer8_yes hz
      simp only [inksOf] at h1 h2 h3 h4 h5 h6 h7 h8
      clear hz
      go_enter Try.func21, Try.ntmps21
      go_wp2_with fail
      go_ret
      exact ⟨ret_int H.out.symm, by simp [h0, h1, h2, h3, h4, h5, h6, h7, h8]⟩
    | false =>
      have H : Hid (stE S = 4) := by show stE S = 4; simp [stE, hz, h0]
      have hn := zer8_no hz
      simp only [inksOf] at hn
      clear hz
      rcases hn with h1 | ⟨h1, h2⟩ | ⟨h1, h2, h3⟩ | ⟨h1, h2, h3, h4⟩ | ⟨h1, h2, h3, h4, h5⟩ | ⟨h1, h2, h3, h4, h5, h6⟩ | ⟨h1, h2, h3, h4, h5, h6, h7⟩ | ⟨h1, h2, h3, h4, h5, h6, h7, h8⟩
      all_goals
        go_enter Try.func21, Try.ntmps21
        go_wp2_with fail
        go_ret
        exact ⟨ret_int H.out.symm, by simp [*]⟩
  · have H : Hid (stE S = 0) := by show stE S = 0; simp [stE, h0]
    go_enter Try.func21, Try.ntmps21
    go_wp2_with fail
    go_ret
    exact ⟨ret_int H.out.symm, rfl⟩
set_option maxRecDepth 20000 in
theorem state_any (S : Nat → Int) (w : World) :
    Calls Try.prog 20 #[.agg #[.int .u8 (S 0), .int .u8 (S 1), .int .u8 (S 2), .int .u8 (S 3), .int .u8 (S 4), .int .u8 (S 5), .int .u8 (S 6), .int .u8 (S 7), .int .u8 (S 8)]] w fun e w' => e = .returned (.int .i64 (stE S)) ∧ w.alloc (.cells #[Value.int .u8 (S 0), .int .u8 (S 1), .int .u8 (S 2), .int .u8 (S 3), .int .u8 (S 4), .int .u8 (S 5), .int .u8 (S 6), .int .u8 (S 7), .int .u8 (S 8)] 31) = w' := by
  by_cases h0 : S 0 = 0
  · cases hz : zer8 (inksOf S) with
    | true =>
      have H : Hid (stE S = 0) := by show stE S = 0; simp [stE, hz]
      obtain ⟨h1, h2, h3, h4, h5, h6, h7, h8⟩ := zer8_yes hz
      simp only [inksOf] at h1 h2 h3 h4 h5 h6 h7 h8
      clear hz
      go_enter Try.func20, Try.ntmps20
      go_wp2_with fail
      go_ret
      exact ⟨ret_int H.out.symm, by simp [h0, h1, h2, h3, h4, h5, h6, h7, h8]⟩
    | false =>
      have H : Hid (stE S = 4) := by show stE S = 4; simp [stE, hz, h0]
      have hn := zer8_no hz
      simp only [inksOf] at hn
      clear hz
      rcases hn with h1 | ⟨h1, h2⟩ | ⟨h1, h2, h3⟩ | ⟨h1, h2, h3, h4⟩ | ⟨h1, h2, h3, h4, h5⟩ | ⟨h1, h2, h3, h4, h5, h6⟩ | ⟨h1, h2, h3, h4, h5, h6, h7⟩ | ⟨h1, h2, h3, h4, h5, h6, h7, h8⟩
      all_goals
        go_enter Try.func20, Try.ntmps20
        go_wp2_with fail
        go_ret
        exact ⟨ret_int H.out.symm, by simp [*]⟩
  · have H : Hid (stE S = 0) := by show stE S = 0; simp [stE, h0]
    go_enter Try.func20, Try.ntmps20
    go_wp2_with fail
    go_ret
    exact ⟨ret_int H.out.symm, rfl⟩
end Go.Proofs.Ytampdegpfndggaa
