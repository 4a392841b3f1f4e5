/-
  Points in memory: how they are laid, and the reference's comparison.
-/
import Derived.Test.YtpgjbfbdappniaaTab
import Derived.Test.YtpgjbfbdappniaaEz
import Derived.Test.YtpgjbfbdappniaaEw
import Derived.Test.YtpgjbfbdappniaaCoord
namespace Go.Proofs.Ytpgjbfbdappniaa
open Go.RowKit
set_option linter.unusedVariables false
set_option maxRecDepth 20000
abbrev ptA (x y : Int) : AV := .agg [.val (.int .i64 x), .val (.int .i64 y)]
def flatP (l : List (Int × Int)) : List Value := l.flatMap fun p => [.int .i64 p.1, .int .i64 p.2]
theorem flatP_append (K L : List (Int × Int)) : flatP (K ++ L) = flatP K ++ flatP L := by simp [flatP]
theorem flatP_one (p : Int × Int) : flatP [p] = [.int .i64 p.1, .int .i64 p.2] := by simp [flatP]
theorem flatP_length : ∀ (L : List (Int × Int)), (flatP L).length = L.length * 2
  | [] => rfl
  | r :: L => by
    have := flatP_length L
    show (flatP ([r] ++ L)).length = _
    rw [flatP_append, List.length_append, this, flatP_one]; simp; omega
theorem flatP_get {L : List (Int × Int)} {i : Nat} {r : Int × Int} (h : L[i]? = some r) : (flatP L)[i * 2]? = some (.int .i64 r.1) ∧ (flatP L)[i * 2 + 1]? = some (.int .i64 r.2) := by
  obtain ⟨h1, rfl⟩ := List.getElem?_eq_some_iff.1 h
  have e : L = L.take i ++ ([L[i]] ++ L.drop (i + 1)) := by simp
  have hl : (flatP (L.take i)).length = i * 2 := by rw [flatP_length, List.length_take]; congr 1; omega
  have key : ∀ j, j < 2 → (flatP L)[i * 2 + j]? = [Value.int .i64 L[i].1, .int .i64 L[i].2][j]? := fun j hj => by
    conv => lhs; rw [e, flatP_append, flatP_append, flatP_one]
    rw [List.getElem?_append_right (by omega), hl, show i * 2 + j - i * 2 = j by omega, List.getElem?_append_left (by simp; omega)]
  exact ⟨key 0 (by omega), key 1 (by omega)⟩
def pairP (e : Int) (a : AV) : AV := .tup [a, .val (.int .i64 e)]
theorem pairP_wraps (e : Int) : Wraps (pairP e) := .pair (.val (.int .i64 e)) (fun _ => rfl) rfl
/-- Points in memory. -/
def PtsM (G : Mem) (A : Option Addr) (L : List (Int × Int)) : Prop := ∀ (i : Nat) r, L[i]? = some r → ∃ b off, A = some ⟨b, off, none⟩ ∧ G.cell? ⟨b, off + i * 2, none⟩ = some (.int .i64 r.1) ∧ G.cell? ⟨b, off + i * 2 + 1, none⟩ = some (.int .i64 r.2)
theorem PtsM.mono {G G' : Mem} {A : Option Addr} {L : List (Int × Int)} (h : PtsM G A L) (hle : G.le G') : PtsM G' A L := fun i r hr => by
  obtain ⟨b, off, h1, h2, h3⟩ := h i r hr
  exact ⟨b, off, h1, hle.cell h2, hle.cell h3⟩
theorem PtsM.frozen {G : Mem} {A : Option Addr} {L : List (Int × Int)} (h : flatP L = [] ∨ ∃ b, A = some ⟨b, 0, none⟩ ∧ ∀ (j : Nat) u, (flatP L)[j]? = some u → G.cell? ⟨b, j, none⟩ = some u) : PtsM G A L := fun i r hr => by
  obtain ⟨h1, h2⟩ := flatP_get hr
  rcases h with h | ⟨b, rfl, h⟩
  · rw [h] at h1; simp at h1
  · exact ⟨b, 0, rfl, by rw [Nat.zero_add]; exact h _ _ h1, by rw [Nat.zero_add]; exact h _ _ h2⟩
theorem PtsM.cells {G : Mem} {A : Option Addr} {L : List (Int × Int)} (h : PtsM G A L) {i : Nat} {r : Int × Int} (hi : L[i]? = some r) : ∃ p : Addr, A = some p ∧ ∀ K : List Value → Prop, K [.int .i64 r.1, .int .i64 r.2] → OldCells G (p.add (i * 2)) 2 K := by
  obtain ⟨b, off, rfl, c0, c1⟩ := h i r hi
  refine ⟨_, rfl, fun K k => OldCells_list _ rfl (fun j u hj => ?_) k⟩
  rw [addr_add, addr_add]
  match j, hj with
  | 0, hj => simp at hj; subst hj; exact c0
  | 1, hj => simp at hj; subst hj; exact c1
section
variable {A B : Option Addr} {L : List (Int × Int)} {c d : Nat} {G : Mem}
set_option maxHeartbeats 1000000 in
theorem SamePoints_gives (hA : PtsM G A L) (hB : PtsM G B L) (hl : L.length ≤ 1000000000000) : Gives Try.prog 21 [.val (.slice A L.length c), .val (.slice B L.length d)] G (.val (.bool true)) := by
  refine Gives_of tab_ok Try.func21 ?_
  (repeat ((try (conv => whnf)); (first | (with_reducible refine condP_true ?_) | (with_reducible refine condP_false ?_) | (with_reducible refine condP_not ?_) | (with_reducible refine condP_and ?_) | ((with_reducible refine condP_dt ?_ ?_); (· omega)) | ((with_reducible refine condP_df ?_ ?_); (· omega)) | ((with_reducible refine condP_yes ?_ ?_); (· assumption)) | ((with_reducible refine condP_no ?_ ?_); (· assumption)) | ((with_reducible refine ArP_i64 ?_ ?_); (· omega)) | ((with_reducible refine mustP.mk ?_ ?_); (· first | omega | rfl | (dsimp only; omega))) | (with_reducible refine EqP_nil tab_ok ?_) | (with_reducible refine EqP_sli tab_ok ?_) | (with_reducible refine DrawP_auto tab_ok (by kernel_rfl) (by decide +kernel) ?_) | (with_reducible refine DrawP_auto2 tab_ok (by kernel_rfl) (by decide +kernel) ?_) | (with_reducible refine eq43 ?_) | (with_reducible refine eq55 ?_) | (with_reducible refine eq57 ?_) | (with_reducible refine eq93 ?_) | (with_reducible refine eq101 ?_) | (with_reducible refine eq116 ?_) | (with_reducible refine eq119 ?_))))
  conv => whnf
  refine LoopP_at tab_ok (fun i => i ≤ L.length) (fun (i : Nat) => [(13, .val (.int .i64 i))]) (fun i => []) (fun i => L.length - i) 0 (Nat.zero_le _) ?_ ?_
  · ((refine Le_head ?_); (conv => whnf); (refine Le_mk (by rfl) (by rfl) ?_ ?_); (· (repeat (first | (with_reducible exact frLe_nil) | (with_reducible refine frLe_any ?_) | (with_reducible refine frLe_val ?_) | ((with_reducible refine frLe_eq rfl ?_ ?_); (· rfl)) | ((with_reducible refine frLe_val' (int_eq ?_) ?_ ?_); (· omega); (· rfl)) | ((with_reducible refine frLe_val' (int_eq ?_) ?_ ?_); (· simp only [Int.natCast_add, Int.natCast_one, Int.natCast_ofNat] <;> omega); (· rfl)) | ((with_reducible refine frLe_val' (bool_eq ?_) ?_ ?_); (· first | assumption | (symm; assumption)); (· rfl))))))
    exact hpLe_nil
  · rintro i hi
    rcases Nat.lt_or_ge i L.length with h1 | h1
    · obtain ⟨r, hr⟩ : ∃ r, L[i]? = some r := ⟨L[i], List.getElem?_eq_getElem h1⟩
      obtain ⟨p, rfl, ca⟩ := hA.cells hr
      obtain ⟨q, rfl, cb⟩ := hB.cells hr
      (repeat ((try (conv => whnf)); (first | (with_reducible refine condP_true ?_) | (with_reducible refine condP_false ?_) | (with_reducible refine condP_not ?_) | (with_reducible refine condP_and ?_) | ((with_reducible refine condP_dt ?_ ?_); (· omega)) | ((with_reducible refine condP_df ?_ ?_); (· omega)) | ((with_reducible refine condP_yes ?_ ?_); (· assumption)) | ((with_reducible refine condP_no ?_ ?_); (· assumption)) | ((with_reducible refine ArP_i64 ?_ ?_); (· omega)) | ((with_reducible refine mustP.mk ?_ ?_); (· first | omega | rfl | (dsimp only; omega))) | (with_reducible refine EqP_nil tab_ok ?_) | (with_reducible refine EqP_sli tab_ok ?_) | (with_reducible refine DrawP_auto tab_ok (by kernel_rfl) (by decide +kernel) ?_) | (with_reducible refine DrawP_auto2 tab_ok (by kernel_rfl) (by decide +kernel) ?_) | (with_reducible refine eq43 ?_) | (with_reducible refine eq55 ?_) | (with_reducible refine eq57 ?_) | (with_reducible refine eq93 ?_) | (with_reducible refine eq101 ?_) | (with_reducible refine eq116 ?_) | (with_reducible refine eq119 ?_))))
      conv => whnf
      refine ca _ ?_
      (repeat ((try (conv => whnf)); (first | (with_reducible refine condP_true ?_) | (with_reducible refine condP_false ?_) | (with_reducible refine condP_not ?_) | (with_reducible refine condP_and ?_) | ((with_reducible refine condP_dt ?_ ?_); (· omega)) | ((with_reducible refine condP_df ?_ ?_); (· omega)) | ((with_reducible refine condP_yes ?_ ?_); (· assumption)) | ((with_reducible refine condP_no ?_ ?_); (· assumption)) | ((with_reducible refine ArP_i64 ?_ ?_); (· omega)) | ((with_reducible refine mustP.mk ?_ ?_); (· first | omega | rfl | (dsimp only; omega))) | (with_reducible refine EqP_nil tab_ok ?_) | (with_reducible refine EqP_sli tab_ok ?_) | (with_reducible refine DrawP_auto tab_ok (by kernel_rfl) (by decide +kernel) ?_) | (with_reducible refine DrawP_auto2 tab_ok (by kernel_rfl) (by decide +kernel) ?_) | (with_reducible refine eq43 ?_) | (with_reducible refine eq55 ?_) | (with_reducible refine eq57 ?_) | (with_reducible refine eq93 ?_) | (with_reducible refine eq101 ?_) | (with_reducible refine eq116 ?_) | (with_reducible refine eq119 ?_))))
      conv => whnf
      refine cb _ ?_
      (repeat ((try (conv => whnf)); (first | (with_reducible refine condP_true ?_) | (with_reducible refine condP_false ?_) | (with_reducible refine condP_not ?_) | (with_reducible refine condP_and ?_) | ((with_reducible refine condP_dt ?_ ?_); (· omega)) | ((with_reducible refine condP_df ?_ ?_); (· omega)) | ((with_reducible refine condP_yes ?_ ?_); (· assumption)) | ((with_reducible refine condP_no ?_ ?_); (· assumption)) | ((with_reducible refine ArP_i64 ?_ ?_); (· omega)) | ((with_reducible refine mustP.mk ?_ ?_); (· first | omega | rfl | (dsimp only; omega))) | (with_reducible refine EqP_nil tab_ok ?_) | (with_reducible refine EqP_sli tab_ok ?_) | (with_reducible refine DrawP_auto tab_ok (by kernel_rfl) (by decide +kernel) ?_) | (with_reducible refine DrawP_auto2 tab_ok (by kernel_rfl) (by decide +kernel) ?_) | (with_reducible refine eq43 ?_) | (with_reducible refine eq55 ?_) | (with_reducible refine eq57 ?_) | (with_reducible refine eq93 ?_) | (with_reducible refine eq101 ?_) | (with_reducible refine eq116 ?_) | (with_reducible refine eq119 ?_))))
      refine ⟨i + 1, by omega, by omega, ?_⟩
      ((refine Le_head ?_); (conv => whnf); (refine Le_mk (by rfl) (by rfl) ?_ ?_); (· (repeat (first | (with_reducible exact frLe_nil) | (with_reducible refine frLe_any ?_) | (with_reducible refine frLe_val ?_) | ((with_reducible refine frLe_eq rfl ?_ ?_); (· rfl)) | ((with_reducible refine frLe_val' (int_eq ?_) ?_ ?_); (· omega); (· rfl)) | ((with_reducible refine frLe_val' (int_eq ?_) ?_ ?_); (· simp only [Int.natCast_add, Int.natCast_one, Int.natCast_ofNat] <;> omega); (· rfl)) | ((with_reducible refine frLe_val' (bool_eq ?_) ?_ ?_); (· first | assumption | (symm; assumption)); (· rfl))))))
      exact hpLe_nil
    · (repeat ((try (conv => whnf)); (first | (with_reducible refine condP_true ?_) | (with_reducible refine condP_false ?_) | (with_reducible refine condP_not ?_) | (with_reducible refine condP_and ?_) | ((with_reducible refine condP_dt ?_ ?_); (· omega)) | ((with_reducible refine condP_df ?_ ?_); (· omega)) | ((with_reducible refine condP_yes ?_ ?_); (· assumption)) | ((with_reducible refine condP_no ?_ ?_); (· assumption)) | ((with_reducible refine ArP_i64 ?_ ?_); (· omega)) | ((with_reducible refine mustP.mk ?_ ?_); (· first | omega | rfl | (dsimp only; omega))) | (with_reducible refine EqP_nil tab_ok ?_) | (with_reducible refine EqP_sli tab_ok ?_) | (with_reducible refine DrawP_auto tab_ok (by kernel_rfl) (by decide +kernel) ?_) | (with_reducible refine DrawP_auto2 tab_ok (by kernel_rfl) (by decide +kernel) ?_) | (with_reducible refine eq43 ?_) | (with_reducible refine eq55 ?_) | (with_reducible refine eq57 ?_) | (with_reducible refine eq93 ?_) | (with_reducible refine eq101 ?_) | (with_reducible refine eq116 ?_) | (with_reducible refine eq119 ?_))))
      exact ⟨rfl, rfl⟩
end
section
variable {px py : Int} {G : Mem}
theorem ptB_iff {a b : Int} : ptB a b = true ↔ (-32767 ≤ a ∧ a ≤ 32767) ∧ (-32767 ≤ b ∧ b ≤ 32767) := by
  unfold ptB; rw [Bool.and_eq_true, inB_iff, inB_iff]
theorem RCoord_gives : Gives Try.prog 34 [ptA px py] G (.val (.bool (ptB px py))) := by
  refine Gives_of tab_ok Try.func34 ?_
  cases hp : ptB px py
  · have hn : ¬ ((-32767 ≤ px ∧ px ≤ 32767) ∧ (-32767 ≤ py ∧ py ≤ 32767)) := fun h => by rw [ptB_iff.2 h] at hp; cases hp
    (repeat' ((try (conv => whnf)); (first | (with_reducible refine condP_true ?_) | (with_reducible refine condP_false ?_) | (with_reducible refine condP_not ?_) | (with_reducible refine condP_and ?_) | ((with_reducible refine condP_dt ?_ ?_); (· omega)) | ((with_reducible refine condP_df ?_ ?_); (· omega)) | ((with_reducible refine condP_yes ?_ ?_); (· assumption)) | ((with_reducible refine condP_no ?_ ?_); (· assumption)) | ((with_reducible refine ArP_i64 ?_ ?_); (· omega)) | ((with_reducible refine mustP.mk ?_ ?_); (· first | omega | rfl | (dsimp only; omega))) | (with_reducible refine EqP_nil tab_ok ?_) | (with_reducible refine EqP_sli tab_ok ?_) | (with_reducible refine DrawP_auto tab_ok (by kernel_rfl) (by decide +kernel) ?_) | (with_reducible refine DrawP_auto2 tab_ok (by kernel_rfl) (by decide +kernel) ?_) | (with_reducible refine eq43 ?_) | (with_reducible refine eq55 ?_) | (with_reducible refine eq57 ?_) | (with_reducible refine eq93 ?_) | (with_reducible refine eq101 ?_) | (with_reducible refine eq116 ?_) | (with_reducible refine eq119 ?_) | (with_reducible refine CallP_enter tab_ok Try.func14 (fun vs w => by kernel_rfl) (by rfl) ?_) | (with_reducible refine condP_dec (fun h0 => ?_) (fun h0 => ?_)))))
    all_goals first | exact ⟨rfl, rfl⟩ | ((conv => whnf); first | exact ⟨rfl, rfl⟩ | exact ⟨by rw [decide_eq_false (by omega)], rfl⟩)
  · obtain ⟨h1, h2⟩ := ptB_iff.1 hp
    (repeat ((try (conv => whnf)); (first | (with_reducible refine condP_true ?_) | (with_reducible refine condP_false ?_) | (with_reducible refine condP_not ?_) | (with_reducible refine condP_and ?_) | ((with_reducible refine condP_dt ?_ ?_); (· omega)) | ((with_reducible refine condP_df ?_ ?_); (· omega)) | ((with_reducible refine condP_yes ?_ ?_); (· assumption)) | ((with_reducible refine condP_no ?_ ?_); (· assumption)) | ((with_reducible refine ArP_i64 ?_ ?_); (· omega)) | ((with_reducible refine mustP.mk ?_ ?_); (· first | omega | rfl | (dsimp only; omega))) | (with_reducible refine EqP_nil tab_ok ?_) | (with_reducible refine EqP_sli tab_ok ?_) | (with_reducible refine DrawP_auto tab_ok (by kernel_rfl) (by decide +kernel) ?_) | (with_reducible refine DrawP_auto2 tab_ok (by kernel_rfl) (by decide +kernel) ?_) | (with_reducible refine eq43 ?_) | (with_reducible refine eq55 ?_) | (with_reducible refine eq57 ?_) | (with_reducible refine eq93 ?_) | (with_reducible refine eq101 ?_) | (with_reducible refine eq116 ?_) | (with_reducible refine eq119 ?_) | (with_reducible refine CallP_enter tab_ok Try.func14 (fun vs w => by kernel_rfl) (by rfl) ?_))))
    first | exact ⟨rfl, rfl⟩ | ((conv => whnf); first | exact ⟨rfl, rfl⟩ | exact ⟨by rw [decide_eq_true (by omega)], rfl⟩)
end
end Go.Proofs.Ytpgjbfbdappniaa
