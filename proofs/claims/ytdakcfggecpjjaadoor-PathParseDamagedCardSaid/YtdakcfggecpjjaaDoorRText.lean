/-
  The reference's PathText.
-/
import Derived.Test.YtdakcfggecpjjaaDoorItoa
namespace Go.Proofs.YtdakcfggecpjjaaDoor
open Go.RowKit Go.Lib
set_option linter.unusedVariables false
set_option linter.unusedSimpArgs false
set_option maxRecDepth 20000
theorem mk_size (a : Array UInt8) : (ByteArray.mk a).size = a.size := rfl
theorem add_size (a b : ByteArray) : (a ++ b).size = a.size + b.size := ByteArray.size_append
section
variable {G : Mem} {A : Option Addr} {n c : Nat} {S : Nat → SegD}
set_option maxHeartbeats 8000000 in
theorem RText_gives (h : SegsM G A n S) (ht : pathE S n = 0) :
    Gives Tryd.prog 10 [.val (.slice A n c)] G (.val (.string (bytesS (Lib.join (wordsS S n) [32])))) := by
  have hl : n ≤ 1000 := by
    have := ht
    unfold pathE at this
    split at this <;> omega
  have hsm := fun (i : Nat) (hi : i < n) => path_small ht hi
  refine Gives_of tab_ok Tryd.func10 ?_
  (repeat ((try (conv => whnf)); (first | (with_reducible refine condP_true ?_) | (with_reducible refine condP_false ?_) | (with_reducible refine condP_not ?_) | (with_reducible refine condP_and ?_) | ((with_reducible refine condP_dt ?_ ?_); (· omega)) | ((with_reducible refine condP_df ?_ ?_); (· omega)) | ((with_reducible refine condP_yes ?_ ?_); (· assumption)) | ((with_reducible refine condP_no ?_ ?_); (· assumption)) | ((with_reducible refine ArP_i64 ?_ ?_); (· omega)) | ((with_reducible refine mustP.mk ?_ ?_); (· first | omega | rfl | (dsimp only; omega))) | (with_reducible refine EqP_nil tab_ok ?_) | (with_reducible refine EqP_sli tab_ok ?_) | (with_reducible refine DrawP_auto tab_ok (by kernel_rfl) (by decide +kernel) ?_) | (with_reducible refine DrawP_auto2 tab_ok (by kernel_rfl) (by decide +kernel) ?_) | (with_reducible refine eq45 ?_) | (with_reducible refine eq62 ?_) | (with_reducible refine eq100 ?_))))
  conv => whnf
  refine LoopP_at tab_ok (fun i => i ≤ n) (fun (i : Nat) => [(8, .val (.int .i64 i)), (3, .val (.string (bytesS (Lib.join (wordsS S i) [32]))))]) (fun i => []) (fun i => n - i) 0 (Nat.zero_le _) ?_ ?_
  · ((refine Le_head ?_); (conv => whnf); (refine Le_mk (by rfl) (by rfl) ?_ ?_); (· (repeat (first | (with_reducible exact frLe_nil) | (with_reducible refine frLe_any ?_) | (with_reducible refine frLe_val ?_) | ((with_reducible refine frLe_eq rfl ?_ ?_); (· rfl)) | ((with_reducible refine frLe_val' (int_eq ?_) ?_ ?_); (· omega); (· rfl)) | ((with_reducible refine frLe_val' (int_eq ?_) ?_ ?_); (· simp only [Int.natCast_add, Int.natCast_one, Int.natCast_ofNat] <;> omega); (· rfl)) | ((with_reducible refine frLe_val' (bool_eq ?_) ?_ ?_); (· first | assumption | (symm; assumption)); (· rfl))))))
    exact hpLe_nil
  · rintro i hi
    rcases Nat.lt_or_ge i n with h1 | h1
    · obtain ⟨p, rfl, ca⟩ := h.cells h1
      obtain ⟨⟨s1, s2, s3, s4, s5⟩, k0, k9⟩ := hsm i h1
      have gx := Decimal_gives (G := G) _ (S i).x rfl s1
      have gy := Decimal_gives (G := G) _ (S i).y rfl s2
      have gu := Decimal_gives (G := G) _ (S i).u rfl s3
      have gv := Decimal_gives (G := G) _ (S i).v rfl s4
      have gw := Decimal_gives (G := G) _ (S i).w rfl s5
      have lx := itoa_len s1
      have ly := itoa_len s2
      have lu := itoa_len s3
      have lv := itoa_len s4
      have lw := itoa_len s5
      have hwl := wordsS_len S i
      have hjl := join_len (wordsS_small fun j hj => (hsm j (by omega : j < n)).1) (b := wordsS S i)
      have hnx : Lib.join (wordsS S (i + 1)) [32] = (if i = 0 then [] else Lib.join (wordsS S i) [32] ++ [32]) ++ Lib.join (segW (S i).k (S i).x (S i).y (S i).u (S i).v (S i).w) [32] := by
        rw [wordsS]
        cases i with
        | zero => simp [wordsS]
        | succ j =>
          rw [join_add (wordsS_pos S j), if_neg (by omega), List.append_assoc]
          congr 1
          have hp := (segW_len (S (j + 1)).k (S (j + 1)).x (S (j + 1)).y (S (j + 1)).u (S (j + 1)).v (S (j + 1)).w).1
          generalize segW (S (j + 1)).k (S (j + 1)).x (S (j + 1)).y (S (j + 1)).u (S (j + 1)).v (S (j + 1)).w = q at *
          cases q with
          | nil => simp at hp
          | cons y r => rw [join_cons]; unfold joinTail; simp
      clear h hsm
      by_cases k1 : (S i).k = 1
      · have hsw : segW (S i).k (S i).x (S i).y (S i).u (S i).v (S i).w = [[109], itoa (S i).x, itoa (S i).y] := by unfold segW; rw [if_pos k1]
        rw [hsw] at hnx
        clear hsw
        generalize itoa (S i).x = Dx at *
        generalize itoa (S i).y = Dy at *
        generalize itoa (S i).u = Du at *
        generalize itoa (S i).v = Dv at *
        generalize itoa (S i).w = Dw at *
        rcases Nat.eq_zero_or_pos i with hz | hz
        · subst hz
          rw [if_pos rfl] at hnx
          have est : bytesS (Lib.join (wordsS S (0 + 1)) [32]) = bytesS [] ++ ((((⟨#[109, 32]⟩ : ByteArray) ++ bytesS Dx) ++ (⟨#[32]⟩ : ByteArray)) ++ bytesS Dy) := by
            rw [hnx]
            apply ByteArray.ext
            simp [ByteArray.data_append, Lib.join, List.intercalate, List.intersperse]
          (repeat ((try (conv => whnf)); (first | (refine ca _ ?_) | (refine mustP.mk (by (simp only [add_size, mk_size, List.size_toArray, List.length_cons, List.length_nil]; omega)) ?_) | (with_reducible refine condP_true ?_) | (with_reducible refine condP_false ?_) | (with_reducible refine condP_not ?_) | (with_reducible refine condP_and ?_) | ((with_reducible refine condP_dt ?_ ?_); (· omega)) | ((with_reducible refine condP_df ?_ ?_); (· omega)) | ((with_reducible refine condP_yes ?_ ?_); (· assumption)) | ((with_reducible refine condP_no ?_ ?_); (· assumption)) | ((with_reducible refine ArP_i64 ?_ ?_); (· omega)) | ((with_reducible refine mustP.mk ?_ ?_); (· first | omega | rfl | (dsimp only; omega))) | (with_reducible refine EqP_nil tab_ok ?_) | (with_reducible refine EqP_sli tab_ok ?_) | (with_reducible refine DrawP_auto tab_ok (by kernel_rfl) (by decide +kernel) ?_) | (with_reducible refine DrawP_auto2 tab_ok (by kernel_rfl) (by decide +kernel) ?_) | (with_reducible refine eq45 ?_) | (with_reducible refine eq62 ?_) | (with_reducible refine eq100 ?_) | (with_reducible refine CallP_gives (fun vs w => by kernel_rfl) (by kernel_rfl) (gx) ?_) | (with_reducible refine RCallP_gives (fun vs w => by kernel_rfl) (by kernel_rfl) (gx) ?_) | (with_reducible refine CallP_gives (fun vs w => by kernel_rfl) (by kernel_rfl) (gy) ?_) | (with_reducible refine RCallP_gives (fun vs w => by kernel_rfl) (by kernel_rfl) (gy) ?_) | (with_reducible refine CallP_gives (fun vs w => by kernel_rfl) (by kernel_rfl) (gu) ?_) | (with_reducible refine RCallP_gives (fun vs w => by kernel_rfl) (by kernel_rfl) (gu) ?_) | (with_reducible refine CallP_gives (fun vs w => by kernel_rfl) (by kernel_rfl) (gv) ?_) | (with_reducible refine RCallP_gives (fun vs w => by kernel_rfl) (by kernel_rfl) (gv) ?_) | (with_reducible refine CallP_gives (fun vs w => by kernel_rfl) (by kernel_rfl) (gw) ?_) | (with_reducible refine RCallP_gives (fun vs w => by kernel_rfl) (by kernel_rfl) (gw) ?_))))
          conv => whnf
          refine ⟨0 + 1, by omega, by omega, ?_⟩
          rw [est]
          ((refine Le_head ?_); (conv => whnf); (refine Le_mk (by rfl) (by rfl) ?_ ?_); (· (repeat (first | (with_reducible exact frLe_nil) | (with_reducible refine frLe_any ?_) | (with_reducible refine frLe_val ?_) | ((with_reducible refine frLe_eq rfl ?_ ?_); (· rfl)) | ((with_reducible refine frLe_val' (int_eq ?_) ?_ ?_); (· omega); (· rfl)) | ((with_reducible refine frLe_val' (int_eq ?_) ?_ ?_); (· simp only [Int.natCast_add, Int.natCast_one, Int.natCast_ofNat] <;> omega); (· rfl)) | ((with_reducible refine frLe_val' (bool_eq ?_) ?_ ?_); (· first | assumption | (symm; assumption)); (· rfl))))))
          exact hpLe_nil
        · rw [if_neg (by omega)] at hnx
          generalize Lib.join (wordsS S i) [32] = J at *
          have est : bytesS (Lib.join (wordsS S (i + 1)) [32]) = (bytesS J ++ (⟨#[32]⟩ : ByteArray)) ++ ((((⟨#[109, 32]⟩ : ByteArray) ++ bytesS Dx) ++ (⟨#[32]⟩ : ByteArray)) ++ bytesS Dy) := by
            rw [hnx]
            apply ByteArray.ext
            simp [ByteArray.data_append, Lib.join, List.intercalate, List.intersperse]
          (repeat ((try (conv => whnf)); (first | (refine ca _ ?_) | (refine mustP.mk (by (simp only [add_size, mk_size, List.size_toArray, List.length_cons, List.length_nil]; omega)) ?_) | (with_reducible refine condP_true ?_) | (with_reducible refine condP_false ?_) | (with_reducible refine condP_not ?_) | (with_reducible refine condP_and ?_) | ((with_reducible refine condP_dt ?_ ?_); (· omega)) | ((with_reducible refine condP_df ?_ ?_); (· omega)) | ((with_reducible refine condP_yes ?_ ?_); (· assumption)) | ((with_reducible refine condP_no ?_ ?_); (· assumption)) | ((with_reducible refine ArP_i64 ?_ ?_); (· omega)) | ((with_reducible refine mustP.mk ?_ ?_); (· first | omega | rfl | (dsimp only; omega))) | (with_reducible refine EqP_nil tab_ok ?_) | (with_reducible refine EqP_sli tab_ok ?_) | (with_reducible refine DrawP_auto tab_ok (by kernel_rfl) (by decide +kernel) ?_) | (with_reducible refine DrawP_auto2 tab_ok (by kernel_rfl) (by decide +kernel) ?_) | (with_reducible refine eq45 ?_) | (with_reducible refine eq62 ?_) | (with_reducible refine eq100 ?_) | (with_reducible refine CallP_gives (fun vs w => by kernel_rfl) (by kernel_rfl) (gx) ?_) | (with_reducible refine RCallP_gives (fun vs w => by kernel_rfl) (by kernel_rfl) (gx) ?_) | (with_reducible refine CallP_gives (fun vs w => by kernel_rfl) (by kernel_rfl) (gy) ?_) | (with_reducible refine RCallP_gives (fun vs w => by kernel_rfl) (by kernel_rfl) (gy) ?_) | (with_reducible refine CallP_gives (fun vs w => by kernel_rfl) (by kernel_rfl) (gu) ?_) | (with_reducible refine RCallP_gives (fun vs w => by kernel_rfl) (by kernel_rfl) (gu) ?_) | (with_reducible refine CallP_gives (fun vs w => by kernel_rfl) (by kernel_rfl) (gv) ?_) | (with_reducible refine RCallP_gives (fun vs w => by kernel_rfl) (by kernel_rfl) (gv) ?_) | (with_reducible refine CallP_gives (fun vs w => by kernel_rfl) (by kernel_rfl) (gw) ?_) | (with_reducible refine RCallP_gives (fun vs w => by kernel_rfl) (by kernel_rfl) (gw) ?_))))
          conv => whnf
          refine ⟨i + 1, by omega, by omega, ?_⟩
          rw [est]
          ((refine Le_head ?_); (conv => whnf); (refine Le_mk (by rfl) (by rfl) ?_ ?_); (· (repeat (first | (with_reducible exact frLe_nil) | (with_reducible refine frLe_any ?_) | (with_reducible refine frLe_val ?_) | ((with_reducible refine frLe_eq rfl ?_ ?_); (· rfl)) | ((with_reducible refine frLe_val' (int_eq ?_) ?_ ?_); (· omega); (· rfl)) | ((with_reducible refine frLe_val' (int_eq ?_) ?_ ?_); (· simp only [Int.natCast_add, Int.natCast_one, Int.natCast_ofNat] <;> omega); (· rfl)) | ((with_reducible refine frLe_val' (bool_eq ?_) ?_ ?_); (· first | assumption | (symm; assumption)); (· rfl))))))
          exact hpLe_nil
      by_cases k2 : (S i).k = 2
      · have hsw : segW (S i).k (S i).x (S i).y (S i).u (S i).v (S i).w = [[108], itoa (S i).x, itoa (S i).y] := by unfold segW; rw [if_neg k1, if_pos k2]
        rw [hsw] at hnx
        clear hsw
        generalize itoa (S i).x = Dx at *
        generalize itoa (S i).y = Dy at *
        generalize itoa (S i).u = Du at *
        generalize itoa (S i).v = Dv at *
        generalize itoa (S i).w = Dw at *
        rcases Nat.eq_zero_or_pos i with hz | hz
        · subst hz
          rw [if_pos rfl] at hnx
          have est : bytesS (Lib.join (wordsS S (0 + 1)) [32]) = bytesS [] ++ ((((⟨#[108, 32]⟩ : ByteArray) ++ bytesS Dx) ++ (⟨#[32]⟩ : ByteArray)) ++ bytesS Dy) := by
            rw [hnx]
            apply ByteArray.ext
            simp [ByteArray.data_append, Lib.join, List.intercalate, List.intersperse]
          (repeat ((try (conv => whnf)); (first | (refine ca _ ?_) | (refine mustP.mk (by (simp only [add_size, mk_size, List.size_toArray, List.length_cons, List.length_nil]; omega)) ?_) | (with_reducible refine condP_true ?_) | (with_reducible refine condP_false ?_) | (with_reducible refine condP_not ?_) | (with_reducible refine condP_and ?_) | ((with_reducible refine condP_dt ?_ ?_); (· omega)) | ((with_reducible refine condP_df ?_ ?_); (· omega)) | ((with_reducible refine condP_yes ?_ ?_); (· assumption)) | ((with_reducible refine condP_no ?_ ?_); (· assumption)) | ((with_reducible refine ArP_i64 ?_ ?_); (· omega)) | ((with_reducible refine mustP.mk ?_ ?_); (· first | omega | rfl | (dsimp only; omega))) | (with_reducible refine EqP_nil tab_ok ?_) | (with_reducible refine EqP_sli tab_ok ?_) | (with_reducible refine DrawP_auto tab_ok (by kernel_rfl) (by decide +kernel) ?_) | (with_reducible refine DrawP_auto2 tab_ok (by kernel_rfl) (by decide +kernel) ?_) | (with_reducible refine eq45 ?_) | (with_reducible refine eq62 ?_) | (with_reducible refine eq100 ?_) | (with_reducible refine CallP_gives (fun vs w => by kernel_rfl) (by kernel_rfl) (gx) ?_) | (with_reducible refine RCallP_gives (fun vs w => by kernel_rfl) (by kernel_rfl) (gx) ?_) | (with_reducible refine CallP_gives (fun vs w => by kernel_rfl) (by kernel_rfl) (gy) ?_) | (with_reducible refine RCallP_gives (fun vs w => by kernel_rfl) (by kernel_rfl) (gy) ?_) | (with_reducible refine CallP_gives (fun vs w => by kernel_rfl) (by kernel_rfl) (gu) ?_) | (with_reducible refine RCallP_gives (fun vs w => by kernel_rfl) (by kernel_rfl) (gu) ?_) | (with_reducible refine CallP_gives (fun vs w => by kernel_rfl) (by kernel_rfl) (gv) ?_) | (with_reducible refine RCallP_gives (fun vs w => by kernel_rfl) (by kernel_rfl) (gv) ?_) | (with_reducible refine CallP_gives (fun vs w => by kernel_rfl) (by kernel_rfl) (gw) ?_) | (with_reducible refine RCallP_gives (fun vs w => by kernel_rfl) (by kernel_rfl) (gw) ?_))))
          conv => whnf
          refine ⟨0 + 1, by omega, by omega, ?_⟩
          rw [est]
          ((refine Le_head ?_); (conv => whnf); (refine Le_mk (by rfl) (by rfl) ?_ ?_); (· (repeat (first | (with_reducible exact frLe_nil) | (with_reducible refine frLe_any ?_) | (with_reducible refine frLe_val ?_) | ((with_reducible refine frLe_eq rfl ?_ ?_); (· rfl)) | ((with_reducible refine frLe_val' (int_eq ?_) ?_ ?_); (· omega); (· rfl)) | ((with_reducible refine frLe_val' (int_eq ?_) ?_ ?_); (· simp only [Int.natCast_add, Int.natCast_one, Int.natCast_ofNat] <;> omega); (· rfl)) | ((with_reducible refine frLe_val' (bool_eq ?_) ?_ ?_); (· first | assumption | (symm; assumption)); (· rfl))))))
          exact hpLe_nil
        · rw [if_neg (by omega)] at hnx
          generalize Lib.join (wordsS S i) [32] = J at *
          have est : bytesS (Lib.join (wordsS S (i + 1)) [32]) = (bytesS J ++ (⟨#[32]⟩ : ByteArray)) ++ ((((⟨#[108, 32]⟩ : ByteArray) ++ bytesS Dx) ++ (⟨#[32]⟩ : ByteArray)) ++ bytesS Dy) := by
            rw [hnx]
            apply ByteArray.ext
            simp [ByteArray.data_append, Lib.join, List.intercalate, List.intersperse]
          (repeat ((try (conv => whnf)); (first | (refine ca _ ?_) | (refine mustP.mk (by (simp only [add_size, mk_size, List.size_toArray, List.length_cons, List.length_nil]; omega)) ?_) | (with_reducible refine condP_true ?_) | (with_reducible refine condP_false ?_) | (with_reducible refine condP_not ?_) | (with_reducible refine condP_and ?_) | ((with_reducible refine condP_dt ?_ ?_); (· omega)) | ((with_reducible refine condP_df ?_ ?_); (· omega)) | ((with_reducible refine condP_yes ?_ ?_); (· assumption)) | ((with_reducible refine condP_no ?_ ?_); (· assumption)) | ((with_reducible refine ArP_i64 ?_ ?_); (· omega)) | ((with_reducible refine mustP.mk ?_ ?_); (· first | omega | rfl | (dsimp only; omega))) | (with_reducible refine EqP_nil tab_ok ?_) | (with_reducible refine EqP_sli tab_ok ?_) | (with_reducible refine DrawP_auto tab_ok (by kernel_rfl) (by decide +kernel) ?_) | (with_reducible refine DrawP_auto2 tab_ok (by kernel_rfl) (by decide +kernel) ?_) | (with_reducible refine eq45 ?_) | (with_reducible refine eq62 ?_) | (with_reducible refine eq100 ?_) | (with_reducible refine CallP_gives (fun vs w => by kernel_rfl) (by kernel_rfl) (gx) ?_) | (with_reducible refine RCallP_gives (fun vs w => by kernel_rfl) (by kernel_rfl) (gx) ?_) | (with_reducible refine CallP_gives (fun vs w => by kernel_rfl) (by kernel_rfl) (gy) ?_) | (with_reducible refine RCallP_gives (fun vs w => by kernel_rfl) (by kernel_rfl) (gy) ?_) | (with_reducible refine CallP_gives (fun vs w => by kernel_rfl) (by kernel_rfl) (gu) ?_) | (with_reducible refine RCallP_gives (fun vs w => by kernel_rfl) (by kernel_rfl) (gu) ?_) | (with_reducible refine CallP_gives (fun vs w => by kernel_rfl) (by kernel_rfl) (gv) ?_) | (with_reducible refine RCallP_gives (fun vs w => by kernel_rfl) (by kernel_rfl) (gv) ?_) | (with_reducible refine CallP_gives (fun vs w => by kernel_rfl) (by kernel_rfl) (gw) ?_) | (with_reducible refine RCallP_gives (fun vs w => by kernel_rfl) (by kernel_rfl) (gw) ?_))))
          conv => whnf
          refine ⟨i + 1, by omega, by omega, ?_⟩
          rw [est]
          ((refine Le_head ?_); (conv => whnf); (refine Le_mk (by rfl) (by rfl) ?_ ?_); (· (repeat (first | (with_reducible exact frLe_nil) | (with_reducible refine frLe_any ?_) | (with_reducible refine frLe_val ?_) | ((with_reducible refine frLe_eq rfl ?_ ?_); (· rfl)) | ((with_reducible refine frLe_val' (int_eq ?_) ?_ ?_); (· omega); (· rfl)) | ((with_reducible refine frLe_val' (int_eq ?_) ?_ ?_); (· simp only [Int.natCast_add, Int.natCast_one, Int.natCast_ofNat] <;> omega); (· rfl)) | ((with_reducible refine frLe_val' (bool_eq ?_) ?_ ?_); (· first | assumption | (symm; assumption)); (· rfl))))))
          exact hpLe_nil
      by_cases k3 : (S i).k = 3
      · have hsw : segW (S i).k (S i).x (S i).y (S i).u (S i).v (S i).w = [[113], itoa (S i).u, itoa (S i).v, itoa (S i).x, itoa (S i).y, itoa (S i).w] := by unfold segW; rw [if_neg k1, if_neg k2, if_pos k3]
        rw [hsw] at hnx
        clear hsw
        generalize itoa (S i).x = Dx at *
        generalize itoa (S i).y = Dy at *
        generalize itoa (S i).u = Du at *
        generalize itoa (S i).v = Dv at *
        generalize itoa (S i).w = Dw at *
        rcases Nat.eq_zero_or_pos i with hz | hz
        · subst hz
          rw [if_pos rfl] at hnx
          have est : bytesS (Lib.join (wordsS S (0 + 1)) [32]) = bytesS [] ++ ((((((((((⟨#[113, 32]⟩ : ByteArray) ++ bytesS Du) ++ (⟨#[32]⟩ : ByteArray)) ++ bytesS Dv) ++ (⟨#[32]⟩ : ByteArray)) ++ bytesS Dx) ++ (⟨#[32]⟩ : ByteArray)) ++ bytesS Dy) ++ (⟨#[32]⟩ : ByteArray)) ++ bytesS Dw) := by
            rw [hnx]
            apply ByteArray.ext
            simp [ByteArray.data_append, Lib.join, List.intercalate, List.intersperse]
          (repeat ((try (conv => whnf)); (first | (refine ca _ ?_) | (refine mustP.mk (by (simp only [add_size, mk_size, List.size_toArray, List.length_cons, List.length_nil]; omega)) ?_) | (with_reducible refine condP_true ?_) | (with_reducible refine condP_false ?_) | (with_reducible refine condP_not ?_) | (with_reducible refine condP_and ?_) | ((with_reducible refine condP_dt ?_ ?_); (· omega)) | ((with_reducible refine condP_df ?_ ?_); (· omega)) | ((with_reducible refine condP_yes ?_ ?_); (· assumption)) | ((with_reducible refine condP_no ?_ ?_); (· assumption)) | ((with_reducible refine ArP_i64 ?_ ?_); (· omega)) | ((with_reducible refine mustP.mk ?_ ?_); (· first | omega | rfl | (dsimp only; omega))) | (with_reducible refine EqP_nil tab_ok ?_) | (with_reducible refine EqP_sli tab_ok ?_) | (with_reducible refine DrawP_auto tab_ok (by kernel_rfl) (by decide +kernel) ?_) | (with_reducible refine DrawP_auto2 tab_ok (by kernel_rfl) (by decide +kernel) ?_) | (with_reducible refine eq45 ?_) | (with_reducible refine eq62 ?_) | (with_reducible refine eq100 ?_) | (with_reducible refine CallP_gives (fun vs w => by kernel_rfl) (by kernel_rfl) (gx) ?_) | (with_reducible refine RCallP_gives (fun vs w => by kernel_rfl) (by kernel_rfl) (gx) ?_) | (with_reducible refine CallP_gives (fun vs w => by kernel_rfl) (by kernel_rfl) (gy) ?_) | (with_reducible refine RCallP_gives (fun vs w => by kernel_rfl) (by kernel_rfl) (gy) ?_) | (with_reducible refine CallP_gives (fun vs w => by kernel_rfl) (by kernel_rfl) (gu) ?_) | (with_reducible refine RCallP_gives (fun vs w => by kernel_rfl) (by kernel_rfl) (gu) ?_) | (with_reducible refine CallP_gives (fun vs w => by kernel_rfl) (by kernel_rfl) (gv) ?_) | (with_reducible refine RCallP_gives (fun vs w => by kernel_rfl) (by kernel_rfl) (gv) ?_) | (with_reducible refine CallP_gives (fun vs w => by kernel_rfl) (by kernel_rfl) (gw) ?_) | (with_reducible refine RCallP_gives (fun vs w => by kernel_rfl) (by kernel_rfl) (gw) ?_))))
          conv => whnf
          refine ⟨0 + 1, by omega, by omega, ?_⟩
          rw [est]
          ((refine Le_head ?_); (conv => whnf); (refine Le_mk (by rfl) (by rfl) ?_ ?_); (· (repeat (first | (with_reducible exact frLe_nil) | (with_reducible refine frLe_any ?_) | (with_reducible refine frLe_val ?_) | ((with_reducible refine frLe_eq rfl ?_ ?_); (· rfl)) | ((with_reducible refine frLe_val' (int_eq ?_) ?_ ?_); (· omega); (· rfl)) | ((with_reducible refine frLe_val' (int_eq ?_) ?_ ?_); (· simp only [Int.natCast_add, Int.natCast_one, Int.natCast_ofNat] <;> omega); (· rfl)) | ((with_reducible refine frLe_val' (bool_eq ?_) ?_ ?_); (· first | assumption | (symm; assumption)); (· rfl))))))
          exact hpLe_nil
        · rw [if_neg (by omega)] at hnx
          generalize Lib.join (wordsS S i) [32] = J at *
          have est : bytesS (Lib.join (wordsS S (i + 1)) [32]) = (bytesS J ++ (⟨#[32]⟩ : ByteArray)) ++ ((((((((((⟨#[113, 32]⟩ : ByteArray) ++ bytesS Du) ++ (⟨#[32]⟩ : ByteArray)) ++ bytesS Dv) ++ (⟨#[32]⟩ : ByteArray)) ++ bytesS Dx) ++ (⟨#[32]⟩ : ByteArray)) ++ bytesS Dy) ++ (⟨#[32]⟩ : ByteArray)) ++ bytesS Dw) := by
            rw [hnx]
            apply ByteArray.ext
            simp [ByteArray.data_append, Lib.join, List.intercalate, List.intersperse]
          (repeat ((try (conv => whnf)); (first | (refine ca _ ?_) | (refine mustP.mk (by (simp only [add_size, mk_size, List.size_toArray, List.length_cons, List.length_nil]; omega)) ?_) | (with_reducible refine condP_true ?_) | (with_reducible refine condP_false ?_) | (with_reducible refine condP_not ?_) | (with_reducible refine condP_and ?_) | ((with_reducible refine condP_dt ?_ ?_); (· omega)) | ((with_reducible refine condP_df ?_ ?_); (· omega)) | ((with_reducible refine condP_yes ?_ ?_); (· assumption)) | ((with_reducible refine condP_no ?_ ?_); (· assumption)) | ((with_reducible refine ArP_i64 ?_ ?_); (· omega)) | ((with_reducible refine mustP.mk ?_ ?_); (· first | omega | rfl | (dsimp only; omega))) | (with_reducible refine EqP_nil tab_ok ?_) | (with_reducible refine EqP_sli tab_ok ?_) | (with_reducible refine DrawP_auto tab_ok (by kernel_rfl) (by decide +kernel) ?_) | (with_reducible refine DrawP_auto2 tab_ok (by kernel_rfl) (by decide +kernel) ?_) | (with_reducible refine eq45 ?_) | (with_reducible refine eq62 ?_) | (with_reducible refine eq100 ?_) | (with_reducible refine CallP_gives (fun vs w => by kernel_rfl) (by kernel_rfl) (gx) ?_) | (with_reducible refine RCallP_gives (fun vs w => by kernel_rfl) (by kernel_rfl) (gx) ?_) | (with_reducible refine CallP_gives (fun vs w => by kernel_rfl) (by kernel_rfl) (gy) ?_) | (with_reducible refine RCallP_gives (fun vs w => by kernel_rfl) (by kernel_rfl) (gy) ?_) | (with_reducible refine CallP_gives (fun vs w => by kernel_rfl) (by kernel_rfl) (gu) ?_) | (with_reducible refine RCallP_gives (fun vs w => by kernel_rfl) (by kernel_rfl) (gu) ?_) | (with_reducible refine CallP_gives (fun vs w => by kernel_rfl) (by kernel_rfl) (gv) ?_) | (with_reducible refine RCallP_gives (fun vs w => by kernel_rfl) (by kernel_rfl) (gv) ?_) | (with_reducible refine CallP_gives (fun vs w => by kernel_rfl) (by kernel_rfl) (gw) ?_) | (with_reducible refine RCallP_gives (fun vs w => by kernel_rfl) (by kernel_rfl) (gw) ?_))))
          conv => whnf
          refine ⟨i + 1, by omega, by omega, ?_⟩
          rw [est]
          ((refine Le_head ?_); (conv => whnf); (refine Le_mk (by rfl) (by rfl) ?_ ?_); (· (repeat (first | (with_reducible exact frLe_nil) | (with_reducible refine frLe_any ?_) | (with_reducible refine frLe_val ?_) | ((with_reducible refine frLe_eq rfl ?_ ?_); (· rfl)) | ((with_reducible refine frLe_val' (int_eq ?_) ?_ ?_); (· omega); (· rfl)) | ((with_reducible refine frLe_val' (int_eq ?_) ?_ ?_); (· simp only [Int.natCast_add, Int.natCast_one, Int.natCast_ofNat] <;> omega); (· rfl)) | ((with_reducible refine frLe_val' (bool_eq ?_) ?_ ?_); (· first | assumption | (symm; assumption)); (· rfl))))))
          exact hpLe_nil
      have hsw : segW (S i).k (S i).x (S i).y (S i).u (S i).v (S i).w = [[104]] := by unfold segW; rw [if_neg k1, if_neg k2, if_neg k3]
      rw [hsw] at hnx
      clear hsw
      generalize itoa (S i).x = Dx at *
      generalize itoa (S i).y = Dy at *
      generalize itoa (S i).u = Du at *
      generalize itoa (S i).v = Dv at *
      generalize itoa (S i).w = Dw at *
      rcases Nat.eq_zero_or_pos i with hz | hz
      · subst hz
        rw [if_pos rfl] at hnx
        have est : bytesS (Lib.join (wordsS S (0 + 1)) [32]) = bytesS [] ++ ((⟨#[104]⟩ : ByteArray)) := by
          rw [hnx]
          apply ByteArray.ext
          simp [ByteArray.data_append, Lib.join, List.intercalate, List.intersperse]
        (repeat ((try (conv => whnf)); (first | (refine ca _ ?_) | (refine mustP.mk (by (simp only [add_size, mk_size, List.size_toArray, List.length_cons, List.length_nil]; omega)) ?_) | (with_reducible refine condP_true ?_) | (with_reducible refine condP_false ?_) | (with_reducible refine condP_not ?_) | (with_reducible refine condP_and ?_) | ((with_reducible refine condP_dt ?_ ?_); (· omega)) | ((with_reducible refine condP_df ?_ ?_); (· omega)) | ((with_reducible refine condP_yes ?_ ?_); (· assumption)) | ((with_reducible refine condP_no ?_ ?_); (· assumption)) | ((with_reducible refine ArP_i64 ?_ ?_); (· omega)) | ((with_reducible refine mustP.mk ?_ ?_); (· first | omega | rfl | (dsimp only; omega))) | (with_reducible refine EqP_nil tab_ok ?_) | (with_reducible refine EqP_sli tab_ok ?_) | (with_reducible refine DrawP_auto tab_ok (by kernel_rfl) (by decide +kernel) ?_) | (with_reducible refine DrawP_auto2 tab_ok (by kernel_rfl) (by decide +kernel) ?_) | (with_reducible refine eq45 ?_) | (with_reducible refine eq62 ?_) | (with_reducible refine eq100 ?_) | (with_reducible refine CallP_gives (fun vs w => by kernel_rfl) (by kernel_rfl) (gx) ?_) | (with_reducible refine RCallP_gives (fun vs w => by kernel_rfl) (by kernel_rfl) (gx) ?_) | (with_reducible refine CallP_gives (fun vs w => by kernel_rfl) (by kernel_rfl) (gy) ?_) | (with_reducible refine RCallP_gives (fun vs w => by kernel_rfl) (by kernel_rfl) (gy) ?_) | (with_reducible refine CallP_gives (fun vs w => by kernel_rfl) (by kernel_rfl) (gu) ?_) | (with_reducible refine RCallP_gives (fun vs w => by kernel_rfl) (by kernel_rfl) (gu) ?_) | (with_reducible refine CallP_gives (fun vs w => by kernel_rfl) (by kernel_rfl) (gv) ?_) | (with_reducible refine RCallP_gives (fun vs w => by kernel_rfl) (by kernel_rfl) (gv) ?_) | (with_reducible refine CallP_gives (fun vs w => by kernel_rfl) (by kernel_rfl) (gw) ?_) | (with_reducible refine RCallP_gives (fun vs w => by kernel_rfl) (by kernel_rfl) (gw) ?_))))
        conv => whnf
        refine ⟨0 + 1, by omega, by omega, ?_⟩
        rw [est]
        ((refine Le_head ?_); (conv => whnf); (refine Le_mk (by rfl) (by rfl) ?_ ?_); (· (repeat (first | (with_reducible exact frLe_nil) | (with_reducible refine frLe_any ?_) | (with_reducible refine frLe_val ?_) | ((with_reducible refine frLe_eq rfl ?_ ?_); (· rfl)) | ((with_reducible refine frLe_val' (int_eq ?_) ?_ ?_); (· omega); (· rfl)) | ((with_reducible refine frLe_val' (int_eq ?_) ?_ ?_); (· simp only [Int.natCast_add, Int.natCast_one, Int.natCast_ofNat] <;> omega); (· rfl)) | ((with_reducible refine frLe_val' (bool_eq ?_) ?_ ?_); (· first | assumption | (symm; assumption)); (· rfl))))))
        exact hpLe_nil
      · rw [if_neg (by omega)] at hnx
        generalize Lib.join (wordsS S i) [32] = J at *
        have est : bytesS (Lib.join (wordsS S (i + 1)) [32]) = (bytesS J ++ (⟨#[32]⟩ : ByteArray)) ++ ((⟨#[104]⟩ : ByteArray)) := by
          rw [hnx]
          apply ByteArray.ext
          simp [ByteArray.data_append, Lib.join, List.intercalate, List.intersperse]
        (repeat ((try (conv => whnf)); (first | (refine ca _ ?_) | (refine mustP.mk (by (simp only [add_size, mk_size, List.size_toArray, List.length_cons, List.length_nil]; omega)) ?_) | (with_reducible refine condP_true ?_) | (with_reducible refine condP_false ?_) | (with_reducible refine condP_not ?_) | (with_reducible refine condP_and ?_) | ((with_reducible refine condP_dt ?_ ?_); (· omega)) | ((with_reducible refine condP_df ?_ ?_); (· omega)) | ((with_reducible refine condP_yes ?_ ?_); (· assumption)) | ((with_reducible refine condP_no ?_ ?_); (· assumption)) | ((with_reducible refine ArP_i64 ?_ ?_); (· omega)) | ((with_reducible refine mustP.mk ?_ ?_); (· first | omega | rfl | (dsimp only; omega))) | (with_reducible refine EqP_nil tab_ok ?_) | (with_reducible refine EqP_sli tab_ok ?_) | (with_reducible refine DrawP_auto tab_ok (by kernel_rfl) (by decide +kernel) ?_) | (with_reducible refine DrawP_auto2 tab_ok (by kernel_rfl) (by decide +kernel) ?_) | (with_reducible refine eq45 ?_) | (with_reducible refine eq62 ?_) | (with_reducible refine eq100 ?_) | (with_reducible refine CallP_gives (fun vs w => by kernel_rfl) (by kernel_rfl) (gx) ?_) | (with_reducible refine RCallP_gives (fun vs w => by kernel_rfl) (by kernel_rfl) (gx) ?_) | (with_reducible refine CallP_gives (fun vs w => by kernel_rfl) (by kernel_rfl) (gy) ?_) | (with_reducible refine RCallP_gives (fun vs w => by kernel_rfl) (by kernel_rfl) (gy) ?_) | (with_reducible refine CallP_gives (fun vs w => by kernel_rfl) (by kernel_rfl) (gu) ?_) | (with_reducible refine RCallP_gives (fun vs w => by kernel_rfl) (by kernel_rfl) (gu) ?_) | (with_reducible refine CallP_gives (fun vs w => by kernel_rfl) (by kernel_rfl) (gv) ?_) | (with_reducible refine RCallP_gives (fun vs w => by kernel_rfl) (by kernel_rfl) (gv) ?_) | (with_reducible refine CallP_gives (fun vs w => by kernel_rfl) (by kernel_rfl) (gw) ?_) | (with_reducible refine RCallP_gives (fun vs w => by kernel_rfl) (by kernel_rfl) (gw) ?_))))
        conv => whnf
        refine ⟨i + 1, by omega, by omega, ?_⟩
        rw [est]
        ((refine Le_head ?_); (conv => whnf); (refine Le_mk (by rfl) (by rfl) ?_ ?_); (· (repeat (first | (with_reducible exact frLe_nil) | (with_reducible refine frLe_any ?_) | (with_reducible refine frLe_val ?_) | ((with_reducible refine frLe_eq rfl ?_ ?_); (· rfl)) | ((with_reducible refine frLe_val' (int_eq ?_) ?_ ?_); (· omega); (· rfl)) | ((with_reducible refine frLe_val' (int_eq ?_) ?_ ?_); (· simp only [Int.natCast_add, Int.natCast_one, Int.natCast_ofNat] <;> omega); (· rfl)) | ((with_reducible refine frLe_val' (bool_eq ?_) ?_ ?_); (· first | assumption | (symm; assumption)); (· rfl))))))
        exact hpLe_nil
    · obtain rfl : i = n := by omega
      clear h hsm
      (repeat ((try (conv => whnf)); (first | (with_reducible refine condP_true ?_) | (with_reducible refine condP_false ?_) | (with_reducible refine condP_not ?_) | (with_reducible refine condP_and ?_) | ((with_reducible refine condP_dt ?_ ?_); (· omega)) | ((with_reducible refine condP_df ?_ ?_); (· omega)) | ((with_reducible refine condP_yes ?_ ?_); (· assumption)) | ((with_reducible refine condP_no ?_ ?_); (· assumption)) | ((with_reducible refine ArP_i64 ?_ ?_); (· omega)) | ((with_reducible refine mustP.mk ?_ ?_); (· first | omega | rfl | (dsimp only; omega))) | (with_reducible refine EqP_nil tab_ok ?_) | (with_reducible refine EqP_sli tab_ok ?_) | (with_reducible refine DrawP_auto tab_ok (by kernel_rfl) (by decide +kernel) ?_) | (with_reducible refine DrawP_auto2 tab_ok (by kernel_rfl) (by decide +kernel) ?_) | (with_reducible refine eq45 ?_) | (with_reducible refine eq62 ?_) | (with_reducible refine eq100 ?_))))
      exact ⟨rfl, rfl⟩
end
end Go.Proofs.YtdakcfggecpjjaaDoor
