/-
  region.both, Union, Minus.
-/
import Derived.Test.YtbkhpddodmbdoaaCombine
import Derived.Test.YtbkhpddodmbdoaaCombined
import Derived.Test.YtbkhpddodmbdoaaRegCheckE
import Derived.Test.YtbkhpddodmbdoaaRect
namespace Go.Proofs.Ytbkhpddodmbdoaa
open Go.RowKit
set_option linter.unusedVariables false
set_option maxRecDepth 20000
section
variable {A B : Option Addr} {La Lb : List Run} {c d : Nat} {G : Mem}
/-- The first error of two regions. -/
def err2 (La Lb : List Run) : Int := if errL La ≠ 0 then errL La else errL Lb
theorem err2_ok (h : err2 La Lb = 0) : errL La = 0 ∧ errL Lb = 0 := by
  unfold err2 at h
  split at h
  · rename_i h1; exact absurd h h1
  · rename_i h1; exact ⟨Decidable.not_not.1 h1, h⟩
set_option maxHeartbeats 1000000 in
theorem both_makes (f : FuncId) (k : Int) (hen : ∀ vs w, (callFunc f vs).run Try.prog w = .ok (.enter f vs) w) (hf : ∀ (p q : Bool) (G : Mem), Gives Try.prog f [.val (.bool p), .val (.bool q)] G (.val (.bool (opB k p q))))
    (hA : RunsM G A La) (hB : RunsM G B Lb) (hc : La.length ≤ c) (hc' : c ≤ maxLen) (hd : Lb.length ≤ d) (hd' : d ≤ maxLen) (he : err2 La Lb = 0) :
    Makes Try.prog 59 [.val (.slice A La.length c), .val (.slice B Lb.length d), .val (.func (.func f) #[] #[])] G (pairE 0) 54 3 (mixR k La Lb).length (flatR (mixR k La Lb)) := by
  obtain ⟨h1, h2⟩ := err2_ok he
  have g1 := Check_gives hA hc hc'
  have g2 := Check_gives hB hd hd'
  rw [h1] at g1; rw [h2] at g2
  have g3 := combine_makes f k hen hf A B La Lb c d G hA hB (errL_ok h1) (errL_ok h2)
  refine Makes_of tab_ok Try.func59 (pairE_wraps 0) ?_
  (repeat ((try (conv => whnf)); (first | (with_reducible first | refine condP_true ?_ | refine condP_false ?_ | refine condP_not ?_ | refine condP_and ?_) | ((with_reducible refine condP_dt ?_ ?_); (· omega)) | ((with_reducible refine condP_df ?_ ?_); (· omega)) | ((with_reducible refine condP_yes ?_ ?_); (· assumption)) | ((with_reducible refine condP_no ?_ ?_); (· assumption)) | ((with_reducible refine ArP_i64 ?_ ?_); (· omega)) | ((with_reducible refine mustP.mk ?_ ?_); (· first | omega | rfl | (dsimp only; omega))) | (with_reducible first | refine EqP_nil tab_ok ?_ | refine EqP_sli tab_ok ?_ | refine DrawP_auto tab_ok (by kernel_rfl) (by decide +kernel) ?_ | refine DrawP_auto2 tab_ok (by kernel_rfl) (by decide +kernel) ?_ | refine eq27 ?_ | refine eq44 ?_ | refine eq54 ?_ | refine eq76 ?_ | refine eq134 ?_))))
  conv => whnf
  refine LoopP_step tab_ok ?_
  (repeat ((try (conv => whnf)); (first | (with_reducible first | refine condP_true ?_ | refine condP_false ?_ | refine condP_not ?_ | refine condP_and ?_) | ((with_reducible refine condP_dt ?_ ?_); (· omega)) | ((with_reducible refine condP_df ?_ ?_); (· omega)) | ((with_reducible refine condP_yes ?_ ?_); (· assumption)) | ((with_reducible refine condP_no ?_ ?_); (· assumption)) | ((with_reducible refine ArP_i64 ?_ ?_); (· omega)) | ((with_reducible refine mustP.mk ?_ ?_); (· first | omega | rfl | (dsimp only; omega))) | (with_reducible first | refine EqP_nil tab_ok ?_ | refine EqP_sli tab_ok ?_ | refine DrawP_auto tab_ok (by kernel_rfl) (by decide +kernel) ?_ | refine DrawP_auto2 tab_ok (by kernel_rfl) (by decide +kernel) ?_ | refine eq27 ?_ | refine eq44 ?_ | refine eq54 ?_ | refine eq76 ?_ | refine eq134 ?_ | refine CallP_gives (fun vs w => by kernel_rfl) (by kernel_rfl) (g1) ?_ | refine RCallP_gives (fun vs w => by kernel_rfl) (by kernel_rfl) (g1) ?_ | refine CallP_gives (fun vs w => by kernel_rfl) (by kernel_rfl) (g2) ?_ | refine RCallP_gives (fun vs w => by kernel_rfl) (by kernel_rfl) (g2) ?_))))
  conv => whnf
  refine LoopP_step tab_ok ?_
  (repeat ((try (conv => whnf)); (first | (with_reducible first | refine condP_true ?_ | refine condP_false ?_ | refine condP_not ?_ | refine condP_and ?_) | ((with_reducible refine condP_dt ?_ ?_); (· omega)) | ((with_reducible refine condP_df ?_ ?_); (· omega)) | ((with_reducible refine condP_yes ?_ ?_); (· assumption)) | ((with_reducible refine condP_no ?_ ?_); (· assumption)) | ((with_reducible refine ArP_i64 ?_ ?_); (· omega)) | ((with_reducible refine mustP.mk ?_ ?_); (· first | omega | rfl | (dsimp only; omega))) | (with_reducible first | refine EqP_nil tab_ok ?_ | refine EqP_sli tab_ok ?_ | refine DrawP_auto tab_ok (by kernel_rfl) (by decide +kernel) ?_ | refine DrawP_auto2 tab_ok (by kernel_rfl) (by decide +kernel) ?_ | refine eq27 ?_ | refine eq44 ?_ | refine eq54 ?_ | refine eq76 ?_ | refine eq134 ?_ | refine CallP_gives (fun vs w => by kernel_rfl) (by kernel_rfl) (g1) ?_ | refine RCallP_gives (fun vs w => by kernel_rfl) (by kernel_rfl) (g1) ?_ | refine CallP_gives (fun vs w => by kernel_rfl) (by kernel_rfl) (g2) ?_ | refine RCallP_gives (fun vs w => by kernel_rfl) (by kernel_rfl) (g2) ?_))))
  conv => whnf
  refine LoopP_step tab_ok ?_
  (repeat ((try (conv => whnf)); (first | (with_reducible first | refine condP_true ?_ | refine condP_false ?_ | refine condP_not ?_ | refine condP_and ?_) | ((with_reducible refine condP_dt ?_ ?_); (· omega)) | ((with_reducible refine condP_df ?_ ?_); (· omega)) | ((with_reducible refine condP_yes ?_ ?_); (· assumption)) | ((with_reducible refine condP_no ?_ ?_); (· assumption)) | ((with_reducible refine ArP_i64 ?_ ?_); (· omega)) | ((with_reducible refine mustP.mk ?_ ?_); (· first | omega | rfl | (dsimp only; omega))) | (with_reducible first | refine EqP_nil tab_ok ?_ | refine EqP_sli tab_ok ?_ | refine DrawP_auto tab_ok (by kernel_rfl) (by decide +kernel) ?_ | refine DrawP_auto2 tab_ok (by kernel_rfl) (by decide +kernel) ?_ | refine eq27 ?_ | refine eq44 ?_ | refine eq54 ?_ | refine eq76 ?_ | refine eq134 ?_ | refine CallP_gives (fun vs w => by kernel_rfl) (by kernel_rfl) (g1) ?_ | refine RCallP_gives (fun vs w => by kernel_rfl) (by kernel_rfl) (g1) ?_ | refine CallP_gives (fun vs w => by kernel_rfl) (by kernel_rfl) (g2) ?_ | refine RCallP_gives (fun vs w => by kernel_rfl) (by kernel_rfl) (g2) ?_))))
  conv => whnf
  refine CallP_makes (fun vs w => by kernel_rfl) (.alone fun _ => rfl) (by kernel_rfl) g3 ?_
  (repeat ((try (conv => whnf)); (first | (with_reducible first | refine condP_true ?_ | refine condP_false ?_ | refine condP_not ?_ | refine condP_and ?_) | ((with_reducible refine condP_dt ?_ ?_); (· omega)) | ((with_reducible refine condP_df ?_ ?_); (· omega)) | ((with_reducible refine condP_yes ?_ ?_); (· assumption)) | ((with_reducible refine condP_no ?_ ?_); (· assumption)) | ((with_reducible refine ArP_i64 ?_ ?_); (· omega)) | ((with_reducible refine mustP.mk ?_ ?_); (· first | omega | rfl | (dsimp only; omega))) | (with_reducible first | refine EqP_nil tab_ok ?_ | refine EqP_sli tab_ok ?_ | refine DrawP_auto tab_ok (by kernel_rfl) (by decide +kernel) ?_ | refine DrawP_auto2 tab_ok (by kernel_rfl) (by decide +kernel) ?_ | refine eq27 ?_ | refine eq44 ?_ | refine eq54 ?_ | refine eq76 ?_ | refine eq134 ?_))))
  conv => whnf
  exact .inl ⟨0, rfl, rfl⟩
set_option maxHeartbeats 1000000 in
theorem both_err (f : FuncId) (hA : RunsM G A La) (hB : RunsM G B Lb) (hc : La.length ≤ c) (hc' : c ≤ maxLen) (hd : Lb.length ≤ d) (hd' : d ≤ maxLen) (he : err2 La Lb ≠ 0) :
    Gives Try.prog 59 [.val (.slice A La.length c), .val (.slice B Lb.length d), .val (.func (.func f) #[] #[])] G (.tup [.val (.slice none 0 0), .val (.int .i64 (err2 La Lb))]) := by
  have g1 := Check_gives hA hc hc'
  have g2 := Check_gives hB hd hd'
  refine Gives_of tab_ok Try.func59 ?_
  unfold err2 at *
  generalize errL La = e1 at *
  generalize errL Lb = e2 at *
  by_cases h : e1 = 0
  · rw [if_neg (by omega)] at he ⊢
    (repeat ((try (conv => whnf)); (first | (with_reducible first | refine condP_true ?_ | refine condP_false ?_ | refine condP_not ?_ | refine condP_and ?_) | ((with_reducible refine condP_dt ?_ ?_); (· omega)) | ((with_reducible refine condP_df ?_ ?_); (· omega)) | ((with_reducible refine condP_yes ?_ ?_); (· assumption)) | ((with_reducible refine condP_no ?_ ?_); (· assumption)) | ((with_reducible refine ArP_i64 ?_ ?_); (· omega)) | ((with_reducible refine mustP.mk ?_ ?_); (· first | omega | rfl | (dsimp only; omega))) | (with_reducible first | refine EqP_nil tab_ok ?_ | refine EqP_sli tab_ok ?_ | refine DrawP_auto tab_ok (by kernel_rfl) (by decide +kernel) ?_ | refine DrawP_auto2 tab_ok (by kernel_rfl) (by decide +kernel) ?_ | refine eq27 ?_ | refine eq44 ?_ | refine eq54 ?_ | refine eq76 ?_ | refine eq134 ?_))))
    conv => whnf
    refine LoopP_step tab_ok ?_
    (repeat ((try (conv => whnf)); (first | (with_reducible first | refine condP_true ?_ | refine condP_false ?_ | refine condP_not ?_ | refine condP_and ?_) | ((with_reducible refine condP_dt ?_ ?_); (· omega)) | ((with_reducible refine condP_df ?_ ?_); (· omega)) | ((with_reducible refine condP_yes ?_ ?_); (· assumption)) | ((with_reducible refine condP_no ?_ ?_); (· assumption)) | ((with_reducible refine ArP_i64 ?_ ?_); (· omega)) | ((with_reducible refine mustP.mk ?_ ?_); (· first | omega | rfl | (dsimp only; omega))) | (with_reducible first | refine EqP_nil tab_ok ?_ | refine EqP_sli tab_ok ?_ | refine DrawP_auto tab_ok (by kernel_rfl) (by decide +kernel) ?_ | refine DrawP_auto2 tab_ok (by kernel_rfl) (by decide +kernel) ?_ | refine eq27 ?_ | refine eq44 ?_ | refine eq54 ?_ | refine eq76 ?_ | refine eq134 ?_ | refine CallP_gives (fun vs w => by kernel_rfl) (by kernel_rfl) (g1) ?_ | refine RCallP_gives (fun vs w => by kernel_rfl) (by kernel_rfl) (g1) ?_ | refine CallP_gives (fun vs w => by kernel_rfl) (by kernel_rfl) (g2) ?_ | refine RCallP_gives (fun vs w => by kernel_rfl) (by kernel_rfl) (g2) ?_))))
    conv => whnf
    refine LoopP_step tab_ok ?_
    (repeat ((try (conv => whnf)); (first | (with_reducible first | refine condP_true ?_ | refine condP_false ?_ | refine condP_not ?_ | refine condP_and ?_) | ((with_reducible refine condP_dt ?_ ?_); (· omega)) | ((with_reducible refine condP_df ?_ ?_); (· omega)) | ((with_reducible refine condP_yes ?_ ?_); (· assumption)) | ((with_reducible refine condP_no ?_ ?_); (· assumption)) | ((with_reducible refine ArP_i64 ?_ ?_); (· omega)) | ((with_reducible refine mustP.mk ?_ ?_); (· first | omega | rfl | (dsimp only; omega))) | (with_reducible first | refine EqP_nil tab_ok ?_ | refine EqP_sli tab_ok ?_ | refine DrawP_auto tab_ok (by kernel_rfl) (by decide +kernel) ?_ | refine DrawP_auto2 tab_ok (by kernel_rfl) (by decide +kernel) ?_ | refine eq27 ?_ | refine eq44 ?_ | refine eq54 ?_ | refine eq76 ?_ | refine eq134 ?_ | refine CallP_gives (fun vs w => by kernel_rfl) (by kernel_rfl) (g1) ?_ | refine RCallP_gives (fun vs w => by kernel_rfl) (by kernel_rfl) (g1) ?_ | refine CallP_gives (fun vs w => by kernel_rfl) (by kernel_rfl) (g2) ?_ | refine RCallP_gives (fun vs w => by kernel_rfl) (by kernel_rfl) (g2) ?_))))
    exact ⟨rfl, rfl⟩
  · rw [if_pos h]
    (repeat ((try (conv => whnf)); (first | (with_reducible first | refine condP_true ?_ | refine condP_false ?_ | refine condP_not ?_ | refine condP_and ?_) | ((with_reducible refine condP_dt ?_ ?_); (· omega)) | ((with_reducible refine condP_df ?_ ?_); (· omega)) | ((with_reducible refine condP_yes ?_ ?_); (· assumption)) | ((with_reducible refine condP_no ?_ ?_); (· assumption)) | ((with_reducible refine ArP_i64 ?_ ?_); (· omega)) | ((with_reducible refine mustP.mk ?_ ?_); (· first | omega | rfl | (dsimp only; omega))) | (with_reducible first | refine EqP_nil tab_ok ?_ | refine EqP_sli tab_ok ?_ | refine DrawP_auto tab_ok (by kernel_rfl) (by decide +kernel) ?_ | refine DrawP_auto2 tab_ok (by kernel_rfl) (by decide +kernel) ?_ | refine eq27 ?_ | refine eq44 ?_ | refine eq54 ?_ | refine eq76 ?_ | refine eq134 ?_))))
    conv => whnf
    refine LoopP_step tab_ok ?_
    (repeat ((try (conv => whnf)); (first | (with_reducible first | refine condP_true ?_ | refine condP_false ?_ | refine condP_not ?_ | refine condP_and ?_) | ((with_reducible refine condP_dt ?_ ?_); (· omega)) | ((with_reducible refine condP_df ?_ ?_); (· omega)) | ((with_reducible refine condP_yes ?_ ?_); (· assumption)) | ((with_reducible refine condP_no ?_ ?_); (· assumption)) | ((with_reducible refine ArP_i64 ?_ ?_); (· omega)) | ((with_reducible refine mustP.mk ?_ ?_); (· first | omega | rfl | (dsimp only; omega))) | (with_reducible first | refine EqP_nil tab_ok ?_ | refine EqP_sli tab_ok ?_ | refine DrawP_auto tab_ok (by kernel_rfl) (by decide +kernel) ?_ | refine DrawP_auto2 tab_ok (by kernel_rfl) (by decide +kernel) ?_ | refine eq27 ?_ | refine eq44 ?_ | refine eq54 ?_ | refine eq76 ?_ | refine eq134 ?_ | refine CallP_gives (fun vs w => by kernel_rfl) (by kernel_rfl) (g1) ?_ | refine RCallP_gives (fun vs w => by kernel_rfl) (by kernel_rfl) (g1) ?_ | refine CallP_gives (fun vs w => by kernel_rfl) (by kernel_rfl) (g2) ?_ | refine RCallP_gives (fun vs w => by kernel_rfl) (by kernel_rfl) (g2) ?_))))
    exact ⟨rfl, rfl⟩
end
theorem Minus1_gives (p q : Bool) (G : Mem) : Gives Try.prog 68 [.val (.bool p), .val (.bool q)] G (.val (.bool (opB 2 p q))) := by
  refine Gives_of tab_ok Try.func68 ?_
  cases p <;> cases q <;> ((repeat ((try (conv => whnf)); (first | (with_reducible first | refine EqP_boolF (by kernel_rfl) ?_ | refine condP_true ?_ | refine condP_false ?_ | refine condP_not ?_ | refine condP_and ?_) | ((with_reducible refine condP_dt ?_ ?_); (· omega)) | ((with_reducible refine condP_df ?_ ?_); (· omega)) | ((with_reducible refine condP_yes ?_ ?_); (· assumption)) | ((with_reducible refine condP_no ?_ ?_); (· assumption)) | ((with_reducible refine ArP_i64 ?_ ?_); (· omega)) | ((with_reducible refine mustP.mk ?_ ?_); (· first | omega | rfl | (dsimp only; omega))) | (with_reducible first | refine EqP_nil tab_ok ?_ | refine EqP_sli tab_ok ?_ | refine DrawP_auto tab_ok (by kernel_rfl) (by decide +kernel) ?_ | refine DrawP_auto2 tab_ok (by kernel_rfl) (by decide +kernel) ?_ | refine eq27 ?_ | refine eq44 ?_ | refine eq54 ?_ | refine eq76 ?_ | refine eq134 ?_))))) <;> exact ⟨rfl, rfl⟩
theorem Minus_makes {A B : Option Addr} {La Lb : List Run} {c d : Nat} {G : Mem} (hA : RunsM G A La) (hB : RunsM G B Lb) (hc : La.length ≤ c) (hc' : c ≤ maxLen) (hd : Lb.length ≤ d) (hd' : d ≤ maxLen) (he : err2 La Lb = 0) :
    Makes Try.prog 52 [.val (.slice A La.length c), .val (.slice B Lb.length d)] G (pairE 0) 54 3 (mixR 2 La Lb).length (flatR (mixR 2 La Lb)) := by
  have g := both_makes 68 2 (fun vs w => by kernel_rfl) Minus1_gives hA hB hc hc' hd hd' he
  refine Makes_of tab_ok Try.func52 (pairE_wraps 0) ?_
  (repeat ((try (conv => whnf)); (first | (with_reducible first | refine condP_true ?_ | refine condP_false ?_ | refine condP_not ?_ | refine condP_and ?_) | ((with_reducible refine condP_dt ?_ ?_); (· omega)) | ((with_reducible refine condP_df ?_ ?_); (· omega)) | ((with_reducible refine condP_yes ?_ ?_); (· assumption)) | ((with_reducible refine condP_no ?_ ?_); (· assumption)) | ((with_reducible refine ArP_i64 ?_ ?_); (· omega)) | ((with_reducible refine mustP.mk ?_ ?_); (· first | omega | rfl | (dsimp only; omega))) | (with_reducible first | refine EqP_nil tab_ok ?_ | refine EqP_sli tab_ok ?_ | refine DrawP_auto tab_ok (by kernel_rfl) (by decide +kernel) ?_ | refine DrawP_auto2 tab_ok (by kernel_rfl) (by decide +kernel) ?_ | refine eq27 ?_ | refine eq44 ?_ | refine eq54 ?_ | refine eq76 ?_ | refine eq134 ?_))))
  conv => whnf
  refine CallP_makes (fun vs w => by kernel_rfl) (pairE_wraps 0) (by kernel_rfl) g ?_
  (repeat ((try (conv => whnf)); (first | (with_reducible first | refine condP_true ?_ | refine condP_false ?_ | refine condP_not ?_ | refine condP_and ?_) | ((with_reducible refine condP_dt ?_ ?_); (· omega)) | ((with_reducible refine condP_df ?_ ?_); (· omega)) | ((with_reducible refine condP_yes ?_ ?_); (· assumption)) | ((with_reducible refine condP_no ?_ ?_); (· assumption)) | ((with_reducible refine ArP_i64 ?_ ?_); (· omega)) | ((with_reducible refine mustP.mk ?_ ?_); (· first | omega | rfl | (dsimp only; omega))) | (with_reducible first | refine EqP_nil tab_ok ?_ | refine EqP_sli tab_ok ?_ | refine DrawP_auto tab_ok (by kernel_rfl) (by decide +kernel) ?_ | refine DrawP_auto2 tab_ok (by kernel_rfl) (by decide +kernel) ?_ | refine eq27 ?_ | refine eq44 ?_ | refine eq54 ?_ | refine eq76 ?_ | refine eq134 ?_))))
  conv => whnf
  exact .inl ⟨0, rfl, rfl⟩
theorem Minus_err {A B : Option Addr} {La Lb : List Run} {c d : Nat} {G : Mem} (hA : RunsM G A La) (hB : RunsM G B Lb) (hc : La.length ≤ c) (hc' : c ≤ maxLen) (hd : Lb.length ≤ d) (hd' : d ≤ maxLen) (he : err2 La Lb ≠ 0) :
    Gives Try.prog 52 [.val (.slice A La.length c), .val (.slice B Lb.length d)] G (.tup [.val (.slice none 0 0), .val (.int .i64 (err2 La Lb))]) := by
  have g := both_err 68 hA hB hc hc' hd hd' he
  refine Gives_of tab_ok Try.func52 ?_
  (repeat ((try (conv => whnf)); (first | (with_reducible first | refine condP_true ?_ | refine condP_false ?_ | refine condP_not ?_ | refine condP_and ?_) | ((with_reducible refine condP_dt ?_ ?_); (· omega)) | ((with_reducible refine condP_df ?_ ?_); (· omega)) | ((with_reducible refine condP_yes ?_ ?_); (· assumption)) | ((with_reducible refine condP_no ?_ ?_); (· assumption)) | ((with_reducible refine ArP_i64 ?_ ?_); (· omega)) | ((with_reducible refine mustP.mk ?_ ?_); (· first | omega | rfl | (dsimp only; omega))) | (with_reducible first | refine EqP_nil tab_ok ?_ | refine EqP_sli tab_ok ?_ | refine DrawP_auto tab_ok (by kernel_rfl) (by decide +kernel) ?_ | refine DrawP_auto2 tab_ok (by kernel_rfl) (by decide +kernel) ?_ | refine eq27 ?_ | refine eq44 ?_ | refine eq54 ?_ | refine eq76 ?_ | refine eq134 ?_ | refine CallP_gives (fun vs w => by kernel_rfl) (by kernel_rfl) (g) ?_ | refine RCallP_gives (fun vs w => by kernel_rfl) (by kernel_rfl) (g) ?_))))
  exact ⟨rfl, rfl⟩
end Go.Proofs.Ytbkhpddodmbdoaa
