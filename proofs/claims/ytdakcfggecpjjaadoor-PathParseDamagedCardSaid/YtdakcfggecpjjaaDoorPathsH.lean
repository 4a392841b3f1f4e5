/-
  The law's helper paths: a rectangle, and its text.
-/
import Derived.Test.YtdakcfggecpjjaaDoorTab
import Derived.Test.YtdakcfggecpjjaaDoorEw
import Derived.Test.YtdakcfggecpjjaaDoorArg
import Derived.Test.YtdakcfggecpjjaaDoorFreeze
import Derived.Test.YtdakcfggecpjjaaDoorShelf
namespace Go.Proofs.YtdakcfggecpjjaaDoor
open Go.RowKit Go.Lib
set_option linter.unusedVariables false
set_option linter.unusedSimpArgs false
set_option maxRecDepth 20000
section
variable {G : Mem}
theorem Itoa_small {i : Nat} (hi : i < 100) : Gives Tryd.prog 23 [.val (.int .i64 i)] G (.val (.string ⟨(Lib.decDigits i).toArray⟩)) :=
  Gives.of_calls (args := [.int .i64 i]) fun w _ => (Tryd.strconv_Itoa_small i hi w).mono fun _ _ h => ⟨h.1, by rw [h.2]; exact Below.refl _ _⟩
theorem Itoa_0 : Gives Tryd.prog 23 [.val (.int .i64 0)] G (.val (.string ⟨#[48]⟩)) := by
  have h := Itoa_small (i := 0) (G := G) (by omega)
  rwa [show (⟨(Lib.decDigits 0).toArray⟩ : ByteArray) = ⟨#[48]⟩ by kernel_rfl] at h
theorem Itoa_2 : Gives Tryd.prog 23 [.val (.int .i64 2)] G (.val (.string ⟨#[50]⟩)) := by
  have h := Itoa_small (i := 2) (G := G) (by omega)
  rwa [show (⟨(Lib.decDigits 2).toArray⟩ : ByteArray) = ⟨#[50]⟩ by kernel_rfl] at h
theorem Itoa_4 : Gives Tryd.prog 23 [.val (.int .i64 4)] G (.val (.string ⟨#[52]⟩)) := by
  have h := Itoa_small (i := 4) (G := G) (by omega)
  rwa [show (⟨(Lib.decDigits 4).toArray⟩ : ByteArray) = ⟨#[52]⟩ by kernel_rfl] at h
/-- strings.Join of a row that stands. -/
theorem Join_gives {A : Option Addr} {c : Nat} {xs : List ByteArray} {sep : ByteArray} (h : RowM G A (xs.map .string)) (hc : xs.length ≤ c) (hN : xs.length ≤ 140737488355328) (hlen : (Lib.join (xs.map (·.data.toList)) sep.data.toList).length ≤ 140737488355328) :
    Gives Tryd.prog 24 [.val (.slice A xs.length c), .val (.string sep)] G (.val (.string ⟨(Lib.join (xs.map (·.data.toList)) sep.data.toList).toArray⟩)) := by
  refine Gives.of_calls (args := [.slice A xs.length c, .string sep]) fun w hG => ?_
  cases xs with
  | nil => exact (Tryd.strings_Join_none A c sep w).mono fun e w' ⟨he, hw⟩ => ⟨he, hw ▸ Below.refl _ _⟩
  | cons x l =>
    rcases h with ⟨_, h⟩ | ⟨b, off, rfl, h⟩
    · cases h
    · have hcell : ∀ (j : Nat) y, (x :: l)[j]? = some y → w.cell? ⟨b, off + j, none⟩ = some (.string y) := fun j y hj => hG.cell (h j (.string y) (by rw [List.getElem?_map, hj]; rfl))
      refine Tryd.strings_Join b off c (x :: l) sep w hcell ?_ hN hc hlen
      have := hcell 0 x rfl
      exact (addr_plain this).2
end
section
variable {G : Mem}
set_option maxHeartbeats 8000000 in
theorem paths_gives : Gives Tryd.prog 5 [] G (.val (.bool true)) := by
  refine Gives_of tab_ok Tryd.func5 ?_
  (repeat ((try (conv => whnf)); (first | (with_reducible refine condP_true ?_) | (with_reducible refine condP_false ?_) | (with_reducible refine condP_not ?_) | (with_reducible refine condP_and ?_) | ((with_reducible refine condP_dt ?_ ?_); (· omega)) | ((with_reducible refine condP_df ?_ ?_); (· omega)) | ((with_reducible refine condP_yes ?_ ?_); (· assumption)) | ((with_reducible refine condP_no ?_ ?_); (· assumption)) | ((with_reducible refine ArP_i64 ?_ ?_); (· omega)) | ((with_reducible refine mustP.mk ?_ ?_); (· first | omega | rfl | (dsimp only; omega))) | (with_reducible refine EqP_nil tab_ok ?_) | (with_reducible refine EqP_sli tab_ok ?_) | (with_reducible refine DrawP_auto tab_ok (by kernel_rfl) (by decide +kernel) ?_) | (with_reducible refine DrawP_auto2 tab_ok (by kernel_rfl) (by decide +kernel) ?_) | (with_reducible refine eq45 ?_) | (with_reducible refine eq62 ?_) | (with_reducible refine eq100 ?_) | (with_reducible refine CallP_enter tab_ok Tryd.func12 (fun vs w => by kernel_rfl) (by rfl) ?_) | (with_reducible refine CallP_enter tab_ok Tryd.func21 (fun vs w => by kernel_rfl) (by rfl) ?_) | (with_reducible refine CallP_enter tab_ok Tryd.func13 (fun vs w => by kernel_rfl) (by rfl) ?_) | (with_reducible refine CallP_enter tab_ok Tryd.func17 (fun vs w => by kernel_rfl) (by rfl) ?_) | (with_reducible refine CallP_enter tab_ok Tryd.func27 (fun vs w => by kernel_rfl) (by rfl) ?_) | (with_reducible refine CallP_enter tab_ok Tryd.func22 (fun vs w => by kernel_rfl) (by rfl) ?_) | (with_reducible refine CallP_gives (fun vs w => by kernel_rfl) (by kernel_rfl) (Itoa_0) ?_) | (with_reducible refine RCallP_gives (fun vs w => by kernel_rfl) (by kernel_rfl) (Itoa_0) ?_) | (with_reducible refine CallP_gives (fun vs w => by kernel_rfl) (by kernel_rfl) (Itoa_2) ?_) | (with_reducible refine RCallP_gives (fun vs w => by kernel_rfl) (by kernel_rfl) (Itoa_2) ?_) | (with_reducible refine CallP_gives (fun vs w => by kernel_rfl) (by kernel_rfl) (Itoa_4) ?_) | (with_reducible refine RCallP_gives (fun vs w => by kernel_rfl) (by kernel_rfl) (Itoa_4) ?_) | (with_reducible refine OwnCells_run ?_) | (with_reducible refine LoopP_step tab_ok ?_) | ((with_reducible refine condP_dt ?_ ?_); (· decide)) | ((with_reducible refine condP_df ?_ ?_); (· decide)) | ((with_reducible refine ArP_id ?_ ?_); (· decide)) | ((with_reducible refine mustP.mk ?_ ?_); (· decide)) | ((with_reducible refine isP.mk 0 ?_ ?_); (· decide +kernel)) | ((with_reducible refine isP.mk 1 ?_ ?_); (· decide +kernel)) | (with_reducible refine isP.mk _ (by exact rfl) ?_) | (with_reducible refine EqP_boolF (by kernel_rfl) ?_))))
  conv => whnf
  refine CallP_arg (fun vs w => by kernel_rfl) rfl (by kernel_rfl) fun A cap G1 hG1 hc hm hr => ?_
  conv => whnf
  have hj := Join_gives (c := cap) (xs := [⟨#[109]⟩, ⟨#[48]⟩, ⟨#[48]⟩, ⟨#[108]⟩, ⟨#[52]⟩, ⟨#[48]⟩, ⟨#[108]⟩, ⟨#[52]⟩, ⟨#[50]⟩, ⟨#[108]⟩, ⟨#[48]⟩, ⟨#[50]⟩, ⟨#[104]⟩]) (sep := ⟨#[32]⟩) hr hc (by simp) (by decide +kernel)
  rw [show (⟨(Lib.join (([⟨#[109]⟩, ⟨#[48]⟩, ⟨#[48]⟩, ⟨#[108]⟩, ⟨#[52]⟩, ⟨#[48]⟩, ⟨#[108]⟩, ⟨#[52]⟩, ⟨#[50]⟩, ⟨#[108]⟩, ⟨#[48]⟩, ⟨#[50]⟩, ⟨#[104]⟩] : List ByteArray).map (·.data.toList)) (⟨#[32]⟩ : ByteArray).data.toList).toArray⟩ : ByteArray) = ⟨#[109, 32, 48, 32, 48, 32, 108, 32, 52, 32, 48, 32, 108, 32, 52, 32, 50, 32, 108, 32, 48, 32, 50, 32, 104]⟩ by kernel_rfl] at hj
  refine CallP_gives (fun vs w => by kernel_rfl) (by kernel_rfl) hj ?_
  clear hj hr
  (repeat ((try (conv => whnf)); (first | (with_reducible refine condP_true ?_) | (with_reducible refine condP_false ?_) | (with_reducible refine condP_not ?_) | (with_reducible refine condP_and ?_) | ((with_reducible refine condP_dt ?_ ?_); (· omega)) | ((with_reducible refine condP_df ?_ ?_); (· omega)) | ((with_reducible refine condP_yes ?_ ?_); (· assumption)) | ((with_reducible refine condP_no ?_ ?_); (· assumption)) | ((with_reducible refine ArP_i64 ?_ ?_); (· omega)) | ((with_reducible refine mustP.mk ?_ ?_); (· first | omega | rfl | (dsimp only; omega))) | (with_reducible refine EqP_nil tab_ok ?_) | (with_reducible refine EqP_sli tab_ok ?_) | (with_reducible refine DrawP_auto tab_ok (by kernel_rfl) (by decide +kernel) ?_) | (with_reducible refine DrawP_auto2 tab_ok (by kernel_rfl) (by decide +kernel) ?_) | (with_reducible refine eq45 ?_) | (with_reducible refine eq62 ?_) | (with_reducible refine eq100 ?_) | (with_reducible refine OwnCells_run ?_) | (with_reducible refine LoopP_step tab_ok ?_) | ((with_reducible refine condP_dt ?_ ?_); (· decide)) | ((with_reducible refine condP_df ?_ ?_); (· decide)) | ((with_reducible refine ArP_id ?_ ?_); (· decide)) | ((with_reducible refine mustP.mk ?_ ?_); (· decide)) | ((with_reducible refine isP.mk 0 ?_ ?_); (· decide +kernel)) | ((with_reducible refine isP.mk 1 ?_ ?_); (· decide +kernel)) | (with_reducible refine isP.mk _ (by exact rfl) ?_) | (with_reducible refine EqP_boolF (by kernel_rfl) ?_))))
  exact ⟨by rw [beq_self_eq_true], rfl⟩
end
end Go.Proofs.YtdakcfggecpjjaaDoor
