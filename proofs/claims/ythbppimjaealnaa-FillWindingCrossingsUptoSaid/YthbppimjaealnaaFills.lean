/-
  The law's helper fills.
-/
import Derived.Test.YthbppimjaealnaaWinding
import Derived.Test.YthbppimjaealnaaArea
namespace Go.Proofs.Ythbppimjaealnaa
open Go.RowKit
set_option linter.unusedVariables false
set_option maxRecDepth 20000
/-- The triangle of the law. -/
def triL (b0 : Nat) : Nat → LineD := fun _ => ⟨some ⟨b0, 0, none⟩, 3, 3, fun i => if i = 2 then 4 else 0, fun i => if i = 0 then 0 else 4, false⟩
theorem tri_lines {G1 G2 : Mem} {b0 b1 : Nat} (h1 : ∀ (j : Nat) u, ([.int .i64 0, .int .i64 0, .int .i64 0, .int .i64 4, .int .i64 4, .int .i64 4] : List Value)[j]? = some u → G1.cell? ⟨b0, j, none⟩ = some u)
    (h2 : ∀ (j : Nat) u, ([.slice (some ⟨b0, 0, none⟩) 3 3, .bool false] : List Value)[j]? = some u → G2.cell? ⟨b1, j, none⟩ = some u) (hle : G1.le G2) : LinesM G2 (some ⟨b1, 0, none⟩) 1 (triL b0) := by
  refine ⟨⟨fun x hx => rfl, fun x hx => ⟨b1, 0, rfl, fun j v hj => ?_⟩⟩, fun x hx => ⟨fun i hi => rfl, fun i hi => ⟨b0, 0, rfl, fun j v hj => ?_⟩⟩, fun x hx => by simp [triL, maxLen]⟩
  · obtain rfl : x = 0 := by omega
    simp only [Nat.zero_mul, Nat.zero_add]
    exact h2 j v hj
  · refine hle.cell ?_
    have hi3 : i < 3 := hi
    match i, hi3, j, hj with
    | 0, _, 0, hj => exact h1 0 v hj
    | 0, _, 1, hj => exact h1 1 v hj
    | 1, _, 0, hj => exact h1 2 v hj
    | 1, _, 1, hj => exact h1 3 v hj
    | 2, _, 0, hj => exact h1 4 v hj
    | 2, _, 1, hj => exact h1 5 v hj
theorem tri_b (b0 : Nat) : linesB (triL b0) 1 = true := by kernel_rfl
theorem tri_w0 (b0 : Nat) : windN (triL b0) 0 1 1 = 1 := by kernel_rfl
theorem tri_w1 (b0 : Nat) : windN (triL b0) 1 1 1 = 0 := by kernel_rfl
theorem tri_a (b0 : Nat) : areaN (triL b0) 1 = 16 := by kernel_rfl
set_option maxHeartbeats 4000000 in
theorem fills_gives {G : Mem} : Gives Try.prog 9 [] G (.val (.bool true)) := by
  refine Gives_of tab_ok Try.func9 ?_
  (repeat ((try (conv => whnf)); (first | (with_reducible refine condP_true ?_) | (with_reducible refine condP_false ?_) | (with_reducible refine condP_not ?_) | (with_reducible refine condP_and ?_) | ((with_reducible refine condP_dt ?_ ?_); (· omega)) | ((with_reducible refine condP_df ?_ ?_); (· omega)) | ((with_reducible refine condP_yes ?_ ?_); (· assumption)) | ((with_reducible refine condP_no ?_ ?_); (· assumption)) | ((with_reducible refine ArP_i64 ?_ ?_); (· omega)) | ((with_reducible refine mustP.mk ?_ ?_); (· first | omega | rfl | (dsimp only; omega))) | (with_reducible refine EqP_nil tab_ok ?_) | (with_reducible refine EqP_sli tab_ok ?_) | (with_reducible refine DrawP_auto tab_ok (by kernel_rfl) (by decide +kernel) ?_) | (with_reducible refine DrawP_auto2 tab_ok (by kernel_rfl) (by decide +kernel) ?_) | (with_reducible refine eq55 ?_) | (with_reducible refine eq70 ?_) | (with_reducible refine eq73 ?_) | (with_reducible refine eq79 ?_) | (with_reducible refine eq112 ?_) | (with_reducible refine eq118 ?_) | (with_reducible refine eq124 ?_) | (with_reducible refine eq139 ?_) | (with_reducible refine eq142 ?_) | (with_reducible refine CallP_enter tab_ok Try.func33 (fun vs w => by kernel_rfl) (by rfl) ?_))))
  conv => whnf
  refine CallP_standIn 0 1 (xs := [.int .i64 0, .int .i64 0, .int .i64 0, .int .i64 4, .int .i64 4, .int .i64 4]) (fun vs w => by kernel_rfl) rfl rfl rfl rfl rfl fun b0 G1 hG1 hc1 => ?_
  conv => whnf
  refine CallP_stand 1 (xs := [.slice (some ⟨b0, 0, none⟩) 3 3, .bool false]) (fun vs w => by kernel_rfl) rfl rfl rfl fun b1 G2 hG2 hc2 => ?_
  conv => whnf
  have t1 := tri_lines hc1 hc2 hG2
  have g1 := Winding_gives (c := 1) (x := 0) (y := 1) t1 (by simp [maxLen]) (tri_b b0) (by simp [cntN, triL]) (by omega) (by omega)
  rw [tri_w0] at g1
  refine CallP_gives (fun vs w => by kernel_rfl) (by kernel_rfl) g1 ?_
  clear g1 t1 hc1 hc2
  (repeat ((try (conv => whnf)); (first | (with_reducible refine condP_true ?_) | (with_reducible refine condP_false ?_) | (with_reducible refine condP_not ?_) | (with_reducible refine condP_and ?_) | ((with_reducible refine condP_dt ?_ ?_); (· omega)) | ((with_reducible refine condP_df ?_ ?_); (· omega)) | ((with_reducible refine condP_yes ?_ ?_); (· assumption)) | ((with_reducible refine condP_no ?_ ?_); (· assumption)) | ((with_reducible refine ArP_i64 ?_ ?_); (· omega)) | ((with_reducible refine mustP.mk ?_ ?_); (· first | omega | rfl | (dsimp only; omega))) | (with_reducible refine EqP_nil tab_ok ?_) | (with_reducible refine EqP_sli tab_ok ?_) | (with_reducible refine DrawP_auto tab_ok (by kernel_rfl) (by decide +kernel) ?_) | (with_reducible refine DrawP_auto2 tab_ok (by kernel_rfl) (by decide +kernel) ?_) | (with_reducible refine eq55 ?_) | (with_reducible refine eq70 ?_) | (with_reducible refine eq73 ?_) | (with_reducible refine eq79 ?_) | (with_reducible refine eq112 ?_) | (with_reducible refine eq118 ?_) | (with_reducible refine eq124 ?_) | (with_reducible refine eq139 ?_) | (with_reducible refine eq142 ?_) | (with_reducible refine CallP_enter tab_ok Try.func33 (fun vs w => by kernel_rfl) (by rfl) ?_))))
  conv => whnf
  refine CallP_standIn 2 3 (xs := [.int .i64 0, .int .i64 0, .int .i64 0, .int .i64 4, .int .i64 4, .int .i64 4]) (fun vs w => by kernel_rfl) rfl rfl rfl rfl rfl fun b2 G3 hG3 hc3 => ?_
  conv => whnf
  refine CallP_stand 3 (xs := [.slice (some ⟨b2, 0, none⟩) 3 3, .bool false]) (fun vs w => by kernel_rfl) rfl rfl rfl fun b3 G4 hG4 hc4 => ?_
  conv => whnf
  have t2 := tri_lines hc3 hc4 hG4
  have g2 := Winding_gives (c := 1) (x := 1) (y := 1) t2 (by simp [maxLen]) (tri_b b2) (by simp [cntN, triL]) (by omega) (by omega)
  rw [tri_w1] at g2
  refine CallP_gives (fun vs w => by kernel_rfl) (by kernel_rfl) g2 ?_
  clear g2 t2 hc3 hc4
  (repeat ((try (conv => whnf)); (first | (with_reducible refine condP_true ?_) | (with_reducible refine condP_false ?_) | (with_reducible refine condP_not ?_) | (with_reducible refine condP_and ?_) | ((with_reducible refine condP_dt ?_ ?_); (· omega)) | ((with_reducible refine condP_df ?_ ?_); (· omega)) | ((with_reducible refine condP_yes ?_ ?_); (· assumption)) | ((with_reducible refine condP_no ?_ ?_); (· assumption)) | ((with_reducible refine ArP_i64 ?_ ?_); (· omega)) | ((with_reducible refine mustP.mk ?_ ?_); (· first | omega | rfl | (dsimp only; omega))) | (with_reducible refine EqP_nil tab_ok ?_) | (with_reducible refine EqP_sli tab_ok ?_) | (with_reducible refine DrawP_auto tab_ok (by kernel_rfl) (by decide +kernel) ?_) | (with_reducible refine DrawP_auto2 tab_ok (by kernel_rfl) (by decide +kernel) ?_) | (with_reducible refine eq55 ?_) | (with_reducible refine eq70 ?_) | (with_reducible refine eq73 ?_) | (with_reducible refine eq79 ?_) | (with_reducible refine eq112 ?_) | (with_reducible refine eq118 ?_) | (with_reducible refine eq124 ?_) | (with_reducible refine eq139 ?_) | (with_reducible refine eq142 ?_) | (with_reducible refine CallP_enter tab_ok Try.func33 (fun vs w => by kernel_rfl) (by rfl) ?_))))
  conv => whnf
  refine CallP_standIn 4 5 (xs := [.int .i64 0, .int .i64 0, .int .i64 0, .int .i64 4, .int .i64 4, .int .i64 4]) (fun vs w => by kernel_rfl) rfl rfl rfl rfl rfl fun b4 G5 hG5 hc5 => ?_
  conv => whnf
  refine CallP_stand 5 (xs := [.slice (some ⟨b4, 0, none⟩) 3 3, .bool false]) (fun vs w => by kernel_rfl) rfl rfl rfl fun b5 G6 hG6 hc6 => ?_
  conv => whnf
  have t3 := tri_lines hc5 hc6 hG6
  have g3 := Area_gives (c := 1) t3 (by simp [maxLen]) (tri_b b4)
  rw [tri_a] at g3
  refine CallP_gives (fun vs w => by kernel_rfl) (by kernel_rfl) g3 ?_
  clear g3 t3 hc5 hc6
  (repeat ((try (conv => whnf)); (first | (with_reducible refine condP_true ?_) | (with_reducible refine condP_false ?_) | (with_reducible refine condP_not ?_) | (with_reducible refine condP_and ?_) | ((with_reducible refine condP_dt ?_ ?_); (· omega)) | ((with_reducible refine condP_df ?_ ?_); (· omega)) | ((with_reducible refine condP_yes ?_ ?_); (· assumption)) | ((with_reducible refine condP_no ?_ ?_); (· assumption)) | ((with_reducible refine ArP_i64 ?_ ?_); (· omega)) | ((with_reducible refine mustP.mk ?_ ?_); (· first | omega | rfl | (dsimp only; omega))) | (with_reducible refine EqP_nil tab_ok ?_) | (with_reducible refine EqP_sli tab_ok ?_) | (with_reducible refine DrawP_auto tab_ok (by kernel_rfl) (by decide +kernel) ?_) | (with_reducible refine DrawP_auto2 tab_ok (by kernel_rfl) (by decide +kernel) ?_) | (with_reducible refine eq55 ?_) | (with_reducible refine eq70 ?_) | (with_reducible refine eq73 ?_) | (with_reducible refine eq79 ?_) | (with_reducible refine eq112 ?_) | (with_reducible refine eq118 ?_) | (with_reducible refine eq124 ?_) | (with_reducible refine eq139 ?_) | (with_reducible refine eq142 ?_) | (with_reducible refine OwnCells_run ?_) | (with_reducible refine LoopP_step tab_ok ?_) | ((with_reducible refine condP_dt ?_ ?_); (· decide)) | ((with_reducible refine condP_df ?_ ?_); (· decide)) | ((with_reducible refine ArP_id ?_ ?_); (· decide)) | ((with_reducible refine mustP.mk ?_ ?_); (· decide)) | ((with_reducible refine isP.mk 0 ?_ ?_); (· decide +kernel)) | ((with_reducible refine isP.mk 1 ?_ ?_); (· decide +kernel)) | (with_reducible refine isP.mk _ (by exact rfl) ?_) | (with_reducible refine EqP_boolF (by kernel_rfl) ?_))))
  exact ⟨rfl, rfl⟩
end Go.Proofs.Ythbppimjaealnaa
