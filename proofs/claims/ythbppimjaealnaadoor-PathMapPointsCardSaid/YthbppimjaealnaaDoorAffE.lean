/-
  affine.Check, affine.Apply, and the reference's MapCheck and Apply, as the engine takes them.
-/
import Derived.Test.YthbppimjaealnaaDoorNumE
import Derived.Test.YthbppimjaealnaaDoorDown
import Derived.Test.YthbppimjaealnaaDoorEz
import Derived.Test.YthbppimjaealnaaDoorEw
namespace Go.Proofs.YthbppimjaealnaaDoor
open Go.RowKit
set_option linter.unusedVariables false
set_option linter.unusedSimpArgs false
set_option maxRecDepth 20000
structure MatD where
  a : Int
  b : Int
  c : Int
  d : Int
  e : Int
  f : Int
abbrev matA (a b c d e f : Int) : AV := .agg [.val (.int .i64 a), .val (.int .i64 b), .val (.int .i64 c), .val (.int .i64 d), .val (.int .i64 e), .val (.int .i64 f)]
abbrev pntA (x y : Int) : AV := .agg [.val (.int .i64 x), .val (.int .i64 y)]
def matG (m : MatD) : Prop := (-1048576 ≤ m.a ∧ m.a ≤ 1048576) ∧ (-1048576 ≤ m.b ∧ m.b ≤ 1048576) ∧ (-1048576 ≤ m.c ∧ m.c ≤ 1048576) ∧ (-1048576 ≤ m.d ∧ m.d ≤ 1048576) ∧ (-268435456 ≤ m.e ∧ m.e ≤ 268435456) ∧ (-268435456 ≤ m.f ∧ m.f ≤ 268435456)
def pntG (x y : Int) : Prop := (-32767 ≤ x ∧ x ≤ 32767) ∧ (-32767 ≤ y ∧ y ≤ 32767)
instance (m : MatD) : Decidable (matG m) := by unfold matG; infer_instance
instance (x y : Int) : Decidable (pntG x y) := by unfold pntG; infer_instance
noncomputable def matR (m : MatD) : Int := if matG m then 0 else 3
noncomputable def apX (m : MatD) (x y : Int) : Int := near (m.a * x + m.c * y + m.e) 4096
noncomputable def apY (m : MatD) (x y : Int) : Int := near (m.b * x + m.d * y + m.f) 4096
noncomputable def apE (m : MatD) (x y : Int) : Int := if ¬ (matG m ∧ pntG x y) then 3 else if pntG (apX m x y) (apY m x y) then 0 else 10
theorem mulB {a x A B : Int} (ha : -A ≤ a ∧ a ≤ A) (hx : -B ≤ x ∧ x ≤ B) (hA : 0 ≤ A := by omega) (hB : 0 ≤ B := by omega) : -(A * B) ≤ a * x ∧ a * x ≤ A * B := by
  have h1 : a.natAbs * x.natAbs ≤ A.natAbs * B.natAbs := Nat.mul_le_mul (by omega) (by omega)
  rw [← Int.natAbs_mul, ← Int.natAbs_mul] at h1
  have h2 : 0 ≤ A * B := Int.mul_nonneg hA hB
  omega
theorem near_in {a : Int} (h : -137438953472 ≤ a ∧ a ≤ 137438953472) : -33554433 ≤ near a 4096 ∧ near a 4096 ≤ 33554433 := by
  unfold near
  split <;> omega
theorem DownG {a b : Int} {G : Mem} (ha : -4611686018427387904 ≤ a ∧ a ≤ 4611686018427387904) (hb : 1 ≤ b ∧ b ≤ 4611686018427387904) : Gives Tryd.prog 43 [.val (.int .i64 a), .val (.int .i64 b)] G (.val (.int .i64 (a / b))) :=
  Gives.of_calls (args := [.int .i64 a, .int .i64 b]) fun w _ => (Down_any a b w ha hb).mono fun _ _ h => ⟨h.1, h.2 ▸ Below.refl _ _⟩
section
variable {m : MatD} {x y : Int} {G : Mem}
set_option maxHeartbeats 8000000 in
theorem ACheck_gives : Gives Tryd.prog 32 [matA m.a m.b m.c m.d m.e m.f] G (.val (.int .i64 (matR m))) := by
  refine Gives_of tab_ok Tryd.func32 ?_
  unfold matR
  by_cases h : matG m
  · rw [if_pos h]
    unfold matG at h
    obtain ⟨a, b, c, d, e, f⟩ := m
    dsimp only at h ⊢
    (repeat ((try (conv => whnf)); (first | (with_reducible refine LoopP_step tab_ok ?_) | (with_reducible refine condP_true ?_) | (with_reducible refine condP_false ?_) | (with_reducible refine condP_not ?_) | (with_reducible refine condP_and ?_) | ((with_reducible refine condP_dt ?_ ?_); (· omega)) | ((with_reducible refine condP_df ?_ ?_); (· omega)) | ((with_reducible refine condP_yes ?_ ?_); (· assumption)) | ((with_reducible refine condP_no ?_ ?_); (· assumption)) | ((with_reducible refine ArP_i64 ?_ ?_); (· omega)) | ((with_reducible refine mustP.mk ?_ ?_); (· first | omega | rfl | (dsimp only; omega))) | (with_reducible refine EqP_nil tab_ok ?_) | (with_reducible refine EqP_sli tab_ok ?_) | (with_reducible refine DrawP_auto tab_ok (by kernel_rfl) (by decide +kernel) ?_) | (with_reducible refine DrawP_auto2 tab_ok (by kernel_rfl) (by decide +kernel) ?_) | (with_reducible refine eq34 ?_) | (with_reducible refine eq36 ?_) | (with_reducible refine eq46 ?_) | (with_reducible refine CallP_enter tab_ok Tryd.func41 (fun vs w => by kernel_rfl) (by rfl) ?_))))
    exact ⟨rfl, rfl⟩
  · rw [if_neg h]
    unfold matG at h
    obtain ⟨a, b, c, d, e, f⟩ := m
    dsimp only at h ⊢
    (repeat' ((try (conv => whnf)); (first | (with_reducible refine LoopP_step tab_ok ?_) | (with_reducible refine condP_true ?_) | (with_reducible refine condP_false ?_) | (with_reducible refine condP_not ?_) | (with_reducible refine condP_and ?_) | ((with_reducible refine condP_dt ?_ ?_); (· omega)) | ((with_reducible refine condP_df ?_ ?_); (· omega)) | ((with_reducible refine condP_yes ?_ ?_); (· assumption)) | ((with_reducible refine condP_no ?_ ?_); (· assumption)) | ((with_reducible refine ArP_i64 ?_ ?_); (· omega)) | ((with_reducible refine mustP.mk ?_ ?_); (· first | omega | rfl | (dsimp only; omega))) | (with_reducible refine EqP_nil tab_ok ?_) | (with_reducible refine EqP_sli tab_ok ?_) | (with_reducible refine DrawP_auto tab_ok (by kernel_rfl) (by decide +kernel) ?_) | (with_reducible refine DrawP_auto2 tab_ok (by kernel_rfl) (by decide +kernel) ?_) | (with_reducible refine eq34 ?_) | (with_reducible refine eq36 ?_) | (with_reducible refine eq46 ?_) | (with_reducible refine CallP_enter tab_ok Tryd.func41 (fun vs w => by kernel_rfl) (by rfl) ?_) | (with_reducible refine condP_dec (fun h0 => ?_) (fun h0 => ?_)))))
    all_goals (try (conv => whnf))
    all_goals first | exact ⟨rfl, rfl⟩ | (exfalso; omega) | skip
set_option maxHeartbeats 8000000 in
theorem RMapCheck_gives : Gives Tryd.prog 34 [matA m.a m.b m.c m.d m.e m.f] G (.val (.int .i64 (matR m))) := by
  refine Gives_of tab_ok Tryd.func34 ?_
  unfold matR
  by_cases h : matG m
  · rw [if_pos h]
    unfold matG at h
    obtain ⟨a, b, c, d, e, f⟩ := m
    dsimp only at h ⊢
    (repeat ((try (conv => whnf)); (first | (with_reducible refine condP_true ?_) | (with_reducible refine condP_false ?_) | (with_reducible refine condP_not ?_) | (with_reducible refine condP_and ?_) | ((with_reducible refine condP_dt ?_ ?_); (· omega)) | ((with_reducible refine condP_df ?_ ?_); (· omega)) | ((with_reducible refine condP_yes ?_ ?_); (· assumption)) | ((with_reducible refine condP_no ?_ ?_); (· assumption)) | ((with_reducible refine ArP_i64 ?_ ?_); (· omega)) | ((with_reducible refine mustP.mk ?_ ?_); (· first | omega | rfl | (dsimp only; omega))) | (with_reducible refine EqP_nil tab_ok ?_) | (with_reducible refine EqP_sli tab_ok ?_) | (with_reducible refine DrawP_auto tab_ok (by kernel_rfl) (by decide +kernel) ?_) | (with_reducible refine DrawP_auto2 tab_ok (by kernel_rfl) (by decide +kernel) ?_) | (with_reducible refine eq34 ?_) | (with_reducible refine eq36 ?_) | (with_reducible refine eq46 ?_) | (with_reducible refine CallP_enter tab_ok Tryd.func28 (fun vs w => by kernel_rfl) (by rfl) ?_))))
    exact ⟨rfl, rfl⟩
  · rw [if_neg h]
    unfold matG at h
    obtain ⟨a, b, c, d, e, f⟩ := m
    dsimp only at h ⊢
    (repeat' ((try (conv => whnf)); (first | (with_reducible refine condP_true ?_) | (with_reducible refine condP_false ?_) | (with_reducible refine condP_not ?_) | (with_reducible refine condP_and ?_) | ((with_reducible refine condP_dt ?_ ?_); (· omega)) | ((with_reducible refine condP_df ?_ ?_); (· omega)) | ((with_reducible refine condP_yes ?_ ?_); (· assumption)) | ((with_reducible refine condP_no ?_ ?_); (· assumption)) | ((with_reducible refine ArP_i64 ?_ ?_); (· omega)) | ((with_reducible refine mustP.mk ?_ ?_); (· first | omega | rfl | (dsimp only; omega))) | (with_reducible refine EqP_nil tab_ok ?_) | (with_reducible refine EqP_sli tab_ok ?_) | (with_reducible refine DrawP_auto tab_ok (by kernel_rfl) (by decide +kernel) ?_) | (with_reducible refine DrawP_auto2 tab_ok (by kernel_rfl) (by decide +kernel) ?_) | (with_reducible refine eq34 ?_) | (with_reducible refine eq36 ?_) | (with_reducible refine eq46 ?_) | (with_reducible refine CallP_enter tab_ok Tryd.func28 (fun vs w => by kernel_rfl) (by rfl) ?_) | (with_reducible refine condP_dec (fun h0 => ?_) (fun h0 => ?_)))))
    all_goals (try (conv => whnf))
    all_goals first | exact ⟨rfl, rfl⟩ | (exfalso; omega) | skip
noncomputable def apV (m : MatD) (x y : Int) : AV := .tup [pntA (if apE m x y = 0 then apX m x y else 0) (if apE m x y = 0 then apY m x y else 0), .val (.int .i64 (apE m x y))]
set_option maxHeartbeats 8000000 in
theorem AApply_gives : Gives Tryd.prog 33 [matA m.a m.b m.c m.d m.e m.f, pntA x y] G (apV m x y) := by
  have gc := ACheck_gives (m := m) (G := G)
  refine Gives_of tab_ok Tryd.func33 ?_
  unfold apV
  by_cases hm : matG m
  · have hr : matR m = 0 := by unfold matR; rw [if_pos hm]
    rw [hr] at gc
    by_cases hp : pntG x y
    · have he : apE m x y = if pntG (apX m x y) (apY m x y) then 0 else 10 := by unfold apE; rw [if_neg (by simp [hm, hp])]
      obtain ⟨h1, h2, h3, h4, h5, h6⟩ := hm
      obtain ⟨h7, h8⟩ := hp
      have p1 := mulB h1 h7
      have p2 := mulB h3 h8
      have p3 := mulB h2 h7
      have p4 := mulB h4 h8
      have g1 := Near_gives (a := m.a * x + m.c * y + m.e) (b := 4096) (G := G) (by omega) (by omega)
      have g2 := Near_gives (a := m.b * x + m.d * y + m.f) (b := 4096) (G := G) (by omega) (by omega)
      have b1 := near_in (a := m.a * x + m.c * y + m.e) (by omega)
      have b2 := near_in (a := m.b * x + m.d * y + m.f) (by omega)
      have e1 : apX m x y = near (m.a * x + m.c * y + m.e) 4096 := rfl
      have e2 : apY m x y = near (m.b * x + m.d * y + m.f) 4096 := rfl
      rw [← e1] at g1 b1
      rw [← e2] at g2 b2
      clear e1 e2
      generalize apE m x y = E at *
      generalize apX m x y = X at *
      generalize apY m x y = Y at *
      by_cases hq : pntG X Y
      · rw [if_pos hq] at he
        subst he
        obtain ⟨k1, k2⟩ := hq
        (repeat ((try (conv => whnf)); (first | (with_reducible refine condP_true ?_) | (with_reducible refine condP_false ?_) | (with_reducible refine condP_not ?_) | (with_reducible refine condP_and ?_) | ((with_reducible refine condP_dt ?_ ?_); (· omega)) | ((with_reducible refine condP_df ?_ ?_); (· omega)) | ((with_reducible refine condP_yes ?_ ?_); (· assumption)) | ((with_reducible refine condP_no ?_ ?_); (· assumption)) | ((with_reducible refine ArP_i64 ?_ ?_); (· omega)) | ((with_reducible refine mustP.mk ?_ ?_); (· first | omega | rfl | (dsimp only; omega))) | (with_reducible refine EqP_nil tab_ok ?_) | (with_reducible refine EqP_sli tab_ok ?_) | (with_reducible refine DrawP_auto tab_ok (by kernel_rfl) (by decide +kernel) ?_) | (with_reducible refine DrawP_auto2 tab_ok (by kernel_rfl) (by decide +kernel) ?_) | (with_reducible refine eq34 ?_) | (with_reducible refine eq36 ?_) | (with_reducible refine eq46 ?_) | (with_reducible refine CallP_gives (fun vs w => by kernel_rfl) (by kernel_rfl) (gc) ?_) | (with_reducible refine RCallP_gives (fun vs w => by kernel_rfl) (by kernel_rfl) (gc) ?_) | (with_reducible refine CallP_enter tab_ok Tryd.func41 (fun vs w => by kernel_rfl) (by rfl) ?_) | (with_reducible refine CallP_gives (fun vs w => by kernel_rfl) (by kernel_rfl) (g1) ?_) | (with_reducible refine RCallP_gives (fun vs w => by kernel_rfl) (by kernel_rfl) (g1) ?_) | (with_reducible refine CallP_gives (fun vs w => by kernel_rfl) (by kernel_rfl) (g2) ?_) | (with_reducible refine RCallP_gives (fun vs w => by kernel_rfl) (by kernel_rfl) (g2) ?_))))
        exact ⟨rfl, rfl⟩
      · rw [if_neg hq] at he
        subst he
        unfold pntG at hq
        (repeat' ((try (conv => whnf)); (first | (with_reducible refine condP_true ?_) | (with_reducible refine condP_false ?_) | (with_reducible refine condP_not ?_) | (with_reducible refine condP_and ?_) | ((with_reducible refine condP_dt ?_ ?_); (· omega)) | ((with_reducible refine condP_df ?_ ?_); (· omega)) | ((with_reducible refine condP_yes ?_ ?_); (· assumption)) | ((with_reducible refine condP_no ?_ ?_); (· assumption)) | ((with_reducible refine ArP_i64 ?_ ?_); (· omega)) | ((with_reducible refine mustP.mk ?_ ?_); (· first | omega | rfl | (dsimp only; omega))) | (with_reducible refine EqP_nil tab_ok ?_) | (with_reducible refine EqP_sli tab_ok ?_) | (with_reducible refine DrawP_auto tab_ok (by kernel_rfl) (by decide +kernel) ?_) | (with_reducible refine DrawP_auto2 tab_ok (by kernel_rfl) (by decide +kernel) ?_) | (with_reducible refine eq34 ?_) | (with_reducible refine eq36 ?_) | (with_reducible refine eq46 ?_) | (with_reducible refine CallP_gives (fun vs w => by kernel_rfl) (by kernel_rfl) (gc) ?_) | (with_reducible refine RCallP_gives (fun vs w => by kernel_rfl) (by kernel_rfl) (gc) ?_) | (with_reducible refine CallP_enter tab_ok Tryd.func41 (fun vs w => by kernel_rfl) (by rfl) ?_) | (with_reducible refine CallP_gives (fun vs w => by kernel_rfl) (by kernel_rfl) (g1) ?_) | (with_reducible refine RCallP_gives (fun vs w => by kernel_rfl) (by kernel_rfl) (g1) ?_) | (with_reducible refine CallP_gives (fun vs w => by kernel_rfl) (by kernel_rfl) (g2) ?_) | (with_reducible refine RCallP_gives (fun vs w => by kernel_rfl) (by kernel_rfl) (g2) ?_) | (with_reducible refine condP_dec (fun h0 => ?_) (fun h0 => ?_)))))
        all_goals (try (conv => whnf))
        all_goals first | exact ⟨rfl, rfl⟩ | (exfalso; omega) | skip
    · have he : apE m x y = 3 := by unfold apE; rw [if_pos (by simp [hp])]
      rw [he]
      clear he
      unfold pntG at hp
      (repeat' ((try (conv => whnf)); (first | (with_reducible refine condP_true ?_) | (with_reducible refine condP_false ?_) | (with_reducible refine condP_not ?_) | (with_reducible refine condP_and ?_) | ((with_reducible refine condP_dt ?_ ?_); (· omega)) | ((with_reducible refine condP_df ?_ ?_); (· omega)) | ((with_reducible refine condP_yes ?_ ?_); (· assumption)) | ((with_reducible refine condP_no ?_ ?_); (· assumption)) | ((with_reducible refine ArP_i64 ?_ ?_); (· omega)) | ((with_reducible refine mustP.mk ?_ ?_); (· first | omega | rfl | (dsimp only; omega))) | (with_reducible refine EqP_nil tab_ok ?_) | (with_reducible refine EqP_sli tab_ok ?_) | (with_reducible refine DrawP_auto tab_ok (by kernel_rfl) (by decide +kernel) ?_) | (with_reducible refine DrawP_auto2 tab_ok (by kernel_rfl) (by decide +kernel) ?_) | (with_reducible refine eq34 ?_) | (with_reducible refine eq36 ?_) | (with_reducible refine eq46 ?_) | (with_reducible refine CallP_gives (fun vs w => by kernel_rfl) (by kernel_rfl) (gc) ?_) | (with_reducible refine RCallP_gives (fun vs w => by kernel_rfl) (by kernel_rfl) (gc) ?_) | (with_reducible refine CallP_enter tab_ok Tryd.func41 (fun vs w => by kernel_rfl) (by rfl) ?_) | (with_reducible refine condP_dec (fun h0 => ?_) (fun h0 => ?_)))))
      all_goals (try (conv => whnf))
      all_goals first | exact ⟨rfl, rfl⟩ | (exfalso; omega) | skip
  · have hr : matR m = 3 := by unfold matR; rw [if_neg hm]
    have he : apE m x y = 3 := by unfold apE; rw [if_pos (by simp [hm])]
    rw [he]
    rw [hr] at gc
    clear he
    (repeat ((try (conv => whnf)); (first | (with_reducible refine condP_true ?_) | (with_reducible refine condP_false ?_) | (with_reducible refine condP_not ?_) | (with_reducible refine condP_and ?_) | ((with_reducible refine condP_dt ?_ ?_); (· omega)) | ((with_reducible refine condP_df ?_ ?_); (· omega)) | ((with_reducible refine condP_yes ?_ ?_); (· assumption)) | ((with_reducible refine condP_no ?_ ?_); (· assumption)) | ((with_reducible refine ArP_i64 ?_ ?_); (· omega)) | ((with_reducible refine mustP.mk ?_ ?_); (· first | omega | rfl | (dsimp only; omega))) | (with_reducible refine EqP_nil tab_ok ?_) | (with_reducible refine EqP_sli tab_ok ?_) | (with_reducible refine DrawP_auto tab_ok (by kernel_rfl) (by decide +kernel) ?_) | (with_reducible refine DrawP_auto2 tab_ok (by kernel_rfl) (by decide +kernel) ?_) | (with_reducible refine eq34 ?_) | (with_reducible refine eq36 ?_) | (with_reducible refine eq46 ?_) | (with_reducible refine CallP_gives (fun vs w => by kernel_rfl) (by kernel_rfl) (gc) ?_) | (with_reducible refine RCallP_gives (fun vs w => by kernel_rfl) (by kernel_rfl) (gc) ?_))))
    exact ⟨rfl, rfl⟩
set_option maxHeartbeats 8000000 in
theorem RApply_gives : Gives Tryd.prog 35 [matA m.a m.b m.c m.d m.e m.f, pntA x y] G (apV m x y) := by
  have gc := RMapCheck_gives (m := m) (G := G)
  refine Gives_of tab_ok Tryd.func35 ?_
  unfold apV
  by_cases hm : matG m
  · have hr : matR m = 0 := by unfold matR; rw [if_pos hm]
    rw [hr] at gc
    by_cases hp : pntG x y
    · have he : apE m x y = if pntG (apX m x y) (apY m x y) then 0 else 10 := by unfold apE; rw [if_neg (by simp [hm, hp])]
      obtain ⟨h1, h2, h3, h4, h5, h6⟩ := hm
      obtain ⟨h7, h8⟩ := hp
      have p1 := mulB h1 h7
      have p2 := mulB h3 h8
      have p3 := mulB h2 h7
      have p4 := mulB h4 h8
      have g1 := DownG (a := 2 * (m.a * x + m.c * y + m.e) + 4096) (b := 8192) (G := G) (by omega) (by omega)
      have g2 := DownG (a := 2 * (m.b * x + m.d * y + m.f) + 4096) (b := 8192) (G := G) (by omega) (by omega)
      have b1 := near_in (a := m.a * x + m.c * y + m.e) (by omega)
      have b2 := near_in (a := m.b * x + m.d * y + m.f) (by omega)
      have e1 : (2 * (m.a * x + m.c * y + m.e) + 4096) / 8192 = apX m x y := near_eq _ 4096 (by omega)
      have e2 : (2 * (m.b * x + m.d * y + m.f) + 4096) / 8192 = apY m x y := near_eq _ 4096 (by omega)
      rw [e1] at g1
      rw [e2] at g2
      have b1 : -33554433 ≤ apX m x y ∧ apX m x y ≤ 33554433 := b1
      have b2 : -33554433 ≤ apY m x y ∧ apY m x y ≤ 33554433 := b2
      clear e1 e2
      generalize apE m x y = E at *
      generalize apX m x y = X at *
      generalize apY m x y = Y at *
      by_cases hq : pntG X Y
      · rw [if_pos hq] at he
        subst he
        obtain ⟨k1, k2⟩ := hq
        (repeat ((try (conv => whnf)); (first | (with_reducible refine condP_true ?_) | (with_reducible refine condP_false ?_) | (with_reducible refine condP_not ?_) | (with_reducible refine condP_and ?_) | ((with_reducible refine condP_dt ?_ ?_); (· omega)) | ((with_reducible refine condP_df ?_ ?_); (· omega)) | ((with_reducible refine condP_yes ?_ ?_); (· assumption)) | ((with_reducible refine condP_no ?_ ?_); (· assumption)) | ((with_reducible refine ArP_i64 ?_ ?_); (· omega)) | ((with_reducible refine mustP.mk ?_ ?_); (· first | omega | rfl | (dsimp only; omega))) | (with_reducible refine EqP_nil tab_ok ?_) | (with_reducible refine EqP_sli tab_ok ?_) | (with_reducible refine DrawP_auto tab_ok (by kernel_rfl) (by decide +kernel) ?_) | (with_reducible refine DrawP_auto2 tab_ok (by kernel_rfl) (by decide +kernel) ?_) | (with_reducible refine eq34 ?_) | (with_reducible refine eq36 ?_) | (with_reducible refine eq46 ?_) | (with_reducible refine CallP_gives (fun vs w => by kernel_rfl) (by kernel_rfl) (gc) ?_) | (with_reducible refine RCallP_gives (fun vs w => by kernel_rfl) (by kernel_rfl) (gc) ?_) | (with_reducible refine CallP_enter tab_ok Tryd.func28 (fun vs w => by kernel_rfl) (by rfl) ?_) | (with_reducible refine CallP_enter tab_ok Tryd.func13 (fun vs w => by kernel_rfl) (by rfl) ?_) | (with_reducible refine CallP_gives (fun vs w => by kernel_rfl) (by kernel_rfl) (g1) ?_) | (with_reducible refine RCallP_gives (fun vs w => by kernel_rfl) (by kernel_rfl) (g1) ?_) | (with_reducible refine CallP_gives (fun vs w => by kernel_rfl) (by kernel_rfl) (g2) ?_) | (with_reducible refine RCallP_gives (fun vs w => by kernel_rfl) (by kernel_rfl) (g2) ?_))))
        exact ⟨rfl, rfl⟩
      · rw [if_neg hq] at he
        subst he
        unfold pntG at hq
        (repeat' ((try (conv => whnf)); (first | (with_reducible refine condP_true ?_) | (with_reducible refine condP_false ?_) | (with_reducible refine condP_not ?_) | (with_reducible refine condP_and ?_) | ((with_reducible refine condP_dt ?_ ?_); (· omega)) | ((with_reducible refine condP_df ?_ ?_); (· omega)) | ((with_reducible refine condP_yes ?_ ?_); (· assumption)) | ((with_reducible refine condP_no ?_ ?_); (· assumption)) | ((with_reducible refine ArP_i64 ?_ ?_); (· omega)) | ((with_reducible refine mustP.mk ?_ ?_); (· first | omega | rfl | (dsimp only; omega))) | (with_reducible refine EqP_nil tab_ok ?_) | (with_reducible refine EqP_sli tab_ok ?_) | (with_reducible refine DrawP_auto tab_ok (by kernel_rfl) (by decide +kernel) ?_) | (with_reducible refine DrawP_auto2 tab_ok (by kernel_rfl) (by decide +kernel) ?_) | (with_reducible refine eq34 ?_) | (with_reducible refine eq36 ?_) | (with_reducible refine eq46 ?_) | (with_reducible refine CallP_gives (fun vs w => by kernel_rfl) (by kernel_rfl) (gc) ?_) | (with_reducible refine RCallP_gives (fun vs w => by kernel_rfl) (by kernel_rfl) (gc) ?_) | (with_reducible refine CallP_enter tab_ok Tryd.func28 (fun vs w => by kernel_rfl) (by rfl) ?_) | (with_reducible refine CallP_enter tab_ok Tryd.func13 (fun vs w => by kernel_rfl) (by rfl) ?_) | (with_reducible refine CallP_gives (fun vs w => by kernel_rfl) (by kernel_rfl) (g1) ?_) | (with_reducible refine RCallP_gives (fun vs w => by kernel_rfl) (by kernel_rfl) (g1) ?_) | (with_reducible refine CallP_gives (fun vs w => by kernel_rfl) (by kernel_rfl) (g2) ?_) | (with_reducible refine RCallP_gives (fun vs w => by kernel_rfl) (by kernel_rfl) (g2) ?_) | (with_reducible refine condP_dec (fun h0 => ?_) (fun h0 => ?_)))))
        all_goals (try (conv => whnf))
        all_goals first | exact ⟨rfl, rfl⟩ | (exfalso; omega) | skip
    · have he : apE m x y = 3 := by unfold apE; rw [if_pos (by simp [hp])]
      rw [he]
      clear he
      unfold pntG at hp
      (repeat' ((try (conv => whnf)); (first | (with_reducible refine condP_true ?_) | (with_reducible refine condP_false ?_) | (with_reducible refine condP_not ?_) | (with_reducible refine condP_and ?_) | ((with_reducible refine condP_dt ?_ ?_); (· omega)) | ((with_reducible refine condP_df ?_ ?_); (· omega)) | ((with_reducible refine condP_yes ?_ ?_); (· assumption)) | ((with_reducible refine condP_no ?_ ?_); (· assumption)) | ((with_reducible refine ArP_i64 ?_ ?_); (· omega)) | ((with_reducible refine mustP.mk ?_ ?_); (· first | omega | rfl | (dsimp only; omega))) | (with_reducible refine EqP_nil tab_ok ?_) | (with_reducible refine EqP_sli tab_ok ?_) | (with_reducible refine DrawP_auto tab_ok (by kernel_rfl) (by decide +kernel) ?_) | (with_reducible refine DrawP_auto2 tab_ok (by kernel_rfl) (by decide +kernel) ?_) | (with_reducible refine eq34 ?_) | (with_reducible refine eq36 ?_) | (with_reducible refine eq46 ?_) | (with_reducible refine CallP_gives (fun vs w => by kernel_rfl) (by kernel_rfl) (gc) ?_) | (with_reducible refine RCallP_gives (fun vs w => by kernel_rfl) (by kernel_rfl) (gc) ?_) | (with_reducible refine CallP_enter tab_ok Tryd.func28 (fun vs w => by kernel_rfl) (by rfl) ?_) | (with_reducible refine CallP_enter tab_ok Tryd.func13 (fun vs w => by kernel_rfl) (by rfl) ?_) | (with_reducible refine condP_dec (fun h0 => ?_) (fun h0 => ?_)))))
      all_goals (try (conv => whnf))
      all_goals first | exact ⟨rfl, rfl⟩ | (exfalso; omega) | skip
  · have hr : matR m = 3 := by unfold matR; rw [if_neg hm]
    have he : apE m x y = 3 := by unfold apE; rw [if_pos (by simp [hm])]
    rw [he]
    rw [hr] at gc
    clear he
    (repeat ((try (conv => whnf)); (first | (with_reducible refine condP_true ?_) | (with_reducible refine condP_false ?_) | (with_reducible refine condP_not ?_) | (with_reducible refine condP_and ?_) | ((with_reducible refine condP_dt ?_ ?_); (· omega)) | ((with_reducible refine condP_df ?_ ?_); (· omega)) | ((with_reducible refine condP_yes ?_ ?_); (· assumption)) | ((with_reducible refine condP_no ?_ ?_); (· assumption)) | ((with_reducible refine ArP_i64 ?_ ?_); (· omega)) | ((with_reducible refine mustP.mk ?_ ?_); (· first | omega | rfl | (dsimp only; omega))) | (with_reducible refine EqP_nil tab_ok ?_) | (with_reducible refine EqP_sli tab_ok ?_) | (with_reducible refine DrawP_auto tab_ok (by kernel_rfl) (by decide +kernel) ?_) | (with_reducible refine DrawP_auto2 tab_ok (by kernel_rfl) (by decide +kernel) ?_) | (with_reducible refine eq34 ?_) | (with_reducible refine eq36 ?_) | (with_reducible refine eq46 ?_) | (with_reducible refine CallP_gives (fun vs w => by kernel_rfl) (by kernel_rfl) (gc) ?_) | (with_reducible refine RCallP_gives (fun vs w => by kernel_rfl) (by kernel_rfl) (gc) ?_))))
    exact ⟨rfl, rfl⟩
end
end Go.Proofs.YthbppimjaealnaaDoor
