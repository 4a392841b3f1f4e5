/-
  conic: the points of a curve.
-/
import Derived.Test.YtpgjbfbdappniaaNumE
import Derived.Test.YtpgjbfbdappniaaHalf
import Derived.Test.YtpgjbfbdappniaaEz
import Derived.Test.YtpgjbfbdappniaaPts
namespace Go.Proofs.Ytpgjbfbdappniaa
open Go.RowKit
set_option linter.unusedVariables false
set_option maxRecDepth 20000
theorem HalfC_gives {a b : Int} {G : Mem} (ha : -4611686018427387904 ≤ a ∧ a ≤ 4611686018427387904) (hb : 1 ≤ b ∧ b ≤ 4611686018427387904) : Gives Try.prog 40 [.val (.int .i64 a), .val (.int .i64 b)] G (.val (.int .i64 (near a b))) :=
  Gives.of_calls (args := [.int .i64 a, .int .i64 b]) fun w _ => (Half_any a b w ha hb).mono fun _ _ h => ⟨h.1, h.2 ▸ Below.refl _ _⟩
theorem absMulC {a b A B : Int} (ha : -A ≤ a ∧ a ≤ A) (hb : -B ≤ b ∧ b ≤ B) : -(A * B) ≤ a * b ∧ a * b ≤ A * B := by
  have hA : 0 ≤ A := by omega
  have hB : 0 ≤ B := by omega
  have h1 : (a * b).natAbs ≤ A.natAbs * B.natAbs := by
    rw [Int.natAbs_mul]
    exact Nat.mul_le_mul (by omega) (by omega)
  have h2 : A.natAbs * B.natAbs = (A * B).natAbs := (Int.natAbs_mul A B).symm
  have h3 : 0 ≤ A * B := Int.mul_nonneg hA hB
  omega
/-- A curve. -/
structure Cv where
  ax : Int
  ay : Int
  bx : Int
  by_ : Int
  cx : Int
  cy : Int
  w : Int
structure CvOk (c : Cv) : Prop where
  ax : -32767 ≤ c.ax ∧ c.ax ≤ 32767
  ay : -32767 ≤ c.ay ∧ c.ay ≤ 32767
  bx : -32767 ≤ c.bx ∧ c.bx ≤ 32767
  by_ : -32767 ≤ c.by_ ∧ c.by_ ≤ 32767
  cx : -32767 ≤ c.cx ∧ c.cx ≤ 32767
  cy : -32767 ≤ c.cy ∧ c.cy ≤ 32767
  w : 16 ≤ c.w ∧ c.w ≤ 4096
def cA (k n : Int) : Int := 256 * (n - k) * (n - k)
def cB (c : Cv) (k n : Int) : Int := 2 * k * (n - k) * c.w
def cD (k : Int) : Int := 256 * k * k
def cS (c : Cv) (k n : Int) : Int := cA k n + cB c k n + cD k
def atX (c : Cv) (k n : Int) : Int := near (cA k n * c.ax + cB c k n * c.bx + cD k * c.cx) (cS c k n)
def atY (c : Cv) (k n : Int) : Int := near (cA k n * c.ay + cB c k n * c.by_ + cD k * c.cy) (cS c k n)
theorem near_between {a b M : Int} (hb : 1 ≤ b) (h1 : -(M * b) ≤ a) (h2 : a ≤ M * b) : -M ≤ near a b ∧ near a b ≤ M := by
  have he := Int.mul_ediv_add_emod a b
  have hm1 := Int.emod_nonneg a (show b ≠ 0 by omega)
  have hm2 := Int.emod_lt_of_pos a (show 0 < b by omega)
  have hlo : -M ≤ a / b := by rw [Int.le_ediv_iff_mul_le (by omega)]; rw [Int.neg_mul]; exact h1
  have hhi : a / b ≤ M := by
    rw [Int.ediv_le_iff_le_mul (by omega)]; omega
  unfold near
  split
  · rename_i h
    refine ⟨by omega, ?_⟩
    rcases Int.lt_or_le (a / b) M with h3 | h3
    · omega
    · exfalso
      have h4 : a / b = M := by omega
      rw [h4, Int.mul_comm b M] at he
      omega
  · exact ⟨hlo, hhi⟩
theorem coef_bd {c : Cv} (hc : CvOk c) {k n : Int} (hk : 0 ≤ k ∧ k ≤ n) (hn : 1 ≤ n ∧ n ≤ 1024) : (0 ≤ cA k n ∧ cA k n ≤ 268435456) ∧ (0 ≤ 2 * k * (n - k) ∧ 2 * k * (n - k) ≤ 2097152) ∧ (0 ≤ cB c k n ∧ cB c k n ≤ 8589934592) ∧ (0 ≤ cD k ∧ cD k ≤ 268435456) ∧ 1 ≤ cS c k n := by
  have a1 := absMulC (a := 256 * (n - k)) (b := n - k) (A := 262144) (B := 1024) (by omega) (by omega)
  have a2 := absMulC (a := 2 * k) (b := n - k) (A := 2048) (B := 1024) (by omega) (by omega)
  have a3 := absMulC (a := 256 * k) (b := k) (A := 262144) (B := 1024) (by omega) (by omega)
  have b1 := Int.mul_nonneg (show 0 ≤ 256 * (n - k) by omega) (show 0 ≤ n - k by omega)
  have b2 := Int.mul_nonneg (show 0 ≤ 2 * k by omega) (show 0 ≤ n - k by omega)
  have b3 := Int.mul_nonneg (show 0 ≤ 256 * k by omega) (show 0 ≤ k by omega)
  have hw := hc.w
  have a4 := absMulC (a := 2 * k * (n - k)) (b := c.w) (A := 2097152) (B := 4096) (by omega) (by omega)
  have b4 := Int.mul_nonneg b2 (show 0 ≤ c.w by omega)
  have hpos : 1 ≤ 256 * (n - k) * (n - k) + 256 * k * k := by
    rcases Int.lt_or_le k 1 with h | h
    · have h0 : k = 0 := by omega
      subst h0
      have : 256 * n * 1 ≤ 256 * n * n := Int.mul_le_mul_of_nonneg_left (by omega) (by omega)
      simp only [Int.sub_zero] at b1 ⊢
      omega
    · have : 256 * k * 1 ≤ 256 * k * k := Int.mul_le_mul_of_nonneg_left (by omega) (by omega)
      omega
  unfold cS cA cB cD
  refine ⟨by omega, by omega, by omega, by omega, by omega⟩
theorem mulp_bd {a x A : Int} (ha : 0 ≤ a ∧ a ≤ A) (hx : -32767 ≤ x ∧ x ≤ 32767) : -(32767 * a) ≤ a * x ∧ a * x ≤ 32767 * a := by
  have h1 : a * x ≤ a * 32767 := Int.mul_le_mul_of_nonneg_left hx.2 ha.1
  have h2 : a * (-32767) ≤ a * x := Int.mul_le_mul_of_nonneg_left hx.1 ha.1
  omega
theorem at_bd {c : Cv} (hc : CvOk c) {k n : Int} (hk : 0 ≤ k ∧ k ≤ n) (hn : 1 ≤ n ∧ n ≤ 1024) : (-32767 ≤ atX c k n ∧ atX c k n ≤ 32767) ∧ (-32767 ≤ atY c k n ∧ atY c k n ≤ 32767) := by
  obtain ⟨h1, _, h2, h3, h4⟩ := coef_bd hc hk hn
  have x1 := mulp_bd h1 hc.ax
  have x2 := mulp_bd h2 hc.bx
  have x3 := mulp_bd h3 hc.cx
  have y1 := mulp_bd h1 hc.ay
  have y2 := mulp_bd h2 hc.by_
  have y3 := mulp_bd h3 hc.cy
  unfold atX atY
  unfold cS at *
  exact ⟨near_between h4 (by omega) (by omega), near_between h4 (by omega) (by omega)⟩
abbrev cvA (c : Cv) : AV := .agg [.val (.int .i64 c.ax), .val (.int .i64 c.ay), .val (.int .i64 c.bx), .val (.int .i64 c.by_), .val (.int .i64 c.cx), .val (.int .i64 c.cy), .val (.int .i64 c.w)]
abbrev segA (kd : Int) (c : Cv) : AV := .agg [.val (.int .i64 kd), .val (.int .i64 c.cx), .val (.int .i64 c.cy), .val (.int .i64 c.bx), .val (.int .i64 c.by_), .val (.int .i64 c.w)]
section
variable {c : Cv} {k n : Int} {G : Mem}
set_option maxHeartbeats 2000000 in
theorem at_gives (hc : CvOk c) (hk : 0 ≤ k ∧ k ≤ n) (hn : 1 ≤ n ∧ n ≤ 1024) : Gives Try.prog 49 [cvA c, .val (.int .i64 k), .val (.int .i64 n)] G (ptA (atX c k n) (atY c k n)) := by
  obtain ⟨h1, h2, h3, h4, h5⟩ := coef_bd hc hk hn
  have x1 := mulp_bd h1 hc.ax
  have x2 := mulp_bd h3 hc.bx
  have x3 := mulp_bd h4 hc.cx
  have y1 := mulp_bd h1 hc.ay
  have y2 := mulp_bd h3 hc.by_
  have y3 := mulp_bd h4 hc.cy
  unfold cS at h5
  have e1 : IntKind.i64.wrap (256 * (n - k) * (n - k)) = cA k n := IntWalk.i64_in _ (by unfold cA at h1; omega)
  have e2 : IntKind.i64.wrap (2 * k * (n - k)) = 2 * k * (n - k) := IntWalk.i64_in _ (by omega)
  have e3 : IntKind.i64.wrap (2 * k * (n - k) * c.w) = cB c k n := IntWalk.i64_in _ (by unfold cB at h3; omega)
  have e4 : IntKind.i64.wrap (256 * k * k) = cD k := IntWalk.i64_in _ (by unfold cD at h4; omega)
  have gX := Near_gives (G := G) (a := cA k n * c.ax + cB c k n * c.bx + cD k * c.cx) (b := cA k n + cB c k n + cD k) (by omega) (by omega)
  have gY := Near_gives (G := G) (a := cA k n * c.ay + cB c k n * c.by_ + cD k * c.cy) (b := cA k n + cB c k n + cD k) (by omega) (by omega)
  refine Gives_of tab_ok Try.func49 ?_
  (repeat ((try (conv => whnf)); (first | (with_reducible refine ArP_as _ e1 ?_) | (with_reducible refine ArP_as _ e2 ?_) | (with_reducible refine ArP_as _ e3 ?_) | (with_reducible refine ArP_as _ e4 ?_) | (with_reducible refine condP_true ?_) | (with_reducible refine condP_false ?_) | (with_reducible refine condP_not ?_) | (with_reducible refine condP_and ?_) | ((with_reducible refine condP_dt ?_ ?_); (· omega)) | ((with_reducible refine condP_df ?_ ?_); (· omega)) | ((with_reducible refine condP_yes ?_ ?_); (· assumption)) | ((with_reducible refine condP_no ?_ ?_); (· assumption)) | ((with_reducible refine ArP_i64 ?_ ?_); (· omega)) | ((with_reducible refine mustP.mk ?_ ?_); (· first | omega | rfl | (dsimp only; omega))) | (with_reducible refine EqP_nil tab_ok ?_) | (with_reducible refine EqP_sli tab_ok ?_) | (with_reducible refine DrawP_auto tab_ok (by kernel_rfl) (by decide +kernel) ?_) | (with_reducible refine DrawP_auto2 tab_ok (by kernel_rfl) (by decide +kernel) ?_) | (with_reducible refine eq43 ?_) | (with_reducible refine eq55 ?_) | (with_reducible refine eq57 ?_) | (with_reducible refine eq93 ?_) | (with_reducible refine eq101 ?_) | (with_reducible refine eq116 ?_) | (with_reducible refine eq119 ?_) | (with_reducible refine CallP_gives (fun vs w => by kernel_rfl) (by kernel_rfl) (gX) ?_) | (with_reducible refine RCallP_gives (fun vs w => by kernel_rfl) (by kernel_rfl) (gX) ?_) | (with_reducible refine CallP_gives (fun vs w => by kernel_rfl) (by kernel_rfl) (gY) ?_) | (with_reducible refine RCallP_gives (fun vs w => by kernel_rfl) (by kernel_rfl) (gY) ?_))))
  exact ⟨rfl, rfl⟩
set_option maxHeartbeats 2000000 in
theorem CurveAt_gives {kd : Int} (hc : CvOk c) (hk : 0 ≤ k ∧ k ≤ n) (hn : 1 ≤ n ∧ n ≤ 1024) : Gives Try.prog 51 [ptA c.ax c.ay, segA kd c, .val (.int .i64 k), .val (.int .i64 n)] G (ptA (atX c k n) (atY c k n)) := by
  obtain ⟨h1, h2, h3, h4, h5⟩ := coef_bd hc hk hn
  have x1 := mulp_bd h1 hc.ax
  have x2 := mulp_bd h3 hc.bx
  have x3 := mulp_bd h4 hc.cx
  have y1 := mulp_bd h1 hc.ay
  have y2 := mulp_bd h3 hc.by_
  have y3 := mulp_bd h4 hc.cy
  unfold cS at h5
  have e1 : IntKind.i64.wrap (256 * (n - k) * (n - k)) = cA k n := IntWalk.i64_in _ (by unfold cA at h1; omega)
  have e2 : IntKind.i64.wrap (2 * k * (n - k)) = 2 * k * (n - k) := IntWalk.i64_in _ (by omega)
  have e3 : IntKind.i64.wrap (2 * k * (n - k) * c.w) = cB c k n := IntWalk.i64_in _ (by unfold cB at h3; omega)
  have e4 : IntKind.i64.wrap (256 * k * k) = cD k := IntWalk.i64_in _ (by unfold cD at h4; omega)
  have gX := HalfC_gives (G := G) (a := cA k n * c.ax + cB c k n * c.bx + cD k * c.cx) (b := cA k n + cB c k n + cD k) (by omega) (by omega)
  have gY := HalfC_gives (G := G) (a := cA k n * c.ay + cB c k n * c.by_ + cD k * c.cy) (b := cA k n + cB c k n + cD k) (by omega) (by omega)
  refine Gives_of tab_ok Try.func51 ?_
  (repeat ((try (conv => whnf)); (first | (with_reducible refine ArP_as _ e1 ?_) | (with_reducible refine ArP_as _ e2 ?_) | (with_reducible refine ArP_as _ e3 ?_) | (with_reducible refine ArP_as _ e4 ?_) | (with_reducible refine condP_true ?_) | (with_reducible refine condP_false ?_) | (with_reducible refine condP_not ?_) | (with_reducible refine condP_and ?_) | ((with_reducible refine condP_dt ?_ ?_); (· omega)) | ((with_reducible refine condP_df ?_ ?_); (· omega)) | ((with_reducible refine condP_yes ?_ ?_); (· assumption)) | ((with_reducible refine condP_no ?_ ?_); (· assumption)) | ((with_reducible refine ArP_i64 ?_ ?_); (· omega)) | ((with_reducible refine mustP.mk ?_ ?_); (· first | omega | rfl | (dsimp only; omega))) | (with_reducible refine EqP_nil tab_ok ?_) | (with_reducible refine EqP_sli tab_ok ?_) | (with_reducible refine DrawP_auto tab_ok (by kernel_rfl) (by decide +kernel) ?_) | (with_reducible refine DrawP_auto2 tab_ok (by kernel_rfl) (by decide +kernel) ?_) | (with_reducible refine eq43 ?_) | (with_reducible refine eq55 ?_) | (with_reducible refine eq57 ?_) | (with_reducible refine eq93 ?_) | (with_reducible refine eq101 ?_) | (with_reducible refine eq116 ?_) | (with_reducible refine eq119 ?_) | (with_reducible refine CallP_gives (fun vs w => by kernel_rfl) (by kernel_rfl) (gX) ?_) | (with_reducible refine RCallP_gives (fun vs w => by kernel_rfl) (by kernel_rfl) (gX) ?_) | (with_reducible refine CallP_gives (fun vs w => by kernel_rfl) (by kernel_rfl) (gY) ?_) | (with_reducible refine RCallP_gives (fun vs w => by kernel_rfl) (by kernel_rfl) (gY) ?_))))
  exact ⟨rfl, rfl⟩
end
/-- Whether a point hardly leaves a side. -/
def iabs (x : Int) : Int := max x (-x)
def nearB (ax ay mx my bx by_ : Int) : Bool :=
  decide ((min ax bx - 1 ≤ mx ∧ mx ≤ max ax bx + 1) ∧ (min ay by_ - 1 ≤ my ∧ my ≤ max ay by_ + 1)) && decide (iabs ((bx - ax) * (my - ay) - (by_ - ay) * (mx - ax)) ≤ max (max (iabs (bx - ax)) (iabs (by_ - ay))) 1)
theorem abs_gives {x : Int} {G : Mem} (hx : -1152921504606846976 ≤ x ∧ x ≤ 1152921504606846976) : Gives Try.prog 64 [.val (.int .i64 x)] G (.val (.int .i64 (iabs x))) := by
  refine Gives_of tab_ok Try.func64 ?_
  (repeat ((try (conv => whnf)); (first | (with_reducible refine condP_true ?_) | (with_reducible refine condP_false ?_) | (with_reducible refine condP_not ?_) | (with_reducible refine condP_and ?_) | ((with_reducible refine condP_dt ?_ ?_); (· omega)) | ((with_reducible refine condP_df ?_ ?_); (· omega)) | ((with_reducible refine condP_yes ?_ ?_); (· assumption)) | ((with_reducible refine condP_no ?_ ?_); (· assumption)) | ((with_reducible refine ArP_i64 ?_ ?_); (· omega)) | ((with_reducible refine mustP.mk ?_ ?_); (· first | omega | rfl | (dsimp only; omega))) | (with_reducible refine EqP_nil tab_ok ?_) | (with_reducible refine EqP_sli tab_ok ?_) | (with_reducible refine DrawP_auto tab_ok (by kernel_rfl) (by decide +kernel) ?_) | (with_reducible refine DrawP_auto2 tab_ok (by kernel_rfl) (by decide +kernel) ?_) | (with_reducible refine eq43 ?_) | (with_reducible refine eq55 ?_) | (with_reducible refine eq57 ?_) | (with_reducible refine eq93 ?_) | (with_reducible refine eq101 ?_) | (with_reducible refine eq116 ?_) | (with_reducible refine eq119 ?_))))
  exact ⟨by rw [show (0 : Int) - x = -x by omega]; rfl, rfl⟩
theorem distance_gives {x : Int} {G : Mem} (hx : -1152921504606846976 ≤ x ∧ x ≤ 1152921504606846976) : Gives Try.prog 67 [.val (.int .i64 x)] G (.val (.int .i64 (iabs x))) := by
  refine Gives_of tab_ok Try.func67 ?_
  unfold iabs
  by_cases h : x < 0
  · rw [show max x (-x) = 0 - x by omega]
    (repeat ((try (conv => whnf)); (first | (with_reducible refine condP_true ?_) | (with_reducible refine condP_false ?_) | (with_reducible refine condP_not ?_) | (with_reducible refine condP_and ?_) | ((with_reducible refine condP_dt ?_ ?_); (· omega)) | ((with_reducible refine condP_df ?_ ?_); (· omega)) | ((with_reducible refine condP_yes ?_ ?_); (· assumption)) | ((with_reducible refine condP_no ?_ ?_); (· assumption)) | ((with_reducible refine ArP_i64 ?_ ?_); (· omega)) | ((with_reducible refine mustP.mk ?_ ?_); (· first | omega | rfl | (dsimp only; omega))) | (with_reducible refine EqP_nil tab_ok ?_) | (with_reducible refine EqP_sli tab_ok ?_) | (with_reducible refine DrawP_auto tab_ok (by kernel_rfl) (by decide +kernel) ?_) | (with_reducible refine DrawP_auto2 tab_ok (by kernel_rfl) (by decide +kernel) ?_) | (with_reducible refine eq43 ?_) | (with_reducible refine eq55 ?_) | (with_reducible refine eq57 ?_) | (with_reducible refine eq93 ?_) | (with_reducible refine eq101 ?_) | (with_reducible refine eq116 ?_) | (with_reducible refine eq119 ?_))))
    exact ⟨rfl, rfl⟩
  · rw [show max x (-x) = x by omega]
    (repeat ((try (conv => whnf)); (first | (with_reducible refine condP_true ?_) | (with_reducible refine condP_false ?_) | (with_reducible refine condP_not ?_) | (with_reducible refine condP_and ?_) | ((with_reducible refine condP_dt ?_ ?_); (· omega)) | ((with_reducible refine condP_df ?_ ?_); (· omega)) | ((with_reducible refine condP_yes ?_ ?_); (· assumption)) | ((with_reducible refine condP_no ?_ ?_); (· assumption)) | ((with_reducible refine ArP_i64 ?_ ?_); (· omega)) | ((with_reducible refine mustP.mk ?_ ?_); (· first | omega | rfl | (dsimp only; omega))) | (with_reducible refine EqP_nil tab_ok ?_) | (with_reducible refine EqP_sli tab_ok ?_) | (with_reducible refine DrawP_auto tab_ok (by kernel_rfl) (by decide +kernel) ?_) | (with_reducible refine DrawP_auto2 tab_ok (by kernel_rfl) (by decide +kernel) ?_) | (with_reducible refine eq43 ?_) | (with_reducible refine eq55 ?_) | (with_reducible refine eq57 ?_) | (with_reducible refine eq93 ?_) | (with_reducible refine eq101 ?_) | (with_reducible refine eq116 ?_) | (with_reducible refine eq119 ?_))))
    exact ⟨rfl, rfl⟩
section
variable {ax ay mx my bx by_ : Int} {G : Mem}
/-- The number that tells how far the point is from the side. -/
def crossI (ax ay mx my bx by_ : Int) : Int := (bx - ax) * (my - ay) - (by_ - ay) * (mx - ax)
set_option maxHeartbeats 4000000 in
theorem near_gives (h1 : -32767 ≤ ax ∧ ax ≤ 32767) (h2 : -32767 ≤ ay ∧ ay ≤ 32767) (h3 : -32767 ≤ mx ∧ mx ≤ 32767) (h4 : -32767 ≤ my ∧ my ≤ 32767) (h5 : -32767 ≤ bx ∧ bx ≤ 32767) (h6 : -32767 ≤ by_ ∧ by_ ≤ 32767) :
    Gives Try.prog 79 [ptA ax ay, ptA mx my, ptA bx by_] G (.val (.bool (nearB ax ay mx my bx by_))) := by
  refine Gives_of tab_ok Try.func79 ?_
  unfold nearB
  by_cases c0 : mx < min ax bx - 1
  · rw [decide_eq_false (by omega), Bool.false_and]
    (repeat ((try (conv => whnf)); (first | (with_reducible refine condP_true ?_) | (with_reducible refine condP_false ?_) | (with_reducible refine condP_not ?_) | (with_reducible refine condP_and ?_) | ((with_reducible refine condP_dt ?_ ?_); (· omega)) | ((with_reducible refine condP_df ?_ ?_); (· omega)) | ((with_reducible refine condP_yes ?_ ?_); (· assumption)) | ((with_reducible refine condP_no ?_ ?_); (· assumption)) | ((with_reducible refine ArP_i64 ?_ ?_); (· omega)) | ((with_reducible refine mustP.mk ?_ ?_); (· first | omega | rfl | (dsimp only; omega))) | (with_reducible refine EqP_nil tab_ok ?_) | (with_reducible refine EqP_sli tab_ok ?_) | (with_reducible refine DrawP_auto tab_ok (by kernel_rfl) (by decide +kernel) ?_) | (with_reducible refine DrawP_auto2 tab_ok (by kernel_rfl) (by decide +kernel) ?_) | (with_reducible refine eq43 ?_) | (with_reducible refine eq55 ?_) | (with_reducible refine eq57 ?_) | (with_reducible refine eq93 ?_) | (with_reducible refine eq101 ?_) | (with_reducible refine eq116 ?_) | (with_reducible refine eq119 ?_))))
    exact ⟨rfl, rfl⟩
  by_cases c1 : max ax bx + 1 < mx
  · rw [decide_eq_false (by omega), Bool.false_and]
    (repeat ((try (conv => whnf)); (first | (with_reducible refine condP_true ?_) | (with_reducible refine condP_false ?_) | (with_reducible refine condP_not ?_) | (with_reducible refine condP_and ?_) | ((with_reducible refine condP_dt ?_ ?_); (· omega)) | ((with_reducible refine condP_df ?_ ?_); (· omega)) | ((with_reducible refine condP_yes ?_ ?_); (· assumption)) | ((with_reducible refine condP_no ?_ ?_); (· assumption)) | ((with_reducible refine ArP_i64 ?_ ?_); (· omega)) | ((with_reducible refine mustP.mk ?_ ?_); (· first | omega | rfl | (dsimp only; omega))) | (with_reducible refine EqP_nil tab_ok ?_) | (with_reducible refine EqP_sli tab_ok ?_) | (with_reducible refine DrawP_auto tab_ok (by kernel_rfl) (by decide +kernel) ?_) | (with_reducible refine DrawP_auto2 tab_ok (by kernel_rfl) (by decide +kernel) ?_) | (with_reducible refine eq43 ?_) | (with_reducible refine eq55 ?_) | (with_reducible refine eq57 ?_) | (with_reducible refine eq93 ?_) | (with_reducible refine eq101 ?_) | (with_reducible refine eq116 ?_) | (with_reducible refine eq119 ?_))))
    exact ⟨rfl, rfl⟩
  by_cases c2 : my < min ay by_ - 1
  · rw [decide_eq_false (by omega), Bool.false_and]
    (repeat ((try (conv => whnf)); (first | (with_reducible refine condP_true ?_) | (with_reducible refine condP_false ?_) | (with_reducible refine condP_not ?_) | (with_reducible refine condP_and ?_) | ((with_reducible refine condP_dt ?_ ?_); (· omega)) | ((with_reducible refine condP_df ?_ ?_); (· omega)) | ((with_reducible refine condP_yes ?_ ?_); (· assumption)) | ((with_reducible refine condP_no ?_ ?_); (· assumption)) | ((with_reducible refine ArP_i64 ?_ ?_); (· omega)) | ((with_reducible refine mustP.mk ?_ ?_); (· first | omega | rfl | (dsimp only; omega))) | (with_reducible refine EqP_nil tab_ok ?_) | (with_reducible refine EqP_sli tab_ok ?_) | (with_reducible refine DrawP_auto tab_ok (by kernel_rfl) (by decide +kernel) ?_) | (with_reducible refine DrawP_auto2 tab_ok (by kernel_rfl) (by decide +kernel) ?_) | (with_reducible refine eq43 ?_) | (with_reducible refine eq55 ?_) | (with_reducible refine eq57 ?_) | (with_reducible refine eq93 ?_) | (with_reducible refine eq101 ?_) | (with_reducible refine eq116 ?_) | (with_reducible refine eq119 ?_))))
    exact ⟨rfl, rfl⟩
  by_cases c3 : max ay by_ + 1 < my
  · rw [decide_eq_false (by omega), Bool.false_and]
    (repeat ((try (conv => whnf)); (first | (with_reducible refine condP_true ?_) | (with_reducible refine condP_false ?_) | (with_reducible refine condP_not ?_) | (with_reducible refine condP_and ?_) | ((with_reducible refine condP_dt ?_ ?_); (· omega)) | ((with_reducible refine condP_df ?_ ?_); (· omega)) | ((with_reducible refine condP_yes ?_ ?_); (· assumption)) | ((with_reducible refine condP_no ?_ ?_); (· assumption)) | ((with_reducible refine ArP_i64 ?_ ?_); (· omega)) | ((with_reducible refine mustP.mk ?_ ?_); (· first | omega | rfl | (dsimp only; omega))) | (with_reducible refine EqP_nil tab_ok ?_) | (with_reducible refine EqP_sli tab_ok ?_) | (with_reducible refine DrawP_auto tab_ok (by kernel_rfl) (by decide +kernel) ?_) | (with_reducible refine DrawP_auto2 tab_ok (by kernel_rfl) (by decide +kernel) ?_) | (with_reducible refine eq43 ?_) | (with_reducible refine eq55 ?_) | (with_reducible refine eq57 ?_) | (with_reducible refine eq93 ?_) | (with_reducible refine eq101 ?_) | (with_reducible refine eq116 ?_) | (with_reducible refine eq119 ?_))))
    exact ⟨rfl, rfl⟩
  rw [decide_eq_true (by omega), Bool.true_and]
  have p1 := absMulC (a := bx - ax) (b := my - ay) (A := 65534) (B := 65534) (by omega) (by omega)
  have p2 := absMulC (a := by_ - ay) (b := mx - ax) (A := 65534) (B := 65534) (by omega) (by omega)
  have g1 := abs_gives (G := G) (x := (bx - ax) * (my - ay) - (by_ - ay) * (mx - ax)) (by omega)
  have g2 := abs_gives (G := G) (x := bx - ax) (by omega)
  have g3 := abs_gives (G := G) (x := by_ - ay) (by omega)
  (repeat ((try (conv => whnf)); (first | (with_reducible refine condP_true ?_) | (with_reducible refine condP_false ?_) | (with_reducible refine condP_not ?_) | (with_reducible refine condP_and ?_) | ((with_reducible refine condP_dt ?_ ?_); (· omega)) | ((with_reducible refine condP_df ?_ ?_); (· omega)) | ((with_reducible refine condP_yes ?_ ?_); (· assumption)) | ((with_reducible refine condP_no ?_ ?_); (· assumption)) | ((with_reducible refine ArP_i64 ?_ ?_); (· omega)) | ((with_reducible refine mustP.mk ?_ ?_); (· first | omega | rfl | (dsimp only; omega))) | (with_reducible refine EqP_nil tab_ok ?_) | (with_reducible refine EqP_sli tab_ok ?_) | (with_reducible refine DrawP_auto tab_ok (by kernel_rfl) (by decide +kernel) ?_) | (with_reducible refine DrawP_auto2 tab_ok (by kernel_rfl) (by decide +kernel) ?_) | (with_reducible refine eq43 ?_) | (with_reducible refine eq55 ?_) | (with_reducible refine eq57 ?_) | (with_reducible refine eq93 ?_) | (with_reducible refine eq101 ?_) | (with_reducible refine eq116 ?_) | (with_reducible refine eq119 ?_) | (with_reducible refine CallP_gives (fun vs w => by kernel_rfl) (by kernel_rfl) (g1) ?_) | (with_reducible refine RCallP_gives (fun vs w => by kernel_rfl) (by kernel_rfl) (g1) ?_) | (with_reducible refine CallP_gives (fun vs w => by kernel_rfl) (by kernel_rfl) (g2) ?_) | (with_reducible refine RCallP_gives (fun vs w => by kernel_rfl) (by kernel_rfl) (g2) ?_) | (with_reducible refine CallP_gives (fun vs w => by kernel_rfl) (by kernel_rfl) (g3) ?_) | (with_reducible refine RCallP_gives (fun vs w => by kernel_rfl) (by kernel_rfl) (g3) ?_))))
  exact ⟨rfl, rfl⟩
end
end Go.Proofs.Ytpgjbfbdappniaa
