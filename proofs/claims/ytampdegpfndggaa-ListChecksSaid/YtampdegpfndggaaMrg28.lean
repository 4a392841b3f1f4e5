/-
  Merged: XGradientRamps, XPlace.
-/
import Derived.Test.YtampdegpfndggaaMrg27
import Derived.Test.YtampdegpfndggaaMrg19
import Derived.Test.YtampdegpfndggaaMrg17
import Derived.Test.YtampdegpfndggaaMrg26
import Derived.Test.YtampdegpfndggaaMrg20
import Derived.Test.YtampdegpfndggaaMrg4
namespace Go.Proofs.Ytampdegpfndggaa.gradientRamps
open Go.RowKit
set_option linter.unusedVariables false
set_option maxRecDepth 20000

theorem StopsCheck_gives {A : Option Addr} {n cap : Nat} {g : Nat → Nat → Value} {w : World} (hn : n ≤ cap ∧ cap ≤ 9223372036854775807) (h : SliceG Try.prog w 110 A n g) :
    Gives Try.prog 27 [.val (.slice A n cap)] (memOf w) (.val (.int .i64 (stopsE (fun x => valI (g x 0)) n))) :=
  Gives.of_calls (args := [.slice A n cap]) fun w' hw => StopsCheck_any A n cap g w' hn (h.holds hw)
theorem rel8 {β : Nm} (B : Nat → Int) : AV.rels β [.val (.int .u8 (B 0)), .val (.int .u8 (B 1)), .val (.int .u8 (B 2)), .val (.int .u8 (B 3)), .val (.int .u8 (B 4)), .val (.int .u8 (B 5)), .val (.int .u8 (B 6)), .val (.int .u8 (B 7))] [.int .u8 (B 0), .int .u8 (B 1), .int .u8 (B 2), .int .u8 (B 3), .int .u8 (B 4), .int .u8 (B 5), .int .u8 (B 6), .int .u8 (B 7)] := rels_map_val [.int .u8 (B 0), .int .u8 (B 1), .int .u8 (B 2), .int .u8 (B 3), .int .u8 (B 4), .int .u8 (B 5), .int .u8 (B 6), .int .u8 (B 7)]
def inks (B : Nat → Int) : AV := .agg [.val (.int .u8 (B 0)), .val (.int .u8 (B 1)), .val (.int .u8 (B 2)), .val (.int .u8 (B 3)), .val (.int .u8 (B 4)), .val (.int .u8 (B 5)), .val (.int .u8 (B 6)), .val (.int .u8 (B 7))]
theorem args2 {a b : Value} : ∀ vs, AV.rels noName [.val a, .val b] vs → vs = [a, b] := fun vs h => (rels_plain (m := [a, b]) h)
theorem agg_inks {β : Nm} (B : Nat → Int) : (inks B).rel β (.agg #[.int .u8 (B 0), .int .u8 (B 1), .int .u8 (B 2), .int .u8 (B 3), .int .u8 (B 4), .int .u8 (B 5), .int .u8 (B 6), .int .u8 (B 7)]) := by
  unfold inks; rw [AV.rel]; exact ⟨_, rfl, rel8 (β := β) B⟩
theorem tup_inks {β : Nm} (B : Nat → Int) (e : Int) : (AV.tup [inks B, .val (.int .i64 e)]).rel β (.tuple #[.agg #[.int .u8 (B 0), .int .u8 (B 1), .int .u8 (B 2), .int .u8 (B 3), .int .u8 (B 4), .int .u8 (B 5), .int .u8 (B 6), .int .u8 (B 7)], .int .i64 e]) := by
  have h := agg_inks (β := β) B
  simp only [AV.rel, AV.rels]
  exact ⟨_, rfl, _, _, rfl, h, _, [], rfl, rfl, rfl⟩
/-- What Ramp hands back. -/
def rampR (A : Option Addr) (n : Nat) (g : Nat → Nat → Value) (t : Int) : (Nat → Int) × Int :=
  if stopsE (fun x => valI (g x 0)) n ≠ 0 then (fun _ => 0, stopsE (fun x => valI (g x 0)) n) else
  if 0 ≤ t ∧ t ≤ 65536 then (rampV n (fun x => valI (g x 0)) (fun x j => valI (g x (j + 1))) t, 0) else (fun _ => 0, 3)
theorem Ramp_gives {A : Option Addr} {n cap : Nat} {g : Nat → Nat → Value} {w : World} {t : Int} (hn : n ≤ cap ∧ cap ≤ 9223372036854775807) (h : SliceG Try.prog w 110 A n g) :
    Gives Try.prog 26 [.val (.slice A n cap), .val (.int .i64 t)] (memOf w) (.tup [inks (rampR A n g t).1, .val (.int .i64 (rampR A n g t).2)]) := by
  unfold rampR
  by_cases he : stopsE (fun x => valI (g x 0)) n = 0
  · rw [if_neg (by simpa using he)]
    by_cases ht : 0 ≤ t ∧ t ≤ 65536
    · rw [if_pos ht]
      refine Gives.of_callsA args2 (tup_inks _ _) fun w' hw => ?_
      obtain ⟨b, off, rfl, h1, h2⟩ := stop_info (h.holds hw) (by have := (stops_ok he).1; omega)
      exact Ramp_ok b off n cap g _ t w' hn (h.holds hw) he ht h1 h2 fun j hj => rfl
    · rw [if_neg ht]
      exact Gives.of_callsA args2 (tup_inks (fun _ => 0) _) fun w' hw => Ramp_out A n cap g t w' hn (h.holds hw) he (by omega)
  · rw [if_pos (by simpa using he)]
    exact Gives.of_callsA args2 (tup_inks (fun _ => 0) _) fun w' hw => Ramp_err A n cap g t w' hn (h.holds hw) he
theorem RRamp_gives {A : Option Addr} {n cap : Nat} {g : Nat → Nat → Value} {w : World} {t : Int} (h : SliceG Try.prog w 110 A n g) (he : stopsE (fun x => valI (g x 0)) n = 0) (ht : 0 ≤ t ∧ t ≤ 65536) :
    Gives Try.prog 28 [.val (.slice A n cap), .val (.int .i64 t)] (memOf w) (inks (rampV n (fun x => valI (g x 0)) (fun x j => valI (g x (j + 1))) t)) := by
  refine Gives.of_callsA args2 (agg_inks _) fun w' hw => ?_
  obtain ⟨b, off, rfl, h1, h2⟩ := stop_info (h.holds hw) (by have := (stops_ok he).1; omega)
  exact (ramp_any b off n cap _ _ _ t w' (stops_ok he).1 ht (stops_ok he).2 h2 h1 fun j hj => rfl).2
set_option maxHeartbeats 1000000 in
theorem walk (A0 : Option Addr) (n0 : Nat) (q0 : Nat) (g0 : Nat → Nat → Value) (a1 : Int) (w : World) (c0 : n0 ≤ q0) (m0 : q0 ≤ maxLen) (s0 : SliceG Try.prog w 110 A0 n0 g0) (w1 : (Lit.int .i64 a1).wf = true) :
    Calls Try.prog 6 #[.slice A0 n0 q0, .int .i64 a1] w fun e w' => e = .returned (.bool true) ∧ Below w.heap.size w w' := by
  refine walk_of tab_ok Try.func6 (rels_map_val [.slice A0 n0 q0, .int .i64 a1]) ?_
  have hn : n0 ≤ q0 ∧ q0 ≤ 9223372036854775807 := ⟨c0, m0⟩
  have hR := Ramp_gives (t := a1) hn s0
  have hS := StopsCheck_gives hn s0
  have hQ := RRamp_gives (cap := q0) (t := a1) s0
  unfold rampR at hR
  generalize stopsE (fun x => valI (g0 x 0)) n0 = er at *
  generalize rampV n0 (fun x => valI (g0 x 0)) (fun x j => valI (g0 x (j + 1))) a1 = B at *
  by_cases he : er = 0
  · subst he
    rw [if_neg (by simp)] at hR
    by_cases ht : 0 ≤ a1 ∧ a1 ≤ 65536
    · rw [if_pos ht] at hR
      dsimp only at hR
      replace hQ := hQ rfl ht
      (repeat ((try (conv => whnf)); (first | (with_reducible refine condP_true ?_) | (with_reducible refine condP_false ?_) | (with_reducible refine condP_not ?_) | (with_reducible refine condP_and ?_) | ((with_reducible refine condP_dt ?_ ?_); (· omega)) | ((with_reducible refine condP_df ?_ ?_); (· omega)) | ((with_reducible refine condP_yes ?_ ?_); (· assumption)) | ((with_reducible refine condP_no ?_ ?_); (· assumption)) | ((with_reducible refine ArP_i64 ?_ ?_); (· omega)) | ((with_reducible refine mustP.mk ?_ ?_); (· first | omega | rfl | (dsimp only; omega))) | (with_reducible refine EqP_nil tab_ok ?_) | (with_reducible refine EqP_sli tab_ok ?_) | (with_reducible refine DrawP_auto tab_ok (by kernel_rfl) (by decide +kernel) ?_) | (with_reducible refine DrawP_auto2 tab_ok (by kernel_rfl) (by decide +kernel) ?_) | (with_reducible refine eq29 ?_) | (with_reducible refine eq31 ?_) | (with_reducible refine eq48 ?_) | (with_reducible refine eq52 ?_) | (with_reducible refine eq83 ?_) | (with_reducible refine eq110 ?_) | (with_reducible refine eq136 ?_) | (with_reducible refine eq155 ?_) | (with_reducible refine eq163 ?_) | (with_reducible refine eq170 ?_) | (with_reducible refine CallP_enter tab_ok Try.func16 (fun vs w => by kernel_rfl) (by rfl) ?_) | (with_reducible refine CallP_gives (fun vs w => by kernel_rfl) (by kernel_rfl) (gradients_gives _) ?_) | (with_reducible refine RCallP_gives (fun vs w => by kernel_rfl) (by kernel_rfl) (gradients_gives _) ?_) | (with_reducible refine CallP_gives (fun vs w => by kernel_rfl) (by kernel_rfl) (hR) ?_) | (with_reducible refine RCallP_gives (fun vs w => by kernel_rfl) (by kernel_rfl) (hR) ?_) | (with_reducible refine CallP_gives (fun vs w => by kernel_rfl) (by kernel_rfl) (hS) ?_) | (with_reducible refine RCallP_gives (fun vs w => by kernel_rfl) (by kernel_rfl) (hS) ?_) | (with_reducible refine CallP_gives (fun vs w => by kernel_rfl) (by kernel_rfl) (hQ) ?_) | (with_reducible refine RCallP_gives (fun vs w => by kernel_rfl) (by kernel_rfl) (hQ) ?_))))
      conv => whnf
      simp
    · rw [if_neg ht] at hR
      dsimp only at hR
      have ht' : a1 < 0 ∨ (0 ≤ a1 ∧ 65536 < a1) := by omega
      rcases ht' with ht' | ht'
      · (repeat ((try (conv => whnf)); (first | (with_reducible refine condP_true ?_) | (with_reducible refine condP_false ?_) | (with_reducible refine condP_not ?_) | (with_reducible refine condP_and ?_) | ((with_reducible refine condP_dt ?_ ?_); (· omega)) | ((with_reducible refine condP_df ?_ ?_); (· omega)) | ((with_reducible refine condP_yes ?_ ?_); (· assumption)) | ((with_reducible refine condP_no ?_ ?_); (· assumption)) | ((with_reducible refine ArP_i64 ?_ ?_); (· omega)) | ((with_reducible refine mustP.mk ?_ ?_); (· first | omega | rfl | (dsimp only; omega))) | (with_reducible refine EqP_nil tab_ok ?_) | (with_reducible refine EqP_sli tab_ok ?_) | (with_reducible refine DrawP_auto tab_ok (by kernel_rfl) (by decide +kernel) ?_) | (with_reducible refine DrawP_auto2 tab_ok (by kernel_rfl) (by decide +kernel) ?_) | (with_reducible refine eq29 ?_) | (with_reducible refine eq31 ?_) | (with_reducible refine eq48 ?_) | (with_reducible refine eq52 ?_) | (with_reducible refine eq83 ?_) | (with_reducible refine eq110 ?_) | (with_reducible refine eq136 ?_) | (with_reducible refine eq155 ?_) | (with_reducible refine eq163 ?_) | (with_reducible refine eq170 ?_) | (with_reducible refine CallP_enter tab_ok Try.func16 (fun vs w => by kernel_rfl) (by rfl) ?_) | (with_reducible refine CallP_gives (fun vs w => by kernel_rfl) (by kernel_rfl) (gradients_gives _) ?_) | (with_reducible refine RCallP_gives (fun vs w => by kernel_rfl) (by kernel_rfl) (gradients_gives _) ?_) | (with_reducible refine CallP_gives (fun vs w => by kernel_rfl) (by kernel_rfl) (hR) ?_) | (with_reducible refine RCallP_gives (fun vs w => by kernel_rfl) (by kernel_rfl) (hR) ?_) | (with_reducible refine CallP_gives (fun vs w => by kernel_rfl) (by kernel_rfl) (hS) ?_) | (with_reducible refine RCallP_gives (fun vs w => by kernel_rfl) (by kernel_rfl) (hS) ?_))))
        conv => whnf
        simp
      · (repeat ((try (conv => whnf)); (first | (with_reducible refine condP_true ?_) | (with_reducible refine condP_false ?_) | (with_reducible refine condP_not ?_) | (with_reducible refine condP_and ?_) | ((with_reducible refine condP_dt ?_ ?_); (· omega)) | ((with_reducible refine condP_df ?_ ?_); (· omega)) | ((with_reducible refine condP_yes ?_ ?_); (· assumption)) | ((with_reducible refine condP_no ?_ ?_); (· assumption)) | ((with_reducible refine ArP_i64 ?_ ?_); (· omega)) | ((with_reducible refine mustP.mk ?_ ?_); (· first | omega | rfl | (dsimp only; omega))) | (with_reducible refine EqP_nil tab_ok ?_) | (with_reducible refine EqP_sli tab_ok ?_) | (with_reducible refine DrawP_auto tab_ok (by kernel_rfl) (by decide +kernel) ?_) | (with_reducible refine DrawP_auto2 tab_ok (by kernel_rfl) (by decide +kernel) ?_) | (with_reducible refine eq29 ?_) | (with_reducible refine eq31 ?_) | (with_reducible refine eq48 ?_) | (with_reducible refine eq52 ?_) | (with_reducible refine eq83 ?_) | (with_reducible refine eq110 ?_) | (with_reducible refine eq136 ?_) | (with_reducible refine eq155 ?_) | (with_reducible refine eq163 ?_) | (with_reducible refine eq170 ?_) | (with_reducible refine CallP_enter tab_ok Try.func16 (fun vs w => by kernel_rfl) (by rfl) ?_) | (with_reducible refine CallP_gives (fun vs w => by kernel_rfl) (by kernel_rfl) (gradients_gives _) ?_) | (with_reducible refine RCallP_gives (fun vs w => by kernel_rfl) (by kernel_rfl) (gradients_gives _) ?_) | (with_reducible refine CallP_gives (fun vs w => by kernel_rfl) (by kernel_rfl) (hR) ?_) | (with_reducible refine RCallP_gives (fun vs w => by kernel_rfl) (by kernel_rfl) (hR) ?_) | (with_reducible refine CallP_gives (fun vs w => by kernel_rfl) (by kernel_rfl) (hS) ?_) | (with_reducible refine RCallP_gives (fun vs w => by kernel_rfl) (by kernel_rfl) (hS) ?_))))
        conv => whnf
        simp
  · rw [if_pos (by simpa using he)] at hR
    dsimp only at hR
    (repeat ((try (conv => whnf)); (first | (with_reducible refine condP_true ?_) | (with_reducible refine condP_false ?_) | (with_reducible refine condP_not ?_) | (with_reducible refine condP_and ?_) | ((with_reducible refine condP_dt ?_ ?_); (· omega)) | ((with_reducible refine condP_df ?_ ?_); (· omega)) | ((with_reducible refine condP_yes ?_ ?_); (· assumption)) | ((with_reducible refine condP_no ?_ ?_); (· assumption)) | ((with_reducible refine ArP_i64 ?_ ?_); (· omega)) | ((with_reducible refine mustP.mk ?_ ?_); (· first | omega | rfl | (dsimp only; omega))) | (with_reducible refine EqP_nil tab_ok ?_) | (with_reducible refine EqP_sli tab_ok ?_) | (with_reducible refine DrawP_auto tab_ok (by kernel_rfl) (by decide +kernel) ?_) | (with_reducible refine DrawP_auto2 tab_ok (by kernel_rfl) (by decide +kernel) ?_) | (with_reducible refine eq29 ?_) | (with_reducible refine eq31 ?_) | (with_reducible refine eq48 ?_) | (with_reducible refine eq52 ?_) | (with_reducible refine eq83 ?_) | (with_reducible refine eq110 ?_) | (with_reducible refine eq136 ?_) | (with_reducible refine eq155 ?_) | (with_reducible refine eq163 ?_) | (with_reducible refine eq170 ?_) | (with_reducible refine CallP_enter tab_ok Try.func16 (fun vs w => by kernel_rfl) (by rfl) ?_) | (with_reducible refine CallP_gives (fun vs w => by kernel_rfl) (by kernel_rfl) (gradients_gives _) ?_) | (with_reducible refine RCallP_gives (fun vs w => by kernel_rfl) (by kernel_rfl) (gradients_gives _) ?_) | (with_reducible refine CallP_gives (fun vs w => by kernel_rfl) (by kernel_rfl) (hR) ?_) | (with_reducible refine RCallP_gives (fun vs w => by kernel_rfl) (by kernel_rfl) (hR) ?_) | (with_reducible refine CallP_gives (fun vs w => by kernel_rfl) (by kernel_rfl) (hS) ?_) | (with_reducible refine RCallP_gives (fun vs w => by kernel_rfl) (by kernel_rfl) (hS) ?_))))
    conv => whnf
    simp
end Go.Proofs.Ytampdegpfndggaa.gradientRamps

namespace Go.Proofs.Ytampdegpfndggaa
open Go.RowKit
set_option linter.unusedVariables false
set_option maxRecDepth 20000

theorem absMul {a b A B : Int} (ha : -A ≤ a ∧ a ≤ A) (hb : -B ≤ b ∧ b ≤ B) : -(A * B) ≤ a * b ∧ a * b ≤ A * B := by
  have hA : 0 ≤ A := by omega
  have hB : 0 ≤ B := by omega
  have h1 : (a * b).natAbs ≤ A.natAbs * B.natAbs := by
    rw [Int.natAbs_mul]
    exact Nat.mul_le_mul (by omega) (by omega)
  have h2 : A.natAbs * B.natAbs = (A * B).natAbs := (Int.natAbs_mul A B).symm
  have h3 : 0 ≤ A * B := Int.mul_nonneg hA hB
  omega
theorem sq_nonneg (a : Int) : 0 ≤ a * a := by
  rcases Int.le_total 0 a with h | h
  · exact Int.mul_nonneg h h
  · have := Int.mul_nonneg (show 0 ≤ -a by omega) (show 0 ≤ -a by omega)
    rwa [Int.neg_mul_neg] at this
theorem sq_pos {a : Int} (h : a ≠ 0) : 1 ≤ a * a := by
  have h1 := sq_nonneg a
  have h2 : a * a ≠ 0 := fun e => by rcases Int.mul_eq_zero.1 e with h | h <;> omega
  omega
noncomputable def rootI (n : Int) : Int := Classical.epsilon fun r => IsRoot n r
theorem rootI_is {n : Int} (h : 0 ≤ n) : IsRoot n (rootI n) := Classical.epsilon_spec (root_of h)
theorem Sqrt_gives {n : Int} {G : Mem} (hn : 0 ≤ n ∧ n ≤ 4611686018427387904) : Gives Try.prog 104 [.val (.int .i64 n)] G (.val (.int .i64 (rootI n))) :=
  Gives.of_calls (args := [.int .i64 n]) fun w _ => (Sqrt_any n _ w hn (rootI_is hn.1)).mono fun _ _ h => ⟨h.1, h.2 ▸ Below.refl _ _⟩
theorem RRoot_gives {n : Int} {G : Mem} (hn : 0 ≤ n ∧ n ≤ 4611686018427387904) : Gives Try.prog 69 [.val (.int .i64 n)] G (.val (.int .i64 (rootI n))) :=
  Gives.of_calls (args := [.int .i64 n]) fun w _ => (RRoot_any n _ w hn (rootI_is hn.1)).mono fun _ _ h => ⟨h.1, h.2 ▸ Below.refl _ _⟩
theorem Down_gives {a b : Int} {G : Mem} (ha : -4611686018427387904 ≤ a ∧ a ≤ 4611686018427387904) (hb : 1 ≤ b ∧ b ≤ 4611686018427387904) : Gives Try.prog 68 [.val (.int .i64 a), .val (.int .i64 b)] G (.val (.int .i64 (a / b))) :=
  Gives.of_calls (args := [.int .i64 a, .int .i64 b]) fun w _ => (Down_any a b w ha hb).mono fun _ _ h => ⟨h.1, h.2 ▸ Below.refl _ _⟩

/-- A Source, cell by cell. -/
abbrev srcA (k : Int) (I : Nat → Int) (fx fy tx ty r : Int) (st : Value) (W H : Int) (px sf : Value) (a b c d e f : Int) (s t : Bool) : AV :=
  .agg [.val (.int .i64 k), .val (.int .u8 (I 0)), .val (.int .u8 (I 1)), .val (.int .u8 (I 2)), .val (.int .u8 (I 3)), .val (.int .u8 (I 4)), .val (.int .u8 (I 5)), .val (.int .u8 (I 6)), .val (.int .u8 (I 7)), .val (.int .i64 fx), .val (.int .i64 fy), .val (.int .i64 tx), .val (.int .i64 ty), .val (.int .i64 r), .val st, .val (.int .i64 W), .val (.int .i64 H), .val px, .val sf, .val (.int .i64 a), .val (.int .i64 b), .val (.int .i64 c), .val (.int .i64 d), .val (.int .i64 e), .val (.int .i64 f), .val (.bool s), .val (.bool t)]
noncomputable def placeV (k fx fy tx ty r x y : Int) : Int :=
  max 0 (min 65536 (if k = 1 then 65536 * ((tx - fx) * (2 * x + 1 - 2 * fx) + (ty - fy) * (2 * y + 1 - 2 * fy)) / (2 * ((tx - fx) * (tx - fx) + (ty - fy) * (ty - fy))) else (65536 * rootI ((2 * x + 1 - 2 * fx) * (2 * x + 1 - 2 * fx) + (2 * y + 1 - 2 * fy) * (2 * y + 1 - 2 * fy))).tdiv (2 * r)))
structure InPlace (k fx fy tx ty r x y : Int) : Prop where
  kind : k = 1 ∨ k = 2
  hfx : -32767 ≤ fx ∧ fx ≤ 32767
  hfy : -32767 ≤ fy ∧ fy ≤ 32767
  htx : k = 1 → -32767 ≤ tx ∧ tx ≤ 32767
  hty : k = 1 → -32767 ≤ ty ∧ ty ≤ 32767
  apart : k = 1 → tx - fx ≠ 0 ∨ ty - fy ≠ 0
  radius : k = 2 → 1 ≤ r ∧ r ≤ 32767
  hx : -8192 ≤ x ∧ x < 8192
  hy : -8192 ≤ y ∧ y < 8192
theorem root_small {n : Int} (h : 0 ≤ n) (k : n < 17179869184) : 0 ≤ rootI n ∧ rootI n ≤ 131071 := by
  obtain ⟨h0, h1, h2⟩ := rootI_is h
  have : rootI n < 131072 := lt_of_sq (by omega) (by omega)
  exact ⟨h0, by omega⟩
theorem tdiv_in {a b : Int} (ha : 0 ≤ a) (hb : 1 ≤ b) : 0 ≤ a.tdiv b ∧ a.tdiv b ≤ a := by
  rw [Int.tdiv_eq_ediv_of_nonneg ha]
  exact ⟨Int.ediv_nonneg ha (by omega), Int.ediv_le_self _ ha⟩
set_option maxHeartbeats 2000000 in
theorem place_gives {k : Int} {I : Nat → Int} {fx fy tx ty r : Int} {st : Value} {W H : Int} {px sf : Value} {a b c d e f : Int} {s t : Bool} {x y : Int} {G : Mem} (h : InPlace k fx fy tx ty r x y) :
    Gives Try.prog 66 [srcA k I fx fy tx ty r st W H px sf a b c d e f s t, .val (.int .i64 x), .val (.int .i64 y)] G (.val (.int .i64 (placeV k fx fy tx ty r x y))) := by
  refine Gives_of tab_ok Try.func66 ?_
  obtain ⟨h1, h2, h3, h4, h5, h6, h7, h8, h9⟩ := h
  rcases h1 with rfl | rfl
  · have h4 := h4 rfl
    have h5 := h5 rfl
    have h6 := h6 rfl
    have p1 := absMul (a := tx - fx) (b := 2 * x + 1 - 2 * fx) (A := 65534) (B := 81919) (by omega) (by omega)
    have p2 := absMul (a := ty - fy) (b := 2 * y + 1 - 2 * fy) (A := 65534) (B := 81919) (by omega) (by omega)
    have p3 := absMul (a := tx - fx) (b := tx - fx) (A := 65534) (B := 65534) (by omega) (by omega)
    have p4 := absMul (a := ty - fy) (b := ty - fy) (A := 65534) (B := 65534) (by omega) (by omega)
    have p5 : 1 ≤ (tx - fx) * (tx - fx) + (ty - fy) * (ty - fy) := by
      have := sq_nonneg (tx - fx)
      have := sq_nonneg (ty - fy)
      rcases h6 with h6 | h6
      · have := sq_pos h6; omega
      · have := sq_pos h6; omega
    (repeat ((try (conv => whnf)); (first | (with_reducible refine condP_true ?_) | (with_reducible refine condP_false ?_) | (with_reducible refine condP_not ?_) | (with_reducible refine condP_and ?_) | ((with_reducible refine condP_dt ?_ ?_); (· omega)) | ((with_reducible refine condP_df ?_ ?_); (· omega)) | ((with_reducible refine condP_yes ?_ ?_); (· assumption)) | ((with_reducible refine condP_no ?_ ?_); (· assumption)) | ((with_reducible refine ArP_i64 ?_ ?_); (· omega)) | ((with_reducible refine mustP.mk ?_ ?_); (· first | omega | rfl | (dsimp only; omega))) | (with_reducible refine EqP_nil tab_ok ?_) | (with_reducible refine EqP_sli tab_ok ?_) | (with_reducible refine DrawP_auto tab_ok (by kernel_rfl) (by decide +kernel) ?_) | (with_reducible refine DrawP_auto2 tab_ok (by kernel_rfl) (by decide +kernel) ?_) | (with_reducible refine eq29 ?_) | (with_reducible refine eq31 ?_) | (with_reducible refine eq48 ?_) | (with_reducible refine eq52 ?_) | (with_reducible refine eq83 ?_) | (with_reducible refine eq110 ?_) | (with_reducible refine eq136 ?_) | (with_reducible refine eq155 ?_) | (with_reducible refine eq163 ?_) | (with_reducible refine eq170 ?_))))
    refine CallP_quo _ rfl (by omega) (by omega) ?_
    (repeat ((try (conv => whnf)); (first | (with_reducible refine condP_true ?_) | (with_reducible refine condP_false ?_) | (with_reducible refine condP_not ?_) | (with_reducible refine condP_and ?_) | ((with_reducible refine condP_dt ?_ ?_); (· omega)) | ((with_reducible refine condP_df ?_ ?_); (· omega)) | ((with_reducible refine condP_yes ?_ ?_); (· assumption)) | ((with_reducible refine condP_no ?_ ?_); (· assumption)) | ((with_reducible refine ArP_i64 ?_ ?_); (· omega)) | ((with_reducible refine mustP.mk ?_ ?_); (· first | omega | rfl | (dsimp only; omega))) | (with_reducible refine EqP_nil tab_ok ?_) | (with_reducible refine EqP_sli tab_ok ?_) | (with_reducible refine DrawP_auto tab_ok (by kernel_rfl) (by decide +kernel) ?_) | (with_reducible refine DrawP_auto2 tab_ok (by kernel_rfl) (by decide +kernel) ?_) | (with_reducible refine eq29 ?_) | (with_reducible refine eq31 ?_) | (with_reducible refine eq48 ?_) | (with_reducible refine eq52 ?_) | (with_reducible refine eq83 ?_) | (with_reducible refine eq110 ?_) | (with_reducible refine eq136 ?_) | (with_reducible refine eq155 ?_) | (with_reducible refine eq163 ?_) | (with_reducible refine eq170 ?_))))
    exact ⟨by rw [placeV, if_pos rfl], rfl⟩
  · have h7 := h7 rfl
    have p1 := absMul (a := 2 * x + 1 - 2 * fx) (b := 2 * x + 1 - 2 * fx) (A := 81919) (B := 81919) (by omega) (by omega)
    have p2 := absMul (a := 2 * y + 1 - 2 * fy) (b := 2 * y + 1 - 2 * fy) (A := 81919) (B := 81919) (by omega) (by omega)
    have p3 := sq_nonneg (2 * x + 1 - 2 * fx)
    have p4 := sq_nonneg (2 * y + 1 - 2 * fy)
    have hs := Sqrt_gives (n := (2 * x + 1 - 2 * fx) * (2 * x + 1 - 2 * fx) + (2 * y + 1 - 2 * fy) * (2 * y + 1 - 2 * fy)) (G := G) (by omega)
    have p5 := root_small (n := (2 * x + 1 - 2 * fx) * (2 * x + 1 - 2 * fx) + (2 * y + 1 - 2 * fy) * (2 * y + 1 - 2 * fy)) (by omega) (by omega)
    have p6 := tdiv_in (a := 65536 * rootI ((2 * x + 1 - 2 * fx) * (2 * x + 1 - 2 * fx) + (2 * y + 1 - 2 * fy) * (2 * y + 1 - 2 * fy))) (b := 2 * r) (by omega) (by omega)
    (repeat ((try (conv => whnf)); (first | (with_reducible refine condP_true ?_) | (with_reducible refine condP_false ?_) | (with_reducible refine condP_not ?_) | (with_reducible refine condP_and ?_) | ((with_reducible refine condP_dt ?_ ?_); (· omega)) | ((with_reducible refine condP_df ?_ ?_); (· omega)) | ((with_reducible refine condP_yes ?_ ?_); (· assumption)) | ((with_reducible refine condP_no ?_ ?_); (· assumption)) | ((with_reducible refine ArP_i64 ?_ ?_); (· omega)) | ((with_reducible refine mustP.mk ?_ ?_); (· first | omega | rfl | (dsimp only; omega))) | (with_reducible refine EqP_nil tab_ok ?_) | (with_reducible refine EqP_sli tab_ok ?_) | (with_reducible refine DrawP_auto tab_ok (by kernel_rfl) (by decide +kernel) ?_) | (with_reducible refine DrawP_auto2 tab_ok (by kernel_rfl) (by decide +kernel) ?_) | (with_reducible refine eq29 ?_) | (with_reducible refine eq31 ?_) | (with_reducible refine eq48 ?_) | (with_reducible refine eq52 ?_) | (with_reducible refine eq83 ?_) | (with_reducible refine eq110 ?_) | (with_reducible refine eq136 ?_) | (with_reducible refine eq155 ?_) | (with_reducible refine eq163 ?_) | (with_reducible refine eq170 ?_) | (with_reducible refine CallP_gives (fun vs w => by kernel_rfl) (by kernel_rfl) (hs) ?_) | (with_reducible refine RCallP_gives (fun vs w => by kernel_rfl) (by kernel_rfl) (hs) ?_))))
    exact ⟨by rw [placeV, if_neg (by omega)], rfl⟩
theorem clamp_0 {t : Int} (h : t < 0) : max 0 (min 65536 t) = 0 := by omega
theorem clamp_1 {t : Int} (h : 65536 < t) : max 0 (min 65536 t) = 65536 := by omega
theorem clamp_2 {t : Int} (h : ¬ t < 0) (k : ¬ 65536 < t) : max 0 (min 65536 t) = t := by omega
set_option maxHeartbeats 2000000 in
theorem RPlace_gives {k : Int} {I : Nat → Int} {fx fy tx ty r : Int} {st : Value} {W H : Int} {px sf : Value} {a b c d e f : Int} {s t : Bool} {x y : Int} {G : Mem} (h : InPlace k fx fy tx ty r x y) :
    Gives Try.prog 33 [srcA k I fx fy tx ty r st W H px sf a b c d e f s t, .val (.int .i64 x), .val (.int .i64 y)] G (.val (.int .i64 (placeV k fx fy tx ty r x y))) := by
  refine Gives_of tab_ok Try.func33 ?_
  obtain ⟨h1, h2, h3, h4, h5, h6, h7, h8, h9⟩ := h
  have e1 : 2 * x + 1 - 2 * fx = 2 * (x - fx) + 1 := by omega
  have e2 : 2 * y + 1 - 2 * fy = 2 * (y - fy) + 1 := by omega
  rcases h1 with rfl | rfl
  · have h4 := h4 rfl
    have h5 := h5 rfl
    have h6 := h6 rfl
    rw [placeV, if_pos rfl, e1, e2]
    have p1 := absMul (a := tx - fx) (b := 2 * (x - fx) + 1) (A := 65534) (B := 81919) (by omega) (by omega)
    have p2 := absMul (a := ty - fy) (b := 2 * (y - fy) + 1) (A := 65534) (B := 81919) (by omega) (by omega)
    have p3 := absMul (a := tx - fx) (b := tx - fx) (A := 65534) (B := 65534) (by omega) (by omega)
    have p4 := absMul (a := ty - fy) (b := ty - fy) (A := 65534) (B := 65534) (by omega) (by omega)
    have p5 : 1 ≤ (tx - fx) * (tx - fx) + (ty - fy) * (ty - fy) := by
      have := sq_nonneg (tx - fx)
      have := sq_nonneg (ty - fy)
      rcases h6 with h6 | h6
      · have := sq_pos h6; omega
      · have := sq_pos h6; omega
    have hd := Down_gives (a := 32768 * ((tx - fx) * (2 * (x - fx) + 1) + (ty - fy) * (2 * (y - fy) + 1))) (b := (tx - fx) * (tx - fx) + (ty - fy) * (ty - fy)) (G := G) (by omega) (by omega)
    have e3 : 65536 * ((tx - fx) * (2 * (x - fx) + 1) + (ty - fy) * (2 * (y - fy) + 1)) / (2 * ((tx - fx) * (tx - fx) + (ty - fy) * (ty - fy))) = 32768 * ((tx - fx) * (2 * (x - fx) + 1) + (ty - fy) * (2 * (y - fy) + 1)) / ((tx - fx) * (tx - fx) + (ty - fy) * (ty - fy)) := by
      rw [show 65536 * ((tx - fx) * (2 * (x - fx) + 1) + (ty - fy) * (2 * (y - fy) + 1)) = 2 * (32768 * ((tx - fx) * (2 * (x - fx) + 1) + (ty - fy) * (2 * (y - fy) + 1))) by omega]
      exact Int.mul_ediv_mul_of_pos _ _ (by omega)
    rw [e3]
    have hq : 32768 * ((tx - fx) * (2 * (x - fx) + 1) + (ty - fy) * (2 * (y - fy) + 1)) / ((tx - fx) * (tx - fx) + (ty - fy) * (ty - fy)) = 32768 * ((tx - fx) * (2 * (x - fx) + 1) + (ty - fy) * (2 * (y - fy) + 1)) / ((tx - fx) * (tx - fx) + (ty - fy) * (ty - fy)) := rfl
    revert hd
    generalize hQ : 32768 * ((tx - fx) * (2 * (x - fx) + 1) + (ty - fy) * (2 * (y - fy) + 1)) / ((tx - fx) * (tx - fx) + (ty - fy) * (ty - fy)) = Q
    clear hq e3 hQ
    intro hd
    by_cases c1 : Q < 0
    · (repeat ((try (conv => whnf)); (first | (with_reducible refine condP_true ?_) | (with_reducible refine condP_false ?_) | (with_reducible refine condP_not ?_) | (with_reducible refine condP_and ?_) | ((with_reducible refine condP_dt ?_ ?_); (· omega)) | ((with_reducible refine condP_df ?_ ?_); (· omega)) | ((with_reducible refine condP_yes ?_ ?_); (· assumption)) | ((with_reducible refine condP_no ?_ ?_); (· assumption)) | ((with_reducible refine ArP_i64 ?_ ?_); (· omega)) | ((with_reducible refine mustP.mk ?_ ?_); (· first | omega | rfl | (dsimp only; omega))) | (with_reducible refine EqP_nil tab_ok ?_) | (with_reducible refine EqP_sli tab_ok ?_) | (with_reducible refine DrawP_auto tab_ok (by kernel_rfl) (by decide +kernel) ?_) | (with_reducible refine DrawP_auto2 tab_ok (by kernel_rfl) (by decide +kernel) ?_) | (with_reducible refine eq29 ?_) | (with_reducible refine eq31 ?_) | (with_reducible refine eq48 ?_) | (with_reducible refine eq52 ?_) | (with_reducible refine eq83 ?_) | (with_reducible refine eq110 ?_) | (with_reducible refine eq136 ?_) | (with_reducible refine eq155 ?_) | (with_reducible refine eq163 ?_) | (with_reducible refine eq170 ?_) | (with_reducible refine CallP_gives (fun vs w => by kernel_rfl) (by kernel_rfl) (hd) ?_) | (with_reducible refine RCallP_gives (fun vs w => by kernel_rfl) (by kernel_rfl) (hd) ?_))))
      exact ⟨by rw [clamp_0 c1], rfl⟩
    · by_cases c2 : 65536 < Q
      · (repeat ((try (conv => whnf)); (first | (with_reducible refine condP_true ?_) | (with_reducible refine condP_false ?_) | (with_reducible refine condP_not ?_) | (with_reducible refine condP_and ?_) | ((with_reducible refine condP_dt ?_ ?_); (· omega)) | ((with_reducible refine condP_df ?_ ?_); (· omega)) | ((with_reducible refine condP_yes ?_ ?_); (· assumption)) | ((with_reducible refine condP_no ?_ ?_); (· assumption)) | ((with_reducible refine ArP_i64 ?_ ?_); (· omega)) | ((with_reducible refine mustP.mk ?_ ?_); (· first | omega | rfl | (dsimp only; omega))) | (with_reducible refine EqP_nil tab_ok ?_) | (with_reducible refine EqP_sli tab_ok ?_) | (with_reducible refine DrawP_auto tab_ok (by kernel_rfl) (by decide +kernel) ?_) | (with_reducible refine DrawP_auto2 tab_ok (by kernel_rfl) (by decide +kernel) ?_) | (with_reducible refine eq29 ?_) | (with_reducible refine eq31 ?_) | (with_reducible refine eq48 ?_) | (with_reducible refine eq52 ?_) | (with_reducible refine eq83 ?_) | (with_reducible refine eq110 ?_) | (with_reducible refine eq136 ?_) | (with_reducible refine eq155 ?_) | (with_reducible refine eq163 ?_) | (with_reducible refine eq170 ?_) | (with_reducible refine CallP_gives (fun vs w => by kernel_rfl) (by kernel_rfl) (hd) ?_) | (with_reducible refine RCallP_gives (fun vs w => by kernel_rfl) (by kernel_rfl) (hd) ?_))))
        exact ⟨by rw [clamp_1 c2], rfl⟩
      · (repeat ((try (conv => whnf)); (first | (with_reducible refine condP_true ?_) | (with_reducible refine condP_false ?_) | (with_reducible refine condP_not ?_) | (with_reducible refine condP_and ?_) | ((with_reducible refine condP_dt ?_ ?_); (· omega)) | ((with_reducible refine condP_df ?_ ?_); (· omega)) | ((with_reducible refine condP_yes ?_ ?_); (· assumption)) | ((with_reducible refine condP_no ?_ ?_); (· assumption)) | ((with_reducible refine ArP_i64 ?_ ?_); (· omega)) | ((with_reducible refine mustP.mk ?_ ?_); (· first | omega | rfl | (dsimp only; omega))) | (with_reducible refine EqP_nil tab_ok ?_) | (with_reducible refine EqP_sli tab_ok ?_) | (with_reducible refine DrawP_auto tab_ok (by kernel_rfl) (by decide +kernel) ?_) | (with_reducible refine DrawP_auto2 tab_ok (by kernel_rfl) (by decide +kernel) ?_) | (with_reducible refine eq29 ?_) | (with_reducible refine eq31 ?_) | (with_reducible refine eq48 ?_) | (with_reducible refine eq52 ?_) | (with_reducible refine eq83 ?_) | (with_reducible refine eq110 ?_) | (with_reducible refine eq136 ?_) | (with_reducible refine eq155 ?_) | (with_reducible refine eq163 ?_) | (with_reducible refine eq170 ?_) | (with_reducible refine CallP_gives (fun vs w => by kernel_rfl) (by kernel_rfl) (hd) ?_) | (with_reducible refine RCallP_gives (fun vs w => by kernel_rfl) (by kernel_rfl) (hd) ?_))))
        exact ⟨by rw [clamp_2 c1 c2], rfl⟩
  · have h7 := h7 rfl
    rw [placeV, if_neg (by omega), e1, e2]
    have p1 := absMul (a := 2 * (x - fx) + 1) (b := 2 * (x - fx) + 1) (A := 81919) (B := 81919) (by omega) (by omega)
    have p2 := absMul (a := 2 * (y - fy) + 1) (b := 2 * (y - fy) + 1) (A := 81919) (B := 81919) (by omega) (by omega)
    have p3 := sq_nonneg (2 * (x - fx) + 1)
    have p4 := sq_nonneg (2 * (y - fy) + 1)
    have hs := RRoot_gives (n := (2 * (x - fx) + 1) * (2 * (x - fx) + 1) + (2 * (y - fy) + 1) * (2 * (y - fy) + 1)) (G := G) (by omega)
    have p5 := root_small (n := (2 * (x - fx) + 1) * (2 * (x - fx) + 1) + (2 * (y - fy) + 1) * (2 * (y - fy) + 1)) (by omega) (by omega)
    revert hs p5
    generalize rootI ((2 * (x - fx) + 1) * (2 * (x - fx) + 1) + (2 * (y - fy) + 1) * (2 * (y - fy) + 1)) = R
    intro hs p5
    have hd := Down_gives (a := 32768 * R) (b := r) (G := G) (by omega) (by omega)
    have e3 : (65536 * R).tdiv (2 * r) = 32768 * R / r := by
      rw [Int.tdiv_eq_ediv_of_nonneg (by omega), show 65536 * R = 2 * (32768 * R) by omega]
      exact Int.mul_ediv_mul_of_pos _ _ (by omega)
    rw [e3]
    revert hd
    generalize hQ : 32768 * R / r = Q
    clear e3 hQ
    intro hd
    by_cases c1 : Q < 0
    · (repeat ((try (conv => whnf)); (first | (with_reducible refine condP_true ?_) | (with_reducible refine condP_false ?_) | (with_reducible refine condP_not ?_) | (with_reducible refine condP_and ?_) | ((with_reducible refine condP_dt ?_ ?_); (· omega)) | ((with_reducible refine condP_df ?_ ?_); (· omega)) | ((with_reducible refine condP_yes ?_ ?_); (· assumption)) | ((with_reducible refine condP_no ?_ ?_); (· assumption)) | ((with_reducible refine ArP_i64 ?_ ?_); (· omega)) | ((with_reducible refine mustP.mk ?_ ?_); (· first | omega | rfl | (dsimp only; omega))) | (with_reducible refine EqP_nil tab_ok ?_) | (with_reducible refine EqP_sli tab_ok ?_) | (with_reducible refine DrawP_auto tab_ok (by kernel_rfl) (by decide +kernel) ?_) | (with_reducible refine DrawP_auto2 tab_ok (by kernel_rfl) (by decide +kernel) ?_) | (with_reducible refine eq29 ?_) | (with_reducible refine eq31 ?_) | (with_reducible refine eq48 ?_) | (with_reducible refine eq52 ?_) | (with_reducible refine eq83 ?_) | (with_reducible refine eq110 ?_) | (with_reducible refine eq136 ?_) | (with_reducible refine eq155 ?_) | (with_reducible refine eq163 ?_) | (with_reducible refine eq170 ?_) | (with_reducible refine CallP_gives (fun vs w => by kernel_rfl) (by kernel_rfl) (hs) ?_) | (with_reducible refine RCallP_gives (fun vs w => by kernel_rfl) (by kernel_rfl) (hs) ?_) | (with_reducible refine CallP_gives (fun vs w => by kernel_rfl) (by kernel_rfl) (hd) ?_) | (with_reducible refine RCallP_gives (fun vs w => by kernel_rfl) (by kernel_rfl) (hd) ?_))))
      exact ⟨by rw [clamp_0 c1], rfl⟩
    · by_cases c2 : 65536 < Q
      · (repeat ((try (conv => whnf)); (first | (with_reducible refine condP_true ?_) | (with_reducible refine condP_false ?_) | (with_reducible refine condP_not ?_) | (with_reducible refine condP_and ?_) | ((with_reducible refine condP_dt ?_ ?_); (· omega)) | ((with_reducible refine condP_df ?_ ?_); (· omega)) | ((with_reducible refine condP_yes ?_ ?_); (· assumption)) | ((with_reducible refine condP_no ?_ ?_); (· assumption)) | ((with_reducible refine ArP_i64 ?_ ?_); (· omega)) | ((with_reducible refine mustP.mk ?_ ?_); (· first | omega | rfl | (dsimp only; omega))) | (with_reducible refine EqP_nil tab_ok ?_) | (with_reducible refine EqP_sli tab_ok ?_) | (with_reducible refine DrawP_auto tab_ok (by kernel_rfl) (by decide +kernel) ?_) | (with_reducible refine DrawP_auto2 tab_ok (by kernel_rfl) (by decide +kernel) ?_) | (with_reducible refine eq29 ?_) | (with_reducible refine eq31 ?_) | (with_reducible refine eq48 ?_) | (with_reducible refine eq52 ?_) | (with_reducible refine eq83 ?_) | (with_reducible refine eq110 ?_) | (with_reducible refine eq136 ?_) | (with_reducible refine eq155 ?_) | (with_reducible refine eq163 ?_) | (with_reducible refine eq170 ?_) | (with_reducible refine CallP_gives (fun vs w => by kernel_rfl) (by kernel_rfl) (hs) ?_) | (with_reducible refine RCallP_gives (fun vs w => by kernel_rfl) (by kernel_rfl) (hs) ?_) | (with_reducible refine CallP_gives (fun vs w => by kernel_rfl) (by kernel_rfl) (hd) ?_) | (with_reducible refine RCallP_gives (fun vs w => by kernel_rfl) (by kernel_rfl) (hd) ?_))))
        exact ⟨by rw [clamp_1 c2], rfl⟩
      · (repeat ((try (conv => whnf)); (first | (with_reducible refine condP_true ?_) | (with_reducible refine condP_false ?_) | (with_reducible refine condP_not ?_) | (with_reducible refine condP_and ?_) | ((with_reducible refine condP_dt ?_ ?_); (· omega)) | ((with_reducible refine condP_df ?_ ?_); (· omega)) | ((with_reducible refine condP_yes ?_ ?_); (· assumption)) | ((with_reducible refine condP_no ?_ ?_); (· assumption)) | ((with_reducible refine ArP_i64 ?_ ?_); (· omega)) | ((with_reducible refine mustP.mk ?_ ?_); (· first | omega | rfl | (dsimp only; omega))) | (with_reducible refine EqP_nil tab_ok ?_) | (with_reducible refine EqP_sli tab_ok ?_) | (with_reducible refine DrawP_auto tab_ok (by kernel_rfl) (by decide +kernel) ?_) | (with_reducible refine DrawP_auto2 tab_ok (by kernel_rfl) (by decide +kernel) ?_) | (with_reducible refine eq29 ?_) | (with_reducible refine eq31 ?_) | (with_reducible refine eq48 ?_) | (with_reducible refine eq52 ?_) | (with_reducible refine eq83 ?_) | (with_reducible refine eq110 ?_) | (with_reducible refine eq136 ?_) | (with_reducible refine eq155 ?_) | (with_reducible refine eq163 ?_) | (with_reducible refine eq170 ?_) | (with_reducible refine CallP_gives (fun vs w => by kernel_rfl) (by kernel_rfl) (hs) ?_) | (with_reducible refine RCallP_gives (fun vs w => by kernel_rfl) (by kernel_rfl) (hs) ?_) | (with_reducible refine CallP_gives (fun vs w => by kernel_rfl) (by kernel_rfl) (hd) ?_) | (with_reducible refine RCallP_gives (fun vs w => by kernel_rfl) (by kernel_rfl) (hd) ?_))))
        exact ⟨by rw [clamp_2 c1 c2], rfl⟩
end Go.Proofs.Ytampdegpfndggaa
