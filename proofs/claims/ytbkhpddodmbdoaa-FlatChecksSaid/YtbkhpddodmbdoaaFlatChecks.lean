/-
  FlatChecks: the law's walk.
-/
import Derived.Test.YtbkhpddodmbdoaaPiecesR
import Derived.Test.YtbkhpddodmbdoaaPiecesM
import Derived.Test.YtbkhpddodmbdoaaStand
namespace Go.Proofs.Ytbkhpddodmbdoaa.flatChecks
open Go.RowKit
set_option linter.unusedVariables false
set_option maxRecDepth 20000
def p0 : PcD := ⟨[], none, 0, fun _ => 0⟩
theorem p0_err : pcsE 1 1 1 (fun _ => p0) = 8 := by
  have e : pcE 1 1 p0 = 8 := pcE_none rfl rfl
  unfold pcsE
  rw [if_neg (by omega), if_neg (by omega)]
  have h : firstZ (fun i => pcE 1 1 ((fun _ => p0) i)) 1 = 8 := by
    show (if (0 : Int) ≠ 0 then (0 : Int) else pcE 1 1 p0) = 8
    rw [if_neg (by omega), e]
  rw [if_pos (by rw [h]; omega), h]
theorem p0_m {b : Nat} {G : Mem} (hc : ∀ (j : Nat) u, (pcC p0)[j]? = some u → G.cell? ⟨b, j, none⟩ = some u) : PcsM G (some ⟨b, 0, none⟩) 1 (fun _ => p0) := by
  refine ⟨⟨fun x hx => rfl, fun x hx => ⟨b, 0, rfl, fun j v hj => ?_⟩⟩, fun i hi => RunsM.nil _ _, fun i hi => ⟨Nat.le_refl _, Nat.zero_le _⟩, fun i hi j => by simp [p0]⟩
  obtain rfl : x = 0 := by omega
  have := hc j v hj
  simpa using this
set_option maxHeartbeats 4000000 in
theorem body {A : Option Addr} {n c : Nat} {p : Nat → PcD} {W H : Int} {G : Mem} (hp : PcsM G A n p) (hn : n ≤ c) (hc : c ≤ maxLen) :
    bodyV Try.prog tab 0 Try.f3 [.val (.int .i64 W), .val (.int .i64 H), .val (.slice A n c)] [] G fun v _ _ => v = .val (.bool true) := by
  have hm : 1 ≤ maxLen := by unfold maxLen; omega
  by_cases h12 : n ≤ 12
  · (repeat ((try (conv => whnf)); (first | (with_reducible first | refine condP_true ?_ | refine condP_false ?_ | refine condP_not ?_ | refine condP_and ?_) | ((with_reducible refine condP_dt ?_ ?_); (· omega)) | ((with_reducible refine condP_df ?_ ?_); (· omega)) | ((with_reducible refine condP_yes ?_ ?_); (· assumption)) | ((with_reducible refine condP_no ?_ ?_); (· assumption)) | ((with_reducible refine ArP_i64 ?_ ?_); (· omega)) | ((with_reducible refine mustP.mk ?_ ?_); (· first | omega | rfl | (dsimp only; omega))) | (with_reducible first | refine EqP_nil tab_ok ?_ | refine EqP_sli tab_ok ?_ | refine DrawP_auto tab_ok (by kernel_rfl) (by decide +kernel) ?_ | refine DrawP_auto2 tab_ok (by kernel_rfl) (by decide +kernel) ?_ | refine eq27 ?_ | refine eq44 ?_ | refine eq54 ?_ | refine eq76 ?_ | refine eq134 ?_))))
    conv => whnf
    refine CallP_stand 0 (fun vs w => by kernel_rfl) (by rfl) (by rfl) (xs := pcC p0) rfl fun b G1 hle hcc => ?_
    conv => whnf
    have g0 := FCheck_gives (c := 1) (w := 1) (h := 1) (p0_m hcc) hm
    rw [p0_err] at g0
    refine CallP_gives (fun vs w => by kernel_rfl) (by kernel_rfl) g0 ?_
    have g1 := FCheck_gives (c := c) (w := W) (h := H) (hp.mono hle) (by omega)
    have g2 := RPieces_gives (c := c) (w := W) (h := H) (hp.mono hle) (by omega)
    generalize pcsE W H n p = e at *
    (repeat ((try (conv => whnf)); (first | (with_reducible first | refine condP_true ?_ | refine condP_false ?_ | refine condP_not ?_ | refine condP_and ?_) | ((with_reducible refine condP_dt ?_ ?_); (· omega)) | ((with_reducible refine condP_df ?_ ?_); (· omega)) | ((with_reducible refine condP_yes ?_ ?_); (· assumption)) | ((with_reducible refine condP_no ?_ ?_); (· assumption)) | ((with_reducible refine ArP_i64 ?_ ?_); (· omega)) | ((with_reducible refine mustP.mk ?_ ?_); (· first | omega | rfl | (dsimp only; omega))) | (with_reducible first | refine EqP_nil tab_ok ?_ | refine EqP_sli tab_ok ?_ | refine DrawP_auto tab_ok (by kernel_rfl) (by decide +kernel) ?_ | refine DrawP_auto2 tab_ok (by kernel_rfl) (by decide +kernel) ?_ | refine eq27 ?_ | refine eq44 ?_ | refine eq54 ?_ | refine eq76 ?_ | refine eq134 ?_ | refine CallP_gives (fun vs w => by kernel_rfl) (by kernel_rfl) (g1) ?_ | refine RCallP_gives (fun vs w => by kernel_rfl) (by kernel_rfl) (g1) ?_ | refine CallP_gives (fun vs w => by kernel_rfl) (by kernel_rfl) (g2) ?_ | refine RCallP_gives (fun vs w => by kernel_rfl) (by kernel_rfl) (g2) ?_))))
    conv => whnf
    simp
  · unfold maxLen at *
    have hp' := hp.less (show 12 ≤ n by omega)
    (repeat ((try (conv => whnf)); (first | (with_reducible first | refine condP_true ?_ | refine condP_false ?_ | refine condP_not ?_ | refine condP_and ?_) | ((with_reducible refine condP_dt ?_ ?_); (· omega)) | ((with_reducible refine condP_df ?_ ?_); (· omega)) | ((with_reducible refine condP_yes ?_ ?_); (· assumption)) | ((with_reducible refine condP_no ?_ ?_); (· assumption)) | ((with_reducible refine ArP_i64 ?_ ?_); (· omega)) | ((with_reducible refine mustP.mk ?_ ?_); (· first | omega | rfl | (dsimp only; omega))) | (with_reducible first | refine EqP_nil tab_ok ?_ | refine EqP_sli tab_ok ?_ | refine DrawP_auto tab_ok (by kernel_rfl) (by decide +kernel) ?_ | refine DrawP_auto2 tab_ok (by kernel_rfl) (by decide +kernel) ?_ | refine eq27 ?_ | refine eq44 ?_ | refine eq54 ?_ | refine eq76 ?_ | refine eq134 ?_))))
    conv => whnf
    refine CallP_stand 0 (fun vs w => by kernel_rfl) (by rfl) (by rfl) (xs := pcC p0) rfl fun b G1 hle hcc => ?_
    conv => whnf
    have g0 := FCheck_gives (c := 1) (w := 1) (h := 1) (p0_m hcc) hm
    rw [p0_err] at g0
    refine CallP_gives (fun vs w => by kernel_rfl) (by kernel_rfl) g0 ?_
    have ea : (if c = ((0 : Nat) : Int).toNat then A else A.map (·.add (((0 : Nat) : Int).toNat * 9))) = A := by
      rw [if_neg (show ¬ c = ((0 : Nat) : Int).toNat from fun h => by have h' : c = 0 := h; omega)]
      cases A with
      | none => rfl
      | some a => simp [Addr.add]
    have hp2 : PcsM G1 (if c = ((0 : Nat) : Int).toNat then A else A.map (·.add (((0 : Nat) : Int).toNat * 9))) 12 p := by rw [ea]; exact hp'.mono hle
    have g1 := FCheck_gives (c := c - 0) (w := W) (h := H) hp2 (by unfold maxLen; omega)
    have g2 := RPieces_gives (c := c - 0) (w := W) (h := H) hp2 (by unfold maxLen; omega)
    generalize pcsE W H 12 p = e at *
    (repeat ((try (conv => whnf)); (first | (refine CallP_gives (fun vs w => by kernel_rfl) (by kernel_rfl) g1 ?_) | (refine CallP_gives (fun vs w => by kernel_rfl) (by kernel_rfl) g2 ?_) | (with_reducible first | refine condP_true ?_ | refine condP_false ?_ | refine condP_not ?_ | refine condP_and ?_) | ((with_reducible refine condP_dt ?_ ?_); (· omega)) | ((with_reducible refine condP_df ?_ ?_); (· omega)) | ((with_reducible refine condP_yes ?_ ?_); (· assumption)) | ((with_reducible refine condP_no ?_ ?_); (· assumption)) | ((with_reducible refine ArP_i64 ?_ ?_); (· omega)) | ((with_reducible refine mustP.mk ?_ ?_); (· first | omega | rfl | (dsimp only; omega))) | (with_reducible first | refine EqP_nil tab_ok ?_ | refine EqP_sli tab_ok ?_ | refine DrawP_auto tab_ok (by kernel_rfl) (by decide +kernel) ?_ | refine DrawP_auto2 tab_ok (by kernel_rfl) (by decide +kernel) ?_ | refine eq27 ?_ | refine eq44 ?_ | refine eq54 ?_ | refine eq76 ?_ | refine eq134 ?_))))
    conv => whnf
    simp
theorem walk (a0 : Int) (a1 : Int) (A2 : Option Addr) (n2 : Nat) (q2 : Nat) (g2 : Nat → Nat → Value) (w : World) (w0 : (Lit.int .i64 a0).wf = true) (w1 : (Lit.int .i64 a1).wf = true) (c2 : n2 ≤ q2) (m2 : q2 ≤ maxLen) (s2 : SliceG Try.prog w 29 A2 n2 g2) :
    Calls Try.prog 3 #[.int .i64 a0, .int .i64 a1, .slice A2 n2 q2] w fun e w' => e = .returned (.bool true) ∧ Below w.heap.size w w' := by
  obtain ⟨p, hp⟩ := pcs_m s2
  exact walk_of tab_ok Try.func3 (rels_map_val [.int .i64 a0, .int .i64 a1, .slice A2 n2 q2]) (body hp c2 m2)
end Go.Proofs.Ytbkhpddodmbdoaa.flatChecks
