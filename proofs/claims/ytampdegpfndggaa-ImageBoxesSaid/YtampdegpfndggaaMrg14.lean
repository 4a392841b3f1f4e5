/-
  Merged: XSized, XMul.
-/
import Derived.SizedLaws
import Derived.ChangeArms
import Derived.Test.YtampdegpfndggaaMrg3
import Derived.Test.YtampdegpfndggaaMrg4
namespace Go.Proofs.Ytampdegpfndggaa
theorem sized_of {H : Type} {enc : TypeId × Value → H} {P : Program} {w : World} {base : Nat} {spare : Nat → Bool} {held : Bool} {ts : List TypeId} {ds : List (DataW H)} (hwt : (DataW.weightsEach P ts ds).all (· ≤ reachBytes) = true) {j : Nat} {t e : TypeId} {A : Option Addr} {n cap : Nat} {d : DataW H} {ps : List MemPlace}
    (hts : ts[j]? = some t) (hds : ds[j]? = some d) (ht : P.underlying t = some (.slice e)) (h : DataW.Trod enc P w base spare held t (.slice A n cap) d ps) : n * P.bytesOf e ≤ reachBytes := by
  obtain ⟨fuel, hf⟩ := h
  have hf' : DataW.trod enc P w base spare held fuel t [.slice A n cap] = some (d, ps) := by simpa [Value.cells] using hf
  rcases DataW.trod_slice ht hf' with ⟨h1, _⟩ | ⟨a, len, cap', elems, rest, m, _, h1, h2, _, _, _, h3, _⟩
  · simp at h1
    rw [h1.2.1]; simp
  · simp at h1
    obtain ⟨_, rfl, _⟩ := h1
    simp only [Prod.mk.injEq] at h2
    have := sized_slice hwt hts (by rw [hds, h2.1]) ht
    rw [List.length_map, List.length_map, h3] at this
    exact Nat.le_trans (Nat.mul_le_mul_right _ (Nat.le_add_right _ _)) this
end Go.Proofs.Ytampdegpfndggaa

namespace Go.Proofs.Ytampdegpfndggaa
open Go.RowKit

set_option maxHeartbeats 400000 in
theorem Mul255_any (a b : Int) (w : World) (ha : 0 ≤ a ∧ a ≤ 255) (hb : 0 ≤ b ∧ b ≤ 255) :
    Calls Try.prog 154 #[.int .u8 a, .int .u8 b] w fun e w' => e = .returned (.int .u8 (near (a * b) 255)) ∧ w = w' := by
  have hab := mul_bd ha hb
  have hn := near_bd (a * b) 255 255 (by omega) (by omega) (by omega)
  go_enter Try.func154, Try.ntmps154
  go_wp2_with (go_at_call 100; refine (Near_any _ _ _ ?_ ?_).mono ?_; omega; omega; rintro e w' ⟨rfl, rfl⟩)
  go_ret
  exact ⟨rfl, rfl⟩
set_option maxHeartbeats 400000 in
theorem RMul_any (a b : Int) (w : World) (ha : 0 ≤ a ∧ a ≤ 255) (hb : 0 ≤ b ∧ b ≤ 255) :
    Calls Try.prog 98 #[.int .i64 a, .int .i64 b] w fun e w' => e = .returned (.int .i64 (near (a * b) 255)) ∧ w = w' := by
  have hab := mul_bd ha hb
  have h2 : 2 * a * b = 2 * (a * b) := Int.mul_assoc _ _ _
  have hn : Hid _ := near_eq (a * b) 255 (by omega)
  go_enter Try.func98, Try.ntmps98
  go_wp2_with (go_at_call 68; refine (Down_any _ _ _ ?_ ?_).mono ?_; omega; omega; rintro e w' ⟨rfl, rfl⟩)
  go_ret
  exact ⟨ret_int hn.out, rfl⟩
end Go.Proofs.Ytampdegpfndggaa
