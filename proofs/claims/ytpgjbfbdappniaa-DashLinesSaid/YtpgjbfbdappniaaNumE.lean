/-
  Contracts of Quo, Near, Sqrt for the engine.
-/
import Derived.Test.YtpgjbfbdappniaaTab
import Derived.Test.YtpgjbfbdappniaaMrg3
namespace Go.Proofs.Ytpgjbfbdappniaa
open Go.RowKit
set_option linter.unusedVariables false
set_option maxRecDepth 20000
theorem Quo_gives {a b : Int} {G : Mem} (ha : -4611686018427387904 ≤ a ∧ a ≤ 4611686018427387904) (hb : 1 ≤ b ∧ b ≤ 4611686018427387904) : Gives Try.prog 80 [.val (.int .i64 a), .val (.int .i64 b)] G (.val (.int .i64 (a / b))) :=
  Gives.of_calls (args := [.int .i64 a, .int .i64 b]) fun w _ => (Quo_any a b w ha hb).mono fun _ _ h => ⟨h.1, h.2 ▸ Below.refl _ _⟩
theorem Near_gives {a b : Int} {G : Mem} (ha : -4611686018427387904 ≤ a ∧ a ≤ 4611686018427387904) (hb : 1 ≤ b ∧ b ≤ 4611686018427387904) : Gives Try.prog 66 [.val (.int .i64 a), .val (.int .i64 b)] G (.val (.int .i64 (near a b))) :=
  Gives.of_calls (args := [.int .i64 a, .int .i64 b]) fun w _ => (Near_any a b w ha hb).mono fun _ _ h => ⟨h.1, h.2 ▸ Below.refl _ _⟩
theorem RCallP_near {a b : Int} {hp : List Blk} {G : Mem} {K : AV → Prop} {M : AV → Blk → Prop} (c : Int) (e : near a b = c) (ha : -4611686018427387904 ≤ a ∧ a ≤ 4611686018427387904) (hb : 1 ≤ b ∧ b ≤ 4611686018427387904) (h : K (.val (.int .i64 c))) : RCallP Try.prog 66 [.val (.int .i64 a), .val (.int .i64 b)] hp G K M := RCallP_gives (fun vs w => by kernel_rfl) (by rfl) (Near_gives ha hb) (by rw [e]; exact h)
theorem RCallP_quo {a b : Int} {hp : List Blk} {G : Mem} {K : AV → Prop} {M : AV → Blk → Prop} (c : Int) (e : a / b = c) (ha : -4611686018427387904 ≤ a ∧ a ≤ 4611686018427387904) (hb : 1 ≤ b ∧ b ≤ 4611686018427387904) (h : K (.val (.int .i64 c))) : RCallP Try.prog 80 [.val (.int .i64 a), .val (.int .i64 b)] hp G K M := RCallP_gives (fun vs w => by kernel_rfl) (by rfl) (Quo_gives ha hb) (by rw [e]; exact h)
theorem CallP_near {a b : Int} {hp : List Blk} {G : Mem} {K : AV → List Blk → Mem → Prop} (c : Int) (e : near a b = c) (ha : -4611686018427387904 ≤ a ∧ a ≤ 4611686018427387904) (hb : 1 ≤ b ∧ b ≤ 4611686018427387904) (h : K (.val (.int .i64 c)) hp G) : CallP Try.prog 66 [.val (.int .i64 a), .val (.int .i64 b)] hp G K := CallP_gives (fun vs w => by kernel_rfl) (by rfl) (Near_gives ha hb) (by rw [e]; exact h)
theorem CallP_quo {a b : Int} {hp : List Blk} {G : Mem} {K : AV → List Blk → Mem → Prop} (c : Int) (e : a / b = c) (ha : -4611686018427387904 ≤ a ∧ a ≤ 4611686018427387904) (hb : 1 ≤ b ∧ b ≤ 4611686018427387904) (h : K (.val (.int .i64 c)) hp G) : CallP Try.prog 80 [.val (.int .i64 a), .val (.int .i64 b)] hp G K := CallP_gives (fun vs w => by kernel_rfl) (by rfl) (Quo_gives ha hb) (by rw [e]; exact h)
end Go.Proofs.Ytpgjbfbdappniaa
