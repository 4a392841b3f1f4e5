/-
  Comparing two ink vectors.
-/
import Derived.Test.YtbkhpddodmbdoaaProg
import Derived.WalkKit
import Derived.ChangeKeysEq
namespace Go.Proofs.Ytbkhpddodmbdoaa
open Go.RowKit

theorem u8_eq (a b : Int) (w : World) : (Op.equalIn 9999 5 (.int .u8 a) (.int .u8 b)).run Try.prog w = .ok (a == b) w := run_equalIn_int w 9998 _ _ .u8 a b Try.underlying5
theorem eq_step {xs ys : Array Value} {j : Nat} {a b : Int} {w : World} {is : List Nat} {r : Bool} (pa : (part 5 xs (j * 1)).run Try.prog w = .ok (.int .u8 a) w) (pb : (part 5 ys (j * 1)).run Try.prog w = .ok (.int .u8 b) w)
    (hr : (Op.eqItems 9999 5 1 xs ys is).run Try.prog w = .ok r w) : (Op.eqItems 9999 5 1 xs ys (j :: is)).run Try.prog w = .ok (a == b && r) w := by
  simp only [Op.eqItems, Sem.run_bind, pa, pb, Result.andThen_ok, u8_eq]
  cases h : (a == b)
  · simp
  · simpa using hr
@[go_sem] theorem inks_eq (a0 a1 a2 a3 a4 a5 a6 a7 b0 b1 b2 b3 b4 b5 b6 b7 : Int) (w : World) :
    (Op.equalIn 10000 27 (.agg #[.int .u8 a0, .int .u8 a1, .int .u8 a2, .int .u8 a3, .int .u8 a4, .int .u8 a5, .int .u8 a6, .int .u8 a7]) (.agg #[.int .u8 b0, .int .u8 b1, .int .u8 b2, .int .u8 b3, .int .u8 b4, .int .u8 b5, .int .u8 b6, .int .u8 b7])).run Try.prog w =
      .ok (a0 == b0 && (a1 == b1 && (a2 == b2 && (a3 == b3 && (a4 == b4 && (a5 == b5 && (a6 == b6 && (a7 == b7 && true)))))))) w := by
  have hc : Try.prog.cellsOf 5 = 1 := by kernel_rfl
  obtain ⟨i, hi⟩ : ∃ i, Try.prog.info? 5 = some i := Option.isSome_iff_exists.1 (by kernel_rfl)
  rw [run_equalIn_array w 9999 (e := 5) (n := 8) _ _ Try.underlying27 hi]
  rw [hc, show List.range 8 = [0, 1, 2, 3, 4, 5, 6, 7] from rfl]
  exact eq_step (by kernel_rfl) (by kernel_rfl) (eq_step (by kernel_rfl) (by kernel_rfl) (eq_step (by kernel_rfl) (by kernel_rfl) (eq_step (by kernel_rfl) (by kernel_rfl) (eq_step (by kernel_rfl) (by kernel_rfl) (eq_step (by kernel_rfl) (by kernel_rfl) (eq_step (by kernel_rfl) (by kernel_rfl) (eq_step (by kernel_rfl) (by kernel_rfl) (rfl))))))))
end Go.Proofs.Ytbkhpddodmbdoaa
