/-
  Comparing two states that are the same.
-/
import Derived.Test.YtampdegpfndggaaOver
import Derived.Laws.StructEq
namespace Go.Proofs.Ytampdegpfndggaa
open Go.RowKit

theorem eq_stepd {d : Nat} {xs ys : Array Value} {j : Nat} {a : Int} {w : World} {is : List Nat} (pa : (part 5 xs (j * 1)).run Try.prog w = .ok (.int .u8 a) w) (pb : (part 5 ys (j * 1)).run Try.prog w = .ok (.int .u8 a) w)
    (hr : (Op.eqItems (d + 1) 5 1 xs ys is).run Try.prog w = .ok true w) : (Op.eqItems (d + 1) 5 1 xs ys (j :: is)).run Try.prog w = .ok true w := by
  have h := run_equalIn_int w d 5 .u8 .u8 a a Try.underlying5
  simp only [Op.eqItems, Sem.run_bind, pa, pb, Result.andThen_ok, h]
  simpa using hr
theorem inks_refl (d : Nat) (a0 a1 a2 a3 a4 a5 a6 a7 : Int) (w : World) :
    (Op.equalIn (d + 2) 29 (.agg #[.int .u8 a0, .int .u8 a1, .int .u8 a2, .int .u8 a3, .int .u8 a4, .int .u8 a5, .int .u8 a6, .int .u8 a7]) (.agg #[.int .u8 a0, .int .u8 a1, .int .u8 a2, .int .u8 a3, .int .u8 a4, .int .u8 a5, .int .u8 a6, .int .u8 a7])).run Try.prog w = .ok true w := by
  have hc : Try.prog.cellsOf 5 = 1 := by kernel_rfl
  obtain ⟨i, hi⟩ : ∃ i, Try.prog.info? 5 = some i := Option.isSome_iff_exists.1 (by kernel_rfl)
  rw [run_equalIn_array w (d + 1) (e := 5) (n := 8) _ _ Try.underlying29 hi]
  rw [hc, show List.range 8 = [0, 1, 2, 3, 4, 5, 6, 7] from rfl]
  exact eq_stepd (a := a0) (by kernel_rfl) (by kernel_rfl) (eq_stepd (a := a1) (by kernel_rfl) (by kernel_rfl) (eq_stepd (a := a2) (by kernel_rfl) (by kernel_rfl) (eq_stepd (a := a3) (by kernel_rfl) (by kernel_rfl) (eq_stepd (a := a4) (by kernel_rfl) (by kernel_rfl) (eq_stepd (a := a5) (by kernel_rfl) (by kernel_rfl) (eq_stepd (a := a6) (by kernel_rfl) (by kernel_rfl) (eq_stepd (a := a7) (by kernel_rfl) (by kernel_rfl) (rfl))))))))
@[go_sem] theorem inks_refl9 (a0 a1 a2 a3 a4 a5 a6 a7 : Int) (w : World) :
    (Op.equalIn 9999 29 (.agg #[.int .u8 a0, .int .u8 a1, .int .u8 a2, .int .u8 a3, .int .u8 a4, .int .u8 a5, .int .u8 a6, .int .u8 a7]) (.agg #[.int .u8 a0, .int .u8 a1, .int .u8 a2, .int .u8 a3, .int .u8 a4, .int .u8 a5, .int .u8 a6, .int .u8 a7])).run Try.prog w = .ok true w :=
  inks_refl 9997 a0 a1 a2 a3 a4 a5 a6 a7 w
@[go_sem] theorem state_refl (a a0 a1 a2 a3 a4 a5 a6 a7 : Int) (w : World) :
    (Op.equalIn 10000 31 (.agg #[.int .u8 a, .int .u8 a0, .int .u8 a1, .int .u8 a2, .int .u8 a3, .int .u8 a4, .int .u8 a5, .int .u8 a6, .int .u8 a7]) (.agg #[.int .u8 a, .int .u8 a0, .int .u8 a1, .int .u8 a2, .int .u8 a3, .int .u8 a4, .int .u8 a5, .int .u8 a6, .int .u8 a7])).run Try.prog w = .ok true w := by
  have p1 : (part 5 #[.int .u8 a, .int .u8 a0, .int .u8 a1, .int .u8 a2, .int .u8 a3, .int .u8 a4, .int .u8 a5, .int .u8 a6, .int .u8 a7] 0).run Try.prog w = .ok (.int .u8 a) w := by kernel_rfl
  have p2 : (part 29 #[.int .u8 a, .int .u8 a0, .int .u8 a1, .int .u8 a2, .int .u8 a3, .int .u8 a4, .int .u8 a5, .int .u8 a6, .int .u8 a7] 1).run Try.prog w = .ok (.agg #[.int .u8 a0, .int .u8 a1, .int .u8 a2, .int .u8 a3, .int .u8 a4, .int .u8 a5, .int .u8 a6, .int .u8 a7]) w := by kernel_rfl
  have h1 := run_equalIn_int w 9998 5 .u8 .u8 a a Try.underlying5
  have h2 := inks_refl 9997 a0 a1 a2 a3 a4 a5 a6 a7 w
  rw [run_equalIn_struct w 9999 _ _ _ (by kernel_rfl) (by kernel_rfl)]
  simp only [Program.fieldsOf, Try.underlying31, Op.eqFields, Sem.run_bind, Sem.run_ite, p1, p2, Result.andThen_ok, h1, h2]
  simp
end Go.Proofs.Ytampdegpfndggaa
