/-
  Merged: XCoord, XPlain.
-/
import Derived.WalkKit
import Derived.WalkLawsBesides
import Derived.Handy
import Derived.Test.YtampdegpfndggaaProg
import Derived.Test.YtampdegpfndggaaMrg3
import Derived.Test.YtampdegpfndggaaMrg6
import Derived.Test.YtampdegpfndggaaMrg5
namespace Go.Proofs.Ytampdegpfndggaa
open Go.RowKit

/-- A permitted point. -/
def ptB (x y : Int) : Bool := inB x (-32767) 32767 && inB y (-32767) 32767
set_option maxHeartbeats 1000000 in
theorem Coord_any (x y : Int) (w : World) :
    Calls Try.prog 49 #[.agg #[.int .i64 x, .int .i64 y]] w fun e w' => e = .returned (.bool (ptB x y)) ∧ (w.alloc (.cells #[.int .i64 x, .int .i64 y] 48)) = w' := by
  go_enter Try.func49, Try.ntmps49
  go_wp2_with (first | (go_at_call 16; refine (In_any _ _ _ _).mono ?_; rintro e w' ⟨rfl, rfl⟩))
  all_goals go_ret
  all_goals refine ⟨ret_bool ?_, rfl⟩
  all_goals (go_tidy; unfold ptB; simp [*])
end Go.Proofs.Ytampdegpfndggaa

namespace Go.Proofs.Ytampdegpfndggaa
open Go.RowKit

/-- An image that is zero. -/
def plainB (W H : Int) (n m : Nat) (a b c d e f : Int) (s r : Bool) : Bool :=
  W == 0 && H == 0 && n == 0 && m == 0 && (a == 0 && b == 0 && c == 0 && d == 0 && e == 0 && f == 0) && !s && !r
set_option maxHeartbeats 2000000 in
theorem plain_any (W H : Int) (A B : Option Addr) (n p m q : Nat) (a b c d e f : Int) (s r : Bool) (w : World) :
    Calls Try.prog 101 #[.agg #[.int .i64 W, .int .i64 H, .slice A n p, .slice B m q, .int .i64 a, .int .i64 b, .int .i64 c, .int .i64 d, .int .i64 e, .int .i64 f, .bool s, .bool r]] w fun e' w' => e' = .returned (.bool (plainB W H n m a b c d e f s r)) ∧ Below w.heap.size w w' := by
  go_enter Try.func101, Try.ntmps101
  go_wp2_with fail
  all_goals go_ret
  all_goals exact ⟨ret_bool (by simp_all [plainB]), by (repeat' (with_reducible first | exact Below.refl _ _ | refine past_le ?_ ?_ _ | refine Below.alloc ?_ ?_ _ | refine Below.drew ?_ | refine drewN_le ?_ _ | refine Below.setCell ?_ ?_ _ | refine step_le (by assumption) ?_ ?_ | omega | (simp only []; omega) | (simp only [World.size_alloc]; omega) | (simp only [World.size_setCell]; omega) | (simp only [World.size_drew]; omega) | (simp only [World.size_alloc, World.size_setCell]; omega) | (simp only [World.size_alloc, World.size_drew]; omega) | (simp only [World.size_setCell, World.size_drew]; omega) | (simp only [World.size_alloc, World.size_setCell, World.size_drew]; omega) | (simp only [World.size_alloc, World.size_setCell, World.size_drew, size_drewN]; omega)))⟩
set_option maxHeartbeats 2000000 in
theorem plainImage_any (W H : Int) (A B : Option Addr) (n p m q : Nat) (a b c d e f : Int) (s r : Bool) (w : World) :
    Calls Try.prog 67 #[.agg #[.int .i64 W, .int .i64 H, .slice A n p, .slice B m q, .int .i64 a, .int .i64 b, .int .i64 c, .int .i64 d, .int .i64 e, .int .i64 f, .bool s, .bool r]] w fun e' w' => e' = .returned (.bool (plainB W H n m a b c d e f s r)) ∧ Below w.heap.size w w' := by
  go_enter Try.func67, Try.ntmps67
  go_wp2_with fail
  all_goals go_ret
  all_goals exact ⟨ret_bool (by simp_all [plainB]), by (repeat' (with_reducible first | exact Below.refl _ _ | refine past_le ?_ ?_ _ | refine Below.alloc ?_ ?_ _ | refine Below.drew ?_ | refine drewN_le ?_ _ | refine Below.setCell ?_ ?_ _ | refine step_le (by assumption) ?_ ?_ | omega | (simp only []; omega) | (simp only [World.size_alloc]; omega) | (simp only [World.size_setCell]; omega) | (simp only [World.size_drew]; omega) | (simp only [World.size_alloc, World.size_setCell]; omega) | (simp only [World.size_alloc, World.size_drew]; omega) | (simp only [World.size_setCell, World.size_drew]; omega) | (simp only [World.size_alloc, World.size_setCell, World.size_drew]; omega) | (simp only [World.size_alloc, World.size_setCell, World.size_drew, size_drewN]; omega)))⟩
end Go.Proofs.Ytampdegpfndggaa
