/-
  Merged: XTab, XOr.
-/
import Derived.Test.YtbkhpddodmbdoaaProg
import Derived.Test.YtbkhpddodmbdoaaEng2
namespace Go.Proofs.Ytbkhpddodmbdoaa
open Go.RowKit
set_option linter.unusedVariables false

def tab : Tab := [
  (1, ⟨.fn, 1, 8, [.nilFunc]⟩),
  (2, ⟨.int .i64, 1, 8, [.int .i64 0]⟩),
  (3, ⟨.int .i64, 1, 8, [.int .i64 0]⟩),
  (4, ⟨.bool, 1, 1, [.bool false]⟩),
  (5, ⟨.int .u8, 1, 1, [.int .u8 0]⟩),
  (9, ⟨.str, 1, 16, [.string ByteArray.empty]⟩),
  (12, ⟨.int .u64, 1, 8, [.int .u64 0]⟩),
  (17, ⟨.ptr 167, 1, 8, [.pointer none]⟩),
  (21, ⟨.int .i32, 1, 4, [.int .i32 0]⟩),
  (22, ⟨.slice 29, 1, 24, [.slice none 0 0]⟩),
  (23, ⟨.int .i64, 1, 8, [.int .i64 0]⟩),
  (24, ⟨.fn, 1, 8, [.nilFunc]⟩),
  (25, ⟨.slice 54, 1, 24, [.slice none 0 0]⟩),
  (26, ⟨.arr 8 5, 8, 8, [.int .u8 0, .int .u8 0, .int .u8 0, .int .u8 0, .int .u8 0, .int .u8 0, .int .u8 0, .int .u8 0]⟩),
  (27, ⟨.arr 8 5, 8, 8, [.int .u8 0, .int .u8 0, .int .u8 0, .int .u8 0, .int .u8 0, .int .u8 0, .int .u8 0, .int .u8 0]⟩),
  (28, ⟨.strct [(0, 25), (1, 27)], 9, 32, [.slice none 0 0, .int .u8 0, .int .u8 0, .int .u8 0, .int .u8 0, .int .u8 0, .int .u8 0, .int .u8 0, .int .u8 0]⟩),
  (29, ⟨.strct [(0, 25), (1, 27)], 9, 32, [.slice none 0 0, .int .u8 0, .int .u8 0, .int .u8 0, .int .u8 0, .int .u8 0, .int .u8 0, .int .u8 0, .int .u8 0]⟩),
  (30, ⟨.fn, 1, 8, [.nilFunc]⟩),
  (31, ⟨.fn, 1, 8, [.nilFunc]⟩),
  (32, ⟨.fn, 1, 8, [.nilFunc]⟩),
  (33, ⟨.fn, 1, 8, [.nilFunc]⟩),
  (35, ⟨.fn, 1, 8, [.nilFunc]⟩),
  (37, ⟨.fn, 1, 8, [.nilFunc]⟩),
  (38, ⟨.slice 27, 1, 24, [.slice none 0 0]⟩),
  (39, ⟨.fn, 1, 8, [.nilFunc]⟩),
  (40, ⟨.fn, 1, 8, [.nilFunc]⟩),
  (41, ⟨.fn, 1, 8, [.nilFunc]⟩),
  (42, ⟨.fn, 1, 8, [.nilFunc]⟩),
  (43, ⟨.strct [(0, 3), (1, 3)], 2, 16, [.int .i64 0, .int .i64 0]⟩),
  (44, ⟨.strct [(0, 3), (1, 3)], 2, 16, [.int .i64 0, .int .i64 0]⟩),
  (46, ⟨.fn, 1, 8, [.nilFunc]⟩),
  (47, ⟨.fn, 1, 8, [.nilFunc]⟩),
  (48, ⟨.fn, 1, 8, [.nilFunc]⟩),
  (49, ⟨.fn, 1, 8, [.nilFunc]⟩),
  (50, ⟨.fn, 1, 8, [.nilFunc]⟩),
  (51, ⟨.fn, 1, 8, [.nilFunc]⟩),
  (52, ⟨.fn, 1, 8, [.nilFunc]⟩),
  (53, ⟨.strct [(0, 3), (1, 3), (2, 3)], 3, 24, [.int .i64 0, .int .i64 0, .int .i64 0]⟩),
  (54, ⟨.strct [(0, 3), (1, 3), (2, 3)], 3, 24, [.int .i64 0, .int .i64 0, .int .i64 0]⟩),
  (55, ⟨.fn, 1, 8, [.nilFunc]⟩),
  (56, ⟨.fn, 1, 8, [.nilFunc]⟩),
  (57, ⟨.fn, 1, 8, [.nilFunc]⟩),
  (58, ⟨.fn, 1, 8, [.nilFunc]⟩),
  (59, ⟨.strct [(0, 3), (1, 3), (2, 22), (3, 3)], 4, 48, [.int .i64 0, .int .i64 0, .slice none 0 0, .int .i64 0]⟩),
  (60, ⟨.strct [(0, 3), (1, 3), (2, 22), (3, 3)], 4, 48, [.int .i64 0, .int .i64 0, .slice none 0 0, .int .i64 0]⟩),
  (62, ⟨.fn, 1, 8, [.nilFunc]⟩),
  (63, ⟨.fn, 1, 8, [.nilFunc]⟩),
  (64, ⟨.fn, 1, 8, [.nilFunc]⟩),
  (65, ⟨.ptr 27, 1, 8, [.pointer none]⟩),
  (66, ⟨.fn, 1, 8, [.nilFunc]⟩),
  (67, ⟨.fn, 1, 8, [.nilFunc]⟩),
  (68, ⟨.fn, 1, 8, [.nilFunc]⟩),
  (69, ⟨.fn, 1, 8, [.nilFunc]⟩),
  (70, ⟨.fn, 1, 8, [.nilFunc]⟩),
  (71, ⟨.fn, 1, 8, [.nilFunc]⟩),
  (72, ⟨.fn, 1, 8, [.nilFunc]⟩),
  (73, ⟨.fn, 1, 8, [.nilFunc]⟩),
  (74, ⟨.slice 76, 1, 24, [.slice none 0 0]⟩),
  (75, ⟨.strct [(0, 54), (3, 3)], 4, 32, [.int .i64 0, .int .i64 0, .int .i64 0, .int .i64 0]⟩),
  (76, ⟨.strct [(0, 54), (3, 3)], 4, 32, [.int .i64 0, .int .i64 0, .int .i64 0, .int .i64 0]⟩),
  (77, ⟨.fn, 1, 8, [.nilFunc]⟩),
  (78, ⟨.fn, 1, 8, [.nilFunc]⟩),
  (79, ⟨.fn, 1, 8, [.nilFunc]⟩),
  (80, ⟨.slice 4, 1, 24, [.slice none 0 0]⟩),
  (81, ⟨.fn, 1, 8, [.nilFunc]⟩),
  (82, ⟨.fn, 1, 8, [.nilFunc]⟩),
  (83, ⟨.mapT 27 3, 1, 8, [.map none]⟩),
  (85, ⟨.fn, 1, 8, [.nilFunc]⟩),
  (86, ⟨.slice 3, 1, 24, [.slice none 0 0]⟩),
  (87, ⟨.fn, 1, 8, [.nilFunc]⟩),
  (88, ⟨.fn, 1, 8, [.nilFunc]⟩),
  (89, ⟨.fn, 1, 8, [.nilFunc]⟩),
  (90, ⟨.fn, 1, 8, [.nilFunc]⟩),
  (91, ⟨.fn, 1, 8, [.nilFunc]⟩),
  (92, ⟨.ptr 112, 1, 8, [.pointer none]⟩),
  (93, ⟨.fn, 1, 8, [.nilFunc]⟩),
  (94, ⟨.fn, 1, 8, [.nilFunc]⟩),
  (95, ⟨.fn, 1, 8, [.nilFunc]⟩),
  (96, ⟨.fn, 1, 8, [.nilFunc]⟩),
  (97, ⟨.fn, 1, 8, [.nilFunc]⟩),
  (98, ⟨.fn, 1, 8, [.nilFunc]⟩),
  (99, ⟨.fn, 1, 8, [.nilFunc]⟩),
  (100, ⟨.fn, 1, 8, [.nilFunc]⟩),
  (101, ⟨.fn, 1, 8, [.nilFunc]⟩),
  (102, ⟨.fn, 1, 8, [.nilFunc]⟩),
  (103, ⟨.int .u64, 1, 8, [.int .u64 0]⟩),
  (104, ⟨.fn, 1, 8, [.nilFunc]⟩),
  (105, ⟨.fn, 1, 8, [.nilFunc]⟩),
  (106, ⟨.strct [(0, 25)], 1, 24, [.slice none 0 0]⟩),
  (107, ⟨.strct [(0, 25)], 1, 24, [.slice none 0 0]⟩),
  (108, ⟨.fn, 1, 8, [.nilFunc]⟩),
  (109, ⟨.fn, 1, 8, [.nilFunc]⟩),
  (110, ⟨.slice 107, 1, 24, [.slice none 0 0]⟩),
  (111, ⟨.strct [(0, 83), (1, 110), (2, 38), (3, 4)], 4, 64, [.map none, .slice none 0 0, .slice none 0 0, .bool false]⟩),
  (112, ⟨.strct [(0, 83), (1, 110), (2, 38), (3, 4)], 4, 64, [.map none, .slice none 0 0, .slice none 0 0, .bool false]⟩),
  (113, ⟨.fn, 1, 8, [.nilFunc]⟩),
  (114, ⟨.arr 2 25, 2, 48, [.slice none 0 0, .slice none 0 0]⟩),
  (115, ⟨.fn, 1, 8, [.nilFunc]⟩),
  (116, ⟨.fn, 1, 8, [.nilFunc]⟩),
  (117, ⟨.int .i64, 1, 8, [.int .i64 0]⟩),
  (119, ⟨.fn, 1, 8, [.nilFunc]⟩),
  (120, ⟨.fn, 1, 8, [.nilFunc]⟩),
  (121, ⟨.fn, 1, 8, [.nilFunc]⟩),
  (122, ⟨.fn, 1, 8, [.nilFunc]⟩),
  (123, ⟨.fn, 1, 8, [.nilFunc]⟩),
  (124, ⟨.int .u32, 1, 4, [.int .u32 0]⟩),
  (125, ⟨.fn, 1, 8, [.nilFunc]⟩),
  (126, ⟨.int .u64, 1, 8, [.int .u64 0]⟩),
  (127, ⟨.ptr 107, 1, 8, [.pointer none]⟩),
  (128, ⟨.fn, 1, 8, [.nilFunc]⟩),
  (129, ⟨.fn, 1, 8, [.nilFunc]⟩),
  (130, ⟨.slice 134, 1, 24, [.slice none 0 0]⟩),
  (131, ⟨.fn, 1, 8, [.nilFunc]⟩),
  (132, ⟨.arr 2 4, 2, 2, [.bool false, .bool false]⟩),
  (133, ⟨.strct [(0, 3), (1, 3), (2, 3)], 3, 24, [.int .i64 0, .int .i64 0, .int .i64 0]⟩),
  (134, ⟨.strct [(0, 3), (1, 3), (2, 3)], 3, 24, [.int .i64 0, .int .i64 0, .int .i64 0]⟩),
  (136, ⟨.fn, 1, 8, [.nilFunc]⟩),
  (137, ⟨.fn, 1, 8, [.nilFunc]⟩),
  (138, ⟨.fn, 1, 8, [.nilFunc]⟩),
  (139, ⟨.ptr 3, 1, 8, [.pointer none]⟩),
  (140, ⟨.fn, 1, 8, [.nilFunc]⟩),
  (141, ⟨.fn, 1, 8, [.nilFunc]⟩),
  (144, ⟨.fn, 1, 8, [.nilFunc]⟩),
  (145, ⟨.fn, 1, 8, [.nilFunc]⟩),
  (146, ⟨.fn, 1, 8, [.nilFunc]⟩),
  (147, ⟨.fn, 1, 8, [.nilFunc]⟩),
  (148, ⟨.fn, 1, 8, [.nilFunc]⟩),
  (149, ⟨.fn, 1, 8, [.nilFunc]⟩),
  (150, ⟨.fn, 1, 8, [.nilFunc]⟩),
  (151, ⟨.fn, 1, 8, [.nilFunc]⟩),
  (152, ⟨.fn, 1, 8, [.nilFunc]⟩),
  (153, ⟨.fn, 1, 8, [.nilFunc]⟩),
  (159, ⟨.fn, 1, 8, [.nilFunc]⟩),
  (162, ⟨.fn, 1, 8, [.nilFunc]⟩),
  (163, ⟨.ptr 5, 1, 8, [.pointer none]⟩),
  (166, ⟨.strct [(0, 12), (1, 12), (2, 124), (3, 160), (4, 5), (5, 5), (6, 161), (7, 162), (8, 163), (9, 164), (10, 165)], 11, 48, [.int .u64 0, .int .u64 0, .int .u32 0, .int .u8 0, .int .u8 0, .int .u8 0, .int .u8 0, .nilFunc, .pointer none, .int .i32 0, .int .i32 0]⟩)]
set_option maxRecDepth 100000 in
theorem tab_ok : TOk Try.prog tab := by unfold TOk; kernel_rfl
theorem eq27 {x y : Operand} {l m : List AV} {K : Bool → Prop} (h : plainF l fun xs => plainF m fun ys => testP (kindsB [.int .u8, .int .u8, .int .u8, .int .u8, .int .u8, .int .u8, .int .u8, .int .u8] xs) (testP (kindsB [.int .u8, .int .u8, .int .u8, .int .u8, .int .u8, .int .u8, .int .u8, .int .u8] ys) (eqListF xs ys K))) : EqP Try.prog 27 x y (.agg l) (.agg m) K := EqP_agg (ks := [.int .u8, .int .u8, .int .u8, .int .u8, .int .u8, .int .u8, .int .u8, .int .u8]) (by kernel_rfl) (by kernel_rfl) (by kernel_rfl) h
theorem eq44 {x y : Operand} {l m : List AV} {K : Bool → Prop} (h : plainF l fun xs => plainF m fun ys => testP (kindsB [.int .i64, .int .i64] xs) (testP (kindsB [.int .i64, .int .i64] ys) (eqListF xs ys K))) : EqP Try.prog 44 x y (.agg l) (.agg m) K := EqP_agg (ks := [.int .i64, .int .i64]) (by kernel_rfl) (by kernel_rfl) (by kernel_rfl) h
theorem eq54 {x y : Operand} {l m : List AV} {K : Bool → Prop} (h : plainF l fun xs => plainF m fun ys => testP (kindsB [.int .i64, .int .i64, .int .i64] xs) (testP (kindsB [.int .i64, .int .i64, .int .i64] ys) (eqListF xs ys K))) : EqP Try.prog 54 x y (.agg l) (.agg m) K := EqP_agg (ks := [.int .i64, .int .i64, .int .i64]) (by kernel_rfl) (by kernel_rfl) (by kernel_rfl) h
theorem eq76 {x y : Operand} {l m : List AV} {K : Bool → Prop} (h : plainF l fun xs => plainF m fun ys => testP (kindsB [.int .i64, .int .i64, .int .i64, .int .i64] xs) (testP (kindsB [.int .i64, .int .i64, .int .i64, .int .i64] ys) (eqListF xs ys K))) : EqP Try.prog 76 x y (.agg l) (.agg m) K := EqP_agg (ks := [.int .i64, .int .i64, .int .i64, .int .i64]) (by kernel_rfl) (by kernel_rfl) (by kernel_rfl) h
theorem eq134 {x y : Operand} {l m : List AV} {K : Bool → Prop} (h : plainF l fun xs => plainF m fun ys => testP (kindsB [.int .i64, .int .i64, .int .i64] xs) (testP (kindsB [.int .i64, .int .i64, .int .i64] ys) (eqListF xs ys K))) : EqP Try.prog 134 x y (.agg l) (.agg m) K := EqP_agg (ks := [.int .i64, .int .i64, .int .i64]) (by kernel_rfl) (by kernel_rfl) (by kernel_rfl) h
end Go.Proofs.Ytbkhpddodmbdoaa

namespace Go.Proofs.Ytbkhpddodmbdoaa
open Go.RowKit
set_option maxRecDepth 20000

def orI (a c : Int) : Int := if a = 0 then c else a
theorem or_gives (b : Nat) (a c : Int) (G : Mem) (h0 : G.cell? ⟨b, 0, none⟩ = some (.int .i64 a)) (h1 : G.cell? ⟨b, 1, none⟩ = some (.int .i64 c)) :
    Gives Try.prog 42 [.val (.slice (some ⟨b, 0, none⟩) 2 2)] G (.val (.int .i64 (orI a c))) := by
  refine Gives_of tab_ok Try.func42 ?_
  by_cases ha : a = 0
  · (repeat ((try (conv => whnf)); (first | (with_reducible first | refine condP_true ?_ | refine condP_false ?_ | refine condP_not ?_ | refine condP_and ?_) | ((with_reducible refine condP_dt ?_ ?_); (· omega)) | ((with_reducible refine condP_df ?_ ?_); (· omega)) | ((with_reducible refine condP_yes ?_ ?_); (· assumption)) | ((with_reducible refine condP_no ?_ ?_); (· assumption)) | ((with_reducible refine ArP_i64 ?_ ?_); (· omega)) | ((with_reducible refine mustP.mk ?_ ?_); (· first | omega | rfl | (dsimp only; omega))) | (with_reducible first | refine EqP_nil tab_ok ?_ | refine EqP_sli tab_ok ?_ | refine DrawP_auto tab_ok (by kernel_rfl) (by decide +kernel) ?_ | refine DrawP_auto2 tab_ok (by kernel_rfl) (by decide +kernel) ?_ | refine eq27 ?_ | refine eq44 ?_ | refine eq54 ?_ | refine eq76 ?_ | refine eq134 ?_))))
    refine LoopP_step tab_ok ?_
    (repeat ((try (conv => whnf)); (first | (with_reducible first | refine condP_true ?_ | refine condP_false ?_ | refine condP_not ?_ | refine condP_and ?_) | ((with_reducible refine condP_dt ?_ ?_); (· omega)) | ((with_reducible refine condP_df ?_ ?_); (· omega)) | ((with_reducible refine condP_yes ?_ ?_); (· assumption)) | ((with_reducible refine condP_no ?_ ?_); (· assumption)) | ((with_reducible refine ArP_i64 ?_ ?_); (· omega)) | ((with_reducible refine mustP.mk ?_ ?_); (· first | omega | rfl | (dsimp only; omega))) | (with_reducible first | refine EqP_nil tab_ok ?_ | refine EqP_sli tab_ok ?_ | refine DrawP_auto tab_ok (by kernel_rfl) (by decide +kernel) ?_ | refine DrawP_auto2 tab_ok (by kernel_rfl) (by decide +kernel) ?_ | refine eq27 ?_ | refine eq44 ?_ | refine eq54 ?_ | refine eq76 ?_ | refine eq134 ?_))))
    refine OldCells_one (.int .i64 a) (by rw [addr_add]; exact h0) ?_
    (repeat ((try (conv => whnf)); (first | (with_reducible first | refine condP_true ?_ | refine condP_false ?_ | refine condP_not ?_ | refine condP_and ?_) | ((with_reducible refine condP_dt ?_ ?_); (· omega)) | ((with_reducible refine condP_df ?_ ?_); (· omega)) | ((with_reducible refine condP_yes ?_ ?_); (· assumption)) | ((with_reducible refine condP_no ?_ ?_); (· assumption)) | ((with_reducible refine ArP_i64 ?_ ?_); (· omega)) | ((with_reducible refine mustP.mk ?_ ?_); (· first | omega | rfl | (dsimp only; omega))) | (with_reducible first | refine EqP_nil tab_ok ?_ | refine EqP_sli tab_ok ?_ | refine DrawP_auto tab_ok (by kernel_rfl) (by decide +kernel) ?_ | refine DrawP_auto2 tab_ok (by kernel_rfl) (by decide +kernel) ?_ | refine eq27 ?_ | refine eq44 ?_ | refine eq54 ?_ | refine eq76 ?_ | refine eq134 ?_))))
    refine LoopP_step tab_ok ?_
    (repeat ((try (conv => whnf)); (first | (with_reducible first | refine condP_true ?_ | refine condP_false ?_ | refine condP_not ?_ | refine condP_and ?_) | ((with_reducible refine condP_dt ?_ ?_); (· omega)) | ((with_reducible refine condP_df ?_ ?_); (· omega)) | ((with_reducible refine condP_yes ?_ ?_); (· assumption)) | ((with_reducible refine condP_no ?_ ?_); (· assumption)) | ((with_reducible refine ArP_i64 ?_ ?_); (· omega)) | ((with_reducible refine mustP.mk ?_ ?_); (· first | omega | rfl | (dsimp only; omega))) | (with_reducible first | refine EqP_nil tab_ok ?_ | refine EqP_sli tab_ok ?_ | refine DrawP_auto tab_ok (by kernel_rfl) (by decide +kernel) ?_ | refine DrawP_auto2 tab_ok (by kernel_rfl) (by decide +kernel) ?_ | refine eq27 ?_ | refine eq44 ?_ | refine eq54 ?_ | refine eq76 ?_ | refine eq134 ?_))))
    refine OldCells_one (.int .i64 c) (by rw [addr_add]; exact h1) ?_
    by_cases hc : c = 0
    · (repeat ((try (conv => whnf)); (first | (with_reducible first | refine condP_true ?_ | refine condP_false ?_ | refine condP_not ?_ | refine condP_and ?_) | ((with_reducible refine condP_dt ?_ ?_); (· omega)) | ((with_reducible refine condP_df ?_ ?_); (· omega)) | ((with_reducible refine condP_yes ?_ ?_); (· assumption)) | ((with_reducible refine condP_no ?_ ?_); (· assumption)) | ((with_reducible refine ArP_i64 ?_ ?_); (· omega)) | ((with_reducible refine mustP.mk ?_ ?_); (· first | omega | rfl | (dsimp only; omega))) | (with_reducible first | refine EqP_nil tab_ok ?_ | refine EqP_sli tab_ok ?_ | refine DrawP_auto tab_ok (by kernel_rfl) (by decide +kernel) ?_ | refine DrawP_auto2 tab_ok (by kernel_rfl) (by decide +kernel) ?_ | refine eq27 ?_ | refine eq44 ?_ | refine eq54 ?_ | refine eq76 ?_ | refine eq134 ?_))))
      refine LoopP_step tab_ok ?_
      (repeat ((try (conv => whnf)); (first | (with_reducible first | refine condP_true ?_ | refine condP_false ?_ | refine condP_not ?_ | refine condP_and ?_) | ((with_reducible refine condP_dt ?_ ?_); (· omega)) | ((with_reducible refine condP_df ?_ ?_); (· omega)) | ((with_reducible refine condP_yes ?_ ?_); (· assumption)) | ((with_reducible refine condP_no ?_ ?_); (· assumption)) | ((with_reducible refine ArP_i64 ?_ ?_); (· omega)) | ((with_reducible refine mustP.mk ?_ ?_); (· first | omega | rfl | (dsimp only; omega))) | (with_reducible first | refine EqP_nil tab_ok ?_ | refine EqP_sli tab_ok ?_ | refine DrawP_auto tab_ok (by kernel_rfl) (by decide +kernel) ?_ | refine DrawP_auto2 tab_ok (by kernel_rfl) (by decide +kernel) ?_ | refine eq27 ?_ | refine eq44 ?_ | refine eq54 ?_ | refine eq76 ?_ | refine eq134 ?_))))
      exact ⟨by simp [orI, ha, hc], rfl⟩
    · (repeat ((try (conv => whnf)); (first | (with_reducible first | refine condP_true ?_ | refine condP_false ?_ | refine condP_not ?_ | refine condP_and ?_) | ((with_reducible refine condP_dt ?_ ?_); (· omega)) | ((with_reducible refine condP_df ?_ ?_); (· omega)) | ((with_reducible refine condP_yes ?_ ?_); (· assumption)) | ((with_reducible refine condP_no ?_ ?_); (· assumption)) | ((with_reducible refine ArP_i64 ?_ ?_); (· omega)) | ((with_reducible refine mustP.mk ?_ ?_); (· first | omega | rfl | (dsimp only; omega))) | (with_reducible first | refine EqP_nil tab_ok ?_ | refine EqP_sli tab_ok ?_ | refine DrawP_auto tab_ok (by kernel_rfl) (by decide +kernel) ?_ | refine DrawP_auto2 tab_ok (by kernel_rfl) (by decide +kernel) ?_ | refine eq27 ?_ | refine eq44 ?_ | refine eq54 ?_ | refine eq76 ?_ | refine eq134 ?_))))
      exact ⟨by simp [orI, ha], rfl⟩
  · (repeat ((try (conv => whnf)); (first | (with_reducible first | refine condP_true ?_ | refine condP_false ?_ | refine condP_not ?_ | refine condP_and ?_) | ((with_reducible refine condP_dt ?_ ?_); (· omega)) | ((with_reducible refine condP_df ?_ ?_); (· omega)) | ((with_reducible refine condP_yes ?_ ?_); (· assumption)) | ((with_reducible refine condP_no ?_ ?_); (· assumption)) | ((with_reducible refine ArP_i64 ?_ ?_); (· omega)) | ((with_reducible refine mustP.mk ?_ ?_); (· first | omega | rfl | (dsimp only; omega))) | (with_reducible first | refine EqP_nil tab_ok ?_ | refine EqP_sli tab_ok ?_ | refine DrawP_auto tab_ok (by kernel_rfl) (by decide +kernel) ?_ | refine DrawP_auto2 tab_ok (by kernel_rfl) (by decide +kernel) ?_ | refine eq27 ?_ | refine eq44 ?_ | refine eq54 ?_ | refine eq76 ?_ | refine eq134 ?_))))
    refine LoopP_step tab_ok ?_
    (repeat ((try (conv => whnf)); (first | (with_reducible first | refine condP_true ?_ | refine condP_false ?_ | refine condP_not ?_ | refine condP_and ?_) | ((with_reducible refine condP_dt ?_ ?_); (· omega)) | ((with_reducible refine condP_df ?_ ?_); (· omega)) | ((with_reducible refine condP_yes ?_ ?_); (· assumption)) | ((with_reducible refine condP_no ?_ ?_); (· assumption)) | ((with_reducible refine ArP_i64 ?_ ?_); (· omega)) | ((with_reducible refine mustP.mk ?_ ?_); (· first | omega | rfl | (dsimp only; omega))) | (with_reducible first | refine EqP_nil tab_ok ?_ | refine EqP_sli tab_ok ?_ | refine DrawP_auto tab_ok (by kernel_rfl) (by decide +kernel) ?_ | refine DrawP_auto2 tab_ok (by kernel_rfl) (by decide +kernel) ?_ | refine eq27 ?_ | refine eq44 ?_ | refine eq54 ?_ | refine eq76 ?_ | refine eq134 ?_))))
    refine OldCells_one (.int .i64 a) (by rw [addr_add]; exact h0) ?_
    (repeat ((try (conv => whnf)); (first | (with_reducible first | refine condP_true ?_ | refine condP_false ?_ | refine condP_not ?_ | refine condP_and ?_) | ((with_reducible refine condP_dt ?_ ?_); (· omega)) | ((with_reducible refine condP_df ?_ ?_); (· omega)) | ((with_reducible refine condP_yes ?_ ?_); (· assumption)) | ((with_reducible refine condP_no ?_ ?_); (· assumption)) | ((with_reducible refine ArP_i64 ?_ ?_); (· omega)) | ((with_reducible refine mustP.mk ?_ ?_); (· first | omega | rfl | (dsimp only; omega))) | (with_reducible first | refine EqP_nil tab_ok ?_ | refine EqP_sli tab_ok ?_ | refine DrawP_auto tab_ok (by kernel_rfl) (by decide +kernel) ?_ | refine DrawP_auto2 tab_ok (by kernel_rfl) (by decide +kernel) ?_ | refine eq27 ?_ | refine eq44 ?_ | refine eq54 ?_ | refine eq76 ?_ | refine eq134 ?_))))
    exact ⟨by simp [orI, ha], rfl⟩
theorem RCallP_or {k : Nat} {hp : List Blk} {G : Mem} {K : AV → Prop} {M : AV → Blk → Prop} {t : TypeId} {a c : Int} (hk : nthB hp k = .cells t [.val (.int .i64 a), .val (.int .i64 c)]) (h : K (.val (.int .i64 (orI a c)))) : RCallP Try.prog 42 [.sli k 0 2 2] hp G K M :=
  RCallP_var (vs := [.int .i64 a, .int .i64 c]) (fun vs w => by kernel_rfl) hk rfl (fun b G2 _ hc => or_gives b a c G2 (hc 0 _ rfl) (hc 1 _ rfl)) h
theorem CallP_or {k : Nat} {hp : List Blk} {G : Mem} {K : AV → List Blk → Mem → Prop} {t : TypeId} {a c : Int} (hk : nthB hp k = .cells t [.val (.int .i64 a), .val (.int .i64 c)]) (h : K (.val (.int .i64 (orI a c))) hp G) : CallP Try.prog 42 [.sli k 0 2 2] hp G K :=
  CallP_var (vs := [.int .i64 a, .int .i64 c]) (fun vs w => by kernel_rfl) hk rfl (fun b G2 _ hc => or_gives b a c G2 (hc 0 _ rfl) (hc 1 _ rfl)) h
end Go.Proofs.Ytbkhpddodmbdoaa
