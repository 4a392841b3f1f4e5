/-
  Merged: XTab, XNumE, XRootE, XEz, XEw, XPts.
-/
import Derived.Test.YtegpkpilfgohhaaGreatProg
import Derived.Test.YtegpkpilfgohhaaGreatEng2
import Derived.Test.YtegpkpilfgohhaaGreatMrg3
import Derived.Test.YtegpkpilfgohhaaGreatMrg4
import Derived.Test.YtegpkpilfgohhaaGreatMrg5
set_option linter.unusedVariables false
set_option linter.unusedSimpArgs false
set_option linter.unnecessarySimpa false
namespace Go.Proofs.YtegpkpilfgohhaaGreat
open Go.RowKit
def tab:Tab:=[
  (1,⟨.fn,1,8,[.nilFunc]⟩),
  (2,⟨.int .i64,1,8,[.int .i64 0]⟩),
  (3,⟨.int .i64,1,8,[.int .i64 0]⟩),
  (4,⟨.bool,1,1,[.bool false]⟩),
  (5,⟨.int .u8,1,1,[.int .u8 0]⟩),
  (9,⟨.str,1,16,[.string ByteArray.empty]⟩),
  (12,⟨.int .u64,1,8,[.int .u64 0]⟩),
  (17,⟨.ptr 174,1,8,[.pointer none]⟩),
  (20,⟨.iface,1,16,[.nilIface]⟩),
  (21,⟨.int .i32,1,4,[.int .i32 0]⟩),
  (22,⟨.slice 37,1,24,[.slice none 0 0]⟩),
  (23,⟨.strct [(0,3),(1,3),(2,3),(3,3)],4,32,[.int .i64 0,.int .i64 0,.int .i64 0,.int .i64 0]⟩),
  (24,⟨.strct [(0,3),(1,3),(2,3),(3,3)],4,32,[.int .i64 0,.int .i64 0,.int .i64 0,.int .i64 0]⟩),
  (25,⟨.fn,1,8,[.nilFunc]⟩),
  (26,⟨.fn,1,8,[.nilFunc]⟩),
  (27,⟨.slice 74,1,24,[.slice none 0 0]⟩),
  (28,⟨.int .i64,1,8,[.int .i64 0]⟩),
  (30,⟨.fn,1,8,[.nilFunc]⟩),
  (31,⟨.fn,1,8,[.nilFunc]⟩),
  (32,⟨.fn,1,8,[.nilFunc]⟩),
  (33,⟨.slice 43,1,24,[.slice none 0 0]⟩),
  (35,⟨.fn,1,8,[.nilFunc]⟩),
  (36,⟨.strct [(0,33),(1,4)],2,32,[.slice none 0 0,.bool false]⟩),
  (37,⟨.strct [(0,33),(1,4)],2,32,[.slice none 0 0,.bool false]⟩),
  (39,⟨.fn,1,8,[.nilFunc]⟩),
  (40,⟨.fn,1,8,[.nilFunc]⟩),
  (41,⟨.fn,1,8,[.nilFunc]⟩),
  (42,⟨.strct [(0,3),(1,3)],2,16,[.int .i64 0,.int .i64 0]⟩),
  (43,⟨.strct [(0,3),(1,3)],2,16,[.int .i64 0,.int .i64 0]⟩),
  (44,⟨.fn,1,8,[.nilFunc]⟩),
  (45,⟨.fn,1,8,[.nilFunc]⟩),
  (46,⟨.fn,1,8,[.nilFunc]⟩),
  (47,⟨.fn,1,8,[.nilFunc]⟩),
  (49,⟨.fn,1,8,[.nilFunc]⟩),
  (51,⟨.fn,1,8,[.nilFunc]⟩),
  (52,⟨.fn,1,8,[.nilFunc]⟩),
  (53,⟨.fn,1,8,[.nilFunc]⟩),
  (54,⟨.ptr 58,1,8,[.pointer none]⟩),
  (56,⟨.fn,1,8,[.nilFunc]⟩),
  (57,⟨.strct [(0,24),(4,22),(5,33)],6,80,[.int .i64 0,.int .i64 0,.int .i64 0,.int .i64 0,.slice none 0 0,.slice none 0 0]⟩),
  (58,⟨.strct [(0,24),(4,22),(5,33)],6,80,[.int .i64 0,.int .i64 0,.int .i64 0,.int .i64 0,.slice none 0 0,.slice none 0 0]⟩),
  (59,⟨.fn,1,8,[.nilFunc]⟩),
  (60,⟨.fn,1,8,[.nilFunc]⟩),
  (61,⟨.fn,1,8,[.nilFunc]⟩),
  (62,⟨.fn,1,8,[.nilFunc]⟩),
  (63,⟨.fn,1,8,[.nilFunc]⟩),
  (64,⟨.fn,1,8,[.nilFunc]⟩),
  (65,⟨.fn,1,8,[.nilFunc]⟩),
  (66,⟨.fn,1,8,[.nilFunc]⟩),
  (68,⟨.fn,1,8,[.nilFunc]⟩),
  (69,⟨.fn,1,8,[.nilFunc]⟩),
  (71,⟨.fn,1,8,[.nilFunc]⟩),
  (72,⟨.fn,1,8,[.nilFunc]⟩),
  (73,⟨.strct [(0,3),(1,3),(2,3)],3,24,[.int .i64 0,.int .i64 0,.int .i64 0]⟩),
  (74,⟨.strct [(0,3),(1,3),(2,3)],3,24,[.int .i64 0,.int .i64 0,.int .i64 0]⟩),
  (75,⟨.fn,1,8,[.nilFunc]⟩),
  (76,⟨.fn,1,8,[.nilFunc]⟩),
  (77,⟨.fn,1,8,[.nilFunc]⟩),
  (78,⟨.fn,1,8,[.nilFunc]⟩),
  (79,⟨.fn,1,8,[.nilFunc]⟩),
  (80,⟨.slice 108,1,24,[.slice none 0 0]⟩),
  (81,⟨.fn,1,8,[.nilFunc]⟩),
  (82,⟨.fn,1,8,[.nilFunc]⟩),
  (83,⟨.fn,1,8,[.nilFunc]⟩),
  (84,⟨.fn,1,8,[.nilFunc]⟩),
  (85,⟨.fn,1,8,[.nilFunc]⟩),
  (86,⟨.strct [(0,27)],1,24,[.slice none 0 0]⟩),
  (87,⟨.strct [(0,27)],1,24,[.slice none 0 0]⟩),
  (88,⟨.fn,1,8,[.nilFunc]⟩),
  (90,⟨.fn,1,8,[.nilFunc]⟩),
  (91,⟨.slice 95,1,24,[.slice none 0 0]⟩),
  (92,⟨.fn,1,8,[.nilFunc]⟩),
  (93,⟨.fn,1,8,[.nilFunc]⟩),
  (94,⟨.strct [(0,43)],2,16,[.int .i64 0,.int .i64 0]⟩),
  (95,⟨.strct [(0,43)],2,16,[.int .i64 0,.int .i64 0]⟩),
  (96,⟨.slice 98,1,24,[.slice none 0 0]⟩),
  (97,⟨.strct [(0,95),(2,95),(4,95),(6,95),(8,95)],10,80,[.int .i64 0,.int .i64 0,.int .i64 0,.int .i64 0,.int .i64 0,.int .i64 0,.int .i64 0,.int .i64 0,.int .i64 0,.int .i64 0]⟩),
  (98,⟨.strct [(0,95),(2,95),(4,95),(6,95),(8,95)],10,80,[.int .i64 0,.int .i64 0,.int .i64 0,.int .i64 0,.int .i64 0,.int .i64 0,.int .i64 0,.int .i64 0,.int .i64 0,.int .i64 0]⟩),
  (99,⟨.fn,1,8,[.nilFunc]⟩),
  (100,⟨.fn,1,8,[.nilFunc]⟩),
  (101,⟨.fn,1,8,[.nilFunc]⟩),
  (102,⟨.fn,1,8,[.nilFunc]⟩),
  (104,⟨.fn,1,8,[.nilFunc]⟩),
  (105,⟨.fn,1,8,[.nilFunc]⟩),
  (106,⟨.fn,1,8,[.nilFunc]⟩),
  (107,⟨.strct [(0,3),(1,3),(2,3),(3,3),(4,3),(5,3)],6,48,[.int .i64 0,.int .i64 0,.int .i64 0,.int .i64 0,.int .i64 0,.int .i64 0]⟩),
  (108,⟨.strct [(0,3),(1,3),(2,3),(3,3),(4,3),(5,3)],6,48,[.int .i64 0,.int .i64 0,.int .i64 0,.int .i64 0,.int .i64 0,.int .i64 0]⟩),
  (109,⟨.fn,1,8,[.nilFunc]⟩),
  (110,⟨.fn,1,8,[.nilFunc]⟩),
  (111,⟨.fn,1,8,[.nilFunc]⟩),
  (112,⟨.slice 115,1,24,[.slice none 0 0]⟩),
  (113,⟨.fn,1,8,[.nilFunc]⟩),
  (114,⟨.strct [(0,3),(1,3)],2,16,[.int .i64 0,.int .i64 0]⟩),
  (115,⟨.strct [(0,3),(1,3)],2,16,[.int .i64 0,.int .i64 0]⟩),
  (116,⟨.fn,1,8,[.nilFunc]⟩),
  (117,⟨.int .u64,1,8,[.int .u64 0]⟩),
  (118,⟨.fn,1,8,[.nilFunc]⟩),
  (119,⟨.slice 3,1,24,[.slice none 0 0]⟩),
  (120,⟨.ptr 87,1,8,[.pointer none]⟩),
  (121,⟨.fn,1,8,[.nilFunc]⟩),
  (122,⟨.fn,1,8,[.nilFunc]⟩),
  (123,⟨.fn,1,8,[.nilFunc]⟩),
  (124,⟨.fn,1,8,[.nilFunc]⟩),
  (125,⟨.fn,1,8,[.nilFunc]⟩),
  (126,⟨.fn,1,8,[.nilFunc]⟩),
  (127,⟨.fn,1,8,[.nilFunc]⟩),
  (128,⟨.fn,1,8,[.nilFunc]⟩),
  (129,⟨.int .u32,1,4,[.int .u32 0]⟩),
  (130,⟨.fn,1,8,[.nilFunc]⟩),
  (131,⟨.int .u64,1,8,[.int .u64 0]⟩),
  (132,⟨.fn,1,8,[.nilFunc]⟩),
  (133,⟨.int .i64,1,8,[.int .i64 0]⟩),
  (135,⟨.fn,1,8,[.nilFunc]⟩),
  (136,⟨.fn,1,8,[.nilFunc]⟩),
  (137,⟨.fn,1,8,[.nilFunc]⟩),
  (139,⟨.fn,1,8,[.nilFunc]⟩),
  (140,⟨.fn,1,8,[.nilFunc]⟩),
  (141,⟨.fn,1,8,[.nilFunc]⟩),
  (142,⟨.fn,1,8,[.nilFunc]⟩),
  (144,⟨.fn,1,8,[.nilFunc]⟩),
  (145,⟨.fn,1,8,[.nilFunc]⟩),
  (146,⟨.fn,1,8,[.nilFunc]⟩),
  (147,⟨.ptr 3,1,8,[.pointer none]⟩),
  (148,⟨.fn,1,8,[.nilFunc]⟩),
  (149,⟨.fn,1,8,[.nilFunc]⟩),
  (150,⟨.fn,1,8,[.nilFunc]⟩),
  (151,⟨.fn,1,8,[.nilFunc]⟩),
  (152,⟨.fn,1,8,[.nilFunc]⟩),
  (153,⟨.fn,1,8,[.nilFunc]⟩),
  (156,⟨.fn,1,8,[.nilFunc]⟩),
  (157,⟨.fn,1,8,[.nilFunc]⟩),
  (158,⟨.fn,1,8,[.nilFunc]⟩),
  (159,⟨.fn,1,8,[.nilFunc]⟩),
  (160,⟨.fn,1,8,[.nilFunc]⟩),
  (166,⟨.fn,1,8,[.nilFunc]⟩),
  (169,⟨.fn,1,8,[.nilFunc]⟩),
  (170,⟨.ptr 5,1,8,[.pointer none]⟩),
  (173,⟨.strct [(0,12),(1,12),(2,129),(3,167),(4,5),(5,5),(6,168),(7,169),(8,170),(9,171),(10,172)],11,48,[.int .u64 0,.int .u64 0,.int .u32 0,.int .u8 0,.int .u8 0,.int .u8 0,.int .u8 0,.nilFunc,.pointer none,.int .i32 0,.int .i32 0]⟩)]
set_option maxRecDepth 100000 in
theorem tab_ok:TOk Tryz.prog tab:=by unfold TOk;kernel_rfl
theorem eq24 {x y:Operand} {l m:List AV} {K:Bool→Prop} (h:q14 l fun xs=>q14 m fun ys=>q0w (q00 [.int .i64,.int .i64,.int .i64,.int .i64] xs) (q0w (q00 [.int .i64,.int .i64,.int .i64,.int .i64] ys) (q31 xs ys K))):EqP Tryz.prog 24 x y (.agg l) (.agg m) K:=q7g (ks:=[.int .i64,.int .i64,.int .i64,.int .i64]) (by kernel_rfl) (by kernel_rfl) (by kernel_rfl) h
theorem eq43 {x y:Operand} {l m:List AV} {K:Bool→Prop} (h:q14 l fun xs=>q14 m fun ys=>q0w (q00 [.int .i64,.int .i64] xs) (q0w (q00 [.int .i64,.int .i64] ys) (q31 xs ys K))):EqP Tryz.prog 43 x y (.agg l) (.agg m) K:=q7g (ks:=[.int .i64,.int .i64]) (by kernel_rfl) (by kernel_rfl) (by kernel_rfl) h
theorem eq74 {x y:Operand} {l m:List AV} {K:Bool→Prop} (h:q14 l fun xs=>q14 m fun ys=>q0w (q00 [.int .i64,.int .i64,.int .i64] xs) (q0w (q00 [.int .i64,.int .i64,.int .i64] ys) (q31 xs ys K))):EqP Tryz.prog 74 x y (.agg l) (.agg m) K:=q7g (ks:=[.int .i64,.int .i64,.int .i64]) (by kernel_rfl) (by kernel_rfl) (by kernel_rfl) h
theorem eq95 {x y:Operand} {l m:List AV} {K:Bool→Prop} (h:q14 l fun xs=>q14 m fun ys=>q0w (q00 [.int .i64,.int .i64] xs) (q0w (q00 [.int .i64,.int .i64] ys) (q31 xs ys K))):EqP Tryz.prog 95 x y (.agg l) (.agg m) K:=q7g (ks:=[.int .i64,.int .i64]) (by kernel_rfl) (by kernel_rfl) (by kernel_rfl) h
theorem eq98 {x y:Operand} {l m:List AV} {K:Bool→Prop} (h:q14 l fun xs=>q14 m fun ys=>q0w (q00 [.int .i64,.int .i64,.int .i64,.int .i64,.int .i64,.int .i64,.int .i64,.int .i64,.int .i64,.int .i64] xs) (q0w (q00 [.int .i64,.int .i64,.int .i64,.int .i64,.int .i64,.int .i64,.int .i64,.int .i64,.int .i64,.int .i64] ys) (q31 xs ys K))):EqP Tryz.prog 98 x y (.agg l) (.agg m) K:=q7g (ks:=[.int .i64,.int .i64,.int .i64,.int .i64,.int .i64,.int .i64,.int .i64,.int .i64,.int .i64,.int .i64]) (by kernel_rfl) (by kernel_rfl) (by kernel_rfl) h
theorem x8e {x y:Operand} {l m:List AV} {K:Bool→Prop} (h:q14 l fun xs=>q14 m fun ys=>q0w (q00 [.int .i64,.int .i64,.int .i64,.int .i64,.int .i64,.int .i64] xs) (q0w (q00 [.int .i64,.int .i64,.int .i64,.int .i64,.int .i64,.int .i64] ys) (q31 xs ys K))):EqP Tryz.prog 108 x y (.agg l) (.agg m) K:=q7g (ks:=[.int .i64,.int .i64,.int .i64,.int .i64,.int .i64,.int .i64]) (by kernel_rfl) (by kernel_rfl) (by kernel_rfl) h
theorem x8f {x y:Operand} {l m:List AV} {K:Bool→Prop} (h:q14 l fun xs=>q14 m fun ys=>q0w (q00 [.int .i64,.int .i64] xs) (q0w (q00 [.int .i64,.int .i64] ys) (q31 xs ys K))):EqP Tryz.prog 115 x y (.agg l) (.agg m) K:=q7g (ks:=[.int .i64,.int .i64]) (by kernel_rfl) (by kernel_rfl) (by kernel_rfl) h
theorem stQ {p q:Prop} (k:q) (h:q→p:=by first |(with_reducible exact z08) |(with_reducible exact z0a) |(with_reducible exact z70) |(with_reducible exact z71) |((with_reducible refine z9o ?_);(· omega)) |((with_reducible refine z9p ?_);(· omega)) |((with_reducible refine z2c ?_);(· assumption)) |((with_reducible refine z4i ?_);(· assumption)) |((with_reducible refine x2k ?_);(· omega)) |((with_reducible refine mustP.mk ?_);(· first |omega |rfl |(dsimp only;omega))) |(with_reducible exact x2w tab_ok) |(with_reducible exact x2x tab_ok) |(with_reducible exact z97) |(with_reducible exact z5g tab_ok) |(with_reducible exact z98 tab_ok) |((with_reducible refine z33 tab_ok ?_);(· rfl)) |(with_reducible exact z5p tab_ok (by kernel_rfl) (by decide +kernel)) |(with_reducible exact x1w tab_ok (by kernel_rfl) (by decide +kernel)) |(with_reducible exact eq24) |(with_reducible exact eq43) |(with_reducible exact eq74) |(with_reducible exact eq95) |(with_reducible exact eq98) |(with_reducible exact x8e) |(with_reducible exact x8f)):p:=h k
theorem s3Q {p q:Prop} (k:q) (h:q→p:=by first |(with_reducible exact z08) |(with_reducible exact z0a) |(with_reducible exact z70) |(with_reducible exact z71) |((with_reducible refine z9o ?_);(· omega)) |((with_reducible refine z9p ?_);(· omega)) |((with_reducible refine z2c ?_);(· assumption)) |((with_reducible refine z4i ?_);(· assumption)) |((with_reducible refine x2k ?_);(· omega)) |((with_reducible refine mustP.mk ?_);(· first |omega |rfl |(dsimp only;omega))) |(with_reducible exact x2w tab_ok) |(with_reducible exact x2x tab_ok) |(with_reducible exact z97) |(with_reducible exact z5g tab_ok) |(with_reducible exact z98 tab_ok) |((with_reducible refine z33 tab_ok ?_);(· rfl)) |(with_reducible exact z5p tab_ok (by kernel_rfl) (by decide +kernel)) |(with_reducible exact x1x tab_ok (by kernel_rfl) (by decide +kernel)) |(with_reducible exact eq24) |(with_reducible exact eq43) |(with_reducible exact eq74) |(with_reducible exact eq95) |(with_reducible exact eq98) |(with_reducible exact x8e) |(with_reducible exact x8f)):p:=h k
theorem flQ {p:Prop} (h:p:=by repeat (first |(with_reducible exact q4b) |(with_reducible first |refine q7f ?_ |refine x60 ?_) |((with_reducible refine z0p rfl ?_ ?_);(· rfl)) |((with_reducible refine q71 (x43 ?_) ?_ ?_);(· omega);(· rfl)) |((with_reducible refine q71 (x43 ?_) ?_ ?_);(· simp only [Int.natCast_add,Int.natCast_one,Int.natCast_ofNat] <;> omega);(· rfl)) |((with_reducible refine q71 (x8u ?_) ?_ ?_);(· first |assumption |(symm;assumption));(· rfl)))):p:=h
end Go.Proofs.YtegpkpilfgohhaaGreat
namespace Go.Proofs.YtegpkpilfgohhaaGreat
open Go.RowKit
set_option maxRecDepth 20000
theorem x5d {a b:Int} {G:Mem} (ha:-4611686018427387904≤a∧a≤4611686018427387904) (hb:1≤b∧b≤4611686018427387904):Gives Tryz.prog 92 [.val (.int .i64 a),.val (.int .i64 b)] G (.val (.int .i64 (a/b))) :=
  Gives.of_calls (args:=[.int .i64 a,.int .i64 b]) fun w _=>(x20 a b w ha hb).mono fun _ _ h=>⟨h.1,h.2 ▸ Below.refl _ _⟩
theorem q3d {a b:Int} {G:Mem} (ha:-4611686018427387904≤a∧a≤4611686018427387904) (hb:1≤b∧b≤4611686018427387904):Gives Tryz.prog 70 [.val (.int .i64 a),.val (.int .i64 b)] G (.val (.int .i64 (near a b))) :=
  Gives.of_calls (args:=[.int .i64 a,.int .i64 b]) fun w _=>(x63 a b w ha hb).mono fun _ _ h=>⟨h.1,h.2 ▸ Below.refl _ _⟩
end Go.Proofs.YtegpkpilfgohhaaGreat
namespace Go.Proofs.YtegpkpilfgohhaaGreat
open Go.RowKit
set_option maxRecDepth 20000
noncomputable def q4u (n:Int):Int:=Classical.epsilon fun r=>q4k n r
theorem q4c {n:Int} (h:0≤n):q4k n (q4u n):=Classical.epsilon_spec (x8w h)
theorem z5y {n:Int} {G:Mem} (hn:0≤n∧n≤4611686018427387904):Gives Tryz.prog 42 [.val (.int .i64 n)] G (.val (.int .i64 (q4u n))) :=
  Gives.of_calls (args:=[.int .i64 n]) fun w _=>(x66 n _ w hn (q4c hn.1)).mono fun _ _ h=>⟨h.1,h.2 ▸ Below.refl _ _⟩
theorem x11 {n:Int} {G:Mem} (hn:0≤n∧n≤4611686018427387904):Gives Tryz.prog 49 [.val (.int .i64 n)] G (.val (.int .i64 (q4u n))) :=
  Gives.of_calls (args:=[.int .i64 n]) fun w _=>(x48 n _ w hn (q4c hn.1)).mono fun _ _ h=>⟨h.1,h.2 ▸ Below.refl _ _⟩
end Go.Proofs.YtegpkpilfgohhaaGreat
namespace Go.Proofs.YtegpkpilfgohhaaGreat
open Go.RowKit
theorem q2k {P:Program} {T:Tab} (hT:TOk P T) {n0:Nat} {b:Code} {fr:List AV} {hp:List Blk} {G:Mem} {Q:Post} {ι κ:Type} (inv:ι→κ→Prop) (S:ι→κ→List (Nat × AV)) (H:ι→κ→List Blk) (μ:ι→κ→Nat) (i0:ι) (k0:κ) (h0:inv i0 k0)
    (start:Le n0 fr hp G (q4w b fr (S i0 k0)) (H i0 k0) G)
    (round:∀ i k,inv i k→q9u (q3l b []) fun ws=>q7z ws 0 fr fun fr1=>q6n fr1 (S i k) fun fr2=>q9r P T n0 b fr2 (H i k) G fun e fr' hp' G'=>match e with
      | .normal=>∃ i' k',inv i' k'∧μ i' k'<μ i k∧Le n0 fr' hp' G' (q4w b fr (S i' k')) (H i' k') G
      | e=>Q e fr' hp' G'):LoopP P n0 b fr hp G Q:=by
  refine z4n hT (fun i:ι × κ=>inv i.1 i.2) (fun i=>q4w b fr (S i.1 i.2)) (fun i=>H i.1 i.2) (fun _=>G) (fun i=>μ i.1 i.2) ⟨(i0,k0),h0,start⟩ fun i hi=>?_
  have h:=round i.1 i.2 hi
  rw [q7e,q6m,q5x] at h
  refine cast (congrArg _ ?_) h
  funext e fr' hp' G'
  cases e with
  | normal=>exact propext ⟨fun ⟨i',k',h1,h2,h3⟩=>⟨(i',k'),h1,h2,h3⟩,fun ⟨p,h1,h2,h3⟩=>⟨p.1,p.2,h1,h2,h3⟩⟩
  | _=>rfl
theorem z2q {P:Program} {T:Tab} (hT:TOk P T) {n0:Nat} {b:Code} {fr:List AV} {hp:List Blk} {G:Mem} {Q:Post} {ι κ ν:Type} (inv:ι→κ→ν→Prop) (S:ι→κ→ν→List (Nat × AV)) (H:ι→κ→ν→List Blk) (μ:ι→κ→ν→Nat) (i0:ι) (k0:κ) (m0:ν) (h0:inv i0 k0 m0)
    (start:Le n0 fr hp G (q4w b fr (S i0 k0 m0)) (H i0 k0 m0) G)
    (round:∀ i k m,inv i k m→q9u (q3l b []) fun ws=>q7z ws 0 fr fun fr1=>q6n fr1 (S i k m) fun fr2=>q9r P T n0 b fr2 (H i k m) G fun e fr' hp' G'=>match e with
      | .normal=>∃ i' k' m',inv i' k' m'∧μ i' k' m'<μ i k m∧Le n0 fr' hp' G' (q4w b fr (S i' k' m')) (H i' k' m') G
      | e=>Q e fr' hp' G'):LoopP P n0 b fr hp G Q:=by
  refine q2k hT (fun (i:ι) (q:κ × ν)=>inv i q.1 q.2) (fun i q=>S i q.1 q.2) (fun i q=>H i q.1 q.2) (fun i q=>μ i q.1 q.2) i0 (k0,m0) h0 start fun i q hi=>?_
  have h:=round i q.1 q.2 hi
  rw [q7e,q6m,q5x] at h ⊢
  refine cast (congrArg _ ?_) h
  funext e fr' hp' G'
  cases e with
  | normal=>exact propext ⟨fun ⟨i',k',m',h1,h2,h3⟩=>⟨i',(k',m'),h1,h2,h3⟩,fun ⟨i',p,h1,h2,h3⟩=>⟨i',p.1,p.2,h1,h2,h3⟩⟩
  | _=>rfl
def q29 (w:World) (o:Option Nat):Mem:=fun b=>if o=some b then none else w.heap[b]?
end Go.Proofs.YtegpkpilfgohhaaGreat
namespace Go.Proofs.YtegpkpilfgohhaaGreat
open Go.RowKit
theorem z63 {w w':World} (h:(q8e w).holds w'):Below w.heap.size {w' with heap:=w.heap} w':=by
  refine ⟨rfl,rfl,rfl,?_,fun k hk=>?_⟩
  · rcases Nat.eq_zero_or_pos w.heap.size with h0 |h0
    · show w.heap.size≤_;omega
    · have hk:w.heap.size-1<w.heap.size:=by omega
      have h1:=h (w.heap.size-1) _ (Array.getElem?_eq_getElem hk)
      have h2:=(Array.getElem?_eq_some_iff.1 h1).1
      show w.heap.size≤_
      omega
  · have h1:=h k _ (Array.getElem?_eq_getElem hk)
    show w'.heap[k]? = w.heap[k]?
    rw [h1,Array.getElem?_eq_getElem hk]
theorem Sees.heap {P:Program} {w w':World} (hh:w'.heap=w.heap):∀ (n:Nat) (t:TypeId) (cs:List Value),Sees P w n t cs→Sees P w' n t cs
  | 0,_,_,h=>h.elim
  | n+1,t,cs,h=>by
    unfold Sees at h ⊢
    split <;> first |(rename_i ht;rw [ht] at h;simp only at h) |skip
    · exact h
    · exact h
    · exact h
    · exact ⟨h.1,fun i f hi=>Sees.heap hh n _ _ (h.2 i f hi)⟩
    · exact ⟨h.1,fun i hi=>Sees.heap hh n _ _ (h.2 i hi)⟩
    · rcases h with h |⟨a,len,cap,h1,h2,h3,h4⟩
      · exact .inl h
      · refine .inr ⟨a,len,cap,h1,h2,h3,fun i hi=>?_⟩
        obtain ⟨cs',hl,hc,hs⟩:=h4 i hi
        refine ⟨cs',hl,fun j hj=>?_,Sees.heap hh n _ _ hs⟩
        rw [← hc j hj]
        simp only [World.cell?,hh]
    · trivial
theorem SliceG.holds {P:Program} {w w':World} {e:TypeId} {A:Option Addr} {n:Nat} {g:Nat→Nat→Value} (h:SliceG P w e A n g) (hb:(q8e w).holds w'):SliceG P w' e A n g:=by
  have h1:SliceG P {w' with heap:=w.heap} e A n g:=by
    intro hn
    obtain ⟨b,off,hA,hlt,hc⟩:=h hn
    refine ⟨b,off,hA,hlt,fun x hx=>⟨(hc x hx).1,?_⟩⟩
    obtain ⟨m,hm⟩:=(hc x hx).2
    exact ⟨m,Sees.heap (w:=w) (w':={w' with heap:=w.heap}) rfl _ _ _ hm⟩
  exact h1.below (z63 hb)
theorem x81 {P:Program} {T:Tab} (hT:TOk P T) {f:FuncId} {fn:Func} (hfn:P.funcs[f]? = some fn) {avs:List AV} {args:Array Value} {w:World} (ha:AV.rels noName avs args.toList)
    (h:q4f P T 0 fn avs [] (q8e w) fun v _ _=>v=.val (.bool true)):Calls P f args w fun e w'=>e=.returned (.bool true)∧Below w.heap.size w w':=by
  refine (q8b hT hfn ha (x1s w) h (fun _ _ _ _ _ h=>h)).mono ?_
  rintro e w' ⟨y,β',v,hp',G',h1,h2,h3,rfl⟩
  simp only [AV.rel] at h3
  subst h3
  exact ⟨h1,h2.below⟩
theorem q5l {P:Program} {f:FuncId} (hen:∀ vs w,(callFunc f vs).run P w=.ok (.enter f vs) w) {args:List AV} {hp:List Blk} {G:Mem} {K:AV→List Blk→Mem→Prop} {wrap:AV→AV} (hwr:Wraps wrap) {E:TypeId} {sz n:Nat} {xs:List Value} (hu:AV.unders 0 args=true)
    (hc:q57 P f args G wrap E sz n xs) (h:∀ A cap G',G.le G'→n≤cap→cap≤maxLen→(xs=[]∨∃ b,A=some ⟨b,0,none⟩∧∀ (j:Nat) u,xs[j]? = some u→G'.cell? ⟨b,j,none⟩=some u)→K (wrap (.val (.slice A n cap))) hp G'):CallP P f args hp G K:=by
  refine ⟨hen,fun w0 G0 β w vs hr ha=>(hc w vs hr.hold (q3w hu ha)).mono ?_⟩
  rintro e w' ⟨y,s,rfl,h2,h3,h4⟩
  have hr':=hr.step h4
  have hv:∀ s':Value,(AV.val s').rel β s':=fun s'=>by simp only [AV.rel]
  rcases h3.2 with ⟨rfl,h5⟩ |⟨g,cap,cur,rfl,h5,h6,h7,h8,h9,h10⟩
  · have h0:=h none 0 G (Mem.le_refl _) (by omega) (Nat.zero_le _) (.inl (by have:=h3.1;rw [h5] at this;simpa using this))
    subst h5
    exact ⟨y,β,_,hp,G,rfl,Nm.le_refl _,hr',hwr.rel (hv _) h2,h0⟩
  · have hcell:∀ (j:Nat) u,xs[j]? = some u→(G.and w' g).cell? ⟨g,j,none⟩=some u:=fun j u hj=>by
      have h11:(G.and w' g) g=some (.cells cur E (0,0)):=by simp [Mem.and,h6]
      unfold Mem.cell?
      rw [h11]
      rw [← h10] at hj
      rw [List.getElem?_take] at hj
      split at hj
      · simpa using hj
      · cases hj
    have h0:=h (some ⟨g,0,none⟩) cap (G.and w' g) (Mem.le_and hr'.hold g) h7 h8 (.inr ⟨g,rfl,hcell⟩)
    refine ⟨y,β,_,hp,G.and w' g,rfl,Nm.le_refl _,⟨hr'.below,Mem.and_holds hr'.hold g,Mem.le_trans hr'.sub (Mem.le_and hr'.hold g),fun b o hb=>?_,fun k z hk=>?_,hr'.inj,hr'.wrt⟩,hwr.rel (hv _) h2,h0⟩
    · unfold Mem.and at hb
      split at hb
      · rename_i e1;subst e1
        right
        exact Nat.le_trans hr.below.size h5
      · exact hr'.grow b o hb
    · obtain ⟨x,hx1,hx2⟩:=hr.blk k z hk
      obtain ⟨x',hx1',hx2'⟩:=hr'.blk k z hk
      rw [hx1] at hx1';cases hx1'
      refine ⟨x,hx1,?_⟩
      have hne:∀ b,x.live=true→q0i z=some b→b≠g:=fun b hl hb=>by
        have:=(hr.lt hk hx1 hl hb).2.1
        omega
      cases x with
      | gone=>trivial
      | muts S=>exact hx2'.elim
      | cells t l =>
        obtain ⟨b,c,q1,q2,q3,q4,q5⟩:=hx2'
        refine ⟨b,c,q1,q2,?_,q4,q5⟩
        have:=hne b rfl (by rw [q1];rfl)
        simp [Mem.and,this,q3]
      | own e' sz' n' xs' =>
        refine ⟨hx2'.1,fun b hb=>?_⟩
        have:=hne b rfl hb
        simp [Mem.and,this,hx2'.2 b hb]
      | lp i fr st p =>
        obtain ⟨q1,q2,q3,q4⟩:=hx2'
        refine ⟨q1,q2,?_,q4⟩
        have:=hne i.l rfl (by rw [q1];rfl)
        simp [Mem.and,this,q3]
      | mp f ks vs =>
        obtain ⟨b,ys,q1,q2,q3,q4⟩:=hx2'
        refine ⟨b,ys,q1,q2,?_,q4⟩
        have:=hne b rfl (by rw [q1];rfl)
        simp [Mem.and,this,q3]
end Go.Proofs.YtegpkpilfgohhaaGreat
namespace Go.Proofs.YtegpkpilfgohhaaGreat
open Go.RowKit
set_option maxRecDepth 20000
abbrev ptA (x y:Int):AV:=.agg [.val (.int .i64 x),.val (.int .i64 y)]
def q0s (l:List (Int × Int)):List Value:=l.flatMap fun p=>[.int .i64 p.1,.int .i64 p.2]
theorem q03 (K L:List (Int × Int)):q0s (K++L)=q0s K++q0s L:=by simp [q0s]
theorem z78 (p:Int × Int):q0s [p]=[.int .i64 p.1,.int .i64 p.2]:=by simp [q0s]
theorem q5m:∀ (L:List (Int × Int)),(q0s L).length=L.length*2
  | []=>rfl
  | r::L=>by
    have:=q5m L
    show (q0s ([r]++L)).length=_
    rw [q03,List.length_append,this,z78];simp;omega
theorem z2r {L:List (Int × Int)} {i:Nat} {r:Int × Int} (h:L[i]? = some r):(q0s L)[i*2]? = some (.int .i64 r.1)∧(q0s L)[i*2+1]? = some (.int .i64 r.2):=by
  obtain ⟨h1,rfl⟩:=List.getElem?_eq_some_iff.1 h
  have e:L=L.take i++([L[i]]++L.drop (i+1)):=by simp
  have hl:(q0s (L.take i)).length=i*2:=by rw [q5m,List.length_take];congr 1;omega
  have key:∀ j,j<2→(q0s L)[i*2+j]? = [Value.int .i64 L[i].1,.int .i64 L[i].2][j]?:=fun j hj=>by
    conv=>lhs;rw [e,q03,q03,z78]
    rw [List.getElem?_append_right (by omega),hl,show i*2+j-i*2=j by omega,List.getElem?_append_left (by simp;omega)]
  exact ⟨key 0 (by omega),key 1 (by omega)⟩
def x8g (e:Int) (a:AV):AV:=.tup [a,.val (.int .i64 e)]
theorem z38 (e:Int):Wraps (x8g e):=.pair (.val (.int .i64 e)) (fun _=>rfl) rfl
def PtsM (G:Mem) (A:Option Addr) (L:List (Int × Int)):Prop:=∀ (i:Nat) r,L[i]? = some r→∃ b off,A=some ⟨b,off,none⟩∧G.cell? ⟨b,off+i*2,none⟩=some (.int .i64 r.1)∧G.cell? ⟨b,off+i*2+1,none⟩=some (.int .i64 r.2)
theorem PtsM.mono {G G':Mem} {A:Option Addr} {L:List (Int × Int)} (h:PtsM G A L) (hle:G.le G'):PtsM G' A L:=fun i r hr=>by
  obtain ⟨b,off,h1,h2,h3⟩:=h i r hr
  exact ⟨b,off,h1,hle.cell h2,hle.cell h3⟩
theorem PtsM.frozen {G:Mem} {A:Option Addr} {L:List (Int × Int)} (h:q0s L=[]∨∃ b,A=some ⟨b,0,none⟩∧∀ (j:Nat) u,(q0s L)[j]? = some u→G.cell? ⟨b,j,none⟩=some u):PtsM G A L:=fun i r hr=>by
  obtain ⟨h1,h2⟩:=z2r hr
  rcases h with h |⟨b,rfl,h⟩
  · rw [h] at h1;simp at h1
  · exact ⟨b,0,rfl,by rw [Nat.zero_add];exact h _ _ h1,by rw [Nat.zero_add];exact h _ _ h2⟩
theorem PtsM.cells {G:Mem} {A:Option Addr} {L:List (Int × Int)} (h:PtsM G A L) {i:Nat} {r:Int × Int} (hi:L[i]? = some r):∃ p:Addr,A=some p∧∀ K:List Value→Prop,K [.int .i64 r.1,.int .i64 r.2]→OldCells G (p.add (i*2)) 2 K:=by
  obtain ⟨b,off,rfl,c0,c1⟩:=h i r hi
  refine ⟨_,rfl,fun K k=>q58 _ rfl (fun j u hj=>?_) k⟩
  rw [q02,q02]
  match j,hj with
  | 0,hj=>simp at hj;subst hj;exact c0
  | 1,hj=>simp at hj;subst hj;exact c1
section
variable {A B:Option Addr} {L:List (Int × Int)} {c d:Nat} {G:Mem}
set_option maxHeartbeats 1000000 in
theorem z4s (hA:PtsM G A L) (hB:PtsM G B L) (hl:L.length≤1000000000000):Gives Tryz.prog 18 [.val (.slice A L.length c),.val (.slice B L.length d)] G (.val (.bool true)):=by
  refine q06 tab_ok Tryz.func18 ?_
  (repeat ((try (conv=>whnf));(refine stQ ?_)))
  conv=>whnf
  refine q07 tab_ok (fun i=>i≤L.length) (fun (i:Nat)=>[(13,.val (.int .i64 i))]) (fun i=>[]) (fun i=>L.length-i) 0 (Nat.zero_le _) ?_ ?_
  · ((refine q0g ?_);(conv=>whnf);(refine q0h (by rfl) (by rfl) flQ ?_))
    exact q0e
  · rintro i hi
    rcases Nat.lt_or_ge i L.length with h1 |h1
    · obtain ⟨r,hr⟩:∃ r,L[i]? = some r:=⟨L[i],List.getElem?_eq_getElem h1⟩
      obtain ⟨p,rfl,ca⟩:=hA.cells hr
      obtain ⟨q,rfl,cb⟩:=hB.cells hr
      (repeat ((try (conv=>whnf));(refine stQ ?_)))
      conv=>whnf
      refine ca _ ?_
      (repeat ((try (conv=>whnf));(refine stQ ?_)))
      conv=>whnf
      refine cb _ ?_
      (repeat ((try (conv=>whnf));(refine stQ ?_)))
      refine ⟨i+1,by omega,by omega,?_⟩
      ((refine q0g ?_);(conv=>whnf);(refine q0h (by rfl) (by rfl) flQ ?_))
      exact q0e
    · (repeat ((try (conv=>whnf));(refine stQ ?_)))
      exact ⟨rfl,rfl⟩
end
section
variable {px py:Int} {G:Mem}
end
end Go.Proofs.YtegpkpilfgohhaaGreat
