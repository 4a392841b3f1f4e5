/-
  Merged: XTab, XNumE, XRootE, XEz.
-/
import Derived.Test.YtegpkpilfgohhaaProg
import Derived.Test.YtegpkpilfgohhaaEng2
import Derived.Test.YtegpkpilfgohhaaMrg3
import Derived.Test.YtegpkpilfgohhaaMrg4
set_option linter.unusedVariables false
set_option linter.unusedSimpArgs false
set_option linter.unnecessarySimpa false
namespace Go.Proofs.Ytegpkpilfgohhaa
open Go.RowKit
def tab:Tab:=[
  (1,⟨.fn,1,8,[.nilFunc]⟩),
  (2,⟨.int .i64,1,8,[.int .i64 0]⟩),
  (3,⟨.int .i64,1,8,[.int .i64 0]⟩),
  (4,⟨.bool,1,1,[.bool false]⟩),
  (5,⟨.int .u8,1,1,[.int .u8 0]⟩),
  (9,⟨.str,1,16,[.string ByteArray.empty]⟩),
  (12,⟨.int .u64,1,8,[.int .u64 0]⟩),
  (17,⟨.ptr 163,1,8,[.pointer none]⟩),
  (20,⟨.iface,1,16,[.nilIface]⟩),
  (21,⟨.int .i32,1,4,[.int .i32 0]⟩),
  (22,⟨.slice 35,1,24,[.slice none 0 0]⟩),
  (23,⟨.fn,1,8,[.nilFunc]⟩),
  (24,⟨.fn,1,8,[.nilFunc]⟩),
  (25,⟨.slice 60,1,24,[.slice none 0 0]⟩),
  (26,⟨.int .i64,1,8,[.int .i64 0]⟩),
  (28,⟨.fn,1,8,[.nilFunc]⟩),
  (29,⟨.fn,1,8,[.nilFunc]⟩),
  (30,⟨.fn,1,8,[.nilFunc]⟩),
  (31,⟨.fn,1,8,[.nilFunc]⟩),
  (32,⟨.fn,1,8,[.nilFunc]⟩),
  (33,⟨.slice 58,1,24,[.slice none 0 0]⟩),
  (34,⟨.strct [(0,33),(1,4)],2,32,[.slice none 0 0,.bool false]⟩),
  (35,⟨.strct [(0,33),(1,4)],2,32,[.slice none 0 0,.bool false]⟩),
  (36,⟨.strct [(0,3),(1,3),(2,3),(3,3)],4,32,[.int .i64 0,.int .i64 0,.int .i64 0,.int .i64 0]⟩),
  (37,⟨.strct [(0,3),(1,3),(2,3),(3,3)],4,32,[.int .i64 0,.int .i64 0,.int .i64 0,.int .i64 0]⟩),
  (39,⟨.fn,1,8,[.nilFunc]⟩),
  (40,⟨.fn,1,8,[.nilFunc]⟩),
  (42,⟨.fn,1,8,[.nilFunc]⟩),
  (44,⟨.fn,1,8,[.nilFunc]⟩),
  (45,⟨.fn,1,8,[.nilFunc]⟩),
  (46,⟨.fn,1,8,[.nilFunc]⟩),
  (47,⟨.fn,1,8,[.nilFunc]⟩),
  (49,⟨.fn,1,8,[.nilFunc]⟩),
  (50,⟨.fn,1,8,[.nilFunc]⟩),
  (51,⟨.fn,1,8,[.nilFunc]⟩),
  (52,⟨.fn,1,8,[.nilFunc]⟩),
  (53,⟨.fn,1,8,[.nilFunc]⟩),
  (54,⟨.slice 86,1,24,[.slice none 0 0]⟩),
  (55,⟨.fn,1,8,[.nilFunc]⟩),
  (56,⟨.fn,1,8,[.nilFunc]⟩),
  (57,⟨.strct [(0,3),(1,3)],2,16,[.int .i64 0,.int .i64 0]⟩),
  (58,⟨.strct [(0,3),(1,3)],2,16,[.int .i64 0,.int .i64 0]⟩),
  (59,⟨.strct [(0,3),(1,3),(2,3)],3,24,[.int .i64 0,.int .i64 0,.int .i64 0]⟩),
  (60,⟨.strct [(0,3),(1,3),(2,3)],3,24,[.int .i64 0,.int .i64 0,.int .i64 0]⟩),
  (61,⟨.fn,1,8,[.nilFunc]⟩),
  (63,⟨.fn,1,8,[.nilFunc]⟩),
  (64,⟨.fn,1,8,[.nilFunc]⟩),
  (65,⟨.ptr 69,1,8,[.pointer none]⟩),
  (67,⟨.fn,1,8,[.nilFunc]⟩),
  (68,⟨.strct [(0,37),(4,22),(5,33)],6,80,[.int .i64 0,.int .i64 0,.int .i64 0,.int .i64 0,.slice none 0 0,.slice none 0 0]⟩),
  (69,⟨.strct [(0,37),(4,22),(5,33)],6,80,[.int .i64 0,.int .i64 0,.int .i64 0,.int .i64 0,.slice none 0 0,.slice none 0 0]⟩),
  (70,⟨.fn,1,8,[.nilFunc]⟩),
  (71,⟨.fn,1,8,[.nilFunc]⟩),
  (72,⟨.fn,1,8,[.nilFunc]⟩),
  (73,⟨.fn,1,8,[.nilFunc]⟩),
  (75,⟨.fn,1,8,[.nilFunc]⟩),
  (76,⟨.fn,1,8,[.nilFunc]⟩),
  (78,⟨.fn,1,8,[.nilFunc]⟩),
  (79,⟨.fn,1,8,[.nilFunc]⟩),
  (80,⟨.slice 83,1,24,[.slice none 0 0]⟩),
  (81,⟨.fn,1,8,[.nilFunc]⟩),
  (82,⟨.strct [(0,3),(1,3)],2,16,[.int .i64 0,.int .i64 0]⟩),
  (83,⟨.strct [(0,3),(1,3)],2,16,[.int .i64 0,.int .i64 0]⟩),
  (84,⟨.fn,1,8,[.nilFunc]⟩),
  (85,⟨.strct [(0,3),(1,3),(2,3),(3,3),(4,3),(5,3)],6,48,[.int .i64 0,.int .i64 0,.int .i64 0,.int .i64 0,.int .i64 0,.int .i64 0]⟩),
  (86,⟨.strct [(0,3),(1,3),(2,3),(3,3),(4,3),(5,3)],6,48,[.int .i64 0,.int .i64 0,.int .i64 0,.int .i64 0,.int .i64 0,.int .i64 0]⟩),
  (87,⟨.fn,1,8,[.nilFunc]⟩),
  (88,⟨.strct [(0,25)],1,24,[.slice none 0 0]⟩),
  (89,⟨.strct [(0,25)],1,24,[.slice none 0 0]⟩),
  (90,⟨.fn,1,8,[.nilFunc]⟩),
  (91,⟨.fn,1,8,[.nilFunc]⟩),
  (92,⟨.fn,1,8,[.nilFunc]⟩),
  (93,⟨.slice 3,1,24,[.slice none 0 0]⟩),
  (95,⟨.fn,1,8,[.nilFunc]⟩),
  (96,⟨.fn,1,8,[.nilFunc]⟩),
  (97,⟨.fn,1,8,[.nilFunc]⟩),
  (98,⟨.fn,1,8,[.nilFunc]⟩),
  (99,⟨.fn,1,8,[.nilFunc]⟩),
  (100,⟨.fn,1,8,[.nilFunc]⟩),
  (101,⟨.fn,1,8,[.nilFunc]⟩),
  (102,⟨.fn,1,8,[.nilFunc]⟩),
  (103,⟨.fn,1,8,[.nilFunc]⟩),
  (104,⟨.fn,1,8,[.nilFunc]⟩),
  (105,⟨.fn,1,8,[.nilFunc]⟩),
  (106,⟨.ptr 89,1,8,[.pointer none]⟩),
  (107,⟨.slice 111,1,24,[.slice none 0 0]⟩),
  (108,⟨.fn,1,8,[.nilFunc]⟩),
  (109,⟨.fn,1,8,[.nilFunc]⟩),
  (110,⟨.strct [(0,58)],2,16,[.int .i64 0,.int .i64 0]⟩),
  (111,⟨.strct [(0,58)],2,16,[.int .i64 0,.int .i64 0]⟩),
  (112,⟨.slice 114,1,24,[.slice none 0 0]⟩),
  (113,⟨.strct [(0,111),(2,111),(4,111),(6,111),(8,111)],10,80,[.int .i64 0,.int .i64 0,.int .i64 0,.int .i64 0,.int .i64 0,.int .i64 0,.int .i64 0,.int .i64 0,.int .i64 0,.int .i64 0]⟩),
  (114,⟨.strct [(0,111),(2,111),(4,111),(6,111),(8,111)],10,80,[.int .i64 0,.int .i64 0,.int .i64 0,.int .i64 0,.int .i64 0,.int .i64 0,.int .i64 0,.int .i64 0,.int .i64 0,.int .i64 0]⟩),
  (115,⟨.fn,1,8,[.nilFunc]⟩),
  (116,⟨.fn,1,8,[.nilFunc]⟩),
  (117,⟨.fn,1,8,[.nilFunc]⟩),
  (118,⟨.fn,1,8,[.nilFunc]⟩),
  (119,⟨.fn,1,8,[.nilFunc]⟩),
  (120,⟨.fn,1,8,[.nilFunc]⟩),
  (121,⟨.fn,1,8,[.nilFunc]⟩),
  (122,⟨.int .u64,1,8,[.int .u64 0]⟩),
  (123,⟨.fn,1,8,[.nilFunc]⟩),
  (124,⟨.fn,1,8,[.nilFunc]⟩),
  (125,⟨.fn,1,8,[.nilFunc]⟩),
  (126,⟨.fn,1,8,[.nilFunc]⟩),
  (127,⟨.fn,1,8,[.nilFunc]⟩),
  (128,⟨.fn,1,8,[.nilFunc]⟩),
  (129,⟨.int .i64,1,8,[.int .i64 0]⟩),
  (131,⟨.fn,1,8,[.nilFunc]⟩),
  (132,⟨.fn,1,8,[.nilFunc]⟩),
  (133,⟨.fn,1,8,[.nilFunc]⟩),
  (135,⟨.fn,1,8,[.nilFunc]⟩),
  (136,⟨.fn,1,8,[.nilFunc]⟩),
  (137,⟨.int .u32,1,4,[.int .u32 0]⟩),
  (138,⟨.fn,1,8,[.nilFunc]⟩),
  (139,⟨.int .u64,1,8,[.int .u64 0]⟩),
  (141,⟨.fn,1,8,[.nilFunc]⟩),
  (142,⟨.fn,1,8,[.nilFunc]⟩),
  (143,⟨.fn,1,8,[.nilFunc]⟩),
  (144,⟨.ptr 3,1,8,[.pointer none]⟩),
  (145,⟨.fn,1,8,[.nilFunc]⟩),
  (148,⟨.fn,1,8,[.nilFunc]⟩),
  (149,⟨.fn,1,8,[.nilFunc]⟩),
  (155,⟨.fn,1,8,[.nilFunc]⟩),
  (158,⟨.fn,1,8,[.nilFunc]⟩),
  (159,⟨.ptr 5,1,8,[.pointer none]⟩),
  (162,⟨.strct [(0,12),(1,12),(2,137),(3,156),(4,5),(5,5),(6,157),(7,158),(8,159),(9,160),(10,161)],11,48,[.int .u64 0,.int .u64 0,.int .u32 0,.int .u8 0,.int .u8 0,.int .u8 0,.int .u8 0,.nilFunc,.pointer none,.int .i32 0,.int .i32 0]⟩)]
set_option maxRecDepth 100000 in
theorem tab_ok:TOk Try.prog tab:=by unfold TOk;kernel_rfl
theorem eq37 {x y:Operand} {l m:List AV} {K:Bool→Prop} (h:q1n l fun xs=>q1n m fun ys=>q0t (q0x [.int .i64,.int .i64,.int .i64,.int .i64] xs) (q0t (q0x [.int .i64,.int .i64,.int .i64,.int .i64] ys) (q26 xs ys K))):EqP Try.prog 37 x y (.agg l) (.agg m) K:=q5d (ks:=[.int .i64,.int .i64,.int .i64,.int .i64]) (by kernel_rfl) (by kernel_rfl) (by kernel_rfl) h
theorem eq58 {x y:Operand} {l m:List AV} {K:Bool→Prop} (h:q1n l fun xs=>q1n m fun ys=>q0t (q0x [.int .i64,.int .i64] xs) (q0t (q0x [.int .i64,.int .i64] ys) (q26 xs ys K))):EqP Try.prog 58 x y (.agg l) (.agg m) K:=q5d (ks:=[.int .i64,.int .i64]) (by kernel_rfl) (by kernel_rfl) (by kernel_rfl) h
theorem eq60 {x y:Operand} {l m:List AV} {K:Bool→Prop} (h:q1n l fun xs=>q1n m fun ys=>q0t (q0x [.int .i64,.int .i64,.int .i64] xs) (q0t (q0x [.int .i64,.int .i64,.int .i64] ys) (q26 xs ys K))):EqP Try.prog 60 x y (.agg l) (.agg m) K:=q5d (ks:=[.int .i64,.int .i64,.int .i64]) (by kernel_rfl) (by kernel_rfl) (by kernel_rfl) h
theorem eq83 {x y:Operand} {l m:List AV} {K:Bool→Prop} (h:q1n l fun xs=>q1n m fun ys=>q0t (q0x [.int .i64,.int .i64] xs) (q0t (q0x [.int .i64,.int .i64] ys) (q26 xs ys K))):EqP Try.prog 83 x y (.agg l) (.agg m) K:=q5d (ks:=[.int .i64,.int .i64]) (by kernel_rfl) (by kernel_rfl) (by kernel_rfl) h
theorem eq86 {x y:Operand} {l m:List AV} {K:Bool→Prop} (h:q1n l fun xs=>q1n m fun ys=>q0t (q0x [.int .i64,.int .i64,.int .i64,.int .i64,.int .i64,.int .i64] xs) (q0t (q0x [.int .i64,.int .i64,.int .i64,.int .i64,.int .i64,.int .i64] ys) (q26 xs ys K))):EqP Try.prog 86 x y (.agg l) (.agg m) K:=q5d (ks:=[.int .i64,.int .i64,.int .i64,.int .i64,.int .i64,.int .i64]) (by kernel_rfl) (by kernel_rfl) (by kernel_rfl) h
theorem x0q {x y:Operand} {l m:List AV} {K:Bool→Prop} (h:q1n l fun xs=>q1n m fun ys=>q0t (q0x [.int .i64,.int .i64] xs) (q0t (q0x [.int .i64,.int .i64] ys) (q26 xs ys K))):EqP Try.prog 111 x y (.agg l) (.agg m) K:=q5d (ks:=[.int .i64,.int .i64]) (by kernel_rfl) (by kernel_rfl) (by kernel_rfl) h
theorem x0r {x y:Operand} {l m:List AV} {K:Bool→Prop} (h:q1n l fun xs=>q1n m fun ys=>q0t (q0x [.int .i64,.int .i64,.int .i64,.int .i64,.int .i64,.int .i64,.int .i64,.int .i64,.int .i64,.int .i64] xs) (q0t (q0x [.int .i64,.int .i64,.int .i64,.int .i64,.int .i64,.int .i64,.int .i64,.int .i64,.int .i64,.int .i64] ys) (q26 xs ys K))):EqP Try.prog 114 x y (.agg l) (.agg m) K:=q5d (ks:=[.int .i64,.int .i64,.int .i64,.int .i64,.int .i64,.int .i64,.int .i64,.int .i64,.int .i64,.int .i64]) (by kernel_rfl) (by kernel_rfl) (by kernel_rfl) h
theorem stQ {p q:Prop} (k:q) (h:q→p:=by first |(with_reducible exact q77) |(with_reducible exact q7k) |(with_reducible exact z3g) |(with_reducible exact z3h) |((with_reducible refine z4j ?_);(· omega)) |((with_reducible refine z4k ?_);(· omega)) |((with_reducible refine q8z ?_);(· assumption)) |((with_reducible refine z0o ?_);(· assumption)) |((with_reducible refine z6j ?_);(· omega)) |((with_reducible refine mustP.mk ?_);(· first |omega |rfl |(dsimp only;omega))) |(with_reducible exact z6w tab_ok) |(with_reducible exact z6x tab_ok) |(with_reducible exact z43) |(with_reducible exact z1c tab_ok) |(with_reducible exact z44 tab_ok) |((with_reducible refine z0e tab_ok ?_);(· rfl)) |(with_reducible exact z1m tab_ok (by kernel_rfl) (by decide +kernel)) |(with_reducible exact z50 tab_ok (by kernel_rfl) (by decide +kernel)) |(with_reducible exact eq37) |(with_reducible exact eq58) |(with_reducible exact eq60) |(with_reducible exact eq83) |(with_reducible exact eq86) |(with_reducible exact x0q) |(with_reducible exact x0r)):p:=h k
theorem s3Q {p q:Prop} (k:q) (h:q→p:=by first |(with_reducible exact q77) |(with_reducible exact q7k) |(with_reducible exact z3g) |(with_reducible exact z3h) |((with_reducible refine z4j ?_);(· omega)) |((with_reducible refine z4k ?_);(· omega)) |((with_reducible refine q8z ?_);(· assumption)) |((with_reducible refine z0o ?_);(· assumption)) |((with_reducible refine z6j ?_);(· omega)) |((with_reducible refine mustP.mk ?_);(· first |omega |rfl |(dsimp only;omega))) |(with_reducible exact z6w tab_ok) |(with_reducible exact z6x tab_ok) |(with_reducible exact z43) |(with_reducible exact z1c tab_ok) |(with_reducible exact z44 tab_ok) |((with_reducible refine z0e tab_ok ?_);(· rfl)) |(with_reducible exact z1m tab_ok (by kernel_rfl) (by decide +kernel)) |(with_reducible exact z51 tab_ok (by kernel_rfl) (by decide +kernel)) |(with_reducible exact eq37) |(with_reducible exact eq58) |(with_reducible exact eq60) |(with_reducible exact eq83) |(with_reducible exact eq86) |(with_reducible exact x0q) |(with_reducible exact x0r)):p:=h k
theorem flQ {p:Prop} (h:p:=by repeat (first |(with_reducible exact z9v) |(with_reducible first |refine z9w ?_ |refine z9x ?_) |((with_reducible refine z2m rfl ?_ ?_);(· rfl)) |((with_reducible refine q9d (z8k ?_) ?_ ?_);(· omega);(· rfl)) |((with_reducible refine q9d (z8k ?_) ?_ ?_);(· simp only [Int.natCast_add,Int.natCast_one,Int.natCast_ofNat] <;> omega);(· rfl)) |((with_reducible refine q9d (x04 ?_) ?_ ?_);(· first |assumption |(symm;assumption));(· rfl)))):p:=h
end Go.Proofs.Ytegpkpilfgohhaa
namespace Go.Proofs.Ytegpkpilfgohhaa
open Go.RowKit
set_option maxRecDepth 20000
theorem q2m {a b:Int} {G:Mem} (ha:-4611686018427387904≤a∧a≤4611686018427387904) (hb:1≤b∧b≤4611686018427387904):Gives Try.prog 76 [.val (.int .i64 a),.val (.int .i64 b)] G (.val (.int .i64 (near a b))) :=
  Gives.of_calls (args:=[.int .i64 a,.int .i64 b]) fun w _=>(z90 a b w ha hb).mono fun _ _ h=>⟨h.1,h.2 ▸ Below.refl _ _⟩
end Go.Proofs.Ytegpkpilfgohhaa
namespace Go.Proofs.Ytegpkpilfgohhaa
open Go.RowKit
set_option maxRecDepth 20000
noncomputable def q7d (n:Int):Int:=Classical.epsilon fun r=>q3j n r
theorem q6t {n:Int} (h:0≤n):q3j n (q7d n):=Classical.epsilon_spec (x07 h)
theorem z7p {n:Int} {G:Mem} (hn:0≤n∧n≤4611686018427387904):Gives Try.prog 78 [.val (.int .i64 n)] G (.val (.int .i64 (q7d n))) :=
  Gives.of_calls (args:=[.int .i64 n]) fun w _=>(z93 n _ w hn (q6t hn.1)).mono fun _ _ h=>⟨h.1,h.2 ▸ Below.refl _ _⟩
theorem z55 {n:Int} {G:Mem} (hn:0≤n∧n≤4611686018427387904):Gives Try.prog 55 [.val (.int .i64 n)] G (.val (.int .i64 (q7d n))) :=
  Gives.of_calls (args:=[.int .i64 n]) fun w _=>(z8p n _ w hn (q6t hn.1)).mono fun _ _ h=>⟨h.1,h.2 ▸ Below.refl _ _⟩
end Go.Proofs.Ytegpkpilfgohhaa
namespace Go.Proofs.Ytegpkpilfgohhaa
open Go.RowKit
theorem z8u {P:Program} {T:Tab} (hT:TOk P T) {n0:Nat} {b:Code} {fr:List AV} {hp:List Blk} {G:Mem} {Q:Post} {ι κ:Type} (inv:ι→κ→Prop) (S:ι→κ→List (Nat × AV)) (H:ι→κ→List Blk) (μ:ι→κ→Nat) (i0:ι) (k0:κ) (h0:inv i0 k0)
    (start:Le n0 fr hp G (q4e b fr (S i0 k0)) (H i0 k0) G)
    (round:∀ i k,inv i k→q8j (q20 b []) fun ws=>q6o ws 0 fr fun fr1=>q5c fr1 (S i k) fun fr2=>q8d P T n0 b fr2 (H i k) G fun e fr' hp' G'=>match e with
      | .normal=>∃ i' k',inv i' k'∧μ i' k'<μ i k∧Le n0 fr' hp' G' (q4e b fr (S i' k')) (H i' k') G
      | e=>Q e fr' hp' G'):LoopP P n0 b fr hp G Q:=by
  refine z0t hT (fun i:ι × κ=>inv i.1 i.2) (fun i=>q4e b fr (S i.1 i.2)) (fun i=>H i.1 i.2) (fun _=>G) (fun i=>μ i.1 i.2) ⟨(i0,k0),h0,start⟩ fun i hi=>?_
  have h:=round i.1 i.2 hi
  rw [q6p,q5s,q4x] at h
  refine cast (congrArg _ ?_) h
  funext e fr' hp' G'
  cases e with
  | normal=>exact propext ⟨fun ⟨i',k',h1,h2,h3⟩=>⟨(i',k'),h1,h2,h3⟩,fun ⟨p,h1,h2,h3⟩=>⟨p.1,p.2,h1,h2,h3⟩⟩
  | _=>rfl
def q41 (w:World) (o:Option Nat):Mem:=fun b=>if o=some b then none else w.heap[b]?
end Go.Proofs.Ytegpkpilfgohhaa
