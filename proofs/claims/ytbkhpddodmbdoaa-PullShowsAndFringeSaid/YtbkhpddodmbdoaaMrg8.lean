/-
  Merged: XTab, XPut, XJoined.
-/
import Derived.Test.YtbkhpddodmbdoaaProg
import Derived.Test.YtbkhpddodmbdoaaEng2
import Derived.Test.YtbkhpddodmbdoaaMrg6
import Derived.Test.YtbkhpddodmbdoaaRegSweep
set_option linter.unusedVariables false
set_option linter.unusedSimpArgs false
set_option linter.unnecessarySimpa false
namespace Go.Proofs.Ytbkhpddodmbdoaa
open Go.RowKit
def tab:Tab:=[
  (1,⟨.fn,1,8,[.nilFunc]⟩),
  (2,⟨.int .i64,1,8,[.int .i64 0]⟩),
  (3,⟨.int .i64,1,8,[.int .i64 0]⟩),
  (4,⟨.bool,1,1,[.bool false]⟩),
  (5,⟨.int .u8,1,1,[.int .u8 0]⟩),
  (9,⟨.str,1,16,[.string ByteArray.empty]⟩),
  (12,⟨.int .u64,1,8,[.int .u64 0]⟩),
  (17,⟨.ptr 167,1,8,[.pointer none]⟩),
  (20,⟨.iface,1,16,[.nilIface]⟩),
  (21,⟨.int .i32,1,4,[.int .i32 0]⟩),
  (22,⟨.slice 29,1,24,[.slice none 0 0]⟩),
  (23,⟨.int .i64,1,8,[.int .i64 0]⟩),
  (24,⟨.fn,1,8,[.nilFunc]⟩),
  (25,⟨.slice 54,1,24,[.slice none 0 0]⟩),
  (26,⟨.arr 8 5,8,8,[.int .u8 0,.int .u8 0,.int .u8 0,.int .u8 0,.int .u8 0,.int .u8 0,.int .u8 0,.int .u8 0]⟩),
  (27,⟨.arr 8 5,8,8,[.int .u8 0,.int .u8 0,.int .u8 0,.int .u8 0,.int .u8 0,.int .u8 0,.int .u8 0,.int .u8 0]⟩),
  (28,⟨.strct [(0,25),(1,27)],9,32,[.slice none 0 0,.int .u8 0,.int .u8 0,.int .u8 0,.int .u8 0,.int .u8 0,.int .u8 0,.int .u8 0,.int .u8 0]⟩),
  (29,⟨.strct [(0,25),(1,27)],9,32,[.slice none 0 0,.int .u8 0,.int .u8 0,.int .u8 0,.int .u8 0,.int .u8 0,.int .u8 0,.int .u8 0,.int .u8 0]⟩),
  (30,⟨.fn,1,8,[.nilFunc]⟩),
  (31,⟨.fn,1,8,[.nilFunc]⟩),
  (32,⟨.fn,1,8,[.nilFunc]⟩),
  (33,⟨.fn,1,8,[.nilFunc]⟩),
  (35,⟨.fn,1,8,[.nilFunc]⟩),
  (37,⟨.fn,1,8,[.nilFunc]⟩),
  (38,⟨.slice 27,1,24,[.slice none 0 0]⟩),
  (39,⟨.fn,1,8,[.nilFunc]⟩),
  (40,⟨.fn,1,8,[.nilFunc]⟩),
  (41,⟨.fn,1,8,[.nilFunc]⟩),
  (42,⟨.fn,1,8,[.nilFunc]⟩),
  (43,⟨.strct [(0,3),(1,3)],2,16,[.int .i64 0,.int .i64 0]⟩),
  (44,⟨.strct [(0,3),(1,3)],2,16,[.int .i64 0,.int .i64 0]⟩),
  (46,⟨.fn,1,8,[.nilFunc]⟩),
  (47,⟨.fn,1,8,[.nilFunc]⟩),
  (48,⟨.fn,1,8,[.nilFunc]⟩),
  (49,⟨.fn,1,8,[.nilFunc]⟩),
  (50,⟨.fn,1,8,[.nilFunc]⟩),
  (51,⟨.fn,1,8,[.nilFunc]⟩),
  (52,⟨.fn,1,8,[.nilFunc]⟩),
  (53,⟨.strct [(0,3),(1,3),(2,3)],3,24,[.int .i64 0,.int .i64 0,.int .i64 0]⟩),
  (54,⟨.strct [(0,3),(1,3),(2,3)],3,24,[.int .i64 0,.int .i64 0,.int .i64 0]⟩),
  (55,⟨.fn,1,8,[.nilFunc]⟩),
  (56,⟨.fn,1,8,[.nilFunc]⟩),
  (57,⟨.fn,1,8,[.nilFunc]⟩),
  (58,⟨.fn,1,8,[.nilFunc]⟩),
  (59,⟨.strct [(0,3),(1,3),(2,22),(3,3)],4,48,[.int .i64 0,.int .i64 0,.slice none 0 0,.int .i64 0]⟩),
  (60,⟨.strct [(0,3),(1,3),(2,22),(3,3)],4,48,[.int .i64 0,.int .i64 0,.slice none 0 0,.int .i64 0]⟩),
  (62,⟨.fn,1,8,[.nilFunc]⟩),
  (63,⟨.fn,1,8,[.nilFunc]⟩),
  (64,⟨.fn,1,8,[.nilFunc]⟩),
  (65,⟨.ptr 27,1,8,[.pointer none]⟩),
  (66,⟨.fn,1,8,[.nilFunc]⟩),
  (67,⟨.fn,1,8,[.nilFunc]⟩),
  (68,⟨.fn,1,8,[.nilFunc]⟩),
  (69,⟨.fn,1,8,[.nilFunc]⟩),
  (70,⟨.fn,1,8,[.nilFunc]⟩),
  (71,⟨.fn,1,8,[.nilFunc]⟩),
  (72,⟨.fn,1,8,[.nilFunc]⟩),
  (73,⟨.fn,1,8,[.nilFunc]⟩),
  (74,⟨.slice 76,1,24,[.slice none 0 0]⟩),
  (75,⟨.strct [(0,54),(3,3)],4,32,[.int .i64 0,.int .i64 0,.int .i64 0,.int .i64 0]⟩),
  (76,⟨.strct [(0,54),(3,3)],4,32,[.int .i64 0,.int .i64 0,.int .i64 0,.int .i64 0]⟩),
  (77,⟨.fn,1,8,[.nilFunc]⟩),
  (78,⟨.fn,1,8,[.nilFunc]⟩),
  (79,⟨.fn,1,8,[.nilFunc]⟩),
  (80,⟨.slice 4,1,24,[.slice none 0 0]⟩),
  (81,⟨.fn,1,8,[.nilFunc]⟩),
  (82,⟨.fn,1,8,[.nilFunc]⟩),
  (83,⟨.mapT 27 3,1,8,[.map none]⟩),
  (85,⟨.fn,1,8,[.nilFunc]⟩),
  (86,⟨.slice 3,1,24,[.slice none 0 0]⟩),
  (87,⟨.fn,1,8,[.nilFunc]⟩),
  (88,⟨.fn,1,8,[.nilFunc]⟩),
  (89,⟨.fn,1,8,[.nilFunc]⟩),
  (90,⟨.fn,1,8,[.nilFunc]⟩),
  (91,⟨.fn,1,8,[.nilFunc]⟩),
  (92,⟨.ptr 112,1,8,[.pointer none]⟩),
  (93,⟨.fn,1,8,[.nilFunc]⟩),
  (94,⟨.fn,1,8,[.nilFunc]⟩),
  (95,⟨.fn,1,8,[.nilFunc]⟩),
  (96,⟨.fn,1,8,[.nilFunc]⟩),
  (97,⟨.fn,1,8,[.nilFunc]⟩),
  (98,⟨.fn,1,8,[.nilFunc]⟩),
  (99,⟨.fn,1,8,[.nilFunc]⟩),
  (100,⟨.fn,1,8,[.nilFunc]⟩),
  (101,⟨.fn,1,8,[.nilFunc]⟩),
  (102,⟨.fn,1,8,[.nilFunc]⟩),
  (103,⟨.int .u64,1,8,[.int .u64 0]⟩),
  (104,⟨.fn,1,8,[.nilFunc]⟩),
  (105,⟨.fn,1,8,[.nilFunc]⟩),
  (106,⟨.strct [(0,25)],1,24,[.slice none 0 0]⟩),
  (107,⟨.strct [(0,25)],1,24,[.slice none 0 0]⟩),
  (108,⟨.fn,1,8,[.nilFunc]⟩),
  (109,⟨.fn,1,8,[.nilFunc]⟩),
  (110,⟨.slice 107,1,24,[.slice none 0 0]⟩),
  (111,⟨.strct [(0,83),(1,110),(2,38),(3,4)],4,64,[.map none,.slice none 0 0,.slice none 0 0,.bool false]⟩),
  (112,⟨.strct [(0,83),(1,110),(2,38),(3,4)],4,64,[.map none,.slice none 0 0,.slice none 0 0,.bool false]⟩),
  (113,⟨.fn,1,8,[.nilFunc]⟩),
  (114,⟨.arr 2 25,2,48,[.slice none 0 0,.slice none 0 0]⟩),
  (115,⟨.fn,1,8,[.nilFunc]⟩),
  (116,⟨.fn,1,8,[.nilFunc]⟩),
  (117,⟨.int .i64,1,8,[.int .i64 0]⟩),
  (119,⟨.fn,1,8,[.nilFunc]⟩),
  (120,⟨.fn,1,8,[.nilFunc]⟩),
  (121,⟨.fn,1,8,[.nilFunc]⟩),
  (122,⟨.fn,1,8,[.nilFunc]⟩),
  (123,⟨.fn,1,8,[.nilFunc]⟩),
  (124,⟨.int .u32,1,4,[.int .u32 0]⟩),
  (125,⟨.fn,1,8,[.nilFunc]⟩),
  (126,⟨.int .u64,1,8,[.int .u64 0]⟩),
  (127,⟨.ptr 107,1,8,[.pointer none]⟩),
  (128,⟨.fn,1,8,[.nilFunc]⟩),
  (129,⟨.fn,1,8,[.nilFunc]⟩),
  (130,⟨.slice 134,1,24,[.slice none 0 0]⟩),
  (131,⟨.fn,1,8,[.nilFunc]⟩),
  (132,⟨.arr 2 4,2,2,[.bool false,.bool false]⟩),
  (133,⟨.strct [(0,3),(1,3),(2,3)],3,24,[.int .i64 0,.int .i64 0,.int .i64 0]⟩),
  (134,⟨.strct [(0,3),(1,3),(2,3)],3,24,[.int .i64 0,.int .i64 0,.int .i64 0]⟩),
  (136,⟨.fn,1,8,[.nilFunc]⟩),
  (137,⟨.fn,1,8,[.nilFunc]⟩),
  (138,⟨.fn,1,8,[.nilFunc]⟩),
  (139,⟨.ptr 3,1,8,[.pointer none]⟩),
  (140,⟨.fn,1,8,[.nilFunc]⟩),
  (141,⟨.fn,1,8,[.nilFunc]⟩),
  (144,⟨.fn,1,8,[.nilFunc]⟩),
  (145,⟨.fn,1,8,[.nilFunc]⟩),
  (146,⟨.fn,1,8,[.nilFunc]⟩),
  (147,⟨.fn,1,8,[.nilFunc]⟩),
  (148,⟨.fn,1,8,[.nilFunc]⟩),
  (149,⟨.fn,1,8,[.nilFunc]⟩),
  (150,⟨.fn,1,8,[.nilFunc]⟩),
  (151,⟨.fn,1,8,[.nilFunc]⟩),
  (152,⟨.fn,1,8,[.nilFunc]⟩),
  (153,⟨.fn,1,8,[.nilFunc]⟩),
  (159,⟨.fn,1,8,[.nilFunc]⟩),
  (162,⟨.fn,1,8,[.nilFunc]⟩),
  (163,⟨.ptr 5,1,8,[.pointer none]⟩),
  (166,⟨.strct [(0,12),(1,12),(2,124),(3,160),(4,5),(5,5),(6,161),(7,162),(8,163),(9,164),(10,165)],11,48,[.int .u64 0,.int .u64 0,.int .u32 0,.int .u8 0,.int .u8 0,.int .u8 0,.int .u8 0,.nilFunc,.pointer none,.int .i32 0,.int .i32 0]⟩)]
set_option maxRecDepth 100000 in
theorem tab_ok:TOk Try.prog tab:=by unfold TOk;kernel_rfl
theorem eq27 {x y:Operand} {l m:List AV} {K:Bool→Prop} (h:q2a l fun xs=>q2a m fun ys=>q0s (q0v [.int .u8,.int .u8,.int .u8,.int .u8,.int .u8,.int .u8,.int .u8,.int .u8] xs) (q0s (q0v [.int .u8,.int .u8,.int .u8,.int .u8,.int .u8,.int .u8,.int .u8,.int .u8] ys) (q43 xs ys K))):EqP Try.prog 27 x y (.agg l) (.agg m) K:=q9h (ks:=[.int .u8,.int .u8,.int .u8,.int .u8,.int .u8,.int .u8,.int .u8,.int .u8]) (by kernel_rfl) (by kernel_rfl) (by kernel_rfl) h
theorem eq44 {x y:Operand} {l m:List AV} {K:Bool→Prop} (h:q2a l fun xs=>q2a m fun ys=>q0s (q0v [.int .i64,.int .i64] xs) (q0s (q0v [.int .i64,.int .i64] ys) (q43 xs ys K))):EqP Try.prog 44 x y (.agg l) (.agg m) K:=q9h (ks:=[.int .i64,.int .i64]) (by kernel_rfl) (by kernel_rfl) (by kernel_rfl) h
theorem eq54 {x y:Operand} {l m:List AV} {K:Bool→Prop} (h:q2a l fun xs=>q2a m fun ys=>q0s (q0v [.int .i64,.int .i64,.int .i64] xs) (q0s (q0v [.int .i64,.int .i64,.int .i64] ys) (q43 xs ys K))):EqP Try.prog 54 x y (.agg l) (.agg m) K:=q9h (ks:=[.int .i64,.int .i64,.int .i64]) (by kernel_rfl) (by kernel_rfl) (by kernel_rfl) h
theorem eq76 {x y:Operand} {l m:List AV} {K:Bool→Prop} (h:q2a l fun xs=>q2a m fun ys=>q0s (q0v [.int .i64,.int .i64,.int .i64,.int .i64] xs) (q0s (q0v [.int .i64,.int .i64,.int .i64,.int .i64] ys) (q43 xs ys K))):EqP Try.prog 76 x y (.agg l) (.agg m) K:=q9h (ks:=[.int .i64,.int .i64,.int .i64,.int .i64]) (by kernel_rfl) (by kernel_rfl) (by kernel_rfl) h
theorem x4m {x y:Operand} {l m:List AV} {K:Bool→Prop} (h:q2a l fun xs=>q2a m fun ys=>q0s (q0v [.int .i64,.int .i64,.int .i64] xs) (q0s (q0v [.int .i64,.int .i64,.int .i64] ys) (q43 xs ys K))):EqP Try.prog 134 x y (.agg l) (.agg m) K:=q9h (ks:=[.int .i64,.int .i64,.int .i64]) (by kernel_rfl) (by kernel_rfl) (by kernel_rfl) h
theorem stQ {p q:Prop} (k:q) (h:q→p:=by first |(with_reducible exact q9m) |(with_reducible exact q89) |(with_reducible exact z5i) |(with_reducible exact z5j) |((with_reducible refine z6x ?_);(· omega)) |((with_reducible refine z6y ?_);(· omega)) |((with_reducible refine z0h ?_);(· assumption)) |((with_reducible refine q1j ?_);(· assumption)) |((with_reducible refine z89 ?_);(· omega)) |((with_reducible refine mustP.mk ?_);(· first |omega |rfl |(dsimp only;omega))) |(with_reducible exact z9m tab_ok) |(with_reducible exact z9n tab_ok) |(with_reducible exact z7g) |(with_reducible exact z3e tab_ok) |(with_reducible exact z7h tab_ok) |((with_reducible refine z18 tab_ok ?_);(· rfl)) |(with_reducible exact z3o tab_ok (by kernel_rfl) (by decide +kernel)) |(with_reducible exact z8p tab_ok (by kernel_rfl) (by decide +kernel)) |(with_reducible exact eq27) |(with_reducible exact eq44) |(with_reducible exact eq54) |(with_reducible exact eq76) |(with_reducible exact x4m)):p:=h k
theorem s3Q {p q:Prop} (k:q) (h:q→p:=by first |(with_reducible exact q9m) |(with_reducible exact q89) |(with_reducible exact z5i) |(with_reducible exact z5j) |((with_reducible refine z6x ?_);(· omega)) |((with_reducible refine z6y ?_);(· omega)) |((with_reducible refine z0h ?_);(· assumption)) |((with_reducible refine q1j ?_);(· assumption)) |((with_reducible refine z89 ?_);(· omega)) |((with_reducible refine mustP.mk ?_);(· first |omega |rfl |(dsimp only;omega))) |(with_reducible exact z9m tab_ok) |(with_reducible exact z9n tab_ok) |(with_reducible exact z7g) |(with_reducible exact z3e tab_ok) |(with_reducible exact z7h tab_ok) |((with_reducible refine z18 tab_ok ?_);(· rfl)) |(with_reducible exact z3o tab_ok (by kernel_rfl) (by decide +kernel)) |(with_reducible exact z8q tab_ok (by kernel_rfl) (by decide +kernel)) |(with_reducible exact eq27) |(with_reducible exact eq44) |(with_reducible exact eq54) |(with_reducible exact eq76) |(with_reducible exact x4m)):p:=h k
theorem flQ {p:Prop} (h:p:=by repeat (first |(with_reducible exact q1e) |(with_reducible first |refine x3g ?_ |refine q1z ?_) |((with_reducible refine q3x rfl ?_ ?_);(· rfl)) |((with_reducible refine q07 (x1x ?_) ?_ ?_);(· omega);(· rfl)) |((with_reducible refine q07 (x1x ?_) ?_ ?_);(· simp only [Int.natCast_add,Int.natCast_one,Int.natCast_ofNat] <;> omega);(· rfl)) |((with_reducible refine q07 (q1q ?_) ?_ ?_);(· first |assumption |(symm;assumption));(· rfl)))):p:=h
end Go.Proofs.Ytbkhpddodmbdoaa
namespace Go.Proofs.Ytbkhpddodmbdoaa
open Go.RowKit
set_option maxRecDepth 20000
def ints (l:List Int):List Value:=l.map (.int .i64)
theorem q5g {l:List Int} {i:Nat} {z:Int} (h:l[i]? = some z):(ints l)[i]? = some (.int .i64 z):=by simp [ints,h]
theorem x3m {l:List Int} {i:Nat} {z:Int} (h:l[i]? = some z):(ints l)[(i:Int).toNat * (⟨.int .i64,1,8,[.int .i64 0]⟩:TI).size]? = some (.int .i64 z):=by
  rw [Int.toNat_natCast,Nat.mul_one];exact q5g h
theorem x15 {l:List Int} {i:Nat} {z:Int} (h:l[i+1]? = some z):(ints l)[((i:Int)+1).toNat * (⟨.int .i64,1,8,[.int .i64 0]⟩:TI).size]? = some (.int .i64 z):=by
  rw [show ((i:Int)+1).toNat=i+1 by omega,Nat.mul_one];exact q5g h
theorem q38 (l:List Int):(ints l).length=l.length:=by simp [ints]
theorem x41 {l:List Int} {x:Int} {i:Nat} (hi:i≤l.length) (a:Value):((((ints l++[a]).take (i+1)++ints (l.drop i)++(ints l++[a]).drop (i+1+(ints (l.drop i)).length)).take i++[.int .i64 x]++((ints l++[a]).take (i+1)++ints (l.drop i)++(ints l++[a]).drop (i+1+(ints (l.drop i)).length)).drop (i+1)))=ints (l.take i++x::l.drop i):=by
  have e1:(ints l++[a]).drop (i+1+(ints (l.drop i)).length)=[]:=by
    apply List.drop_eq_nil_of_le;simp [ints];omega
  rw [e1,List.append_nil]
  have e2:((ints l++[a]).take (i+1)).length=i+1:=by simp [ints];omega
  rw [List.take_append_of_le_length (by omega),List.drop_append_of_le_length (by omega),List.drop_of_length_le (by omega)]
  rw [List.take_take,show min i (i+1)=i by omega,List.take_append_of_le_length (by simp [ints];omega)]
  simp [ints]
theorem z5r {l:List Int} {i j:Nat} {v:Value} {r:List Value} (h:(ints (l.drop i))[j]? = some v):(ints l++r)[(i:Int).toNat * 1+j]? = some v:=by
  have hj:=(List.getElem?_eq_some_iff.1 h).1
  simp only [q38,List.length_drop] at hj
  rw [List.getElem?_append_left (by simp [q38];omega)]
  simp only [ints,List.getElem?_map,List.getElem?_drop] at h ⊢
  rw [← h];congr 2;omega
theorem z5s {l:List Int}:∀ v∈ints l,v.oneCell'=true:=fun v hv=>by
  simp only [ints,List.mem_map] at hv
  obtain ⟨z,_,rfl⟩:=hv;rfl
theorem z7u {l:List Int} {i:Nat} {x:Int} (hi:i≤l.length):(i:Int).toNat * 1+[Value.int .i64 x].length≤((ints l++[Value.int .i64 0]).take (((i:Int)+1).toNat * 1)++ints (l.drop i)++(ints l++[Value.int .i64 0]).drop (((i:Int)+1).toNat * 1+(ints (l.drop i)).length)).length:=by
  simp only [List.length_append,List.length_take,List.length_drop,q38,List.length_singleton];omega
theorem z9q {l:List Int} {i:Nat} {x:Int} (hi:i≤l.length) (hins:ins x l=l.take i++x::l.drop i) :
    Blk.own 3 1 (l.length+1) (((ints l++[Value.int .i64 0]).take (((i:Int)+1).toNat * 1)++ints (l.drop i)++(ints l++[Value.int .i64 0]).drop (((i:Int)+1).toNat * 1+(ints (l.drop i)).length)).take ((i:Int).toNat * 1)++[.int .i64 x]++((ints l++[Value.int .i64 0]).take (((i:Int)+1).toNat * 1)++ints (l.drop i)++(ints l++[Value.int .i64 0]).drop (((i:Int)+1).toNat * 1+(ints (l.drop i)).length)).drop ((i:Int).toNat * 1+[Value.int .i64 x].length)) =
      .own 3 1 (ins x l).length (ints (ins x l)):=by
  rw [show (((i:Int)+1).toNat * 1)=i+1 by omega,show ((i:Int).toNat * 1)=i by omega,List.length_singleton,x41 hi,hins]
  have e:l.length+1=(l.take i++x::l.drop i).length:=by simp;omega
  rw [e]
theorem x42 (x:Int) (l:List Int):0<(ins x l).length:=by
  cases l with
  | nil=>simp [ins]
  | cons a l=>unfold ins;split <;> (try split) <;> simp
set_option maxHeartbeats 1000000 in
theorem q2w (l:List Int) (x:Int) (G:Mem) (hl:l.length≤4000000000):z1s Try.prog 46 [.val (.int .i64 x)] G 3 1 l.length (ints l) (ins x l).length (ints (ins x l)):=by
  refine z7r tab_ok Try.func46 (x42 x l) fun G' _=>?_
  (repeat ((try (conv=>whnf));(refine stQ ?_)))
  conv=>whnf
  refine q05 tab_ok (fun i=>i≤l.length∧∀ (j:Nat) z,j<i→l[j]? = some z→z<x) (fun (i:Nat)=>[(5,.val (.int .i64 i))]) (fun i=>[.own 3 1 l.length (ints l)]) (fun i=>l.length-i) 0 ⟨Nat.zero_le _,fun j z hj=>by omega⟩ ?_ ?_
  · ((refine q0h ?_);(conv=>whnf);(refine q0k (by rfl) (by rfl) flQ ?_))
    exact q0e rfl rfl q0g
  · rintro i ⟨hi,hlt⟩
    rcases Nat.lt_or_ge i l.length with h1 |h1
    · obtain ⟨z,hz⟩:∃ z,l[i]? = some z:=⟨l[i],List.getElem?_eq_getElem h1⟩
      by_cases hzx:z<x
      · (repeat ((try (conv=>whnf));(refine stQ ?_)))
        conv=>whnf
        refine q0i (.int .i64 z) (by rw [Int.toNat_natCast,Nat.mul_one];exact q5g hz) ?_
        (repeat ((try (conv=>whnf));(refine stQ ?_)))
        refine ⟨i+1,⟨by omega,fun j q hj hq=>?_⟩,by omega,?_⟩
        · rcases Nat.lt_or_ge j i with h2 |h2
          · exact hlt j q h2 hq
          · have:j=i:=by omega
            subst this;rw [hz] at hq;cases hq;exact hzx
        · ((refine q0h ?_);(conv=>whnf);(refine q0k (by rfl) (by rfl) flQ ?_))
          exact q0e rfl rfl q0g
      · have hins:=z7p (x:=x) hi hlt (fun q hq=>by rw [hz] at hq;cases hq;exact hzx)
        rw [hz] at hins
        by_cases he:z=x
        · simp only [if_pos he] at hins
          (repeat ((try (conv=>whnf));(refine stQ ?_)))
          conv=>whnf
          refine q0i (.int .i64 z) (by rw [Int.toNat_natCast,Nat.mul_one];exact q5g hz) ?_
          (repeat ((try (conv=>whnf));(refine stQ ?_)))
          conv=>whnf
          refine q0i (.int .i64 z) (by rw [Int.toNat_natCast,Nat.mul_one];exact q5g hz) ?_
          (repeat ((try (conv=>whnf));(refine stQ ?_)))
          conv=>whnf
          exact ⟨0,rfl,by rw [hins];rfl⟩
        · simp only [if_neg he] at hins
          (repeat ((try (conv=>whnf));(refine stQ ?_)))
          conv=>whnf
          refine q0i (.int .i64 z) (by rw [Int.toNat_natCast,Nat.mul_one];exact q5g hz) ?_
          (repeat ((try (conv=>whnf));(refine stQ ?_)))
          conv=>whnf
          refine q0i (.int .i64 z) (by rw [Int.toNat_natCast,Nat.mul_one];exact q5g hz) ?_
          (repeat ((try (conv=>whnf));(refine stQ ?_)))
          conv=>whnf
          refine q3f (ints (l.drop i)) (by simp only [q38,List.length_drop];omega) (fun j v hj=>z5r hj) ?_
          conv=>whnf
          refine mustP.mk ⟨by simp only [q38,List.length_drop,List.length_append,List.length_singleton];omega,z5s⟩ ?_
          (repeat ((try (conv=>whnf));(refine stQ ?_)))
          conv=>whnf
          refine mustP.mk (z7u (by omega)) ?_
          (repeat ((try (conv=>whnf));(refine stQ ?_)))
          conv=>whnf
          exact ⟨2,rfl,z9q (by omega) hins⟩
    · have hins:=z7p (x:=x) hi hlt (fun q hq=>by rw [List.getElem?_eq_none (by omega)] at hq;cases hq)
      rw [List.getElem?_eq_none (by omega)] at hins
      simp only at hins
      (repeat ((try (conv=>whnf));(refine stQ ?_)))
      conv=>whnf
      refine q3f (ints (l.drop i)) (by simp only [q38,List.length_drop];omega) (fun j v hj=>z5r hj) ?_
      conv=>whnf
      refine mustP.mk ⟨by simp only [q38,List.length_drop,List.length_append,List.length_singleton];omega,z5s⟩ ?_
      (repeat ((try (conv=>whnf));(refine stQ ?_)))
      conv=>whnf
      refine mustP.mk (z7u (by omega)) ?_
      (repeat ((try (conv=>whnf));(refine stQ ?_)))
      conv=>whnf
      exact ⟨2,rfl,z9q (by omega) (by rw [hins,List.take_of_length_le (by omega),List.drop_of_length_le (by omega)])⟩
end Go.Proofs.Ytbkhpddodmbdoaa
namespace Go.Proofs.Ytbkhpddodmbdoaa
open Go.RowKit
set_option maxRecDepth 20000
def q0o (L:List Run):List Value:=L.flatMap fun r=>[.int .i64 r.y,.int .i64 r.x0,.int .i64 r.x1]
theorem q0x (K L:List Run):q0o (K++L)=q0o K++q0o L:=by simp [q0o]
theorem q3p (r:Run):q0o [r]=[.int .i64 r.y,.int .i64 r.x0,.int .i64 r.x1]:=by simp [q0o]
theorem q1c:∀ (L:List Run),(q0o L).length=L.length*3
  | []=>rfl
  | r::L=>by
    have:=q1c L
    show (q0o ([r]++L)).length=_
    rw [q0x,List.length_append,this,q3p];simp;omega
theorem q3q {L:List Run} {i:Nat} {r:Run} (h:L[i]? = some r):(q0o L)[i*3]? = some (.int .i64 r.y)∧(q0o L)[i*3+1]? = some (.int .i64 r.x0)∧(q0o L)[i*3+2]? = some (.int .i64 r.x1):=by
  obtain ⟨h1,rfl⟩:=List.getElem?_eq_some_iff.1 h
  have e:L=L.take i++([L[i]]++L.drop (i+1)):=by simp
  have hl:(q0o (L.take i)).length=i*3:=by rw [q1c,List.length_take];congr 1;omega
  have key:∀ j,j<3→(q0o L)[i*3+j]? = [Value.int .i64 L[i].y,.int .i64 L[i].x0,.int .i64 L[i].x1][j]?:=fun j hj=>by
    conv=>lhs;rw [e,q0x,q0x,q3p]
    rw [List.getElem?_append_right (by omega),hl,show i*3+j-i*3=j by omega,List.getElem?_append_left (by simp;omega)]
  exact ⟨key 0 (by omega),key 1 (by omega),key 2 (by omega)⟩
theorem z3x {L:List Run}:∀ v∈q0o L,v.oneCell'=true:=fun v hv=>by
  simp only [q0o,List.mem_flatMap,List.mem_cons,List.not_mem_nil,or_false] at hv
  obtain ⟨r,_,rfl |rfl |rfl⟩:=hv <;> rfl
def q49 (L:List Run) (y a b:Int):List Run :=
  match L.getLast? with
  | some r=>if r.y=y∧r.x1=a then L.dropLast++[⟨y,r.x0,b⟩] else L++[⟨y,a,b⟩]
  | none=>[⟨y,a,b⟩]
theorem z03 {y a b:Int}:q49 [] y a b=[⟨y,a,b⟩]:=by simp [q49]
theorem q90 {L:List Run} {r:Run} {y a b:Int} (h1:r.y=y) (h2:r.x1=a):q49 (L++[r]) y a b=L++[⟨y,r.x0,b⟩]:=by simp [q49,h1,h2]
theorem q82 {L:List Run} {r:Run} {y a b:Int} (h1:¬ (r.y=y∧r.x1=a)):q49 (L++[r]) y a b=L++[r]++[⟨y,a,b⟩]:=by
  unfold q49
  have e:(L++[r]).getLast? = some r:=by simp
  rw [e]
  simp only [if_neg h1]
theorem x16 (L:List Run) (y a b:Int):0<(q49 L y a b).length:=by
  rcases q2r L with rfl |⟨K,r,rfl⟩
  · simp [z03]
  · by_cases h:r.y=y∧r.x1=a
    · rw [q90 h.1 h.2];simp
    · rw [q82 h];simp
theorem x17 {L:List Run} {y a b:Int} (hu:upTo L y a) (h:a<b):q49 L y a b=addR L y a b:=by
  rcases q2r L with rfl |⟨K,r,rfl⟩
  · rw [z03,q2m (by omega)]
  · have hr:=hu r (by simp)
    by_cases h1:r.y=y∧a≤r.x1
    · rw [q1r (by omega) h1.1 h1.2,q90 h1.1 (by omega)]
      have:max r.x1 b=b:=by omega
      rw [this]
    · rw [q1o (by omega) h1,q82 (by omega)]
theorem q4n (K:List Run) (r:Run):(q0o (K++[r]))[K.length*3]? = some (.int .i64 r.y)∧(q0o (K++[r]))[K.length*3+1]? = some (.int .i64 r.x0)∧(q0o (K++[r]))[K.length*3+2]? = some (.int .i64 r.x1) :=
  q3q (by simp)
theorem q53 (K:List Run) (r:Run) (b:Int):(q0o (K++[r])).take (K.length*3+2)++[.int .i64 b]++(q0o (K++[r])).drop (K.length*3+2+1)=q0o (K++[⟨r.y,r.x0,b⟩]):=by
  have hl:=q1c K
  rw [q0x,q0x,q3p,q3p,List.take_append,List.drop_append,hl]
  rw [List.take_of_length_le (by omega),List.drop_of_length_le (by omega)]
  simp [show K.length*3+2-K.length*3=2 by omega,show K.length*3+2+1-K.length*3=3 by omega]
theorem x43 (K:List Run) (r:Run):(((K++[r]).length:Nat):Int)-1=(K.length:Int):=by simp
theorem x3n {K:List Run} {r:Run} {y a b:Int} (h1:r.y=y) (h2:r.x1=a) :
    Blk.own 54 3 (K++[r]).length ((q0o (K++[r])).take (((((K++[r]).length:Nat):Int)-1).toNat * 3+2)++[.int .i64 b]++(q0o (K++[r])).drop (((((K++[r]).length:Nat):Int)-1).toNat * 3+2+[Value.int .i64 b].length)) =
      .own 54 3 (q49 (K++[r]) y a b).length (q0o (q49 (K++[r]) y a b)):=by
  rw [q90 h1 h2,← h1,x43,Int.toNat_natCast,List.length_singleton,q53 K r b]
  rw [show (K++[(⟨r.y,r.x0,b⟩:Run)]).length=(K++[r]).length by simp]
set_option maxHeartbeats 1000000 in
theorem z04 (L:List Run) (y a b:Int) (G:Mem) (hl:L.length≤1000000000000):z1s Try.prog 32 [.val (.int .i64 y),.val (.int .i64 a),.val (.int .i64 b)] G 54 3 L.length (q0o L) (q49 L y a b).length (q0o (q49 L y a b)):=by
  refine z7r tab_ok Try.func32 (x16 L y a b) fun G' _=>?_
  rcases q2r L with rfl |⟨K,r,rfl⟩
  · simp only [List.length_nil,show q0o []=[] from rfl]
    (repeat ((try (conv=>whnf));(refine stQ ?_)))
    conv=>whnf
    exact ⟨2,rfl,by rw [z03];rfl⟩
  · obtain ⟨c0,c1,c2⟩:=q4n K r
    have hkl:((K++[r]).length:Int)=K.length+1:=by simp
    have ei:((((K++[r]).length:Nat):Int)-1).toNat=K.length:=by omega
    by_cases h1:r.y=y
    · by_cases h2:r.x1=a
      · (repeat ((try (conv=>whnf));(refine stQ ?_)))
        conv=>whnf
        refine q0i (.int .i64 r.y) (by rw [ei];exact c0) ?_
        (repeat ((try (conv=>whnf));(refine stQ ?_)))
        conv=>whnf
        refine q0i (.int .i64 r.x1) (by rw [ei];exact c2) ?_
        (repeat ((try (conv=>whnf));(refine stQ ?_)))
        conv=>whnf
        refine mustP.mk (by rw [ei,q1c];simp;omega) ?_
        (repeat ((try (conv=>whnf));(refine stQ ?_)))
        conv=>whnf
        exact ⟨0,rfl,x3n h1 h2⟩
      · (repeat ((try (conv=>whnf));(refine stQ ?_)))
        conv=>whnf
        refine q0i (.int .i64 r.y) (by rw [ei];exact c0) ?_
        (repeat ((try (conv=>whnf));(refine stQ ?_)))
        conv=>whnf
        refine q0i (.int .i64 r.x1) (by rw [ei];exact c2) ?_
        (repeat ((try (conv=>whnf));(refine stQ ?_)))
        conv=>whnf
        refine ⟨2,rfl,?_⟩
        rw [q82 (by omega),q0x _ [⟨y,a,b⟩],q3p]
        rw [show (K++[r]++[(⟨y,a,b⟩:Run)]).length=(K++[r]).length+1 by simp]
        rfl
    · (repeat ((try (conv=>whnf));(refine stQ ?_)))
      conv=>whnf
      refine q0i (.int .i64 r.y) (by rw [ei];exact c0) ?_
      (repeat ((try (conv=>whnf));(refine stQ ?_)))
      conv=>whnf
      refine ⟨2,rfl,?_⟩
      rw [q82 (by omega),q0x _ [⟨y,a,b⟩],q3p]
      rw [show (K++[r]++[(⟨y,a,b⟩:Run)]).length=(K++[r]).length+1 by simp]
      rfl
end Go.Proofs.Ytbkhpddodmbdoaa
