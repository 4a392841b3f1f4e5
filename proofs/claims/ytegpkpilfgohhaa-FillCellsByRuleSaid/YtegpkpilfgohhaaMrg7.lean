/-
  Merged: XTab, XEw.
-/
import Derived.Test.YtegpkpilfgohhaaProg
import Derived.Test.YtegpkpilfgohhaaEng2
import Derived.Test.YtegpkpilfgohhaaFlat
set_option linter.unusedVariables false
set_option linter.unusedSimpArgs false
set_option linter.unnecessarySimpa false
namespace Go.Proofs.Ytegpkpilfgohhaa
open Go.RowKit
def tab:Tab:=[
  (1,⟨.fn,1,8,[.nilFunc]⟩),
  (2,⟨.int .i64,1,8,[.int .i64 0]⟩),
  (3,⟨.int .i64,1,8,[.int .i64 0]⟩),
  (4,⟨.bool,1,1,[.bool false]⟩),
  (5,⟨.int .u8,1,1,[.int .u8 0]⟩),
  (9,⟨.str,1,16,[.string ByteArray.empty]⟩),
  (12,⟨.int .u64,1,8,[.int .u64 0]⟩),
  (17,⟨.ptr 163,1,8,[.pointer none]⟩),
  (20,⟨.iface,1,16,[.nilIface]⟩),
  (21,⟨.int .i32,1,4,[.int .i32 0]⟩),
  (22,⟨.slice 35,1,24,[.slice none 0 0]⟩),
  (23,⟨.fn,1,8,[.nilFunc]⟩),
  (24,⟨.fn,1,8,[.nilFunc]⟩),
  (25,⟨.slice 60,1,24,[.slice none 0 0]⟩),
  (26,⟨.int .i64,1,8,[.int .i64 0]⟩),
  (28,⟨.fn,1,8,[.nilFunc]⟩),
  (29,⟨.fn,1,8,[.nilFunc]⟩),
  (30,⟨.fn,1,8,[.nilFunc]⟩),
  (31,⟨.fn,1,8,[.nilFunc]⟩),
  (32,⟨.fn,1,8,[.nilFunc]⟩),
  (33,⟨.slice 58,1,24,[.slice none 0 0]⟩),
  (34,⟨.strct [(0,33),(1,4)],2,32,[.slice none 0 0,.bool false]⟩),
  (35,⟨.strct [(0,33),(1,4)],2,32,[.slice none 0 0,.bool false]⟩),
  (36,⟨.strct [(0,3),(1,3),(2,3),(3,3)],4,32,[.int .i64 0,.int .i64 0,.int .i64 0,.int .i64 0]⟩),
  (37,⟨.strct [(0,3),(1,3),(2,3),(3,3)],4,32,[.int .i64 0,.int .i64 0,.int .i64 0,.int .i64 0]⟩),
  (39,⟨.fn,1,8,[.nilFunc]⟩),
  (40,⟨.fn,1,8,[.nilFunc]⟩),
  (42,⟨.fn,1,8,[.nilFunc]⟩),
  (44,⟨.fn,1,8,[.nilFunc]⟩),
  (45,⟨.fn,1,8,[.nilFunc]⟩),
  (46,⟨.fn,1,8,[.nilFunc]⟩),
  (47,⟨.fn,1,8,[.nilFunc]⟩),
  (49,⟨.fn,1,8,[.nilFunc]⟩),
  (50,⟨.fn,1,8,[.nilFunc]⟩),
  (51,⟨.fn,1,8,[.nilFunc]⟩),
  (52,⟨.fn,1,8,[.nilFunc]⟩),
  (53,⟨.fn,1,8,[.nilFunc]⟩),
  (54,⟨.slice 86,1,24,[.slice none 0 0]⟩),
  (55,⟨.fn,1,8,[.nilFunc]⟩),
  (56,⟨.fn,1,8,[.nilFunc]⟩),
  (57,⟨.strct [(0,3),(1,3)],2,16,[.int .i64 0,.int .i64 0]⟩),
  (58,⟨.strct [(0,3),(1,3)],2,16,[.int .i64 0,.int .i64 0]⟩),
  (59,⟨.strct [(0,3),(1,3),(2,3)],3,24,[.int .i64 0,.int .i64 0,.int .i64 0]⟩),
  (60,⟨.strct [(0,3),(1,3),(2,3)],3,24,[.int .i64 0,.int .i64 0,.int .i64 0]⟩),
  (61,⟨.fn,1,8,[.nilFunc]⟩),
  (63,⟨.fn,1,8,[.nilFunc]⟩),
  (64,⟨.fn,1,8,[.nilFunc]⟩),
  (65,⟨.ptr 69,1,8,[.pointer none]⟩),
  (67,⟨.fn,1,8,[.nilFunc]⟩),
  (68,⟨.strct [(0,37),(4,22),(5,33)],6,80,[.int .i64 0,.int .i64 0,.int .i64 0,.int .i64 0,.slice none 0 0,.slice none 0 0]⟩),
  (69,⟨.strct [(0,37),(4,22),(5,33)],6,80,[.int .i64 0,.int .i64 0,.int .i64 0,.int .i64 0,.slice none 0 0,.slice none 0 0]⟩),
  (70,⟨.fn,1,8,[.nilFunc]⟩),
  (71,⟨.fn,1,8,[.nilFunc]⟩),
  (72,⟨.fn,1,8,[.nilFunc]⟩),
  (73,⟨.fn,1,8,[.nilFunc]⟩),
  (75,⟨.fn,1,8,[.nilFunc]⟩),
  (76,⟨.fn,1,8,[.nilFunc]⟩),
  (78,⟨.fn,1,8,[.nilFunc]⟩),
  (79,⟨.fn,1,8,[.nilFunc]⟩),
  (80,⟨.slice 83,1,24,[.slice none 0 0]⟩),
  (81,⟨.fn,1,8,[.nilFunc]⟩),
  (82,⟨.strct [(0,3),(1,3)],2,16,[.int .i64 0,.int .i64 0]⟩),
  (83,⟨.strct [(0,3),(1,3)],2,16,[.int .i64 0,.int .i64 0]⟩),
  (84,⟨.fn,1,8,[.nilFunc]⟩),
  (85,⟨.strct [(0,3),(1,3),(2,3),(3,3),(4,3),(5,3)],6,48,[.int .i64 0,.int .i64 0,.int .i64 0,.int .i64 0,.int .i64 0,.int .i64 0]⟩),
  (86,⟨.strct [(0,3),(1,3),(2,3),(3,3),(4,3),(5,3)],6,48,[.int .i64 0,.int .i64 0,.int .i64 0,.int .i64 0,.int .i64 0,.int .i64 0]⟩),
  (87,⟨.fn,1,8,[.nilFunc]⟩),
  (88,⟨.strct [(0,25)],1,24,[.slice none 0 0]⟩),
  (89,⟨.strct [(0,25)],1,24,[.slice none 0 0]⟩),
  (90,⟨.fn,1,8,[.nilFunc]⟩),
  (91,⟨.fn,1,8,[.nilFunc]⟩),
  (92,⟨.fn,1,8,[.nilFunc]⟩),
  (93,⟨.slice 3,1,24,[.slice none 0 0]⟩),
  (95,⟨.fn,1,8,[.nilFunc]⟩),
  (96,⟨.fn,1,8,[.nilFunc]⟩),
  (97,⟨.fn,1,8,[.nilFunc]⟩),
  (98,⟨.fn,1,8,[.nilFunc]⟩),
  (99,⟨.fn,1,8,[.nilFunc]⟩),
  (100,⟨.fn,1,8,[.nilFunc]⟩),
  (101,⟨.fn,1,8,[.nilFunc]⟩),
  (102,⟨.fn,1,8,[.nilFunc]⟩),
  (103,⟨.fn,1,8,[.nilFunc]⟩),
  (104,⟨.fn,1,8,[.nilFunc]⟩),
  (105,⟨.fn,1,8,[.nilFunc]⟩),
  (106,⟨.ptr 89,1,8,[.pointer none]⟩),
  (107,⟨.slice 111,1,24,[.slice none 0 0]⟩),
  (108,⟨.fn,1,8,[.nilFunc]⟩),
  (109,⟨.fn,1,8,[.nilFunc]⟩),
  (110,⟨.strct [(0,58)],2,16,[.int .i64 0,.int .i64 0]⟩),
  (111,⟨.strct [(0,58)],2,16,[.int .i64 0,.int .i64 0]⟩),
  (112,⟨.slice 114,1,24,[.slice none 0 0]⟩),
  (113,⟨.strct [(0,111),(2,111),(4,111),(6,111),(8,111)],10,80,[.int .i64 0,.int .i64 0,.int .i64 0,.int .i64 0,.int .i64 0,.int .i64 0,.int .i64 0,.int .i64 0,.int .i64 0,.int .i64 0]⟩),
  (114,⟨.strct [(0,111),(2,111),(4,111),(6,111),(8,111)],10,80,[.int .i64 0,.int .i64 0,.int .i64 0,.int .i64 0,.int .i64 0,.int .i64 0,.int .i64 0,.int .i64 0,.int .i64 0,.int .i64 0]⟩),
  (115,⟨.fn,1,8,[.nilFunc]⟩),
  (116,⟨.fn,1,8,[.nilFunc]⟩),
  (117,⟨.fn,1,8,[.nilFunc]⟩),
  (118,⟨.fn,1,8,[.nilFunc]⟩),
  (119,⟨.fn,1,8,[.nilFunc]⟩),
  (120,⟨.fn,1,8,[.nilFunc]⟩),
  (121,⟨.fn,1,8,[.nilFunc]⟩),
  (122,⟨.int .u64,1,8,[.int .u64 0]⟩),
  (123,⟨.fn,1,8,[.nilFunc]⟩),
  (124,⟨.fn,1,8,[.nilFunc]⟩),
  (125,⟨.fn,1,8,[.nilFunc]⟩),
  (126,⟨.fn,1,8,[.nilFunc]⟩),
  (127,⟨.fn,1,8,[.nilFunc]⟩),
  (128,⟨.fn,1,8,[.nilFunc]⟩),
  (129,⟨.int .i64,1,8,[.int .i64 0]⟩),
  (131,⟨.fn,1,8,[.nilFunc]⟩),
  (132,⟨.fn,1,8,[.nilFunc]⟩),
  (133,⟨.fn,1,8,[.nilFunc]⟩),
  (135,⟨.fn,1,8,[.nilFunc]⟩),
  (136,⟨.fn,1,8,[.nilFunc]⟩),
  (137,⟨.int .u32,1,4,[.int .u32 0]⟩),
  (138,⟨.fn,1,8,[.nilFunc]⟩),
  (139,⟨.int .u64,1,8,[.int .u64 0]⟩),
  (141,⟨.fn,1,8,[.nilFunc]⟩),
  (142,⟨.fn,1,8,[.nilFunc]⟩),
  (143,⟨.fn,1,8,[.nilFunc]⟩),
  (144,⟨.ptr 3,1,8,[.pointer none]⟩),
  (145,⟨.fn,1,8,[.nilFunc]⟩),
  (148,⟨.fn,1,8,[.nilFunc]⟩),
  (149,⟨.fn,1,8,[.nilFunc]⟩),
  (155,⟨.fn,1,8,[.nilFunc]⟩),
  (158,⟨.fn,1,8,[.nilFunc]⟩),
  (159,⟨.ptr 5,1,8,[.pointer none]⟩),
  (162,⟨.strct [(0,12),(1,12),(2,137),(3,156),(4,5),(5,5),(6,157),(7,158),(8,159),(9,160),(10,161)],11,48,[.int .u64 0,.int .u64 0,.int .u32 0,.int .u8 0,.int .u8 0,.int .u8 0,.int .u8 0,.nilFunc,.pointer none,.int .i32 0,.int .i32 0]⟩)]
set_option maxRecDepth 100000 in
theorem tab_ok:TOk Try.prog tab:=by unfold TOk;kernel_rfl
theorem eq37 {x y:Operand} {l m:List AV} {K:Bool→Prop} (h:q09 l fun xs=>q09 m fun ys=>q0k (q0o [.int .i64,.int .i64,.int .i64,.int .i64] xs) (q0k (q0o [.int .i64,.int .i64,.int .i64,.int .i64] ys) (q2m xs ys K))):EqP Try.prog 37 x y (.agg l) (.agg m) K:=q4u (ks:=[.int .i64,.int .i64,.int .i64,.int .i64]) (by kernel_rfl) (by kernel_rfl) (by kernel_rfl) h
theorem eq58 {x y:Operand} {l m:List AV} {K:Bool→Prop} (h:q09 l fun xs=>q09 m fun ys=>q0k (q0o [.int .i64,.int .i64] xs) (q0k (q0o [.int .i64,.int .i64] ys) (q2m xs ys K))):EqP Try.prog 58 x y (.agg l) (.agg m) K:=q4u (ks:=[.int .i64,.int .i64]) (by kernel_rfl) (by kernel_rfl) (by kernel_rfl) h
theorem eq60 {x y:Operand} {l m:List AV} {K:Bool→Prop} (h:q09 l fun xs=>q09 m fun ys=>q0k (q0o [.int .i64,.int .i64,.int .i64] xs) (q0k (q0o [.int .i64,.int .i64,.int .i64] ys) (q2m xs ys K))):EqP Try.prog 60 x y (.agg l) (.agg m) K:=q4u (ks:=[.int .i64,.int .i64,.int .i64]) (by kernel_rfl) (by kernel_rfl) (by kernel_rfl) h
theorem eq83 {x y:Operand} {l m:List AV} {K:Bool→Prop} (h:q09 l fun xs=>q09 m fun ys=>q0k (q0o [.int .i64,.int .i64] xs) (q0k (q0o [.int .i64,.int .i64] ys) (q2m xs ys K))):EqP Try.prog 83 x y (.agg l) (.agg m) K:=q4u (ks:=[.int .i64,.int .i64]) (by kernel_rfl) (by kernel_rfl) (by kernel_rfl) h
theorem eq86 {x y:Operand} {l m:List AV} {K:Bool→Prop} (h:q09 l fun xs=>q09 m fun ys=>q0k (q0o [.int .i64,.int .i64,.int .i64,.int .i64,.int .i64,.int .i64] xs) (q0k (q0o [.int .i64,.int .i64,.int .i64,.int .i64,.int .i64,.int .i64] ys) (q2m xs ys K))):EqP Try.prog 86 x y (.agg l) (.agg m) K:=q4u (ks:=[.int .i64,.int .i64,.int .i64,.int .i64,.int .i64,.int .i64]) (by kernel_rfl) (by kernel_rfl) (by kernel_rfl) h
theorem z9h {x y:Operand} {l m:List AV} {K:Bool→Prop} (h:q09 l fun xs=>q09 m fun ys=>q0k (q0o [.int .i64,.int .i64] xs) (q0k (q0o [.int .i64,.int .i64] ys) (q2m xs ys K))):EqP Try.prog 111 x y (.agg l) (.agg m) K:=q4u (ks:=[.int .i64,.int .i64]) (by kernel_rfl) (by kernel_rfl) (by kernel_rfl) h
theorem z9i {x y:Operand} {l m:List AV} {K:Bool→Prop} (h:q09 l fun xs=>q09 m fun ys=>q0k (q0o [.int .i64,.int .i64,.int .i64,.int .i64,.int .i64,.int .i64,.int .i64,.int .i64,.int .i64,.int .i64] xs) (q0k (q0o [.int .i64,.int .i64,.int .i64,.int .i64,.int .i64,.int .i64,.int .i64,.int .i64,.int .i64,.int .i64] ys) (q2m xs ys K))):EqP Try.prog 114 x y (.agg l) (.agg m) K:=q4u (ks:=[.int .i64,.int .i64,.int .i64,.int .i64,.int .i64,.int .i64,.int .i64,.int .i64,.int .i64,.int .i64]) (by kernel_rfl) (by kernel_rfl) (by kernel_rfl) h
theorem stQ {p q:Prop} (k:q) (h:q→p:=by first |(with_reducible exact q7m) |(with_reducible exact q6x) |(with_reducible exact z2s) |(with_reducible exact z2t) |((with_reducible refine q9t ?_);(· omega)) |((with_reducible refine q9u ?_);(· omega)) |((with_reducible refine q8d ?_);(· assumption)) |((with_reducible refine q9s ?_);(· assumption)) |((with_reducible refine z5s ?_);(· omega)) |((with_reducible refine mustP.mk ?_);(· first |omega |rfl |(dsimp only;omega))) |(with_reducible exact z57 tab_ok) |(with_reducible exact z58 tab_ok) |(with_reducible exact z4b) |(with_reducible exact z0n tab_ok) |(with_reducible exact z4c tab_ok) |((with_reducible refine q9g tab_ok ?_);(· rfl)) |(with_reducible exact z0w tab_ok (by kernel_rfl) (by decide +kernel)) |(with_reducible exact q9i tab_ok (by kernel_rfl) (by decide +kernel)) |(with_reducible exact eq37) |(with_reducible exact eq58) |(with_reducible exact eq60) |(with_reducible exact eq83) |(with_reducible exact eq86) |(with_reducible exact z9h) |(with_reducible exact z9i)):p:=h k
theorem scQ {p q:Prop} (k:q) (h:q→p:=by first |(with_reducible exact q7m) |(with_reducible exact q6x) |(with_reducible exact z2s) |(with_reducible exact z2t) |((with_reducible refine q9t ?_);(· omega)) |((with_reducible refine q9u ?_);(· omega)) |((with_reducible refine q8d ?_);(· assumption)) |((with_reducible refine q9s ?_);(· assumption)) |((with_reducible refine z5s ?_);(· omega)) |((with_reducible refine mustP.mk ?_);(· first |omega |rfl |(dsimp only;omega))) |(with_reducible exact z57 tab_ok) |(with_reducible exact z58 tab_ok) |(with_reducible exact z4b) |(with_reducible exact z0n tab_ok) |(with_reducible exact z4c tab_ok) |((with_reducible refine q9g tab_ok ?_);(· rfl)) |(with_reducible exact z0w tab_ok (by kernel_rfl) (by decide +kernel)) |(with_reducible exact q9i tab_ok (by kernel_rfl) (by decide +kernel)) |(with_reducible exact eq37) |(with_reducible exact eq58) |(with_reducible exact eq60) |(with_reducible exact eq83) |(with_reducible exact eq86) |(with_reducible exact z9h) |(with_reducible exact z9i) |(with_reducible exact z4i) |(with_reducible exact q2o tab_ok) |((with_reducible refine q9t ?_);(· decide)) |((with_reducible refine q9u ?_);(· decide)) |((with_reducible refine x0e ?_);(· decide)) |((with_reducible refine mustP.mk ?_);(· decide)) |((with_reducible refine isP.mk 0 ?_);(· decide +kernel)) |((with_reducible refine isP.mk 1 ?_);(· decide +kernel)) |(with_reducible exact isP.mk _ (by exact rfl)) |(with_reducible exact z7z (by kernel_rfl))):p:=h k
theorem flQ {p:Prop} (h:p:=by repeat (first |(with_reducible exact q2r) |(with_reducible first |refine q4t ?_ |refine z8w ?_) |((with_reducible refine q7a rfl ?_ ?_);(· rfl)) |((with_reducible refine q5b (z7w ?_) ?_ ?_);(· omega);(· rfl)) |((with_reducible refine q5b (z7w ?_) ?_ ?_);(· simp only [Int.natCast_add,Int.natCast_one,Int.natCast_ofNat] <;> omega);(· rfl)) |((with_reducible refine q5b (z9u ?_) ?_ ?_);(· first |assumption |(symm;assumption));(· rfl)))):p:=h
end Go.Proofs.Ytegpkpilfgohhaa
namespace Go.Proofs.Ytegpkpilfgohhaa
open Go.RowKit
theorem z12 {w w':World} (h:(q5m w).holds w'):Below w.heap.size {w' with heap:=w.heap} w':=by
  refine ⟨rfl,rfl,rfl,?_,fun k hk=>?_⟩
  · rcases Nat.eq_zero_or_pos w.heap.size with h0 |h0
    · show w.heap.size≤_;omega
    · have hk:w.heap.size-1<w.heap.size:=by omega
      have h1:=h (w.heap.size-1) _ (Array.getElem?_eq_getElem hk)
      have h2:=(Array.getElem?_eq_some_iff.1 h1).1
      show w.heap.size≤_
      omega
  · have h1:=h k _ (Array.getElem?_eq_getElem hk)
    show w'.heap[k]? = w.heap[k]?
    rw [h1,Array.getElem?_eq_getElem hk]
theorem Sees.heap {P:Program} {w w':World} (hh:w'.heap=w.heap):∀ (n:Nat) (t:TypeId) (cs:List Value),Sees P w n t cs→Sees P w' n t cs
  | 0,_,_,h=>h.elim
  | n+1,t,cs,h=>by
    unfold Sees at h ⊢
    split <;> first |(rename_i ht;rw [ht] at h;simp only at h) |skip
    · exact h
    · exact h
    · exact h
    · exact ⟨h.1,fun i f hi=>Sees.heap hh n _ _ (h.2 i f hi)⟩
    · exact ⟨h.1,fun i hi=>Sees.heap hh n _ _ (h.2 i hi)⟩
    · rcases h with h |⟨a,len,cap,h1,h2,h3,h4⟩
      · exact .inl h
      · refine .inr ⟨a,len,cap,h1,h2,h3,fun i hi=>?_⟩
        obtain ⟨cs',hl,hc,hs⟩:=h4 i hi
        refine ⟨cs',hl,fun j hj=>?_,Sees.heap hh n _ _ hs⟩
        rw [← hc j hj]
        simp only [World.cell?,hh]
    · trivial
theorem SliceG.holds {P:Program} {w w':World} {e:TypeId} {A:Option Addr} {n:Nat} {g:Nat→Nat→Value} (h:SliceG P w e A n g) (hb:(q5m w).holds w'):SliceG P w' e A n g:=by
  have h1:SliceG P {w' with heap:=w.heap} e A n g:=by
    intro hn
    obtain ⟨b,off,hA,hlt,hc⟩:=h hn
    refine ⟨b,off,hA,hlt,fun x hx=>⟨(hc x hx).1,?_⟩⟩
    obtain ⟨m,hm⟩:=(hc x hx).2
    exact ⟨m,Sees.heap (w:=w) (w':={w' with heap:=w.heap}) rfl _ _ _ hm⟩
  exact h1.below (z12 hb)
theorem z90 {P:Program} {T:Tab} (hT:TOk P T) {f:FuncId} {fn:Func} (hfn:P.funcs[f]? = some fn) {avs:List AV} {args:Array Value} {w:World} (ha:AV.rels noName avs args.toList)
    (h:q40 P T 0 fn avs [] (q5m w) fun v _ _=>v=.val (.bool true)):Calls P f args w fun e w'=>e=.returned (.bool true)∧Below w.heap.size w w':=by
  refine (q5h hT hfn ha (z5e w) h (fun _ _ _ _ _ h=>h)).mono ?_
  rintro e w' ⟨y,β',v,hp',G',h1,h2,h3,rfl⟩
  simp only [AV.rel] at h3
  subst h3
  exact ⟨h1,h2.below⟩
theorem q2j {P:Program} {f:FuncId} (hen:∀ vs w,(callFunc f vs).run P w=.ok (.enter f vs) w) {args:List AV} {hp:List Blk} {G:Mem} {K:AV→List Blk→Mem→Prop} {wrap:AV→AV} (hwr:Wraps wrap) {E:TypeId} {sz n:Nat} {xs:List Value} (hu:AV.unders 0 args=true)
    (hc:q6o P f args G wrap E sz n xs) (h:∀ A cap G',G.le G'→n≤cap→cap≤maxLen→(xs=[]∨∃ b,A=some ⟨b,0,none⟩∧∀ (j:Nat) u,xs[j]? = some u→G'.cell? ⟨b,j,none⟩=some u)→K (wrap (.val (.slice A n cap))) hp G'):CallP P f args hp G K:=by
  refine ⟨hen,fun w0 G0 β w vs hr ha=>(hc w vs hr.hold (q34 hu ha)).mono ?_⟩
  rintro e w' ⟨y,s,rfl,h2,h3,h4⟩
  have hr':=hr.step h4
  have hv:∀ s':Value,(AV.val s').rel β s':=fun s'=>by simp only [AV.rel]
  rcases h3.2 with ⟨rfl,h5⟩ |⟨g,cap,cur,rfl,h5,h6,h7,h8,h9,h10⟩
  · have h0:=h none 0 G (Mem.le_refl _) (by omega) (Nat.zero_le _) (.inl (by have:=h3.1;rw [h5] at this;simpa using this))
    subst h5
    exact ⟨y,β,_,hp,G,rfl,Nm.le_refl _,hr',hwr.rel (hv _) h2,h0⟩
  · have hcell:∀ (j:Nat) u,xs[j]? = some u→(G.and w' g).cell? ⟨g,j,none⟩=some u:=fun j u hj=>by
      have h11:(G.and w' g) g=some (.cells cur E (0,0)):=by simp [Mem.and,h6]
      unfold Mem.cell?
      rw [h11]
      rw [← h10] at hj
      rw [List.getElem?_take] at hj
      split at hj
      · simpa using hj
      · cases hj
    have h0:=h (some ⟨g,0,none⟩) cap (G.and w' g) (Mem.le_and hr'.hold g) h7 h8 (.inr ⟨g,rfl,hcell⟩)
    refine ⟨y,β,_,hp,G.and w' g,rfl,Nm.le_refl _,⟨hr'.below,Mem.and_holds hr'.hold g,Mem.le_trans hr'.sub (Mem.le_and hr'.hold g),fun b o hb=>?_,fun k z hk=>?_,hr'.inj,hr'.wrt⟩,hwr.rel (hv _) h2,h0⟩
    · unfold Mem.and at hb
      split at hb
      · rename_i e1;subst e1
        right
        exact Nat.le_trans hr.below.size h5
      · exact hr'.grow b o hb
    · obtain ⟨x,hx1,hx2⟩:=hr.blk k z hk
      obtain ⟨x',hx1',hx2'⟩:=hr'.blk k z hk
      rw [hx1] at hx1';cases hx1'
      refine ⟨x,hx1,?_⟩
      have hne:∀ b,x.live=true→q0c z=some b→b≠g:=fun b hl hb=>by
        have:=(hr.lt hk hx1 hl hb).2.1
        omega
      cases x with
      | gone=>trivial
      | muts S=>exact hx2'.elim
      | cells t l =>
        obtain ⟨b,c,q1,q2,q3,q4,q5⟩:=hx2'
        refine ⟨b,c,q1,q2,?_,q4,q5⟩
        have:=hne b rfl (by rw [q1];rfl)
        simp [Mem.and,this,q3]
      | own e' sz' n' xs' =>
        refine ⟨hx2'.1,fun b hb=>?_⟩
        have:=hne b rfl hb
        simp [Mem.and,this,hx2'.2 b hb]
      | lp i fr st p =>
        obtain ⟨q1,q2,q3,q4⟩:=hx2'
        refine ⟨q1,q2,?_,q4⟩
        have:=hne i.l rfl (by rw [q1];rfl)
        simp [Mem.and,this,q3]
      | mp f ks vs =>
        obtain ⟨b,ys,q1,q2,q3,q4⟩:=hx2'
        refine ⟨b,ys,q1,q2,?_,q4⟩
        have:=hne b rfl (by rw [q1];rfl)
        simp [Mem.and,this,q3]
end Go.Proofs.Ytegpkpilfgohhaa
