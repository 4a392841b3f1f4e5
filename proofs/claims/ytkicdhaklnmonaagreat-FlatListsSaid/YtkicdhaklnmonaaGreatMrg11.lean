/-
  Merged: XRampAll, XRampX, XRampZ, XRootMath, XSqrt, XCoord, XPlain, XGrad.
-/
import Derived.WalkKit
import Derived.Lib.BitFns
import Derived.WalkLawsBesides
import Derived.Handy
import Derived.Test.YtkicdhaklnmonaaGreatMrg10
import Derived.Test.YtkicdhaklnmonaaGreatMrg5
import Derived.Test.YtkicdhaklnmonaaGreatShelf
import Derived.Test.YtkicdhaklnmonaaGreatProg
import Derived.Test.YtkicdhaklnmonaaGreatMrg3
import Derived.Test.YtkicdhaklnmonaaGreatMrg6
import Derived.Test.YtkicdhaklnmonaaGreatMrg9
set_option linter.unusedVariables false
set_option linter.unusedSimpArgs false
set_option linter.unnecessarySimpa false
namespace Go.Proofs.YtkicdhaklnmonaaGreat
open Go.RowKit
end Go.Proofs.YtkicdhaklnmonaaGreat
namespace Go.Proofs.YtkicdhaklnmonaaGreat
open Go.RowKit
end Go.Proofs.YtkicdhaklnmonaaGreat
namespace Go.Proofs.YtkicdhaklnmonaaGreat
open Go.RowKit
end Go.Proofs.YtkicdhaklnmonaaGreat
namespace Go.Proofs.YtkicdhaklnmonaaGreat
open Go.RowKit
end Go.Proofs.YtkicdhaklnmonaaGreat
namespace Go.Proofs.YtkicdhaklnmonaaGreat
open Go.RowKit
end Go.Proofs.YtkicdhaklnmonaaGreat
namespace Go.Proofs.YtkicdhaklnmonaaGreat
open Go.RowKit
def ptB (x y:Int):Bool:=inB x (-32767) 32767&&inB y (-32767) 32767
set_option maxHeartbeats 1000000 in
theorem z2s (x y:Int) (w:World) :
    Calls Tryz.prog 100 #[.agg #[.int .i64 x,.int .i64 y]] w fun e w'=>e=.returned (.bool (ptB x y))∧(w.alloc (.cells #[.int .i64 x,.int .i64 y] 53))=w':=by
  go_enter Tryz.func100,Tryz.ntmps100
  go_wp2_with (first |(go_at_call 11;refine (q6g _ _ _ _).mono ?_;rintro e w' ⟨rfl,rfl⟩))
  all_goals go_ret
  all_goals refine ⟨q9j ?_,rfl⟩
  all_goals (go_tidy;unfold ptB;simp [*])
end Go.Proofs.YtkicdhaklnmonaaGreat
namespace Go.Proofs.YtkicdhaklnmonaaGreat
open Go.RowKit
def q1v (W H:Int) (n m:Nat) (a b c d e f:Int) (s r:Bool):Bool :=
  W==0&&H==0&&n==0&&m==0&&(a==0&&b==0&&c==0&&d==0&&e==0&&f==0)&&!s&&!r
set_option maxHeartbeats 2000000 in
theorem z2t (W H:Int) (A B:Option Addr) (n p m q:Nat) (a b c d e f:Int) (s r:Bool) (w:World) :
    Calls Tryz.prog 134 #[.agg #[.int .i64 W,.int .i64 H,.slice A n p,.slice B m q,.int .i64 a,.int .i64 b,.int .i64 c,.int .i64 d,.int .i64 e,.int .i64 f,.bool s,.bool r]] w fun e' w'=>e'=.returned (.bool (q1v W H n m a b c d e f s r))∧Below w.heap.size w w':=by
  go_enter Tryz.func134,Tryz.ntmps134
  go_wp2_with fail
  all_goals go_ret
  all_goals exact ⟨q9j (by simp_all [q1v]),by exact blQ⟩
set_option maxHeartbeats 2000000 in
theorem q59 (W H:Int) (A B:Option Addr) (n p m q:Nat) (a b c d e f:Int) (s r:Bool) (w:World) :
    Calls Tryz.prog 77 #[.agg #[.int .i64 W,.int .i64 H,.slice A n p,.slice B m q,.int .i64 a,.int .i64 b,.int .i64 c,.int .i64 d,.int .i64 e,.int .i64 f,.bool s,.bool r]] w fun e' w'=>e'=.returned (.bool (q1v W H n m a b c d e f s r))∧Below w.heap.size w w':=by
  go_enter Tryz.func77,Tryz.ntmps77
  go_wp2_with fail
  all_goals go_ret
  all_goals exact ⟨q9j (by simp_all [q1v]),by exact blQ⟩
end Go.Proofs.YtkicdhaklnmonaaGreat
namespace Go.Proofs.YtkicdhaklnmonaaGreat
open Go.RowKit
def coG (x:Int):Bool:=inB x (-32767) 32767
theorem v05 {x:Int} (h:-32767≤x∧x≤32767):coG x=true:=inB_iff.2 h
theorem v2d {x:Int} (h:¬(-32767≤x∧x≤32767)):coG x=false:=by
  cases hc:coG x
  · rfl
  · exact absurd (inB_iff.1 hc) h
set_option maxHeartbeats 400000 in
theorem x0z (b n:Nat) (zs:List Int) (w:World) (hn:zs.length=n) (hl:n≤1000) (hc:∀ j,(h:j<n)→w.cell? ⟨b,j,none⟩=some (.int .i64 (zs[j]))) :
    Calls Tryz.prog 135 #[.slice (some ⟨b,0,none⟩) n n] w fun e w'=>e=.returned (.bool (zs.all coG))∧w=w':=by
  go_enter Tryz.func135,Tryz.ntmps135
  go_wp2
  go_loop [7] (fun i=>∃ k:Nat,k≤n∧i=.int .i64 k∧(zs.take k).all coG=true) (fun i=>n-(intOf i).toNat)
  case atStart=>exact ⟨0,Nat.zero_le _,rfl,rfl⟩
  case round =>
    obtain ⟨k,hk,rfl,hall⟩:=hrel
    by_cases hlt:k<n
    · have hck:=hc k hlt
      have hlt':k<zs.length:=by omega
      have HS:Hid _:=z9h coG zs k hlt'
      have hA:Hid _:=hall
      clear hall
      by_cases hx:-32767≤zs[k]∧zs[k]≤32767
      · go_wp2
        go_round
        case rel=>exact ⟨k+1,by omega,by go_num,by rw [HS.out,hA.out,v05 hx];rfl⟩
        case measure=>simp [intOf];omega
      · by_cases h1:zs[k] < -32767
        all_goals
          go_wp2
          go_ret
          refine ⟨q9j ?_,rfl⟩
          symm
          rw [List.all_eq_false]
          exact ⟨zs[k],List.getElem_mem _,by rw [v2d hx];simp⟩
    · go_wp2
      go_ret
      rw [List.take_of_length_le (by omega)] at hall
      exact ⟨by rw [hall];rfl,rfl⟩
theorem z0r (a b c d:Int) (w:World) (B:Nat) (h:∀ o,w.cell? ⟨B,o,none⟩=#[.int .i64 a,.int .i64 b,.int .i64 c,.int .i64 d][o]?) :
    Calls Tryz.prog 135 #[.slice (some ⟨B,0,none⟩) 4 4] w fun e w'=>e=.returned (.bool (ptB a b&&ptB c d))∧w=w' :=
  (x0z B 4 [a,b,c,d] w rfl (by omega) (fun j hj=>by
    rw [h]
    match j,hj with
    | 0,_=>rfl
    | 1,_=>rfl
    | 2,_=>rfl
    | 3,_=>rfl)).mono fun e w' ⟨h,hw⟩=>⟨by rw [h];simp [ptB,coG,Bool.and_assoc],hw⟩
def inkZ (i0 i1 i2 i3 i4 i5 i6 i7:Int):Bool:=i0==0&&i1==0&&i2==0&&i3==0&&i4==0&&i5==0&&i6==0&&i7==0
def q4q (k:Int) (z:Bool) (fx fy tx ty r st:Int):Int :=
  if k=1 then (if z=false then 4 else if r≠0 then 4 else if ptB fx fy=false∨ptB tx ty=false then 3 else if fx=tx∧fy=ty then 1 else st)
  else if k=2 then (if z=false then 4 else if tx≠0∨ty≠0 then 4 else if ptB fx fy=false∨r<1∨32767<r then 3 else st)
  else 14
set_option maxRecDepth 20000 in
set_option maxHeartbeats 8000000 in
theorem x83 (i0 i1 i2 i3 i4 i5 i6 i7 fx fy tx ty r:Int) (A:Option Addr) (n cap:Nat) (g:Nat→Nat→Value) (W H:Int) (B C:Option Addr) (pn pc sn sc:Nat) (a b c d e f:Int) (s t:Bool) (w:World) (hn:n≤cap∧cap≤9223372036854775807) (h:SliceG Tryz.prog w 141 A n g) :
    Calls Tryz.prog 97 #[.agg #[.int .i64 1,.int .u8 i0,.int .u8 i1,.int .u8 i2,.int .u8 i3,.int .u8 i4,.int .u8 i5,.int .u8 i6,.int .u8 i7,.int .i64 fx,.int .i64 fy,.int .i64 tx,.int .i64 ty,.int .i64 r,.slice A n cap,.int .i64 W,.int .i64 H,.slice B pn pc,.slice C sn sc,.int .i64 a,.int .i64 b,.int .i64 c,.int .i64 d,.int .i64 e,.int .i64 f,.bool s,.bool t]] w fun e' w'=>e'=.returned (.int .i64 (q4q 1 (inkZ i0 i1 i2 i3 i4 i5 i6 i7&&q1v W H pn sn a b c d e f s t) fx fy tx ty r (q1u (fun x=>valI (g x 0)) n)))∧Below w.heap.size w w':=by
  have hS:Hid _:=h
  clear h
  have hst:Hid _:=fun w' hb=>q7q A n cap g w' hn (SliceG.below hS.out hb)
  have h00:Hid (ptB 0 0=true):=rfl
  generalize q1u (fun x=>valI (g x 0)) n=st at *
  go_enter Tryz.func97,Tryz.ntmps97
  go_wp2_with (first |(go_at_call 134;refine (z2t _ _ _ _ _ _ _ _ _ _ _ _ _ _ _ _ _).mono ?_;rintro e' w' ⟨rfl,hb⟩;obtain ⟨hc9,hf9,hz9⟩:=z3s hb;try simp only [World.size_alloc] at hz9 hc9 hf9) |(go_at_call 135;refine (z0r fx fy tx ty _ _ (by intro o;simp [go_sem])).mono ?_;rintro e' w' ⟨rfl,rfl⟩) |(go_at_call 136;refine (hst.out _ (by exact blQ)).mono ?_;rintro e' w' ⟨rfl,hb⟩))
  all_goals go_ret
  all_goals exact ⟨q05 (by have h01:=h00.out;clear hst hS;simp_all [q4q,inkZ,inB];try omega),by exact blQ⟩
set_option maxRecDepth 20000 in
set_option maxHeartbeats 8000000 in
theorem x84 (i0 i1 i2 i3 i4 i5 i6 i7 fx fy tx ty r:Int) (A:Option Addr) (n cap:Nat) (g:Nat→Nat→Value) (W H:Int) (B C:Option Addr) (pn pc sn sc:Nat) (a b c d e f:Int) (s t:Bool) (w:World) (hn:n≤cap∧cap≤9223372036854775807) (h:SliceG Tryz.prog w 141 A n g) :
    Calls Tryz.prog 97 #[.agg #[.int .i64 2,.int .u8 i0,.int .u8 i1,.int .u8 i2,.int .u8 i3,.int .u8 i4,.int .u8 i5,.int .u8 i6,.int .u8 i7,.int .i64 fx,.int .i64 fy,.int .i64 tx,.int .i64 ty,.int .i64 r,.slice A n cap,.int .i64 W,.int .i64 H,.slice B pn pc,.slice C sn sc,.int .i64 a,.int .i64 b,.int .i64 c,.int .i64 d,.int .i64 e,.int .i64 f,.bool s,.bool t]] w fun e' w'=>e'=.returned (.int .i64 (q4q 2 (inkZ i0 i1 i2 i3 i4 i5 i6 i7&&q1v W H pn sn a b c d e f s t) fx fy tx ty r (q1u (fun x=>valI (g x 0)) n)))∧Below w.heap.size w w':=by
  have hS:Hid _:=h
  clear h
  have hst:Hid _:=fun w' hb=>q7q A n cap g w' hn (SliceG.below hS.out hb)
  have h00:Hid (ptB 0 0=true):=rfl
  generalize q1u (fun x=>valI (g x 0)) n=st at *
  go_enter Tryz.func97,Tryz.ntmps97
  go_wp2_with (first |(go_at_call 134;refine (z2t _ _ _ _ _ _ _ _ _ _ _ _ _ _ _ _ _).mono ?_;rintro e' w' ⟨rfl,hb⟩;obtain ⟨hc9,hf9,hz9⟩:=z3s hb;try simp only [World.size_alloc] at hz9 hc9 hf9) |(go_at_call 135;refine (z0r fx fy 0 0 _ _ (by intro o;simp [go_sem])).mono ?_;rintro e' w' ⟨rfl,rfl⟩) |(go_at_call 136;refine (hst.out _ (by exact blQ)).mono ?_;rintro e' w' ⟨rfl,hb⟩))
  all_goals go_ret
  all_goals exact ⟨q05 (by have h01:=h00.out;clear hst hS;simp_all [q4q,inkZ,inB];try omega),by exact blQ⟩
set_option maxRecDepth 20000 in
set_option maxHeartbeats 8000000 in
theorem x85 (k:Int) (i0 i1 i2 i3 i4 i5 i6 i7 fx fy tx ty r:Int) (A:Option Addr) (n cap:Nat) (g:Nat→Nat→Value) (W H:Int) (B C:Option Addr) (pn pc sn sc:Nat) (a b c d e f:Int) (s t:Bool) (w:World) (hn:n≤cap∧cap≤9223372036854775807) (h:SliceG Tryz.prog w 141 A n g) (k1:k≠1) (k2:k≠2) :
    Calls Tryz.prog 97 #[.agg #[.int .i64 k,.int .u8 i0,.int .u8 i1,.int .u8 i2,.int .u8 i3,.int .u8 i4,.int .u8 i5,.int .u8 i6,.int .u8 i7,.int .i64 fx,.int .i64 fy,.int .i64 tx,.int .i64 ty,.int .i64 r,.slice A n cap,.int .i64 W,.int .i64 H,.slice B pn pc,.slice C sn sc,.int .i64 a,.int .i64 b,.int .i64 c,.int .i64 d,.int .i64 e,.int .i64 f,.bool s,.bool t]] w fun e' w'=>e'=.returned (.int .i64 (q4q k (inkZ i0 i1 i2 i3 i4 i5 i6 i7&&q1v W H pn sn a b c d e f s t) fx fy tx ty r (q1u (fun x=>valI (g x 0)) n)))∧Below w.heap.size w w':=by
  have hS:Hid _:=h
  clear h
  have hst:Hid _:=fun w' hb=>q7q A n cap g w' hn (SliceG.below hS.out hb)
  have h00:Hid (ptB 0 0=true):=rfl
  have k1d:(k==1)=false:=by simpa using k1
  have k2d:(k==2)=false:=by simpa using k2
  have k3d:(k != 2)=true:=by simpa using k2
  have k4d:(k != 1)=true:=by simpa using k1
  generalize q1u (fun x=>valI (g x 0)) n=st at *
  go_enter Tryz.func97,Tryz.ntmps97
  go_wp2_with (first |(go_at_call 134;refine (z2t _ _ _ _ _ _ _ _ _ _ _ _ _ _ _ _ _).mono ?_;rintro e' w' ⟨rfl,hb⟩;obtain ⟨hc9,hf9,hz9⟩:=z3s hb;try simp only [World.size_alloc] at hz9 hc9 hf9) |(go_at_call 135;refine (z0r fx fy tx ty _ _ (by intro o;simp [go_sem])).mono ?_;rintro e' w' ⟨rfl,rfl⟩) |(go_at_call 136;refine (hst.out _ (by exact blQ)).mono ?_;rintro e' w' ⟨rfl,hb⟩))
  all_goals go_ret
  all_goals exact ⟨q05 (by have h01:=h00.out;clear hst hS;simp_all [q4q,inkZ,inB];try omega),by exact blQ⟩
theorem x4v (k:Int) (i0 i1 i2 i3 i4 i5 i6 i7 fx fy tx ty r:Int) (A:Option Addr) (n cap:Nat) (g:Nat→Nat→Value) (W H:Int) (B C:Option Addr) (pn pc sn sc:Nat) (a b c d e f:Int) (s t:Bool) (w:World) (hn:n≤cap∧cap≤9223372036854775807) (h:SliceG Tryz.prog w 141 A n g) :
    Calls Tryz.prog 97 #[.agg #[.int .i64 k,.int .u8 i0,.int .u8 i1,.int .u8 i2,.int .u8 i3,.int .u8 i4,.int .u8 i5,.int .u8 i6,.int .u8 i7,.int .i64 fx,.int .i64 fy,.int .i64 tx,.int .i64 ty,.int .i64 r,.slice A n cap,.int .i64 W,.int .i64 H,.slice B pn pc,.slice C sn sc,.int .i64 a,.int .i64 b,.int .i64 c,.int .i64 d,.int .i64 e,.int .i64 f,.bool s,.bool t]] w fun e' w'=>e'=.returned (.int .i64 (q4q k (inkZ i0 i1 i2 i3 i4 i5 i6 i7&&q1v W H pn sn a b c d e f s t) fx fy tx ty r (q1u (fun x=>valI (g x 0)) n)))∧Below w.heap.size w w':=by
  by_cases k1:k=1
  · subst k1;exact x83 i0 i1 i2 i3 i4 i5 i6 i7 fx fy tx ty r A n cap g W H B C pn pc sn sc a b c d e f s t w hn h
  by_cases k2:k=2
  · subst k2;exact x84 i0 i1 i2 i3 i4 i5 i6 i7 fx fy tx ty r A n cap g W H B C pn pc sn sc a b c d e f s t w hn h
  exact x85 k i0 i1 i2 i3 i4 i5 i6 i7 fx fy tx ty r A n cap g W H B C pn pc sn sc a b c d e f s t w hn h k1 k2
set_option maxRecDepth 20000 in
set_option maxHeartbeats 8000000 in
theorem x6o (i0 i1 i2 i3 i4 i5 i6 i7 fx fy tx ty r:Int) (A:Option Addr) (n cap:Nat) (g:Nat→Nat→Value) (W H:Int) (B C:Option Addr) (pn pc sn sc:Nat) (a b c d e f:Int) (s t:Bool) (w:World) (hn:n≤cap∧cap≤9223372036854775807) (h:SliceG Tryz.prog w 141 A n g) :
    Calls Tryz.prog 80 #[.agg #[.int .i64 1,.int .u8 i0,.int .u8 i1,.int .u8 i2,.int .u8 i3,.int .u8 i4,.int .u8 i5,.int .u8 i6,.int .u8 i7,.int .i64 fx,.int .i64 fy,.int .i64 tx,.int .i64 ty,.int .i64 r,.slice A n cap,.int .i64 W,.int .i64 H,.slice B pn pc,.slice C sn sc,.int .i64 a,.int .i64 b,.int .i64 c,.int .i64 d,.int .i64 e,.int .i64 f,.bool s,.bool t]] w fun e' w'=>e'=.returned (.int .i64 (q4q 1 (inkZ i0 i1 i2 i3 i4 i5 i6 i7&&q1v W H pn sn a b c d e f s t) fx fy tx ty r (q1u (fun x=>valI (g x 0)) n)))∧Below w.heap.size w w':=by
  have hS:Hid _:=h
  clear h
  have hst:Hid _:=fun w' hb=>q7r A n cap g w' hn (SliceG.below hS.out hb)
  have h00:Hid (ptB 0 0=true):=rfl
  generalize q1u (fun x=>valI (g x 0)) n=st at *
  go_enter Tryz.func80,Tryz.ntmps80
  go_wp2_with (first |(go_at_call 77;refine (q59 _ _ _ _ _ _ _ _ _ _ _ _ _ _ _ _ _).mono ?_;rintro e' w' ⟨rfl,hb⟩;obtain ⟨hc9,hf9,hz9⟩:=z3s hb;try simp only [World.size_alloc] at hz9 hc9 hf9) |(go_at_call 11;refine (q6g _ _ _ _).mono ?_;rintro e w' ⟨rfl,rfl⟩) |(go_at_call 100;refine (z2s _ _ _).mono ?_;rintro e w' ⟨rfl,rfl⟩) |(go_at_call 101;refine (hst.out _ (by exact blQ)).mono ?_;rintro e' w' ⟨rfl,hb⟩))
  all_goals go_ret
  all_goals exact ⟨q05 (by have h01:=h00.out;clear hst hS;simp_all [q4q,inkZ,inB];try omega),by exact blQ⟩
set_option maxRecDepth 20000 in
set_option maxHeartbeats 8000000 in
theorem x6p (i0 i1 i2 i3 i4 i5 i6 i7 fx fy tx ty r:Int) (A:Option Addr) (n cap:Nat) (g:Nat→Nat→Value) (W H:Int) (B C:Option Addr) (pn pc sn sc:Nat) (a b c d e f:Int) (s t:Bool) (w:World) (hn:n≤cap∧cap≤9223372036854775807) (h:SliceG Tryz.prog w 141 A n g) :
    Calls Tryz.prog 80 #[.agg #[.int .i64 2,.int .u8 i0,.int .u8 i1,.int .u8 i2,.int .u8 i3,.int .u8 i4,.int .u8 i5,.int .u8 i6,.int .u8 i7,.int .i64 fx,.int .i64 fy,.int .i64 tx,.int .i64 ty,.int .i64 r,.slice A n cap,.int .i64 W,.int .i64 H,.slice B pn pc,.slice C sn sc,.int .i64 a,.int .i64 b,.int .i64 c,.int .i64 d,.int .i64 e,.int .i64 f,.bool s,.bool t]] w fun e' w'=>e'=.returned (.int .i64 (q4q 2 (inkZ i0 i1 i2 i3 i4 i5 i6 i7&&q1v W H pn sn a b c d e f s t) fx fy tx ty r (q1u (fun x=>valI (g x 0)) n)))∧Below w.heap.size w w':=by
  have hS:Hid _:=h
  clear h
  have hst:Hid _:=fun w' hb=>q7r A n cap g w' hn (SliceG.below hS.out hb)
  have h00:Hid (ptB 0 0=true):=rfl
  generalize q1u (fun x=>valI (g x 0)) n=st at *
  go_enter Tryz.func80,Tryz.ntmps80
  go_wp2_with (first |(go_at_call 77;refine (q59 _ _ _ _ _ _ _ _ _ _ _ _ _ _ _ _ _).mono ?_;rintro e' w' ⟨rfl,hb⟩;obtain ⟨hc9,hf9,hz9⟩:=z3s hb;try simp only [World.size_alloc] at hz9 hc9 hf9) |(go_at_call 11;refine (q6g _ _ _ _).mono ?_;rintro e w' ⟨rfl,rfl⟩) |(go_at_call 100;refine (z2s _ _ _).mono ?_;rintro e w' ⟨rfl,rfl⟩) |(go_at_call 101;refine (hst.out _ (by exact blQ)).mono ?_;rintro e' w' ⟨rfl,hb⟩))
  all_goals go_ret
  all_goals exact ⟨q05 (by have h01:=h00.out;clear hst hS;simp_all [q4q,inkZ,inB];try omega),by exact blQ⟩
set_option maxRecDepth 20000 in
set_option maxHeartbeats 8000000 in
theorem x6q (k:Int) (i0 i1 i2 i3 i4 i5 i6 i7 fx fy tx ty r:Int) (A:Option Addr) (n cap:Nat) (g:Nat→Nat→Value) (W H:Int) (B C:Option Addr) (pn pc sn sc:Nat) (a b c d e f:Int) (s t:Bool) (w:World) (hn:n≤cap∧cap≤9223372036854775807) (h:SliceG Tryz.prog w 141 A n g) (k1:k≠1) (k2:k≠2) :
    Calls Tryz.prog 80 #[.agg #[.int .i64 k,.int .u8 i0,.int .u8 i1,.int .u8 i2,.int .u8 i3,.int .u8 i4,.int .u8 i5,.int .u8 i6,.int .u8 i7,.int .i64 fx,.int .i64 fy,.int .i64 tx,.int .i64 ty,.int .i64 r,.slice A n cap,.int .i64 W,.int .i64 H,.slice B pn pc,.slice C sn sc,.int .i64 a,.int .i64 b,.int .i64 c,.int .i64 d,.int .i64 e,.int .i64 f,.bool s,.bool t]] w fun e' w'=>e'=.returned (.int .i64 (q4q k (inkZ i0 i1 i2 i3 i4 i5 i6 i7&&q1v W H pn sn a b c d e f s t) fx fy tx ty r (q1u (fun x=>valI (g x 0)) n)))∧Below w.heap.size w w':=by
  have hS:Hid _:=h
  clear h
  have hst:Hid _:=fun w' hb=>q7r A n cap g w' hn (SliceG.below hS.out hb)
  have h00:Hid (ptB 0 0=true):=rfl
  have k1d:(k==1)=false:=by simpa using k1
  have k2d:(k==2)=false:=by simpa using k2
  have k3d:(k != 2)=true:=by simpa using k2
  have k4d:(k != 1)=true:=by simpa using k1
  generalize q1u (fun x=>valI (g x 0)) n=st at *
  go_enter Tryz.func80,Tryz.ntmps80
  go_wp2_with (first |(go_at_call 77;refine (q59 _ _ _ _ _ _ _ _ _ _ _ _ _ _ _ _ _).mono ?_;rintro e' w' ⟨rfl,hb⟩;obtain ⟨hc9,hf9,hz9⟩:=z3s hb;try simp only [World.size_alloc] at hz9 hc9 hf9) |(go_at_call 11;refine (q6g _ _ _ _).mono ?_;rintro e w' ⟨rfl,rfl⟩) |(go_at_call 100;refine (z2s _ _ _).mono ?_;rintro e w' ⟨rfl,rfl⟩) |(go_at_call 101;refine (hst.out _ (by exact blQ)).mono ?_;rintro e' w' ⟨rfl,hb⟩))
  all_goals go_ret
  all_goals exact ⟨q05 (by have h01:=h00.out;clear hst hS;simp_all [q4q,inkZ,inB];try omega),by exact blQ⟩
theorem x2i (k:Int) (i0 i1 i2 i3 i4 i5 i6 i7 fx fy tx ty r:Int) (A:Option Addr) (n cap:Nat) (g:Nat→Nat→Value) (W H:Int) (B C:Option Addr) (pn pc sn sc:Nat) (a b c d e f:Int) (s t:Bool) (w:World) (hn:n≤cap∧cap≤9223372036854775807) (h:SliceG Tryz.prog w 141 A n g) :
    Calls Tryz.prog 80 #[.agg #[.int .i64 k,.int .u8 i0,.int .u8 i1,.int .u8 i2,.int .u8 i3,.int .u8 i4,.int .u8 i5,.int .u8 i6,.int .u8 i7,.int .i64 fx,.int .i64 fy,.int .i64 tx,.int .i64 ty,.int .i64 r,.slice A n cap,.int .i64 W,.int .i64 H,.slice B pn pc,.slice C sn sc,.int .i64 a,.int .i64 b,.int .i64 c,.int .i64 d,.int .i64 e,.int .i64 f,.bool s,.bool t]] w fun e' w'=>e'=.returned (.int .i64 (q4q k (inkZ i0 i1 i2 i3 i4 i5 i6 i7&&q1v W H pn sn a b c d e f s t) fx fy tx ty r (q1u (fun x=>valI (g x 0)) n)))∧Below w.heap.size w w':=by
  by_cases k1:k=1
  · subst k1;exact x6o i0 i1 i2 i3 i4 i5 i6 i7 fx fy tx ty r A n cap g W H B C pn pc sn sc a b c d e f s t w hn h
  by_cases k2:k=2
  · subst k2;exact x6p i0 i1 i2 i3 i4 i5 i6 i7 fx fy tx ty r A n cap g W H B C pn pc sn sc a b c d e f s t w hn h
  exact x6q k i0 i1 i2 i3 i4 i5 i6 i7 fx fy tx ty r A n cap g W H B C pn pc sn sc a b c d e f s t w hn h k1 k2
end Go.Proofs.YtkicdhaklnmonaaGreat
