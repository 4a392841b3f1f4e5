/-
  Merged: XGrad, XAffine, XInvert, XInvertNeg, XRInvert.
-/
import Derived.Test.YticolnghiibgfaaGreatMrg11
import Derived.Test.YticolnghiibgfaaGreatMrg4
import Derived.Test.YticolnghiibgfaaGreatMrg9
import Derived.Test.YticolnghiibgfaaGreatMrg3
set_option linter.unusedVariables false
set_option linter.unusedSimpArgs false
set_option linter.unnecessarySimpa false
namespace Go.Proofs.YticolnghiibgfaaGreat
open Go.RowKit
def coG (x:Int):Bool:=inB x (-32767) 32767
theorem v0a {x:Int} (h:-32767≤x∧x≤32767):coG x=true:=inB_iff.2 h
theorem v1f {x:Int} (h:¬(-32767≤x∧x≤32767)):coG x=false:=by
  cases hc:coG x
  · rfl
  · exact absurd (inB_iff.1 hc) h
set_option maxHeartbeats 400000 in
theorem x0a (b n:Nat) (zs:List Int) (w:World) (hn:zs.length=n) (hl:n≤1000) (hc:∀ j,(h:j<n)→w.cell? ⟨b,j,none⟩=some (.int .i64 (zs[j]))) :
    Calls Tryz.prog 126 #[.slice (some ⟨b,0,none⟩) n n] w fun e w'=>e=.returned (.bool (zs.all coG))∧w=w':=by
  go_enter Tryz.func126,Tryz.ntmps126
  go_wp2
  go_loop [7] (fun i=>∃ k:Nat,k≤n∧i=.int .i64 k∧(zs.take k).all coG=true) (fun i=>n-(intOf i).toNat)
  case atStart=>exact ⟨0,Nat.zero_le _,rfl,rfl⟩
  case round =>
    obtain ⟨k,hk,rfl,hall⟩:=hrel
    by_cases hlt:k<n
    · have hck:=hc k hlt
      have hlt':k<zs.length:=by omega
      have HS:Hid _:=z8l coG zs k hlt'
      have hA:Hid _:=hall
      clear hall
      by_cases hx:-32767≤zs[k]∧zs[k]≤32767
      · go_wp2
        go_round
        case rel=>exact ⟨k+1,by omega,by go_num,by rw [HS.out,hA.out,v0a hx];rfl⟩
        case measure=>simp [intOf];omega
      · by_cases h1:zs[k] < -32767
        all_goals
          go_wp2
          go_ret
          refine ⟨q64 ?_,rfl⟩
          symm
          rw [List.all_eq_false]
          exact ⟨zs[k],List.getElem_mem _,by rw [v1f hx];simp⟩
    · go_wp2
      go_ret
      rw [List.take_of_length_le (by omega)] at hall
      exact ⟨by rw [hall];rfl,rfl⟩
theorem z0a (a b c d:Int) (w:World) (B:Nat) (h:∀ o,w.cell? ⟨B,o,none⟩=#[.int .i64 a,.int .i64 b,.int .i64 c,.int .i64 d][o]?) :
    Calls Tryz.prog 126 #[.slice (some ⟨B,0,none⟩) 4 4] w fun e w'=>e=.returned (.bool (ptB a b&&ptB c d))∧w=w' :=
  (x0a B 4 [a,b,c,d] w rfl (by omega) (fun j hj=>by
    rw [h]
    match j,hj with
    | 0,_=>rfl
    | 1,_=>rfl
    | 2,_=>rfl
    | 3,_=>rfl)).mono fun e w' ⟨h,hw⟩=>⟨by rw [h];simp [ptB,coG,Bool.and_assoc],hw⟩
def inkZ (i0 i1 i2 i3 i4 i5 i6 i7:Int):Bool:=i0==0&&i1==0&&i2==0&&i3==0&&i4==0&&i5==0&&i6==0&&i7==0
def q2s (k:Int) (z:Bool) (fx fy tx ty r st:Int):Int :=
  if k=1 then (if z=false then 4 else if r≠0 then 4 else if ptB fx fy=false∨ptB tx ty=false then 3 else if fx=tx∧fy=ty then 1 else st)
  else if k=2 then (if z=false then 4 else if tx≠0∨ty≠0 then 4 else if ptB fx fy=false∨r<1∨32767<r then 3 else st)
  else 14
set_option maxRecDepth 20000 in
set_option maxHeartbeats 8000000 in
theorem x8g (i0 i1 i2 i3 i4 i5 i6 i7 fx fy tx ty r:Int) (A:Option Addr) (n cap:Nat) (g:Nat→Nat→Value) (W H:Int) (B C:Option Addr) (pn pc sn sc:Nat) (a b c d e f:Int) (s t:Bool) (w:World) (hn:n≤cap∧cap≤9223372036854775807) (h:SliceG Tryz.prog w 119 A n g) :
    Calls Tryz.prog 98 #[.agg #[.int .i64 1,.int .u8 i0,.int .u8 i1,.int .u8 i2,.int .u8 i3,.int .u8 i4,.int .u8 i5,.int .u8 i6,.int .u8 i7,.int .i64 fx,.int .i64 fy,.int .i64 tx,.int .i64 ty,.int .i64 r,.slice A n cap,.int .i64 W,.int .i64 H,.slice B pn pc,.slice C sn sc,.int .i64 a,.int .i64 b,.int .i64 c,.int .i64 d,.int .i64 e,.int .i64 f,.bool s,.bool t]] w fun e' w'=>e'=.returned (.int .i64 (q2s 1 (inkZ i0 i1 i2 i3 i4 i5 i6 i7&&q1d W H pn sn a b c d e f s t) fx fy tx ty r (q1g (fun x=>valI (g x 0)) n)))∧Below w.heap.size w w':=by
  have hS:Hid _:=h
  clear h
  have hst:Hid _:=fun w' hb=>q66 A n cap g w' hn (SliceG.below hS.out hb)
  have h00:Hid (ptB 0 0=true):=rfl
  generalize q1g (fun x=>valI (g x 0)) n=st at *
  go_enter Tryz.func98,Tryz.ntmps98
  go_wp2_with (first |(go_at_call 125;refine (z2r _ _ _ _ _ _ _ _ _ _ _ _ _ _ _ _ _).mono ?_;rintro e' w' ⟨rfl,hb⟩;obtain ⟨hc9,hf9,hz9⟩:=q43 hb;try simp only [World.size_alloc] at hz9 hc9 hf9) |(go_at_call 126;refine (z0a fx fy tx ty _ _ (by intro o;simp [go_sem])).mono ?_;rintro e' w' ⟨rfl,rfl⟩) |(go_at_call 127;refine (hst.out _ (by exact blQ)).mono ?_;rintro e' w' ⟨rfl,hb⟩))
  all_goals go_ret
  all_goals exact ⟨q0u (by have h01:=h00.out;clear hst hS;simp_all [q2s,inkZ,inB];try omega),by exact blQ⟩
set_option maxRecDepth 20000 in
set_option maxHeartbeats 8000000 in
theorem x8h (i0 i1 i2 i3 i4 i5 i6 i7 fx fy tx ty r:Int) (A:Option Addr) (n cap:Nat) (g:Nat→Nat→Value) (W H:Int) (B C:Option Addr) (pn pc sn sc:Nat) (a b c d e f:Int) (s t:Bool) (w:World) (hn:n≤cap∧cap≤9223372036854775807) (h:SliceG Tryz.prog w 119 A n g) :
    Calls Tryz.prog 98 #[.agg #[.int .i64 2,.int .u8 i0,.int .u8 i1,.int .u8 i2,.int .u8 i3,.int .u8 i4,.int .u8 i5,.int .u8 i6,.int .u8 i7,.int .i64 fx,.int .i64 fy,.int .i64 tx,.int .i64 ty,.int .i64 r,.slice A n cap,.int .i64 W,.int .i64 H,.slice B pn pc,.slice C sn sc,.int .i64 a,.int .i64 b,.int .i64 c,.int .i64 d,.int .i64 e,.int .i64 f,.bool s,.bool t]] w fun e' w'=>e'=.returned (.int .i64 (q2s 2 (inkZ i0 i1 i2 i3 i4 i5 i6 i7&&q1d W H pn sn a b c d e f s t) fx fy tx ty r (q1g (fun x=>valI (g x 0)) n)))∧Below w.heap.size w w':=by
  have hS:Hid _:=h
  clear h
  have hst:Hid _:=fun w' hb=>q66 A n cap g w' hn (SliceG.below hS.out hb)
  have h00:Hid (ptB 0 0=true):=rfl
  generalize q1g (fun x=>valI (g x 0)) n=st at *
  go_enter Tryz.func98,Tryz.ntmps98
  go_wp2_with (first |(go_at_call 125;refine (z2r _ _ _ _ _ _ _ _ _ _ _ _ _ _ _ _ _).mono ?_;rintro e' w' ⟨rfl,hb⟩;obtain ⟨hc9,hf9,hz9⟩:=q43 hb;try simp only [World.size_alloc] at hz9 hc9 hf9) |(go_at_call 126;refine (z0a fx fy 0 0 _ _ (by intro o;simp [go_sem])).mono ?_;rintro e' w' ⟨rfl,rfl⟩) |(go_at_call 127;refine (hst.out _ (by exact blQ)).mono ?_;rintro e' w' ⟨rfl,hb⟩))
  all_goals go_ret
  all_goals exact ⟨q0u (by have h01:=h00.out;clear hst hS;simp_all [q2s,inkZ,inB];try omega),by exact blQ⟩
set_option maxRecDepth 20000 in
set_option maxHeartbeats 8000000 in
theorem x8i (k:Int) (i0 i1 i2 i3 i4 i5 i6 i7 fx fy tx ty r:Int) (A:Option Addr) (n cap:Nat) (g:Nat→Nat→Value) (W H:Int) (B C:Option Addr) (pn pc sn sc:Nat) (a b c d e f:Int) (s t:Bool) (w:World) (hn:n≤cap∧cap≤9223372036854775807) (h:SliceG Tryz.prog w 119 A n g) (k1:k≠1) (k2:k≠2) :
    Calls Tryz.prog 98 #[.agg #[.int .i64 k,.int .u8 i0,.int .u8 i1,.int .u8 i2,.int .u8 i3,.int .u8 i4,.int .u8 i5,.int .u8 i6,.int .u8 i7,.int .i64 fx,.int .i64 fy,.int .i64 tx,.int .i64 ty,.int .i64 r,.slice A n cap,.int .i64 W,.int .i64 H,.slice B pn pc,.slice C sn sc,.int .i64 a,.int .i64 b,.int .i64 c,.int .i64 d,.int .i64 e,.int .i64 f,.bool s,.bool t]] w fun e' w'=>e'=.returned (.int .i64 (q2s k (inkZ i0 i1 i2 i3 i4 i5 i6 i7&&q1d W H pn sn a b c d e f s t) fx fy tx ty r (q1g (fun x=>valI (g x 0)) n)))∧Below w.heap.size w w':=by
  have hS:Hid _:=h
  clear h
  have hst:Hid _:=fun w' hb=>q66 A n cap g w' hn (SliceG.below hS.out hb)
  have h00:Hid (ptB 0 0=true):=rfl
  have k1d:(k==1)=false:=by simpa using k1
  have k2d:(k==2)=false:=by simpa using k2
  have k3d:(k != 2)=true:=by simpa using k2
  have k4d:(k != 1)=true:=by simpa using k1
  generalize q1g (fun x=>valI (g x 0)) n=st at *
  go_enter Tryz.func98,Tryz.ntmps98
  go_wp2_with (first |(go_at_call 125;refine (z2r _ _ _ _ _ _ _ _ _ _ _ _ _ _ _ _ _).mono ?_;rintro e' w' ⟨rfl,hb⟩;obtain ⟨hc9,hf9,hz9⟩:=q43 hb;try simp only [World.size_alloc] at hz9 hc9 hf9) |(go_at_call 126;refine (z0a fx fy tx ty _ _ (by intro o;simp [go_sem])).mono ?_;rintro e' w' ⟨rfl,rfl⟩) |(go_at_call 127;refine (hst.out _ (by exact blQ)).mono ?_;rintro e' w' ⟨rfl,hb⟩))
  all_goals go_ret
  all_goals exact ⟨q0u (by have h01:=h00.out;clear hst hS;simp_all [q2s,inkZ,inB];try omega),by exact blQ⟩
theorem x31 (k:Int) (i0 i1 i2 i3 i4 i5 i6 i7 fx fy tx ty r:Int) (A:Option Addr) (n cap:Nat) (g:Nat→Nat→Value) (W H:Int) (B C:Option Addr) (pn pc sn sc:Nat) (a b c d e f:Int) (s t:Bool) (w:World) (hn:n≤cap∧cap≤9223372036854775807) (h:SliceG Tryz.prog w 119 A n g) :
    Calls Tryz.prog 98 #[.agg #[.int .i64 k,.int .u8 i0,.int .u8 i1,.int .u8 i2,.int .u8 i3,.int .u8 i4,.int .u8 i5,.int .u8 i6,.int .u8 i7,.int .i64 fx,.int .i64 fy,.int .i64 tx,.int .i64 ty,.int .i64 r,.slice A n cap,.int .i64 W,.int .i64 H,.slice B pn pc,.slice C sn sc,.int .i64 a,.int .i64 b,.int .i64 c,.int .i64 d,.int .i64 e,.int .i64 f,.bool s,.bool t]] w fun e' w'=>e'=.returned (.int .i64 (q2s k (inkZ i0 i1 i2 i3 i4 i5 i6 i7&&q1d W H pn sn a b c d e f s t) fx fy tx ty r (q1g (fun x=>valI (g x 0)) n)))∧Below w.heap.size w w':=by
  by_cases k1:k=1
  · subst k1;exact x8g i0 i1 i2 i3 i4 i5 i6 i7 fx fy tx ty r A n cap g W H B C pn pc sn sc a b c d e f s t w hn h
  by_cases k2:k=2
  · subst k2;exact x8h i0 i1 i2 i3 i4 i5 i6 i7 fx fy tx ty r A n cap g W H B C pn pc sn sc a b c d e f s t w hn h
  exact x8i k i0 i1 i2 i3 i4 i5 i6 i7 fx fy tx ty r A n cap g W H B C pn pc sn sc a b c d e f s t w hn h k1 k2
set_option maxRecDepth 20000 in
set_option maxHeartbeats 8000000 in
theorem x55 (i0 i1 i2 i3 i4 i5 i6 i7 fx fy tx ty r:Int) (A:Option Addr) (n cap:Nat) (g:Nat→Nat→Value) (W H:Int) (B C:Option Addr) (pn pc sn sc:Nat) (a b c d e f:Int) (s t:Bool) (w:World) (hn:n≤cap∧cap≤9223372036854775807) (h:SliceG Tryz.prog w 119 A n g) :
    Calls Tryz.prog 88 #[.agg #[.int .i64 1,.int .u8 i0,.int .u8 i1,.int .u8 i2,.int .u8 i3,.int .u8 i4,.int .u8 i5,.int .u8 i6,.int .u8 i7,.int .i64 fx,.int .i64 fy,.int .i64 tx,.int .i64 ty,.int .i64 r,.slice A n cap,.int .i64 W,.int .i64 H,.slice B pn pc,.slice C sn sc,.int .i64 a,.int .i64 b,.int .i64 c,.int .i64 d,.int .i64 e,.int .i64 f,.bool s,.bool t]] w fun e' w'=>e'=.returned (.int .i64 (q2s 1 (inkZ i0 i1 i2 i3 i4 i5 i6 i7&&q1d W H pn sn a b c d e f s t) fx fy tx ty r (q1g (fun x=>valI (g x 0)) n)))∧Below w.heap.size w w':=by
  have hS:Hid _:=h
  clear h
  have hst:Hid _:=fun w' hb=>q67 A n cap g w' hn (SliceG.below hS.out hb)
  have h00:Hid (ptB 0 0=true):=rfl
  generalize q1g (fun x=>valI (g x 0)) n=st at *
  go_enter Tryz.func88,Tryz.ntmps88
  go_wp2_with (first |(go_at_call 85;refine (q5g _ _ _ _ _ _ _ _ _ _ _ _ _ _ _ _ _).mono ?_;rintro e' w' ⟨rfl,hb⟩;obtain ⟨hc9,hf9,hz9⟩:=q43 hb;try simp only [World.size_alloc] at hz9 hc9 hf9) |(go_at_call 12;refine (q35 _ _ _ _).mono ?_;rintro e w' ⟨rfl,rfl⟩) |(go_at_call 115;refine (z2q _ _ _).mono ?_;rintro e w' ⟨rfl,rfl⟩) |(go_at_call 116;refine (hst.out _ (by exact blQ)).mono ?_;rintro e' w' ⟨rfl,hb⟩))
  all_goals go_ret
  all_goals exact ⟨q0u (by have h01:=h00.out;clear hst hS;simp_all [q2s,inkZ,inB];try omega),by exact blQ⟩
set_option maxRecDepth 20000 in
set_option maxHeartbeats 8000000 in
theorem x56 (i0 i1 i2 i3 i4 i5 i6 i7 fx fy tx ty r:Int) (A:Option Addr) (n cap:Nat) (g:Nat→Nat→Value) (W H:Int) (B C:Option Addr) (pn pc sn sc:Nat) (a b c d e f:Int) (s t:Bool) (w:World) (hn:n≤cap∧cap≤9223372036854775807) (h:SliceG Tryz.prog w 119 A n g) :
    Calls Tryz.prog 88 #[.agg #[.int .i64 2,.int .u8 i0,.int .u8 i1,.int .u8 i2,.int .u8 i3,.int .u8 i4,.int .u8 i5,.int .u8 i6,.int .u8 i7,.int .i64 fx,.int .i64 fy,.int .i64 tx,.int .i64 ty,.int .i64 r,.slice A n cap,.int .i64 W,.int .i64 H,.slice B pn pc,.slice C sn sc,.int .i64 a,.int .i64 b,.int .i64 c,.int .i64 d,.int .i64 e,.int .i64 f,.bool s,.bool t]] w fun e' w'=>e'=.returned (.int .i64 (q2s 2 (inkZ i0 i1 i2 i3 i4 i5 i6 i7&&q1d W H pn sn a b c d e f s t) fx fy tx ty r (q1g (fun x=>valI (g x 0)) n)))∧Below w.heap.size w w':=by
  have hS:Hid _:=h
  clear h
  have hst:Hid _:=fun w' hb=>q67 A n cap g w' hn (SliceG.below hS.out hb)
  have h00:Hid (ptB 0 0=true):=rfl
  generalize q1g (fun x=>valI (g x 0)) n=st at *
  go_enter Tryz.func88,Tryz.ntmps88
  go_wp2_with (first |(go_at_call 85;refine (q5g _ _ _ _ _ _ _ _ _ _ _ _ _ _ _ _ _).mono ?_;rintro e' w' ⟨rfl,hb⟩;obtain ⟨hc9,hf9,hz9⟩:=q43 hb;try simp only [World.size_alloc] at hz9 hc9 hf9) |(go_at_call 12;refine (q35 _ _ _ _).mono ?_;rintro e w' ⟨rfl,rfl⟩) |(go_at_call 115;refine (z2q _ _ _).mono ?_;rintro e w' ⟨rfl,rfl⟩) |(go_at_call 116;refine (hst.out _ (by exact blQ)).mono ?_;rintro e' w' ⟨rfl,hb⟩))
  all_goals go_ret
  all_goals exact ⟨q0u (by have h01:=h00.out;clear hst hS;simp_all [q2s,inkZ,inB];try omega),by exact blQ⟩
set_option maxRecDepth 20000 in
set_option maxHeartbeats 8000000 in
theorem x57 (k:Int) (i0 i1 i2 i3 i4 i5 i6 i7 fx fy tx ty r:Int) (A:Option Addr) (n cap:Nat) (g:Nat→Nat→Value) (W H:Int) (B C:Option Addr) (pn pc sn sc:Nat) (a b c d e f:Int) (s t:Bool) (w:World) (hn:n≤cap∧cap≤9223372036854775807) (h:SliceG Tryz.prog w 119 A n g) (k1:k≠1) (k2:k≠2) :
    Calls Tryz.prog 88 #[.agg #[.int .i64 k,.int .u8 i0,.int .u8 i1,.int .u8 i2,.int .u8 i3,.int .u8 i4,.int .u8 i5,.int .u8 i6,.int .u8 i7,.int .i64 fx,.int .i64 fy,.int .i64 tx,.int .i64 ty,.int .i64 r,.slice A n cap,.int .i64 W,.int .i64 H,.slice B pn pc,.slice C sn sc,.int .i64 a,.int .i64 b,.int .i64 c,.int .i64 d,.int .i64 e,.int .i64 f,.bool s,.bool t]] w fun e' w'=>e'=.returned (.int .i64 (q2s k (inkZ i0 i1 i2 i3 i4 i5 i6 i7&&q1d W H pn sn a b c d e f s t) fx fy tx ty r (q1g (fun x=>valI (g x 0)) n)))∧Below w.heap.size w w':=by
  have hS:Hid _:=h
  clear h
  have hst:Hid _:=fun w' hb=>q67 A n cap g w' hn (SliceG.below hS.out hb)
  have h00:Hid (ptB 0 0=true):=rfl
  have k1d:(k==1)=false:=by simpa using k1
  have k2d:(k==2)=false:=by simpa using k2
  have k3d:(k != 2)=true:=by simpa using k2
  have k4d:(k != 1)=true:=by simpa using k1
  generalize q1g (fun x=>valI (g x 0)) n=st at *
  go_enter Tryz.func88,Tryz.ntmps88
  go_wp2_with (first |(go_at_call 85;refine (q5g _ _ _ _ _ _ _ _ _ _ _ _ _ _ _ _ _).mono ?_;rintro e' w' ⟨rfl,hb⟩;obtain ⟨hc9,hf9,hz9⟩:=q43 hb;try simp only [World.size_alloc] at hz9 hc9 hf9) |(go_at_call 12;refine (q35 _ _ _ _).mono ?_;rintro e w' ⟨rfl,rfl⟩) |(go_at_call 115;refine (z2q _ _ _).mono ?_;rintro e w' ⟨rfl,rfl⟩) |(go_at_call 116;refine (hst.out _ (by exact blQ)).mono ?_;rintro e' w' ⟨rfl,hb⟩))
  all_goals go_ret
  all_goals exact ⟨q0u (by have h01:=h00.out;clear hst hS;simp_all [q2s,inkZ,inB];try omega),by exact blQ⟩
theorem x1q (k:Int) (i0 i1 i2 i3 i4 i5 i6 i7 fx fy tx ty r:Int) (A:Option Addr) (n cap:Nat) (g:Nat→Nat→Value) (W H:Int) (B C:Option Addr) (pn pc sn sc:Nat) (a b c d e f:Int) (s t:Bool) (w:World) (hn:n≤cap∧cap≤9223372036854775807) (h:SliceG Tryz.prog w 119 A n g) :
    Calls Tryz.prog 88 #[.agg #[.int .i64 k,.int .u8 i0,.int .u8 i1,.int .u8 i2,.int .u8 i3,.int .u8 i4,.int .u8 i5,.int .u8 i6,.int .u8 i7,.int .i64 fx,.int .i64 fy,.int .i64 tx,.int .i64 ty,.int .i64 r,.slice A n cap,.int .i64 W,.int .i64 H,.slice B pn pc,.slice C sn sc,.int .i64 a,.int .i64 b,.int .i64 c,.int .i64 d,.int .i64 e,.int .i64 f,.bool s,.bool t]] w fun e' w'=>e'=.returned (.int .i64 (q2s k (inkZ i0 i1 i2 i3 i4 i5 i6 i7&&q1d W H pn sn a b c d e f s t) fx fy tx ty r (q1g (fun x=>valI (g x 0)) n)))∧Below w.heap.size w w':=by
  by_cases k1:k=1
  · subst k1;exact x55 i0 i1 i2 i3 i4 i5 i6 i7 fx fy tx ty r A n cap g W H B C pn pc sn sc a b c d e f s t w hn h
  by_cases k2:k=2
  · subst k2;exact x56 i0 i1 i2 i3 i4 i5 i6 i7 fx fy tx ty r A n cap g W H B C pn pc sn sc a b c d e f s t w hn h
  exact x57 k i0 i1 i2 i3 i4 i5 i6 i7 fx fy tx ty r A n cap g W H B C pn pc sn sc a b c d e f s t w hn h k1 k2
end Go.Proofs.YticolnghiibgfaaGreat
namespace Go.Proofs.YticolnghiibgfaaGreat
open Go.RowKit
theorem x32 (x m:Int) (w:World) (hm:0≤m∧m≤4611686018427387904) :
    Calls Tryz.prog 158 #[.int .i64 x,.int .i64 m] w fun e w'=>e=.returned (.bool (inB x (-m) m))∧w=w':=by
  by_cases h1:-m≤x <;> by_cases h2:x≤m
  all_goals
    go_enter Tryz.func158,Tryz.ntmps158
    go_wp2
    go_ret
    exact ⟨q64 (by simp [inB,h1,h2]),rfl⟩
def matB (a b c d e f:Int):Bool:=inB a (-1048576) 1048576&&(inB b (-1048576) 1048576&&(inB c (-1048576) 1048576&&(inB d (-1048576) 1048576&&(inB e (-268435456) 268435456&&inB f (-268435456) 268435456))))
def matE (a b c d e f:Int):Int:=if matB a b c d e f then 0 else 3
set_option maxHeartbeats 1000000 in
theorem q58 (a b c d e f:Int) (w:World) :
    Calls Tryz.prog 142 #[.agg #[.int .i64 a,.int .i64 b,.int .i64 c,.int .i64 d,.int .i64 e,.int .i64 f]] w fun x w'=>x=.returned (.int .i64 (matE a b c d e f))∧(w.alloc (.cells #[.int .i64 a,.int .i64 b,.int .i64 c,.int .i64 d,.int .i64 e,.int .i64 f] 50))=w':=by
  have i0:∀ w,(Instr.index 195 (.agg #[.int .i64 a,.int .i64 b,.int .i64 c,.int .i64 d]) (.int .i64 0)).run Tryz.prog w=.ok (.int .i64 a) w:=fun _=>by kernel_rfl
  have i1:∀ w,(Instr.index 195 (.agg #[.int .i64 a,.int .i64 b,.int .i64 c,.int .i64 d]) (.int .i64 1)).run Tryz.prog w=.ok (.int .i64 b) w:=fun _=>by kernel_rfl
  have i2:∀ w,(Instr.index 195 (.agg #[.int .i64 a,.int .i64 b,.int .i64 c,.int .i64 d]) (.int .i64 2)).run Tryz.prog w=.ok (.int .i64 c) w:=fun _=>by kernel_rfl
  have i3:∀ w,(Instr.index 195 (.agg #[.int .i64 a,.int .i64 b,.int .i64 c,.int .i64 d]) (.int .i64 3)).run Tryz.prog w=.ok (.int .i64 d) w:=fun _=>by kernel_rfl
  go_enter Tryz.func142,Tryz.ntmps142
  go_wp2_with fail
  refine wp_loop_rounds 5 ?_
  repeat any_goals (rw [rounds_succ];go_wp2_with (first |(go_at_call 158;refine (x32 _ _ _ ?_).mono ?_;omega;rintro e w' ⟨rfl,rfl⟩)))
  all_goals go_ret
  all_goals refine ⟨q0u ?_,rfl⟩
  all_goals (clear i0 i1 i2 i3;go_tidy;simp only [Bool.not_eq_true',Bool.not_eq_false',Bool.not_eq_true] at *)
  all_goals (unfold matE matB;simp [*])
set_option maxHeartbeats 1000000 in
theorem q4j (a b c d e f:Int) (w:World) :
    Calls Tryz.prog 138 #[.agg #[.int .i64 a,.int .i64 b,.int .i64 c,.int .i64 d,.int .i64 e,.int .i64 f]] w fun x w'=>x=.returned (.int .i64 (matE a b c d e f))∧(w.alloc (.cells #[.int .i64 a,.int .i64 b,.int .i64 c,.int .i64 d,.int .i64 e,.int .i64 f] 50))=w':=by
  go_enter Tryz.func138,Tryz.ntmps138
  go_wp2_with (first |(go_at_call 12;refine (q35 _ _ _ _).mono ?_;rintro e w' ⟨rfl,rfl⟩))
  all_goals go_ret
  all_goals refine ⟨q0u ?_,rfl⟩
  all_goals (go_tidy;try simp only [Bool.not_eq_true] at *)
  all_goals (unfold matE matB;simp [*])
theorem q68 {a b c d e f:Int} (h:matE a b c d e f=0):(-1048576≤a∧a≤1048576)∧(-1048576≤b∧b≤1048576)∧(-1048576≤c∧c≤1048576)∧(-1048576≤d∧d≤1048576)∧(-268435456≤e∧e≤268435456)∧(-268435456≤f∧f≤268435456):=by
  unfold matE at h
  split at h
  · rename_i h'
    unfold matB at h'
    simp only [Bool.and_eq_true] at h'
    obtain ⟨h1,h2,h3,h4,h5,h6⟩:=h'
    exact ⟨inB_iff.1 h1,inB_iff.1 h2,inB_iff.1 h3,inB_iff.1 h4,inB_iff.1 h5,inB_iff.1 h6⟩
  · simp at h
theorem q8t (a b c d e f:Int):matE a b c d e f=0∨matE a b c d e f=3:=by unfold matE;split <;> simp
theorem q3g {a x:Int} (ha:-1048576≤a∧a≤1048576) (hx:-1048576≤x∧x≤1048576):-1099511627776≤a*x∧a*x≤1099511627776:=by
  have h1:a.natAbs*x.natAbs≤1048576*1048576:=Nat.mul_le_mul (by omega) (by omega)
  have h2:(a*x).natAbs≤1099511627776:=by rw [Int.natAbs_mul];omega
  omega
theorem q2d {a x:Int} (ha:-1048576≤a∧a≤1048576) (hx:-268435456≤x∧x≤268435456):-281474976710656≤a*x∧a*x≤281474976710656:=by
  have h1:a.natAbs*x.natAbs≤1048576*268435456:=Nat.mul_le_mul (by omega) (by omega)
  have h2:(a*x).natAbs≤281474976710656:=by rw [Int.natAbs_mul];omega
  omega
end Go.Proofs.YticolnghiibgfaaGreat
namespace Go.Proofs.YticolnghiibgfaaGreat
open Go.RowKit
def sg (s x:Int):Int:=s*x
theorem x0b (x s d:Int) (p q:Nat) (w:World) (hs:∀ o,w.cell? ⟨p,o,none⟩=#[.int .i64 s][o]?) (hd:∀ o,w.cell? ⟨q,o,none⟩=#[.int .i64 d][o]?)
    (h1:-4611686018427387904≤s*x∧s*x≤4611686018427387904) (h2:1≤d∧d≤4611686018427387904) :
    Calls Tryz.prog 143 #[.int .i64 x,.pointer (some ⟨p,0,none⟩),.pointer (some ⟨q,0,none⟩)] w fun e w'=>e=.returned (.int .i64 (near (sg s x) d))∧w=w':=by
  go_enter Tryz.func143,Tryz.ntmps143
  go_wp2_with (go_at_call 110;refine (q16 _ _ _ ?_ ?_).mono ?_;omega;omega;rintro e w' ⟨rfl,rfl⟩)
  go_ret
  exact ⟨rfl,rfl⟩
def out6 (a b c d e f:Int):Value :=
  if matE a b c d e f=0 then .tuple #[.agg #[.int .i64 a,.int .i64 b,.int .i64 c,.int .i64 d,.int .i64 e,.int .i64 f],.int .i64 0]
  else .tuple #[.agg #[.int .i64 0,.int .i64 0,.int .i64 0,.int .i64 0,.int .i64 0,.int .i64 0],.int .i64 10]
def invO (s D a b c d e f:Int):Value :=
  out6 (near (sg s (16777216*d)) D) (near (sg s (-16777216*b)) D) (near (sg s (-16777216*c)) D) (near (sg s (16777216*a)) D) (near (sg s (4096*(c*f-d*e))) D) (near (sg s (4096*(b*e-a*f))) D)
set_option maxHeartbeats 4000000 in
theorem x33 (a b c d e f:Int) (w:World) (hm:matE a b c d e f=0) (hd:0<a*d-b*c) :
    Calls Tryz.prog 128 #[.agg #[.int .i64 a,.int .i64 b,.int .i64 c,.int .i64 d,.int .i64 e,.int .i64 f]] w fun r w'=>r=.returned (invO (1) (a*d-b*c) a b c d e f)∧Below w.heap.size w w':=by
  obtain ⟨x1,x2,x3,x4,x5,x6⟩:=q68 hm
  have p1:=q3g x1 x4
  have p2:=q3g x2 x3
  have p3:=q2d x3 x6
  have p4:=q2d x4 x5
  have p5:=q2d x2 x5
  have p6:=q2d x1 x6
  go_enter Tryz.func128,Tryz.ntmps128
  go_wp2_with (first |(go_at_call 142;refine (q58 _ _ _ _ _ _ _).mono ?_;rintro e w' ⟨rfl,rfl⟩;simp only []))
  refine mix1 49 8 (.cells #[.int .i64 0,.int .i64 0,.int .i64 0,.int .i64 0,.int .i64 0,.int .i64 0] 50) (by kernel_rfl) (by kernel_rfl) ⟨by rfl,by simp⟩ ⟨_,rfl,rfl,rfl,fun f w=>by kernel_rfl⟩ ?_
  apply Exists.intro
  refine ⟨fun F=>?_,fun nb w9 hbn hbel hblk=>?_⟩
  · haveI:=F.ne
    simp only [List.take_succ_cons,List.take_zero]
    repeat (go_big_quiet_step (first |(go_at_call 143;exact q17 (x0b _ (1) (a*d-b*c) _ _ _ (by intro o;simp [go_sem]) (by intro o;simp [go_sem]) (by omega) (by omega)))))
    exact wpQuiet_nil rfl
  obtain ⟨hc9,hf9,hz9⟩:=q43 hbel
  obtain ⟨hn9,hnf9,hl9⟩:=q9u hblk
  clear hblk
  have hB9:Below w.heap.size w w9:=z0m hbel (by exact blQ) (by simp only [World.size_alloc];omega)
  have hr9:∀ o,w9.cell? ⟨w.heap.size+1,o,none⟩=#[.int .i64 0,.int .i64 0,.int .i64 0,.int .i64 0,.int .i64 0,.int .i64 0][o]?:=fun o=>by
    rw [hc9];simp [go_sem]
  have hrf9:∀ o,w9.frozen? ⟨w.heap.size+1,o,none⟩=false:=fun o=>by
    rw [hf9];simp [go_sem]
  simp only [World.size_alloc] at hbn hz9 hc9 hf9
  have hm9:∀ o,w9.cell? ⟨nb,o,none⟩=#[.int .i64 0,.int .i64 0,.int .i64 0,.int .i64 0,.int .i64 0,.int .i64 0][o]?:=fun o=>by
    rw [hc9,if_neg (by omega),hn9]
  have hmf9:∀ o,w9.frozen? ⟨nb,o,none⟩=false:=fun o=>by
    rw [hf9,if_neg (by omega),hnf9]
  clear hc9 hf9 hn9 hnf9 hbel
  simp only [List.drop_succ_cons,List.drop_zero,Act.put,List.setIfInBounds_toArray,List.set_cons_succ,List.set_cons_zero]
  clear p1 p2 p3 p4 p5 p6 x1 x2 x3 x4 x5 x6
  have HR:Hid (invO (1) (a*d-b*c) a b c d e f=out6 (near (sg (1) (16777216*d)) (a*d-b*c)) (near (sg (1) (-16777216*b)) (a*d-b*c)) (near (sg (1) (-16777216*c)) (a*d-b*c)) (near (sg (1) (16777216*a)) (a*d-b*c)) (near (sg (1) (4096*(c*f-d*e))) (a*d-b*c)) (near (sg (1) (4096*(b*e-a*f))) (a*d-b*c))):=rfl
  generalize near (sg (1) (16777216*d)) (a*d-b*c)=n0 at HR ⊢
  generalize near (sg (1) (-16777216*b)) (a*d-b*c)=n1 at HR ⊢
  generalize near (sg (1) (-16777216*c)) (a*d-b*c)=n2 at HR ⊢
  generalize near (sg (1) (16777216*a)) (a*d-b*c)=n3 at HR ⊢
  generalize near (sg (1) (4096*(c*f-d*e))) (a*d-b*c)=n4 at HR ⊢
  generalize near (sg (1) (4096*(b*e-a*f))) (a*d-b*c)=n5 at HR ⊢
  rcases q8t n0 n1 n2 n3 n4 n5 with ho |ho
  all_goals go_wp2_with (first |(go_at_call 142;refine (q58 _ _ _ _ _ _ _).mono ?_;rintro e w' ⟨rfl,rfl⟩;simp only []))
  all_goals try simp only [Exit.inBlock,Exit.then]
  · refine bodyPost_ret (by simp [results,Tryz.results128,go_sem,hr9,↓IntWalk.iteOmega];try rfl) rfl ?_
    exact ⟨by rw [HR.out,out6,if_pos ho],by exact blQ⟩
  · refine bodyPost_ret (by simp [results,Tryz.results128,go_sem,hr9,↓IntWalk.iteOmega];try rfl) rfl ?_
    exact ⟨by rw [HR.out,out6,if_neg (by rw [ho];decide)],by exact blQ⟩
set_option maxHeartbeats 4000000 in
theorem x1r (a b c d e f:Int) (w:World) (hm:matE a b c d e f=0) (hd:a*d-b*c=0) :
    Calls Tryz.prog 128 #[.agg #[.int .i64 a,.int .i64 b,.int .i64 c,.int .i64 d,.int .i64 e,.int .i64 f]] w fun r w'=>r=.returned (.tuple #[.agg #[.int .i64 0,.int .i64 0,.int .i64 0,.int .i64 0,.int .i64 0,.int .i64 0],.int .i64 8])∧Below w.heap.size w w':=by
  obtain ⟨x1,x2,x3,x4,x5,x6⟩:=q68 hm
  have p1:=q3g x1 x4
  have p2:=q3g x2 x3
  go_enter Tryz.func128,Tryz.ntmps128
  go_wp2_with (first |(go_at_call 142;refine (q58 _ _ _ _ _ _ _).mono ?_;rintro e w' ⟨rfl,rfl⟩))
  go_returns
  exact ⟨rfl,by exact blQ⟩
set_option maxHeartbeats 4000000 in
theorem x58 (a b c d e f:Int) (w:World) (hm:matE a b c d e f=3) :
    Calls Tryz.prog 128 #[.agg #[.int .i64 a,.int .i64 b,.int .i64 c,.int .i64 d,.int .i64 e,.int .i64 f]] w fun r w'=>r=.returned (.tuple #[.agg #[.int .i64 0,.int .i64 0,.int .i64 0,.int .i64 0,.int .i64 0,.int .i64 0],.int .i64 3])∧Below w.heap.size w w':=by
  go_enter Tryz.func128,Tryz.ntmps128
  go_wp2_with (first |(go_at_call 142;refine (q58 _ _ _ _ _ _ _).mono ?_;rintro e w' ⟨rfl,rfl⟩))
  go_returns
  exact ⟨rfl,by exact blQ⟩
end Go.Proofs.YticolnghiibgfaaGreat
namespace Go.Proofs.YticolnghiibgfaaGreat
open Go.RowKit
set_option maxHeartbeats 4000000 in
theorem x34 (a b c d e f:Int) (w:World) (hm:matE a b c d e f=0) (hd:a*d-b*c<0) :
    Calls Tryz.prog 128 #[.agg #[.int .i64 a,.int .i64 b,.int .i64 c,.int .i64 d,.int .i64 e,.int .i64 f]] w fun r w'=>r=.returned (invO (-1) (-(a*d-b*c)) a b c d e f)∧Below w.heap.size w w':=by
  obtain ⟨x1,x2,x3,x4,x5,x6⟩:=q68 hm
  have p1:=q3g x1 x4
  have p2:=q3g x2 x3
  have p3:=q2d x3 x6
  have p4:=q2d x4 x5
  have p5:=q2d x2 x5
  have p6:=q2d x1 x6
  go_enter Tryz.func128,Tryz.ntmps128
  go_wp2_with (first |(go_at_call 142;refine (q58 _ _ _ _ _ _ _).mono ?_;rintro e w' ⟨rfl,rfl⟩;simp only []))
  refine mix1 49 8 (.cells #[.int .i64 0,.int .i64 0,.int .i64 0,.int .i64 0,.int .i64 0,.int .i64 0] 50) (by kernel_rfl) (by kernel_rfl) ⟨by rfl,by simp⟩ ⟨_,rfl,rfl,rfl,fun f w=>by kernel_rfl⟩ ?_
  apply Exists.intro
  refine ⟨fun F=>?_,fun nb w9 hbn hbel hblk=>?_⟩
  · haveI:=F.ne
    simp only [List.take_succ_cons,List.take_zero]
    repeat (go_big_quiet_step (first |(go_at_call 143;exact q17 (x0b _ (-1) (-(a*d-b*c)) _ _ _ (by intro o;simp [go_sem]) (by intro o;simp [go_sem]) (by omega) (by omega)))))
    exact wpQuiet_nil rfl
  obtain ⟨hc9,hf9,hz9⟩:=q43 hbel
  obtain ⟨hn9,hnf9,hl9⟩:=q9u hblk
  clear hblk
  have hB9:Below w.heap.size w w9:=z0m hbel (by exact blQ) (by simp only [World.size_alloc];omega)
  have hr9:∀ o,w9.cell? ⟨w.heap.size+1,o,none⟩=#[.int .i64 0,.int .i64 0,.int .i64 0,.int .i64 0,.int .i64 0,.int .i64 0][o]?:=fun o=>by
    rw [hc9];simp [go_sem]
  have hrf9:∀ o,w9.frozen? ⟨w.heap.size+1,o,none⟩=false:=fun o=>by
    rw [hf9];simp [go_sem]
  simp only [World.size_alloc] at hbn hz9 hc9 hf9
  have hm9:∀ o,w9.cell? ⟨nb,o,none⟩=#[.int .i64 0,.int .i64 0,.int .i64 0,.int .i64 0,.int .i64 0,.int .i64 0][o]?:=fun o=>by
    rw [hc9,if_neg (by omega),hn9]
  have hmf9:∀ o,w9.frozen? ⟨nb,o,none⟩=false:=fun o=>by
    rw [hf9,if_neg (by omega),hnf9]
  clear hc9 hf9 hn9 hnf9 hbel
  simp only [List.drop_succ_cons,List.drop_zero,Act.put,List.setIfInBounds_toArray,List.set_cons_succ,List.set_cons_zero]
  clear p1 p2 p3 p4 p5 p6 x1 x2 x3 x4 x5 x6
  have HR:Hid (invO (-1) (-(a*d-b*c)) a b c d e f=out6 (near (sg (-1) (16777216*d)) (-(a*d-b*c))) (near (sg (-1) (-16777216*b)) (-(a*d-b*c))) (near (sg (-1) (-16777216*c)) (-(a*d-b*c))) (near (sg (-1) (16777216*a)) (-(a*d-b*c))) (near (sg (-1) (4096*(c*f-d*e))) (-(a*d-b*c))) (near (sg (-1) (4096*(b*e-a*f))) (-(a*d-b*c)))):=rfl
  generalize near (sg (-1) (16777216*d)) (-(a*d-b*c))=n0 at HR ⊢
  generalize near (sg (-1) (-16777216*b)) (-(a*d-b*c))=n1 at HR ⊢
  generalize near (sg (-1) (-16777216*c)) (-(a*d-b*c))=n2 at HR ⊢
  generalize near (sg (-1) (16777216*a)) (-(a*d-b*c))=n3 at HR ⊢
  generalize near (sg (-1) (4096*(c*f-d*e))) (-(a*d-b*c))=n4 at HR ⊢
  generalize near (sg (-1) (4096*(b*e-a*f))) (-(a*d-b*c))=n5 at HR ⊢
  rcases q8t n0 n1 n2 n3 n4 n5 with ho |ho
  all_goals go_wp2_with (first |(go_at_call 142;refine (q58 _ _ _ _ _ _ _).mono ?_;rintro e w' ⟨rfl,rfl⟩;simp only []))
  all_goals try simp only [Exit.inBlock,Exit.then]
  · refine bodyPost_ret (by simp [results,Tryz.results128,go_sem,hr9,↓IntWalk.iteOmega];try rfl) rfl ?_
    exact ⟨by rw [HR.out,out6,if_pos ho],by exact blQ⟩
  · refine bodyPost_ret (by simp [results,Tryz.results128,go_sem,hr9,↓IntWalk.iteOmega];try rfl) rfl ?_
    exact ⟨by rw [HR.out,out6,if_neg (by rw [ho];decide)],by exact blQ⟩
end Go.Proofs.YticolnghiibgfaaGreat
namespace Go.Proofs.YticolnghiibgfaaGreat
open Go.RowKit
theorem q31 (s y x b:Int) (w:World) (hx:x=s*y) (ha:-4611686018427387904≤x∧x≤4611686018427387904) (hb:1≤b∧b≤4611686018427387904) :
    Calls Tryz.prog 121 #[.int .i64 x,.int .i64 b] w fun e w'=>e=.returned (.int .i64 (near (sg s y) b))∧w=w':=by
  have:=z4n x b w ha hb
  rw [show sg s y=x from hx.symm]
  exact this
set_option maxHeartbeats 4000000 in
theorem x1s (a b c d e f:Int) (w:World) (hm:matE a b c d e f=0) (hd:0<a*d-b*c) :
    Calls Tryz.prog 114 #[.agg #[.int .i64 a,.int .i64 b,.int .i64 c,.int .i64 d,.int .i64 e,.int .i64 f]] w fun r w'=>r=.returned (invO (1) (a*d-b*c) a b c d e f)∧Below w.heap.size w w':=by
  obtain ⟨x1,x2,x3,x4,x5,x6⟩:=q68 hm
  have p1:=q3g x1 x4
  have p2:=q3g x2 x3
  have p3:=q2d x3 x6
  have p4:=q2d x4 x5
  have p5:=q2d x2 x5
  have p6:=q2d x1 x6
  go_enter Tryz.func114,Tryz.ntmps114
  go_wp2_with (first |(go_at_call 138;refine (q4j _ _ _ _ _ _ _).mono ?_;rintro e w' ⟨rfl,rfl⟩;simp only []))
  simp only [List.append_eq,List.cons_append,List.nil_append]
  refine mix1 67 7 (.cells #[.int .i64 0,.int .i64 0,.int .i64 0,.int .i64 0,.int .i64 0,.int .i64 0] 50) (by kernel_rfl) (by kernel_rfl) ⟨by rfl,by simp⟩ ⟨_,rfl,rfl,rfl,fun f w=>by kernel_rfl⟩ ?_
  apply Exists.intro
  refine ⟨fun F=>?_,fun nb w9 hbn hbel hblk=>?_⟩
  · haveI:=F.ne
    simp only [List.take_succ_cons,List.take_zero]
    repeat (go_big_quiet_step (first |(go_at_call 121;first |exact q17 (q31 (1) (16777216*d) _ _ _ (by omega) (by omega) (by omega)) |exact q17 (q31 (1) (-16777216*b) _ _ _ (by omega) (by omega) (by omega)) |exact q17 (q31 (1) (-16777216*c) _ _ _ (by omega) (by omega) (by omega)) |exact q17 (q31 (1) (16777216*a) _ _ _ (by omega) (by omega) (by omega)) |exact q17 (q31 (1) (4096*(c*f-d*e)) _ _ _ (by omega) (by omega) (by omega)) |exact q17 (q31 (1) (4096*(b*e-a*f)) _ _ _ (by omega) (by omega) (by omega)))))
    exact wpQuiet_nil rfl
  obtain ⟨hc9,hf9,hz9⟩:=q43 hbel
  obtain ⟨hn9,hnf9,hl9⟩:=q9u hblk
  clear hblk
  have hB9:Below w.heap.size w w9:=z0m hbel (by exact blQ) (by simp only [World.size_alloc];omega)
  have hr9:∀ o,w9.cell? ⟨w.heap.size+1,o,none⟩=#[.int .i64 0,.int .i64 0,.int .i64 0,.int .i64 0,.int .i64 0,.int .i64 0][o]?:=fun o=>by
    rw [hc9];simp [go_sem]
  have hrf9:∀ o,w9.frozen? ⟨w.heap.size+1,o,none⟩=false:=fun o=>by
    rw [hf9];simp [go_sem]
  simp only [World.size_alloc] at hbn hz9 hc9 hf9
  have hm9:∀ o,w9.cell? ⟨nb,o,none⟩=#[.int .i64 0,.int .i64 0,.int .i64 0,.int .i64 0,.int .i64 0,.int .i64 0][o]?:=fun o=>by
    rw [hc9,if_neg (by omega),hn9]
  have hmf9:∀ o,w9.frozen? ⟨nb,o,none⟩=false:=fun o=>by
    rw [hf9,if_neg (by omega),hnf9]
  clear hc9 hf9 hn9 hnf9 hbel
  simp only [List.drop_succ_cons,List.drop_zero,Act.put,List.setIfInBounds_toArray,List.set_cons_succ,List.set_cons_zero]
  clear p1 p2 p3 p4 p5 p6 x1 x2 x3 x4 x5 x6
  have HR:Hid (invO (1) (a*d-b*c) a b c d e f=out6 (near (sg (1) (16777216*d)) (a*d-b*c)) (near (sg (1) (-16777216*b)) (a*d-b*c)) (near (sg (1) (-16777216*c)) (a*d-b*c)) (near (sg (1) (16777216*a)) (a*d-b*c)) (near (sg (1) (4096*(c*f-d*e))) (a*d-b*c)) (near (sg (1) (4096*(b*e-a*f))) (a*d-b*c))):=rfl
  generalize near (sg (1) (16777216*d)) (a*d-b*c)=n0 at HR ⊢
  generalize near (sg (1) (-16777216*b)) (a*d-b*c)=n1 at HR ⊢
  generalize near (sg (1) (-16777216*c)) (a*d-b*c)=n2 at HR ⊢
  generalize near (sg (1) (16777216*a)) (a*d-b*c)=n3 at HR ⊢
  generalize near (sg (1) (4096*(c*f-d*e))) (a*d-b*c)=n4 at HR ⊢
  generalize near (sg (1) (4096*(b*e-a*f))) (a*d-b*c)=n5 at HR ⊢
  rcases q8t n0 n1 n2 n3 n4 n5 with ho |ho
  all_goals go_wp2_with (first |(go_at_call 138;refine (q4j _ _ _ _ _ _ _).mono ?_;rintro e w' ⟨rfl,rfl⟩;simp only []))
  all_goals try simp only [Exit.inBlock,Exit.then]
  · refine bodyPost_ret (by simp [results,Tryz.results114,go_sem,hr9,↓IntWalk.iteOmega];try rfl) rfl ?_
    exact ⟨by rw [HR.out,out6,if_pos ho],by exact blQ⟩
  · refine bodyPost_ret (by simp [results,Tryz.results114,go_sem,hr9,↓IntWalk.iteOmega];try rfl) rfl ?_
    exact ⟨by rw [HR.out,out6,if_neg (by rw [ho];decide)],by exact blQ⟩
set_option maxHeartbeats 4000000 in
theorem x0c (a b c d e f:Int) (w:World) (hm:matE a b c d e f=0) (hd:a*d-b*c=0) :
    Calls Tryz.prog 114 #[.agg #[.int .i64 a,.int .i64 b,.int .i64 c,.int .i64 d,.int .i64 e,.int .i64 f]] w fun r w'=>r=.returned (.tuple #[.agg #[.int .i64 0,.int .i64 0,.int .i64 0,.int .i64 0,.int .i64 0,.int .i64 0],.int .i64 8])∧Below w.heap.size w w':=by
  obtain ⟨x1,x2,x3,x4,x5,x6⟩:=q68 hm
  have p1:=q3g x1 x4
  have p2:=q3g x2 x3
  go_enter Tryz.func114,Tryz.ntmps114
  go_wp2_with (first |(go_at_call 138;refine (q4j _ _ _ _ _ _ _).mono ?_;rintro e w' ⟨rfl,rfl⟩))
  go_returns
  exact ⟨rfl,by exact blQ⟩
set_option maxHeartbeats 4000000 in
theorem x35 (a b c d e f:Int) (w:World) (hm:matE a b c d e f=3) :
    Calls Tryz.prog 114 #[.agg #[.int .i64 a,.int .i64 b,.int .i64 c,.int .i64 d,.int .i64 e,.int .i64 f]] w fun r w'=>r=.returned (.tuple #[.agg #[.int .i64 0,.int .i64 0,.int .i64 0,.int .i64 0,.int .i64 0,.int .i64 0],.int .i64 3])∧Below w.heap.size w w':=by
  go_enter Tryz.func114,Tryz.ntmps114
  go_wp2_with (first |(go_at_call 138;refine (q4j _ _ _ _ _ _ _).mono ?_;rintro e w' ⟨rfl,rfl⟩))
  go_returns
  exact ⟨rfl,by exact blQ⟩
end Go.Proofs.YticolnghiibgfaaGreat
