/-
  Merged: XSrcMem, XListOk, XListOk2, XListOk3.
-/
import Derived.Test.YticolnghiibgfaaGreatMrg30
set_option linter.unusedVariables false
set_option linter.unusedSimpArgs false
set_option linter.unnecessarySimpa false
namespace Go.Proofs.YticolnghiibgfaaGreat
open Go.RowKit Go.Proofs.YticolnghiibgfaaGreat.gradientRamps Go.Proofs.YticolnghiibgfaaGreat.gradientPlaces Go.Proofs.YticolnghiibgfaaGreat.imageCells
set_option maxRecDepth 20000
theorem x80 {n:Nat} {P:Nat→Int} {V:Nat→Nat→Int} {t:Int} {j:Nat} (hn:1≤n) (hV:∀ i,i<n→0≤V i j∧V i j≤255):0≤q6k n P V t j∧q6k n P V t j≤255:=by
  unfold q6k
  cases hk:q3x P t n with
  | zero=>rw [if_pos rfl];exact hV 0 (by omega)
  | succ k =>
    obtain ⟨hkn,hle,hno⟩:=z1n hk
    rw [if_neg (by omega),Nat.add_sub_cancel]
    split
    · exact hV k hkn
    · rename_i h
      have hk1:k+1<n:=by
        rcases Nat.lt_or_ge (k+1) n with h1 |h1
        · exact h1
        · exact absurd (.inl (by omega)) h
      have h2:=hno (k+1) (by omega) hk1
      have h3:=z95 (p:=P (k+1)-t) (q:=t-P k) (by omega) (by omega) (hV k hkn) (hV (k+1) hk1) (by omega)
      rw [Int.mul_comm (V k j),Int.mul_comm (V (k+1) j),show P (k+1)-P k=(P (k+1)-t)+(t-P k) by omega]
      exact h3
structure SrcG (G:Mem) (i:ItemD) (gs gp gf:Nat→Nat→Value):Prop where
  stop:i.n≤i.q∧i.q≤maxLen∧SliceM Tryz.prog G 119 i.A i.n gs
  pix:i.pn≤i.pq∧i.pq≤maxLen∧SliceM Tryz.prog G 28 i.B i.pn gp
  soft:i.sn≤i.sq∧i.sq≤maxLen∧SliceM Tryz.prog G 5 i.C i.sn gf
  ink:∀ j,j<8→0≤i.I j∧i.I j≤255
structure ItemG (G:Mem) (i:ItemD) (gr gs gp gf:Nat→Nat→Value):Prop where
  run:i.rn≤i.rq∧i.rq≤maxLen∧SliceM Tryz.prog G 87 i.RA i.rn gr
  src:SrcG G i gs gp gf
  al:0≤i.al∧i.al≤255
abbrev setS (i:ItemD) (A:Option Addr) (q:Nat) (B:Option Addr) (pq:Nat) (C:Option Addr) (sq:Nat):ItemD:=⟨i.K,i.RA,i.rn,i.rq,i.k,i.I,i.fx,i.fy,i.tx,i.ty,i.r,A,i.n,q,i.W,i.H,B,i.pn,pq,C,i.sn,sq,i.a,i.b,i.c,i.d,i.e,i.f,i.s,i.t,i.al,i.bl,i.ov,i.iso,i.kn⟩
theorem q8y {G:Mem} {w:World} {A:Option Addr} {n:Nat} {g:Nat→Nat→Value} (h:SliceM Tryz.prog G 119 A n g) (hG:G.holds w):SliceG Tryz.prog w 119 A n g:=h.at (k:=20) (by kernel_rfl) (of_decide_eq_true (by kernel_rfl)) hG
theorem x62 {G:Mem} {w:World} {A:Option Addr} {n:Nat} {g:Nat→Nat→Value} (h:SliceM Tryz.prog G 28 A n g) (hG:G.holds w):SliceG Tryz.prog w 28 A n g:=h.at (k:=20) (by kernel_rfl) (of_decide_eq_true (by kernel_rfl)) hG
theorem v1m {G:Mem} {A B:Option Addr} {n m:Nat} {g h:Nat→Nat→Value} (h1:SliceM Tryz.prog G 28 A n g) (h2:SliceM Tryz.prog G 5 B m h):Pics G A n (fun x j=>valI (g x j)) B m (fun x=>valI (h x 0)):=by
  have e8:Tryz.prog.cellsOf 28=8:=by kernel_rfl
  have e1:Tryz.prog.cellsOf 5=1:=by kernel_rfl
  obtain ⟨⟨w1,A1,s1⟩,h1⟩:=h1
  obtain ⟨⟨w2,A2,s2⟩,h2⟩:=h2
  rw [e8] at h1
  rw [e1] at h2
  refine ⟨fun x hx=>?_,fun x hx=>?_⟩
  · obtain ⟨b,off,hA,hc⟩:=h1 (by omega)
    refine ⟨b,off,hA,fun j hj=>?_⟩
    rw [← (s1.int (by kernel_rfl) hx (z3n hj)).1];exact hc x hx j hj
  · obtain ⟨b,off,hA,hc⟩:=h2 (by omega)
    refine ⟨b,off,hA,?_⟩
    have:=hc x hx 0 (by omega)
    rw [Nat.mul_one,Nat.add_zero] at this
    rw [← (s2.int (j:=0) (k:=.u8) (by kernel_rfl) hx (by kernel_rfl)).1];exact this
theorem z7c {G:Mem} {A:Option Addr} {n:Nat} {g:Nat→Nat→Value} (h:SliceM Tryz.prog G 87 A n g):RunsM G A (q2m (fun x=>⟨valI (g x 0),valI (g x 1),valI (g x 2)⟩) n):=by
  have e3:Tryz.prog.cellsOf 87=3:=by kernel_rfl
  have ef:flat Tryz.prog 20 87=[.int .i64,.int .i64,.int .i64]:=by kernel_rfl
  obtain ⟨⟨w1,A1,s1⟩,h1⟩:=h
  rw [e3] at h1
  intro i r hr
  have hi:i<n:=by have:=(List.getElem?_eq_some_iff.1 hr).1;simpa [q2m] using this
  obtain ⟨b,off,hA,hc⟩:=h1 (by omega)
  have hr2:r=⟨valI (g i 0),valI (g i 1),valI (g i 2)⟩:=by
    simp [q2m,List.getElem?_range hi] at hr;exact hr.symm
  subst hr2
  refine ⟨b,off,hA,?_,?_,?_⟩
  · rw [← (s1.int (j:=0) (k:=.i64) (by kernel_rfl) hi (by rw [ef];rfl)).1];exact hc i hi 0 (by omega)
  · rw [← (s1.int (j:=1) (k:=.i64) (by kernel_rfl) hi (by rw [ef];rfl)).1];exact hc i hi 1 (by omega)
  · rw [← (s1.int (j:=2) (k:=.i64) (by kernel_rfl) hi (by rw [ef];rfl)).1];exact hc i hi 2 (by omega)
section
variable {w:World} {A:Option Addr} {n:Nat} {g:Nat→Nat→Value}
theorem x63 (h:SliceG Tryz.prog w 56 A n g) {x:Nat} (hx:x<n):∃ gr gs gp gf,ItemG (q2k w) (q23 (g x)) gr gs gp gf:=by
  obtain ⟨m1,h1⟩:=h.seen (j:=1) q05 hx (by rw [q0v];rfl)
  obtain ⟨m16,h16⟩:=h.seen (j:=16) q05 hx (by rw [q0v];rfl)
  obtain ⟨m19,h19⟩:=h.seen (j:=19) q05 hx (by rw [q0v];rfl)
  obtain ⟨m20,h20⟩:=h.seen (j:=20) q05 hx (by rw [q0v];rfl)
  obtain ⟨a1,a2,gr,a3⟩:=(q4o uRun cRun h1).2
  obtain ⟨b1,b2,gs,b3⟩:=(q4o x9l x9m h16).2
  obtain ⟨c1,c2,gp,c3⟩:=(q4o x9n x9o h19).2
  obtain ⟨d1,d2,gf,d3⟩:=(q4o x6k x6l h20).2
  refine ⟨gr,gs,gp,gf,⟨a1,a2,SliceM.of a3⟩,⟨⟨b1,b2,SliceM.of b3⟩,⟨c1,c2,SliceM.of c3⟩,⟨d1,d2,SliceM.of d3⟩,fun j hj=>?_⟩,?_⟩
  · refine q8u (h.int (j:=j+3) (k:=.u8) q05 hx ?_).2
    rw [q0v]
    match j,hj with
    | 0,_=>rfl
    | 1,_=>rfl
    | 2,_=>rfl
    | 3,_=>rfl
    | 4,_=>rfl
    | 5,_=>rfl
    | 6,_=>rfl
    | 7,_=>rfl
  · exact q8u (h.int (j:=29) (k:=.u8) q05 hx (by rw [q0v];rfl)).2
end
section
variable {G:Mem} {A:Option Addr} {n:Nat} {g:Nat→Nat→Value}
structure SrcBoth (M:Mem) (i:ItemD) (fi:SrcF):Prop where
  prog:GivesM Tryz.prog 77 [q2f i] M fun v F=>IsSrc F v fi
  ref:∀ x y:Int,(-8192≤x∧x<8192)→(-8192≤y∧y<8192)→Gives Tryz.prog 89 [q2f i,.val (.int .i64 x),.val (.int .i64 y)] M (.tup [q1q (fi x y).1,.val (.int .i64 (fi x y).2)])
  bd:∀ x y:Int,(-8192≤x∧x<8192)→(-8192≤y∧y<8192)→z0t (fi x y).1∧0≤(fi x y).2∧(fi x y).2≤255
theorem x64 {i:ItemD} (h:∀ j,j<8→0≤i.I j∧i.I j≤255) (hk:i.k=0) (G:Mem) (A:Option Addr) (q:Nat) (B:Option Addr) (pq:Nat) (C:Option Addr) (sq:Nat):SrcBoth G (setS i A q B pq C sq) fun _ _=>(i.I,255):=by
  refine ⟨?_,fun x y _ _=>?_,fun x y _ _=>⟨h,show (0:Int)≤255 by omega,Int.le_refl _⟩⟩
  · have:=q7a (I:=i.I) (fx:=i.fx) (fy:=i.fy) (tx:=i.tx) (ty:=i.ty) (r:=i.r) (A:=A) (n:=i.n) (q:=q) (W:=i.W) (H:=i.H) (B:=B) (pn:=i.pn) (pq:=pq) (C:=C) (sn:=i.sn) (sq:=sq) (a:=i.a) (b:=i.b) (c:=i.c) (d:=i.d) (e:=i.e) (f:=i.f) (s:=i.s) (t:=i.t) (G:=G)
    rw [← hk] at this;exact this
  · have:=z60 (I:=i.I) (fx:=i.fx) (fy:=i.fy) (tx:=i.tx) (ty:=i.ty) (r:=i.r) (A:=A) (n:=i.n) (q:=q) (W:=i.W) (H:=i.H) (B:=B) (pn:=i.pn) (pq:=pq) (C:=C) (sn:=i.sn) (sq:=sq) (a:=i.a) (b:=i.b) (c:=i.c) (d:=i.d) (e:=i.e) (f:=i.f) (s:=i.s) (t:=i.t) (x:=x) (y:=y) (G:=G)
    rw [← hk] at this;exact this
set_option maxHeartbeats 8000000 in
theorem x81 {i:ItemD} {g:Nat→Nat→Value} (hs0:∃ w0 A0,SliceG Tryz.prog w0 119 A0 i.n g) (hk:i.k=1∨i.k=2) {z:Bool} (he:q2s i.k z i.fx i.fy i.tx i.ty i.r (q1g (fun x=>valI (g x 0)) i.n)=0) :
    ∃ fi,∀ (G:Mem) (A:Option Addr) (q:Nat) (B:Option Addr) (pq:Nat) (C:Option Addr) (sq:Nat),SliceM Tryz.prog G 119 A i.n g→SrcBoth G (setS i A q B pq C sq) fi:=by
  have hst:=(x0k he (x:=0) (y:=0) (by omega) (by omega)).2
  have hn:=(q5a hst).1
  have hp:=fun (x y:Int) (hx:-8192≤x∧x<8192) (hy:-8192≤y∧y<8192)=>(x0k he hx hy).1
  have hv:=fun (x y:Int)=>x6d (k:=i.k) (fx:=i.fx) (fy:=i.fy) (tx:=i.tx) (ty:=i.ty) (r:=i.r) (x:=x) (y:=y)
  obtain ⟨w0,A0,hs0⟩:=hs0
  obtain ⟨_,_,_,_,hbd⟩:=z2p hs0 (by omega)
  have hb:=fun (x y:Int) j (hj:j<8)=>x80 (P:=fun x=>valI (g x 0)) (V:=fun x j=>valI (g x (j+1))) (t:=q4l i.k i.fx i.fy i.tx i.ty i.r x y) (j:=j) hn.1 fun k hk=>hbd k hk j hj
  refine ⟨fun x y=>(q6k i.n (fun x=>valI (g x 0)) (fun x j=>valI (g x (j+1))) (q4l i.k i.fx i.fy i.tx i.ty i.r x y),255),fun G A q B pq C sq hs=>?_⟩
  have hpl:=fun (x y:Int) (hx:-8192≤x∧x<8192) (hy:-8192≤y∧y<8192) (G:Mem)=>x1x (I:=i.I) (st:=.slice A i.n q) (W:=i.W) (H:=i.H) (px:=.slice B i.pn pq) (sf:=.slice C i.sn sq) (a:=i.a) (b:=i.b) (c:=i.c) (d:=i.d) (e:=i.e) (f:=i.f) (s:=i.s) (t:=i.t) (G:=G) (hp x y hx hy)
  have hrl:=fun (x y:Int) (hx:-8192≤x∧x<8192) (hy:-8192≤y∧y<8192) (G:Mem)=>x0j (I:=i.I) (st:=.slice A i.n q) (W:=i.W) (H:=i.H) (px:=.slice B i.pn pq) (sf:=.slice C i.sn sq) (a:=i.a) (b:=i.b) (c:=i.c) (d:=i.d) (e:=i.e) (f:=i.f) (s:=i.s) (t:=i.t) (G:=G) (hp x y hx hy)
  have hr1:=fun (x y:Int)=>Gives.worlds fun w hw=>x4b (q:=q) (q8y hs hw) hst (hv x y)
  have hr2:=fun (x y:Int)=>Gives.worlds fun w hw=>x1v (cap:=q) (q8y hs hw) hst (hv x y)
  obtain ⟨V,hV⟩:∃ V:Int→Int→Nat→Int,∀ x y,q6k i.n (fun x=>valI (g x 0)) (fun x j=>valI (g x (j+1))) (q4l i.k i.fx i.fy i.tx i.ty i.r x y)=V x y:=⟨_,fun _ _=>rfl⟩
  obtain ⟨Q,hQ⟩:∃ Q:Int→Int→Int,∀ x y,q4l i.k i.fx i.fy i.tx i.ty i.r x y=Q x y:=⟨_,fun _ _=>rfl⟩
  simp only [hV] at hr1 hr2 hb ⊢
  simp only [hQ] at hr1 hr2 hpl hrl
  clear hV hQ hv hp hbd
  refine ⟨?_,fun x y hx hy=>?_,fun x y _ _=>⟨fun j hj=>hb x y j hj,show (0:Int)≤255 by omega,Int.le_refl _⟩⟩
  · exact z8p (k:=i.k) (I:=i.I) (fx:=i.fx) (fy:=i.fy) (tx:=i.tx) (ty:=i.ty) (r:=i.r) (A:=A) (n:=i.n) (q:=q) (W:=i.W) (H:=i.H) (B:=B) (pn:=i.pn) (pq:=pq) (C:=C) (sn:=i.sn) (sq:=sq) (a:=i.a) (b:=i.b) (c:=i.c) (d:=i.d) (e:=i.e) (f:=i.f) (s:=i.s) (t:=i.t) (V:=V) hk fun x y hx hy=>⟨Q x y,fun G' hG=>hpl x y hx hy G',fun G' hG=>(hr1 x y).mono hG⟩
  · exact z8o (k:=i.k) (I:=i.I) (fx:=i.fx) (fy:=i.fy) (tx:=i.tx) (ty:=i.ty) (r:=i.r) (A:=A) (n:=i.n) (q:=q) (W:=i.W) (H:=i.H) (B:=B) (pn:=i.pn) (pq:=pq) (C:=C) (sn:=i.sn) (sq:=sq) (a:=i.a) (b:=i.b) (c:=i.c) (d:=i.d) (e:=i.e) (f:=i.f) (s:=i.s) (t:=i.t) (V:=V x y) (p:=Q x y) hk (hrl x y hx hy _) (hr2 x y)
set_option maxHeartbeats 8000000 in
theorem x65 {i:ItemD} {g1 g2:Nat→Nat→Value} (h1:∃ w0 A0,SliceG Tryz.prog w0 28 A0 i.pn g1) (h2:∃ w0 A0,SliceG Tryz.prog w0 5 A0 i.sn g2) (hk:i.k=3) {l:Int} (he:imgE i.W i.H i.pn i.sn l=0) :
    ∃ fi,∀ (G:Mem) (A:Option Addr) (q:Nat) (B:Option Addr) (pq:Nat) (C:Option Addr) (sq:Nat),SliceM Tryz.prog G 28 B i.pn g1→SliceM Tryz.prog G 5 C i.sn g2→SrcBoth G (setS i A q B pq C sq) fi:=by
  have ho:=(x23 he).1
  obtain ⟨w1,A1,k1⟩:=h1
  obtain ⟨w2,A2,k2⟩:=h2
  have hpx:∀ x j,x<i.pn→j<8→0≤valI (g1 x j)∧valI (g1 x j)≤255:=fun x j hx hj=>q8u (k1.int (by kernel_rfl) hx (z3n hj)).2
  have key:∀ x y:Int,∃ v:(Nat→Int) × Int,(-8192≤x∧x<8192)→(-8192≤y∧y<8192)→((0≤v.2∧v.2≤255)∧∀ j,j<8→0≤v.1 j∧v.1 j≤255)∧∀ (G:Mem) (B C:Option Addr) (pq sq:Nat),Pics G B i.pn (fun x j=>valI (g1 x j)) C i.sn (fun x=>valI (g2 x 0))→Gives Tryz.prog 102 [pntA i.W i.H (.slice B i.pn pq) (.slice C i.sn sq) i.a i.b i.c i.d i.e i.f i.s i.t (invL i.a i.b i.c i.d i.e i.f),.val (.int .i64 x),.val (.int .i64 y)] G (.tup [q1q v.1,.val (.int .u8 v.2)]) ∧
      Gives Tryz.prog 117 [imgA i.W i.H (.slice B i.pn pq) (.slice C i.sn sq) i.a i.b i.c i.d i.e i.f i.s i.t,.val (.int .i64 x),.val (.int .i64 y)] G (.tup [q1q v.1,.val (.int .i64 v.2)]):=fun x y=>by
    by_cases hu:(-8192≤x∧x<8192)∧(-8192≤y∧y<8192)
    · obtain ⟨R,so,a1,a2⟩:=x0s (a:=i.a) (b:=i.b) (c:=i.c) (d:=i.d) (e:=i.e) (f:=i.f) (s:=i.s) (r:=i.t) (P:=fun x j=>valI (g1 x j)) (S:=fun x=>valI (g2 x 0)) ho hpx (v0h k2) hu.1 hu.2
      exact ⟨(R,so),fun _ _=>⟨a1,a2⟩⟩
    · exact ⟨(fun _=>0,0),fun hx hy=>absurd ⟨hx,hy⟩ hu⟩
  have hF0:=fun x y=>Classical.choose_spec (key x y)
  generalize hFe:(fun x y=>Classical.choose (key x y))=F
  have hF:∀ x y:Int,(-8192≤x∧x<8192)→(-8192≤y∧y<8192)→((0≤(F x y).2∧(F x y).2≤255)∧∀ j,j<8→0≤(F x y).1 j∧(F x y).1 j≤255)∧∀ (G:Mem) (B C:Option Addr) (pq sq:Nat),Pics G B i.pn (fun x j=>valI (g1 x j)) C i.sn (fun x=>valI (g2 x 0))→Gives Tryz.prog 102 [pntA i.W i.H (.slice B i.pn pq) (.slice C i.sn sq) i.a i.b i.c i.d i.e i.f i.s i.t (invL i.a i.b i.c i.d i.e i.f),.val (.int .i64 x),.val (.int .i64 y)] G (.tup [q1q (F x y).1,.val (.int .u8 (F x y).2)]) ∧
      Gives Tryz.prog 117 [imgA i.W i.H (.slice B i.pn pq) (.slice C i.sn sq) i.a i.b i.c i.d i.e i.f i.s i.t,.val (.int .i64 x),.val (.int .i64 y)] G (.tup [q1q (F x y).1,.val (.int .i64 (F x y).2)]):=fun x y=>by
    rw [← hFe];exact hF0 x y
  clear hFe hF0 key
  refine ⟨fun x y=>(if (F x y).2=0 then fun _=>0 else (F x y).1,(F x y).2),fun G A q B pq C sq m1 m2=>?_⟩
  have hP:=v1m m1 m2
  refine ⟨?_,fun x y hx hy=>?_,fun x y hx hy=>⟨fun j hj=>?_,(hF x y hx hy).1.1⟩⟩
  · have:=z62 (I:=i.I) (fx:=i.fx) (fy:=i.fy) (tx:=i.tx) (ty:=i.ty) (r:=i.r) (A:=A) (n:=i.n) (q:=q) (W:=i.W) (H:=i.H) (B:=B) (pn:=i.pn) (pq:=pq) (C:=C) (sn:=i.sn) (sq:=sq) (a:=i.a) (b:=i.b) (c:=i.c) (d:=i.d) (e:=i.e) (f:=i.f) (s:=i.s) (t:=i.t) (G:=G) (R:=fun x y=>(F x y).1) (so:=fun x y=>(F x y).2) fun x y hx hy G' hG=>((hF x y hx hy).2 G B C pq sq hP).1.mono hG
    rw [← hk] at this;exact this
  · have:=z61 (I:=i.I) (fx:=i.fx) (fy:=i.fy) (tx:=i.tx) (ty:=i.ty) (r:=i.r) (A:=A) (n:=i.n) (q:=q) (W:=i.W) (H:=i.H) (B:=B) (pn:=i.pn) (pq:=pq) (C:=C) (sn:=i.sn) (sq:=sq) (a:=i.a) (b:=i.b) (c:=i.c) (d:=i.d) (e:=i.e) (f:=i.f) (s:=i.s) (t:=i.t) ((hF x y hx hy).2 G B C pq sq hP).2
    rw [← hk] at this
    dsimp only
    by_cases h0:(F x y).2=0
    · rw [if_pos h0] at this ⊢;exact this
    · rw [if_neg h0] at this ⊢;exact this
  · dsimp only
    split
    · exact ⟨Int.le_refl _,show (0:Int)≤255 by omega⟩
    · exact (hF x y hx hy).1.2 j hj
theorem v1n {i:ItemD} {gs g1 g2:Nat→Nat→Value} (h:∀ j,j<8→0≤i.I j∧i.I j≤255) (hs:∃ w0 A0,SliceG Tryz.prog w0 119 A0 i.n gs) (h1:∃ w0 A0,SliceG Tryz.prog w0 28 A0 i.pn g1) (h2:∃ w0 A0,SliceG Tryz.prog w0 5 A0 i.sn g2) {z p ii fw sg pg zz:Bool} {l:Int}
    (he:srcM i.k z p ii fw sg pg (q2s i.k zz i.fx i.fy i.tx i.ty i.r (q1g (fun x=>valI (gs x 0)) i.n)) (imgE i.W i.H i.pn i.sn l)=0) :
    ∃ fi,∀ (G:Mem) (A:Option Addr) (q:Nat) (B:Option Addr) (pq:Nat) (C:Option Addr) (sq:Nat),SrcG G (setS i A q B pq C sq) gs g1 g2→SrcBoth G (setS i A q B pq C sq) fi:=by
  unfold srcM at he
  split at he
  · exact ⟨_,fun G A q B pq C sq _=>x64 h ‹_› G A q B pq C sq⟩
  · split at he
    · split at he
      · obtain ⟨fi,hf⟩:=x81 hs ‹_› ‹_›
        exact ⟨fi,fun G A q B pq C sq k=>hf G A q B pq C sq k.stop.2.2⟩
      · exact absurd he ‹_›
    · split at he
      · split at he
        · split at he
          · obtain ⟨fi,hf⟩:=x65 h1 h2 ‹_› ‹_›
            exact ⟨fi,fun G A q B pq C sq k=>hf G A q B pq C sq k.pix.2.2 k.soft.2.2⟩
          · exact absurd he ‹_›
        · omega
      · omega
end
end Go.Proofs.YticolnghiibgfaaGreat
namespace Go.Proofs.YticolnghiibgfaaGreat
open Go.RowKit
theorem z8h {e:Nat→Int}:∀ {n:Nat},q1z e n=0→∀ k,k<n→e k=0
  | 0,_,k,hk=>by omega
  | n+1,h,k,hk=>by
    unfold q1z at h
    split at h
    · rename_i h0
      rcases Nat.lt_or_ge k n with h1 |h1
      · exact z8h h0 k h1
      · obtain rfl:k=n:=by omega
        exact h
    · rename_i h0
      exact absurd h h0
theorem z4w {K:Int} {rn:Nat} {nos:Bool} {al bl:Int} {ov iso kn:Bool} {o rE sE:Int} (h:q2h K rn nos al bl ov iso kn o rE sE=0) :
    (K=0∨K=1∨K=2)∧(K=2→o≠0)∧(K=1→o<16)∧(0≤bl∧bl≤11)∧(K=0→rE=0∧sE=0):=by
  unfold q2h at h
  split at h
  · omega
  · rename_i h1
    split at h
    · omega
    · split at h
      · omega
      · rename_i h3
        split at h
        · omega
        · rename_i h4
          split at h
          · omega
          · rename_i h5
            refine ⟨by omega,fun h6 h7=>h3 ⟨h6,h7⟩,fun h6=>Int.not_le.1 fun h7=>h4 ⟨h6,h7⟩,by omega,fun h6=>?_⟩
            rw [if_neg (by omega)] at h
            split at h
            · rename_i h7;exact absurd h h7
            · rename_i h7;exact ⟨Classical.not_not.1 h7,h⟩
theorem x28 {K:Nat→Int} {n:Nat} (hK:∀ k,k<n→K k=0∨K k=1∨K k=2) (hd:∀ k,k<n→K k=2→q0x K k≠0):∀ k,k≤n→((zst K k).length:Int)=q0x K k+1∧0≤q0x K k
  | 0,_=>⟨by simp [zst,q0x],by simp [q0x]⟩
  | k+1,hk=>by
    obtain ⟨ih1,ih2⟩:=x28 hK hd k (by omega)
    have h1:=hK k (by omega)
    have h2:=hd k (by omega)
    show ((q5j k (K k) (zst K k)).length:Int)=q0x K (k+1)+1∧0≤q0x K (k+1)
    have e:q0x K (k+1)=q0x K k+(if K k=1 then 1 else if K k=2 then -1 else 0):=rfl
    rw [e]
    generalize zst K k=s at *
    match s,ih1 with
    | [],ih1=>simp at ih1;omega
    | [(i,ms)],ih1 =>
      simp at ih1
      unfold q5j
      rcases h1 with h1 |h1 |h1
      · simp [h1];omega
      · simp [h1];omega
      · exact absurd (by omega) (h2 h1)
    | (i,ms)::(j,ms')::r,ih1 =>
      simp at ih1
      unfold q5j
      rcases h1 with h1 |h1 |h1
      · simp [h1];omega
      · simp [h1];omega
      · simp [h1];omega
end Go.Proofs.YticolnghiibgfaaGreat
namespace Go.Proofs.YticolnghiibgfaaGreat
open Go.RowKit
set_option maxRecDepth 20000
open Go.Proofs.YticolnghiibgfaaGreat.gradientRamps Go.Proofs.YticolnghiibgfaaGreat.gradientPlaces Go.Proofs.YticolnghiibgfaaGreat.imageCells
theorem q9j {L:List Run} (h:errL L=0):ValidL L:=by
  exact x27 h
section
variable {G:Mem}
structure RegE (G:Mem) (RA:Option Addr) (rn rq:Nat) (rE:Int) (L:List Run):Prop where
  prog:Gives Tryz.prog 45 [.val (.slice RA rn rq)] G (.val (.int .i64 rE))
  ref:Gives Tryz.prog 29 [.val (.slice RA rn rq)] G (.val (.int .i64 rE))
  runs:RunsM G RA L
  len:rn=L.length
  ok:rE=0→ValidL L
structure SrcE (G:Mem) (i:ItemD) (m:Nat) (sE:Int) (fi:SrcF):Prop where
  prog:Gives Tryz.prog 76 [q2f i,.val (.int .i64 m)] G (.val (.int .i64 sE))
  ref:Gives Tryz.prog 57 [q2f i,.val (.int .i64 m)] G (.val (.int .i64 sE))
  ok:sE=0→SrcBoth G i fi
theorem x9q {RA:Option Addr} {rn rq:Nat} {L:List Run} (h:RunsM G RA L) (hl:rn=L.length) (h1:rn≤rq) (h2:rq≤maxLen):RegE G RA rn rq (errL L) L:=by
  subst hl
  exact ⟨_root_.Go.Proofs.YticolnghiibgfaaGreat.Check_gives h h1 h2,_root_.Go.Proofs.YticolnghiibgfaaGreat.RCheck_gives h h1 h2,h,rfl,q9j⟩
theorem x82 {k:Int} {z p:Bool} {fx fy tx ty r st:Int} (h:q2s k (z&&p) fx fy tx ty r st=0):p=true∧st=0:=by
  unfold q2s at h
  cases p
  · rw [Bool.and_false] at h
    simp at h
    split at h
    · omega
    · split at h <;> omega
  · refine ⟨rfl,?_⟩
    split at h
    · split at h
      · omega
      · split at h
        · omega
        · split at h
          · omega
          · split at h
            · omega
            · exact h
    · split at h
      · split at h
        · omega
        · split at h
          · omega
          · split at h
            · omega
            · exact h
      · omega
theorem v1o {k:Int} {z1 ii fw sg pg:Bool} {fx fy tx ty r l:Int} {n pn sn:Nat} {W H a b c d e f:Int} {s t:Bool} {P:Nat→Int} (he:srcM k (q29 fx fy tx ty r n) (q1d W H pn sn a b c d e f s t) ii fw sg pg (q2s k (z1&&q1d W H pn sn a b c d e f s t) fx fy tx ty r (q1g P n)) (imgE W H pn sn l)=0):n≤1000000000∧pn≤1000000000∧sn≤1000000000:=by
  have pl:q1d W H pn sn a b c d e f s t=true→pn=0∧sn=0:=fun h=>by
    unfold q1d at h;simp at h;omega
  have zl:q29 fx fy tx ty r n=true→n=0:=fun h=>by
    unfold q29 at h;simp at h;omega
  unfold srcM at he
  split at he
  · split at he
    · rename_i h
      have:=zl h.1;have:=pl h.2.1;omega
    · omega
  · split at he
    · split at he
      · rename_i h
        obtain ⟨h1,h2⟩:=x82 h
        have:=pl h1
        have:=(q5a h2).1
        omega
      · exact absurd he ‹_›
    · split at he
      · split at he
        · split at he
          · rename_i h1 h2
            have:=zl h1.1
            obtain ⟨hw,hh,hn,hm⟩:=(x23 h2).1
            have:=z0p hw hh
            omega
          · exact absurd he ‹_›
        · omega
      · omega
theorem x9r {i:ItemD} {m:Nat} {gs gp gf:Nat→Nat→Value} (hm:1≤m∧m≤8) (h0:∃ G0 A q B pq C sq,SrcG G0 (setS i A q B pq C sq) gs gp gf) :
    ∃ sE fi,(sE=0→i.n≤1000000000∧i.pn≤1000000000∧i.sn≤1000000000)∧∀ (G:Mem) (A:Option Addr) (q:Nat) (B:Option Addr) (pq:Nat) (C:Option Addr) (sq:Nat),SrcG G (setS i A q B pq C sq) gs gp gf→SrcE G (setS i A q B pq C sq) m sE fi:=by
  obtain ⟨G0,A0,q0,B0,pq0,C0,sq0,⟨_,_,hs,_⟩,⟨_,_,hp,_⟩,⟨_,_,hf,_⟩,hi2⟩:=h0
  have hi:∀ j,j<8→0≤i.I j:=fun j hj=>(hi2 j hj).1
  obtain ⟨w1,A1,k1⟩:=id hs
  obtain ⟨w2,A2,k2⟩:=id hp
  have m1:∀ z,z≤maxLen→z≤9223372036854775807:=fun z hz=>hz
  have key:∃ sE,(∀ (G:Mem) (A:Option Addr) (q:Nat) (B:Option Addr) (pq:Nat) (C:Option Addr) (sq:Nat),SrcG G (setS i A q B pq C sq) gs gp gf→Gives Tryz.prog 76 [q2f (setS i A q B pq C sq),.val (.int .i64 m)] G (.val (.int .i64 sE))∧Gives Tryz.prog 57 [q2f (setS i A q B pq C sq),.val (.int .i64 m)] G (.val (.int .i64 sE))) ∧
      (sE=0→(i.n≤1000000000∧i.pn≤1000000000∧i.sn≤1000000000)∧∃ fi,∀ (G:Mem) (A:Option Addr) (q:Nat) (B:Option Addr) (pq:Nat) (C:Option Addr) (sq:Nat),SrcG G (setS i A q B pq C sq) gs gp gf→SrcBoth G (setS i A q B pq C sq) fi) :=
    ⟨_, fun G A q B pq C sq h=>⟨Gives.worlds fun w hw=>z2w (k:=i.k) (I:=i.I) (fx:=i.fx) (fy:=i.fy) (tx:=i.tx) (ty:=i.ty) (r:=i.r) (A:=A) (n:=i.n) (q:=q) (W:=i.W) (H:=i.H) (B:=B) (pn:=i.pn) (pq:=pq) (C:=C) (sn:=i.sn) (sq:=sq) (a:=i.a) (b:=i.b) (c:=i.c) (d:=i.d) (e:=i.e) (f:=i.f) (s:=i.s) (t:=i.t) (m:=m) hm (gradientPlaces.Check_gives ⟨h.stop.1,h.stop.2.1⟩ (q8y h.stop.2.2 hw)) x0n (v1g (q8y h.stop.2.2 hw)) (x9i (x62 h.pix.2.2 hw)) (m1 _ (Nat.le_trans h.stop.1 h.stop.2.1)) (m1 _ (Nat.le_trans h.pix.1 h.pix.2.1)),
      Gives.worlds fun w hw=>z2x (k:=i.k) (I:=i.I) (fx:=i.fx) (fy:=i.fy) (tx:=i.tx) (ty:=i.ty) (r:=i.r) (A:=A) (n:=i.n) (q:=q) (W:=i.W) (H:=i.H) (B:=B) (pn:=i.pn) (pq:=pq) (C:=C) (sn:=i.sn) (sq:=sq) (a:=i.a) (b:=i.b) (c:=i.c) (d:=i.d) (e:=i.e) (f:=i.f) (s:=i.s) (t:=i.t) (m:=m) hm hi (fun x hx j hj=>(q8u (k1.int (j:=j+1) (by kernel_rfl) hx (z0n hj)).2).1) (fun x hx j hj=>(q8u (k2.int (j:=j) (by kernel_rfl) hx (z3n hj)).2).1) (gradientPlaces.RCheck_gives ⟨h.stop.1,h.stop.2.1⟩ (q8y h.stop.2.2 hw)) z8n z2y (v1h (q8y h.stop.2.2 hw)) (x9i (x62 h.pix.2.2 hw)) (m1 _ (Nat.le_trans h.stop.1 h.stop.2.1)) (m1 _ (Nat.le_trans h.pix.1 h.pix.2.1))⟩,
      fun he=>⟨v1o he,v1n hi2 hs hp hf he⟩⟩
  obtain ⟨sE,e1,e2⟩:=key
  by_cases h0:sE=0
  · obtain ⟨hbd,fi,hfi⟩:=e2 h0
    exact ⟨sE,fi,fun _=>hbd,fun G A q B pq C sq h=>⟨(e1 G A q B pq C sq h).1,(e1 G A q B pq C sq h).2,fun _=>hfi G A q B pq C sq h⟩⟩
  · exact ⟨sE,fun _ _=>(fun _=>0,0),fun e=>absurd e h0,fun G A q B pq C sq h=>⟨(e1 G A q B pq C sq h).1,(e1 G A q B pq C sq h).2,fun e=>absurd e h0⟩⟩
theorem z59 {i:ItemD} {m:Nat} {rE sE:Int} {L:List Run} {fi:SrcF} (ha:0≤i.al) (hr:RegE G i.RA i.rn i.rq rE L) (hs:SrcE G i m sE fi) {o:Int} (ho:0≤o∧o≤16) :
    Gives Tryz.prog 52 [q5i i,.val (.int .i64 m),.val (.int .i64 o)] G (.val (.int .i64 (q2h i.K i.rn i.nos i.al i.bl i.ov i.iso i.kn o rE sE))) ∧
    Gives Tryz.prog 37 [q5i i,.val (.int .i64 m),.val (.int .i64 o)] G (.val (.int .i64 (q2h i.K i.rn i.nos i.al i.bl i.ov i.iso i.kn o rE sE))) :=
  ⟨q4a hr.prog hs.prog,z5z ha ho hr.ref hs.ref⟩
end
end Go.Proofs.YticolnghiibgfaaGreat
namespace Go.Proofs.YticolnghiibgfaaGreat
open Go.RowKit Go.Deep Go.Proofs.YticolnghiibgfaaGreat.gradientRamps Go.Proofs.YticolnghiibgfaaGreat.gradientPlaces Go.Proofs.YticolnghiibgfaaGreat.imageCells
set_option maxRecDepth 20000
theorem z26 {I:Nat→ItemD} {rE sE:Nat→Int} {n:Nat}:DepthOk (fun x=>(I x).K) (fun x o=>q2h (I x).K (I x).rn (I x).nos (I x).al (I x).bl (I x).ov (I x).iso (I x).kn o (rE x) (sE x)) n:=by
  refine ⟨fun x o _ h0 h1=>?_,fun x o _ h0 h1=>?_⟩
  · (try dsimp only at h0);(try dsimp only at h1)
    rcases Int.lt_or_le o 16 with h |h
    · exact h
    · unfold q2h at h0
      rw [h1] at h0
      split at h0
      · omega
      · split at h0
        · omega
        · split at h0
          · omega
          · rw [if_pos ⟨rfl,h⟩] at h0
            omega
  · (try dsimp only at h0);(try dsimp only at h1)
    intro h
    unfold q2h at h0
    rw [h1] at h0
    split at h0
    · omega
    · split at h0
      · omega
      · rw [if_pos ⟨rfl,h⟩] at h0
        omega
structure ItE (G:Mem) (i:ItemD) (m:Nat) (p:Int × Int) (L:List Run) (fi:SrcF):Prop where
  reg:RegE G i.RA i.rn i.rq p.1 L
  src:SrcE G i m p.2 fi
  al:0≤i.al∧i.al≤255
section
variable {G:Mem} {A B:Option Addr} {m sq n iq:Nat} {S:Nat→ByteArray} {I:Nat→ItemD} {p:Nat→Int × Int} {W H:Int} {R:Nat→List Run} {f:Nat→SrcF}
def lisE (W H:Int) (m:Nat) (S:Nat→ByteArray) (n:Nat) (I:Nat→ItemD) (p:Nat→Int × Int):Int :=
  q3e W H m S n (fun x=>(I x).K) fun x o=>if 1≤m∧m≤8 then q2h (I x).K (I x).rn (I x).nos (I x).al (I x).bl (I x).ov (I x).iso (I x).kn o (p x).1 (p x).2 else 1
theorem x09 (h:¬ (1≤m∧m≤8)):lisE W H m S n I p=q3e W H m S n (fun x=>(I x).K) fun _ _=>1:=by
  unfold lisE
  congr 1
  funext x o
  rw [if_neg h]
theorem x1a (h:1≤m∧m≤8):lisE W H m S n I p=q3e W H m S n (fun x=>(I x).K) fun x o=>q2h (I x).K (I x).rn (I x).nos (I x).al (I x).bl (I x).ov (I x).iso (I x).kn o (p x).1 (p x).2:=by
  unfold lisE
  congr 1
  funext x o
  rw [if_pos h]
structure ListOk (G:Mem) (W H:Int) (m n:Nat) (I:Nat→ItemD) (f:Nat→SrcF) (R:Nat→List Run):Prop where
  wd:1≤W∧W≤256
  ht:1≤H∧H≤256
  few:1≤m∧m≤8
  len:n≤5000
  ok:LOk G I f R n
  ref:LRef G I f n
theorem z1v (he:lisE W H m S n I p=0):∀ x,x<n→q2h (I x).K (I x).rn (I x).nos (I x).al (I x).bl (I x).ov (I x).iso (I x).kn (q0x (fun x=>(I x).K) x) (p x).1 (p x).2=0:=by
  by_cases hm8:1≤m∧m≤8
  · rw [x1a hm8] at he
    unfold q3e at he
    split at he
    · omega
    split at he
    · omega
    split at he
    · exact absurd he ‹_›
    split at he
    · omega
    split at he
    · exact absurd he ‹_›
    split at he
    · omega
    rename_i g1 g2 g3 g4 g5 g6
    exact z8h (Classical.not_not.1 g5)
  · rw [x09 hm8] at he
    unfold q3e at he
    split at he
    · omega
    · rw [if_pos (by omega)] at he;omega
theorem z6a (hm:m≤sq∧sq≤maxLen) (hn:n≤iq∧iq≤maxLen) (hs:StrM G A m S) (hi:ItemsM G B n I) (hp:(1≤m∧m≤8)→∀ x,x<n→ItE G (I x) m (p x) (R x) (f x)) :
    Gives Tryz.prog 33 [q2i W H A m sq B n iq] G (.val (.int .i64 (lisE W H m S n I p)))∧Gives Tryz.prog 11 [q2i W H A m sq B n iq] G (.val (.int .i64 (lisE W H m S n I p))) ∧
      (lisE W H m S n I p=0→ListOk G W H m n I f R):=by
  have m1:∀ z,z≤maxLen→z≤9223372036854775807:=fun z hz=>hz
  have hn1:=m1 _ (Nat.le_trans hn.1 hn.2)
  have hm1:=m1 _ (Nat.le_trans hm.1 hm.2)
  by_cases hm8:1≤m∧m≤8
  · have hp:=hp hm8
    have hall:=fun h=>z1v (W:=W) (H:=H) (m:=m) (S:=S) (n:=n) (I:=I) (p:=p) h
    rw [x1a hm8] at hall ⊢
    refine ⟨q7b hs hi hm.1 (fun _ x hx o h0 h1=>(z59 (hp x hx).al.1 (hp x hx).reg (hp x hx).src ⟨h0,h1⟩).1) (z26 (I:=I) (rE:=fun x=>(p x).1) (sE:=fun x=>(p x).2)) hn1 hm1,
      z11 hs hi hm.1 (fun _ x hx o h0 h1=>(z59 (hp x hx).al.1 (hp x hx).reg (hp x hx).src ⟨h0,h1⟩).2) (z26 (I:=I) (rE:=fun x=>(p x).1) (sE:=fun x=>(p x).2)) hn1 hm1,fun he=>?_⟩
    have hall:=hall he
    unfold q3e at he
    split at he
    · omega
    split at he
    · omega
    split at he
    · exact absurd he ‹_›
    split at he
    · omega
    split at he
    · exact absurd he ‹_›
    split at he
    · omega
    rename_i g1 g2 g3 g4 g5 g6
    have hit:=fun x hx=>z4w (hall x hx)
    have hlen:=x28 (K:=fun x=>(I x).K) (n:=n) (fun k hk=>(hit k hk).1) (fun k hk h2=>(hit k hk).2.1 h2)
    have hq:∀ k,k<n→(I k).K=0→SrcBoth G (I k) (f k)∧RunsM G (I k).RA (R k)∧(I k).rn=(R k).length∧ValidL (R k):=fun k hk h0=>by
      obtain ⟨e1,e2⟩:=(hit k hk).2.2.2.2 h0
      exact ⟨(hp k hk).src.ok e2,(hp k hk).reg.runs,(hp k hk).reg.len,(hp k hk).reg.ok e1⟩
    refine ⟨by omega,by omega,hm8,by omega,⟨fun k hk h0=>(hq k hk h0).1.prog,fun k hk h0=>(hq k hk h0).2,fun k hk h0=>⟨(hp k hk).al,(hit k hk).2.2.2.1,(hq k hk h0).1.bd⟩,fun k hk h1=>⟨(hp k hk).al,(hit k hk).2.2.2.1⟩,fun k hk h0 h1=>?_,?_⟩,⟨fun k hk=>(hit k hk).1,fun k hk h0=>(hq k hk h0).1.ref⟩⟩
    · have h2:(I k).K=2:=((hit k hk).1.resolve_left h0).resolve_left h1
      have:=hlen k (by omega)
      have:=(hit k hk).2.1 h2
      omega
    · have:=hlen n (Nat.le_refl _)
      omega
  · have hd:DepthOk (fun x=>(I x).K) (fun _ _=>1) n:=⟨fun x o _ h0 _=>absurd h0 (by decide),fun x o _ h0 _=>absurd h0 (by decide)⟩
    rw [x09 hm8]
    refine ⟨q7b hs hi hm.1 (fun h=>absurd h hm8) hd hn1 hm1,z11 hs hi hm.1 (fun h=>absurd h hm8) hd hn1 hm1,fun he=>?_⟩
    unfold q3e at he
    split at he
    · omega
    · rw [if_pos (by omega)] at he;omega
end
section
variable {w:World} {A B:Option Addr} {m sq n iq:Nat} {gs gi:Nat→Nat→Value} {W H:Int}
end
end Go.Proofs.YticolnghiibgfaaGreat
