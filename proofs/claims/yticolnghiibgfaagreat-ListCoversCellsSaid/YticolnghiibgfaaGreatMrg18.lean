/-
  Merged: XImageBoth, XListX, XEz, XRow.
-/
import Derived.Test.YticolnghiibgfaaGreatSmoothBoth
import Derived.Test.YticolnghiibgfaaGreatMrg17
import Derived.Test.YticolnghiibgfaaGreatMrg16
import Derived.Test.YticolnghiibgfaaGreatEng2
set_option linter.unusedVariables false
set_option linter.unusedSimpArgs false
set_option linter.unnecessarySimpa false
namespace Go.Proofs.YticolnghiibgfaaGreat.imageCells
open Go.RowKit
set_option maxRecDepth 20000
section
variable {W H:Int} {A B:Option Addr} {n p m q:Nat} {a b c d e f:Int} {s r:Bool} {x y:Int} {w:World} {g h:Nat→Nat→Value}
set_option maxHeartbeats 2000000 in
theorem x3d {G:Mem} {V:Nat→Int} {I:Nat→Int} {al:Int} (h4:∀ i,i<4→-1048576≤V i∧V i≤1048576) (h6:∀ i,i<6→-268435456≤V i∧V i≤268435456) (hx:-8192≤x∧x<8192) (hy:-8192≤y∧y<8192)
    (hs:Gives Tryz.prog 129 [pntA W H (.slice A n p) (.slice B m q) a b c d e f true r V,.val (.int .i64 (atS V x y)),.val (.int .i64 (atT V x y))] G (.tup [q1o I,.val (.int .u8 al)])) :
    Gives Tryz.prog 102 [pntA W H (.slice A n p) (.slice B m q) a b c d e f true r V,.val (.int .i64 x),.val (.int .i64 y)] G (.tup [q1o I,.val (.int .u8 al)]):=by
  obtain ⟨⟨b1,b2⟩,b3,b4⟩:=q99 h4 h6 hx hy
  have b5:=h6 4 (by omega)
  have b6:=h6 5 (by omega)
  unfold atS atT at hs
  refine q0o tab_ok Tryz.func102 ?_
  (repeat ((try (conv=>whnf));(first |(refine stQ ?_) |(with_reducible first |refine q0b (fun vs w=>by kernel_rfl) (by kernel_rfl) (hs) ?_ |refine q0a (fun vs w=>by kernel_rfl) (by kernel_rfl) (hs) ?_))))
  exact ⟨rfl,rfl⟩
set_option maxHeartbeats 2000000 in
theorem x7x {G:Mem} {I:Nat→Int} {al:Int} (hx:-8192≤x∧x<8192) (hy:-8192≤y∧y<8192)
    (hs:Gives Tryz.prog 139 [imgA W H (.slice A n p) (.slice B m q) a b c d e f false r,.val (.int .i64 (atS (invL a b c d e f) x y/8192)),.val (.int .i64 (atT (invL a b c d e f) x y/8192))] G (.tup [q1o I,.val (.int .i64 al)])) :
    Gives Tryz.prog 117 [imgA W H (.slice A n p) (.slice B m q) a b c d e f false r,.val (.int .i64 x),.val (.int .i64 y)] G (.tup [q1o I,.val (.int .i64 al)]):=by
  obtain ⟨h4,h6⟩:=z26 (a:=a) (b:=b) (c:=c) (d:=d) (e:=e) (f:=f)
  obtain ⟨⟨b1,b2⟩,b3,b4⟩:=q99 h4 h6 hx hy
  have b5:=h6 4 (by omega)
  have b6:=h6 5 (by omega)
  clear h4 h6
  have hi:=z1e (a:=a) (b:=b) (c:=c) (d:=d) (e:=e) (f:=f) (G:=G)
  generalize invL a b c d e f=V at *
  unfold atS atT at hs
  have hd1:=q3y (a:=V 0*(2*x+1)+V 2*(2*y+1)+2*V 4) (b:=8192) (G:=G) (by omega) (by omega)
  have hd2:=q3y (a:=V 1*(2*x+1)+V 3*(2*y+1)+2*V 5) (b:=8192) (G:=G) (by omega) (by omega)
  refine q0o tab_ok Tryz.func117 ?_
  (repeat ((try (conv=>whnf));(first |(refine stQ ?_) |(with_reducible first |refine q0b (fun vs w=>by kernel_rfl) (by kernel_rfl) (hi) ?_ |refine q0a (fun vs w=>by kernel_rfl) (by kernel_rfl) (hi) ?_ |refine q0b (fun vs w=>by kernel_rfl) (by kernel_rfl) (hd1) ?_ |refine q0a (fun vs w=>by kernel_rfl) (by kernel_rfl) (hd1) ?_ |refine q0b (fun vs w=>by kernel_rfl) (by kernel_rfl) (hd2) ?_ |refine q0a (fun vs w=>by kernel_rfl) (by kernel_rfl) (hd2) ?_ |refine q0b (fun vs w=>by kernel_rfl) (by kernel_rfl) (hs) ?_ |refine q0a (fun vs w=>by kernel_rfl) (by kernel_rfl) (hs) ?_))))
  exact ⟨rfl,rfl⟩
theorem x7y {P:Nat→Nat→Int} {S:Nat→Int} (ho:ImgOk W H n m) (hpx:∀ x j,x<n→j<8→0≤P x j∧P x j≤255) (hs:∀ x,x<m→0≤S x∧S x≤255) (hX:-8192≤x∧x<8192) (hY:-8192≤y∧y<8192) :
    ∃ R so,((0≤so∧so≤255)∧∀ j,j<8→0≤R j∧R j≤255)∧∀ (G:Mem) (A B:Option Addr) (p q:Nat),Pics G A n P B m S→Gives Tryz.prog 102 [pntA W H (.slice A n p) (.slice B m q) a b c d e f s r (invL a b c d e f),.val (.int .i64 x),.val (.int .i64 y)] G (.tup [q1o R,.val (.int .u8 so)]) ∧
      Gives Tryz.prog 117 [imgA W H (.slice A n p) (.slice B m q) a b c d e f s r,.val (.int .i64 x),.val (.int .i64 y)] G (.tup [q1o R,.val (.int .i64 so)]):=by
  obtain ⟨h4,h6⟩:=z26 (a:=a) (b:=b) (c:=c) (d:=d) (e:=e) (f:=f)
  obtain ⟨⟨b1,b2⟩,b3,b4⟩:=q99 h4 h6 hX hY
  have b5:=h6 4 (by omega)
  have b6:=h6 5 (by omega)
  cases s
  · have bS:-34896609280≤atS (invL a b c d e f) x y∧atS (invL a b c d e f) x y≤34896609280:=by unfold atS;omega
    have bT:-34896609280≤atT (invL a b c d e f) x y∧atT (invL a b c d e f) x y≤34896609280:=by unfold atT;omega
    refine ⟨fun j=>q74 r W H (atS (invL a b c d e f) x y/8192) (atT (invL a b c d e f) x y/8192) P j,q47 r W H (atS (invL a b c d e f) x y/8192) (atT (invL a b c d e f) x y/8192) m S,⟨z9s ho hs,fun j hj=>z9v ho hpx hj⟩,fun G A B p q hp=>?_⟩
    have h1:=z19 (a:=a) (b:=b) (c:=c) (d:=d) (e:=e) (f:=f) (s:=false) (r:=r) (p:=p) (q:=q) ho hp (u:=atS (invL a b c d e f) x y/8192) (v:=atT (invL a b c d e f) x y/8192) (by omega) (by omega)
    have h2:=z1f (a:=a) (b:=b) (c:=c) (d:=d) (e:=e) (f:=f) (s:=false) (r:=r) (p:=p) (q:=q) ho hp (u:=atS (invL a b c d e f) x y/8192) (v:=atT (invL a b c d e f) x y/8192) (by omega) (by omega) hs
    exact ⟨x7w h4 h6 hX hY h1,x7x hX hY h2⟩
  · obtain ⟨R,so,h1,h2⟩:=x3c (a:=a) (b:=b) (c:=c) (d:=d) (e:=e) (f:=f) (r:=r) ho hpx hs hX hY
    exact ⟨R,so,h1,fun G A B p q hp=>⟨x3d h4 h6 hX hY (h2 G A B p q hp).1,(h2 G A B p q hp).2⟩⟩
end
end Go.Proofs.YticolnghiibgfaaGreat.imageCells
namespace Go.Proofs.YticolnghiibgfaaGreat
open Go.RowKit Go.Proofs.YticolnghiibgfaaGreat.gradientRamps Go.Proofs.YticolnghiibgfaaGreat.gradientPlaces Go.Proofs.YticolnghiibgfaaGreat.imageCells
set_option maxRecDepth 20000
theorem q1l:flat Tryz.prog 20 119=[.int .i64,.int .u8,.int .u8,.int .u8,.int .u8,.int .u8,.int .u8,.int .u8,.int .u8]:=by kernel_rfl
section
variable {w:World} {A:Option Addr} {n:Nat} {g:Nat→Nat→Value}
theorem v0r (h:SliceG Tryz.prog w 119 A n g):x8q (q1s w) A n (fun x=>valI (g x 0)) (fun x j=>valI (g x (j+1))):=by
  have e9:Tryz.prog.cellsOf 119=9:=by kernel_rfl
  intro x hx
  obtain ⟨b,off,rfl,_,hc⟩:=h (by omega)
  rw [e9] at hc
  refine ⟨⟨b,off,none⟩,rfl,fun K k=>q1f _ rfl (fun j u hj=>?_) k⟩
  rw [q0m,q0m]
  match j,hj with
  | 0,hj=>simp at hj;subst hj;rw [← (h.int (j:=0) (by kernel_rfl) hx (by rw [q1l];rfl)).1];exact (hc x hx).1 0 (by omega)
  | 1,hj=>simp at hj;subst hj;rw [← (h.int (j:=1) (by kernel_rfl) hx (by rw [q1l];rfl)).1];exact (hc x hx).1 1 (by omega)
  | 2,hj=>simp at hj;subst hj;rw [← (h.int (j:=2) (by kernel_rfl) hx (by rw [q1l];rfl)).1];exact (hc x hx).1 2 (by omega)
  | 3,hj=>simp at hj;subst hj;rw [← (h.int (j:=3) (by kernel_rfl) hx (by rw [q1l];rfl)).1];exact (hc x hx).1 3 (by omega)
  | 4,hj=>simp at hj;subst hj;rw [← (h.int (j:=4) (by kernel_rfl) hx (by rw [q1l];rfl)).1];exact (hc x hx).1 4 (by omega)
  | 5,hj=>simp at hj;subst hj;rw [← (h.int (j:=5) (by kernel_rfl) hx (by rw [q1l];rfl)).1];exact (hc x hx).1 5 (by omega)
  | 6,hj=>simp at hj;subst hj;rw [← (h.int (j:=6) (by kernel_rfl) hx (by rw [q1l];rfl)).1];exact (hc x hx).1 6 (by omega)
  | 7,hj=>simp at hj;subst hj;rw [← (h.int (j:=7) (by kernel_rfl) hx (by rw [q1l];rfl)).1];exact (hc x hx).1 7 (by omega)
  | 8,hj=>simp at hj;subst hj;rw [← (h.int (j:=8) (by kernel_rfl) hx (by rw [q1l];rfl)).1];exact (hc x hx).1 8 (by omega)
theorem v0s (h:SliceG Tryz.prog w 119 A n g):x8r (q1s w) A n (fun x j=>valI (g x (j+1))):=by
  have e9:Tryz.prog.cellsOf 119=9:=by kernel_rfl
  intro x hx
  obtain ⟨b,off,rfl,_,hc⟩:=h (by omega)
  rw [e9] at hc
  refine ⟨⟨b,off,none⟩,rfl,fun K k=>q1f _ rfl (fun j u hj=>?_) k⟩
  rw [q0m,q0m,q0m,Nat.add_assoc,Nat.add_comm 1 j]
  match j,hj with
  | 0,hj=>simp at hj;subst hj;rw [← (h.int (j:=1) (by kernel_rfl) hx (by rw [q1l];rfl)).1];exact (hc x hx).1 1 (by omega)
  | 1,hj=>simp at hj;subst hj;rw [← (h.int (j:=2) (by kernel_rfl) hx (by rw [q1l];rfl)).1];exact (hc x hx).1 2 (by omega)
  | 2,hj=>simp at hj;subst hj;rw [← (h.int (j:=3) (by kernel_rfl) hx (by rw [q1l];rfl)).1];exact (hc x hx).1 3 (by omega)
  | 3,hj=>simp at hj;subst hj;rw [← (h.int (j:=4) (by kernel_rfl) hx (by rw [q1l];rfl)).1];exact (hc x hx).1 4 (by omega)
  | 4,hj=>simp at hj;subst hj;rw [← (h.int (j:=5) (by kernel_rfl) hx (by rw [q1l];rfl)).1];exact (hc x hx).1 5 (by omega)
  | 5,hj=>simp at hj;subst hj;rw [← (h.int (j:=6) (by kernel_rfl) hx (by rw [q1l];rfl)).1];exact (hc x hx).1 6 (by omega)
  | 6,hj=>simp at hj;subst hj;rw [← (h.int (j:=7) (by kernel_rfl) hx (by rw [q1l];rfl)).1];exact (hc x hx).1 7 (by omega)
  | 7,hj=>simp at hj;subst hj;rw [← (h.int (j:=8) (by kernel_rfl) hx (by rw [q1l];rfl)).1];exact (hc x hx).1 8 (by omega)
theorem x8t (h:SliceG Tryz.prog w 28 A n g):PixM (q1s w) A n (fun x j=>valI (g x j)):=by
  have e8:Tryz.prog.cellsOf 28=8:=by kernel_rfl
  intro x hx
  obtain ⟨b,off,rfl,_,hc⟩:=h (by omega)
  rw [e8] at hc
  refine ⟨⟨b,off,none⟩,rfl,fun K k=>q1f _ rfl (fun j u hj=>?_) k⟩
  rw [q0m,q0m]
  match j,hj with
  | 0,hj=>simp at hj;subst hj;rw [← (h.int (j:=0) (by kernel_rfl) hx (by rw [q3z];rfl)).1];exact (hc x hx).1 0 (by omega)
  | 1,hj=>simp at hj;subst hj;rw [← (h.int (j:=1) (by kernel_rfl) hx (by rw [q3z];rfl)).1];exact (hc x hx).1 1 (by omega)
  | 2,hj=>simp at hj;subst hj;rw [← (h.int (j:=2) (by kernel_rfl) hx (by rw [q3z];rfl)).1];exact (hc x hx).1 2 (by omega)
  | 3,hj=>simp at hj;subst hj;rw [← (h.int (j:=3) (by kernel_rfl) hx (by rw [q3z];rfl)).1];exact (hc x hx).1 3 (by omega)
  | 4,hj=>simp at hj;subst hj;rw [← (h.int (j:=4) (by kernel_rfl) hx (by rw [q3z];rfl)).1];exact (hc x hx).1 4 (by omega)
  | 5,hj=>simp at hj;subst hj;rw [← (h.int (j:=5) (by kernel_rfl) hx (by rw [q3z];rfl)).1];exact (hc x hx).1 5 (by omega)
  | 6,hj=>simp at hj;subst hj;rw [← (h.int (j:=6) (by kernel_rfl) hx (by rw [q3z];rfl)).1];exact (hc x hx).1 6 (by omega)
  | 7,hj=>simp at hj;subst hj;rw [← (h.int (j:=7) (by kernel_rfl) hx (by rw [q3z];rfl)).1];exact (hc x hx).1 7 (by omega)
end
section
variable {k:Int} {I:Nat→Int} {fx fy tx ty r:Int} {A:Option Addr} {n q:Nat} {W H:Int} {B:Option Addr} {pn pq:Nat} {C:Option Addr} {sn sq:Nat} {a b c d e f:Int} {s t:Bool} {G:Mem} {er x y:Int}
set_option maxHeartbeats 4000000
theorem z6m:Gives Tryz.prog 89 [srcA 0 I fx fy tx ty r (.slice A n q) W H (.slice B pn pq) (.slice C sn sq) a b c d e f s t,.val (.int .i64 x),.val (.int .i64 y)] G (.tup [q1o I,.val (.int .i64 255)]):=by
  refine q0o tab_ok Tryz.func89 ?_
  (repeat ((try (conv=>whnf));(refine stQ ?_)))
  exact ⟨rfl,rfl⟩
theorem z75 {V:Nat→Int} {p:Int} (hk:k=1∨k=2)
    (hp:Gives Tryz.prog 119 [srcA k I fx fy tx ty r (.slice A n q) W H (.slice B pn pq) (.slice C sn sq) a b c d e f s t,.val (.int .i64 x),.val (.int .i64 y)] G (.val (.int .i64 p))) (hr:Gives Tryz.prog 118 [.val (.slice A n q),.val (.int .i64 p)] G (inks V)) :
    Gives Tryz.prog 89 [srcA k I fx fy tx ty r (.slice A n q) W H (.slice B pn pq) (.slice C sn sq) a b c d e f s t,.val (.int .i64 x),.val (.int .i64 y)] G (.tup [inks V,.val (.int .i64 255)]):=by
  refine q0o tab_ok Tryz.func89 ?_
  rcases hk with rfl |rfl
  · (repeat ((try (conv=>whnf));(first |(refine stQ ?_) |(with_reducible first |refine q0b (fun vs w=>by kernel_rfl) (by kernel_rfl) (hp) ?_ |refine q0a (fun vs w=>by kernel_rfl) (by kernel_rfl) (hp) ?_ |refine q0b (fun vs w=>by kernel_rfl) (by kernel_rfl) (hr) ?_ |refine q0a (fun vs w=>by kernel_rfl) (by kernel_rfl) (hr) ?_))))
    exact ⟨rfl,rfl⟩
  · (repeat ((try (conv=>whnf));(first |(refine stQ ?_) |(with_reducible first |refine q0b (fun vs w=>by kernel_rfl) (by kernel_rfl) (hp) ?_ |refine q0a (fun vs w=>by kernel_rfl) (by kernel_rfl) (hp) ?_ |refine q0b (fun vs w=>by kernel_rfl) (by kernel_rfl) (hr) ?_ |refine q0a (fun vs w=>by kernel_rfl) (by kernel_rfl) (hr) ?_))))
    exact ⟨rfl,rfl⟩
theorem z6n {R:Nat→Int} {so:Int}
    (hA:Gives Tryz.prog 117 [imgA W H (.slice B pn pq) (.slice C sn sq) a b c d e f s t,.val (.int .i64 x),.val (.int .i64 y)] G (.tup [q1o R,.val (.int .i64 so)])) :
    Gives Tryz.prog 89 [srcA 3 I fx fy tx ty r (.slice A n q) W H (.slice B pn pq) (.slice C sn sq) a b c d e f s t,.val (.int .i64 x),.val (.int .i64 y)] G (.tup [if so=0 then ink0 else q1o R,.val (.int .i64 so)]):=by
  refine q0o tab_ok Tryz.func89 ?_
  by_cases h0:so=0
  · subst h0
    rw [if_pos rfl]
    (repeat ((try (conv=>whnf));(first |(refine stQ ?_) |(with_reducible first |refine q0b (fun vs w=>by kernel_rfl) (by kernel_rfl) (hA) ?_ |refine q0a (fun vs w=>by kernel_rfl) (by kernel_rfl) (hA) ?_))))
    exact ⟨rfl,rfl⟩
  · rw [if_neg h0]
    (repeat ((try (conv=>whnf));(first |(refine stQ ?_) |(with_reducible first |refine q0b (fun vs w=>by kernel_rfl) (by kernel_rfl) (hA) ?_ |refine q0a (fun vs w=>by kernel_rfl) (by kernel_rfl) (hA) ?_))))
    exact ⟨rfl,rfl⟩
end
end Go.Proofs.YticolnghiibgfaaGreat
namespace Go.Proofs.YticolnghiibgfaaGreat
open Go.RowKit
theorem z2a {P:Program} {T:Tab} (hT:TOk P T) {n0:Nat} {b:Code} {fr:List AV} {hp:List Blk} {G:Mem} {Q:Post} {ι κ:Type} (inv:ι→κ→Prop) (S:ι→κ→List (Nat × AV)) (H:ι→κ→List Blk) (μ:ι→κ→Nat) (i0:ι) (k0:κ) (h0:inv i0 k0)
    (start:Le n0 fr hp G (q5d b fr (S i0 k0)) (H i0 k0) G)
    (round:∀ i k,inv i k→z0z (q3j b []) fun ws=>q8q ws 0 fr fun fr1=>q6m fr1 (S i k) fun fr2=>z0s P T n0 b fr2 (H i k) G fun e fr' hp' G'=>match e with
      | .normal=>∃ i' k',inv i' k'∧μ i' k'<μ i k∧Le n0 fr' hp' G' (q5d b fr (S i' k')) (H i' k') G
      | e=>Q e fr' hp' G'):LoopP P n0 b fr hp G Q:=by
  refine z3w hT (fun i:ι × κ=>inv i.1 i.2) (fun i=>q5d b fr (S i.1 i.2)) (fun i=>H i.1 i.2) (fun _=>G) (fun i=>μ i.1 i.2) ⟨(i0,k0),h0,start⟩ fun i hi=>?_
  have h:=round i.1 i.2 hi
  rw [q8r,q7g,q55] at h
  refine cast (congrArg _ ?_) h
  funext e fr' hp' G'
  cases e with
  | normal=>exact propext ⟨fun ⟨i',k',h1,h2,h3⟩=>⟨(i',k'),h1,h2,h3⟩,fun ⟨p,h1,h2,h3⟩=>⟨p.1,p.2,h1,h2,h3⟩⟩
  | _=>rfl
def q6d (w:World) (o:Option Nat):Mem:=fun b=>if o=some b then none else w.heap[b]?
end Go.Proofs.YticolnghiibgfaaGreat
namespace Go.Proofs.YticolnghiibgfaaGreat
open Go.RowKit
def q63 (c:Nat→List Value):Nat→List Value
  | 0=>[]
  | n+1=>q63 c n++c n
theorem q6e {c:Nat→List Value} {sz:Nat}:∀ {n:Nat},(∀ x,x<n→(c x).length=sz)→(q63 c n).length=n*sz
  | 0,_=>by simp [q63]
  | n+1,h=>by
    rw [q63,List.length_append,q6e (n:=n) (fun x hx=>h x (by omega)),h n (by omega),Nat.add_mul,Nat.one_mul]
theorem z2b {c:Nat→List Value} {sz:Nat}:∀ {n:Nat},(∀ x,x<n→(c x).length=sz)→∀ {x j:Nat},x<n→j<sz→(q63 c n)[x*sz+j]? = (c x)[j]?
  | 0,_,_,_,hx,_=>by omega
  | n+1,h,x,j,hx,hj=>by
    have hl:=q6e (n:=n) (fun x hx=>h x (by omega))
    rw [q63]
    rcases Nat.lt_or_ge x n with h1 |h1
    · have:x*sz+j<n*sz:=by
        have:=Nat.mul_le_mul_right sz (show x+1≤n by omega)
        rw [Nat.add_mul,Nat.one_mul] at this;omega
      rw [List.getElem?_append_left (by omega)]
      exact z2b (fun x hx=>h x (by omega)) h1 hj
    · obtain rfl:x=n:=by omega
      rw [List.getElem?_append_right (by omega),hl]
      congr 1;omega
structure ElsM (G:Mem) (A:Option Addr) (sz n:Nat) (c:Nat→List Value):Prop where
  len:∀ x,x<n→(c x).length=sz
  at_:∀ x,x<n→∃ b off,A=some ⟨b,off,none⟩∧∀ j v,(c x)[j]? = some v→G.cell? ⟨b,off+x*sz+j,none⟩=some v
section
variable {G G':Mem} {A:Option Addr} {sz n:Nat} {c d:Nat→List Value}
theorem ElsM.mono (h:ElsM G A sz n c) (hle:G.le G'):ElsM G' A sz n c:=⟨h.len,fun x hx=>by
  obtain ⟨b,off,h1,h2⟩:=h.at_ x hx
  exact ⟨b,off,h1,fun j v hj=>hle.cell (h2 j v hj)⟩⟩
theorem ElsM.less (h:ElsM G A sz n c) {k:Nat} (hk:k≤n):ElsM G A sz k c:=⟨fun x hx=>h.len x (by omega),fun x hx=>h.at_ x (by omega)⟩
theorem ElsM.congr (h:ElsM G A sz n c) (e:∀ x,x<n→c x=d x):ElsM G A sz n d :=
  ⟨fun x hx=>by rw [← e x hx];exact h.len x hx,fun x hx=>by rw [← e x hx];exact h.at_ x hx⟩
theorem ElsM.none:ElsM G A sz 0 c:=⟨fun x hx=>by omega,fun x hx=>by omega⟩
theorem ElsM.drop (h:ElsM G A sz n c) {k:Nat} (hk:k≤n):ElsM G (A.map fun p=>p.add (k*sz)) sz (n-k) (fun x=>c (k+x)) :=
  ⟨fun x hx=>h.len _ (by omega),fun x hx=>by
    obtain ⟨b,off,rfl,h2⟩:=h.at_ (k+x) (by omega)
    refine ⟨b,off+k*sz,by simp [q0m],fun j v hj=>?_⟩
    have:=h2 j v hj
    rwa [show off+k*sz+x*sz+j=off+(k+x)*sz+j by rw [Nat.add_mul];omega]⟩
theorem ElsM.cells (h:ElsM G A sz n c) {x:Nat} (hx:x<n):∃ p:Addr,A=some p∧∀ K:List Value→Prop,K (c x)→OldCells G (p.add (x*sz)) sz K:=by
  obtain ⟨b,off,rfl,h2⟩:=h.at_ x hx
  refine ⟨_,rfl,fun K k=>q1f _ (h.len x hx) (fun j u hj=>?_) k⟩
  rw [q0m,q0m]
  exact h2 j u hj
theorem ElsM.cell (h:ElsM G A sz n c) {x j:Nat} {v:Value} (hx:x<n) (hj:(c x)[j]? = some v):∃ p:Addr,A=some p∧G.cell? (Addr.add (p.add (x*sz)) j)=some v:=by
  obtain ⟨b,off,rfl,h2⟩:=h.at_ x hx
  exact ⟨_,rfl,by rw [q0m,q0m];exact h2 j v hj⟩
theorem ElsM.frozen (hl:∀ x,x<n→(c x).length=sz) (h:q63 c n=[]∨∃ b,A=some ⟨b,0,Option.none⟩∧∀ (j:Nat) u,(q63 c n)[j]? = some u→G.cell? ⟨b,j,Option.none⟩=some u) (hA:0<sz):ElsM G A sz n c:=by
  refine ⟨hl,fun x hx=>?_⟩
  rcases h with h |⟨b,rfl,h⟩
  · have:=q6e hl
    rw [h] at this
    have h1:0<n*sz:=Nat.mul_pos (by omega) hA
    simp at this;omega
  · refine ⟨b,0,rfl,fun j v hj=>?_⟩
    have hjl:j<sz:=by have:=(List.getElem?_eq_some_iff.1 hj).1;rw [hl x hx] at this;exact this
    rw [Nat.zero_add]
    exact h _ _ (by rw [z2b hl hx hjl];exact hj)
end
end Go.Proofs.YticolnghiibgfaaGreat
