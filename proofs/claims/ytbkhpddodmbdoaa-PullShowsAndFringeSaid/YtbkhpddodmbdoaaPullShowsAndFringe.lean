/-
  PullShowsAndFringe: the law's walk.
-/
import Derived.Test.YtbkhpddodmbdoaaMrg28
import Derived.Test.YtbkhpddodmbdoaaMrg25
import Derived.Test.YtbkhpddodmbdoaaMrg29
import Derived.Test.YtbkhpddodmbdoaaMrg9
set_option linter.unusedVariables false
set_option linter.unusedSimpArgs false
set_option linter.unnecessarySimpa false
namespace Go.Proofs.Ytbkhpddodmbdoaa.pullShowsAndFringe
open Go.RowKit
set_option maxRecDepth 20000
theorem z1n {w h:Int} {n W N ink:Nat} {p:Nat→PcD} (ok:PcsOk w h n p) (hW:(W:Int)=16*w) (hN:(N:Int)=(16*h)*(16*w)) (hk:ink<8) {x y dx dy:Int} (hx:0≤x∧x<16*w) (hy:0≤y∧y<16*h) :
    hasL (q3b w h dx dy (q2k p (fun I=>decide (1≤I ink)) n)) x y=true↔0<prV (q01 p W n) W w h ink (x-dx) (y-dy):=by
  rw [hasL_iff,(q8k ok.wd ok.ht ok.some_ok.1).2,ok.some_ok.2]
  have:=ok.prV_least hW hN hk (z:=1) (x:=x-dx) (y:=y-dy) (by omega)
  constructor
  · rintro ⟨_,k,h1,h2,h3⟩
    have:=this.2 ⟨k,h1,by simpa using h2,h3⟩
    omega
  · intro h
    obtain ⟨k,h1,h2,h3⟩:=this.1 (by omega)
    exact ⟨⟨hx,hy⟩,k,h1,by simpa using h2,h3⟩
theorem x1d {w h:Int} {n W N key ink:Nat} {p:Nat→PcD} (ok:PcsOk w h n p) (hb:∀ k,k<n→∀ j,0≤(p k).I j∧(p k).I j≤255) (hW:(W:Int)=16*w) (hN:(N:Int)=(16*h)*(16*w)) (hi:key<8) (hk:ink<8) {x y:Nat} {dx dy:Int} (hx:(x:Int)<16*w) (hy:(y:Int)<16*h) :
    hasL (q47 w h n p key ink dx dy) x y=true↔q19 (q01 p W n (y*W+x))∧0<prV (q01 p W n) W w h ink (x-dx) (y-dy)∧prV (q01 p W n) W w h key (x-dx) (y-dy)=255:=by
  have hw:=ok.wd
  have p1:=ok.prV_least hW hN hk (z:=1) (x:=x-dx) (y:=y-dy) (by omega)
  have p2:=ok.prV_least hW hN hi (z:=255) (x:=x-dx) (y:=y-dy) (by omega)
  obtain ⟨j,j1,j2,j3,j4⟩:=z76 (x:=(x:Int)) (y:=(y:Int)) (by omega) hW hN (by omega) (by omega)
  have e:y*W+x=j:=by
    have:((y*W:Nat):Int)=(y:Int)*(16*w):=by rw [Int.natCast_mul,hW]
    omega
  have hle:prV (q01 p W n) W w h key (x-dx) (y-dy)≤255:=by
    unfold prV
    split
    · exact (q6q hb _ _).2
    · omega
  rw [hasL_iff,ok.fringe.2,(q8k ok.wd ok.ht ok.under.1).2,ok.paper.2,ok.under.2,e,ok.cellI_zero,← j2,← j3]
  constructor
  · rintro ⟨⟨_,h1⟩,_,h2,h3⟩
    refine ⟨h1,?_,?_⟩
    · have:=p1.2 h3;omega
    · have:=p2.2 h2;omega
  · rintro ⟨h1,h2,h3⟩
    exact ⟨⟨⟨by omega,by omega⟩,h1⟩,⟨by omega,by omega⟩,p2.1 (by omega),p1.1 (by omega)⟩
set_option maxHeartbeats 16000000 in
theorem body {A:Option Addr} {n c:Nat} {p:Nat→PcD} {w h key ink dx dy x y:Int} {G:Mem} (hP:PcsM G A n p) (hn:n≤c) (hc:c≤maxLen) :
    q5n Try.prog tab 0 Try.f5 [.val (.int .i64 w),.val (.int .i64 h),.val (.slice A n c),.val (.int .i64 key),.val (.int .i64 ink),.agg [.val (.int .i64 dx),.val (.int .i64 dy)],.val (.int .i64 x),.val (.int .i64 y)] [] G fun v _ _=>v=.val (.bool true):=by
  have hnm:n≤maxLen:=Nat.le_trans hn hc
  obtain ⟨w2,hw2,cw0⟩:=q6e w 1 2 (by omega)
  obtain ⟨h2,hh2,ch0⟩:=q6e h 1 2 (by omega)
  have cw:=cw0 G
  have ch:=ch0 G
  by_cases bw:1≤w∧w≤256
  · by_cases bh:1≤h∧h≤256
    · have iw:=q0l w (1) 256 G true (⟨fun _=>bw,fun _=>rfl⟩)
      have ih:=q0l h (1) 256 G true (⟨fun _=>bh,fun _=>rfl⟩)
      by_cases h0:pcsE w2 h2 n p=0
      · have ok:=q8h h0
        have m3:=q24 (w:=w2) (h:=h2) (c:=c) hP hnm
        rw [h0] at m3
        by_cases bx:-64≤dx∧dx≤64
        · by_cases by1:-64≤dy∧dy≤64
          · by_cases bi:0≤ink∧ink≤7
            · by_cases bk:0≤key∧key≤7
              · by_cases hek:ink=key
                · have idx:=q0l dx (-64) 64 G true (⟨fun _=>bx,fun _=>rfl⟩)
                  have idy:=q0l dy (-64) 64 G true (⟨fun _=>by1,fun _=>rfl⟩)
                  have iin:=q0l ink (0) 7 G true (⟨fun _=>bi,fun _=>rfl⟩)
                  obtain ⟨inn,rfl⟩:∃ k:Nat,ink=k:=⟨ink.toNat,by omega⟩
                  subst hek
                  obtain ⟨wn,rfl⟩:∃ k:Nat,w2=k:=⟨w2.toNat,by omega⟩
                  obtain ⟨hn2,rfl⟩:∃ k:Nat,h2=k:=⟨h2.toNat,by omega⟩
                  obtain ⟨W,hW⟩:∃ W,W=16*wn:=⟨_,rfl⟩
                  obtain ⟨N,hN⟩:∃ N,N=16*hn2*W:=⟨_,rfl⟩
                  have hNb:N≤1024:=by
                    rw [hN,hW]
                    have:16*hn2*(16*wn)≤32*32:=Nat.mul_le_mul (by omega) (by omega)
                    omega
                  have hWi:(W:Int)=16*(wn:Int):=by omega
                  have hNi:(N:Int)=(16*(hn2:Int))*(16*(wn:Int)):=by rw [hN,hW];push_cast;rfl
                  obtain ⟨x2,hx2,cx0⟩:=q6e x 0 (16*(wn:Int)-1) (by omega)
                  obtain ⟨y2,hy2,cy0⟩:=q6e y 0 (16*(hn2:Int)-1) (by omega)
                  obtain ⟨xn,rfl⟩:∃ k:Nat,x2=k:=⟨x2.toNat,by omega⟩
                  obtain ⟨yn,rfl⟩:∃ k:Nat,y2=k:=⟨y2.toNat,by omega⟩
                  have hJ:∀ i j,0≤q01 p W n i j∧q01 p W n i j≤255:=q6q hP.ink
                  have ms:=q9d (c:=c) (ink:=inn) (dx:=dx) (dy:=dy) ok h0 hP hn hc (by omega) bx by1
                  have hS:=z1n (W:=W) (N:=N) (ink:=inn) (x:=(xn:Int)) (y:=(yn:Int)) (dx:=dx) (dy:=dy) ok hWi hNi (by omega) (by omega) (by omega)
                  obtain ⟨vS,lS⟩:=q6n (dx:=dx) (dy:=dy) ok.wd ok.ht (ok.some_ok (sel:=fun I=>decide (1≤I inn))).1
                  generalize q3b wn hn2 dx dy (q2k p (fun I=>decide (1≤I inn)) n)=S at *
                  (repeat ((try (conv=>whnf));(first |(refine stQ ?_) |(with_reducible first |refine q0b (fun vs w=>by kernel_rfl) (by kernel_rfl) (q0m _) ?_ |refine q0a (fun vs w=>by kernel_rfl) (by kernel_rfl) (q0m _) ?_ |refine q0b (fun vs w=>by kernel_rfl) (by kernel_rfl) (iw) ?_ |refine q0a (fun vs w=>by kernel_rfl) (by kernel_rfl) (iw) ?_ |refine q0b (fun vs w=>by kernel_rfl) (by kernel_rfl) (ih) ?_ |refine q0a (fun vs w=>by kernel_rfl) (by kernel_rfl) (ih) ?_ |refine q0b (fun vs w=>by kernel_rfl) (by kernel_rfl) (cw) ?_ |refine q0a (fun vs w=>by kernel_rfl) (by kernel_rfl) (cw) ?_ |refine q0b (fun vs w=>by kernel_rfl) (by kernel_rfl) (ch) ?_ |refine q0a (fun vs w=>by kernel_rfl) (by kernel_rfl) (ch) ?_))))
                  conv=>whnf
                  refine q04 (fun vs w=>by kernel_rfl) (q00 0) (by kernel_rfl) ms fun A2 c2 G2 hG2 hc2 hm2 hx2'=>?_
                  have hA2:=RunsM.frozen hx2'
                  have m2:=z81 (c:=c) (dx:=dx) (dy:=dy) (hP.mono hG2) hnm h0 bi ⟨bx,by1⟩
                  have hle3:=hG2
                  have m3:=q24 (w:=(wn:Int)) (h:=(hn2:Int)) (c:=c) (hP.mono hle3) hnm
                  rw [h0] at m3
                  have idx3:=q0l dx (-64) 64 G2 true (⟨fun _=>bx,fun _=>rfl⟩)
                  have idy3:=q0l dy (-64) 64 G2 true (⟨fun _=>by1,fun _=>rfl⟩)
                  have iin3:=q0l (inn:Int) (0) 7 G2 true (⟨fun _=>bi,fun _=>rfl⟩)
                  have mc:=q7o (c:=c) ok (hP.mono hle3) hW hN (by omega)
                  (repeat ((try (conv=>whnf));(first |(refine stQ ?_) |(with_reducible first |refine q0b (fun vs w=>by kernel_rfl) (by kernel_rfl) (m2) ?_ |refine q0a (fun vs w=>by kernel_rfl) (by kernel_rfl) (m2) ?_ |refine q0b (fun vs w=>by kernel_rfl) (by kernel_rfl) (m3) ?_ |refine q0a (fun vs w=>by kernel_rfl) (by kernel_rfl) (m3) ?_ |refine q0b (fun vs w=>by kernel_rfl) (by kernel_rfl) (idx3) ?_ |refine q0a (fun vs w=>by kernel_rfl) (by kernel_rfl) (idx3) ?_ |refine q0b (fun vs w=>by kernel_rfl) (by kernel_rfl) (idy3) ?_ |refine q0a (fun vs w=>by kernel_rfl) (by kernel_rfl) (idy3) ?_ |refine q0b (fun vs w=>by kernel_rfl) (by kernel_rfl) (iin3) ?_ |refine q0a (fun vs w=>by kernel_rfl) (by kernel_rfl) (iin3) ?_))))
                  conv=>whnf
                  refine q04 (fun vs w=>by kernel_rfl) (.alone fun _=>rfl) (by kernel_rfl) mc fun A4 c4 G4 hG4 hc4 hm4 hx4=>?_
                  have hE4:ElsM G4 A4 8 N fun i=>inkC (q01 p W n i):=ElsM.frozen (fun _ _=>rfl) hx4 (by omega)
                  have hA2:=hA2.mono hG4
                  have cx:=cx0 G4
                  have cy:=cy0 G4
                  have rs:=q4j hA2 hc2 hm2
                  rw [q2q vS] at rs
                  have hs:=q5h A2 S c2 xn yn G4 hA2 (by omega)
                  have gi:=q51 (c:=c4) (w:=wn) (h:=hn2) (ink:=inn) (x:=(xn:Int)) (y:=(yn:Int)) (dx:=dx) (dy:=dy) (by omega) (by omega) hW hN (by omega) ⟨hc4,hm4⟩ (by omega) hE4 hJ (by omega) (by omega) bx by1
                  have iik:=q0l (inn:Int) (0) 7 G4 true (⟨fun _=>bi,fun _=>rfl⟩)
                  have r0:=q4j (c:=0) (RunsM.nil G4 none) (Nat.zero_le _) (Nat.zero_le _)
                  have hs0:=q5h none [] 0 xn yn G4 (RunsM.nil G4 none) (by simp)
                  rw [show errL ([]:List Run)=0 from rfl] at r0
                  rw [show hasL ([]:List Run) (xn:Int) (yn:Int)=false from rfl] at hs0
                  generalize prV (q01 p W n) W wn hn2 inn ((xn:Int)-dx) ((yn:Int)-dy)=vi at *
                  by_cases b:0<vi
                  · rw [hS.2 b] at hs
                    (repeat ((try (conv=>whnf));(first |(first |(with_reducible refine q1d true (by kernel_rfl) (by first |rfl |simp [b]) ?_) |(with_reducible refine q1d false (by kernel_rfl) (by first |rfl |simp [b]) ?_)) |(refine stQ ?_) |(with_reducible first |refine q0b (fun vs w=>by kernel_rfl) (by kernel_rfl) (cx) ?_ |refine q0a (fun vs w=>by kernel_rfl) (by kernel_rfl) (cx) ?_ |refine q0b (fun vs w=>by kernel_rfl) (by kernel_rfl) (cy) ?_ |refine q0a (fun vs w=>by kernel_rfl) (by kernel_rfl) (cy) ?_ |refine q0b (fun vs w=>by kernel_rfl) (by kernel_rfl) (rs) ?_ |refine q0a (fun vs w=>by kernel_rfl) (by kernel_rfl) (rs) ?_ |refine q0b (fun vs w=>by kernel_rfl) (by kernel_rfl) (hs) ?_ |refine q0a (fun vs w=>by kernel_rfl) (by kernel_rfl) (hs) ?_ |refine q0b (fun vs w=>by kernel_rfl) (by kernel_rfl) (gi) ?_ |refine q0a (fun vs w=>by kernel_rfl) (by kernel_rfl) (gi) ?_ |refine q0b (fun vs w=>by kernel_rfl) (by kernel_rfl) (iik) ?_ |refine q0a (fun vs w=>by kernel_rfl) (by kernel_rfl) (iik) ?_ |refine q0b (fun vs w=>by kernel_rfl) (by kernel_rfl) (r0) ?_ |refine q0a (fun vs w=>by kernel_rfl) (by kernel_rfl) (r0) ?_ |refine q0b (fun vs w=>by kernel_rfl) (by kernel_rfl) (hs0) ?_ |refine q0a (fun vs w=>by kernel_rfl) (by kernel_rfl) (hs0) ?_))))
                    conv=>whnf
                    try simp
                  · rw [Bool.eq_false_iff.2 (fun h=>b (hS.1 h))] at hs
                    (repeat ((try (conv=>whnf));(first |(first |(with_reducible refine q1d true (by kernel_rfl) (by first |rfl |simp [b]) ?_) |(with_reducible refine q1d false (by kernel_rfl) (by first |rfl |simp [b]) ?_)) |(refine stQ ?_) |(with_reducible first |refine q0b (fun vs w=>by kernel_rfl) (by kernel_rfl) (cx) ?_ |refine q0a (fun vs w=>by kernel_rfl) (by kernel_rfl) (cx) ?_ |refine q0b (fun vs w=>by kernel_rfl) (by kernel_rfl) (cy) ?_ |refine q0a (fun vs w=>by kernel_rfl) (by kernel_rfl) (cy) ?_ |refine q0b (fun vs w=>by kernel_rfl) (by kernel_rfl) (rs) ?_ |refine q0a (fun vs w=>by kernel_rfl) (by kernel_rfl) (rs) ?_ |refine q0b (fun vs w=>by kernel_rfl) (by kernel_rfl) (hs) ?_ |refine q0a (fun vs w=>by kernel_rfl) (by kernel_rfl) (hs) ?_ |refine q0b (fun vs w=>by kernel_rfl) (by kernel_rfl) (gi) ?_ |refine q0a (fun vs w=>by kernel_rfl) (by kernel_rfl) (gi) ?_ |refine q0b (fun vs w=>by kernel_rfl) (by kernel_rfl) (iik) ?_ |refine q0a (fun vs w=>by kernel_rfl) (by kernel_rfl) (iik) ?_ |refine q0b (fun vs w=>by kernel_rfl) (by kernel_rfl) (r0) ?_ |refine q0a (fun vs w=>by kernel_rfl) (by kernel_rfl) (r0) ?_ |refine q0b (fun vs w=>by kernel_rfl) (by kernel_rfl) (hs0) ?_ |refine q0a (fun vs w=>by kernel_rfl) (by kernel_rfl) (hs0) ?_))))
                    conv=>whnf
                    try simp
                · have idx:=q0l dx (-64) 64 G true (⟨fun _=>bx,fun _=>rfl⟩)
                  have idy:=q0l dy (-64) 64 G true (⟨fun _=>by1,fun _=>rfl⟩)
                  have iin:=q0l ink (0) 7 G true (⟨fun _=>bi,fun _=>rfl⟩)
                  obtain ⟨inn,rfl⟩:∃ k:Nat,ink=k:=⟨ink.toNat,by omega⟩
                  obtain ⟨kn,rfl⟩:∃ k:Nat,key=k:=⟨key.toNat,by omega⟩
                  obtain ⟨wn,rfl⟩:∃ k:Nat,w2=k:=⟨w2.toNat,by omega⟩
                  obtain ⟨hn2,rfl⟩:∃ k:Nat,h2=k:=⟨h2.toNat,by omega⟩
                  obtain ⟨W,hW⟩:∃ W,W=16*wn:=⟨_,rfl⟩
                  obtain ⟨N,hN⟩:∃ N,N=16*hn2*W:=⟨_,rfl⟩
                  have hNb:N≤1024:=by
                    rw [hN,hW]
                    have:16*hn2*(16*wn)≤32*32:=Nat.mul_le_mul (by omega) (by omega)
                    omega
                  have hWi:(W:Int)=16*(wn:Int):=by omega
                  have hNi:(N:Int)=(16*(hn2:Int))*(16*(wn:Int)):=by rw [hN,hW];push_cast;rfl
                  obtain ⟨x2,hx2,cx0⟩:=q6e x 0 (16*(wn:Int)-1) (by omega)
                  obtain ⟨y2,hy2,cy0⟩:=q6e y 0 (16*(hn2:Int)-1) (by omega)
                  obtain ⟨xn,rfl⟩:∃ k:Nat,x2=k:=⟨x2.toNat,by omega⟩
                  obtain ⟨yn,rfl⟩:∃ k:Nat,y2=k:=⟨y2.toNat,by omega⟩
                  have hJ:∀ i j,0≤q01 p W n i j∧q01 p W n i j≤255:=q6q hP.ink
                  have ms:=q9d (c:=c) (ink:=inn) (dx:=dx) (dy:=dy) ok h0 hP hn hc (by omega) bx by1
                  have hS:=z1n (W:=W) (N:=N) (ink:=inn) (x:=(xn:Int)) (y:=(yn:Int)) (dx:=dx) (dy:=dy) ok hWi hNi (by omega) (by omega) (by omega)
                  obtain ⟨vS,lS⟩:=q6n (dx:=dx) (dy:=dy) ok.wd ok.ht (ok.some_ok (sel:=fun I=>decide (1≤I inn))).1
                  have hF:=x1d (W:=W) (N:=N) (key:=kn) (ink:=inn) (x:=xn) (y:=yn) (dx:=dx) (dy:=dy) ok hP.ink hWi hNi (by omega) (by omega) (by omega) (by omega)
                  obtain ⟨vF,lF⟩:=ok.fringe_valid (key:=kn) (ink:=inn) (dx:=dx) (dy:=dy)
                  have mf:=fun {G':Mem} (hle:G.le G')=>z1l (c:=c) (key:=kn) (ink:=inn) (dx:=dx) (dy:=dy) ok h0 (hP.mono hle) hn hc (by omega) (by omega) (by omega) bx by1
                  generalize q47 wn hn2 n p kn inn dx dy=F at *
                  generalize q3b wn hn2 dx dy (q2k p (fun I=>decide (1≤I inn)) n)=S at *
                  (repeat ((try (conv=>whnf));(first |(refine stQ ?_) |(with_reducible first |refine q0b (fun vs w=>by kernel_rfl) (by kernel_rfl) (q0m _) ?_ |refine q0a (fun vs w=>by kernel_rfl) (by kernel_rfl) (q0m _) ?_ |refine q0b (fun vs w=>by kernel_rfl) (by kernel_rfl) (iw) ?_ |refine q0a (fun vs w=>by kernel_rfl) (by kernel_rfl) (iw) ?_ |refine q0b (fun vs w=>by kernel_rfl) (by kernel_rfl) (ih) ?_ |refine q0a (fun vs w=>by kernel_rfl) (by kernel_rfl) (ih) ?_ |refine q0b (fun vs w=>by kernel_rfl) (by kernel_rfl) (cw) ?_ |refine q0a (fun vs w=>by kernel_rfl) (by kernel_rfl) (cw) ?_ |refine q0b (fun vs w=>by kernel_rfl) (by kernel_rfl) (ch) ?_ |refine q0a (fun vs w=>by kernel_rfl) (by kernel_rfl) (ch) ?_))))
                  conv=>whnf
                  refine q04 (fun vs w=>by kernel_rfl) (q00 0) (by kernel_rfl) ms fun A2 c2 G2 hG2 hc2 hm2 hx2'=>?_
                  have hA2:=RunsM.frozen hx2'
                  have mf:=mf hG2
                  (repeat ((try (conv=>whnf));(refine stQ ?_)))
                  conv=>whnf
                  refine q04 (fun vs w=>by kernel_rfl) (q00 0) (by kernel_rfl) mf fun A3 c3 G3 hG3 hc3 hm3 hx3'=>?_
                  have hA3:=RunsM.frozen hx3'
                  have hle3:=Mem.le_trans hG2 hG3
                  have hA2:=hA2.mono hG3
                  have m3:=q24 (w:=(wn:Int)) (h:=(hn2:Int)) (c:=c) (hP.mono hle3) hnm
                  rw [h0] at m3
                  have idx3:=q0l dx (-64) 64 G3 true (⟨fun _=>bx,fun _=>rfl⟩)
                  have idy3:=q0l dy (-64) 64 G3 true (⟨fun _=>by1,fun _=>rfl⟩)
                  have iin3:=q0l (inn:Int) (0) 7 G3 true (⟨fun _=>bi,fun _=>rfl⟩)
                  have mc:=q7o (c:=c) ok (hP.mono hle3) hW hN (by omega)
                  (repeat ((try (conv=>whnf));(first |(refine stQ ?_) |(with_reducible first |refine q0b (fun vs w=>by kernel_rfl) (by kernel_rfl) (m3) ?_ |refine q0a (fun vs w=>by kernel_rfl) (by kernel_rfl) (m3) ?_ |refine q0b (fun vs w=>by kernel_rfl) (by kernel_rfl) (idx3) ?_ |refine q0a (fun vs w=>by kernel_rfl) (by kernel_rfl) (idx3) ?_ |refine q0b (fun vs w=>by kernel_rfl) (by kernel_rfl) (idy3) ?_ |refine q0a (fun vs w=>by kernel_rfl) (by kernel_rfl) (idy3) ?_ |refine q0b (fun vs w=>by kernel_rfl) (by kernel_rfl) (iin3) ?_ |refine q0a (fun vs w=>by kernel_rfl) (by kernel_rfl) (iin3) ?_))))
                  conv=>whnf
                  refine q04 (fun vs w=>by kernel_rfl) (.alone fun _=>rfl) (by kernel_rfl) mc fun A4 c4 G4 hG4 hc4 hm4 hx4=>?_
                  have hE4:ElsM G4 A4 8 N fun i=>inkC (q01 p W n i):=ElsM.frozen (fun _ _=>rfl) hx4 (by omega)
                  have hA2:=hA2.mono hG4
                  have cx:=cx0 G4
                  have cy:=cy0 G4
                  have rs:=q4j hA2 hc2 hm2
                  rw [q2q vS] at rs
                  have hs:=q5h A2 S c2 xn yn G4 hA2 (by omega)
                  have gi:=q51 (c:=c4) (w:=wn) (h:=hn2) (ink:=inn) (x:=(xn:Int)) (y:=(yn:Int)) (dx:=dx) (dy:=dy) (by omega) (by omega) hW hN (by omega) ⟨hc4,hm4⟩ (by omega) hE4 hJ (by omega) (by omega) bx by1
                  have iik:=q0l (kn:Int) (0) 7 G4 true (⟨fun _=>bk,fun _=>rfl⟩)
                  have hA3:=hA3.mono hG4
                  have rf:=q4j hA3 hc3 hm3
                  rw [q2q vF] at rf
                  have hf:=q5h A3 F c3 xn yn G4 hA3 (by omega)
                  have gk:=q51 (c:=c4) (w:=wn) (h:=hn2) (ink:=kn) (x:=(xn:Int)) (y:=(yn:Int)) (dx:=dx) (dy:=dy) (by omega) (by omega) hW hN (by omega) ⟨hc4,hm4⟩ (by omega) hE4 hJ (by omega) (by omega) bx by1
                  have hyW:yn*W+W≤N:=by
                    rw [hN]
                    have:=Nat.mul_le_mul_right W (show yn+1≤16*hn2 by omega)
                    rw [Nat.add_mul,Nat.one_mul] at this;exact this
                  have e1:(16:Int)*(wn:Int)*(yn:Int)=((yn*W:Nat):Int):=by rw [hW];push_cast;rw [Int.mul_comm]
                  have eo:((16:Int)*(wn:Int)*(yn:Int)+(xn:Int)).toNat=yn*W+xn:=by rw [e1];omega
                  obtain ⟨a,rfl,ci⟩:=hE4.cells (x:=yn*W+xn) (by omega)
                  have ci1:∀ K:List Value→Prop,K (inkC (q01 p W n (yn*W+xn)))→OldCells G4 (a.add (((16:Int)*(wn:Int)*(yn:Int)+(xn:Int)).toNat * 8)) 8 K:=by rw [eo];exact ci
                  generalize prV (q01 p W n) W wn hn2 inn ((xn:Int)-dx) ((yn:Int)-dy)=vi at *
                  generalize prV (q01 p W n) W wn hn2 kn ((xn:Int)-dx) ((yn:Int)-dy)=vk at *
                  generalize q01 p W n (yn*W+xn)=J at *
                  by_cases b:0<vi
                  · rw [hS.2 b] at hs
                    by_cases hz:q19 J
                    · by_cases b5:vk=255
                      · rw [hF.2 ⟨hz,b,b5⟩] at hf
                        unfold q19 at hz
                        (repeat ((try (conv=>whnf));(first |(refine ci1 _ ?_) |(first |(with_reducible refine q1d true (by kernel_rfl) (by first |rfl |simp [b,b5]) ?_) |(with_reducible refine q1d false (by kernel_rfl) (by first |rfl |simp [b,b5]) ?_)) |(refine stQ ?_) |(with_reducible first |refine q0b (fun vs w=>by kernel_rfl) (by kernel_rfl) (cx) ?_ |refine q0a (fun vs w=>by kernel_rfl) (by kernel_rfl) (cx) ?_ |refine q0b (fun vs w=>by kernel_rfl) (by kernel_rfl) (cy) ?_ |refine q0a (fun vs w=>by kernel_rfl) (by kernel_rfl) (cy) ?_ |refine q0b (fun vs w=>by kernel_rfl) (by kernel_rfl) (rs) ?_ |refine q0a (fun vs w=>by kernel_rfl) (by kernel_rfl) (rs) ?_ |refine q0b (fun vs w=>by kernel_rfl) (by kernel_rfl) (hs) ?_ |refine q0a (fun vs w=>by kernel_rfl) (by kernel_rfl) (hs) ?_ |refine q0b (fun vs w=>by kernel_rfl) (by kernel_rfl) (gi) ?_ |refine q0a (fun vs w=>by kernel_rfl) (by kernel_rfl) (gi) ?_ |refine q0b (fun vs w=>by kernel_rfl) (by kernel_rfl) (iik) ?_ |refine q0a (fun vs w=>by kernel_rfl) (by kernel_rfl) (iik) ?_ |refine q0b (fun vs w=>by kernel_rfl) (by kernel_rfl) (rf) ?_ |refine q0a (fun vs w=>by kernel_rfl) (by kernel_rfl) (rf) ?_ |refine q0b (fun vs w=>by kernel_rfl) (by kernel_rfl) (hf) ?_ |refine q0a (fun vs w=>by kernel_rfl) (by kernel_rfl) (hf) ?_ |refine q0b (fun vs w=>by kernel_rfl) (by kernel_rfl) (gk) ?_ |refine q0a (fun vs w=>by kernel_rfl) (by kernel_rfl) (gk) ?_))))
                        conv=>whnf
                        try simp
                      · rw [Bool.eq_false_iff.2 (fun h=>b5 (hF.1 h).2.2)] at hf
                        unfold q19 at hz
                        (repeat ((try (conv=>whnf));(first |(refine ci1 _ ?_) |(first |(with_reducible refine q1d true (by kernel_rfl) (by first |rfl |simp [b,b5]) ?_) |(with_reducible refine q1d false (by kernel_rfl) (by first |rfl |simp [b,b5]) ?_)) |(refine stQ ?_) |(with_reducible first |refine q0b (fun vs w=>by kernel_rfl) (by kernel_rfl) (cx) ?_ |refine q0a (fun vs w=>by kernel_rfl) (by kernel_rfl) (cx) ?_ |refine q0b (fun vs w=>by kernel_rfl) (by kernel_rfl) (cy) ?_ |refine q0a (fun vs w=>by kernel_rfl) (by kernel_rfl) (cy) ?_ |refine q0b (fun vs w=>by kernel_rfl) (by kernel_rfl) (rs) ?_ |refine q0a (fun vs w=>by kernel_rfl) (by kernel_rfl) (rs) ?_ |refine q0b (fun vs w=>by kernel_rfl) (by kernel_rfl) (hs) ?_ |refine q0a (fun vs w=>by kernel_rfl) (by kernel_rfl) (hs) ?_ |refine q0b (fun vs w=>by kernel_rfl) (by kernel_rfl) (gi) ?_ |refine q0a (fun vs w=>by kernel_rfl) (by kernel_rfl) (gi) ?_ |refine q0b (fun vs w=>by kernel_rfl) (by kernel_rfl) (iik) ?_ |refine q0a (fun vs w=>by kernel_rfl) (by kernel_rfl) (iik) ?_ |refine q0b (fun vs w=>by kernel_rfl) (by kernel_rfl) (rf) ?_ |refine q0a (fun vs w=>by kernel_rfl) (by kernel_rfl) (rf) ?_ |refine q0b (fun vs w=>by kernel_rfl) (by kernel_rfl) (hf) ?_ |refine q0a (fun vs w=>by kernel_rfl) (by kernel_rfl) (hf) ?_ |refine q0b (fun vs w=>by kernel_rfl) (by kernel_rfl) (gk) ?_ |refine q0a (fun vs w=>by kernel_rfl) (by kernel_rfl) (gk) ?_))))
                        conv=>whnf
                        try simp
                    · by_cases b5:vk=255
                      · rw [Bool.eq_false_iff.2 (fun h=>hz (hF.1 h).1)] at hf
                        have hnz:=q4o hz
                        (repeat ((try (conv=>whnf));(first |(refine ci1 _ ?_) |(with_reducible refine q1j hnz ?_) |(first |(with_reducible refine q1d true (by kernel_rfl) (by first |rfl |simp [b,b5]) ?_) |(with_reducible refine q1d false (by kernel_rfl) (by first |rfl |simp [b,b5]) ?_)) |(refine stQ ?_) |(with_reducible first |refine q0b (fun vs w=>by kernel_rfl) (by kernel_rfl) (cx) ?_ |refine q0a (fun vs w=>by kernel_rfl) (by kernel_rfl) (cx) ?_ |refine q0b (fun vs w=>by kernel_rfl) (by kernel_rfl) (cy) ?_ |refine q0a (fun vs w=>by kernel_rfl) (by kernel_rfl) (cy) ?_ |refine q0b (fun vs w=>by kernel_rfl) (by kernel_rfl) (rs) ?_ |refine q0a (fun vs w=>by kernel_rfl) (by kernel_rfl) (rs) ?_ |refine q0b (fun vs w=>by kernel_rfl) (by kernel_rfl) (hs) ?_ |refine q0a (fun vs w=>by kernel_rfl) (by kernel_rfl) (hs) ?_ |refine q0b (fun vs w=>by kernel_rfl) (by kernel_rfl) (gi) ?_ |refine q0a (fun vs w=>by kernel_rfl) (by kernel_rfl) (gi) ?_ |refine q0b (fun vs w=>by kernel_rfl) (by kernel_rfl) (iik) ?_ |refine q0a (fun vs w=>by kernel_rfl) (by kernel_rfl) (iik) ?_ |refine q0b (fun vs w=>by kernel_rfl) (by kernel_rfl) (rf) ?_ |refine q0a (fun vs w=>by kernel_rfl) (by kernel_rfl) (rf) ?_ |refine q0b (fun vs w=>by kernel_rfl) (by kernel_rfl) (hf) ?_ |refine q0a (fun vs w=>by kernel_rfl) (by kernel_rfl) (hf) ?_ |refine q0b (fun vs w=>by kernel_rfl) (by kernel_rfl) (gk) ?_ |refine q0a (fun vs w=>by kernel_rfl) (by kernel_rfl) (gk) ?_))))
                        conv=>whnf
                        try simp
                      · rw [Bool.eq_false_iff.2 (fun h=>hz (hF.1 h).1)] at hf
                        have hnz:=q4o hz
                        (repeat ((try (conv=>whnf));(first |(refine ci1 _ ?_) |(with_reducible refine q1j hnz ?_) |(first |(with_reducible refine q1d true (by kernel_rfl) (by first |rfl |simp [b,b5]) ?_) |(with_reducible refine q1d false (by kernel_rfl) (by first |rfl |simp [b,b5]) ?_)) |(refine stQ ?_) |(with_reducible first |refine q0b (fun vs w=>by kernel_rfl) (by kernel_rfl) (cx) ?_ |refine q0a (fun vs w=>by kernel_rfl) (by kernel_rfl) (cx) ?_ |refine q0b (fun vs w=>by kernel_rfl) (by kernel_rfl) (cy) ?_ |refine q0a (fun vs w=>by kernel_rfl) (by kernel_rfl) (cy) ?_ |refine q0b (fun vs w=>by kernel_rfl) (by kernel_rfl) (rs) ?_ |refine q0a (fun vs w=>by kernel_rfl) (by kernel_rfl) (rs) ?_ |refine q0b (fun vs w=>by kernel_rfl) (by kernel_rfl) (hs) ?_ |refine q0a (fun vs w=>by kernel_rfl) (by kernel_rfl) (hs) ?_ |refine q0b (fun vs w=>by kernel_rfl) (by kernel_rfl) (gi) ?_ |refine q0a (fun vs w=>by kernel_rfl) (by kernel_rfl) (gi) ?_ |refine q0b (fun vs w=>by kernel_rfl) (by kernel_rfl) (iik) ?_ |refine q0a (fun vs w=>by kernel_rfl) (by kernel_rfl) (iik) ?_ |refine q0b (fun vs w=>by kernel_rfl) (by kernel_rfl) (rf) ?_ |refine q0a (fun vs w=>by kernel_rfl) (by kernel_rfl) (rf) ?_ |refine q0b (fun vs w=>by kernel_rfl) (by kernel_rfl) (hf) ?_ |refine q0a (fun vs w=>by kernel_rfl) (by kernel_rfl) (hf) ?_ |refine q0b (fun vs w=>by kernel_rfl) (by kernel_rfl) (gk) ?_ |refine q0a (fun vs w=>by kernel_rfl) (by kernel_rfl) (gk) ?_))))
                        conv=>whnf
                        try simp
                  · rw [Bool.eq_false_iff.2 (fun h=>b (hS.1 h))] at hs
                    by_cases hz:q19 J
                    · by_cases b5:vk=255
                      · rw [Bool.eq_false_iff.2 (fun h=>b (hF.1 h).2.1)] at hf
                        unfold q19 at hz
                        (repeat ((try (conv=>whnf));(first |(refine ci1 _ ?_) |(first |(with_reducible refine q1d true (by kernel_rfl) (by first |rfl |simp [b,b5]) ?_) |(with_reducible refine q1d false (by kernel_rfl) (by first |rfl |simp [b,b5]) ?_)) |(refine stQ ?_) |(with_reducible first |refine q0b (fun vs w=>by kernel_rfl) (by kernel_rfl) (cx) ?_ |refine q0a (fun vs w=>by kernel_rfl) (by kernel_rfl) (cx) ?_ |refine q0b (fun vs w=>by kernel_rfl) (by kernel_rfl) (cy) ?_ |refine q0a (fun vs w=>by kernel_rfl) (by kernel_rfl) (cy) ?_ |refine q0b (fun vs w=>by kernel_rfl) (by kernel_rfl) (rs) ?_ |refine q0a (fun vs w=>by kernel_rfl) (by kernel_rfl) (rs) ?_ |refine q0b (fun vs w=>by kernel_rfl) (by kernel_rfl) (hs) ?_ |refine q0a (fun vs w=>by kernel_rfl) (by kernel_rfl) (hs) ?_ |refine q0b (fun vs w=>by kernel_rfl) (by kernel_rfl) (gi) ?_ |refine q0a (fun vs w=>by kernel_rfl) (by kernel_rfl) (gi) ?_ |refine q0b (fun vs w=>by kernel_rfl) (by kernel_rfl) (iik) ?_ |refine q0a (fun vs w=>by kernel_rfl) (by kernel_rfl) (iik) ?_ |refine q0b (fun vs w=>by kernel_rfl) (by kernel_rfl) (rf) ?_ |refine q0a (fun vs w=>by kernel_rfl) (by kernel_rfl) (rf) ?_ |refine q0b (fun vs w=>by kernel_rfl) (by kernel_rfl) (hf) ?_ |refine q0a (fun vs w=>by kernel_rfl) (by kernel_rfl) (hf) ?_ |refine q0b (fun vs w=>by kernel_rfl) (by kernel_rfl) (gk) ?_ |refine q0a (fun vs w=>by kernel_rfl) (by kernel_rfl) (gk) ?_))))
                        conv=>whnf
                        try simp
                      · rw [Bool.eq_false_iff.2 (fun h=>b (hF.1 h).2.1)] at hf
                        unfold q19 at hz
                        (repeat ((try (conv=>whnf));(first |(refine ci1 _ ?_) |(first |(with_reducible refine q1d true (by kernel_rfl) (by first |rfl |simp [b,b5]) ?_) |(with_reducible refine q1d false (by kernel_rfl) (by first |rfl |simp [b,b5]) ?_)) |(refine stQ ?_) |(with_reducible first |refine q0b (fun vs w=>by kernel_rfl) (by kernel_rfl) (cx) ?_ |refine q0a (fun vs w=>by kernel_rfl) (by kernel_rfl) (cx) ?_ |refine q0b (fun vs w=>by kernel_rfl) (by kernel_rfl) (cy) ?_ |refine q0a (fun vs w=>by kernel_rfl) (by kernel_rfl) (cy) ?_ |refine q0b (fun vs w=>by kernel_rfl) (by kernel_rfl) (rs) ?_ |refine q0a (fun vs w=>by kernel_rfl) (by kernel_rfl) (rs) ?_ |refine q0b (fun vs w=>by kernel_rfl) (by kernel_rfl) (hs) ?_ |refine q0a (fun vs w=>by kernel_rfl) (by kernel_rfl) (hs) ?_ |refine q0b (fun vs w=>by kernel_rfl) (by kernel_rfl) (gi) ?_ |refine q0a (fun vs w=>by kernel_rfl) (by kernel_rfl) (gi) ?_ |refine q0b (fun vs w=>by kernel_rfl) (by kernel_rfl) (iik) ?_ |refine q0a (fun vs w=>by kernel_rfl) (by kernel_rfl) (iik) ?_ |refine q0b (fun vs w=>by kernel_rfl) (by kernel_rfl) (rf) ?_ |refine q0a (fun vs w=>by kernel_rfl) (by kernel_rfl) (rf) ?_ |refine q0b (fun vs w=>by kernel_rfl) (by kernel_rfl) (hf) ?_ |refine q0a (fun vs w=>by kernel_rfl) (by kernel_rfl) (hf) ?_ |refine q0b (fun vs w=>by kernel_rfl) (by kernel_rfl) (gk) ?_ |refine q0a (fun vs w=>by kernel_rfl) (by kernel_rfl) (gk) ?_))))
                        conv=>whnf
                        try simp
                    · by_cases b5:vk=255
                      · rw [Bool.eq_false_iff.2 (fun h=>hz (hF.1 h).1)] at hf
                        have hnz:=q4o hz
                        (repeat ((try (conv=>whnf));(first |(refine ci1 _ ?_) |(with_reducible refine q1j hnz ?_) |(first |(with_reducible refine q1d true (by kernel_rfl) (by first |rfl |simp [b,b5]) ?_) |(with_reducible refine q1d false (by kernel_rfl) (by first |rfl |simp [b,b5]) ?_)) |(refine stQ ?_) |(with_reducible first |refine q0b (fun vs w=>by kernel_rfl) (by kernel_rfl) (cx) ?_ |refine q0a (fun vs w=>by kernel_rfl) (by kernel_rfl) (cx) ?_ |refine q0b (fun vs w=>by kernel_rfl) (by kernel_rfl) (cy) ?_ |refine q0a (fun vs w=>by kernel_rfl) (by kernel_rfl) (cy) ?_ |refine q0b (fun vs w=>by kernel_rfl) (by kernel_rfl) (rs) ?_ |refine q0a (fun vs w=>by kernel_rfl) (by kernel_rfl) (rs) ?_ |refine q0b (fun vs w=>by kernel_rfl) (by kernel_rfl) (hs) ?_ |refine q0a (fun vs w=>by kernel_rfl) (by kernel_rfl) (hs) ?_ |refine q0b (fun vs w=>by kernel_rfl) (by kernel_rfl) (gi) ?_ |refine q0a (fun vs w=>by kernel_rfl) (by kernel_rfl) (gi) ?_ |refine q0b (fun vs w=>by kernel_rfl) (by kernel_rfl) (iik) ?_ |refine q0a (fun vs w=>by kernel_rfl) (by kernel_rfl) (iik) ?_ |refine q0b (fun vs w=>by kernel_rfl) (by kernel_rfl) (rf) ?_ |refine q0a (fun vs w=>by kernel_rfl) (by kernel_rfl) (rf) ?_ |refine q0b (fun vs w=>by kernel_rfl) (by kernel_rfl) (hf) ?_ |refine q0a (fun vs w=>by kernel_rfl) (by kernel_rfl) (hf) ?_ |refine q0b (fun vs w=>by kernel_rfl) (by kernel_rfl) (gk) ?_ |refine q0a (fun vs w=>by kernel_rfl) (by kernel_rfl) (gk) ?_))))
                        conv=>whnf
                        try simp
                      · rw [Bool.eq_false_iff.2 (fun h=>hz (hF.1 h).1)] at hf
                        have hnz:=q4o hz
                        (repeat ((try (conv=>whnf));(first |(refine ci1 _ ?_) |(with_reducible refine q1j hnz ?_) |(first |(with_reducible refine q1d true (by kernel_rfl) (by first |rfl |simp [b,b5]) ?_) |(with_reducible refine q1d false (by kernel_rfl) (by first |rfl |simp [b,b5]) ?_)) |(refine stQ ?_) |(with_reducible first |refine q0b (fun vs w=>by kernel_rfl) (by kernel_rfl) (cx) ?_ |refine q0a (fun vs w=>by kernel_rfl) (by kernel_rfl) (cx) ?_ |refine q0b (fun vs w=>by kernel_rfl) (by kernel_rfl) (cy) ?_ |refine q0a (fun vs w=>by kernel_rfl) (by kernel_rfl) (cy) ?_ |refine q0b (fun vs w=>by kernel_rfl) (by kernel_rfl) (rs) ?_ |refine q0a (fun vs w=>by kernel_rfl) (by kernel_rfl) (rs) ?_ |refine q0b (fun vs w=>by kernel_rfl) (by kernel_rfl) (hs) ?_ |refine q0a (fun vs w=>by kernel_rfl) (by kernel_rfl) (hs) ?_ |refine q0b (fun vs w=>by kernel_rfl) (by kernel_rfl) (gi) ?_ |refine q0a (fun vs w=>by kernel_rfl) (by kernel_rfl) (gi) ?_ |refine q0b (fun vs w=>by kernel_rfl) (by kernel_rfl) (iik) ?_ |refine q0a (fun vs w=>by kernel_rfl) (by kernel_rfl) (iik) ?_ |refine q0b (fun vs w=>by kernel_rfl) (by kernel_rfl) (rf) ?_ |refine q0a (fun vs w=>by kernel_rfl) (by kernel_rfl) (rf) ?_ |refine q0b (fun vs w=>by kernel_rfl) (by kernel_rfl) (hf) ?_ |refine q0a (fun vs w=>by kernel_rfl) (by kernel_rfl) (hf) ?_ |refine q0b (fun vs w=>by kernel_rfl) (by kernel_rfl) (gk) ?_ |refine q0a (fun vs w=>by kernel_rfl) (by kernel_rfl) (gk) ?_))))
                        conv=>whnf
                        try simp
              · have idx:=q0l dx (-64) 64 G true (⟨fun _=>bx,fun _=>rfl⟩)
                have idy:=q0l dy (-64) 64 G true (⟨fun _=>by1,fun _=>rfl⟩)
                have iin:=q0l ink (0) 7 G true (⟨fun _=>bi,fun _=>rfl⟩)
                obtain ⟨inn,rfl⟩:∃ k:Nat,ink=k:=⟨ink.toNat,by omega⟩
                obtain ⟨wn,rfl⟩:∃ k:Nat,w2=k:=⟨w2.toNat,by omega⟩
                obtain ⟨hn2,rfl⟩:∃ k:Nat,h2=k:=⟨h2.toNat,by omega⟩
                obtain ⟨W,hW⟩:∃ W,W=16*wn:=⟨_,rfl⟩
                obtain ⟨N,hN⟩:∃ N,N=16*hn2*W:=⟨_,rfl⟩
                have hNb:N≤1024:=by
                  rw [hN,hW]
                  have:16*hn2*(16*wn)≤32*32:=Nat.mul_le_mul (by omega) (by omega)
                  omega
                have hWi:(W:Int)=16*(wn:Int):=by omega
                have hNi:(N:Int)=(16*(hn2:Int))*(16*(wn:Int)):=by rw [hN,hW];push_cast;rfl
                obtain ⟨x2,hx2,cx0⟩:=q6e x 0 (16*(wn:Int)-1) (by omega)
                obtain ⟨y2,hy2,cy0⟩:=q6e y 0 (16*(hn2:Int)-1) (by omega)
                obtain ⟨xn,rfl⟩:∃ k:Nat,x2=k:=⟨x2.toNat,by omega⟩
                obtain ⟨yn,rfl⟩:∃ k:Nat,y2=k:=⟨y2.toNat,by omega⟩
                have hJ:∀ i j,0≤q01 p W n i j∧q01 p W n i j≤255:=q6q hP.ink
                have ms:=q9d (c:=c) (ink:=inn) (dx:=dx) (dy:=dy) ok h0 hP hn hc (by omega) bx by1
                have hS:=z1n (W:=W) (N:=N) (ink:=inn) (x:=(xn:Int)) (y:=(yn:Int)) (dx:=dx) (dy:=dy) ok hWi hNi (by omega) (by omega) (by omega)
                obtain ⟨vS,lS⟩:=q6n (dx:=dx) (dy:=dy) ok.wd ok.ht (ok.some_ok (sel:=fun I=>decide (1≤I inn))).1
                generalize q3b wn hn2 dx dy (q2k p (fun I=>decide (1≤I inn)) n)=S at *
                (repeat ((try (conv=>whnf));(first |(refine stQ ?_) |(with_reducible first |refine q0b (fun vs w=>by kernel_rfl) (by kernel_rfl) (q0m _) ?_ |refine q0a (fun vs w=>by kernel_rfl) (by kernel_rfl) (q0m _) ?_ |refine q0b (fun vs w=>by kernel_rfl) (by kernel_rfl) (iw) ?_ |refine q0a (fun vs w=>by kernel_rfl) (by kernel_rfl) (iw) ?_ |refine q0b (fun vs w=>by kernel_rfl) (by kernel_rfl) (ih) ?_ |refine q0a (fun vs w=>by kernel_rfl) (by kernel_rfl) (ih) ?_ |refine q0b (fun vs w=>by kernel_rfl) (by kernel_rfl) (cw) ?_ |refine q0a (fun vs w=>by kernel_rfl) (by kernel_rfl) (cw) ?_ |refine q0b (fun vs w=>by kernel_rfl) (by kernel_rfl) (ch) ?_ |refine q0a (fun vs w=>by kernel_rfl) (by kernel_rfl) (ch) ?_))))
                conv=>whnf
                refine q04 (fun vs w=>by kernel_rfl) (q00 0) (by kernel_rfl) ms fun A2 c2 G2 hG2 hc2 hm2 hx2'=>?_
                have hA2:=RunsM.frozen hx2'
                have m2:=q2e (c:=c) (key:=key) (ink:=(inn:Int)) (dx:=dx) (dy:=dy) (hP.mono hG2) hnm h0 (fun h=>bk h.1)
                have hle3:=hG2
                have m3:=q24 (w:=(wn:Int)) (h:=(hn2:Int)) (c:=c) (hP.mono hle3) hnm
                rw [h0] at m3
                have idx3:=q0l dx (-64) 64 G2 true (⟨fun _=>bx,fun _=>rfl⟩)
                have idy3:=q0l dy (-64) 64 G2 true (⟨fun _=>by1,fun _=>rfl⟩)
                have iin3:=q0l (inn:Int) (0) 7 G2 true (⟨fun _=>bi,fun _=>rfl⟩)
                have mc:=q7o (c:=c) ok (hP.mono hle3) hW hN (by omega)
                (repeat ((try (conv=>whnf));(first |(refine stQ ?_) |(with_reducible first |refine q0b (fun vs w=>by kernel_rfl) (by kernel_rfl) (m2) ?_ |refine q0a (fun vs w=>by kernel_rfl) (by kernel_rfl) (m2) ?_ |refine q0b (fun vs w=>by kernel_rfl) (by kernel_rfl) (m3) ?_ |refine q0a (fun vs w=>by kernel_rfl) (by kernel_rfl) (m3) ?_ |refine q0b (fun vs w=>by kernel_rfl) (by kernel_rfl) (idx3) ?_ |refine q0a (fun vs w=>by kernel_rfl) (by kernel_rfl) (idx3) ?_ |refine q0b (fun vs w=>by kernel_rfl) (by kernel_rfl) (idy3) ?_ |refine q0a (fun vs w=>by kernel_rfl) (by kernel_rfl) (idy3) ?_ |refine q0b (fun vs w=>by kernel_rfl) (by kernel_rfl) (iin3) ?_ |refine q0a (fun vs w=>by kernel_rfl) (by kernel_rfl) (iin3) ?_))))
                conv=>whnf
                refine q04 (fun vs w=>by kernel_rfl) (.alone fun _=>rfl) (by kernel_rfl) mc fun A4 c4 G4 hG4 hc4 hm4 hx4=>?_
                have hE4:ElsM G4 A4 8 N fun i=>inkC (q01 p W n i):=ElsM.frozen (fun _ _=>rfl) hx4 (by omega)
                have hA2:=hA2.mono hG4
                have cx:=cx0 G4
                have cy:=cy0 G4
                have rs:=q4j hA2 hc2 hm2
                rw [q2q vS] at rs
                have hs:=q5h A2 S c2 xn yn G4 hA2 (by omega)
                have gi:=q51 (c:=c4) (w:=wn) (h:=hn2) (ink:=inn) (x:=(xn:Int)) (y:=(yn:Int)) (dx:=dx) (dy:=dy) (by omega) (by omega) hW hN (by omega) ⟨hc4,hm4⟩ (by omega) hE4 hJ (by omega) (by omega) bx by1
                have iik:=q0l key (0) 7 G4 false (⟨(fun h=>by cases h),fun h=>absurd h bk⟩)
                generalize prV (q01 p W n) W wn hn2 inn ((xn:Int)-dx) ((yn:Int)-dy)=vi at *
                by_cases b:0<vi
                · rw [hS.2 b] at hs
                  (repeat ((try (conv=>whnf));(first |(first |(with_reducible refine q1d true (by kernel_rfl) (by first |rfl |simp [b]) ?_) |(with_reducible refine q1d false (by kernel_rfl) (by first |rfl |simp [b]) ?_)) |(refine stQ ?_) |(with_reducible first |refine q0b (fun vs w=>by kernel_rfl) (by kernel_rfl) (cx) ?_ |refine q0a (fun vs w=>by kernel_rfl) (by kernel_rfl) (cx) ?_ |refine q0b (fun vs w=>by kernel_rfl) (by kernel_rfl) (cy) ?_ |refine q0a (fun vs w=>by kernel_rfl) (by kernel_rfl) (cy) ?_ |refine q0b (fun vs w=>by kernel_rfl) (by kernel_rfl) (rs) ?_ |refine q0a (fun vs w=>by kernel_rfl) (by kernel_rfl) (rs) ?_ |refine q0b (fun vs w=>by kernel_rfl) (by kernel_rfl) (hs) ?_ |refine q0a (fun vs w=>by kernel_rfl) (by kernel_rfl) (hs) ?_ |refine q0b (fun vs w=>by kernel_rfl) (by kernel_rfl) (gi) ?_ |refine q0a (fun vs w=>by kernel_rfl) (by kernel_rfl) (gi) ?_ |refine q0b (fun vs w=>by kernel_rfl) (by kernel_rfl) (iik) ?_ |refine q0a (fun vs w=>by kernel_rfl) (by kernel_rfl) (iik) ?_))))
                  conv=>whnf
                  try simp
                · rw [Bool.eq_false_iff.2 (fun h=>b (hS.1 h))] at hs
                  (repeat ((try (conv=>whnf));(first |(first |(with_reducible refine q1d true (by kernel_rfl) (by first |rfl |simp [b]) ?_) |(with_reducible refine q1d false (by kernel_rfl) (by first |rfl |simp [b]) ?_)) |(refine stQ ?_) |(with_reducible first |refine q0b (fun vs w=>by kernel_rfl) (by kernel_rfl) (cx) ?_ |refine q0a (fun vs w=>by kernel_rfl) (by kernel_rfl) (cx) ?_ |refine q0b (fun vs w=>by kernel_rfl) (by kernel_rfl) (cy) ?_ |refine q0a (fun vs w=>by kernel_rfl) (by kernel_rfl) (cy) ?_ |refine q0b (fun vs w=>by kernel_rfl) (by kernel_rfl) (rs) ?_ |refine q0a (fun vs w=>by kernel_rfl) (by kernel_rfl) (rs) ?_ |refine q0b (fun vs w=>by kernel_rfl) (by kernel_rfl) (hs) ?_ |refine q0a (fun vs w=>by kernel_rfl) (by kernel_rfl) (hs) ?_ |refine q0b (fun vs w=>by kernel_rfl) (by kernel_rfl) (gi) ?_ |refine q0a (fun vs w=>by kernel_rfl) (by kernel_rfl) (gi) ?_ |refine q0b (fun vs w=>by kernel_rfl) (by kernel_rfl) (iik) ?_ |refine q0a (fun vs w=>by kernel_rfl) (by kernel_rfl) (iik) ?_))))
                  conv=>whnf
                  try simp
            · by_cases bk:0≤key∧key≤7
              · have idx:=q0l dx (-64) 64 G true (⟨fun _=>bx,fun _=>rfl⟩)
                have idy:=q0l dy (-64) 64 G true (⟨fun _=>by1,fun _=>rfl⟩)
                have iin:=q0l ink (0) 7 G false (⟨(fun h=>by cases h),fun h=>absurd h bi⟩)
                have m1:=q35 (w:=w2) (h:=h2) (c:=c) (ink:=ink) (dx:=dx) (dy:=dy) hP hnm h0 bi
                have m2:=q2e (w:=w2) (h:=h2) (c:=c) (key:=key) (ink:=ink) (dx:=dx) (dy:=dy) hP hnm h0 (fun h=>bi h.2)
                (repeat ((try (conv=>whnf));(first |(refine stQ ?_) |(with_reducible first |refine q0b (fun vs w=>by kernel_rfl) (by kernel_rfl) (q0m _) ?_ |refine q0a (fun vs w=>by kernel_rfl) (by kernel_rfl) (q0m _) ?_ |refine q0b (fun vs w=>by kernel_rfl) (by kernel_rfl) (iw) ?_ |refine q0a (fun vs w=>by kernel_rfl) (by kernel_rfl) (iw) ?_ |refine q0b (fun vs w=>by kernel_rfl) (by kernel_rfl) (ih) ?_ |refine q0a (fun vs w=>by kernel_rfl) (by kernel_rfl) (ih) ?_ |refine q0b (fun vs w=>by kernel_rfl) (by kernel_rfl) (cw) ?_ |refine q0a (fun vs w=>by kernel_rfl) (by kernel_rfl) (cw) ?_ |refine q0b (fun vs w=>by kernel_rfl) (by kernel_rfl) (ch) ?_ |refine q0a (fun vs w=>by kernel_rfl) (by kernel_rfl) (ch) ?_ |refine q0b (fun vs w=>by kernel_rfl) (by kernel_rfl) (m1) ?_ |refine q0a (fun vs w=>by kernel_rfl) (by kernel_rfl) (m1) ?_ |refine q0b (fun vs w=>by kernel_rfl) (by kernel_rfl) (m2) ?_ |refine q0a (fun vs w=>by kernel_rfl) (by kernel_rfl) (m2) ?_ |refine q0b (fun vs w=>by kernel_rfl) (by kernel_rfl) (m3) ?_ |refine q0a (fun vs w=>by kernel_rfl) (by kernel_rfl) (m3) ?_ |refine q0b (fun vs w=>by kernel_rfl) (by kernel_rfl) (idx) ?_ |refine q0a (fun vs w=>by kernel_rfl) (by kernel_rfl) (idx) ?_ |refine q0b (fun vs w=>by kernel_rfl) (by kernel_rfl) (idy) ?_ |refine q0a (fun vs w=>by kernel_rfl) (by kernel_rfl) (idy) ?_ |refine q0b (fun vs w=>by kernel_rfl) (by kernel_rfl) (iin) ?_ |refine q0a (fun vs w=>by kernel_rfl) (by kernel_rfl) (iin) ?_))))
                conv=>whnf
                try simp
              · have idx:=q0l dx (-64) 64 G true (⟨fun _=>bx,fun _=>rfl⟩)
                have idy:=q0l dy (-64) 64 G true (⟨fun _=>by1,fun _=>rfl⟩)
                have iin:=q0l ink (0) 7 G false (⟨(fun h=>by cases h),fun h=>absurd h bi⟩)
                have m1:=q35 (w:=w2) (h:=h2) (c:=c) (ink:=ink) (dx:=dx) (dy:=dy) hP hnm h0 bi
                have m2:=q2e (w:=w2) (h:=h2) (c:=c) (key:=key) (ink:=ink) (dx:=dx) (dy:=dy) hP hnm h0 (fun h=>bi h.2)
                (repeat ((try (conv=>whnf));(first |(refine stQ ?_) |(with_reducible first |refine q0b (fun vs w=>by kernel_rfl) (by kernel_rfl) (q0m _) ?_ |refine q0a (fun vs w=>by kernel_rfl) (by kernel_rfl) (q0m _) ?_ |refine q0b (fun vs w=>by kernel_rfl) (by kernel_rfl) (iw) ?_ |refine q0a (fun vs w=>by kernel_rfl) (by kernel_rfl) (iw) ?_ |refine q0b (fun vs w=>by kernel_rfl) (by kernel_rfl) (ih) ?_ |refine q0a (fun vs w=>by kernel_rfl) (by kernel_rfl) (ih) ?_ |refine q0b (fun vs w=>by kernel_rfl) (by kernel_rfl) (cw) ?_ |refine q0a (fun vs w=>by kernel_rfl) (by kernel_rfl) (cw) ?_ |refine q0b (fun vs w=>by kernel_rfl) (by kernel_rfl) (ch) ?_ |refine q0a (fun vs w=>by kernel_rfl) (by kernel_rfl) (ch) ?_ |refine q0b (fun vs w=>by kernel_rfl) (by kernel_rfl) (m1) ?_ |refine q0a (fun vs w=>by kernel_rfl) (by kernel_rfl) (m1) ?_ |refine q0b (fun vs w=>by kernel_rfl) (by kernel_rfl) (m2) ?_ |refine q0a (fun vs w=>by kernel_rfl) (by kernel_rfl) (m2) ?_ |refine q0b (fun vs w=>by kernel_rfl) (by kernel_rfl) (m3) ?_ |refine q0a (fun vs w=>by kernel_rfl) (by kernel_rfl) (m3) ?_ |refine q0b (fun vs w=>by kernel_rfl) (by kernel_rfl) (idx) ?_ |refine q0a (fun vs w=>by kernel_rfl) (by kernel_rfl) (idx) ?_ |refine q0b (fun vs w=>by kernel_rfl) (by kernel_rfl) (idy) ?_ |refine q0a (fun vs w=>by kernel_rfl) (by kernel_rfl) (idy) ?_ |refine q0b (fun vs w=>by kernel_rfl) (by kernel_rfl) (iin) ?_ |refine q0a (fun vs w=>by kernel_rfl) (by kernel_rfl) (iin) ?_))))
                conv=>whnf
                try simp
          · by_cases bi:0≤ink∧ink≤7
            · by_cases bk:0≤key∧key≤7
              · have idx:=q0l dx (-64) 64 G true (⟨fun _=>bx,fun _=>rfl⟩)
                have idy:=q0l dy (-64) 64 G false (⟨(fun h=>by cases h),fun h=>absurd h by1⟩)
                have iin:=q0l ink (0) 7 G true (⟨fun _=>bi,fun _=>rfl⟩)
                have m1:=q5q (w:=w2) (h:=h2) (c:=c) (ink:=ink) (dx:=dx) (dy:=dy) hP hnm h0 bi (fun h=>by1 h.2)
                have m2:=q9e (w:=w2) (h:=h2) (c:=c) (key:=key) (ink:=ink) (dx:=dx) (dy:=dy) hP hnm h0 ⟨bk,bi⟩ (fun h=>by1 h.2)
                (repeat ((try (conv=>whnf));(first |(refine stQ ?_) |(with_reducible first |refine q0b (fun vs w=>by kernel_rfl) (by kernel_rfl) (q0m _) ?_ |refine q0a (fun vs w=>by kernel_rfl) (by kernel_rfl) (q0m _) ?_ |refine q0b (fun vs w=>by kernel_rfl) (by kernel_rfl) (iw) ?_ |refine q0a (fun vs w=>by kernel_rfl) (by kernel_rfl) (iw) ?_ |refine q0b (fun vs w=>by kernel_rfl) (by kernel_rfl) (ih) ?_ |refine q0a (fun vs w=>by kernel_rfl) (by kernel_rfl) (ih) ?_ |refine q0b (fun vs w=>by kernel_rfl) (by kernel_rfl) (cw) ?_ |refine q0a (fun vs w=>by kernel_rfl) (by kernel_rfl) (cw) ?_ |refine q0b (fun vs w=>by kernel_rfl) (by kernel_rfl) (ch) ?_ |refine q0a (fun vs w=>by kernel_rfl) (by kernel_rfl) (ch) ?_ |refine q0b (fun vs w=>by kernel_rfl) (by kernel_rfl) (m1) ?_ |refine q0a (fun vs w=>by kernel_rfl) (by kernel_rfl) (m1) ?_ |refine q0b (fun vs w=>by kernel_rfl) (by kernel_rfl) (m2) ?_ |refine q0a (fun vs w=>by kernel_rfl) (by kernel_rfl) (m2) ?_ |refine q0b (fun vs w=>by kernel_rfl) (by kernel_rfl) (m3) ?_ |refine q0a (fun vs w=>by kernel_rfl) (by kernel_rfl) (m3) ?_ |refine q0b (fun vs w=>by kernel_rfl) (by kernel_rfl) (idx) ?_ |refine q0a (fun vs w=>by kernel_rfl) (by kernel_rfl) (idx) ?_ |refine q0b (fun vs w=>by kernel_rfl) (by kernel_rfl) (idy) ?_ |refine q0a (fun vs w=>by kernel_rfl) (by kernel_rfl) (idy) ?_ |refine q0b (fun vs w=>by kernel_rfl) (by kernel_rfl) (iin) ?_ |refine q0a (fun vs w=>by kernel_rfl) (by kernel_rfl) (iin) ?_))))
                conv=>whnf
                try simp
              · have idx:=q0l dx (-64) 64 G true (⟨fun _=>bx,fun _=>rfl⟩)
                have idy:=q0l dy (-64) 64 G false (⟨(fun h=>by cases h),fun h=>absurd h by1⟩)
                have iin:=q0l ink (0) 7 G true (⟨fun _=>bi,fun _=>rfl⟩)
                have m1:=q5q (w:=w2) (h:=h2) (c:=c) (ink:=ink) (dx:=dx) (dy:=dy) hP hnm h0 bi (fun h=>by1 h.2)
                have m2:=q2e (w:=w2) (h:=h2) (c:=c) (key:=key) (ink:=ink) (dx:=dx) (dy:=dy) hP hnm h0 (fun h=>bk h.1)
                (repeat ((try (conv=>whnf));(first |(refine stQ ?_) |(with_reducible first |refine q0b (fun vs w=>by kernel_rfl) (by kernel_rfl) (q0m _) ?_ |refine q0a (fun vs w=>by kernel_rfl) (by kernel_rfl) (q0m _) ?_ |refine q0b (fun vs w=>by kernel_rfl) (by kernel_rfl) (iw) ?_ |refine q0a (fun vs w=>by kernel_rfl) (by kernel_rfl) (iw) ?_ |refine q0b (fun vs w=>by kernel_rfl) (by kernel_rfl) (ih) ?_ |refine q0a (fun vs w=>by kernel_rfl) (by kernel_rfl) (ih) ?_ |refine q0b (fun vs w=>by kernel_rfl) (by kernel_rfl) (cw) ?_ |refine q0a (fun vs w=>by kernel_rfl) (by kernel_rfl) (cw) ?_ |refine q0b (fun vs w=>by kernel_rfl) (by kernel_rfl) (ch) ?_ |refine q0a (fun vs w=>by kernel_rfl) (by kernel_rfl) (ch) ?_ |refine q0b (fun vs w=>by kernel_rfl) (by kernel_rfl) (m1) ?_ |refine q0a (fun vs w=>by kernel_rfl) (by kernel_rfl) (m1) ?_ |refine q0b (fun vs w=>by kernel_rfl) (by kernel_rfl) (m2) ?_ |refine q0a (fun vs w=>by kernel_rfl) (by kernel_rfl) (m2) ?_ |refine q0b (fun vs w=>by kernel_rfl) (by kernel_rfl) (m3) ?_ |refine q0a (fun vs w=>by kernel_rfl) (by kernel_rfl) (m3) ?_ |refine q0b (fun vs w=>by kernel_rfl) (by kernel_rfl) (idx) ?_ |refine q0a (fun vs w=>by kernel_rfl) (by kernel_rfl) (idx) ?_ |refine q0b (fun vs w=>by kernel_rfl) (by kernel_rfl) (idy) ?_ |refine q0a (fun vs w=>by kernel_rfl) (by kernel_rfl) (idy) ?_ |refine q0b (fun vs w=>by kernel_rfl) (by kernel_rfl) (iin) ?_ |refine q0a (fun vs w=>by kernel_rfl) (by kernel_rfl) (iin) ?_))))
                conv=>whnf
                try simp
            · by_cases bk:0≤key∧key≤7
              · have idx:=q0l dx (-64) 64 G true (⟨fun _=>bx,fun _=>rfl⟩)
                have idy:=q0l dy (-64) 64 G false (⟨(fun h=>by cases h),fun h=>absurd h by1⟩)
                have iin:=q0l ink (0) 7 G false (⟨(fun h=>by cases h),fun h=>absurd h bi⟩)
                have m1:=q35 (w:=w2) (h:=h2) (c:=c) (ink:=ink) (dx:=dx) (dy:=dy) hP hnm h0 bi
                have m2:=q2e (w:=w2) (h:=h2) (c:=c) (key:=key) (ink:=ink) (dx:=dx) (dy:=dy) hP hnm h0 (fun h=>bi h.2)
                (repeat ((try (conv=>whnf));(first |(refine stQ ?_) |(with_reducible first |refine q0b (fun vs w=>by kernel_rfl) (by kernel_rfl) (q0m _) ?_ |refine q0a (fun vs w=>by kernel_rfl) (by kernel_rfl) (q0m _) ?_ |refine q0b (fun vs w=>by kernel_rfl) (by kernel_rfl) (iw) ?_ |refine q0a (fun vs w=>by kernel_rfl) (by kernel_rfl) (iw) ?_ |refine q0b (fun vs w=>by kernel_rfl) (by kernel_rfl) (ih) ?_ |refine q0a (fun vs w=>by kernel_rfl) (by kernel_rfl) (ih) ?_ |refine q0b (fun vs w=>by kernel_rfl) (by kernel_rfl) (cw) ?_ |refine q0a (fun vs w=>by kernel_rfl) (by kernel_rfl) (cw) ?_ |refine q0b (fun vs w=>by kernel_rfl) (by kernel_rfl) (ch) ?_ |refine q0a (fun vs w=>by kernel_rfl) (by kernel_rfl) (ch) ?_ |refine q0b (fun vs w=>by kernel_rfl) (by kernel_rfl) (m1) ?_ |refine q0a (fun vs w=>by kernel_rfl) (by kernel_rfl) (m1) ?_ |refine q0b (fun vs w=>by kernel_rfl) (by kernel_rfl) (m2) ?_ |refine q0a (fun vs w=>by kernel_rfl) (by kernel_rfl) (m2) ?_ |refine q0b (fun vs w=>by kernel_rfl) (by kernel_rfl) (m3) ?_ |refine q0a (fun vs w=>by kernel_rfl) (by kernel_rfl) (m3) ?_ |refine q0b (fun vs w=>by kernel_rfl) (by kernel_rfl) (idx) ?_ |refine q0a (fun vs w=>by kernel_rfl) (by kernel_rfl) (idx) ?_ |refine q0b (fun vs w=>by kernel_rfl) (by kernel_rfl) (idy) ?_ |refine q0a (fun vs w=>by kernel_rfl) (by kernel_rfl) (idy) ?_ |refine q0b (fun vs w=>by kernel_rfl) (by kernel_rfl) (iin) ?_ |refine q0a (fun vs w=>by kernel_rfl) (by kernel_rfl) (iin) ?_))))
                conv=>whnf
                try simp
              · have idx:=q0l dx (-64) 64 G true (⟨fun _=>bx,fun _=>rfl⟩)
                have idy:=q0l dy (-64) 64 G false (⟨(fun h=>by cases h),fun h=>absurd h by1⟩)
                have iin:=q0l ink (0) 7 G false (⟨(fun h=>by cases h),fun h=>absurd h bi⟩)
                have m1:=q35 (w:=w2) (h:=h2) (c:=c) (ink:=ink) (dx:=dx) (dy:=dy) hP hnm h0 bi
                have m2:=q2e (w:=w2) (h:=h2) (c:=c) (key:=key) (ink:=ink) (dx:=dx) (dy:=dy) hP hnm h0 (fun h=>bi h.2)
                (repeat ((try (conv=>whnf));(first |(refine stQ ?_) |(with_reducible first |refine q0b (fun vs w=>by kernel_rfl) (by kernel_rfl) (q0m _) ?_ |refine q0a (fun vs w=>by kernel_rfl) (by kernel_rfl) (q0m _) ?_ |refine q0b (fun vs w=>by kernel_rfl) (by kernel_rfl) (iw) ?_ |refine q0a (fun vs w=>by kernel_rfl) (by kernel_rfl) (iw) ?_ |refine q0b (fun vs w=>by kernel_rfl) (by kernel_rfl) (ih) ?_ |refine q0a (fun vs w=>by kernel_rfl) (by kernel_rfl) (ih) ?_ |refine q0b (fun vs w=>by kernel_rfl) (by kernel_rfl) (cw) ?_ |refine q0a (fun vs w=>by kernel_rfl) (by kernel_rfl) (cw) ?_ |refine q0b (fun vs w=>by kernel_rfl) (by kernel_rfl) (ch) ?_ |refine q0a (fun vs w=>by kernel_rfl) (by kernel_rfl) (ch) ?_ |refine q0b (fun vs w=>by kernel_rfl) (by kernel_rfl) (m1) ?_ |refine q0a (fun vs w=>by kernel_rfl) (by kernel_rfl) (m1) ?_ |refine q0b (fun vs w=>by kernel_rfl) (by kernel_rfl) (m2) ?_ |refine q0a (fun vs w=>by kernel_rfl) (by kernel_rfl) (m2) ?_ |refine q0b (fun vs w=>by kernel_rfl) (by kernel_rfl) (m3) ?_ |refine q0a (fun vs w=>by kernel_rfl) (by kernel_rfl) (m3) ?_ |refine q0b (fun vs w=>by kernel_rfl) (by kernel_rfl) (idx) ?_ |refine q0a (fun vs w=>by kernel_rfl) (by kernel_rfl) (idx) ?_ |refine q0b (fun vs w=>by kernel_rfl) (by kernel_rfl) (idy) ?_ |refine q0a (fun vs w=>by kernel_rfl) (by kernel_rfl) (idy) ?_ |refine q0b (fun vs w=>by kernel_rfl) (by kernel_rfl) (iin) ?_ |refine q0a (fun vs w=>by kernel_rfl) (by kernel_rfl) (iin) ?_))))
                conv=>whnf
                try simp
        · by_cases by1:-64≤dy∧dy≤64
          · by_cases bi:0≤ink∧ink≤7
            · by_cases bk:0≤key∧key≤7
              · have idx:=q0l dx (-64) 64 G false (⟨(fun h=>by cases h),fun h=>absurd h bx⟩)
                have idy:=q0l dy (-64) 64 G true (⟨fun _=>by1,fun _=>rfl⟩)
                have iin:=q0l ink (0) 7 G true (⟨fun _=>bi,fun _=>rfl⟩)
                have m1:=q5q (w:=w2) (h:=h2) (c:=c) (ink:=ink) (dx:=dx) (dy:=dy) hP hnm h0 bi (fun h=>bx h.1)
                have m2:=q9e (w:=w2) (h:=h2) (c:=c) (key:=key) (ink:=ink) (dx:=dx) (dy:=dy) hP hnm h0 ⟨bk,bi⟩ (fun h=>bx h.1)
                (repeat ((try (conv=>whnf));(first |(refine stQ ?_) |(with_reducible first |refine q0b (fun vs w=>by kernel_rfl) (by kernel_rfl) (q0m _) ?_ |refine q0a (fun vs w=>by kernel_rfl) (by kernel_rfl) (q0m _) ?_ |refine q0b (fun vs w=>by kernel_rfl) (by kernel_rfl) (iw) ?_ |refine q0a (fun vs w=>by kernel_rfl) (by kernel_rfl) (iw) ?_ |refine q0b (fun vs w=>by kernel_rfl) (by kernel_rfl) (ih) ?_ |refine q0a (fun vs w=>by kernel_rfl) (by kernel_rfl) (ih) ?_ |refine q0b (fun vs w=>by kernel_rfl) (by kernel_rfl) (cw) ?_ |refine q0a (fun vs w=>by kernel_rfl) (by kernel_rfl) (cw) ?_ |refine q0b (fun vs w=>by kernel_rfl) (by kernel_rfl) (ch) ?_ |refine q0a (fun vs w=>by kernel_rfl) (by kernel_rfl) (ch) ?_ |refine q0b (fun vs w=>by kernel_rfl) (by kernel_rfl) (m1) ?_ |refine q0a (fun vs w=>by kernel_rfl) (by kernel_rfl) (m1) ?_ |refine q0b (fun vs w=>by kernel_rfl) (by kernel_rfl) (m2) ?_ |refine q0a (fun vs w=>by kernel_rfl) (by kernel_rfl) (m2) ?_ |refine q0b (fun vs w=>by kernel_rfl) (by kernel_rfl) (m3) ?_ |refine q0a (fun vs w=>by kernel_rfl) (by kernel_rfl) (m3) ?_ |refine q0b (fun vs w=>by kernel_rfl) (by kernel_rfl) (idx) ?_ |refine q0a (fun vs w=>by kernel_rfl) (by kernel_rfl) (idx) ?_ |refine q0b (fun vs w=>by kernel_rfl) (by kernel_rfl) (idy) ?_ |refine q0a (fun vs w=>by kernel_rfl) (by kernel_rfl) (idy) ?_ |refine q0b (fun vs w=>by kernel_rfl) (by kernel_rfl) (iin) ?_ |refine q0a (fun vs w=>by kernel_rfl) (by kernel_rfl) (iin) ?_))))
                conv=>whnf
                try simp
              · have idx:=q0l dx (-64) 64 G false (⟨(fun h=>by cases h),fun h=>absurd h bx⟩)
                have idy:=q0l dy (-64) 64 G true (⟨fun _=>by1,fun _=>rfl⟩)
                have iin:=q0l ink (0) 7 G true (⟨fun _=>bi,fun _=>rfl⟩)
                have m1:=q5q (w:=w2) (h:=h2) (c:=c) (ink:=ink) (dx:=dx) (dy:=dy) hP hnm h0 bi (fun h=>bx h.1)
                have m2:=q2e (w:=w2) (h:=h2) (c:=c) (key:=key) (ink:=ink) (dx:=dx) (dy:=dy) hP hnm h0 (fun h=>bk h.1)
                (repeat ((try (conv=>whnf));(first |(refine stQ ?_) |(with_reducible first |refine q0b (fun vs w=>by kernel_rfl) (by kernel_rfl) (q0m _) ?_ |refine q0a (fun vs w=>by kernel_rfl) (by kernel_rfl) (q0m _) ?_ |refine q0b (fun vs w=>by kernel_rfl) (by kernel_rfl) (iw) ?_ |refine q0a (fun vs w=>by kernel_rfl) (by kernel_rfl) (iw) ?_ |refine q0b (fun vs w=>by kernel_rfl) (by kernel_rfl) (ih) ?_ |refine q0a (fun vs w=>by kernel_rfl) (by kernel_rfl) (ih) ?_ |refine q0b (fun vs w=>by kernel_rfl) (by kernel_rfl) (cw) ?_ |refine q0a (fun vs w=>by kernel_rfl) (by kernel_rfl) (cw) ?_ |refine q0b (fun vs w=>by kernel_rfl) (by kernel_rfl) (ch) ?_ |refine q0a (fun vs w=>by kernel_rfl) (by kernel_rfl) (ch) ?_ |refine q0b (fun vs w=>by kernel_rfl) (by kernel_rfl) (m1) ?_ |refine q0a (fun vs w=>by kernel_rfl) (by kernel_rfl) (m1) ?_ |refine q0b (fun vs w=>by kernel_rfl) (by kernel_rfl) (m2) ?_ |refine q0a (fun vs w=>by kernel_rfl) (by kernel_rfl) (m2) ?_ |refine q0b (fun vs w=>by kernel_rfl) (by kernel_rfl) (m3) ?_ |refine q0a (fun vs w=>by kernel_rfl) (by kernel_rfl) (m3) ?_ |refine q0b (fun vs w=>by kernel_rfl) (by kernel_rfl) (idx) ?_ |refine q0a (fun vs w=>by kernel_rfl) (by kernel_rfl) (idx) ?_ |refine q0b (fun vs w=>by kernel_rfl) (by kernel_rfl) (idy) ?_ |refine q0a (fun vs w=>by kernel_rfl) (by kernel_rfl) (idy) ?_ |refine q0b (fun vs w=>by kernel_rfl) (by kernel_rfl) (iin) ?_ |refine q0a (fun vs w=>by kernel_rfl) (by kernel_rfl) (iin) ?_))))
                conv=>whnf
                try simp
            · by_cases bk:0≤key∧key≤7
              · have idx:=q0l dx (-64) 64 G false (⟨(fun h=>by cases h),fun h=>absurd h bx⟩)
                have idy:=q0l dy (-64) 64 G true (⟨fun _=>by1,fun _=>rfl⟩)
                have iin:=q0l ink (0) 7 G false (⟨(fun h=>by cases h),fun h=>absurd h bi⟩)
                have m1:=q35 (w:=w2) (h:=h2) (c:=c) (ink:=ink) (dx:=dx) (dy:=dy) hP hnm h0 bi
                have m2:=q2e (w:=w2) (h:=h2) (c:=c) (key:=key) (ink:=ink) (dx:=dx) (dy:=dy) hP hnm h0 (fun h=>bi h.2)
                (repeat ((try (conv=>whnf));(first |(refine stQ ?_) |(with_reducible first |refine q0b (fun vs w=>by kernel_rfl) (by kernel_rfl) (q0m _) ?_ |refine q0a (fun vs w=>by kernel_rfl) (by kernel_rfl) (q0m _) ?_ |refine q0b (fun vs w=>by kernel_rfl) (by kernel_rfl) (iw) ?_ |refine q0a (fun vs w=>by kernel_rfl) (by kernel_rfl) (iw) ?_ |refine q0b (fun vs w=>by kernel_rfl) (by kernel_rfl) (ih) ?_ |refine q0a (fun vs w=>by kernel_rfl) (by kernel_rfl) (ih) ?_ |refine q0b (fun vs w=>by kernel_rfl) (by kernel_rfl) (cw) ?_ |refine q0a (fun vs w=>by kernel_rfl) (by kernel_rfl) (cw) ?_ |refine q0b (fun vs w=>by kernel_rfl) (by kernel_rfl) (ch) ?_ |refine q0a (fun vs w=>by kernel_rfl) (by kernel_rfl) (ch) ?_ |refine q0b (fun vs w=>by kernel_rfl) (by kernel_rfl) (m1) ?_ |refine q0a (fun vs w=>by kernel_rfl) (by kernel_rfl) (m1) ?_ |refine q0b (fun vs w=>by kernel_rfl) (by kernel_rfl) (m2) ?_ |refine q0a (fun vs w=>by kernel_rfl) (by kernel_rfl) (m2) ?_ |refine q0b (fun vs w=>by kernel_rfl) (by kernel_rfl) (m3) ?_ |refine q0a (fun vs w=>by kernel_rfl) (by kernel_rfl) (m3) ?_ |refine q0b (fun vs w=>by kernel_rfl) (by kernel_rfl) (idx) ?_ |refine q0a (fun vs w=>by kernel_rfl) (by kernel_rfl) (idx) ?_ |refine q0b (fun vs w=>by kernel_rfl) (by kernel_rfl) (idy) ?_ |refine q0a (fun vs w=>by kernel_rfl) (by kernel_rfl) (idy) ?_ |refine q0b (fun vs w=>by kernel_rfl) (by kernel_rfl) (iin) ?_ |refine q0a (fun vs w=>by kernel_rfl) (by kernel_rfl) (iin) ?_))))
                conv=>whnf
                try simp
              · have idx:=q0l dx (-64) 64 G false (⟨(fun h=>by cases h),fun h=>absurd h bx⟩)
                have idy:=q0l dy (-64) 64 G true (⟨fun _=>by1,fun _=>rfl⟩)
                have iin:=q0l ink (0) 7 G false (⟨(fun h=>by cases h),fun h=>absurd h bi⟩)
                have m1:=q35 (w:=w2) (h:=h2) (c:=c) (ink:=ink) (dx:=dx) (dy:=dy) hP hnm h0 bi
                have m2:=q2e (w:=w2) (h:=h2) (c:=c) (key:=key) (ink:=ink) (dx:=dx) (dy:=dy) hP hnm h0 (fun h=>bi h.2)
                (repeat ((try (conv=>whnf));(first |(refine stQ ?_) |(with_reducible first |refine q0b (fun vs w=>by kernel_rfl) (by kernel_rfl) (q0m _) ?_ |refine q0a (fun vs w=>by kernel_rfl) (by kernel_rfl) (q0m _) ?_ |refine q0b (fun vs w=>by kernel_rfl) (by kernel_rfl) (iw) ?_ |refine q0a (fun vs w=>by kernel_rfl) (by kernel_rfl) (iw) ?_ |refine q0b (fun vs w=>by kernel_rfl) (by kernel_rfl) (ih) ?_ |refine q0a (fun vs w=>by kernel_rfl) (by kernel_rfl) (ih) ?_ |refine q0b (fun vs w=>by kernel_rfl) (by kernel_rfl) (cw) ?_ |refine q0a (fun vs w=>by kernel_rfl) (by kernel_rfl) (cw) ?_ |refine q0b (fun vs w=>by kernel_rfl) (by kernel_rfl) (ch) ?_ |refine q0a (fun vs w=>by kernel_rfl) (by kernel_rfl) (ch) ?_ |refine q0b (fun vs w=>by kernel_rfl) (by kernel_rfl) (m1) ?_ |refine q0a (fun vs w=>by kernel_rfl) (by kernel_rfl) (m1) ?_ |refine q0b (fun vs w=>by kernel_rfl) (by kernel_rfl) (m2) ?_ |refine q0a (fun vs w=>by kernel_rfl) (by kernel_rfl) (m2) ?_ |refine q0b (fun vs w=>by kernel_rfl) (by kernel_rfl) (m3) ?_ |refine q0a (fun vs w=>by kernel_rfl) (by kernel_rfl) (m3) ?_ |refine q0b (fun vs w=>by kernel_rfl) (by kernel_rfl) (idx) ?_ |refine q0a (fun vs w=>by kernel_rfl) (by kernel_rfl) (idx) ?_ |refine q0b (fun vs w=>by kernel_rfl) (by kernel_rfl) (idy) ?_ |refine q0a (fun vs w=>by kernel_rfl) (by kernel_rfl) (idy) ?_ |refine q0b (fun vs w=>by kernel_rfl) (by kernel_rfl) (iin) ?_ |refine q0a (fun vs w=>by kernel_rfl) (by kernel_rfl) (iin) ?_))))
                conv=>whnf
                try simp
          · by_cases bi:0≤ink∧ink≤7
            · by_cases bk:0≤key∧key≤7
              · have idx:=q0l dx (-64) 64 G false (⟨(fun h=>by cases h),fun h=>absurd h bx⟩)
                have idy:=q0l dy (-64) 64 G false (⟨(fun h=>by cases h),fun h=>absurd h by1⟩)
                have iin:=q0l ink (0) 7 G true (⟨fun _=>bi,fun _=>rfl⟩)
                have m1:=q5q (w:=w2) (h:=h2) (c:=c) (ink:=ink) (dx:=dx) (dy:=dy) hP hnm h0 bi (fun h=>bx h.1)
                have m2:=q9e (w:=w2) (h:=h2) (c:=c) (key:=key) (ink:=ink) (dx:=dx) (dy:=dy) hP hnm h0 ⟨bk,bi⟩ (fun h=>bx h.1)
                (repeat ((try (conv=>whnf));(first |(refine stQ ?_) |(with_reducible first |refine q0b (fun vs w=>by kernel_rfl) (by kernel_rfl) (q0m _) ?_ |refine q0a (fun vs w=>by kernel_rfl) (by kernel_rfl) (q0m _) ?_ |refine q0b (fun vs w=>by kernel_rfl) (by kernel_rfl) (iw) ?_ |refine q0a (fun vs w=>by kernel_rfl) (by kernel_rfl) (iw) ?_ |refine q0b (fun vs w=>by kernel_rfl) (by kernel_rfl) (ih) ?_ |refine q0a (fun vs w=>by kernel_rfl) (by kernel_rfl) (ih) ?_ |refine q0b (fun vs w=>by kernel_rfl) (by kernel_rfl) (cw) ?_ |refine q0a (fun vs w=>by kernel_rfl) (by kernel_rfl) (cw) ?_ |refine q0b (fun vs w=>by kernel_rfl) (by kernel_rfl) (ch) ?_ |refine q0a (fun vs w=>by kernel_rfl) (by kernel_rfl) (ch) ?_ |refine q0b (fun vs w=>by kernel_rfl) (by kernel_rfl) (m1) ?_ |refine q0a (fun vs w=>by kernel_rfl) (by kernel_rfl) (m1) ?_ |refine q0b (fun vs w=>by kernel_rfl) (by kernel_rfl) (m2) ?_ |refine q0a (fun vs w=>by kernel_rfl) (by kernel_rfl) (m2) ?_ |refine q0b (fun vs w=>by kernel_rfl) (by kernel_rfl) (m3) ?_ |refine q0a (fun vs w=>by kernel_rfl) (by kernel_rfl) (m3) ?_ |refine q0b (fun vs w=>by kernel_rfl) (by kernel_rfl) (idx) ?_ |refine q0a (fun vs w=>by kernel_rfl) (by kernel_rfl) (idx) ?_ |refine q0b (fun vs w=>by kernel_rfl) (by kernel_rfl) (idy) ?_ |refine q0a (fun vs w=>by kernel_rfl) (by kernel_rfl) (idy) ?_ |refine q0b (fun vs w=>by kernel_rfl) (by kernel_rfl) (iin) ?_ |refine q0a (fun vs w=>by kernel_rfl) (by kernel_rfl) (iin) ?_))))
                conv=>whnf
                try simp
              · have idx:=q0l dx (-64) 64 G false (⟨(fun h=>by cases h),fun h=>absurd h bx⟩)
                have idy:=q0l dy (-64) 64 G false (⟨(fun h=>by cases h),fun h=>absurd h by1⟩)
                have iin:=q0l ink (0) 7 G true (⟨fun _=>bi,fun _=>rfl⟩)
                have m1:=q5q (w:=w2) (h:=h2) (c:=c) (ink:=ink) (dx:=dx) (dy:=dy) hP hnm h0 bi (fun h=>bx h.1)
                have m2:=q2e (w:=w2) (h:=h2) (c:=c) (key:=key) (ink:=ink) (dx:=dx) (dy:=dy) hP hnm h0 (fun h=>bk h.1)
                (repeat ((try (conv=>whnf));(first |(refine stQ ?_) |(with_reducible first |refine q0b (fun vs w=>by kernel_rfl) (by kernel_rfl) (q0m _) ?_ |refine q0a (fun vs w=>by kernel_rfl) (by kernel_rfl) (q0m _) ?_ |refine q0b (fun vs w=>by kernel_rfl) (by kernel_rfl) (iw) ?_ |refine q0a (fun vs w=>by kernel_rfl) (by kernel_rfl) (iw) ?_ |refine q0b (fun vs w=>by kernel_rfl) (by kernel_rfl) (ih) ?_ |refine q0a (fun vs w=>by kernel_rfl) (by kernel_rfl) (ih) ?_ |refine q0b (fun vs w=>by kernel_rfl) (by kernel_rfl) (cw) ?_ |refine q0a (fun vs w=>by kernel_rfl) (by kernel_rfl) (cw) ?_ |refine q0b (fun vs w=>by kernel_rfl) (by kernel_rfl) (ch) ?_ |refine q0a (fun vs w=>by kernel_rfl) (by kernel_rfl) (ch) ?_ |refine q0b (fun vs w=>by kernel_rfl) (by kernel_rfl) (m1) ?_ |refine q0a (fun vs w=>by kernel_rfl) (by kernel_rfl) (m1) ?_ |refine q0b (fun vs w=>by kernel_rfl) (by kernel_rfl) (m2) ?_ |refine q0a (fun vs w=>by kernel_rfl) (by kernel_rfl) (m2) ?_ |refine q0b (fun vs w=>by kernel_rfl) (by kernel_rfl) (m3) ?_ |refine q0a (fun vs w=>by kernel_rfl) (by kernel_rfl) (m3) ?_ |refine q0b (fun vs w=>by kernel_rfl) (by kernel_rfl) (idx) ?_ |refine q0a (fun vs w=>by kernel_rfl) (by kernel_rfl) (idx) ?_ |refine q0b (fun vs w=>by kernel_rfl) (by kernel_rfl) (idy) ?_ |refine q0a (fun vs w=>by kernel_rfl) (by kernel_rfl) (idy) ?_ |refine q0b (fun vs w=>by kernel_rfl) (by kernel_rfl) (iin) ?_ |refine q0a (fun vs w=>by kernel_rfl) (by kernel_rfl) (iin) ?_))))
                conv=>whnf
                try simp
            · by_cases bk:0≤key∧key≤7
              · have idx:=q0l dx (-64) 64 G false (⟨(fun h=>by cases h),fun h=>absurd h bx⟩)
                have idy:=q0l dy (-64) 64 G false (⟨(fun h=>by cases h),fun h=>absurd h by1⟩)
                have iin:=q0l ink (0) 7 G false (⟨(fun h=>by cases h),fun h=>absurd h bi⟩)
                have m1:=q35 (w:=w2) (h:=h2) (c:=c) (ink:=ink) (dx:=dx) (dy:=dy) hP hnm h0 bi
                have m2:=q2e (w:=w2) (h:=h2) (c:=c) (key:=key) (ink:=ink) (dx:=dx) (dy:=dy) hP hnm h0 (fun h=>bi h.2)
                (repeat ((try (conv=>whnf));(first |(refine stQ ?_) |(with_reducible first |refine q0b (fun vs w=>by kernel_rfl) (by kernel_rfl) (q0m _) ?_ |refine q0a (fun vs w=>by kernel_rfl) (by kernel_rfl) (q0m _) ?_ |refine q0b (fun vs w=>by kernel_rfl) (by kernel_rfl) (iw) ?_ |refine q0a (fun vs w=>by kernel_rfl) (by kernel_rfl) (iw) ?_ |refine q0b (fun vs w=>by kernel_rfl) (by kernel_rfl) (ih) ?_ |refine q0a (fun vs w=>by kernel_rfl) (by kernel_rfl) (ih) ?_ |refine q0b (fun vs w=>by kernel_rfl) (by kernel_rfl) (cw) ?_ |refine q0a (fun vs w=>by kernel_rfl) (by kernel_rfl) (cw) ?_ |refine q0b (fun vs w=>by kernel_rfl) (by kernel_rfl) (ch) ?_ |refine q0a (fun vs w=>by kernel_rfl) (by kernel_rfl) (ch) ?_ |refine q0b (fun vs w=>by kernel_rfl) (by kernel_rfl) (m1) ?_ |refine q0a (fun vs w=>by kernel_rfl) (by kernel_rfl) (m1) ?_ |refine q0b (fun vs w=>by kernel_rfl) (by kernel_rfl) (m2) ?_ |refine q0a (fun vs w=>by kernel_rfl) (by kernel_rfl) (m2) ?_ |refine q0b (fun vs w=>by kernel_rfl) (by kernel_rfl) (m3) ?_ |refine q0a (fun vs w=>by kernel_rfl) (by kernel_rfl) (m3) ?_ |refine q0b (fun vs w=>by kernel_rfl) (by kernel_rfl) (idx) ?_ |refine q0a (fun vs w=>by kernel_rfl) (by kernel_rfl) (idx) ?_ |refine q0b (fun vs w=>by kernel_rfl) (by kernel_rfl) (idy) ?_ |refine q0a (fun vs w=>by kernel_rfl) (by kernel_rfl) (idy) ?_ |refine q0b (fun vs w=>by kernel_rfl) (by kernel_rfl) (iin) ?_ |refine q0a (fun vs w=>by kernel_rfl) (by kernel_rfl) (iin) ?_))))
                conv=>whnf
                try simp
              · have idx:=q0l dx (-64) 64 G false (⟨(fun h=>by cases h),fun h=>absurd h bx⟩)
                have idy:=q0l dy (-64) 64 G false (⟨(fun h=>by cases h),fun h=>absurd h by1⟩)
                have iin:=q0l ink (0) 7 G false (⟨(fun h=>by cases h),fun h=>absurd h bi⟩)
                have m1:=q35 (w:=w2) (h:=h2) (c:=c) (ink:=ink) (dx:=dx) (dy:=dy) hP hnm h0 bi
                have m2:=q2e (w:=w2) (h:=h2) (c:=c) (key:=key) (ink:=ink) (dx:=dx) (dy:=dy) hP hnm h0 (fun h=>bi h.2)
                (repeat ((try (conv=>whnf));(first |(refine stQ ?_) |(with_reducible first |refine q0b (fun vs w=>by kernel_rfl) (by kernel_rfl) (q0m _) ?_ |refine q0a (fun vs w=>by kernel_rfl) (by kernel_rfl) (q0m _) ?_ |refine q0b (fun vs w=>by kernel_rfl) (by kernel_rfl) (iw) ?_ |refine q0a (fun vs w=>by kernel_rfl) (by kernel_rfl) (iw) ?_ |refine q0b (fun vs w=>by kernel_rfl) (by kernel_rfl) (ih) ?_ |refine q0a (fun vs w=>by kernel_rfl) (by kernel_rfl) (ih) ?_ |refine q0b (fun vs w=>by kernel_rfl) (by kernel_rfl) (cw) ?_ |refine q0a (fun vs w=>by kernel_rfl) (by kernel_rfl) (cw) ?_ |refine q0b (fun vs w=>by kernel_rfl) (by kernel_rfl) (ch) ?_ |refine q0a (fun vs w=>by kernel_rfl) (by kernel_rfl) (ch) ?_ |refine q0b (fun vs w=>by kernel_rfl) (by kernel_rfl) (m1) ?_ |refine q0a (fun vs w=>by kernel_rfl) (by kernel_rfl) (m1) ?_ |refine q0b (fun vs w=>by kernel_rfl) (by kernel_rfl) (m2) ?_ |refine q0a (fun vs w=>by kernel_rfl) (by kernel_rfl) (m2) ?_ |refine q0b (fun vs w=>by kernel_rfl) (by kernel_rfl) (m3) ?_ |refine q0a (fun vs w=>by kernel_rfl) (by kernel_rfl) (m3) ?_ |refine q0b (fun vs w=>by kernel_rfl) (by kernel_rfl) (idx) ?_ |refine q0a (fun vs w=>by kernel_rfl) (by kernel_rfl) (idx) ?_ |refine q0b (fun vs w=>by kernel_rfl) (by kernel_rfl) (idy) ?_ |refine q0a (fun vs w=>by kernel_rfl) (by kernel_rfl) (idy) ?_ |refine q0b (fun vs w=>by kernel_rfl) (by kernel_rfl) (iin) ?_ |refine q0a (fun vs w=>by kernel_rfl) (by kernel_rfl) (iin) ?_))))
                conv=>whnf
                try simp
      · have he:pcsE w2 h2 n p≠0:=h0
        have m1:=q71 (w:=w2) (h:=h2) (c:=c) (ink:=ink) (dx:=dx) (dy:=dy) hP hnm he
        have m2:=q65 (w:=w2) (h:=h2) (c:=c) (key:=key) (ink:=ink) (dx:=dx) (dy:=dy) hP hnm he
        have m3:=q24 (w:=w2) (h:=h2) (c:=c) hP hnm
        generalize pcsE w2 h2 n p=e at *
        by_cases bx:-64≤dx∧dx≤64
        · have idx:=q0l dx (-64) 64 G true (⟨fun _=>bx,fun _=>rfl⟩)
          by_cases by1:-64≤dy∧dy≤64
          · have idy:=q0l dy (-64) 64 G true (⟨fun _=>by1,fun _=>rfl⟩)
            (repeat ((try (conv=>whnf));(first |(refine stQ ?_) |(with_reducible first |refine q0b (fun vs w=>by kernel_rfl) (by kernel_rfl) (q0m _) ?_ |refine q0a (fun vs w=>by kernel_rfl) (by kernel_rfl) (q0m _) ?_ |refine q0b (fun vs w=>by kernel_rfl) (by kernel_rfl) (iw) ?_ |refine q0a (fun vs w=>by kernel_rfl) (by kernel_rfl) (iw) ?_ |refine q0b (fun vs w=>by kernel_rfl) (by kernel_rfl) (ih) ?_ |refine q0a (fun vs w=>by kernel_rfl) (by kernel_rfl) (ih) ?_ |refine q0b (fun vs w=>by kernel_rfl) (by kernel_rfl) (cw) ?_ |refine q0a (fun vs w=>by kernel_rfl) (by kernel_rfl) (cw) ?_ |refine q0b (fun vs w=>by kernel_rfl) (by kernel_rfl) (ch) ?_ |refine q0a (fun vs w=>by kernel_rfl) (by kernel_rfl) (ch) ?_ |refine q0b (fun vs w=>by kernel_rfl) (by kernel_rfl) (m1) ?_ |refine q0a (fun vs w=>by kernel_rfl) (by kernel_rfl) (m1) ?_ |refine q0b (fun vs w=>by kernel_rfl) (by kernel_rfl) (m2) ?_ |refine q0a (fun vs w=>by kernel_rfl) (by kernel_rfl) (m2) ?_ |refine q0b (fun vs w=>by kernel_rfl) (by kernel_rfl) (m3) ?_ |refine q0a (fun vs w=>by kernel_rfl) (by kernel_rfl) (m3) ?_ |refine q0b (fun vs w=>by kernel_rfl) (by kernel_rfl) (idx) ?_ |refine q0a (fun vs w=>by kernel_rfl) (by kernel_rfl) (idx) ?_ |refine q0b (fun vs w=>by kernel_rfl) (by kernel_rfl) (idy) ?_ |refine q0a (fun vs w=>by kernel_rfl) (by kernel_rfl) (idy) ?_))))
            conv=>whnf
            try simp
          · have idy:=q0l dy (-64) 64 G false (⟨(fun h=>by cases h),fun h=>absurd h by1⟩)
            (repeat ((try (conv=>whnf));(first |(refine stQ ?_) |(with_reducible first |refine q0b (fun vs w=>by kernel_rfl) (by kernel_rfl) (q0m _) ?_ |refine q0a (fun vs w=>by kernel_rfl) (by kernel_rfl) (q0m _) ?_ |refine q0b (fun vs w=>by kernel_rfl) (by kernel_rfl) (iw) ?_ |refine q0a (fun vs w=>by kernel_rfl) (by kernel_rfl) (iw) ?_ |refine q0b (fun vs w=>by kernel_rfl) (by kernel_rfl) (ih) ?_ |refine q0a (fun vs w=>by kernel_rfl) (by kernel_rfl) (ih) ?_ |refine q0b (fun vs w=>by kernel_rfl) (by kernel_rfl) (cw) ?_ |refine q0a (fun vs w=>by kernel_rfl) (by kernel_rfl) (cw) ?_ |refine q0b (fun vs w=>by kernel_rfl) (by kernel_rfl) (ch) ?_ |refine q0a (fun vs w=>by kernel_rfl) (by kernel_rfl) (ch) ?_ |refine q0b (fun vs w=>by kernel_rfl) (by kernel_rfl) (m1) ?_ |refine q0a (fun vs w=>by kernel_rfl) (by kernel_rfl) (m1) ?_ |refine q0b (fun vs w=>by kernel_rfl) (by kernel_rfl) (m2) ?_ |refine q0a (fun vs w=>by kernel_rfl) (by kernel_rfl) (m2) ?_ |refine q0b (fun vs w=>by kernel_rfl) (by kernel_rfl) (m3) ?_ |refine q0a (fun vs w=>by kernel_rfl) (by kernel_rfl) (m3) ?_ |refine q0b (fun vs w=>by kernel_rfl) (by kernel_rfl) (idx) ?_ |refine q0a (fun vs w=>by kernel_rfl) (by kernel_rfl) (idx) ?_ |refine q0b (fun vs w=>by kernel_rfl) (by kernel_rfl) (idy) ?_ |refine q0a (fun vs w=>by kernel_rfl) (by kernel_rfl) (idy) ?_))))
            conv=>whnf
            try simp
        · have idx:=q0l dx (-64) 64 G false (⟨(fun h=>by cases h),fun h=>absurd h bx⟩)
          (repeat ((try (conv=>whnf));(first |(refine stQ ?_) |(with_reducible first |refine q0b (fun vs w=>by kernel_rfl) (by kernel_rfl) (q0m _) ?_ |refine q0a (fun vs w=>by kernel_rfl) (by kernel_rfl) (q0m _) ?_ |refine q0b (fun vs w=>by kernel_rfl) (by kernel_rfl) (iw) ?_ |refine q0a (fun vs w=>by kernel_rfl) (by kernel_rfl) (iw) ?_ |refine q0b (fun vs w=>by kernel_rfl) (by kernel_rfl) (ih) ?_ |refine q0a (fun vs w=>by kernel_rfl) (by kernel_rfl) (ih) ?_ |refine q0b (fun vs w=>by kernel_rfl) (by kernel_rfl) (cw) ?_ |refine q0a (fun vs w=>by kernel_rfl) (by kernel_rfl) (cw) ?_ |refine q0b (fun vs w=>by kernel_rfl) (by kernel_rfl) (ch) ?_ |refine q0a (fun vs w=>by kernel_rfl) (by kernel_rfl) (ch) ?_ |refine q0b (fun vs w=>by kernel_rfl) (by kernel_rfl) (m1) ?_ |refine q0a (fun vs w=>by kernel_rfl) (by kernel_rfl) (m1) ?_ |refine q0b (fun vs w=>by kernel_rfl) (by kernel_rfl) (m2) ?_ |refine q0a (fun vs w=>by kernel_rfl) (by kernel_rfl) (m2) ?_ |refine q0b (fun vs w=>by kernel_rfl) (by kernel_rfl) (m3) ?_ |refine q0a (fun vs w=>by kernel_rfl) (by kernel_rfl) (m3) ?_ |refine q0b (fun vs w=>by kernel_rfl) (by kernel_rfl) (idx) ?_ |refine q0a (fun vs w=>by kernel_rfl) (by kernel_rfl) (idx) ?_))))
          conv=>whnf
          try simp
    · have iw:=q0l w (1) 256 G true (⟨fun _=>bw,fun _=>rfl⟩)
      have ih:=q0l h (1) 256 G false (⟨(fun h=>by cases h),fun h=>absurd h bh⟩)
      have he:pcsE w2 h n p≠0:=z21 (by omega)
      have m1:=q71 (w:=w2) (h:=h) (c:=c) (ink:=ink) (dx:=dx) (dy:=dy) hP hnm he
      have m2:=q65 (w:=w2) (h:=h) (c:=c) (key:=key) (ink:=ink) (dx:=dx) (dy:=dy) hP hnm he
      have m3:=q24 (w:=w2) (h:=h) (c:=c) hP hnm
      generalize pcsE w2 h n p=e at *
      by_cases bx:-64≤dx∧dx≤64
      · have idx:=q0l dx (-64) 64 G true (⟨fun _=>bx,fun _=>rfl⟩)
        by_cases by1:-64≤dy∧dy≤64
        · have idy:=q0l dy (-64) 64 G true (⟨fun _=>by1,fun _=>rfl⟩)
          (repeat ((try (conv=>whnf));(first |(refine stQ ?_) |(with_reducible first |refine q0b (fun vs w=>by kernel_rfl) (by kernel_rfl) (q0m _) ?_ |refine q0a (fun vs w=>by kernel_rfl) (by kernel_rfl) (q0m _) ?_ |refine q0b (fun vs w=>by kernel_rfl) (by kernel_rfl) (iw) ?_ |refine q0a (fun vs w=>by kernel_rfl) (by kernel_rfl) (iw) ?_ |refine q0b (fun vs w=>by kernel_rfl) (by kernel_rfl) (ih) ?_ |refine q0a (fun vs w=>by kernel_rfl) (by kernel_rfl) (ih) ?_ |refine q0b (fun vs w=>by kernel_rfl) (by kernel_rfl) (cw) ?_ |refine q0a (fun vs w=>by kernel_rfl) (by kernel_rfl) (cw) ?_ |refine q0b (fun vs w=>by kernel_rfl) (by kernel_rfl) (ch) ?_ |refine q0a (fun vs w=>by kernel_rfl) (by kernel_rfl) (ch) ?_ |refine q0b (fun vs w=>by kernel_rfl) (by kernel_rfl) (m1) ?_ |refine q0a (fun vs w=>by kernel_rfl) (by kernel_rfl) (m1) ?_ |refine q0b (fun vs w=>by kernel_rfl) (by kernel_rfl) (m2) ?_ |refine q0a (fun vs w=>by kernel_rfl) (by kernel_rfl) (m2) ?_ |refine q0b (fun vs w=>by kernel_rfl) (by kernel_rfl) (m3) ?_ |refine q0a (fun vs w=>by kernel_rfl) (by kernel_rfl) (m3) ?_ |refine q0b (fun vs w=>by kernel_rfl) (by kernel_rfl) (idx) ?_ |refine q0a (fun vs w=>by kernel_rfl) (by kernel_rfl) (idx) ?_ |refine q0b (fun vs w=>by kernel_rfl) (by kernel_rfl) (idy) ?_ |refine q0a (fun vs w=>by kernel_rfl) (by kernel_rfl) (idy) ?_))))
          conv=>whnf
          try simp
        · have idy:=q0l dy (-64) 64 G false (⟨(fun h=>by cases h),fun h=>absurd h by1⟩)
          (repeat ((try (conv=>whnf));(first |(refine stQ ?_) |(with_reducible first |refine q0b (fun vs w=>by kernel_rfl) (by kernel_rfl) (q0m _) ?_ |refine q0a (fun vs w=>by kernel_rfl) (by kernel_rfl) (q0m _) ?_ |refine q0b (fun vs w=>by kernel_rfl) (by kernel_rfl) (iw) ?_ |refine q0a (fun vs w=>by kernel_rfl) (by kernel_rfl) (iw) ?_ |refine q0b (fun vs w=>by kernel_rfl) (by kernel_rfl) (ih) ?_ |refine q0a (fun vs w=>by kernel_rfl) (by kernel_rfl) (ih) ?_ |refine q0b (fun vs w=>by kernel_rfl) (by kernel_rfl) (cw) ?_ |refine q0a (fun vs w=>by kernel_rfl) (by kernel_rfl) (cw) ?_ |refine q0b (fun vs w=>by kernel_rfl) (by kernel_rfl) (ch) ?_ |refine q0a (fun vs w=>by kernel_rfl) (by kernel_rfl) (ch) ?_ |refine q0b (fun vs w=>by kernel_rfl) (by kernel_rfl) (m1) ?_ |refine q0a (fun vs w=>by kernel_rfl) (by kernel_rfl) (m1) ?_ |refine q0b (fun vs w=>by kernel_rfl) (by kernel_rfl) (m2) ?_ |refine q0a (fun vs w=>by kernel_rfl) (by kernel_rfl) (m2) ?_ |refine q0b (fun vs w=>by kernel_rfl) (by kernel_rfl) (m3) ?_ |refine q0a (fun vs w=>by kernel_rfl) (by kernel_rfl) (m3) ?_ |refine q0b (fun vs w=>by kernel_rfl) (by kernel_rfl) (idx) ?_ |refine q0a (fun vs w=>by kernel_rfl) (by kernel_rfl) (idx) ?_ |refine q0b (fun vs w=>by kernel_rfl) (by kernel_rfl) (idy) ?_ |refine q0a (fun vs w=>by kernel_rfl) (by kernel_rfl) (idy) ?_))))
          conv=>whnf
          try simp
      · have idx:=q0l dx (-64) 64 G false (⟨(fun h=>by cases h),fun h=>absurd h bx⟩)
        (repeat ((try (conv=>whnf));(first |(refine stQ ?_) |(with_reducible first |refine q0b (fun vs w=>by kernel_rfl) (by kernel_rfl) (q0m _) ?_ |refine q0a (fun vs w=>by kernel_rfl) (by kernel_rfl) (q0m _) ?_ |refine q0b (fun vs w=>by kernel_rfl) (by kernel_rfl) (iw) ?_ |refine q0a (fun vs w=>by kernel_rfl) (by kernel_rfl) (iw) ?_ |refine q0b (fun vs w=>by kernel_rfl) (by kernel_rfl) (ih) ?_ |refine q0a (fun vs w=>by kernel_rfl) (by kernel_rfl) (ih) ?_ |refine q0b (fun vs w=>by kernel_rfl) (by kernel_rfl) (cw) ?_ |refine q0a (fun vs w=>by kernel_rfl) (by kernel_rfl) (cw) ?_ |refine q0b (fun vs w=>by kernel_rfl) (by kernel_rfl) (ch) ?_ |refine q0a (fun vs w=>by kernel_rfl) (by kernel_rfl) (ch) ?_ |refine q0b (fun vs w=>by kernel_rfl) (by kernel_rfl) (m1) ?_ |refine q0a (fun vs w=>by kernel_rfl) (by kernel_rfl) (m1) ?_ |refine q0b (fun vs w=>by kernel_rfl) (by kernel_rfl) (m2) ?_ |refine q0a (fun vs w=>by kernel_rfl) (by kernel_rfl) (m2) ?_ |refine q0b (fun vs w=>by kernel_rfl) (by kernel_rfl) (m3) ?_ |refine q0a (fun vs w=>by kernel_rfl) (by kernel_rfl) (m3) ?_ |refine q0b (fun vs w=>by kernel_rfl) (by kernel_rfl) (idx) ?_ |refine q0a (fun vs w=>by kernel_rfl) (by kernel_rfl) (idx) ?_))))
        conv=>whnf
        try simp
  · by_cases bh:1≤h∧h≤256
    · have iw:=q0l w (1) 256 G false (⟨(fun h=>by cases h),fun h=>absurd h bw⟩)
      have ih:=q0l h (1) 256 G true (⟨fun _=>bh,fun _=>rfl⟩)
      have he:pcsE w h2 n p≠0:=z21 (by omega)
      have m1:=q71 (w:=w) (h:=h2) (c:=c) (ink:=ink) (dx:=dx) (dy:=dy) hP hnm he
      have m2:=q65 (w:=w) (h:=h2) (c:=c) (key:=key) (ink:=ink) (dx:=dx) (dy:=dy) hP hnm he
      have m3:=q24 (w:=w) (h:=h2) (c:=c) hP hnm
      generalize pcsE w h2 n p=e at *
      by_cases bx:-64≤dx∧dx≤64
      · have idx:=q0l dx (-64) 64 G true (⟨fun _=>bx,fun _=>rfl⟩)
        by_cases by1:-64≤dy∧dy≤64
        · have idy:=q0l dy (-64) 64 G true (⟨fun _=>by1,fun _=>rfl⟩)
          (repeat ((try (conv=>whnf));(first |(refine stQ ?_) |(with_reducible first |refine q0b (fun vs w=>by kernel_rfl) (by kernel_rfl) (q0m _) ?_ |refine q0a (fun vs w=>by kernel_rfl) (by kernel_rfl) (q0m _) ?_ |refine q0b (fun vs w=>by kernel_rfl) (by kernel_rfl) (iw) ?_ |refine q0a (fun vs w=>by kernel_rfl) (by kernel_rfl) (iw) ?_ |refine q0b (fun vs w=>by kernel_rfl) (by kernel_rfl) (ih) ?_ |refine q0a (fun vs w=>by kernel_rfl) (by kernel_rfl) (ih) ?_ |refine q0b (fun vs w=>by kernel_rfl) (by kernel_rfl) (cw) ?_ |refine q0a (fun vs w=>by kernel_rfl) (by kernel_rfl) (cw) ?_ |refine q0b (fun vs w=>by kernel_rfl) (by kernel_rfl) (ch) ?_ |refine q0a (fun vs w=>by kernel_rfl) (by kernel_rfl) (ch) ?_ |refine q0b (fun vs w=>by kernel_rfl) (by kernel_rfl) (m1) ?_ |refine q0a (fun vs w=>by kernel_rfl) (by kernel_rfl) (m1) ?_ |refine q0b (fun vs w=>by kernel_rfl) (by kernel_rfl) (m2) ?_ |refine q0a (fun vs w=>by kernel_rfl) (by kernel_rfl) (m2) ?_ |refine q0b (fun vs w=>by kernel_rfl) (by kernel_rfl) (m3) ?_ |refine q0a (fun vs w=>by kernel_rfl) (by kernel_rfl) (m3) ?_ |refine q0b (fun vs w=>by kernel_rfl) (by kernel_rfl) (idx) ?_ |refine q0a (fun vs w=>by kernel_rfl) (by kernel_rfl) (idx) ?_ |refine q0b (fun vs w=>by kernel_rfl) (by kernel_rfl) (idy) ?_ |refine q0a (fun vs w=>by kernel_rfl) (by kernel_rfl) (idy) ?_))))
          conv=>whnf
          try simp
        · have idy:=q0l dy (-64) 64 G false (⟨(fun h=>by cases h),fun h=>absurd h by1⟩)
          (repeat ((try (conv=>whnf));(first |(refine stQ ?_) |(with_reducible first |refine q0b (fun vs w=>by kernel_rfl) (by kernel_rfl) (q0m _) ?_ |refine q0a (fun vs w=>by kernel_rfl) (by kernel_rfl) (q0m _) ?_ |refine q0b (fun vs w=>by kernel_rfl) (by kernel_rfl) (iw) ?_ |refine q0a (fun vs w=>by kernel_rfl) (by kernel_rfl) (iw) ?_ |refine q0b (fun vs w=>by kernel_rfl) (by kernel_rfl) (ih) ?_ |refine q0a (fun vs w=>by kernel_rfl) (by kernel_rfl) (ih) ?_ |refine q0b (fun vs w=>by kernel_rfl) (by kernel_rfl) (cw) ?_ |refine q0a (fun vs w=>by kernel_rfl) (by kernel_rfl) (cw) ?_ |refine q0b (fun vs w=>by kernel_rfl) (by kernel_rfl) (ch) ?_ |refine q0a (fun vs w=>by kernel_rfl) (by kernel_rfl) (ch) ?_ |refine q0b (fun vs w=>by kernel_rfl) (by kernel_rfl) (m1) ?_ |refine q0a (fun vs w=>by kernel_rfl) (by kernel_rfl) (m1) ?_ |refine q0b (fun vs w=>by kernel_rfl) (by kernel_rfl) (m2) ?_ |refine q0a (fun vs w=>by kernel_rfl) (by kernel_rfl) (m2) ?_ |refine q0b (fun vs w=>by kernel_rfl) (by kernel_rfl) (m3) ?_ |refine q0a (fun vs w=>by kernel_rfl) (by kernel_rfl) (m3) ?_ |refine q0b (fun vs w=>by kernel_rfl) (by kernel_rfl) (idx) ?_ |refine q0a (fun vs w=>by kernel_rfl) (by kernel_rfl) (idx) ?_ |refine q0b (fun vs w=>by kernel_rfl) (by kernel_rfl) (idy) ?_ |refine q0a (fun vs w=>by kernel_rfl) (by kernel_rfl) (idy) ?_))))
          conv=>whnf
          try simp
      · have idx:=q0l dx (-64) 64 G false (⟨(fun h=>by cases h),fun h=>absurd h bx⟩)
        (repeat ((try (conv=>whnf));(first |(refine stQ ?_) |(with_reducible first |refine q0b (fun vs w=>by kernel_rfl) (by kernel_rfl) (q0m _) ?_ |refine q0a (fun vs w=>by kernel_rfl) (by kernel_rfl) (q0m _) ?_ |refine q0b (fun vs w=>by kernel_rfl) (by kernel_rfl) (iw) ?_ |refine q0a (fun vs w=>by kernel_rfl) (by kernel_rfl) (iw) ?_ |refine q0b (fun vs w=>by kernel_rfl) (by kernel_rfl) (ih) ?_ |refine q0a (fun vs w=>by kernel_rfl) (by kernel_rfl) (ih) ?_ |refine q0b (fun vs w=>by kernel_rfl) (by kernel_rfl) (cw) ?_ |refine q0a (fun vs w=>by kernel_rfl) (by kernel_rfl) (cw) ?_ |refine q0b (fun vs w=>by kernel_rfl) (by kernel_rfl) (ch) ?_ |refine q0a (fun vs w=>by kernel_rfl) (by kernel_rfl) (ch) ?_ |refine q0b (fun vs w=>by kernel_rfl) (by kernel_rfl) (m1) ?_ |refine q0a (fun vs w=>by kernel_rfl) (by kernel_rfl) (m1) ?_ |refine q0b (fun vs w=>by kernel_rfl) (by kernel_rfl) (m2) ?_ |refine q0a (fun vs w=>by kernel_rfl) (by kernel_rfl) (m2) ?_ |refine q0b (fun vs w=>by kernel_rfl) (by kernel_rfl) (m3) ?_ |refine q0a (fun vs w=>by kernel_rfl) (by kernel_rfl) (m3) ?_ |refine q0b (fun vs w=>by kernel_rfl) (by kernel_rfl) (idx) ?_ |refine q0a (fun vs w=>by kernel_rfl) (by kernel_rfl) (idx) ?_))))
        conv=>whnf
        try simp
    · have iw:=q0l w (1) 256 G false (⟨(fun h=>by cases h),fun h=>absurd h bw⟩)
      have ih:=q0l h (1) 256 G false (⟨(fun h=>by cases h),fun h=>absurd h bh⟩)
      have he:pcsE w h n p≠0:=z21 (by omega)
      have m1:=q71 (w:=w) (h:=h) (c:=c) (ink:=ink) (dx:=dx) (dy:=dy) hP hnm he
      have m2:=q65 (w:=w) (h:=h) (c:=c) (key:=key) (ink:=ink) (dx:=dx) (dy:=dy) hP hnm he
      have m3:=q24 (w:=w) (h:=h) (c:=c) hP hnm
      generalize pcsE w h n p=e at *
      by_cases bx:-64≤dx∧dx≤64
      · have idx:=q0l dx (-64) 64 G true (⟨fun _=>bx,fun _=>rfl⟩)
        by_cases by1:-64≤dy∧dy≤64
        · have idy:=q0l dy (-64) 64 G true (⟨fun _=>by1,fun _=>rfl⟩)
          (repeat ((try (conv=>whnf));(first |(refine stQ ?_) |(with_reducible first |refine q0b (fun vs w=>by kernel_rfl) (by kernel_rfl) (q0m _) ?_ |refine q0a (fun vs w=>by kernel_rfl) (by kernel_rfl) (q0m _) ?_ |refine q0b (fun vs w=>by kernel_rfl) (by kernel_rfl) (iw) ?_ |refine q0a (fun vs w=>by kernel_rfl) (by kernel_rfl) (iw) ?_ |refine q0b (fun vs w=>by kernel_rfl) (by kernel_rfl) (ih) ?_ |refine q0a (fun vs w=>by kernel_rfl) (by kernel_rfl) (ih) ?_ |refine q0b (fun vs w=>by kernel_rfl) (by kernel_rfl) (cw) ?_ |refine q0a (fun vs w=>by kernel_rfl) (by kernel_rfl) (cw) ?_ |refine q0b (fun vs w=>by kernel_rfl) (by kernel_rfl) (ch) ?_ |refine q0a (fun vs w=>by kernel_rfl) (by kernel_rfl) (ch) ?_ |refine q0b (fun vs w=>by kernel_rfl) (by kernel_rfl) (m1) ?_ |refine q0a (fun vs w=>by kernel_rfl) (by kernel_rfl) (m1) ?_ |refine q0b (fun vs w=>by kernel_rfl) (by kernel_rfl) (m2) ?_ |refine q0a (fun vs w=>by kernel_rfl) (by kernel_rfl) (m2) ?_ |refine q0b (fun vs w=>by kernel_rfl) (by kernel_rfl) (m3) ?_ |refine q0a (fun vs w=>by kernel_rfl) (by kernel_rfl) (m3) ?_ |refine q0b (fun vs w=>by kernel_rfl) (by kernel_rfl) (idx) ?_ |refine q0a (fun vs w=>by kernel_rfl) (by kernel_rfl) (idx) ?_ |refine q0b (fun vs w=>by kernel_rfl) (by kernel_rfl) (idy) ?_ |refine q0a (fun vs w=>by kernel_rfl) (by kernel_rfl) (idy) ?_))))
          conv=>whnf
          try simp
        · have idy:=q0l dy (-64) 64 G false (⟨(fun h=>by cases h),fun h=>absurd h by1⟩)
          (repeat ((try (conv=>whnf));(first |(refine stQ ?_) |(with_reducible first |refine q0b (fun vs w=>by kernel_rfl) (by kernel_rfl) (q0m _) ?_ |refine q0a (fun vs w=>by kernel_rfl) (by kernel_rfl) (q0m _) ?_ |refine q0b (fun vs w=>by kernel_rfl) (by kernel_rfl) (iw) ?_ |refine q0a (fun vs w=>by kernel_rfl) (by kernel_rfl) (iw) ?_ |refine q0b (fun vs w=>by kernel_rfl) (by kernel_rfl) (ih) ?_ |refine q0a (fun vs w=>by kernel_rfl) (by kernel_rfl) (ih) ?_ |refine q0b (fun vs w=>by kernel_rfl) (by kernel_rfl) (cw) ?_ |refine q0a (fun vs w=>by kernel_rfl) (by kernel_rfl) (cw) ?_ |refine q0b (fun vs w=>by kernel_rfl) (by kernel_rfl) (ch) ?_ |refine q0a (fun vs w=>by kernel_rfl) (by kernel_rfl) (ch) ?_ |refine q0b (fun vs w=>by kernel_rfl) (by kernel_rfl) (m1) ?_ |refine q0a (fun vs w=>by kernel_rfl) (by kernel_rfl) (m1) ?_ |refine q0b (fun vs w=>by kernel_rfl) (by kernel_rfl) (m2) ?_ |refine q0a (fun vs w=>by kernel_rfl) (by kernel_rfl) (m2) ?_ |refine q0b (fun vs w=>by kernel_rfl) (by kernel_rfl) (m3) ?_ |refine q0a (fun vs w=>by kernel_rfl) (by kernel_rfl) (m3) ?_ |refine q0b (fun vs w=>by kernel_rfl) (by kernel_rfl) (idx) ?_ |refine q0a (fun vs w=>by kernel_rfl) (by kernel_rfl) (idx) ?_ |refine q0b (fun vs w=>by kernel_rfl) (by kernel_rfl) (idy) ?_ |refine q0a (fun vs w=>by kernel_rfl) (by kernel_rfl) (idy) ?_))))
          conv=>whnf
          try simp
      · have idx:=q0l dx (-64) 64 G false (⟨(fun h=>by cases h),fun h=>absurd h bx⟩)
        (repeat ((try (conv=>whnf));(first |(refine stQ ?_) |(with_reducible first |refine q0b (fun vs w=>by kernel_rfl) (by kernel_rfl) (q0m _) ?_ |refine q0a (fun vs w=>by kernel_rfl) (by kernel_rfl) (q0m _) ?_ |refine q0b (fun vs w=>by kernel_rfl) (by kernel_rfl) (iw) ?_ |refine q0a (fun vs w=>by kernel_rfl) (by kernel_rfl) (iw) ?_ |refine q0b (fun vs w=>by kernel_rfl) (by kernel_rfl) (ih) ?_ |refine q0a (fun vs w=>by kernel_rfl) (by kernel_rfl) (ih) ?_ |refine q0b (fun vs w=>by kernel_rfl) (by kernel_rfl) (cw) ?_ |refine q0a (fun vs w=>by kernel_rfl) (by kernel_rfl) (cw) ?_ |refine q0b (fun vs w=>by kernel_rfl) (by kernel_rfl) (ch) ?_ |refine q0a (fun vs w=>by kernel_rfl) (by kernel_rfl) (ch) ?_ |refine q0b (fun vs w=>by kernel_rfl) (by kernel_rfl) (m1) ?_ |refine q0a (fun vs w=>by kernel_rfl) (by kernel_rfl) (m1) ?_ |refine q0b (fun vs w=>by kernel_rfl) (by kernel_rfl) (m2) ?_ |refine q0a (fun vs w=>by kernel_rfl) (by kernel_rfl) (m2) ?_ |refine q0b (fun vs w=>by kernel_rfl) (by kernel_rfl) (m3) ?_ |refine q0a (fun vs w=>by kernel_rfl) (by kernel_rfl) (m3) ?_ |refine q0b (fun vs w=>by kernel_rfl) (by kernel_rfl) (idx) ?_ |refine q0a (fun vs w=>by kernel_rfl) (by kernel_rfl) (idx) ?_))))
        conv=>whnf
        try simp
theorem walk (a0:Int) (a1:Int) (A2:Option Addr) (n2:Nat) (q2:Nat) (g2:Nat→Nat→Value) (a3:Int) (a4:Int) (px5 py5:Int) (a6:Int) (a7:Int) (w:World) (w0:(Lit.int .i64 a0).wf=true) (w1:(Lit.int .i64 a1).wf=true) (c2:n2≤q2) (m2:q2≤maxLen) (s2:SliceG Try.prog w 29 A2 n2 g2) (w3:(Lit.int .i64 a3).wf=true) (w4:(Lit.int .i64 a4).wf=true) (w5:∀ z∈[px5,py5],(Lit.int .i64 z).wf=true) (w6:(Lit.int .i64 a6).wf=true) (w7:(Lit.int .i64 a7).wf=true) :
    Calls Try.prog 5 #[.int .i64 a0,.int .i64 a1,.slice A2 n2 q2,.int .i64 a3,.int .i64 a4,.agg #[.int .i64 px5,.int .i64 py5],.int .i64 a6,.int .i64 a7] w fun e w'=>e=.returned (.bool true)∧Below w.heap.size w w':=by
  obtain ⟨p,hp⟩:=x53 s2
  refine x40 tab_ok Try.func5 ?_ (body (w:=a0) (h:=a1) (key:=a3) (ink:=a4) (dx:=px5) (dy:=py5) (x:=a6) (y:=a7) hp c2 m2)
  exact q4q q6y (q4q q6y (q4q q6y (q4q q6y (q4q q6y (q4q (x5h (l:=[.int .i64 px5,.int .i64 py5])) (q4q q6y (q4q q6y (by rw [AV.rels]))))))))
end Go.Proofs.Ytbkhpddodmbdoaa.pullShowsAndFringe
