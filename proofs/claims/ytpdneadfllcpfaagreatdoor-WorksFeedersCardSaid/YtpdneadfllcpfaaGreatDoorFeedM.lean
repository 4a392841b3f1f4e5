/-
  works.Feeders: its outcomes; the law's helper opens; sheets in the memory of a law.
-/
import Derived.Test.YtpdneadfllcpfaaGreatDoorFeed
import Derived.Test.YtpdneadfllcpfaaGreatDoorFlat
import Derived.Test.YtpdneadfllcpfaaGreatDoorPairE
set_option linter.unusedVariables false
set_option linter.unusedSimpArgs false
set_option linter.unnecessarySimpa false
namespace Go.Proofs.YtpdneadfllcpfaaGreatDoor
open Go.RowKit Go.Deep
set_option maxRecDepth 20000
section
variable {G:Mem} {A:Option Addr} {n c:Nat} {d:Nat→ShD} {ups copies:Int} {num:Bool}
theorem z2w (hl:ShM G A n d) (h:(1≤ups∧ups≤2)∧1≤copies∧copies≤512) (hn:1≤n∧n≤8) (hc:n≤c∧c≤maxLen) (hb:badS n d) :
    Gives Tryz.prog 5 [.val (.slice A n c),.val (.int .i64 ups),.val (.int .i64 copies),.val (.bool num)] G (.tup [.val (.slice none 0 0),.val (.int .i64 14)]):=by
  refine q3v tab_ok Tryz.func5 ?_
  refine q8w hl h hn hc (fun _ _ _=>⟨rfl,rfl⟩) fun B M hinv=>?_
  obtain ⟨i,hi,k,hk,hs⟩:=hb
  exact absurd (hinv.good i hi k hk) hs
theorem q7t (hl:ShM G A n d) (h:(1≤ups∧ups≤2)∧1≤copies∧copies≤512) (hn:1≤n∧n≤8) (hc:n≤c∧c≤maxLen) (hb:¬ badS n d) :
    MakesX Tryz.prog 5 [.val (.slice A n c),.val (.int .i64 ups),.val (.int .i64 copies),.val (.bool num)] G 36 1 fun wrap k xs M=>wrap=z1f 0∧k=n∧∃ B,xs=q1h (outC ups copies num d B) n∧FeedInv ups copies num d n G ⟨n,B,M⟩:=by
  refine z2a tab_ok Tryz.func5 (by kernel_rfl) ?_
  refine q8w hl h hn hc (fun hb'=>absurd hb' hb) fun B M hinv hp h0=>?_
  exact ⟨z1f 0,0,n,_,q96 0,rfl,h0,rfl,rfl,B,rfl,hinv⟩
end
set_option maxHeartbeats 8000000 in
theorem q97 {G:Mem}:Gives Tryz.prog 4 [] G (.val (.bool true)):=by
  refine q3v tab_ok Tryz.func4 ?_
  (repeat ((try (conv=>whnf));(first |(refine scQ ?_) |(with_reducible first |refine q0v tab_ok Tryz.func7 (fun vs w=>by kernel_rfl) (by rfl) ?_ |refine q0v tab_ok Tryz.func9 (fun vs w=>by kernel_rfl) (by rfl) ?_ |refine q0v tab_ok Tryz.func13 (fun vs w=>by kernel_rfl) (by rfl) ?_))))
  conv=>whnf
  refine q8x 3 4 (xs:=[.int .i64 1,.int .i64 0,.slice none 0 0,.slice none 0 0,.int .i64 0]) (fun vs w=>by kernel_rfl) rfl rfl rfl rfl rfl fun b3 G3 hG3 hc3=>?_
  conv=>whnf
  refine q94 4 (xs:=[.slice (some ⟨b3,0,none⟩) 1 1]) (fun vs w=>by kernel_rfl) rfl rfl rfl fun b4 G4 hG4 hc4=>?_
  conv=>whnf
  have hl:ShM G4 (some ⟨b4,0,none⟩) 1 fun _=>⟨some ⟨b3,0,none⟩,1,1,fun _=>1,fun _=>0,fun _=>0,fun _=>(none,0,0),fun _=>(none,0,0)⟩:=by
    refine ⟨⟨fun _ _=>rfl,fun x hx=>⟨b4,0,rfl,fun j v hj=>?_⟩⟩,fun i hi=>⟨fun _ _=>rfl,fun x hx=>⟨b3,0,rfl,fun j v hj=>?_⟩⟩,fun i hi=>⟨Nat.le_refl _,by show 1≤maxLen;unfold maxLen;omega⟩⟩
    · obtain rfl:x=0:=by omega
      rw [show 0+0*1+j=j by omega]
      exact hc4 j v hj
    · obtain rfl:x=0:=by
        have hx:x<1:=hx
        omega
      rw [show 0+0*5+j=j by omega]
      exact hG4.cell (hc3 j v hj)
  have hmk:=q7t (ups:=2) (copies:=1) (num:=true) (c:=1) hl ⟨⟨by omega,by omega⟩,by omega,by omega⟩ ⟨by omega,by omega⟩ ⟨Nat.le_refl _,by unfold maxLen;omega⟩ (fun ⟨i,hi,k,hk,hs⟩=>hs ⟨Int.le_refl 0,by show (0:Int)≤2;omega⟩)
  refine q5e (fun vs w=>by kernel_rfl) (by rfl) hmk ?_
  rintro wrap k xs M Q cap M2 hM ⟨rfl,rfl,B,rfl,hinv⟩ hM2 hnc hcm hF
  (repeat ((try (conv=>whnf));(refine stQ ?_)))
  exact ⟨rfl,rfl⟩
theorem z3k:Tryz.prog.underlying 29=some (.slice 33):=Tryz.underlying29
theorem z3l:0<Tryz.prog.cellsOf 33:=of_decide_eq_true (by kernel_rfl)
theorem z3r:Tryz.prog.cellsOf 33=5:=by kernel_rfl
theorem z3m:Tryz.prog.cellsOf 29=1:=by kernel_rfl
theorem q3z:q1w Tryz.prog 20 33=true:=by kernel_rfl
theorem q2t:flat Tryz.prog 20 33=[.int .i64,.int .i64,.slice 30,.slice 31,.int .i64]:=by kernel_rfl
theorem z2d:q1w Tryz.prog 20 29=true:=by kernel_rfl
theorem q98:flat Tryz.prog 20 29=[.slice 29]:=by kernel_rfl
def slT:Value→Option Addr × Nat × Nat
  | .slice A n c=>(A,n,c)
  | _=>(none,0,0)
section
variable {w:World} {A:Option Addr} {n:Nat} {g:Nat→Nat→Value}
theorem z3n (h:SliceG Tryz.prog w 33 A n g) (q:Nat):∃ d:ShD,d.A=A∧d.n=n∧d.q=q∧ElsM (q4o w) A 5 n (recC d):=by
  refine ⟨⟨A,n,q,fun x=>valI (g x 0),fun x=>valI (g x 1),fun x=>valI (g x 4),fun x=>slT (g x 2),fun x=>slT (g x 3)⟩,rfl,rfl,rfl,fun x hx=>rfl,fun x hx=>?_⟩
  obtain ⟨b,off,rfl,_,hc⟩:=h (by omega)
  rw [z3r] at hc
  have h0:=(h.int (j:=0) (k:=.i64) q3z hx (by rw [q2t];rfl)).1
  have h1:=(h.int (j:=1) (k:=.i64) q3z hx (by rw [q2t];rfl)).1
  have h4:=(h.int (j:=4) (k:=.i64) q3z hx (by rw [q2t];rfl)).1
  obtain ⟨m2,s2⟩:=h.seen (j:=2) q3z hx (by rw [q2t];rfl)
  obtain ⟨m3,s3⟩:=h.seen (j:=3) q3z hx (by rw [q2t];rfl)
  obtain ⟨A2,n2,q2,g2,e2,_⟩:=q3l (e:=218) Tryz.underlying30 (of_decide_eq_true (by kernel_rfl)) s2
  obtain ⟨A3,n3,q3,g3,e3,_⟩:=q3l (e:=42) Tryz.underlying31 (of_decide_eq_true (by kernel_rfl)) s3
  refine ⟨b,off,rfl,fun j v hj=>?_⟩
  match j,hj with
  | 0,hj =>
    simp at hj;subst hj
    rw [← h0];exact (hc x hx).1 0 (by omega)
  | 1,hj =>
    simp at hj;subst hj
    rw [← h1];exact (hc x hx).1 1 (by omega)
  | 2,hj =>
    simp at hj;subst hj
    rw [e2];simp only [slT];rw [← e2];exact (hc x hx).1 2 (by omega)
  | 3,hj =>
    simp at hj;subst hj
    rw [e3];simp only [slT];rw [← e3];exact (hc x hx).1 3 (by omega)
  | 4,hj =>
    simp at hj;subst hj
    rw [← h4];exact (hc x hx).1 4 (by omega)
theorem z2x (h:SliceG Tryz.prog w 29 A n g):∃ d:Nat→ShD,ShM (q4o w) A n d:=by
  have key:∀ x,x<n→∃ d:ShD,g x 0=.slice d.A d.n d.q∧(d.n≤d.q∧d.q≤maxLen)∧ElsM (q4o w) d.A 5 d.n (recC d):=fun x hx=>by
    obtain ⟨m,h0⟩:=h.seen (j:=0) z2d hx (by rw [q98];rfl)
    obtain ⟨B,k,c,gr,e0,r1,r2,hs⟩:=q3l z3k z3l h0
    obtain ⟨d,rfl,rfl,rfl,hd⟩:=z3n hs c
    exact ⟨d,e0,⟨r1,r2⟩,hd⟩
  haveI:Inhabited ShD:=⟨⟨none,0,0,fun _=>0,fun _=>0,fun _=>0,fun _=>(none,0,0),fun _=>(none,0,0)⟩⟩
  obtain ⟨d,hd⟩:=choose_lt key
  refine ⟨d,⟨⟨fun x hx=>rfl,fun x hx=>?_⟩,fun x hx=>(hd x hx).2.2,fun x hx=>(hd x hx).2.1⟩⟩
  obtain ⟨b,off,rfl,_,hc⟩:=h (by omega)
  rw [z3m] at hc
  refine ⟨b,off,rfl,fun j v hj=>?_⟩
  match j,hj with
  | 0,hj =>
    simp at hj;subst hj
    rw [← (hd x hx).1];exact (hc x hx).1 0 (by omega)
end
end Go.Proofs.YtpdneadfllcpfaaGreatDoor
