/-
  Merged: XPainted, XComposeMix.
-/
import Derived.Test.YticolnghiibgfaaGreatMrg7
set_option linter.unusedVariables false
set_option linter.unusedSimpArgs false
set_option linter.unnecessarySimpa false
namespace Go.Proofs.YticolnghiibgfaaGreat
open Go.RowKit
set_option maxRecDepth 20000 in
set_option maxHeartbeats 8000000 in
theorem x0r (md:Int) (S I B:Nat→Int) (q:Int) (ov:Bool) (w:World) (hmd:0≤md∧md≤11) (hS:∀ o,o<9→0≤S o∧S o≤255) (hI:∀ o,o<8→0≤I o∧I o≤255) (hq:0≤q∧q≤255) (hB:∀ o,o<9→B o=pnt md S I q ov o) :
    Calls Tryz.prog 91 #[.agg #[.int .u8 (S 0),.int .u8 (S 1),.int .u8 (S 2),.int .u8 (S 3),.int .u8 (S 4),.int .u8 (S 5),.int .u8 (S 6),.int .u8 (S 7),.int .u8 (S 8)],.agg #[.int .u8 (I 0),.int .u8 (I 1),.int .u8 (I 2),.int .u8 (I 3),.int .u8 (I 4),.int .u8 (I 5),.int .u8 (I 6),.int .u8 (I 7)],.int .i64 q,.int .i64 md,.bool ov] w fun e w'=>e=.returned (.agg #[.int .u8 (B 0),.int .u8 (B 1),.int .u8 (B 2),.int .u8 (B 3),.int .u8 (B 4),.int .u8 (B 5),.int .u8 (B 6),.int .u8 (B 7),.int .u8 (B 8)])∧Below w.heap.size w w':=by
  have ha:=hS 0 (by omega)
  have hL:=z6i ha hq
  have hm:=mulN ha hq
  have hLe:255*S 0+255*q-S 0*q=allV (S 0) q:=x7j _ _
  by_cases h0:allV (S 0) q=0
  · have hb:∀ o,o<9→B o=0:=fun o ho=>by rw [hB o ho,pnt,if_pos h0]
    have b0:=hb 0 (by omega)
    have b1:=hb 1 (by omega)
    have b2:=hb 2 (by omega)
    have b3:=hb 3 (by omega)
    have b4:=hb 4 (by omega)
    have b5:=hb 5 (by omega)
    have b6:=hb 6 (by omega)
    have b7:=hb 7 (by omega)
    have b8:=hb 8 (by omega)
    rw [b0,b1,b2,b3,b4,b5,b6,b7,b8]
    clear hB hb b0 b1 b2 b3 b4 b5 b6 b7 b8
    have hs0:S 0=0:=by omega
    have hq0:q=0:=by omega
    clear hL hm hLe h0 ha
    subst hq0
    go_enter Tryz.func91,Tryz.ntmps91
    go_wp2_with fail
    refine bodyPost_ret (by simp [results,Tryz.results91,go_sem];try rfl) rfl ?_
    refine ⟨rfl,by exact blQ⟩
  · have hpos:1≤allV (S 0) q:=by omega
    have hal:=q1v (allV (S 0) q) 255 255 (by omega) (by omega) (by omega)
    have hb0:Hid (B 0=near (allV (S 0) q) 255):=show B 0=near (allV (S 0) q) 255 by rw [hB 0 (by omega),pnt,if_neg h0,if_pos rfl]
    have hb1:Hid (∀ k,k<8→ov=true∧I k=0∧0<S 0→B (1+k)=S (1+k)):=fun k hk h=>by rw [hB (1+k) (by omega),pnt,if_neg h0,if_neg (by omega),show 1+k-1=k by omega,if_pos h]
    have hb2:Hid (∀ k,k<8→¬(ov=true∧I k=0∧0<S 0)→B (1+k)=near (argV (S 0) q (S (1+k)) (I k) (inkV md (S (1+k)) (I k))) (allV (S 0) q)):=fun k hk h=>by rw [hB (1+k) (by omega),pnt,if_neg h0,if_neg (by omega),show 1+k-1=k by omega,if_neg h]
    have HBD:Hid (∀ o,o<9→0≤B o∧B o≤255):=fun o ho=>by rw [hB o ho];exact z44 ov hS hI hq ho
    have HS:Hid _:=hS
    have HI:Hid _:=hI
    clear hB hS hI
    generalize hme:S 0*q=m at *
    generalize hLL:allV (S 0) q=L at *
    have hLH:Hid _:=hLL
    clear hLL
    go_enter Tryz.func91,Tryz.ntmps91
    go_wp2_with (first |(go_at_call 121;refine (q2b _ _ _ ?_ ?_).mono ?_;omega;omega;rintro e w' ⟨rfl,rfl⟩))
    obtain ⟨W1,hW1⟩:∃ W1,W1=((((w.alloc (.cells #[Value.int .u8 (S 0),.int .u8 (S 1),.int .u8 (S 2),.int .u8 (S 3),.int .u8 (S 4),.int .u8 (S 5),.int .u8 (S 6),.int .u8 (S 7),.int .u8 (S 8)] 84)).alloc (.cells #[Value.int .u8 (I 0),.int .u8 (I 1),.int .u8 (I 2),.int .u8 (I 3),.int .u8 (I 4),.int .u8 (I 5),.int .u8 (I 6),.int .u8 (I 7)] 28)).alloc (.cells #[.int .u8 0,.int .u8 0,.int .u8 0,.int .u8 0,.int .u8 0,.int .u8 0,.int .u8 0,.int .u8 0,.int .u8 0] 84))).alloc (.cells #[.int .u8 (near L 255),.int .u8 0,.int .u8 0,.int .u8 0,.int .u8 0,.int .u8 0,.int .u8 0,.int .u8 0,.int .u8 0] 84):=⟨_,rfl⟩
    rw [← hW1]
    have B1:Hid (Below w.heap.size w W1):=show Below w.heap.size w W1 by rw [hW1];exact blQ
    have CS:Hid (∀ o,o<9→W1.cell? ⟨w.heap.size,o,none⟩=some (.int .u8 (S o))):=show ∀ o,o<9→W1.cell? ⟨w.heap.size,o,none⟩=some (.int .u8 (S o)) from fun o ho=>by
      rw [hW1,q0i,if_neg (by simp only [World.size_alloc];omega),q0i,if_neg (by simp only [World.size_alloc];omega),q0i,if_neg (by simp only [World.size_alloc];omega),q0i,if_pos rfl]
      exact nine S o ho
    have CI:Hid (∀ o,o<8→W1.cell? ⟨w.heap.size+1,o,none⟩=some (.int .u8 (I o))):=show ∀ o,o<8→W1.cell? ⟨w.heap.size+1,o,none⟩=some (.int .u8 (I o)) from fun o ho=>by
      rw [hW1,q0i,if_neg (by simp only [World.size_alloc];omega),q0i,if_neg (by simp only [World.size_alloc];omega),q0i,if_pos (by simp only [World.size_alloc])]
      exact x8m I o ho
    have CR:Hid (∀ o,W1.cell? ⟨w.heap.size+1+1,o,none⟩=#[Value.int .u8 0,.int .u8 0,.int .u8 0,.int .u8 0,.int .u8 0,.int .u8 0,.int .u8 0,.int .u8 0,.int .u8 0][o]?):=show ∀ o,W1.cell? ⟨w.heap.size+1+1,o,none⟩=#[Value.int .u8 0,.int .u8 0,.int .u8 0,.int .u8 0,.int .u8 0,.int .u8 0,.int .u8 0,.int .u8 0,.int .u8 0][o]? from fun o=>by
      rw [hW1,q0i,if_neg (by simp only [World.size_alloc];omega),q0i,if_pos (by simp only [World.size_alloc])]
    have FR:Hid (∀ o,W1.frozen? ⟨w.heap.size+1+1,o,none⟩=false):=show ∀ o,W1.frozen? ⟨w.heap.size+1+1,o,none⟩=false from fun o=>by
      rw [hW1];simp [q01]
    have S1:Hid (Fill9 W1 W1 (w.heap.size+1+1+1) 0 B):=show Fill9 W1 W1 (w.heap.size+1+1+1) 0 B by
      refine ⟨Below.refl _ _,by rw [hW1];simp only [World.size_alloc];omega,fun o ho=>?_,fun o=>?_⟩
      · rw [hW1,q0i,if_pos (by simp only [World.size_alloc])]
        match o,ho with
        | 0,_=>simp [hb0.out]
        | 1,_=>rfl
        | 2,_=>rfl
        | 3,_=>rfl
        | 4,_=>rfl
        | 5,_=>rfl
        | 6,_=>rfl
        | 7,_=>rfl
        | 8,_=>rfl
      · rw [hW1];simp [q01]
    have hz1:w.heap.size+1+1+1<W1.heap.size:=S1.out.size
    clear hW1 hal
    go_loopw [36] (fun v wr=>∃ k:Nat,k≤8∧v=.int .i64 k∧Fill9 W1 wr (w.heap.size+1+1+1) k B) (fun v _=>8-(intOf v).toNat)
    case atStart=>exact ⟨0,by omega,rfl,S1.out⟩
    case round =>
      obtain ⟨k,hk,rfl,hF⟩:=hrel
      have HF:Hid _:=hF
      have hszr:=hF.size
      by_cases hlk:k<8
      · have e1:=(hF.below.cell (p:=⟨w.heap.size,1+k,none⟩) (by show w.heap.size<_;omega)).trans (CS.out (1+k) (by omega))
        have e2:=(hF.below.cell (p:=⟨w.heap.size+1,k,none⟩) (by show w.heap.size+1<_;omega)).trans (CI.out k (by omega))
        have c1:wr.cell? ⟨w.heap.size+1+1+1,1+k,none⟩=some (.int .u8 0):=by rw [hF.cells (1+k) (by omega),if_neg (by omega)]
        have f1:=hF.free (1+k)
        have hx:=HS.out (1+k) (by omega)
        have hy:=HI.out k hlk
        have hz:=HBD.out (1+k) (by omega)
        have hn1:=hb1.out k hlk
        have hn2:=hb2.out k hlk
        have hib:=z6f (k:=md) hx hy
        have HN:Hid (Fill9 W1 (wr.setCell ⟨w.heap.size+1+1+1,1+k,none⟩ (.int .u8 (B (1+k)))) (w.heap.size+1+1+1) (k+1) B):=show Fill9 W1 (wr.setCell ⟨w.heap.size+1+1+1,1+k,none⟩ (.int .u8 (B (1+k)))) (w.heap.size+1+1+1) (k+1) B by rw [Nat.add_comm 1 k];have:=hF.step hlk;rwa [Nat.add_comm 1 k] at this
        have HN':Hid (∀ w',Fill9 W1 w' (w.heap.size+1+1+1) k B→Fill9 W1 (w'.setCell ⟨w.heap.size+1+1+1,1+k,none⟩ (.int .u8 (B (1+k)))) (w.heap.size+1+1+1) (k+1) B):=fun w' h=>by rw [Nat.add_comm 1 k];have:=h.step hlk;rwa [Nat.add_comm 1 k] at this
        clear hF
        generalize B (1+k)=z at *
        generalize S (1+k)=x at *
        generalize I k=y at *
        generalize S 0=a at *
        by_cases hov:ov=true∧y=0∧0<a
        · obtain ⟨rfl,rfl,ha0⟩:=hov
          obtain rfl:=hn1 ⟨rfl,rfl,ha0⟩
          clear hn1 hn2
          have hd:(a != 0)=true:=by simp;omega
          go_wp2_with fail
          go_quiet (fail)
          have HNd:Hid _:=HN'.out _ (HF.out.later (z01 (Below.refl wr.heap.size wr) nq))
          go_wp2_with fail
          go_roundw
          case rel=>exact ⟨k+1,by omega,by go_num,HNd.out⟩
          case measure=>simp [intOf];omega
        · have hzz:=hn2 hov
          have hv:(ov=false)∨(ov=true∧(y==0)=false)∨(ov=true∧(y==0)=true∧a≤0):=by
            cases ov with
            | false=>exact .inl rfl
            | true =>
              by_cases hy0:y=0
              · exact .inr (.inr ⟨rfl,by simpa using hy0,by have:¬ (0<a):=fun h=>hov ⟨rfl,hy0,h⟩;omega⟩)
              · exact .inr (.inl ⟨rfl,by simpa using hy0⟩)
          clear hn1 hn2 hov
          have hzH:Hid _:=hzz
          clear hzz
          generalize hib2:inkV md x y=ib at *
          have hibH:Hid _:=hib2
          clear hib2
          have v1:=mulN (a:=255-q) (b:=a) (A:=255) ⟨by omega,by omega⟩ ha
          have v2:=mulN (b:=x) v1 hx
          have v3:=mulN (a:=q) (b:=255-a) (B:=255) hq ⟨by omega,by omega⟩
          have v4:=mulN (b:=y) v3 hy
          have v5:=mulN (a:=q) (b:=a) hq ha
          have v6:=mulN (b:=ib) v5 hib
          have hzr:Hid (z=near ((255-q)*a*x+q*(255-a)*y+q*a*ib) L):=show z=_ by rw [x7i];exact hzH.out
          generalize hv1:(255-q)*a=u1 at *
          generalize hv2:u1*x=u2 at *
          generalize hv3:q*(255-a)=u3 at *
          generalize hv4:u3*y=u4 at *
          generalize hv5:q*a=u5 at *
          generalize hv6:u5*ib=u6 at *
          obtain rfl:=hzr.out
          rcases hv with rfl |⟨rfl,hy0⟩ |⟨rfl,hy0,ha0⟩
          all_goals
            try (have ha0':(a != 0)=false:=by simp;omega)
            go_wp2_with fail
            go_quiet (fail)
            have HNd:Hid _:=HN'.out _ (HF.out.later (z01 (Below.refl wr.heap.size wr) nq))
            go_wp2_with (first |(go_at_call 122;refine (x7d _ _ _ _ hmd hx hy).mono ?_;rw [hibH.out];rintro e w' ⟨rfl,rfl⟩) |(go_at_call 121;refine (q2b _ _ _ ?_ ?_).mono ?_;omega;omega;rintro e w' ⟨rfl,rfl⟩))
            go_roundw
            case rel=>exact ⟨k+1,by omega,by go_num,HNd.out⟩
            case measure=>simp [intOf];omega
      · obtain rfl:k=8:=by omega
        have hr:∀ o,_:=fun o=>(hF.below.cell (p:=⟨w.heap.size+1+1,o,none⟩) (by show w.heap.size+1+1<_;omega)).trans (CR.out o)
        have hrF:∀ o,_:=fun o=>(hF.below.frozen (p:=⟨w.heap.size+1+1,o,none⟩) (by show w.heap.size+1+1<_;omega)).trans (FR.out o)
        have hc:∀ o,o<9→wr.cell? ⟨w.heap.size+1+1+1,o,none⟩=some (.int .u8 (B o)):=fun o ho=>by rw [hF.cells o ho,if_pos (by omega)]
        have c0:=hc 0 (by omega)
        have c1:=hc 1 (by omega)
        have c2:=hc 2 (by omega)
        have c3:=hc 3 (by omega)
        have c4:=hc 4 (by omega)
        have c5:=hc 5 (by omega)
        have c6:=hc 6 (by omega)
        have c7:=hc 7 (by omega)
        have c8:=hc 8 (by omega)
        have hbw:Below w.heap.size w wr:=B1.out.trans (hF.below.mono (by omega))
        have HBW:Hid _:=hbw
        clear hF hc hbw
        go_wp2_with fail
        refine bodyPost_ret (by simp [results,Tryz.results91,go_sem,hr];try rfl) rfl ?_
        exact ⟨rfl,(((((((((HBW.out.setCell (by show w.heap.size≤w.heap.size+1+1;omega) _).setCell (by show w.heap.size≤w.heap.size+1+1;omega) _).setCell (by show w.heap.size≤w.heap.size+1+1;omega) _).setCell (by show w.heap.size≤w.heap.size+1+1;omega) _).setCell (by show w.heap.size≤w.heap.size+1+1;omega) _).setCell (by show w.heap.size≤w.heap.size+1+1;omega) _).setCell (by show w.heap.size≤w.heap.size+1+1;omega) _).setCell (by show w.heap.size≤w.heap.size+1+1;omega) _).setCell (by show w.heap.size≤w.heap.size+1+1;omega) _)⟩
end Go.Proofs.YticolnghiibgfaaGreat
namespace Go.Proofs.YticolnghiibgfaaGreat
open Go.RowKit
end Go.Proofs.YticolnghiibgfaaGreat
