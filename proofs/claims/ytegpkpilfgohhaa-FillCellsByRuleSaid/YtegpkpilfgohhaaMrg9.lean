/-
  Merged: XEdgesW, XCmpC.
-/
import Derived.Sort.Grow
import Derived.Shelf.SlSortCmp.NoneTotal
import Derived.Test.YtegpkpilfgohhaaWindLaw
import Derived.Test.YtegpkpilfgohhaaMrg8
import Derived.Test.YtegpkpilfgohhaaMrg5
import Derived.Test.YtegpkpilfgohhaaShelf
set_option linter.unusedVariables false
set_option linter.unusedSimpArgs false
set_option linter.unnecessarySimpa false
namespace Go.Proofs.Ytegpkpilfgohhaa
open Go.RowKit
set_option maxRecDepth 20000
theorem q03:∀ r:Edge,(encE r).length=6:=fun _=>rfl
theorem z4t:∀ r:Cr,(encC r).length=2:=fun _=>rfl
section
variable {G:Mem} {A:Option Addr} {n c:Nat} {L:Nat→LineD}
def upE (L:Nat→LineD) (x i:Nat):List Edge:=q0p L x++q1e (L x).X (L x).Y (L x).n i
theorem z4u {x i:Nat}:upE L x (i+1)=upE L x i++q3a ((L x).X i) ((L x).Y i) ((L x).X (nx (L x).n i)) ((L x).Y (nx (L x).n i)):=by
  unfold upE;rw [q1e,List.append_assoc]
theorem z74 {x i n:Nat} (hx:x<n) (hi:i≤(L x).n):(upE L x i).length≤cntN L n:=by
  unfold upE
  have h1:=q1x (L:=L) x
  have h2:=q3x (X:=(L x).X) (Y:=(L x).Y) (n:=(L x).n) i
  have h3:=z2y (L:=L) hx hi
  rw [List.length_append];omega
set_option maxHeartbeats 8000000 in
theorem q9n (h:LinesM G A n L) (hn:n≤maxLen) (hb:q1v L n=true) (hcnt:cntN L n≤1048576) :
    q6o Try.prog 25 [.val (.slice A n c)] G id 86 6 (q0p L n).length ((q0p L n).flatMap encE):=by
  have hok:=q23 hb
  have hn':n≤9223372036854775807:=by unfold maxLen at hn;omega
  refine q4r tab_ok Try.func25 (.alone fun _=>rfl) ?_
  (repeat ((try (conv=>whnf));(refine stQ ?_)))
  conv=>whnf
  refine q00 tab_ok (fun x=>x≤n) (fun (x:Nat)=>[(12,.val (.int .i64 x)),(3,.own 0)]) (fun x=>[.own 86 6 (q0p L x).length ((q0p L x).flatMap encE)]) (fun x=>n-x) 0 (Nat.zero_le _) ?_ ?_
  · refine q4e 86 6 ?_
    conv=>whnf
    ((refine q0d ?_);(conv=>whnf);(refine q0e (by rfl) (by rfl) flQ ?_))
    exact q0a rfl rfl q0b
  · rintro x hx
    rcases Nat.lt_or_ge x n with h1 |h1
    · obtain ⟨p,rfl,ca⟩:=h.rows.cells h1
      have hp:=h.pts x h1
      have hcap:=h.cap x h1
      unfold maxLen at hcap
      (repeat ((try (conv=>whnf));(first |(refine ca _ ?_) |(refine stQ ?_))))
      conv=>whnf
      refine q00 tab_ok (fun i=>i≤(L x).n) (fun (i:Nat)=>[(19,.val (.int .i64 i)),(3,.own 0)]) (fun i=>[.own 86 6 (upE L x i).length ((upE L x i).flatMap encE),.cells 35 [.val (.slice (L x).A (L x).n (L x).q),.val (.bool (L x).cl)]]) (fun i=>(L x).n-i) 0 (Nat.zero_le _) ?_ ?_
      · ((refine q0d ?_);(conv=>whnf);(refine q0e (by rfl) (by rfl) flQ ?_))
        exact q0a (by simp [upE,q1e]) (by simp [upE,q1e]) (q0i (by exact flQ) q0b)
      · rintro i hi
        rcases Nat.lt_or_ge i (L x).n with h2 |h2
        · obtain ⟨p2,hp2,cb⟩:=hp.cells h2
          obtain ⟨p3,hp3,cc⟩:=hp.cells (q4l h2)
          rw [hp2] at hp3;cases hp3
          have hm:=z07 h2
          have hm':(Int.tmod ((i:Int)+1) ((L x).n:Int)).toNat=nx (L x).n i:=by rw [hm];omega
          have hlt:=q4l h2
          have hnext:=z4u (L:=L) (x:=x) (i:=i)
          have hbd:=z74 (L:=L) h1 hi
          obtain ⟨b1,b2⟩:=q16 (hok x h1 i h2)
          obtain ⟨b3,b4⟩:=q16 (hok x h1 _ hlt)
          rw [← hm'] at cc hnext b3 b4
          rw [hp2]
          generalize hu':upE L x (i+1)=u' at *
          generalize upE L x i=u at *
          unfold q3a at hnext
          clear hok hp ca h
          rcases Int.lt_trichotomy ((L x).Y (Int.tmod ((i:Int)+1) ((L x).n:Int)).toNat) ((L x).Y i) with e |e |e
          · rw [if_pos e] at hnext
            (repeat ((try (conv=>whnf));(first |(refine cb _ ?_) |(refine cc _ ?_) |((with_reducible refine mustP.mk ?_ ?_);(· rw [hm];omega)) |(refine stQ ?_))))
            refine ⟨i+1,by omega,by omega,?_⟩
            rw [hu']
            refine q1a 5 0 rfl rfl rfl rfl ?_
            conv=>whnf
            ((refine q0d ?_);(conv=>whnf);(refine q0e (by rfl) (by rfl) flQ ?_))
            exact q0a (by rw [hnext];simp) (by rw [hnext,List.flatMap_append];rfl) (q0i (by exact flQ) q0b)
          · rw [if_neg (by omega),if_neg (by omega),List.append_nil] at hnext
            (repeat ((try (conv=>whnf));(first |(refine cb _ ?_) |(refine cc _ ?_) |((with_reducible refine mustP.mk ?_ ?_);(· rw [hm];omega)) |(refine stQ ?_))))
            refine ⟨i+1,by omega,by omega,?_⟩
            rw [hu',hnext]
            ((refine q0d ?_);(conv=>whnf);(refine q0e (by rfl) (by rfl) flQ ?_))
            exact q0a rfl rfl (q0i (by exact flQ) q0b)
          · rw [if_neg (by omega),if_pos e] at hnext
            (repeat ((try (conv=>whnf));(first |(refine cb _ ?_) |(refine cc _ ?_) |((with_reducible refine mustP.mk ?_ ?_);(· rw [hm];omega)) |(refine stQ ?_))))
            refine ⟨i+1,by omega,by omega,?_⟩
            rw [hu']
            refine q1a 5 0 rfl rfl rfl rfl ?_
            conv=>whnf
            ((refine q0d ?_);(conv=>whnf);(refine q0e (by rfl) (by rfl) flQ ?_))
            exact q0a (by rw [hnext];simp) (by rw [hnext,List.flatMap_append];rfl) (q0i (by exact flQ) q0b)
        · obtain rfl:i=(L x).n:=by omega
          (repeat ((try (conv=>whnf));(refine stQ ?_)))
          refine ⟨x+1,by omega,by omega,?_⟩
          ((refine q0d ?_);(conv=>whnf);(refine q0e (by rfl) (by rfl) flQ ?_))
          exact q0a rfl rfl q0b
    · obtain rfl:x=n:=by omega
      (repeat ((try (conv=>whnf));(refine stQ ?_)))
      exact .inl ⟨0,rfl,rfl⟩
end
section
variable {G:Mem} {r:Edge} {y:Int}
theorem z92 (h:EdgeOk r) (hy:r.y≤y∧y<r.e):(-4294836224≤2*r.dy*r.x∧2*r.dy*r.x≤4294836224)∧(-8590000000≤r.dx*(2*(y-r.y)+1)∧r.dx*(2*(y-r.y)+1)≤8590000000):=by
  obtain ⟨h1,h2,h3,h4,h5,h6,h7⟩:=h
  have e1:=q2i (a:=2*r.dy) (b:=r.x) (A:=131068) (B:=32767) (by omega) (by omega)
  have e2:=q2i (a:=r.dx) (b:=2*(y-r.y)+1) (A:=65534) (B:=131069) (by omega) (by omega)
  omega
set_option maxHeartbeats 2000000 in
theorem q9o (h:EdgeOk r) (hy:r.y≤y∧y<r.e):Gives Try.prog 56 [.agg [.val (.int .i64 r.x),.val (.int .i64 r.y),.val (.int .i64 r.e),.val (.int .i64 r.dx),.val (.int .i64 r.dy),.val (.int .i64 r.s)],.val (.int .i64 y)] G (.val (.int .i64 (q3k r y))):=by
  obtain ⟨b1,b2⟩:=z92 h hy
  have hq:=z73 (a:=0-numE r y) (b:=2*r.dy) (G:=G) (by unfold numE;have:=h.dy;omega) (by have:=h.dy;omega)
  have hqb:-17179869184≤(0-numE r y)/(2*r.dy)∧(0-numE r y)/(2*r.dy)≤17179869184:=by
    have hd:=h.dy
    have hn:-12884936224≤numE r y∧numE r y≤12884936224:=by unfold numE;omega
    generalize numE r y=z at *
    have h1:0<2*r.dy:=by omega
    constructor
    · rw [Int.le_ediv_iff_mul_le h1]
      have:17179869184*(2*r.dy)≥17179869184*2:=Int.mul_le_mul_of_nonneg_left (by omega) (by omega)
      omega
    · have:(0-z)/(2*r.dy)<17179869185:=by
        rw [Int.ediv_lt_iff_lt_mul h1]
        have:17179869185*(2*r.dy)≥17179869185*2:=Int.mul_le_mul_of_nonneg_left (by omega) (by omega)
        omega
      omega
  rw [show q3k r y=0-(0-numE r y)/(2*r.dy) by unfold q3k;rw [Int.zero_sub,Int.zero_sub]]
  unfold numE at hq hqb ⊢
  have hd:=h.dy
  have h2:=h.y
  have h3:=h.e
  have h4:=h.x
  generalize (0-(2*r.dy*r.x+r.dx*(2*(y-r.y)+1)-r.dy))/(2*r.dy)=q at *
  clear h
  refine q1n tab_ok Try.func56 ?_
  (repeat ((try (conv=>whnf));(first |(refine stQ ?_) |(with_reducible first |refine q0f (fun vs w=>by kernel_rfl) (by kernel_rfl) (hq) ?_ |refine q0h (fun vs w=>by kernel_rfl) (by kernel_rfl) (hq) ?_))))
  exact ⟨rfl,rfl⟩
end
end Go.Proofs.Ytegpkpilfgohhaa
namespace Go.Proofs.Ytegpkpilfgohhaa
open Go.RowKit Go.Shelf Go.Lib Go.Sort
set_option maxRecDepth 20000
theorem z93 (a b:Cr):cmpC a b=cmpI a.x b.x:=rfl
set_option maxHeartbeats 2000000 in
theorem z21 (x y:Cr) (W:World):Calls Try.prog 58 #[.agg (encC x).toArray,.agg (encC y).toArray] W fun e w'=>e=.returned (.int .i64 (cmpC x y))∧∃ q os',w'=grow (W.drewN q) os':=by
  obtain ⟨a,b⟩:=x
  obtain ⟨d,e⟩:=y
  have hcon:=fun W'=>z3h a d W'
  rw [z93]
  simp only [encC]
  generalize hr:cmpI a d=r at hcon
  show Calls Try.prog 58 #[.agg #[.int .i64 a,.int .i64 b],.agg #[.int .i64 d,.int .i64 e]] W _
  go_enter Try.func58,Try.ntmps58
  go_wp2_with (go_at_call 43;refine (hcon _).mono ?_;rintro e w' ⟨rfl,rfl⟩)
  go_ret
  exact ⟨rfl,0,_,by rw [alloc_eq_grow,alloc_eq_grow,grow_grow];rfl⟩
theorem q7f (a b:Cr):(ltOf cmpC a b=false)↔b.x≤a.x:=by
  unfold ltOf cmpC
  rw [decide_eq_false_iff_not]
  split
  · omega
  · split <;> omega
theorem z4v:SWO (ltOf cmpC) where
  irrefl x:=by rw [q7f];omega
  trans x y z h1 h2:=by
    rw [← Bool.not_eq_false] at *
    rw [q7f] at *
    omega
  ntrans x y z h1 h2:=by rw [q7f] at *;omega
end Go.Proofs.Ytegpkpilfgohhaa
