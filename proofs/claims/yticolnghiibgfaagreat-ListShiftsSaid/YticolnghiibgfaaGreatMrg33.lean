/-
  Merged: XRegOps, XWhole, XSpot, XClip, XClipLaw.
-/
import Derived.Test.YticolnghiibgfaaGreatMrg25
import Derived.Test.YticolnghiibgfaaGreatCombine
import Derived.Test.YticolnghiibgfaaGreatMrg18
import Derived.Test.YticolnghiibgfaaGreatMrg22
import Derived.Test.YticolnghiibgfaaGreatMrg24
import Derived.Test.YticolnghiibgfaaGreatMrg29
import Derived.Test.YticolnghiibgfaaGreatMrg32
set_option linter.unusedVariables false
set_option linter.unusedSimpArgs false
set_option linter.unnecessarySimpa false
namespace Go.Proofs.YticolnghiibgfaaGreat
open Go.RowKit
set_option maxRecDepth 20000
section
variable {A B:Option Addr} {La Lb:List Run} {c d:Nat} {G:Mem}
end
end Go.Proofs.YticolnghiibgfaaGreat
namespace Go.Proofs.YticolnghiibgfaaGreat
open Go.RowKit
set_option maxRecDepth 20000
def x9s (e:Bool) (a:AV):AV:=.tup [a,.val (.bool e)]
theorem z39 (e:Bool):Wraps (x9s e):=.pair (.val (.bool e)) (fun _=>rfl) rfl
def q5r (w h:Nat):List Run:=(List.range (16*h)).map fun (y:Nat)=>⟨(y:Int),0,16*(w:Int)⟩
theorem x4t (w h:Nat):q1u (q5r w h)=q5q 0 (16*(w:Int)) 0 (16*h):=by
  unfold q1u q5r q5q
  rw [List.flatMap_map]
  simp
theorem x16 {w h:Nat} (hw:w≤512) (hh:h≤512) (G:Mem):q4f Tryz.prog 49 [.val (.int .i64 w),.val (.int .i64 h)] G (x9s true) 87 3 (16*h) (q5q 0 (16*(w:Int)) 0 (16*h)):=by
  refine q3q tab_ok Tryz.func49 (z39 true) ?_
  (repeat ((try (conv=>whnf));(refine stQ ?_)))
  conv=>whnf
  refine q02 tab_ok (fun i=>i≤16*h) (fun (i:Nat)=>[(7,.val (.int .i64 i)),(6,.own 0)]) (fun i=>[.own 87 3 i (q5q 0 (16*(w:Int)) 0 i)]) (fun i=>16*h-i) 0 (Nat.zero_le _) ?_ ?_
  · refine z5i 87 3 ?_
    conv=>whnf
    ((refine q0h ?_);(conv=>whnf);(refine q0j (by rfl) (by rfl) flQ ?_))
    exact q0i rfl (by simp [q5q]) q0e
  · intro i hi
    by_cases hlt:(i:Int)<16*(h:Int)
    · (repeat ((try (conv=>whnf));(refine stQ ?_)))
      refine ⟨i+1,by omega,by omega,?_⟩
      refine q8s 2 0 rfl rfl rfl rfl ?_
      conv=>whnf
      ((refine q0h ?_);(conv=>whnf);(refine q0j (by rfl) (by rfl) flQ ?_))
      exact q0i rfl (by rw [x6w,Int.zero_add]) q0e
    · (repeat ((try (conv=>whnf));(refine stQ ?_)))
      have hi2:i=16*h:=by omega
      subst hi2
      exact .inl ⟨0,rfl,rfl⟩
end Go.Proofs.YticolnghiibgfaaGreat
namespace Go.Proofs.YticolnghiibgfaaGreat
open Go.RowKit
set_option maxRecDepth 20000
theorem x4u {P:Program} {T:Tab} (hT:TOk P T) {f:FuncId} {fn:Func} (hfn:P.funcs[f]? = some fn) {args:List AV} {G:Mem} {R:Value→Mem→Prop}
    (h:q0m (q6e fn) (q4d P T 1 fn args [.muts fun _=>False] G fun v hp' G'=>∃ l:List Value,v=.agg (l.map .val)∧R (.agg l.toArray) G')):GivesM P f args G R:=by
  intro w vs hG ha
  refine (z0s hT hfn (args:=args) ha hG h).mono ?_
  rintro e w' ⟨y,β',v,hp',G',h1,h2,h3,l,rfl,hR⟩
  simp only [AV.rel] at h3
  obtain ⟨cs,rfl,h4⟩:=h3
  have e:cs=l.toArray:=by rw [← q06 h4]
  subst e
  exact ⟨_,G',h1,h2.below,h2.sub,h2.hold,h2.grow,hR⟩
theorem z6b {G:Mem} {b:Nat} {L:List Run} (h:∀ (j:Nat) u,(q1u L)[j]? = some u→G.cell? ⟨b,j,none⟩=some u):RunsM G (some ⟨b,0,none⟩) L:=fun i r hr=>by
  obtain ⟨h1,h2,h3⟩:=q6b hr
  exact ⟨b,0,rfl,by rw [Nat.zero_add];exact h _ _ h1,by rw [Nat.zero_add];exact h _ _ h2,by rw [Nat.zero_add];exact h _ _ h3⟩
abbrev spIt (K:Int) (RA:Option Addr) (rn rq:Nat) (c:Int) (al:Int) (iso:Bool):ItemD:=⟨K,RA,rn,rq,0,fun j=>if j=0 then c else 0,0,0,0,0,0,none,0,0,0,0,none,0,0,none,0,0,0,0,0,0,0,0,false,false,al,0,false,iso,false⟩
def spI (A:Option Addr) (c b:Nat):Nat→ItemD
  | 0=>spIt 0 A 16 c 200 255 false
  | 1=>spIt 1 none 0 0 0 255 true
  | 2=>spIt 0 (some ⟨b,0,none⟩) 1 1 100 255 false
  | _=>spIt 2 none 0 0 0 0 false
set_option maxHeartbeats 4000000 in
theorem z0x {G:Mem}:GivesM Tryz.prog 32 [] G fun v F=>∃ A c b sb ib,v=.agg #[.int .i64 1,.int .i64 1,.slice (some ⟨sb,0,none⟩) 1 1,.slice (some ⟨ib,0,none⟩) 4 4]∧RunsM F A (q5r 1 1)∧16≤c∧c≤maxLen ∧
    F sb=some (.cells #[.string ⟨#[98,108,97,99,107]⟩] 9 (0,0))∧F b=some (.cells #[.int .i64 0,.int .i64 0,.int .i64 1] 87 (0,0))∧F ib=some (.cells ((spI A c b 0).cells++(spI A c b 1).cells++(spI A c b 2).cells++(spI A c b 3).cells).toArray 56 (0,0)):=by
  refine x4u tab_ok Tryz.func32 ?_
  (repeat ((try (conv=>whnf));(refine stQ ?_)))
  conv=>whnf
  refine q4k (fun vs w=>by kernel_rfl) (z39 true) (by rfl) (x16 (w:=1) (h:=1) (by omega) (by omega) _) ?_
  intro A c G1 hG1 hc hcm hF
  (repeat ((try (conv=>whnf));(first |(with_reducible refine q9c tab_ok 0 false ?_) |(refine stQ ?_))))
  conv=>whnf
  intro sb G2 hsb _ hG2
  conv=>whnf
  (repeat ((try (conv=>whnf));(first |(with_reducible refine q9c tab_ok 0 false ?_) |(refine stQ ?_))))
  conv=>whnf
  intro b G3 hb _ hG3
  conv=>whnf
  (repeat ((try (conv=>whnf));(first |(with_reducible refine q9c tab_ok 0 false ?_) |(refine stQ ?_))))
  conv=>whnf
  intro ib G4 hib _ hG4
  conv=>whnf
  (repeat ((try (conv=>whnf));(refine stQ ?_)))
  conv=>whnf
  have l2:G1.le G2:=fun p o hp=>by rw [hG2,Mem.put_ne _ _ (fun e=>by rw [e,hsb] at hp;cases hp)];exact hp
  have l3:G2.le G3:=fun p o hp=>by rw [hG3,Mem.put_ne _ _ (fun e=>by rw [e,hb] at hp;cases hp)];exact hp
  have l4:G3.le G4:=fun p o hp=>by rw [hG4,Mem.put_ne _ _ (fun e=>by rw [e,hib] at hp;cases hp)];exact hp
  refine ⟨[.int .i64 1,.int .i64 1,.slice (some ⟨sb,0,none⟩) 1 1,.slice (some ⟨ib,0,none⟩) 4 4],rfl,A,c,b,sb,ib,rfl,?_,hc,hcm,l4 _ _ (l3 _ _ (by rw [hG2,Mem.put_same])),l4 _ _ (by rw [hG3,Mem.put_same]),by rw [hG4,Mem.put_same];rfl⟩
  rcases hF with h |⟨a,rfl,h⟩
  · exact absurd (congrArg List.length h) (by rw [x8v];decide)
  · exact (z6b (fun j u hj=>by rw [x4t] at hj;exact h j u hj)).mono (Mem.le_trans l2 (Mem.le_trans l3 l4))
end Go.Proofs.YticolnghiibgfaaGreat
namespace Go.Proofs.YticolnghiibgfaaGreat
open Go.RowKit Go.Deep
set_option maxRecDepth 20000
abbrev z0y:AV:=.agg [.val (.int .i64 0),.val (.int .i64 0),.val (.slice none 0 0),.val (.slice none 0 0)]
abbrev setR (i:ItemD) (RA:Option Addr) (rn rq:Nat):ItemD:=⟨i.K,RA,rn,rq,i.k,i.I,i.fx,i.fy,i.tx,i.ty,i.r,i.A,i.n,i.q,i.W,i.H,i.B,i.pn,i.pq,i.C,i.sn,i.sq,i.a,i.b,i.c,i.d,i.e,i.f,i.s,i.t,i.al,i.bl,i.ov,i.iso,i.kn⟩
theorem z8i {rs:Nat→Run} {n:Nat} (v:Valid rs n):∀ k,k≤n→regV rs k=0
  | 0,_=>rfl
  | k+1,hk=>by
    have h:=z8i v k (by omega)
    have hb:=v.bd k (by omega)
    have hr:q3r rs k=0:=by
      unfold q3r
      rw [if_neg (by omega),if_neg (by omega),if_neg]
      rintro ⟨h1,h2,h3⟩
      have:=v.lt (k-1) k (by omega) (by omega)
      omega
    unfold regV
    rw [if_neg (by omega)]
    exact hr
theorem x68 {L:List Run} (v:ValidL L):errL L=0:=z8i v L.length (Nat.le_refl _)
section
variable {G:Mem} {W H er:Int} {SA IA RB:Option Addr} {m sq n iq rd:Nat} {S:Nat→Nat→Value} {I:Nat→ItemD} {gr gs gp gf:Nat→Nat→Nat→Value} {L:List Run}
end
end Go.Proofs.YticolnghiibgfaaGreat
namespace Go.Proofs.YticolnghiibgfaaGreat
open Go.RowKit Go.Deep
section
variable {X Y:CellX} {p q:Nat→Prop}
end
structure SameI (i j:ItemD):Prop where
  K:j.K=i.K
  al:j.al=i.al
  bl:j.bl=i.bl
  ov:j.ov=i.ov
  iso:j.iso=i.iso
  kn:j.kn=i.kn
section
variable {I J:Nat→ItemD} {f:Nat→SrcF} {R R':Nat→List Run} {n m:Nat} {x y:Int} {G G':Mem}
theorem z27 {K K':Nat→Int} {n:Nat} (h:∀ x,x<n→K x=K' x):∀ k,k≤n→q0x K k=q0x K' k
  | 0,_=>rfl
  | k+1,hk=>by rw [q0x,q0x,z27 h k (by omega),h k (by omega)]
end
end Go.Proofs.YticolnghiibgfaaGreat
