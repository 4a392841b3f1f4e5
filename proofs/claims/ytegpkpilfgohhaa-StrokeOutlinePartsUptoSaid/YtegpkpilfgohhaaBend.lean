/-
  The reference's add and bend.
-/
import Derived.Test.YtegpkpilfgohhaaMrg11
import Derived.Test.YtegpkpilfgohhaaMrg12
import Derived.Test.YtegpkpilfgohhaaGb
import Derived.Test.YtegpkpilfgohhaaChain
set_option linter.unusedVariables false
set_option linter.unusedSimpArgs false
set_option linter.unnecessarySimpa false
namespace Go.Proofs.Ytegpkpilfgohhaa
open Go.RowKit
set_option maxRecDepth 20000
abbrev styA (s:Sty):AV:=.agg [.val (.int .i64 s.w),.val (.int .i64 s.cap),.val (.int .i64 s.join),.val (.int .i64 s.lim)]
abbrev pA (p:Int × Int):AV:=ptA p.1 p.2
def q0h (p:Int × Int):Prop:=q0o p.1∧q0o p.2
section
variable {G:Mem}
set_option maxHeartbeats 2000000 in
theorem q06 {p q:Int × Int} {k:Int} (hp:q0h p) (hq:q0h q) (hk:k=1∨k=-1):Gives Try.prog 36 [pA p,pA q,.val (.int .i64 k)] G (pA (mvP p q k)):=by
  unfold q0h q0o at *
  refine q1e tab_ok Try.func36 ?_
  unfold mvP
  rcases hk with rfl |rfl
  · (repeat ((try (conv=>whnf));(refine stQ ?_)))
    exact ⟨rfl,rfl⟩
  · (repeat ((try (conv=>whnf));(refine stQ ?_)))
    exact ⟨rfl,rfl⟩
theorem z2r {G:Mem} {b:Nat} {vs:Array Value} {e:TypeId} {j:Nat} {v:Value} (h:vs.toList[j]? = some v):(G.put b (.cells vs e (0,0))).cell? ⟨b,j,none⟩=some v:=by
  unfold Mem.cell?
  rw [Mem.put_same]
  simpa using h
theorem q2s {G:Mem} {b:Nat} {o:Obj} (hb:G b=none):G.le (G.put b o):=fun c o' hc=>by
  rw [Mem.put_ne _ _ (fun e=>by rw [e,hb] at hc;cases hc)];exact hc
theorem q21 {G:Mem} {b:Nat} {e:TypeId} {l:List (Int × Int)} {vs:Array Value} (h:vs.toList=q0r l):PtsM (G.put b (.cells vs e (0,0))) (some ⟨b,0,none⟩) l:=fun i r hr=>by
  obtain ⟨h1,h2⟩:=q9g hr
  exact ⟨b,0,rfl,by rw [Nat.zero_add];exact z2r (by rw [h];exact h1),by rw [Nat.zero_add];exact z2r (by rw [h];exact h2)⟩
def x10 (o:Option (List (Int × Int))) (v:AV) (G':Mem):Prop:=match o with
  | none=>v=.tup [.agg [.val (.slice none 0 0),.val (.bool false)],.val (.bool false)]
  | some l=>∃ A,v=.tup [.agg [.val (.slice A l.length l.length),.val (.bool true)],.val (.bool true)]∧PtsM G' A l
set_option maxHeartbeats 16000000 in
theorem z1y {s:Sty} {u v t:Int × Int} (hs:StyOk s) (hu:okP u) (hv:okP v) (ht:okP t) (huv:¬ u=v) (hvt:¬ v=t) :
    q47 Try.prog 37 [pA u,pA v,pA t,styA s] G (x10 (q3b s u v t)):=by
  have g1:=fun G=>q27 (G:=G) hs.w huv hu hv
  have g2:=fun G=>q27 (G:=G) hs.w hvt hv ht
  obtain ⟨_,⟨n1,n2⟩,_⟩:=q2k hs.w huv
  obtain ⟨_,⟨m1,m2⟩,_⟩:=q2k hs.w hvt
  have hl:=hs.lim
  unfold q3b
  generalize nrm s.w u v=n at *
  generalize nrm s.w v t=m at *
  generalize hln s.w u v=en at *
  generalize hln s.w v t=em at *
  unfold okP at hu hv ht
  have e1:=q1g (a:=v.1-u.1) (b:=t.2-v.2) (A:=65534) (B:=65534) (by omega) (by omega)
  have e2:=q1g (a:=v.2-u.2) (b:=t.1-v.1) (A:=65534) (B:=65534) (by omega) (by omega)
  have q1:=q1g (a:=n.1) (b:=n.1) (A:=512) (B:=512) n1 n1
  have q2:=q1g (a:=n.2) (b:=n.2) (A:=512) (B:=512) n2 n2
  have q3:=q1g (a:=n.1) (b:=m.1) (A:=512) (B:=512) n1 m1
  have q4:=q1g (a:=n.2) (b:=m.2) (A:=512) (B:=512) n2 m2
  have l1:=q1g (a:=s.lim) (b:=s.lim) (A:=1024) (B:=1024) (by omega) (by omega)
  have hct:q12 u v t=(v.1-u.1)*(t.2-v.2)-(v.2-u.2)*(t.1-v.1):=rfl
  have hsv:q0h v:=by unfold q0h q0o;omega
  have hsn:q0h n:=by unfold q0h q0o;omega
  have hsm:q0h m:=by unfold q0h q0o;omega
  refine q8o tab_ok Try.func37 (by kernel_rfl) ?_
  unfold z1x
  have h1:=g1 G
  have h2:=g2 G
  clear g1 g2
  have hqd:dotV n n=n.1*n.1+n.2*n.2:=rfl
  have hrd:dotV n m=n.1*m.1+n.2*m.2:=rfl
  have lb:=q1g (a:=s.lim*s.lim) (b:=n.1*n.1+n.2*n.2+(n.1*m.1+n.2*m.2)) (A:=1048576) (B:=1048576) (by omega) (by omega)
  rcases Int.lt_trichotomy (q12 u v t) 0 with hc |hc |hc
  · have hk:(if 0<q12 u v t then (-1:Int) else 1)=1:=by rw [if_neg (by omega)]
    rw [if_neg (show ¬ q12 u v t=0 by omega),hk]
    rw [hct] at hc
    have a1:=fun G=>q06 (G:=G) (p:=v) (q:=n) (k:=1) hsv hsn (by omega)
    have a3:=fun G=>q06 (G:=G) (p:=v) (q:=m) (k:=1) hsv hsm (by omega)
    by_cases hj:s.join=0
    · by_cases hp:0<dotV n n+dotV n m
      · by_cases hle:512*dotV n n≤s.lim*s.lim*(dotV n n+dotV n m)
        · rw [if_pos (show q1a s n m from ⟨hj,hp,hle⟩)]
          have htb:=q7z n1 n2 m1 m2 hp
          have hst:q0h (tipV n m):=by unfold q0h q0o;omega
          have a2:=fun G=>q06 (G:=G) (p:=v) (q:=tipV n m) (k:=1) hsv hst (by omega)
          have t1:=fun G=>q3x (G:=G) (a:=dotV n n*(n.1+m.1)) (b:=dotV n n+dotV n m) (by omega) (by omega)
          have t2:=fun G=>q3x (G:=G) (a:=dotV n n*(n.2+m.2)) (b:=dotV n n+dotV n m) (by omega) (by omega)
          change ∀ G,Gives _ _ _ G (.val (.int .i64 (tipV n m).1)) at t1
          change ∀ G,Gives _ _ _ G (.val (.int .i64 (tipV n m).2)) at t2
          obtain ⟨⟨b1,b2⟩,b3,b4⟩:=htb
          simp only [hqd,hrd] at hp hle t1 t2 b1 b2
          generalize tipV n m=tp at *
          (repeat ((try (conv=>whnf));(first |(with_reducible refine q0j tab_ok (by kernel_rfl) [0,1,2,3,5,6,7,9,10,11] [4,8,12,13,14] [15,16] (by decide +kernel) ?_) |((refine q0l (by rfl) ?_ ?_);(· first |exact Mem.le_refl _ |assumption)) |(with_reducible refine q08 tab_ok 0 false ?_) |(refine stQ ?_) |(with_reducible first |refine q0b (fun vs w=>by kernel_rfl) (by kernel_rfl) (h1) ?_ |refine q0a (fun vs w=>by kernel_rfl) (by kernel_rfl) (h1) ?_ |refine q0b (fun vs w=>by kernel_rfl) (by kernel_rfl) (h2) ?_ |refine q0a (fun vs w=>by kernel_rfl) (by kernel_rfl) (h2) ?_ |refine q0b (fun vs w=>by kernel_rfl) (by kernel_rfl) ((t1 G)) ?_ |refine q0a (fun vs w=>by kernel_rfl) (by kernel_rfl) ((t1 G)) ?_ |refine q0b (fun vs w=>by kernel_rfl) (by kernel_rfl) ((t2 G)) ?_ |refine q0a (fun vs w=>by kernel_rfl) (by kernel_rfl) ((t2 G)) ?_ |refine q0e tab_ok Try.func34 (fun vs w=>by kernel_rfl) (by rfl) ?_ |refine q0b (fun vs w=>by kernel_rfl) (by kernel_rfl) ((a1 G)) ?_ |refine q0a (fun vs w=>by kernel_rfl) (by kernel_rfl) ((a1 G)) ?_ |refine q0b (fun vs w=>by kernel_rfl) (by kernel_rfl) ((a2 G)) ?_ |refine q0a (fun vs w=>by kernel_rfl) (by kernel_rfl) ((a2 G)) ?_ |refine q0b (fun vs w=>by kernel_rfl) (by kernel_rfl) ((a3 G)) ?_ |refine q0a (fun vs w=>by kernel_rfl) (by kernel_rfl) ((a3 G)) ?_))))
          conv=>whnf
          intro b G2 hb hS hG2
          have hle2:G.le G2:=by rw [hG2];exact q2s hb
          (repeat ((try (conv=>whnf));(first |((refine q0l (by rfl) ?_ ?_);(· first |exact Mem.le_refl _ |assumption)) |(with_reducible refine q08 tab_ok 0 false ?_) |(refine stQ ?_) |(with_reducible refine q0e tab_ok Try.func34 (fun vs w=>by kernel_rfl) (by rfl) ?_))))
          exact .inl ⟨rfl,some ⟨b,0,none⟩,rfl,by rw [hG2];exact q21 rfl⟩
        · rw [if_neg (show ¬ q1a s n m from fun h=>hle h.2.2)]
          rw [hqd,hrd] at hp hle
          (repeat ((try (conv=>whnf));(first |(with_reducible refine q0j tab_ok (by kernel_rfl) [0,1,2,3,5,6,7] [4,8,9,10] [11,12] (by decide +kernel) ?_) |((refine q0l (by rfl) ?_ ?_);(· first |exact Mem.le_refl _ |assumption)) |(with_reducible refine q08 tab_ok 0 false ?_) |(refine stQ ?_) |(with_reducible first |refine q0b (fun vs w=>by kernel_rfl) (by kernel_rfl) (h1) ?_ |refine q0a (fun vs w=>by kernel_rfl) (by kernel_rfl) (h1) ?_ |refine q0b (fun vs w=>by kernel_rfl) (by kernel_rfl) (h2) ?_ |refine q0a (fun vs w=>by kernel_rfl) (by kernel_rfl) (h2) ?_ |refine q0e tab_ok Try.func34 (fun vs w=>by kernel_rfl) (by rfl) ?_ |refine q0b (fun vs w=>by kernel_rfl) (by kernel_rfl) ((a1 G)) ?_ |refine q0a (fun vs w=>by kernel_rfl) (by kernel_rfl) ((a1 G)) ?_ |refine q0b (fun vs w=>by kernel_rfl) (by kernel_rfl) ((a3 G)) ?_ |refine q0a (fun vs w=>by kernel_rfl) (by kernel_rfl) ((a3 G)) ?_))))
          conv=>whnf
          intro b G2 hb hS hG2
          have hle2:G.le G2:=by rw [hG2];exact q2s hb
          (repeat ((try (conv=>whnf));(first |((refine q0l (by rfl) ?_ ?_);(· first |exact Mem.le_refl _ |assumption)) |(with_reducible refine q08 tab_ok 0 false ?_) |(refine stQ ?_) |(with_reducible refine q0e tab_ok Try.func34 (fun vs w=>by kernel_rfl) (by rfl) ?_))))
          exact .inl ⟨rfl,some ⟨b,0,none⟩,rfl,by rw [hG2];exact q21 rfl⟩
      · rw [if_neg (show ¬ q1a s n m from fun h=>hp h.2.1)]
        rw [hqd,hrd] at hp
        (repeat ((try (conv=>whnf));(first |(with_reducible refine q0j tab_ok (by kernel_rfl) [0,1,2,3,5,6,7] [4,8,9,10] [11,12] (by decide +kernel) ?_) |((refine q0l (by rfl) ?_ ?_);(· first |exact Mem.le_refl _ |assumption)) |(with_reducible refine q08 tab_ok 0 false ?_) |(refine stQ ?_) |(with_reducible first |refine q0b (fun vs w=>by kernel_rfl) (by kernel_rfl) (h1) ?_ |refine q0a (fun vs w=>by kernel_rfl) (by kernel_rfl) (h1) ?_ |refine q0b (fun vs w=>by kernel_rfl) (by kernel_rfl) (h2) ?_ |refine q0a (fun vs w=>by kernel_rfl) (by kernel_rfl) (h2) ?_ |refine q0e tab_ok Try.func34 (fun vs w=>by kernel_rfl) (by rfl) ?_ |refine q0b (fun vs w=>by kernel_rfl) (by kernel_rfl) ((a1 G)) ?_ |refine q0a (fun vs w=>by kernel_rfl) (by kernel_rfl) ((a1 G)) ?_ |refine q0b (fun vs w=>by kernel_rfl) (by kernel_rfl) ((a3 G)) ?_ |refine q0a (fun vs w=>by kernel_rfl) (by kernel_rfl) ((a3 G)) ?_))))
        conv=>whnf
        intro b G2 hb hS hG2
        have hle2:G.le G2:=by rw [hG2];exact q2s hb
        (repeat ((try (conv=>whnf));(first |((refine q0l (by rfl) ?_ ?_);(· first |exact Mem.le_refl _ |assumption)) |(with_reducible refine q08 tab_ok 0 false ?_) |(refine stQ ?_) |(with_reducible refine q0e tab_ok Try.func34 (fun vs w=>by kernel_rfl) (by rfl) ?_))))
        exact .inl ⟨rfl,some ⟨b,0,none⟩,rfl,by rw [hG2];exact q21 rfl⟩
    · rw [if_neg (show ¬ q1a s n m from fun h=>hj h.1)]
      (repeat ((try (conv=>whnf));(first |(with_reducible refine q0j tab_ok (by kernel_rfl) [0,1,2,3,5,6,7] [4,8,9,10] [11,12] (by decide +kernel) ?_) |((refine q0l (by rfl) ?_ ?_);(· first |exact Mem.le_refl _ |assumption)) |(with_reducible refine q08 tab_ok 0 false ?_) |(refine stQ ?_) |(with_reducible first |refine q0b (fun vs w=>by kernel_rfl) (by kernel_rfl) (h1) ?_ |refine q0a (fun vs w=>by kernel_rfl) (by kernel_rfl) (h1) ?_ |refine q0b (fun vs w=>by kernel_rfl) (by kernel_rfl) (h2) ?_ |refine q0a (fun vs w=>by kernel_rfl) (by kernel_rfl) (h2) ?_ |refine q0e tab_ok Try.func34 (fun vs w=>by kernel_rfl) (by rfl) ?_ |refine q0b (fun vs w=>by kernel_rfl) (by kernel_rfl) ((a1 G)) ?_ |refine q0a (fun vs w=>by kernel_rfl) (by kernel_rfl) ((a1 G)) ?_ |refine q0b (fun vs w=>by kernel_rfl) (by kernel_rfl) ((a3 G)) ?_ |refine q0a (fun vs w=>by kernel_rfl) (by kernel_rfl) ((a3 G)) ?_))))
      conv=>whnf
      intro b G2 hb hS hG2
      have hle2:G.le G2:=by rw [hG2];exact q2s hb
      (repeat ((try (conv=>whnf));(first |((refine q0l (by rfl) ?_ ?_);(· first |exact Mem.le_refl _ |assumption)) |(with_reducible refine q08 tab_ok 0 false ?_) |(refine stQ ?_) |(with_reducible refine q0e tab_ok Try.func34 (fun vs w=>by kernel_rfl) (by rfl) ?_))))
      exact .inl ⟨rfl,some ⟨b,0,none⟩,rfl,by rw [hG2];exact q21 rfl⟩
  · rw [if_pos hc]
    rw [hct] at hc
    (repeat ((try (conv=>whnf));(first |(refine stQ ?_) |(with_reducible first |refine q0b (fun vs w=>by kernel_rfl) (by kernel_rfl) (h1) ?_ |refine q0a (fun vs w=>by kernel_rfl) (by kernel_rfl) (h1) ?_ |refine q0b (fun vs w=>by kernel_rfl) (by kernel_rfl) (h2) ?_ |refine q0a (fun vs w=>by kernel_rfl) (by kernel_rfl) (h2) ?_))))
    exact .inl ⟨rfl,rfl⟩
  · have hk:(if 0<q12 u v t then (-1:Int) else 1)=-1:=by rw [if_pos hc]
    rw [if_neg (show ¬ q12 u v t=0 by omega),hk]
    rw [hct] at hc
    have a1:=fun G=>q06 (G:=G) (p:=v) (q:=n) (k:=-1) hsv hsn (by omega)
    have a3:=fun G=>q06 (G:=G) (p:=v) (q:=m) (k:=-1) hsv hsm (by omega)
    by_cases hj:s.join=0
    · by_cases hp:0<dotV n n+dotV n m
      · by_cases hle:512*dotV n n≤s.lim*s.lim*(dotV n n+dotV n m)
        · rw [if_pos (show q1a s n m from ⟨hj,hp,hle⟩)]
          have htb:=q7z n1 n2 m1 m2 hp
          have hst:q0h (tipV n m):=by unfold q0h q0o;omega
          have a2:=fun G=>q06 (G:=G) (p:=v) (q:=tipV n m) (k:=-1) hsv hst (by omega)
          have t1:=fun G=>q3x (G:=G) (a:=dotV n n*(n.1+m.1)) (b:=dotV n n+dotV n m) (by omega) (by omega)
          have t2:=fun G=>q3x (G:=G) (a:=dotV n n*(n.2+m.2)) (b:=dotV n n+dotV n m) (by omega) (by omega)
          change ∀ G,Gives _ _ _ G (.val (.int .i64 (tipV n m).1)) at t1
          change ∀ G,Gives _ _ _ G (.val (.int .i64 (tipV n m).2)) at t2
          obtain ⟨⟨b1,b2⟩,b3,b4⟩:=htb
          simp only [hqd,hrd] at hp hle t1 t2 b1 b2
          generalize tipV n m=tp at *
          (repeat ((try (conv=>whnf));(first |(with_reducible refine q0j tab_ok (by kernel_rfl) [0,1,2,3,5,6,7,9,10,11] [4,8,12,13,14] [15,16] (by decide +kernel) ?_) |((refine q0l (by rfl) ?_ ?_);(· first |exact Mem.le_refl _ |assumption)) |(with_reducible refine q08 tab_ok 0 false ?_) |(refine stQ ?_) |(with_reducible first |refine q0b (fun vs w=>by kernel_rfl) (by kernel_rfl) (h1) ?_ |refine q0a (fun vs w=>by kernel_rfl) (by kernel_rfl) (h1) ?_ |refine q0b (fun vs w=>by kernel_rfl) (by kernel_rfl) (h2) ?_ |refine q0a (fun vs w=>by kernel_rfl) (by kernel_rfl) (h2) ?_ |refine q0b (fun vs w=>by kernel_rfl) (by kernel_rfl) ((t1 G)) ?_ |refine q0a (fun vs w=>by kernel_rfl) (by kernel_rfl) ((t1 G)) ?_ |refine q0b (fun vs w=>by kernel_rfl) (by kernel_rfl) ((t2 G)) ?_ |refine q0a (fun vs w=>by kernel_rfl) (by kernel_rfl) ((t2 G)) ?_ |refine q0e tab_ok Try.func34 (fun vs w=>by kernel_rfl) (by rfl) ?_ |refine q0b (fun vs w=>by kernel_rfl) (by kernel_rfl) ((a1 G)) ?_ |refine q0a (fun vs w=>by kernel_rfl) (by kernel_rfl) ((a1 G)) ?_ |refine q0b (fun vs w=>by kernel_rfl) (by kernel_rfl) ((a2 G)) ?_ |refine q0a (fun vs w=>by kernel_rfl) (by kernel_rfl) ((a2 G)) ?_ |refine q0b (fun vs w=>by kernel_rfl) (by kernel_rfl) ((a3 G)) ?_ |refine q0a (fun vs w=>by kernel_rfl) (by kernel_rfl) ((a3 G)) ?_))))
          conv=>whnf
          intro b G2 hb hS hG2
          have hle2:G.le G2:=by rw [hG2];exact q2s hb
          (repeat ((try (conv=>whnf));(first |((refine q0l (by rfl) ?_ ?_);(· first |exact Mem.le_refl _ |assumption)) |(with_reducible refine q08 tab_ok 0 false ?_) |(refine stQ ?_) |(with_reducible refine q0e tab_ok Try.func34 (fun vs w=>by kernel_rfl) (by rfl) ?_))))
          exact .inl ⟨rfl,some ⟨b,0,none⟩,rfl,by rw [hG2];exact q21 rfl⟩
        · rw [if_neg (show ¬ q1a s n m from fun h=>hle h.2.2)]
          rw [hqd,hrd] at hp hle
          (repeat ((try (conv=>whnf));(first |(with_reducible refine q0j tab_ok (by kernel_rfl) [0,1,2,3,5,6,7] [4,8,9,10] [11,12] (by decide +kernel) ?_) |((refine q0l (by rfl) ?_ ?_);(· first |exact Mem.le_refl _ |assumption)) |(with_reducible refine q08 tab_ok 0 false ?_) |(refine stQ ?_) |(with_reducible first |refine q0b (fun vs w=>by kernel_rfl) (by kernel_rfl) (h1) ?_ |refine q0a (fun vs w=>by kernel_rfl) (by kernel_rfl) (h1) ?_ |refine q0b (fun vs w=>by kernel_rfl) (by kernel_rfl) (h2) ?_ |refine q0a (fun vs w=>by kernel_rfl) (by kernel_rfl) (h2) ?_ |refine q0e tab_ok Try.func34 (fun vs w=>by kernel_rfl) (by rfl) ?_ |refine q0b (fun vs w=>by kernel_rfl) (by kernel_rfl) ((a1 G)) ?_ |refine q0a (fun vs w=>by kernel_rfl) (by kernel_rfl) ((a1 G)) ?_ |refine q0b (fun vs w=>by kernel_rfl) (by kernel_rfl) ((a3 G)) ?_ |refine q0a (fun vs w=>by kernel_rfl) (by kernel_rfl) ((a3 G)) ?_))))
          conv=>whnf
          intro b G2 hb hS hG2
          have hle2:G.le G2:=by rw [hG2];exact q2s hb
          (repeat ((try (conv=>whnf));(first |((refine q0l (by rfl) ?_ ?_);(· first |exact Mem.le_refl _ |assumption)) |(with_reducible refine q08 tab_ok 0 false ?_) |(refine stQ ?_) |(with_reducible refine q0e tab_ok Try.func34 (fun vs w=>by kernel_rfl) (by rfl) ?_))))
          exact .inl ⟨rfl,some ⟨b,0,none⟩,rfl,by rw [hG2];exact q21 rfl⟩
      · rw [if_neg (show ¬ q1a s n m from fun h=>hp h.2.1)]
        rw [hqd,hrd] at hp
        (repeat ((try (conv=>whnf));(first |(with_reducible refine q0j tab_ok (by kernel_rfl) [0,1,2,3,5,6,7] [4,8,9,10] [11,12] (by decide +kernel) ?_) |((refine q0l (by rfl) ?_ ?_);(· first |exact Mem.le_refl _ |assumption)) |(with_reducible refine q08 tab_ok 0 false ?_) |(refine stQ ?_) |(with_reducible first |refine q0b (fun vs w=>by kernel_rfl) (by kernel_rfl) (h1) ?_ |refine q0a (fun vs w=>by kernel_rfl) (by kernel_rfl) (h1) ?_ |refine q0b (fun vs w=>by kernel_rfl) (by kernel_rfl) (h2) ?_ |refine q0a (fun vs w=>by kernel_rfl) (by kernel_rfl) (h2) ?_ |refine q0e tab_ok Try.func34 (fun vs w=>by kernel_rfl) (by rfl) ?_ |refine q0b (fun vs w=>by kernel_rfl) (by kernel_rfl) ((a1 G)) ?_ |refine q0a (fun vs w=>by kernel_rfl) (by kernel_rfl) ((a1 G)) ?_ |refine q0b (fun vs w=>by kernel_rfl) (by kernel_rfl) ((a3 G)) ?_ |refine q0a (fun vs w=>by kernel_rfl) (by kernel_rfl) ((a3 G)) ?_))))
        conv=>whnf
        intro b G2 hb hS hG2
        have hle2:G.le G2:=by rw [hG2];exact q2s hb
        (repeat ((try (conv=>whnf));(first |((refine q0l (by rfl) ?_ ?_);(· first |exact Mem.le_refl _ |assumption)) |(with_reducible refine q08 tab_ok 0 false ?_) |(refine stQ ?_) |(with_reducible refine q0e tab_ok Try.func34 (fun vs w=>by kernel_rfl) (by rfl) ?_))))
        exact .inl ⟨rfl,some ⟨b,0,none⟩,rfl,by rw [hG2];exact q21 rfl⟩
    · rw [if_neg (show ¬ q1a s n m from fun h=>hj h.1)]
      (repeat ((try (conv=>whnf));(first |(with_reducible refine q0j tab_ok (by kernel_rfl) [0,1,2,3,5,6,7] [4,8,9,10] [11,12] (by decide +kernel) ?_) |((refine q0l (by rfl) ?_ ?_);(· first |exact Mem.le_refl _ |assumption)) |(with_reducible refine q08 tab_ok 0 false ?_) |(refine stQ ?_) |(with_reducible first |refine q0b (fun vs w=>by kernel_rfl) (by kernel_rfl) (h1) ?_ |refine q0a (fun vs w=>by kernel_rfl) (by kernel_rfl) (h1) ?_ |refine q0b (fun vs w=>by kernel_rfl) (by kernel_rfl) (h2) ?_ |refine q0a (fun vs w=>by kernel_rfl) (by kernel_rfl) (h2) ?_ |refine q0e tab_ok Try.func34 (fun vs w=>by kernel_rfl) (by rfl) ?_ |refine q0b (fun vs w=>by kernel_rfl) (by kernel_rfl) ((a1 G)) ?_ |refine q0a (fun vs w=>by kernel_rfl) (by kernel_rfl) ((a1 G)) ?_ |refine q0b (fun vs w=>by kernel_rfl) (by kernel_rfl) ((a3 G)) ?_ |refine q0a (fun vs w=>by kernel_rfl) (by kernel_rfl) ((a3 G)) ?_))))
      conv=>whnf
      intro b G2 hb hS hG2
      have hle2:G.le G2:=by rw [hG2];exact q2s hb
      (repeat ((try (conv=>whnf));(first |((refine q0l (by rfl) ?_ ?_);(· first |exact Mem.le_refl _ |assumption)) |(with_reducible refine q08 tab_ok 0 false ?_) |(refine stQ ?_) |(with_reducible refine q0e tab_ok Try.func34 (fun vs w=>by kernel_rfl) (by rfl) ?_))))
      exact .inl ⟨rfl,some ⟨b,0,none⟩,rfl,by rw [hG2];exact q21 rfl⟩
end
end Go.Proofs.Ytegpkpilfgohhaa
