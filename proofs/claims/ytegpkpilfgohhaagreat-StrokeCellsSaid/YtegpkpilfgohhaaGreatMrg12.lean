/-
  Merged: XBend, XFm, XStand, XVw.
-/
import Derived.Test.YtegpkpilfgohhaaGreatMrg10
import Derived.Test.YtegpkpilfgohhaaGreatMrg11
import Derived.Test.YtegpkpilfgohhaaGreatGb
import Derived.Test.YtegpkpilfgohhaaGreatChain
import Derived.Test.YtegpkpilfgohhaaGreatMrg7
import Derived.Test.YtegpkpilfgohhaaGreatMrg8
set_option linter.unusedVariables false
set_option linter.unusedSimpArgs false
set_option linter.unnecessarySimpa false
namespace Go.Proofs.YtegpkpilfgohhaaGreat
open Go.RowKit
set_option maxRecDepth 20000
abbrev styA (s:Sty):AV:=.agg [.val (.int .i64 s.w),.val (.int .i64 s.cap),.val (.int .i64 s.join),.val (.int .i64 s.lim)]
abbrev pA (p:Int × Int):AV:=ptA p.1 p.2
def q0l (p:Int × Int):Prop:=q0u p.1∧q0u p.2
section
variable {G:Mem}
set_option maxHeartbeats 2000000 in
theorem q1k {p q:Int × Int} {k:Int} (hp:q0l p) (hq:q0l q) (hk:k=1∨k=-1):Gives Tryz.prog 30 [pA p,pA q,.val (.int .i64 k)] G (pA (mvP p q k)):=by
  unfold q0l q0u at *
  refine q06 tab_ok Tryz.func30 ?_
  unfold mvP
  rcases hk with rfl |rfl
  · (repeat ((try (conv=>whnf));(refine stQ ?_)))
    exact ⟨rfl,rfl⟩
  · (repeat ((try (conv=>whnf));(refine stQ ?_)))
    exact ⟨rfl,rfl⟩
theorem z68 {G:Mem} {b:Nat} {vs:Array Value} {e:TypeId} {j:Nat} {v:Value} (h:vs.toList[j]? = some v):(G.put b (.cells vs e (0,0))).cell? ⟨b,j,none⟩=some v:=by
  unfold Mem.cell?
  rw [Mem.put_same]
  simpa using h
theorem q3n {G:Mem} {b:Nat} {o:Obj} (hb:G b=none):G.le (G.put b o):=fun c o' hc=>by
  rw [Mem.put_ne _ _ (fun e=>by rw [e,hb] at hc;cases hc)];exact hc
theorem q3x {G:Mem} {b:Nat} {e:TypeId} {l:List (Int × Int)} {vs:Array Value} (h:vs.toList=q0s l):PtsM (G.put b (.cells vs e (0,0))) (some ⟨b,0,none⟩) l:=fun i r hr=>by
  obtain ⟨h1,h2⟩:=z2r hr
  exact ⟨b,0,rfl,by rw [Nat.zero_add];exact z68 (by rw [h];exact h1),by rw [Nat.zero_add];exact z68 (by rw [h];exact h2)⟩
def x96 (o:Option (List (Int × Int))) (v:AV) (G':Mem):Prop:=match o with
  | none=>v=.tup [.agg [.val (.slice none 0 0),.val (.bool false)],.val (.bool false)]
  | some l=>∃ A,v=.tup [.agg [.val (.slice A l.length l.length),.val (.bool true)],.val (.bool true)]∧PtsM G' A l
set_option maxHeartbeats 16000000 in
theorem z53 {s:Sty} {u v t:Int × Int} (hs:StyOk s) (hu:okP u) (hv:okP v) (ht:okP t) (huv:¬ u=v) (hvt:¬ v=t) :
    q4y Tryz.prog 31 [pA u,pA v,pA t,styA s] G (x96 (q4a s u v t)):=by
  have g1:=fun G=>q34 (G:=G) hs.w huv hu hv
  have g2:=fun G=>q34 (G:=G) hs.w hvt hv ht
  obtain ⟨_,⟨n1,n2⟩,_⟩:=q3b hs.w huv
  obtain ⟨_,⟨m1,m2⟩,_⟩:=q3b hs.w hvt
  have hl:=hs.lim
  unfold q4a
  generalize nrm s.w u v=n at *
  generalize nrm s.w v t=m at *
  generalize hln s.w u v=en at *
  generalize hln s.w v t=em at *
  unfold okP at hu hv ht
  have e1:=q04 (a:=v.1-u.1) (b:=t.2-v.2) (A:=65534) (B:=65534) (by omega) (by omega)
  have e2:=q04 (a:=v.2-u.2) (b:=t.1-v.1) (A:=65534) (B:=65534) (by omega) (by omega)
  have q1:=q04 (a:=n.1) (b:=n.1) (A:=512) (B:=512) n1 n1
  have q2:=q04 (a:=n.2) (b:=n.2) (A:=512) (B:=512) n2 n2
  have q3:=q04 (a:=n.1) (b:=m.1) (A:=512) (B:=512) n1 m1
  have q4:=q04 (a:=n.2) (b:=m.2) (A:=512) (B:=512) n2 m2
  have l1:=q04 (a:=s.lim) (b:=s.lim) (A:=1024) (B:=1024) (by omega) (by omega)
  have hct:q2l u v t=(v.1-u.1)*(t.2-v.2)-(v.2-u.2)*(t.1-v.1):=rfl
  have hsv:q0l v:=by unfold q0l q0u;omega
  have hsn:q0l n:=by unfold q0l q0u;omega
  have hsm:q0l m:=by unfold q0l q0u;omega
  refine z1o tab_ok Tryz.func31 (by kernel_rfl) ?_
  unfold z52
  have h1:=g1 G
  have h2:=g2 G
  clear g1 g2
  have hqd:dotV n n=n.1*n.1+n.2*n.2:=rfl
  have hrd:dotV n m=n.1*m.1+n.2*m.2:=rfl
  have lb:=q04 (a:=s.lim*s.lim) (b:=n.1*n.1+n.2*n.2+(n.1*m.1+n.2*m.2)) (A:=1048576) (B:=1048576) (by omega) (by omega)
  rcases Int.lt_trichotomy (q2l u v t) 0 with hc |hc |hc
  · have hk:(if 0<q2l u v t then (-1:Int) else 1)=1:=by rw [if_neg (by omega)]
    rw [if_neg (show ¬ q2l u v t=0 by omega),hk]
    rw [hct] at hc
    have a1:=fun G=>q1k (G:=G) (p:=v) (q:=n) (k:=1) hsv hsn (by omega)
    have a3:=fun G=>q1k (G:=G) (p:=v) (q:=m) (k:=1) hsv hsm (by omega)
    by_cases hj:s.join=0
    · by_cases hp:0<dotV n n+dotV n m
      · by_cases hle:512*dotV n n≤s.lim*s.lim*(dotV n n+dotV n m)
        · rw [if_pos (show q1p s n m from ⟨hj,hp,hle⟩)]
          have htb:=z0w n1 n2 m1 m2 hp
          have hst:q0l (tipV n m):=by unfold q0l q0u;omega
          have a2:=fun G=>q1k (G:=G) (p:=v) (q:=tipV n m) (k:=1) hsv hst (by omega)
          have t1:=fun G=>q47 (G:=G) (a:=dotV n n*(n.1+m.1)) (b:=dotV n n+dotV n m) (by omega) (by omega)
          have t2:=fun G=>q47 (G:=G) (a:=dotV n n*(n.2+m.2)) (b:=dotV n n+dotV n m) (by omega) (by omega)
          change ∀ G,Gives _ _ _ G (.val (.int .i64 (tipV n m).1)) at t1
          change ∀ G,Gives _ _ _ G (.val (.int .i64 (tipV n m).2)) at t2
          obtain ⟨⟨b1,b2⟩,b3,b4⟩:=htb
          simp only [hqd,hrd] at hp hle t1 t2 b1 b2
          generalize tipV n m=tp at *
          (repeat ((try (conv=>whnf));(first |(with_reducible refine q0o tab_ok (by kernel_rfl) [0,1,2,3,5,6,7,9,10,11] [4,8,12,13,14] [15,16] (by decide +kernel) ?_) |((refine q0n (by rfl) ?_ ?_);(· first |exact Mem.le_refl _ |assumption)) |(with_reducible refine q1l tab_ok 0 false ?_) |(refine stQ ?_) |(with_reducible first |refine q0b (fun vs w=>by kernel_rfl) (by kernel_rfl) (h1) ?_ |refine q0a (fun vs w=>by kernel_rfl) (by kernel_rfl) (h1) ?_ |refine q0b (fun vs w=>by kernel_rfl) (by kernel_rfl) (h2) ?_ |refine q0a (fun vs w=>by kernel_rfl) (by kernel_rfl) (h2) ?_ |refine q0b (fun vs w=>by kernel_rfl) (by kernel_rfl) ((t1 G)) ?_ |refine q0a (fun vs w=>by kernel_rfl) (by kernel_rfl) ((t1 G)) ?_ |refine q0b (fun vs w=>by kernel_rfl) (by kernel_rfl) ((t2 G)) ?_ |refine q0a (fun vs w=>by kernel_rfl) (by kernel_rfl) ((t2 G)) ?_ |refine q0f tab_ok Tryz.func28 (fun vs w=>by kernel_rfl) (by rfl) ?_ |refine q0b (fun vs w=>by kernel_rfl) (by kernel_rfl) ((a1 G)) ?_ |refine q0a (fun vs w=>by kernel_rfl) (by kernel_rfl) ((a1 G)) ?_ |refine q0b (fun vs w=>by kernel_rfl) (by kernel_rfl) ((a2 G)) ?_ |refine q0a (fun vs w=>by kernel_rfl) (by kernel_rfl) ((a2 G)) ?_ |refine q0b (fun vs w=>by kernel_rfl) (by kernel_rfl) ((a3 G)) ?_ |refine q0a (fun vs w=>by kernel_rfl) (by kernel_rfl) ((a3 G)) ?_))))
          conv=>whnf
          intro b G2 hb hS hG2
          have hle2:G.le G2:=by rw [hG2];exact q3n hb
          (repeat ((try (conv=>whnf));(first |((refine q0n (by rfl) ?_ ?_);(· first |exact Mem.le_refl _ |assumption)) |(with_reducible refine q1l tab_ok 0 false ?_) |(refine stQ ?_) |(with_reducible refine q0f tab_ok Tryz.func28 (fun vs w=>by kernel_rfl) (by rfl) ?_))))
          exact .inl ⟨rfl,some ⟨b,0,none⟩,rfl,by rw [hG2];exact q3x rfl⟩
        · rw [if_neg (show ¬ q1p s n m from fun h=>hle h.2.2)]
          rw [hqd,hrd] at hp hle
          (repeat ((try (conv=>whnf));(first |(with_reducible refine q0o tab_ok (by kernel_rfl) [0,1,2,3,5,6,7] [4,8,9,10] [11,12] (by decide +kernel) ?_) |((refine q0n (by rfl) ?_ ?_);(· first |exact Mem.le_refl _ |assumption)) |(with_reducible refine q1l tab_ok 0 false ?_) |(refine stQ ?_) |(with_reducible first |refine q0b (fun vs w=>by kernel_rfl) (by kernel_rfl) (h1) ?_ |refine q0a (fun vs w=>by kernel_rfl) (by kernel_rfl) (h1) ?_ |refine q0b (fun vs w=>by kernel_rfl) (by kernel_rfl) (h2) ?_ |refine q0a (fun vs w=>by kernel_rfl) (by kernel_rfl) (h2) ?_ |refine q0f tab_ok Tryz.func28 (fun vs w=>by kernel_rfl) (by rfl) ?_ |refine q0b (fun vs w=>by kernel_rfl) (by kernel_rfl) ((a1 G)) ?_ |refine q0a (fun vs w=>by kernel_rfl) (by kernel_rfl) ((a1 G)) ?_ |refine q0b (fun vs w=>by kernel_rfl) (by kernel_rfl) ((a3 G)) ?_ |refine q0a (fun vs w=>by kernel_rfl) (by kernel_rfl) ((a3 G)) ?_))))
          conv=>whnf
          intro b G2 hb hS hG2
          have hle2:G.le G2:=by rw [hG2];exact q3n hb
          (repeat ((try (conv=>whnf));(first |((refine q0n (by rfl) ?_ ?_);(· first |exact Mem.le_refl _ |assumption)) |(with_reducible refine q1l tab_ok 0 false ?_) |(refine stQ ?_) |(with_reducible refine q0f tab_ok Tryz.func28 (fun vs w=>by kernel_rfl) (by rfl) ?_))))
          exact .inl ⟨rfl,some ⟨b,0,none⟩,rfl,by rw [hG2];exact q3x rfl⟩
      · rw [if_neg (show ¬ q1p s n m from fun h=>hp h.2.1)]
        rw [hqd,hrd] at hp
        (repeat ((try (conv=>whnf));(first |(with_reducible refine q0o tab_ok (by kernel_rfl) [0,1,2,3,5,6,7] [4,8,9,10] [11,12] (by decide +kernel) ?_) |((refine q0n (by rfl) ?_ ?_);(· first |exact Mem.le_refl _ |assumption)) |(with_reducible refine q1l tab_ok 0 false ?_) |(refine stQ ?_) |(with_reducible first |refine q0b (fun vs w=>by kernel_rfl) (by kernel_rfl) (h1) ?_ |refine q0a (fun vs w=>by kernel_rfl) (by kernel_rfl) (h1) ?_ |refine q0b (fun vs w=>by kernel_rfl) (by kernel_rfl) (h2) ?_ |refine q0a (fun vs w=>by kernel_rfl) (by kernel_rfl) (h2) ?_ |refine q0f tab_ok Tryz.func28 (fun vs w=>by kernel_rfl) (by rfl) ?_ |refine q0b (fun vs w=>by kernel_rfl) (by kernel_rfl) ((a1 G)) ?_ |refine q0a (fun vs w=>by kernel_rfl) (by kernel_rfl) ((a1 G)) ?_ |refine q0b (fun vs w=>by kernel_rfl) (by kernel_rfl) ((a3 G)) ?_ |refine q0a (fun vs w=>by kernel_rfl) (by kernel_rfl) ((a3 G)) ?_))))
        conv=>whnf
        intro b G2 hb hS hG2
        have hle2:G.le G2:=by rw [hG2];exact q3n hb
        (repeat ((try (conv=>whnf));(first |((refine q0n (by rfl) ?_ ?_);(· first |exact Mem.le_refl _ |assumption)) |(with_reducible refine q1l tab_ok 0 false ?_) |(refine stQ ?_) |(with_reducible refine q0f tab_ok Tryz.func28 (fun vs w=>by kernel_rfl) (by rfl) ?_))))
        exact .inl ⟨rfl,some ⟨b,0,none⟩,rfl,by rw [hG2];exact q3x rfl⟩
    · rw [if_neg (show ¬ q1p s n m from fun h=>hj h.1)]
      (repeat ((try (conv=>whnf));(first |(with_reducible refine q0o tab_ok (by kernel_rfl) [0,1,2,3,5,6,7] [4,8,9,10] [11,12] (by decide +kernel) ?_) |((refine q0n (by rfl) ?_ ?_);(· first |exact Mem.le_refl _ |assumption)) |(with_reducible refine q1l tab_ok 0 false ?_) |(refine stQ ?_) |(with_reducible first |refine q0b (fun vs w=>by kernel_rfl) (by kernel_rfl) (h1) ?_ |refine q0a (fun vs w=>by kernel_rfl) (by kernel_rfl) (h1) ?_ |refine q0b (fun vs w=>by kernel_rfl) (by kernel_rfl) (h2) ?_ |refine q0a (fun vs w=>by kernel_rfl) (by kernel_rfl) (h2) ?_ |refine q0f tab_ok Tryz.func28 (fun vs w=>by kernel_rfl) (by rfl) ?_ |refine q0b (fun vs w=>by kernel_rfl) (by kernel_rfl) ((a1 G)) ?_ |refine q0a (fun vs w=>by kernel_rfl) (by kernel_rfl) ((a1 G)) ?_ |refine q0b (fun vs w=>by kernel_rfl) (by kernel_rfl) ((a3 G)) ?_ |refine q0a (fun vs w=>by kernel_rfl) (by kernel_rfl) ((a3 G)) ?_))))
      conv=>whnf
      intro b G2 hb hS hG2
      have hle2:G.le G2:=by rw [hG2];exact q3n hb
      (repeat ((try (conv=>whnf));(first |((refine q0n (by rfl) ?_ ?_);(· first |exact Mem.le_refl _ |assumption)) |(with_reducible refine q1l tab_ok 0 false ?_) |(refine stQ ?_) |(with_reducible refine q0f tab_ok Tryz.func28 (fun vs w=>by kernel_rfl) (by rfl) ?_))))
      exact .inl ⟨rfl,some ⟨b,0,none⟩,rfl,by rw [hG2];exact q3x rfl⟩
  · rw [if_pos hc]
    rw [hct] at hc
    (repeat ((try (conv=>whnf));(first |(refine stQ ?_) |(with_reducible first |refine q0b (fun vs w=>by kernel_rfl) (by kernel_rfl) (h1) ?_ |refine q0a (fun vs w=>by kernel_rfl) (by kernel_rfl) (h1) ?_ |refine q0b (fun vs w=>by kernel_rfl) (by kernel_rfl) (h2) ?_ |refine q0a (fun vs w=>by kernel_rfl) (by kernel_rfl) (h2) ?_))))
    exact .inl ⟨rfl,rfl⟩
  · have hk:(if 0<q2l u v t then (-1:Int) else 1)=-1:=by rw [if_pos hc]
    rw [if_neg (show ¬ q2l u v t=0 by omega),hk]
    rw [hct] at hc
    have a1:=fun G=>q1k (G:=G) (p:=v) (q:=n) (k:=-1) hsv hsn (by omega)
    have a3:=fun G=>q1k (G:=G) (p:=v) (q:=m) (k:=-1) hsv hsm (by omega)
    by_cases hj:s.join=0
    · by_cases hp:0<dotV n n+dotV n m
      · by_cases hle:512*dotV n n≤s.lim*s.lim*(dotV n n+dotV n m)
        · rw [if_pos (show q1p s n m from ⟨hj,hp,hle⟩)]
          have htb:=z0w n1 n2 m1 m2 hp
          have hst:q0l (tipV n m):=by unfold q0l q0u;omega
          have a2:=fun G=>q1k (G:=G) (p:=v) (q:=tipV n m) (k:=-1) hsv hst (by omega)
          have t1:=fun G=>q47 (G:=G) (a:=dotV n n*(n.1+m.1)) (b:=dotV n n+dotV n m) (by omega) (by omega)
          have t2:=fun G=>q47 (G:=G) (a:=dotV n n*(n.2+m.2)) (b:=dotV n n+dotV n m) (by omega) (by omega)
          change ∀ G,Gives _ _ _ G (.val (.int .i64 (tipV n m).1)) at t1
          change ∀ G,Gives _ _ _ G (.val (.int .i64 (tipV n m).2)) at t2
          obtain ⟨⟨b1,b2⟩,b3,b4⟩:=htb
          simp only [hqd,hrd] at hp hle t1 t2 b1 b2
          generalize tipV n m=tp at *
          (repeat ((try (conv=>whnf));(first |(with_reducible refine q0o tab_ok (by kernel_rfl) [0,1,2,3,5,6,7,9,10,11] [4,8,12,13,14] [15,16] (by decide +kernel) ?_) |((refine q0n (by rfl) ?_ ?_);(· first |exact Mem.le_refl _ |assumption)) |(with_reducible refine q1l tab_ok 0 false ?_) |(refine stQ ?_) |(with_reducible first |refine q0b (fun vs w=>by kernel_rfl) (by kernel_rfl) (h1) ?_ |refine q0a (fun vs w=>by kernel_rfl) (by kernel_rfl) (h1) ?_ |refine q0b (fun vs w=>by kernel_rfl) (by kernel_rfl) (h2) ?_ |refine q0a (fun vs w=>by kernel_rfl) (by kernel_rfl) (h2) ?_ |refine q0b (fun vs w=>by kernel_rfl) (by kernel_rfl) ((t1 G)) ?_ |refine q0a (fun vs w=>by kernel_rfl) (by kernel_rfl) ((t1 G)) ?_ |refine q0b (fun vs w=>by kernel_rfl) (by kernel_rfl) ((t2 G)) ?_ |refine q0a (fun vs w=>by kernel_rfl) (by kernel_rfl) ((t2 G)) ?_ |refine q0f tab_ok Tryz.func28 (fun vs w=>by kernel_rfl) (by rfl) ?_ |refine q0b (fun vs w=>by kernel_rfl) (by kernel_rfl) ((a1 G)) ?_ |refine q0a (fun vs w=>by kernel_rfl) (by kernel_rfl) ((a1 G)) ?_ |refine q0b (fun vs w=>by kernel_rfl) (by kernel_rfl) ((a2 G)) ?_ |refine q0a (fun vs w=>by kernel_rfl) (by kernel_rfl) ((a2 G)) ?_ |refine q0b (fun vs w=>by kernel_rfl) (by kernel_rfl) ((a3 G)) ?_ |refine q0a (fun vs w=>by kernel_rfl) (by kernel_rfl) ((a3 G)) ?_))))
          conv=>whnf
          intro b G2 hb hS hG2
          have hle2:G.le G2:=by rw [hG2];exact q3n hb
          (repeat ((try (conv=>whnf));(first |((refine q0n (by rfl) ?_ ?_);(· first |exact Mem.le_refl _ |assumption)) |(with_reducible refine q1l tab_ok 0 false ?_) |(refine stQ ?_) |(with_reducible refine q0f tab_ok Tryz.func28 (fun vs w=>by kernel_rfl) (by rfl) ?_))))
          exact .inl ⟨rfl,some ⟨b,0,none⟩,rfl,by rw [hG2];exact q3x rfl⟩
        · rw [if_neg (show ¬ q1p s n m from fun h=>hle h.2.2)]
          rw [hqd,hrd] at hp hle
          (repeat ((try (conv=>whnf));(first |(with_reducible refine q0o tab_ok (by kernel_rfl) [0,1,2,3,5,6,7] [4,8,9,10] [11,12] (by decide +kernel) ?_) |((refine q0n (by rfl) ?_ ?_);(· first |exact Mem.le_refl _ |assumption)) |(with_reducible refine q1l tab_ok 0 false ?_) |(refine stQ ?_) |(with_reducible first |refine q0b (fun vs w=>by kernel_rfl) (by kernel_rfl) (h1) ?_ |refine q0a (fun vs w=>by kernel_rfl) (by kernel_rfl) (h1) ?_ |refine q0b (fun vs w=>by kernel_rfl) (by kernel_rfl) (h2) ?_ |refine q0a (fun vs w=>by kernel_rfl) (by kernel_rfl) (h2) ?_ |refine q0f tab_ok Tryz.func28 (fun vs w=>by kernel_rfl) (by rfl) ?_ |refine q0b (fun vs w=>by kernel_rfl) (by kernel_rfl) ((a1 G)) ?_ |refine q0a (fun vs w=>by kernel_rfl) (by kernel_rfl) ((a1 G)) ?_ |refine q0b (fun vs w=>by kernel_rfl) (by kernel_rfl) ((a3 G)) ?_ |refine q0a (fun vs w=>by kernel_rfl) (by kernel_rfl) ((a3 G)) ?_))))
          conv=>whnf
          intro b G2 hb hS hG2
          have hle2:G.le G2:=by rw [hG2];exact q3n hb
          (repeat ((try (conv=>whnf));(first |((refine q0n (by rfl) ?_ ?_);(· first |exact Mem.le_refl _ |assumption)) |(with_reducible refine q1l tab_ok 0 false ?_) |(refine stQ ?_) |(with_reducible refine q0f tab_ok Tryz.func28 (fun vs w=>by kernel_rfl) (by rfl) ?_))))
          exact .inl ⟨rfl,some ⟨b,0,none⟩,rfl,by rw [hG2];exact q3x rfl⟩
      · rw [if_neg (show ¬ q1p s n m from fun h=>hp h.2.1)]
        rw [hqd,hrd] at hp
        (repeat ((try (conv=>whnf));(first |(with_reducible refine q0o tab_ok (by kernel_rfl) [0,1,2,3,5,6,7] [4,8,9,10] [11,12] (by decide +kernel) ?_) |((refine q0n (by rfl) ?_ ?_);(· first |exact Mem.le_refl _ |assumption)) |(with_reducible refine q1l tab_ok 0 false ?_) |(refine stQ ?_) |(with_reducible first |refine q0b (fun vs w=>by kernel_rfl) (by kernel_rfl) (h1) ?_ |refine q0a (fun vs w=>by kernel_rfl) (by kernel_rfl) (h1) ?_ |refine q0b (fun vs w=>by kernel_rfl) (by kernel_rfl) (h2) ?_ |refine q0a (fun vs w=>by kernel_rfl) (by kernel_rfl) (h2) ?_ |refine q0f tab_ok Tryz.func28 (fun vs w=>by kernel_rfl) (by rfl) ?_ |refine q0b (fun vs w=>by kernel_rfl) (by kernel_rfl) ((a1 G)) ?_ |refine q0a (fun vs w=>by kernel_rfl) (by kernel_rfl) ((a1 G)) ?_ |refine q0b (fun vs w=>by kernel_rfl) (by kernel_rfl) ((a3 G)) ?_ |refine q0a (fun vs w=>by kernel_rfl) (by kernel_rfl) ((a3 G)) ?_))))
        conv=>whnf
        intro b G2 hb hS hG2
        have hle2:G.le G2:=by rw [hG2];exact q3n hb
        (repeat ((try (conv=>whnf));(first |((refine q0n (by rfl) ?_ ?_);(· first |exact Mem.le_refl _ |assumption)) |(with_reducible refine q1l tab_ok 0 false ?_) |(refine stQ ?_) |(with_reducible refine q0f tab_ok Tryz.func28 (fun vs w=>by kernel_rfl) (by rfl) ?_))))
        exact .inl ⟨rfl,some ⟨b,0,none⟩,rfl,by rw [hG2];exact q3x rfl⟩
    · rw [if_neg (show ¬ q1p s n m from fun h=>hj h.1)]
      (repeat ((try (conv=>whnf));(first |(with_reducible refine q0o tab_ok (by kernel_rfl) [0,1,2,3,5,6,7] [4,8,9,10] [11,12] (by decide +kernel) ?_) |((refine q0n (by rfl) ?_ ?_);(· first |exact Mem.le_refl _ |assumption)) |(with_reducible refine q1l tab_ok 0 false ?_) |(refine stQ ?_) |(with_reducible first |refine q0b (fun vs w=>by kernel_rfl) (by kernel_rfl) (h1) ?_ |refine q0a (fun vs w=>by kernel_rfl) (by kernel_rfl) (h1) ?_ |refine q0b (fun vs w=>by kernel_rfl) (by kernel_rfl) (h2) ?_ |refine q0a (fun vs w=>by kernel_rfl) (by kernel_rfl) (h2) ?_ |refine q0f tab_ok Tryz.func28 (fun vs w=>by kernel_rfl) (by rfl) ?_ |refine q0b (fun vs w=>by kernel_rfl) (by kernel_rfl) ((a1 G)) ?_ |refine q0a (fun vs w=>by kernel_rfl) (by kernel_rfl) ((a1 G)) ?_ |refine q0b (fun vs w=>by kernel_rfl) (by kernel_rfl) ((a3 G)) ?_ |refine q0a (fun vs w=>by kernel_rfl) (by kernel_rfl) ((a3 G)) ?_))))
      conv=>whnf
      intro b G2 hb hS hG2
      have hle2:G.le G2:=by rw [hG2];exact q3n hb
      (repeat ((try (conv=>whnf));(first |((refine q0n (by rfl) ?_ ?_);(· first |exact Mem.le_refl _ |assumption)) |(with_reducible refine q1l tab_ok 0 false ?_) |(refine stQ ?_) |(with_reducible refine q0f tab_ok Tryz.func28 (fun vs w=>by kernel_rfl) (by rfl) ?_))))
      exact .inl ⟨rfl,some ⟨b,0,none⟩,rfl,by rw [hG2];exact q3x rfl⟩
end
end Go.Proofs.YtegpkpilfgohhaaGreat
namespace Go.Proofs.YtegpkpilfgohhaaGreat
open Go.RowKit
section
variable {α:Type} {enc:α→List Value} {k:Nat}
theorem q2w (hk:∀ x,(enc x).length=k):∀ (l:List α),(l.flatMap enc).length=l.length*k
  | []=>by simp
  | a::l=>by rw [List.flatMap_cons,List.length_append,hk,q2w hk l,List.length_cons,Nat.add_mul];omega
theorem z2z (hk:∀ x,(enc x).length=k):∀ (l:List α) (i j:Nat) (x:α),l[i]? = some x→j<k→(l.flatMap enc)[i*k+j]? = (enc x)[j]?
  | [],i,j,x,h,_=>by simp at h
  | a::l,0,j,x,h,hj=>by
    simp at h;subst h
    rw [List.flatMap_cons,Nat.zero_mul,Nat.zero_add,List.getElem?_append_left (by rw [hk];exact hj)]
  | a::l,i+1,j,x,h,hj=>by
    rw [List.flatMap_cons,List.getElem?_append_right (by rw [hk,Nat.add_mul];omega),hk]
    rw [show (i+1)*k+j-k=i*k+j by rw [Nat.add_mul];omega]
    exact z2z hk l i j x (by simpa using h) hj
end
end Go.Proofs.YtegpkpilfgohhaaGreat
namespace Go.Proofs.YtegpkpilfgohhaaGreat
open Go.RowKit
def Blk.plugB (k b:Nat):Blk→Blk
  | .cells t l=>.cells t (q9d k b l)
  | .lp i l st p=>.lp i (q9d k b l) st p
  | .mp f ks l=>.mp f ks (q9d k b l)
  | x=>x
theorem HR.plugB {w0:World} {G0:Mem} {β:Nm} {hp:List Blk} {G:Mem} {w:World} (hr:HR w0 G0 β hp G w) {k b:Nat} {v:Value} (hv:β k=some v) (hb:q0i v=some b):HR w0 G0 β (hp.map (Blk.plugB k b)) G w:=by
  have live:∀ x:Blk,(x.plugB k b).live=x.live:=fun x=>by cases x <;> rfl
  refine ⟨hr.below,hr.hold,hr.sub,hr.grow,fun j y hj=>?_,fun i j y y' x x' c hne hi hj hx hx' hl hl' hy=>?_,z3d hr.wrt (fun x S e=>by cases x <;> first |exact e |cases e)⟩
  · obtain ⟨x,h1,h2⟩:=hr.blk j y hj
    refine ⟨x.plugB k b,by rw [List.getElem?_map,h1];rfl,?_⟩
    cases x with
    | gone=>trivial
    | muts S=>exact h2.elim
    | cells t l =>
      obtain ⟨b',c,q1,q2,q3,q4,q5⟩:=h2
      exact ⟨b',c,q1,q2,q3,q4,q5y hv hb q5⟩
    | own e sz n xs=>exact h2
    | lp i fr st p =>
      obtain ⟨q1,q2,q3,tm,q4,q5⟩:=h2
      exact ⟨q1,q2,q3,tm,q4,q5y hv hb q5⟩
    | mp f ks vs =>
      obtain ⟨b',ys,q1,q2,q3,q4,q5,q6⟩:=h2
      exact ⟨b',ys,q1,q2,q3,q4,q5,q5y hv hb q6⟩
  · rw [List.getElem?_map] at hx hx'
    cases h1:hp[i]? with
    | none=>rw [h1] at hx;cases hx
    | some z =>
      cases h2:hp[j]? with
      | none=>rw [h2] at hx';cases hx'
      | some z' =>
        rw [h1] at hx;rw [h2] at hx'
        simp only [Option.map_some,Option.some.injEq] at hx hx'
        subst hx;subst hx'
        rw [live] at hl hl'
        exact hr.inj i j y y' z z' c hne hi hj h1 h2 hl hl' hy
section
variable {α:Type} {enc:α→List Value} {k:Nat}
theorem q64 (hk:∀ x,(enc x).length=k) {l:List α} {i:Nat} {x:α} (hi:l[i]? = some x) (K:List Value→Prop) (h:K (enc x)):OwnCells (l.flatMap enc) (i*k) k K :=
  z17 _ (hk x) (fun j v hj=>by
    have hjk:j<k:=by have:=(List.getElem?_eq_some_iff.1 hj).1;rw [hk] at this;exact this
    rw [z2z hk l i j x hi hjk];exact hj) h
end
end Go.Proofs.YtegpkpilfgohhaaGreat
namespace Go.Proofs.YtegpkpilfgohhaaGreat
open Go.RowKit
theorem z54 {P:Program} {T:Tab} (hT:TOk P T) {f:FuncId} {fn:Func} (hfn:P.funcs[f]? = some fn) {args:List AV} {G:Mem} {E:TypeId} {sz n:Nat} {ys:List Value} (hn:q6x fn=true)
    (h:q4f P T 0 fn args [] G fun v hp' _=>∃ k N xs,v=.vw k 0 n∧nthB hp' k=.own E sz N xs∧n≤N∧ys=xs.take (n*sz)):q57 P f args G id E sz n ys:=by
  intro w vs hG ha
  refine (q5c hT hfn (hp:=[]) h (.inl hn) w G _ w vs (HR.init hG) ha).mono ?_
  rintro e w' ⟨y,β',v',hp',G',h1,_,h2,h3,k,N,xs,rfl,hk,hle,rfl⟩
  simp only [AV.rel] at h3
  obtain ⟨A,c,rfl,hnc,⟨_,hm⟩,_⟩:=h3
  obtain ⟨m,hm⟩:=hm trivial
  obtain ⟨x,hx1,hx2⟩:=h2.blk k _ hm
  rw [q0x hk rfl] at hx1;cases hx1
  have hmN:m=N:=by
    rcases hx2.1.2 with ⟨e1,e2⟩ |⟨g,cap,cur,e1,_⟩
    · cases e1;exact e2.symm
    · cases e1;rfl
  subst hmN
  exact ⟨_,_,h1,by simp only [AV.rel,id],q89 hx2.1 hle,h2.below⟩
theorem z8e {n0 q n:Nat} {hp hp':List Blk} {G G':Mem} {fr fr':List AV} {E:TypeId} {sz:Nat} {xs:List Value} (j:Nat) (hq:nthB hp q=.own E sz n xs) (hj:fr[j]? = some (.own q)) (h:setF fr j (.vw q 0 n) fun fr1=>Le n0 fr1 hp G fr' hp' G'):Le n0 fr hp G fr' hp' G':=by
  rw [q1c] at h
  refine ⟨fun w0 G0 β0 β w ys h0 h1 hr hf=>h.out w0 G0 β0 β w ys h0 h1 hr ?_⟩
  have key:∀ (l:List AV) (ys:List Value) (j:Nat),l[j]? = some (.own q)→AV.rels β l ys→AV.rels β (l.set j (.vw q 0 n)) ys:=by
    intro l
    induction l with
    | nil=>intro ys j hj;simp at hj
    | cons a l ih =>
      intro ys j hj hf
      simp only [AV.rels] at hf
      obtain ⟨y,zs,rfl,hy,hz⟩:=hf
      cases j with
      | zero =>
        simp at hj;subst hj
        simp only [List.set_cons_zero,AV.rels]
        refine ⟨y,zs,rfl,?_,hz⟩
        simp only [AV.rel] at hy ⊢
        obtain ⟨x,hx1,hx2⟩:=hr.blk q y hy.1
        rw [q0x hq rfl] at hx1;cases hx1
        rcases hx2.1.2 with ⟨rfl,rfl⟩ |⟨g,cap,cur,rfl,_,_,h8,_⟩
        · exact ⟨none,0,rfl,Nat.le_refl _,⟨fun _=>rfl,fun _=>⟨0,hy.1⟩⟩,fun h=>by omega⟩
        · exact ⟨_,cap,rfl,h8,⟨(fun h=>by cases h),fun _=>⟨n,hy.1⟩⟩,fun _=>⟨_,g,hy.1,rfl,rfl⟩⟩
      | succ j =>
        simp only [List.set_cons_succ,AV.rels]
        exact ⟨y,zs,rfl,hy,ih zs j (by simpa using hj) hz⟩
  exact key _ _ _ hj hf
theorem x0p {n0:Nat} {fr fr':List AV} {hp hp':List Blk} {G G':Mem} (j:Nat) {a:AV} (b:AV) (hj:fr[j]? = some a) (e:a=b) (h:setF fr j b fun fr1=>Le n0 fr1 hp G fr' hp' G'):Le n0 fr hp G fr' hp' G':=by
  subst e
  rw [q1c] at h
  have:fr.set j a=fr:=by
    apply List.ext_getElem?
    intro i
    by_cases hi:j=i
    · subst hi;rw [hj];simp [List.getElem?_set,(List.getElem?_eq_some_iff.1 hj).1]
    · rw [List.getElem?_set,if_neg hi]
  rw [this] at h;exact h
end Go.Proofs.YtegpkpilfgohhaaGreat
