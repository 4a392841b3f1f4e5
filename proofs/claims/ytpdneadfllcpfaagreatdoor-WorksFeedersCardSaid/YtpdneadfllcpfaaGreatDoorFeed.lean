/-
  works.Feeders.
-/
import Derived.Test.YtpdneadfllcpfaaGreatDoorFeedLaw
import Derived.Test.YtpdneadfllcpfaaGreatDoorMakesX
import Derived.Test.YtpdneadfllcpfaaGreatDoorStand
import Derived.Test.YtpdneadfllcpfaaGreatDoorArg
import Derived.Test.YtpdneadfllcpfaaGreatDoorTab
import Derived.Test.YtpdneadfllcpfaaGreatDoorRow
import Derived.Test.YtpdneadfllcpfaaGreatDoorEw
set_option linter.unusedVariables false
set_option linter.unusedSimpArgs false
set_option linter.unnecessarySimpa false
namespace Go.Proofs.YtpdneadfllcpfaaGreatDoor
open Go.RowKit Go.Deep
set_option maxRecDepth 20000
def encP (p:Part):List Value:=[.int .i64 p.1,.bool p.2]
def q1t (l:List Part):List Value:=l.flatMap encP
theorem q51 (k l:List Part):q1t (k++l)=q1t k++q1t l:=by simp [q1t]
theorem q52:∀ (l:List Part),(q1t l).length=l.length*2
  | []=>rfl
  | p::l=>by
    have:=q52 l
    show (encP p++q1t l).length=_
    rw [List.length_append,this];simp [encP];omega
theorem z2c {l:List Part} {i:Nat} {p:Part} (h:l[i]? = some p):(q1t l)[i*2]? = some (.int .i64 p.1)∧(q1t l)[i*2+1]? = some (.bool p.2):=by
  obtain ⟨h1,rfl⟩:=List.getElem?_eq_some_iff.1 h
  have e:l=l.take i++([l[i]]++l.drop (i+1)):=by simp
  have hl:(q1t (l.take i)).length=i*2:=by rw [q52,List.length_take];congr 1;omega
  have key:∀ j,j<2→(q1t l)[i*2+j]? = (encP l[i])[j]?:=fun j hj=>by
    conv=>lhs;rw [e,q51,q51]
    rw [List.getElem?_append_right (by omega),hl,show i*2+j-i*2=j by omega,List.getElem?_append_left (by simp [q1t,encP];omega)]
    simp [q1t]
  exact ⟨key 0 (by omega),key 1 (by omega)⟩
theorem q95 {G:Mem} {A:Option Addr} {l:List Part} (h:FlatM G A (q1t l)) {i:Nat} {p:Part} (hi:l[i]? = some p):∃ a:Addr,A=some a∧∀ K:List Value→Prop,K [.int .i64 p.1,.bool p.2]→OldCells G (a.add (i*2)) 2 K:=by
  obtain ⟨c0,c1⟩:=z2c hi
  rcases h with ⟨_,h⟩ |⟨b,off,rfl,h⟩
  · rw [h] at c0;simp at c0
  · refine ⟨_,rfl,fun K k=>q5d _ rfl (fun j u hj=>?_) k⟩
    rw [q0o,q0o]
    match j,hj with
    | 0,hj=>simp at hj;subst hj;exact h _ _ c0
    | 1,hj=>simp at hj;subst hj;rw [Nat.add_assoc];exact h _ _ c1
structure ShD where
  A:Option Addr
  n:Nat
  q:Nat
  num:Nat→Int
  st:Nat→Int
  dry:Nat→Int
  a:Nat→Option Addr × Nat × Nat
  b:Nat→Option Addr × Nat × Nat
abbrev recC (d:ShD) (k:Nat):List Value:=[.int .i64 (d.num k),.int .i64 (d.st k),.slice (d.a k).1 (d.a k).2.1 (d.a k).2.2,.slice (d.b k).1 (d.b k).2.1 (d.b k).2.2,.int .i64 (d.dry k)]
abbrev recA (d:ShD) (k:Nat):List AV:=[.val (.int .i64 (d.num k)),.val (.int .i64 (d.st k)),.val (.slice (d.a k).1 (d.a k).2.1 (d.a k).2.2),.val (.slice (d.b k).1 (d.b k).2.1 (d.b k).2.2),.val (.int .i64 (d.dry k))]
structure ShM (G:Mem) (A:Option Addr) (n:Nat) (d:Nat→ShD):Prop where
  rows:ElsM G A 1 n fun i=>[.slice (d i).A (d i).n (d i).q]
  els:∀ i,i<n→ElsM G (d i).A 5 (d i).n (recC (d i))
  room:∀ i,i<n→(d i).n≤(d i).q∧(d i).q≤maxLen
theorem ShM.mono {G G':Mem} {A:Option Addr} {n:Nat} {d:Nat→ShD} (h:ShM G A n d) (hG:G.le G'):ShM G' A n d:=⟨h.rows.mono hG,fun i hi=>(h.els i hi).mono hG,h.room⟩
theorem q1c {x a b:Int} {G:Mem}:Gives Tryz.prog 8 [.val (.int .i64 x),.val (.int .i64 a),.val (.int .i64 b)] G (.val (.bool (decide (a≤x∧x≤b)))):=by
  refine q3v tab_ok Tryz.func8 ?_
  by_cases h1:a≤x
  · by_cases h2:x≤b
    · (repeat ((try (conv=>whnf));(refine stQ ?_)))
      exact ⟨by simp [h1,h2],rfl⟩
    · (repeat ((try (conv=>whnf));(refine stQ ?_)))
      exact ⟨by simp [h1,h2],rfl⟩
  · (repeat ((try (conv=>whnf));(refine stQ ?_)))
    exact ⟨by simp [h1],rfl⟩
section
variable {G:Mem} {A:Option Addr} {n c:Nat} {d:Nat→ShD} {ups copies:Int} {num:Bool}
abbrev badS (n:Nat) (d:Nat→ShD):Prop:=∃ i,i<n∧∃ k,k<(d i).n∧¬ (0≤(d i).st k∧(d i).st k≤2)
theorem z2u (h:¬ ((1≤ups∧ups≤2)∧1≤copies∧copies≤512)):Gives Tryz.prog 5 [.val (.slice A n c),.val (.int .i64 ups),.val (.int .i64 copies),.val (.bool num)] G (.tup [.val (.slice none 0 0),.val (.int .i64 3)]):=by
  refine q3v tab_ok Tryz.func5 ?_
  by_cases h1:1≤ups∧ups≤2
  · have w1:=q1c (x:=ups) (a:=1) (b:=2) (G:=G)
    have w2:=q1c (x:=copies) (a:=1) (b:=512) (G:=G)
    rw [decide_eq_true h1] at w1
    rw [decide_eq_false (fun h2=>h ⟨h1,h2⟩)] at w2
    (repeat ((try (conv=>whnf));(first |(refine stQ ?_) |(with_reducible first |refine q0m (fun vs w=>by kernel_rfl) (by kernel_rfl) (w1) ?_ |refine q0h (fun vs w=>by kernel_rfl) (by kernel_rfl) (w1) ?_ |refine q0m (fun vs w=>by kernel_rfl) (by kernel_rfl) (w2) ?_ |refine q0h (fun vs w=>by kernel_rfl) (by kernel_rfl) (w2) ?_))))
    exact ⟨rfl,rfl⟩
  · have w1:=q1c (x:=ups) (a:=1) (b:=2) (G:=G)
    rw [decide_eq_false h1] at w1
    (repeat ((try (conv=>whnf));(first |(refine stQ ?_) |(with_reducible first |refine q0m (fun vs w=>by kernel_rfl) (by kernel_rfl) (w1) ?_ |refine q0h (fun vs w=>by kernel_rfl) (by kernel_rfl) (w1) ?_))))
    exact ⟨rfl,rfl⟩
theorem z2v (h:(1≤ups∧ups≤2)∧1≤copies∧copies≤512) (hn:¬ (1≤n∧n≤8)) (hm:n≤maxLen):Gives Tryz.prog 5 [.val (.slice A n c),.val (.int .i64 ups),.val (.int .i64 copies),.val (.bool num)] G (.tup [.val (.slice none 0 0),.val (.int .i64 2)]):=by
  refine q3v tab_ok Tryz.func5 ?_
  have w1:=q1c (x:=ups) (a:=1) (b:=2) (G:=G)
  have w2:=q1c (x:=copies) (a:=1) (b:=512) (G:=G)
  have w3:=q1c (x:=n) (a:=1) (b:=8) (G:=G)
  rw [decide_eq_true h.1] at w1
  rw [decide_eq_true h.2] at w2
  rw [decide_eq_false (by omega)] at w3
  (repeat ((try (conv=>whnf));(first |(refine stQ ?_) |(with_reducible first |refine q0m (fun vs w=>by kernel_rfl) (by kernel_rfl) (w1) ?_ |refine q0h (fun vs w=>by kernel_rfl) (by kernel_rfl) (w1) ?_ |refine q0m (fun vs w=>by kernel_rfl) (by kernel_rfl) (w2) ?_ |refine q0h (fun vs w=>by kernel_rfl) (by kernel_rfl) (w2) ?_ |refine q0m (fun vs w=>by kernel_rfl) (by kernel_rfl) (w3) ?_ |refine q0h (fun vs w=>by kernel_rfl) (by kernel_rfl) (w3) ?_))))
  exact ⟨rfl,rfl⟩
structure FeedT where
  i:Nat
  B:Nat→Option Addr × Nat
  M:Mem
abbrev plS (ups copies:Int) (num:Bool) (d:Nat→ShD) (i:Nat):List Part:=q1z copies.toNat ups.toNat num (d i).st (d i).n
structure FeedInv (ups copies:Int) (num:Bool) (d:Nat→ShD) (n:Nat) (G:Mem) (t:FeedT):Prop where
  le:t.i≤n
  sub:G.le t.M
  rows:∀ x,x<t.i→FlatM t.M (t.B x).1 (q1t (plS ups copies num d x))∧(plS ups copies num d x).length≤(t.B x).2∧(t.B x).2≤maxLen
  good:∀ x,x<t.i→∀ k,k<(d x).n→0≤(d x).st k∧(d x).st k≤2
abbrev outC (ups copies:Int) (num:Bool) (d:Nat→ShD) (B:Nat→Option Addr × Nat) (x:Nat):List Value:=[.slice (B x).1 (plS ups copies num d x).length (B x).2]
def putB (B:Nat→Option Addr × Nat) (i:Nat) (a:Option Addr × Nat):Nat→Option Addr × Nat:=fun x=>if x=i then a else B x
theorem FeedInv.step {i:Nat} {B:Nat→Option Addr × Nat} {M:Mem} (h:FeedInv ups copies num d n G ⟨i,B,M⟩) (hi:i<n) (hg:∀ x,x<(d i).n→0≤(d i).st x∧(d i).st x≤2) (A2:Option Addr) (q2:Nat) (M1:Mem) (hM:M.le M1) (h1:(plS ups copies num d i).length≤q2) (h2:q2≤maxLen) (hF:FlatM M1 A2 (q1t (plS ups copies num d i))) :
    FeedInv ups copies num d n G ⟨i+1,putB B i (A2,q2),M1⟩∧q1h (outC ups copies num d (putB B i (A2,q2))) (i+1)=q1h (outC ups copies num d B) i++[.slice A2 (plS ups copies num d i).length q2]:=by
  obtain ⟨a1,a2,a3,a4⟩:=h
  dsimp only at a1 a2 a3 a4
  refine ⟨⟨by show i+1≤n;omega,Mem.le_trans a2 hM,fun x hx=>?_,fun x hx=>?_⟩,?_⟩
  · have hx:x<i+1:=hx
    dsimp only
    unfold putB
    by_cases e:x=i
    · subst e;rw [if_pos rfl];exact ⟨hF,h1,h2⟩
    · rw [if_neg e]
      obtain ⟨b1,b2⟩:=a3 x (by omega)
      exact ⟨b1.mono hM,b2⟩
  · have hx:x<i+1:=hx
    by_cases e:x=i
    · subst e;exact hg
    · exact a4 x (by omega)
  · rw [q1h]
    unfold outC putB
    rw [if_pos rfl]
    congr 1
    exact q6k fun y hy=>by rw [if_neg (by omega)]
set_option maxHeartbeats 8000000 in
theorem q8w {K:AV→List Blk→Mem→Prop} (hl:ShM G A n d) (h:(1≤ups∧ups≤2)∧1≤copies∧copies≤512) (hn:1≤n∧n≤8) (hc:n≤c∧c≤maxLen)
    (hbad:badS n d→∀ hp M,K (.tup [.val (.slice none 0 0),.val (.int .i64 14)]) hp M)
    (hok:∀ B M,FeedInv ups copies num d n G ⟨n,B,M⟩→∀ hp,nthB hp 0=.own 36 1 n (q1h (outC ups copies num d B) n)→K (.tup [.own 0,.val (.int .i64 0)]) hp M) :
    q3f Tryz.prog tab 0 Tryz.f5 [.val (.slice A n c),.val (.int .i64 ups),.val (.int .i64 copies),.val (.bool num)] [] G K:=by
  have w1:=q1c (x:=ups) (a:=1) (b:=2) (G:=G)
  have w2:=q1c (x:=copies) (a:=1) (b:=512) (G:=G)
  have w3:=q1c (x:=n) (a:=1) (b:=8) (G:=G)
  rw [decide_eq_true h.1] at w1
  rw [decide_eq_true h.2] at w2
  rw [decide_eq_true (by omega)] at w3
  (repeat ((try (conv=>whnf));(first |(refine stQ ?_) |(with_reducible first |refine q0m (fun vs w=>by kernel_rfl) (by kernel_rfl) (w1) ?_ |refine q0h (fun vs w=>by kernel_rfl) (by kernel_rfl) (w1) ?_ |refine q0m (fun vs w=>by kernel_rfl) (by kernel_rfl) (w2) ?_ |refine q0h (fun vs w=>by kernel_rfl) (by kernel_rfl) (w2) ?_ |refine q0m (fun vs w=>by kernel_rfl) (by kernel_rfl) (w3) ?_ |refine q0h (fun vs w=>by kernel_rfl) (by kernel_rfl) (w3) ?_))))
  conv=>whnf
  refine z2b tab_ok (ι:=FeedT) (fun t=>FeedInv ups copies num d n G t) (fun t=>[(31,.val (.int .i64 t.i)),(10,.own 0)]) (fun t=>[.own 36 1 t.i (q1h (outC ups copies num d t.B) t.i)]) (fun t=>t.M) (fun t=>n-t.i) ⟨0,fun _=>(none,0),G⟩ ?_ ?_ ?_
  · exact ⟨Nat.zero_le _,Mem.le_refl _,fun x hx=>absurd hx (Nat.not_lt_zero _),fun x hx=>absurd hx (Nat.not_lt_zero _)⟩
  · refine z17 36 1 ?_
    conv=>whnf
    dsimp only
    ((refine q0p ?_);(conv=>whnf);(refine q0x (by rfl) (by rfl) flQ ?_))
    exact q1b rfl rfl q0l
  · rintro ⟨i,B,M⟩ hinv
    have hi:=hinv.le
    have hsub:=hinv.sub
    dsimp only at hi hsub ⊢
    rcases Nat.lt_or_ge i n with h1 |h1
    · obtain ⟨pa,rfl,ca⟩:=(hl.rows.mono hsub).cells h1
      obtain ⟨r1,r2⟩:=hl.room i h1
      have r3:(d i).n≤9223372036854775807:=Nat.le_trans r1 r2
      (repeat ((try (conv=>whnf));(first |(refine ca _ ?_) |(refine stQ ?_))))
      conv=>whnf
      refine q2f tab_ok (fun k=>k≤(d i).n∧∀ x,x<k→0≤(d i).st x∧(d i).st x≤2) (fun (k:Nat)=>[(37,.val (.int .i64 k)),(13,.own 1)]) (fun k=>[.own 36 1 i (q1h (outC ups copies num d B) i),.own 35 2 (q1z copies.toNat ups.toNat num (d i).st k).length (q1t (q1z copies.toNat ups.toNat num (d i).st k))]) (fun k=>(d i).n-k) 0 ⟨Nat.zero_le _,fun x hx=>absurd hx (Nat.not_lt_zero _)⟩ ?_ ?_
      · refine z17 35 2 ?_
        conv=>whnf
        ((refine q0p ?_);(conv=>whnf);(refine q0x (by rfl) (by rfl) flQ ?_))
        exact q1b rfl rfl (q1b rfl rfl q0l)
      · rintro k ⟨hk,hgood⟩
        have hfl:=q28 (c:=copies.toNat) (u:=ups.toNat) (num:=num) (S:=(d i).st) k
        rcases Nat.lt_or_ge k (d i).n with h2 |h2
        · obtain ⟨pe,he,ce⟩:=((hl.els i h1).mono hsub).cells h2
          have step:q1z copies.toNat ups.toNat num (d i).st (k+1)=q3j copies.toNat ups.toNat num (q1z copies.toNat ups.toNat num (d i).st k) ((d i).st k):=rfl
          rw [he]
          generalize q1z copies.toNat ups.toNat num (d i).st k=acc at *
          by_cases s1:(d i).st k=1
          · rw [q3j,if_pos s1] at step
            (repeat ((try (conv=>whnf));(first |(refine ce _ ?_) |(refine stQ ?_))))
            conv=>whnf
            refine ⟨k+1,⟨by omega,fun x hx=>by
              rcases Nat.lt_or_ge x k with h3 |h3
              · exact hgood x h3
              · obtain rfl:x=k:=by omega
                omega⟩,by omega,?_⟩
            rw [step]
            ((refine q0p ?_);(conv=>whnf);(refine q0x (by rfl) (by rfl) flQ ?_))
            exact q1b rfl rfl (q1b rfl rfl q0l)
          · by_cases s2:0≤(d i).st k∧(d i).st k≤2
            · rw [q3j,if_neg s1] at step
              by_cases s0:(d i).st k=0
              case' pos =>
                (repeat ((try (conv=>whnf));(first |(refine ce _ ?_) |(refine stQ ?_))))
                conv=>whnf
              case' neg =>
                (repeat ((try (conv=>whnf));(first |(refine ce _ ?_) |(refine stQ ?_))))
                conv=>whnf
              all_goals
                refine q2f tab_ok (fun u=>u≤ups.toNat) (fun (u:Nat)=>[(49,.val (.int .i64 u)),(13,.own 1)]) (fun u=>[.own 36 1 i (q1h (outC ups copies num d B) i),.own 35 2 (q0r copies.toNat num (decide ((d i).st k=2)) acc u).length (q1t (q0r copies.toNat num (decide ((d i).st k=2)) acc u)),.cells 33 (recA (d i) k)]) (fun u=>ups.toNat-u) 0 (Nat.zero_le _) ?_ ?_
                · ((refine q0p ?_);(conv=>whnf);(refine q0x (by rfl) (by rfl) flQ ?_))
                  exact q1b rfl rfl (q1b rfl rfl (q7o (by exact flQ) q0l))
                · rintro u hu
                  have hfu:=q4a (num:=num) (sp:=decide ((d i).st k=2)) hfl u
                  have hful:=fun hx=>q48 (c:=copies.toNat) (num:=num) (sp:=decide ((d i).st k=2)) (a:=acc) (n:=u) hx (ups.toNat-u)
                  rw [show u+(ups.toNat-u)=ups.toNat by omega] at hful
                  have stepu:q0r copies.toNat num (decide ((d i).st k=2)) acc (u+1)=if (q0r copies.toNat num (decide ((d i).st k=2)) acc u).length<copies.toNat then q0r copies.toNat num (decide ((d i).st k=2)) acc u++[((if num=true then ((q0r copies.toNat num (decide ((d i).st k=2)) acc u).length:Int)+1 else 0),decide ((d i).st k=2))] else q0r copies.toNat num (decide ((d i).st k=2)) acc u:=rfl
                  have hlast:u=ups.toNat→q0r copies.toNat num (decide ((d i).st k=2)) acc u=q0r copies.toNat num (decide ((d i).st k=2)) acc ups.toNat:=fun e=>by rw [e]
                  have hgood':∀ x,x<k+1→0≤(d i).st x∧(d i).st x≤2:=fun x hx=>by
                    rcases Nat.lt_or_ge x k with h3 |h3
                    · exact hgood x h3
                    · obtain rfl:x=k:=by omega
                      exact s2
                  generalize q0r copies.toNat num (decide ((d i).st k=2)) acc u=cur at *
                  rcases Nat.lt_or_ge u ups.toNat with h3 |h3
                  · by_cases hfull:cur.length<copies.toNat
                    · rw [if_pos hfull] at stepu
                      cases num <;>
                      · (repeat ((try (conv=>whnf));(refine stQ ?_)))
                        conv=>whnf
                        refine ⟨u+1,by omega,by omega,?_⟩
                        refine z0v 5 1 rfl rfl rfl rfl ?_
                        conv=>whnf
                        ((refine q0p ?_);(conv=>whnf);(refine q0x (by rfl) (by rfl) flQ ?_))
                        exact q1b rfl rfl (q1b (by rw [stepu];simp) (by rw [stepu];simp [q1t,encP]) (q7o (by exact flQ) q0l))
                    · rw [hful hfull] at step
                      (repeat ((try (conv=>whnf));(refine stQ ?_)))
                      conv=>whnf
                      refine ⟨k+1,⟨by omega,hgood'⟩,by omega,?_⟩
                      rw [step]
                      ((refine q0p ?_);(conv=>whnf);(refine q0x (by rfl) (by rfl) flQ ?_))
                      exact q1b rfl rfl (q1b rfl rfl q0l)
                  · have e:u=ups.toNat:=by omega
                    rw [← hlast e] at step
                    (repeat ((try (conv=>whnf));(refine stQ ?_)))
                    conv=>whnf
                    refine ⟨k+1,⟨by omega,hgood'⟩,by omega,?_⟩
                    rw [step]
                    ((refine q0p ?_);(conv=>whnf);(refine q0x (by rfl) (by rfl) flQ ?_))
                    exact q1b rfl rfl (q1b rfl rfl q0l)
            · have hb:=hbad ⟨i,h1,k,h2,s2⟩
              (repeat ((try (conv=>whnf));(first |(refine ce _ ?_) |(refine stQ ?_))))
              conv=>whnf
              exact hb _ _
        · obtain rfl:k=(d i).n:=by omega
          have hfr:=hinv.step (B:=B) h1 hgood
          have hfl2:(plS ups copies num d i).length≤copies.toNat:=hfl
          (repeat ((try (conv=>whnf));(refine stQ ?_)))
          conv=>whnf
          refine z1e tab_ok 2 1 rfl rfl rfl rfl rfl rfl fun A2 q2 M1 z1 z2 z3 z4=>?_
          (repeat ((try (conv=>whnf));(refine stQ ?_)))
          conv=>whnf
          obtain ⟨g1,g2⟩:=hfr A2 q2 M1 z1 z2 z3 z4
          refine ⟨⟨i+1,putB B i (A2,q2),M1⟩,g1,by show n-(i+1)<n-i;omega,?_⟩
          dsimp only
          refine z0v 3 0 rfl rfl rfl rfl ?_
          conv=>whnf
          ((refine q0p ?_);(conv=>whnf);(refine q0x (by rfl) (by rfl) flQ ?_))
          exact q1b rfl (by rw [g2]) q0l
    · obtain rfl:i=n:=by omega
      (repeat ((try (conv=>whnf));(refine stQ ?_)))
      conv=>whnf
      exact hok B M hinv _ rfl
end
end Go.Proofs.YtpdneadfllcpfaaGreatDoor
