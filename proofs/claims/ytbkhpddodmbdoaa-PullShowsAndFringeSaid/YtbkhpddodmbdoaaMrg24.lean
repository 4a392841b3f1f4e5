/-
  Merged: XMorph, XPaper, XShift, XMovedL, XRegOps.
-/
import Derived.Test.YtbkhpddodmbdoaaMrg23
import Derived.Test.YtbkhpddodmbdoaaErode1
import Derived.Test.YtbkhpddodmbdoaaMrg19
import Derived.Test.YtbkhpddodmbdoaaMrg13
import Derived.Test.YtbkhpddodmbdoaaMrg9
import Derived.Test.YtbkhpddodmbdoaaMrg22
import Derived.Test.YtbkhpddodmbdoaaMrg6
import Derived.Test.YtbkhpddodmbdoaaCombine
import Derived.Test.YtbkhpddodmbdoaaCombined
set_option linter.unusedVariables false
set_option linter.unusedSimpArgs false
set_option linter.unnecessarySimpa false
namespace Go.Proofs.Ytbkhpddodmbdoaa
open Go.RowKit
set_option maxRecDepth 20000
theorem z6c {rs:Nat→Run} {n:Nat} (v:Valid rs n):∀ k,k≤n→regV rs k=0
  | 0,_=>rfl
  | k+1,hk=>by
    have h:=z6c v k (by omega)
    have hb:=v.bd k (by omega)
    have hr:q3t rs k=0:=by
      unfold q3t
      rw [if_neg (by omega),if_neg (by omega),if_neg]
      rintro ⟨h1,h2,h3⟩
      have:=v.lt (k-1) k (by omega) (by omega)
      omega
    unfold regV
    rw [if_neg (by omega)]
    exact hr
theorem q2q {L:List Run} (v:ValidL L):errL L=0:=z6c v L.length (Nat.le_refl _)
open Classical in
theorem x2u (L:List Run):(q4v L).length≤L.length:=by
  have hp:(L.mergeSort (fun r s=>decide (leR r s))).Perm L:=List.mergeSort_perm _ _
  have hs:(L.mergeSort (fun r s=>decide (leR r s))).Pairwise leR:=by
    have:=List.pairwise_mergeSort (le:=fun r s=>decide (leR r s)) (fun a b c h1 h2=>by
      simp only [decide_eq_true_eq] at *;unfold leR at *;omega) (fun a b=>by
      simp only [Bool.or_eq_true,decide_eq_true_eq];unfold leR;omega) L
    exact this.imp fun h=>by simpa using h
  rw [← z9p hp hs,← hp.length_eq]
  have:=z3v (L.mergeSort (fun r s=>decide (leR r s))) []
  simpa using this
theorem x4b {w:Int} (hw:0≤w∧w≤64) (L:List Run):(dilD w L).length≤L.length*129:=by
  have h1:=q96 hw (q62 w L) (q62 w L).length
  have h2:=z1d w L L.length
  rw [z1c] at h2
  show (allC w (q62 w L) (q62 w L).length).length≤_
  omega
noncomputable abbrev DL (w:Int) (L:List Run):List Run:=q4v (dilD w L)
theorem x5q {w:Int} (hw:0≤w∧w≤64) (L:List Run):(DL w L).length≤L.length*129:=Nat.le_trans (x2u _) (x4b hw L)
theorem x4c {w:Int} {L:List Run} (v:ValidL L):ValidL (DL w L):=by
  obtain ⟨h1,h2⟩:=z52 (w:=w) v
  refine ValidL.mk h1 fun s hs=>?_
  obtain ⟨g1,g2⟩:=x2n h1 hs
  rw [h2] at g1 g2
  obtain ⟨hy,r,hr,r1,r2,r3⟩:=g1
  obtain ⟨_,q,hq,q1,q2,q3⟩:=g2
  omega
def spE (L:List Run) (w:Int):Int:=if errL L≠0 then errL L else if 0≤w∧w≤64 then 0 else 3
theorem x5r {L:List Run} {w:Int} (h:spE L w=0):errL L=0∧0≤w∧w≤64:=by
  unfold spE at h
  by_cases h1:errL L=0
  · rw [if_neg (by omega)] at h
    by_cases h2:0≤w∧w≤64
    · exact ⟨h1,h2⟩
    · rw [if_neg h2] at h;omega
  · rw [if_pos h1] at h;omega
section
variable {A:Option Addr} {L:List Run} {c:Nat} {w:Int} {G:Mem}
theorem z8z (hA:RunsM G A L) (hc:L.length≤c) (hm:c≤maxLen):Gives Try.prog 64 [.val (.slice A L.length c),.val (.int .i64 w)] G (.val (.int .i64 (spE L w))):=by
  have g1:=q5u hA hc hm
  refine q1n tab_ok Try.func64 ?_
  unfold spE
  generalize errL L=e1 at *
  by_cases h:e1=0
  · rw [if_neg (by omega)]
    by_cases h1:0≤w
    · by_cases h2:w≤64
      · rw [if_pos ⟨h1,h2⟩]
        (repeat ((try (conv=>whnf));(first |(refine stQ ?_) |(with_reducible first |refine q0b (fun vs w=>by kernel_rfl) (by kernel_rfl) (g1) ?_ |refine q0a (fun vs w=>by kernel_rfl) (by kernel_rfl) (g1) ?_))))
        exact ⟨rfl,rfl⟩
      · rw [if_neg (fun h=>h2 h.2)]
        (repeat ((try (conv=>whnf));(first |(refine stQ ?_) |(with_reducible first |refine q0b (fun vs w=>by kernel_rfl) (by kernel_rfl) (g1) ?_ |refine q0a (fun vs w=>by kernel_rfl) (by kernel_rfl) (g1) ?_))))
        exact ⟨rfl,rfl⟩
    · rw [if_neg (fun h=>h1 h.1)]
      (repeat ((try (conv=>whnf));(first |(refine stQ ?_) |(with_reducible first |refine q0b (fun vs w=>by kernel_rfl) (by kernel_rfl) (g1) ?_ |refine q0a (fun vs w=>by kernel_rfl) (by kernel_rfl) (g1) ?_))))
      exact ⟨rfl,rfl⟩
  · rw [if_pos h]
    (repeat ((try (conv=>whnf));(first |(refine stQ ?_) |(with_reducible first |refine q0b (fun vs w=>by kernel_rfl) (by kernel_rfl) (g1) ?_ |refine q0a (fun vs w=>by kernel_rfl) (by kernel_rfl) (g1) ?_))))
    exact ⟨rfl,rfl⟩
end
end Go.Proofs.Ytbkhpddodmbdoaa
namespace Go.Proofs.Ytbkhpddodmbdoaa
open Go.RowKit
set_option maxRecDepth 20000
theorem x2v {L:List Run} (h:okR L) (hb:∀ r∈L,(0≤r.y∧r.y<256)∧0≤r.x0∧r.x1≤256):L.length≤131072:=by
  have hp:(L.map fun r=>r.y*512+r.x1).Pairwise (·<·):=by
    rw [List.pairwise_map,List.pairwise_iff_getElem]
    intro i j hi hj hij
    have h1:=q9j h hij (List.getElem?_eq_getElem hi) (List.getElem?_eq_getElem hj)
    have h2:=hb _ (List.getElem_mem hi)
    have h3:=hb _ (List.getElem_mem hj)
    have h4:=q2v h (List.getElem_mem hj)
    have h5:=q2v h (List.getElem_mem hi)
    omega
  have:=q9c hp (B:=131072) (fun z hz=>by
    obtain ⟨r,hr,rfl⟩:=List.mem_map.1 hz
    have h1:=hb r hr
    have h2:=q2v h hr
    omega)
  simpa using this
theorem q7h {W H:Int} (hW:0<W) (hH:0≤H):okR (q02 0 W 0 H.toNat)∧∀ x y,hasR (q02 0 W 0 H.toNat) x y↔(0≤x∧x<W)∧0≤y∧y<H:=by
  constructor
  · generalize H.toNat=n
    induction n with
    | zero=>simp [q02,okR]
    | succ n ih =>
      have e:q02 0 W 0 (n+1)=q02 0 W 0 n++[⟨0+n,0,W⟩]:=by simp [q02,List.range_succ]
      rw [e,okR_append]
      refine ⟨ih,⟨hW,by simp,trivial⟩,fun r hr s hs=>?_⟩
      simp only [q02,List.mem_map,List.mem_range] at hr
      obtain ⟨i,hi,rfl⟩:=hr
      simp at hs;subst hs
      left;show (0:Int)+i<_;dsimp only;omega
  · intro x y
    unfold q02 hasR
    constructor
    · rintro ⟨r,hr,h1,h2,h3⟩
      simp only [List.mem_map,List.mem_range] at hr
      obtain ⟨i,hi,rfl⟩:=hr
      dsimp only at h1 h2 h3
      omega
    · rintro ⟨h1,h2⟩
      exact ⟨⟨0+(y.toNat:Int),0,W⟩,List.mem_map.2 ⟨y.toNat,List.mem_range.2 (by omega),rfl⟩,by show 0+(y.toNat:Int)=y;omega,h1.1,h1.2⟩
noncomputable def q26 (w h:Int) (n:Nat) (p:Nat→PcD):List Run:=mixR 2 (q02 0 (16*w) 0 (16*h).toNat) (q2k p (fun _=>true) n)
theorem PcsOk.paper {w h:Int} {n:Nat} {p:Nat→PcD} (ok:PcsOk w h n p):okR (q26 w h n p)∧∀ x y,hasR (q26 w h n p) x y↔((0≤x∧x<16*w)∧0≤y∧y<16*h)∧¬ ∃ k,k<n∧hasR (p k).L x y:=by
  have hw:=ok.wd
  have hh:=ok.ht
  obtain ⟨r1,r2⟩:=q7h (W:=16*w) (H:=16*h) (by omega) (by omega)
  have v1:=(q3l r1 (fun x y hx=>(r2 x y).1 hx) (by omega) (by omega)).1
  have v2:=(ok.some_valid (sel:=fun _=>true)).1
  obtain ⟨m1,m2⟩:=q44 (c:=2) v1 v2
  refine ⟨m1,fun x y=>?_⟩
  unfold q26
  rw [m2]
  have e1:hasL (q02 0 (16*w) 0 (16*h).toNat) x y=true↔_:=hasL_iff.trans (r2 x y)
  have e2:hasL (q2k p (fun _=>true) n) x y=true↔∃ k,k<n∧hasR (p k).L x y:=by
    rw [hasL_iff,ok.some_ok.2];simp
  rw [← e1,← e2]
  generalize hasL (q02 0 (16*w) 0 (16*h).toNat) x y=a
  generalize hasL (q2k p (fun _=>true) n) x y=b
  cases a <;> cases b <;> decide
theorem PcsOk.paper_valid {w h:Int} {n:Nat} {p:Nat→PcD} (ok:PcsOk w h n p):ValidL (q26 w h n p)∧(q26 w h n p).length≤33554432 :=
  q3l ok.paper.1 (fun x y hx=>((ok.paper.2 x y).1 hx).1) (by have:=ok.wd;omega) (by have:=ok.ht;omega)
theorem PcsOk.paper_small {w h:Int} {n:Nat} {p:Nat→PcD} (ok:PcsOk w h n p) (hw:w≤16) (hh:h≤16):(q26 w h n p).length≤131072:=by
  have h1:=z55 ok.paper.1 (fun x y hx=>((ok.paper.2 x y).1 hx).1)
  exact x2v ok.paper.1 fun r hr=>by have:=h1 r hr;omega
set_option maxHeartbeats 4000000 in
theorem z2f {A:Option Addr} {w h:Int} {n c:Nat} {key:Int} {p:Nat→PcD} {G:Mem} (ok:PcsOk w h n p) (e0:pcsE w h n p=0) (hP:PcsM G A n p) (hc:n≤c) (hm:c≤maxLen) :
    q2j Try.prog 29 [.agg [.val (.int .i64 w),.val (.int .i64 h),.val (.slice A n c),.val (.int .i64 key)]] G id 54 3 (q26 w h n p).length (q0o (q26 w h n p)):=by
  have hw:=ok.wd
  have hh:=ok.ht
  have mr0:=z9x 0 0 (16*w) (16*h) G (by omega) (by omega) (by omega) (by omega) (by omega) (by omega)
  rw [Int.sub_zero] at mr0
  obtain ⟨r1,r2⟩:=q7h (W:=16*w) (H:=16*h) (by omega) (by omega)
  have v1:=(q3l r1 (fun x y hx=>(r2 x y).1 hx) (by omega) (by omega)).1
  obtain ⟨v2,l2⟩:=ok.some_valid (sel:=fun _=>true)
  have mr:q2j Try.prog 50 [.val (.int .i64 0),.val (.int .i64 0),.val (.int .i64 (16*w)),.val (.int .i64 (16*h))] G (q34 0) 54 3 (q02 0 (16*w) 0 (16*h).toNat).length (q0o (q02 0 (16*w) 0 (16*h).toNat)):=by
    rw [z54,q5j];exact mr0
  refine q1y tab_ok Try.func29 (.alone fun _=>rfl) ?_
  (repeat ((try (conv=>whnf));(refine stQ ?_)))
  conv=>whnf
  refine q04 (fun vs w=>by kernel_rfl) (q00 0) (by kernel_rfl) mr fun A1 c1 G1 hG1 hc1 hm1 hx1=>?_
  have hA1:=RunsM.frozen hx1
  have mp:=z6j (c:=c) ok e0 (hP.mono hG1)
  (repeat ((try (conv=>whnf));(refine stQ ?_)))
  conv=>whnf
  refine q04 (fun vs w=>by kernel_rfl) (q00 0) (by kernel_rfl) mp fun A2 c2 G2 hG2 hc2 hm2 hx2=>?_
  have hA2:=RunsM.frozen hx2
  have mm:=z8s (hA1.mono hG2) hA2 hc1 hm1 hc2 hm2 (by unfold err2;rw [q2q v1,q2q v2];rfl)
  (repeat ((try (conv=>whnf));(refine stQ ?_)))
  conv=>whnf
  refine q15 (fun vs w=>by kernel_rfl) (q00 0) (by kernel_rfl) mm ?_
  (repeat ((try (conv=>whnf));(refine stQ ?_)))
  conv=>whnf
  exact .inl ⟨1,rfl,rfl⟩
end Go.Proofs.Ytbkhpddodmbdoaa
namespace Go.Proofs.Ytbkhpddodmbdoaa
open Go.RowKit
set_option maxRecDepth 20000
def shR (dx dy:Int) (r:Run):Run:=⟨r.y+dy,max (r.x0+dx) (-8192),min (r.x1+dx) 8192⟩
def inS (r:Run):Bool:=decide ((-8192≤r.y∧r.y≤8191)∧r.x0<r.x1)
def shL (dx dy:Int) (L:List Run):List Run:=(L.map (shR dx dy)).filter inS
theorem x4d {dx dy:Int} {L:List Run} {i:Nat} {r:Run} (h:L[i]? = some r):shL dx dy (L.take (i+1))=shL dx dy (L.take i)++(if inS (shR dx dy r)=true then [shR dx dy r] else []):=by
  unfold shL
  rw [List.take_add_one,h]
  simp only [Option.toList_some,List.map_append,List.map_cons,List.map_nil,List.filter_append]
  congr 1
  cases hi:inS (shR dx dy r) <;> simp [hi]
theorem x03 (dx dy:Int) (L:List Run):(shL dx dy L).length≤L.length:=by
  unfold shL
  exact Nat.le_trans (List.length_filter_le _ _) (by simp)
theorem x04 {dx dy:Int} {L:List Run} (v:ValidL L) {i:Nat} {r:Run} (h:L[i]? = some r):∀ q∈shL dx dy (L.take i),q.y<r.y+dy∨(q.y=r.y+dy∧q.x1<max (r.x0+dx) (-8192)):=fun q hq=>by
  unfold shL at hq
  obtain ⟨h1,_⟩:=List.mem_filter.1 hq
  obtain ⟨s,hs,rfl⟩:=List.mem_map.1 h1
  obtain ⟨j,hj⟩:=List.mem_iff_getElem?.1 hs
  rw [List.getElem?_take] at hj
  split at hj
  · rename_i hji
    have:=q9j v.ok hji hj h
    simp only [shR]
    omega
  · cases hj
section
variable {A:Option Addr} {L:List Run} {c:Nat} {G:Mem} {dx dy:Int}
set_option maxHeartbeats 4000000 in
theorem z80 (hR:RunsM G A L) (hc:L.length≤c) (hm:c≤maxLen) (he:errL L=0) (hx:-16384≤dx∧dx≤16384) (hy:-16384≤dy∧dy≤16384) :
    q2j Try.prog 58 [.val (.slice A L.length c),.val (.int .i64 dx),.val (.int .i64 dy)] G (q34 0) 54 3 (shL dx dy L).length (q0o (shL dx dy L)):=by
  have v:=q22 he
  have hC:=q5u hR hc hm
  rw [he] at hC
  unfold maxLen at hm
  have hll:=v.length
  refine q1y tab_ok Try.func58 (q00 0) ?_
  (repeat ((try (conv=>whnf));(first |(refine stQ ?_) |(with_reducible first |refine q0b (fun vs w=>by kernel_rfl) (by kernel_rfl) (hC) ?_ |refine q0a (fun vs w=>by kernel_rfl) (by kernel_rfl) (hC) ?_))))
  conv=>whnf
  refine q05 tab_ok (fun i=>i≤L.length) (fun (i:Nat)=>[(33,.val (.int .i64 i))]) (fun i=>[.cells 107 [.own 1],.own 54 3 (shL dx dy (L.take i)).length (q0o (shL dx dy (L.take i)))]) (fun i=>L.length-i) 0 (Nat.zero_le _) ?_ ?_
  · refine q3s 54 3 ?_
    conv=>whnf
    ((refine q0h ?_);(conv=>whnf);(refine q0k (by rfl) (by rfl) flQ ?_))
    exact q0f (by exact flQ) (q0e rfl rfl q0g)
  · rintro i hi
    rcases Nat.lt_or_ge i L.length with h1 |h1
    · obtain ⟨r,hr⟩:∃ r,L[i]? = some r:=⟨L[i],List.getElem?_eq_getElem h1⟩
      obtain ⟨p,rfl,ca⟩:=hR.cells hr
      have hb:=v.bd (List.mem_of_getElem? hr)
      have htk:=x4d (dx:=dx) (dy:=dy) hr
      have hsl:=x03 dx dy (L.take i)
      have hbef:=x04 (dx:=dx) (dy:=dy) v hr
      rw [List.length_take] at hsl
      have hins:inS (shR dx dy r)=decide ((-8192≤r.y+dy∧r.y+dy≤8191)∧max (r.x0+dx) (-8192)<min (r.x1+dx) 8192):=rfl
      have hne:shR dx dy r=⟨r.y+dy,max (r.x0+dx) (-8192),min (r.x1+dx) 8192⟩:=rfl
      have fin:((-8192≤r.y+dy∧r.y+dy≤8191)∧max (r.x0+dx) (-8192)<min (r.x1+dx) 8192)→shL dx dy (L.take (i+1))=shL dx dy (L.take i)++[⟨r.y+dy,max (r.x0+dx) (-8192),min (r.x1+dx) 8192⟩]:=fun h=>by
        rw [htk,hins,if_pos (by simpa using h),hne]
      have non:¬ ((-8192≤r.y+dy∧r.y+dy≤8191)∧max (r.x0+dx) (-8192)<min (r.x1+dx) 8192)→shL dx dy (L.take (i+1))=shL dx dy (L.take i):=fun h=>by
        rw [htk,hins,if_neg (by simpa using h),List.append_nil]
      clear htk hins hne
      by_cases e2:r.y+dy < -8192
      · (repeat ((try (conv=>whnf));(first |(refine ca _ ?_) |(refine stQ ?_) |(with_reducible refine q0c tab_ok Try.func38 (fun vs w=>by kernel_rfl) (by rfl) ?_))))
        refine ⟨i+1,by omega,by omega,?_⟩
        rw [non (by omega)]
        ((refine q0h ?_);(conv=>whnf);(refine q0k (by rfl) (by rfl) flQ ?_))
        exact q0f (by exact flQ) (q0e rfl rfl q0g)
      by_cases e3:8191<r.y+dy
      · (repeat ((try (conv=>whnf));(first |(refine ca _ ?_) |(refine stQ ?_) |(with_reducible refine q0c tab_ok Try.func38 (fun vs w=>by kernel_rfl) (by rfl) ?_))))
        refine ⟨i+1,by omega,by omega,?_⟩
        rw [non (by omega)]
        ((refine q0h ?_);(conv=>whnf);(refine q0k (by rfl) (by rfl) flQ ?_))
        exact q0f (by exact flQ) (q0e rfl rfl q0g)
      by_cases e4:min (r.x1+dx) 8192≤max (r.x0+dx) (-8192)
      · (repeat ((try (conv=>whnf));(first |(refine ca _ ?_) |(refine stQ ?_) |(with_reducible first |refine q0c tab_ok Try.func38 (fun vs w=>by kernel_rfl) (by rfl) ?_ |refine q0c tab_ok Try.func65 (fun vs w=>by kernel_rfl) (by rfl) ?_))))
        refine ⟨i+1,by omega,by omega,?_⟩
        rw [non (by omega)]
        ((refine q0h ?_);(conv=>whnf);(refine q0k (by rfl) (by rfl) flQ ?_))
        exact q0f (by exact flQ) (q0e rfl rfl q0g)
      · rcases q2r (shL dx dy (L.take i)) with hout |⟨K,q,hout⟩
        · have hlen:(shL dx dy (L.take i)).length=0:=by rw [hout];rfl
          (repeat ((try (conv=>whnf));(first |(refine ca _ ?_) |(refine stQ ?_) |(with_reducible first |refine q0c tab_ok Try.func38 (fun vs w=>by kernel_rfl) (by rfl) ?_ |refine q0c tab_ok Try.func65 (fun vs w=>by kernel_rfl) (by rfl) ?_))))
          conv=>whnf
          refine ⟨i+1,by omega,by omega,?_⟩
          refine q0y 4 1 rfl rfl rfl rfl ?_
          conv=>whnf
          ((refine q0h ?_);(conv=>whnf);(refine q0k (by rfl) (by rfl) flQ ?_))
          exact q0f (by exact flQ) (q0e (by rw [fin (by omega)];simp) (by rw [fin (by omega),q0x];rfl) q0g)
        · have hlen:(shL dx dy (L.take i)).length=K.length+1:=by rw [hout];simp
          have hix:((((shL dx dy (L.take i)).length:Nat):Int)-1).toNat=K.length:=by omega
          obtain ⟨q0,q1,q2⟩:=q4n K q
          rw [← hout,← hix] at q0 q1 q2
          rw [← Nat.add_zero (((((shL dx dy (L.take i)).length:Nat):Int)-1).toNat * 3)] at q0
          have hq:=hbef q (by rw [hout];simp)
          by_cases hy':q.y=r.y+dy
          · (repeat ((try (conv=>whnf));(first |(refine ca _ ?_) |(refine q0i (.int .i64 q.y) q0 ?_) |(refine q0i (.int .i64 q.x1) q2 ?_) |(refine stQ ?_) |(with_reducible first |refine q0c tab_ok Try.func38 (fun vs w=>by kernel_rfl) (by rfl) ?_ |refine q0c tab_ok Try.func65 (fun vs w=>by kernel_rfl) (by rfl) ?_))))
            conv=>whnf
            refine ⟨i+1,by omega,by omega,?_⟩
            refine q0y 4 1 rfl rfl rfl rfl ?_
            conv=>whnf
            ((refine q0h ?_);(conv=>whnf);(refine q0k (by rfl) (by rfl) flQ ?_))
            exact q0f (by exact flQ) (q0e (by rw [fin (by omega)];simp) (by rw [fin (by omega),q0x];rfl) q0g)
          · (repeat ((try (conv=>whnf));(first |(refine ca _ ?_) |(refine q0i (.int .i64 q.y) q0 ?_) |(refine q0i (.int .i64 q.x1) q2 ?_) |(refine stQ ?_) |(with_reducible first |refine q0c tab_ok Try.func38 (fun vs w=>by kernel_rfl) (by rfl) ?_ |refine q0c tab_ok Try.func65 (fun vs w=>by kernel_rfl) (by rfl) ?_))))
            conv=>whnf
            refine ⟨i+1,by omega,by omega,?_⟩
            refine q0y 4 1 rfl rfl rfl rfl ?_
            conv=>whnf
            ((refine q0h ?_);(conv=>whnf);(refine q0k (by rfl) (by rfl) flQ ?_))
            exact q0f (by exact flQ) (q0e (by rw [fin (by omega)];simp) (by rw [fin (by omega),q0x];rfl) q0g)
    · obtain rfl:i=L.length:=by omega
      (repeat ((try (conv=>whnf));(refine stQ ?_)))
      exact .inl ⟨1,rfl,by rw [List.take_length];rfl⟩
end
end Go.Proofs.Ytbkhpddodmbdoaa
namespace Go.Proofs.Ytbkhpddodmbdoaa
open Go.RowKit
theorem shL_mem {dx dy:Int} {L:List Run} {s:Run}:s∈shL dx dy L↔∃ r∈L,s=shR dx dy r∧inS s=true:=by
  simp only [shL,List.mem_filter,List.mem_map]
  constructor
  · rintro ⟨⟨r,h1,rfl⟩,h2⟩;exact ⟨r,h1,rfl,h2⟩
  · rintro ⟨r,h1,rfl,h2⟩;exact ⟨⟨r,h1,rfl⟩,h2⟩
theorem x2w {dx dy:Int}:∀ {L:List Run},okR L→okR (shL dx dy L)
  | [],_=>trivial
  | r::l,h=>by
    have ih:=x2w (dx:=dx) (dy:=dy) h.2.2
    have e:shL dx dy (r::l)=(if inS (shR dx dy r)=true then [shR dx dy r] else [])++shL dx dy l:=by
      simp only [shL,List.map_cons,List.filter_cons];split <;> rfl
    rw [e,okR_append]
    refine ⟨?_,ih,fun q hq s hs=>?_⟩
    · split
      · rename_i h1
        simp only [inS,decide_eq_true_eq] at h1
        exact ⟨h1.2,by simp,trivial⟩
      · trivial
    · split at hq
      · simp at hq;subst hq
        obtain ⟨t,ht,rfl,h2⟩:=shL_mem.1 hs
        have:=h.2.1 t ht
        simp only [shR]
        omega
      · cases hq
theorem z6d {dx dy:Int} {L:List Run} (h:okR L):ValidL (shL dx dy L):=by
  refine ValidL.mk (x2w h) fun s hs=>?_
  obtain ⟨r,hr,rfl,h2⟩:=shL_mem.1 hs
  simp only [inS,decide_eq_true_eq] at h2
  simp only [shR] at *
  omega
theorem x5a {dx dy:Int} {L:List Run} {x y:Int} (hx:-8192≤x∧x≤8191) (hy:-8192≤y∧y≤8191):hasR (shL dx dy L) x y↔hasR L (x-dx) (y-dy):=by
  constructor
  · rintro ⟨s,hs,h1,h2,h3⟩
    obtain ⟨r,hr,rfl,_⟩:=shL_mem.1 hs
    simp only [shR] at h1 h2 h3
    exact ⟨r,hr,by omega,by omega,by omega⟩
  · rintro ⟨r,hr,h1,h2,h3⟩
    refine ⟨shR dx dy r,shL_mem.2 ⟨r,hr,rfl,?_⟩,?_,?_,?_⟩
    · unfold inS
      rw [decide_eq_true_eq]
      simp only [shR];omega
    · simp only [shR];omega
    · simp only [shR];omega
    · simp only [shR];omega
noncomputable def q3b (w h dx dy:Int) (L:List Run):List Run:=mixR 1 (shL dx dy L) (q02 0 (16*w) 0 (16*h).toNat)
theorem q8k {w h dx dy:Int} {L:List Run} (hw:1≤w∧w≤256) (hh:1≤h∧h≤256) (v:okR L):okR (q3b w h dx dy L)∧∀ x y,hasR (q3b w h dx dy L) x y↔((0≤x∧x<16*w)∧0≤y∧y<16*h)∧hasR L (x-dx) (y-dy):=by
  obtain ⟨r1,r2⟩:=q7h (W:=16*w) (H:=16*h) (by omega) (by omega)
  have v1:=(q3l r1 (fun x y hx=>(r2 x y).1 hx) (by omega) (by omega)).1
  obtain ⟨m1,m2⟩:=q44 (c:=1) (z6d (dx:=dx) (dy:=dy) v) v1
  refine ⟨m1,fun x y=>?_⟩
  unfold q3b
  rw [m2]
  have e1:hasL (q02 0 (16*w) 0 (16*h).toNat) x y=true↔_:=hasL_iff.trans (r2 x y)
  by_cases hp:(0≤x∧x<16*w)∧0≤y∧y<16*h
  · have e2:hasL (shL dx dy L) x y=true↔hasR L (x-dx) (y-dy):=hasL_iff.trans (x5a (by omega) (by omega))
    rw [← e2,e1.2 hp]
    cases hasL (shL dx dy L) x y <;> simp [opB,hp]
  · have e3:hasL (q02 0 (16*w) 0 (16*h).toNat) x y=false:=by
      cases hc:hasL (q02 0 (16*w) 0 (16*h).toNat) x y with
      | false=>rfl
      | true=>exact absurd (e1.1 hc) hp
    rw [e3]
    cases hasL (shL dx dy L) x y <;> simp [opB,hp]
theorem q6n {w h dx dy:Int} {L:List Run} (hw:1≤w∧w≤256) (hh:1≤h∧h≤256) (v:okR L):ValidL (q3b w h dx dy L)∧(q3b w h dx dy L).length≤33554432 :=
  q3l (q8k hw hh v).1 (fun x y hx=>(((q8k hw hh v).2 x y).1 hx).1) (by omega) (by omega)
noncomputable def q7i (p:Nat→PcD) (n key ink:Nat):List Run:=mixR 1 (q2k p (fun I=>decide (255≤I key)) n) (q2k p (fun I=>decide (1≤I ink)) n)
theorem PcsOk.under {w h:Int} {n key ink:Nat} {p:Nat→PcD} (ok:PcsOk w h n p):okR (q7i p n key ink)∧∀ x y,hasR (q7i p n key ink) x y↔(∃ k,k<n∧255≤(p k).I key∧hasR (p k).L x y)∧∃ k,k<n∧1≤(p k).I ink∧hasR (p k).L x y:=by
  obtain ⟨m1,m2⟩:=q44 (c:=1) (ok.some_valid (sel:=fun I=>decide (255≤I key))).1 (ok.some_valid (sel:=fun I=>decide (1≤I ink))).1
  refine ⟨m1,fun x y=>?_⟩
  unfold q7i
  rw [m2]
  have e1:hasL (q2k p (fun I=>decide (255≤I key)) n) x y=true↔∃ k,k<n∧255≤(p k).I key∧hasR (p k).L x y:=by
    rw [hasL_iff,ok.some_ok.2];simp
  have e2:hasL (q2k p (fun I=>decide (1≤I ink)) n) x y=true↔∃ k,k<n∧1≤(p k).I ink∧hasR (p k).L x y:=by
    rw [hasL_iff,ok.some_ok.2];simp
  rw [← e1,← e2]
  generalize hasL (q2k p (fun I=>decide (255≤I key)) n) x y=a
  generalize hasL (q2k p (fun I=>decide (1≤I ink)) n) x y=b
  cases a <;> cases b <;> decide
theorem PcsOk.under_valid {w h:Int} {n key ink:Nat} {p:Nat→PcD} (ok:PcsOk w h n p):ValidL (q7i p n key ink)∧(q7i p n key ink).length≤33554432 :=
  q3l ok.under.1 (fun x y hx=>by
    obtain ⟨⟨k,h1,h2,h3⟩,_⟩:=(ok.under.2 x y).1 hx
    exact ok.page h1 h3) (by have:=ok.wd;omega) (by have:=ok.ht;omega)
noncomputable def q47 (w h:Int) (n:Nat) (p:Nat→PcD) (key ink:Nat) (dx dy:Int):List Run:=mixR 1 (q26 w h n p) (q3b w h dx dy (q7i p n key ink))
theorem PcsOk.fringe {w h:Int} {n key ink:Nat} {p:Nat→PcD} {dx dy:Int} (ok:PcsOk w h n p):okR (q47 w h n p key ink dx dy)∧∀ x y,hasR (q47 w h n p key ink dx dy) x y↔hasR (q26 w h n p) x y∧hasR (q3b w h dx dy (q7i p n key ink)) x y:=by
  obtain ⟨m1,m2⟩:=q44 (c:=1) ok.paper_valid.1 (q6n (dx:=dx) (dy:=dy) ok.wd ok.ht (ok.under (key:=key) (ink:=ink)).1).1
  refine ⟨m1,fun x y=>?_⟩
  unfold q47
  rw [m2,← hasL_iff,← hasL_iff]
  generalize hasL (q26 w h n p) x y=a
  generalize hasL (q3b w h dx dy (q7i p n key ink)) x y=b
  cases a <;> cases b <;> decide
theorem PcsOk.fringe_valid {w h:Int} {n key ink:Nat} {p:Nat→PcD} {dx dy:Int} (ok:PcsOk w h n p):ValidL (q47 w h n p key ink dx dy)∧(q47 w h n p key ink dx dy).length≤33554432 :=
  q3l ok.fringe.1 (fun x y hx=>((ok.paper.2 x y).1 ((ok.fringe.2 x y).1 hx).1).1) (by have:=ok.wd;omega) (by have:=ok.ht;omega)
end Go.Proofs.Ytbkhpddodmbdoaa
namespace Go.Proofs.Ytbkhpddodmbdoaa
open Go.RowKit
set_option maxRecDepth 20000
section
variable {A B:Option Addr} {La Lb:List Run} {c d:Nat} {G:Mem}
end
theorem z2w (p q:Bool) (G:Mem):Gives Try.prog 60 [.val (.bool p),.val (.bool q)] G (.val (.bool (opB 1 p q))):=by
  refine q1n tab_ok Try.func60 ?_
  cases p <;> cases q <;> ((repeat ((try (conv=>whnf));(first |(with_reducible refine z0y (by kernel_rfl) ?_) |(refine stQ ?_))))) <;> exact ⟨rfl,rfl⟩
theorem q6o {A B:Option Addr} {La Lb:List Run} {c d:Nat} {G:Mem} (hA:RunsM G A La) (hB:RunsM G B Lb) (hc:La.length≤c) (hc':c≤maxLen) (hd:Lb.length≤d) (hd':d≤maxLen) (he:err2 La Lb=0) :
    q2j Try.prog 37 [.val (.slice A La.length c),.val (.slice B Lb.length d)] G (q34 0) 54 3 (mixR 1 La Lb).length (q0o (mixR 1 La Lb)):=by
  have g:=z36 60 1 (fun vs w=>by kernel_rfl) z2w hA hB hc hc' hd hd' he
  refine q1y tab_ok Try.func37 (q00 0) ?_
  (repeat ((try (conv=>whnf));(refine stQ ?_)))
  conv=>whnf
  refine q15 (fun vs w=>by kernel_rfl) (q00 0) (by kernel_rfl) g ?_
  (repeat ((try (conv=>whnf));(refine stQ ?_)))
  conv=>whnf
  exact .inl ⟨0,rfl,rfl⟩
end Go.Proofs.Ytbkhpddodmbdoaa
