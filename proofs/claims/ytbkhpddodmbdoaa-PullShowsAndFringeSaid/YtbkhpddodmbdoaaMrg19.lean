/-
  Merged: XRegions, XEdged, XErodeR, XSomeLaw, XJoinCmp, XFm.
-/
import Derived.Sort.Grow
import Derived.Deep.Draws
import Derived.Test.YtbkhpddodmbdoaaMrg13
import Derived.Test.YtbkhpddodmbdoaaMrg18
import Derived.Test.YtbkhpddodmbdoaaGb
import Derived.Test.YtbkhpddodmbdoaaMrg17
import Derived.Test.YtbkhpddodmbdoaaCombined
import Derived.Test.YtbkhpddodmbdoaaMrg11
import Derived.Test.YtbkhpddodmbdoaaMrg12
import Derived.Test.YtbkhpddodmbdoaaShelf
import Derived.Test.YtbkhpddodmbdoaaMrg5
import Derived.Test.YtbkhpddodmbdoaaMrg10
import Derived.Test.YtbkhpddodmbdoaaMrg6
set_option linter.unusedVariables false
set_option linter.unusedSimpArgs false
set_option linter.unnecessarySimpa false
namespace Go.Proofs.Ytbkhpddodmbdoaa
open Go.RowKit
set_option maxRecDepth 20000
def q02 (x0 x1 y:Int) (n:Nat):List Run:=(List.range n).map fun (i:Nat)=>⟨y+i,x0,x1⟩
theorem z54 (x0 x1 y:Int) (n:Nat):q0o (q02 x0 x1 y n)=q4k x0 x1 y n:=by
  unfold q4k q02 q0o;rw [List.flatMap_map]
theorem q5j (x0 x1 y:Int) (n:Nat):(q02 x0 x1 y n).length=n:=by simp [q02]
theorem RunsM.take {G:Mem} {A:Option Addr} {L:List Run} (h:RunsM G A L) (n:Nat):RunsM G A (L.take n):=fun i r hr=>by
  rw [List.getElem?_take] at hr
  split at hr
  · exact h i r hr
  · cases hr
end Go.Proofs.Ytbkhpddodmbdoaa
namespace Go.Proofs.Ytbkhpddodmbdoaa
open Go.RowKit
set_option maxRecDepth 20000
theorem x0w {G:Mem} {b:Nat} {cs:Array Value} {E:TypeId} (h:G b=some (.cells cs E (0,0))) {j:Nat} {u:Value} (hj:cs[j]? = some u):G.cell? ⟨b,j,none⟩=some u:=by
  unfold Mem.cell?
  rw [h]
  exact hj
def q63 (y:Nat):List Pc:=[([],q02 0 8 0 y),([],q02 8 16 0 y)]
theorem z39 (x0 x1 y:Int) (n:Nat):q02 x0 x1 y (n+1)=q02 x0 x1 y n++[⟨y+n,x0,x1⟩]:=by simp [q02,List.range_succ]
theorem x0x (y:Nat):((q63 y).set 0 ([],q02 0 8 0 y++[⟨(y:Int),0,8⟩])).set 1 ([],q02 8 16 0 y++[⟨(y:Int),8,16⟩])=q63 (y+1):=by
  simp [q63,z39]
def edgI (j:Nat):Int:=if j=0 then 255 else if j=1 then 100 else 0
def edgP (A:Option Addr) (q:Nat):Nat→PcD:=fun _=>⟨q02 0 8 0 16,A,q,edgI⟩
set_option maxHeartbeats 4000000 in
theorem z1g {G:Mem}:z77 Try.prog 25 [] G fun v F=>∃ A B q,v=.slice A 1 2∧PcsM F A 1 (edgP B q):=by
  refine x2m tab_ok Try.func25 ?_
  (repeat ((try (conv=>whnf));(first |(refine stQ ?_) |(with_reducible refine q0c tab_ok Try.func47 (fun vs w=>by kernel_rfl) (by rfl) ?_))))
  conv=>whnf
  have hg0:PRowsM G 54 (fun _=>False) G (q63 0) (fun _=>.slice none 0 0) :=
    ⟨Mem.le_refl _,(fun k p hk=>by
      have:p.2=[]:=by
        match k,hk with
        | 0,hk=>simp [q63,q02] at hk;rw [← hk]
        | 1,hk=>simp [q63,q02] at hk;rw [← hk]
        | k+2,hk=>simp [q63] at hk
      rw [this];exact RowS.nil _ _ _ _),(fun k l b _ _ _ hb=>by cases hb),(fun k b _ hb=>by cases hb)⟩
  refine q84 tab_ok (ι:=Nat × GSt) (fun s=>s.1≤16∧PRowsM G 54 s.2.S s.2.M (q63 s.1) s.2.B) (fun s=>match s with |(y,st)=>[(3,.val (.int .i64 y)),(1,.val (st.B 0)),(2,.val (st.B 1))])
    (fun s=>[.muts s.2.S]) (fun s=>s.2.M) (fun s=>16-s.1) (0,⟨fun _=>False,fun _=>.slice none 0 0,G⟩) ⟨Nat.zero_le _,hg0⟩ ?_ ?_
  · ((refine q0h ?_);(conv=>whnf);(refine q0k (by rfl) (by rfl) flQ ?_))
    exact q0w (fun _ h=>h) q0g
  · rintro ⟨y,st⟩ ⟨hy,hg⟩
    dsimp only at hy hg ⊢
    rcases Nat.lt_or_ge y 16 with h1 |h1
    · have r0:=hg.rows 0 _ rfl
      have l0:(q02 0 8 0 y).length=y:=q5j _ _ _ _
      have l1:(q02 8 16 0 y).length=y:=q5j _ _ _ _
      (repeat ((try (conv=>whnf));(refine stQ ?_)))
      conv=>whnf
      refine q3o tab_ok 0 (by exact rfl) (by exact rfl) ?_
      conv=>whnf
      refine ⟨_,_,r0,show ((q02 0 8 0 y).length+1)*24≤140737488355328 by omega,fun v2 S2 M2 hG2 hr2=>?_⟩
      have hg2:=hg.app (k:=0) (r:=⟨(y:Int),0,8⟩) rfl hG2 (by rw [q5i];exact hr2)
      have r1:=hg2.rows 1 _ rfl
      conv=>whnf
      (repeat ((try (conv=>whnf));(refine stQ ?_)))
      conv=>whnf
      have e1:putV st.B 0 v2 1=st.B 1:=q18 (by decide)
      rw [e1] at r1
      refine q3o tab_ok 0 (by exact rfl) (by exact rfl) ?_
      conv=>whnf
      refine ⟨_,_,r1,show ((q02 8 16 0 y).length+1)*24≤140737488355328 by omega,fun v3 S3 M3 hG3 hr3=>?_⟩
      have hg3:=hg2.app (k:=1) (r:=⟨(y:Int),8,16⟩) rfl (by rw [e1];exact hG3) (by rw [q5i];exact hr3)
      rw [x0x] at hg3
      conv=>whnf
      (repeat ((try (conv=>whnf));(refine stQ ?_)))
      conv=>whnf
      refine ⟨(y+1,⟨S3,putV (putV st.B 0 v2) 1 v3,M3⟩),⟨by omega,hg3⟩,by dsimp only;omega,?_⟩
      dsimp only
      rw [q1x,show putV (putV st.B 0 v2) 1 v3 0=v2 from rfl]
      ((refine q0h ?_);(conv=>whnf);(refine q0k (by rfl) (by rfl) flQ ?_))
      exact q0w (fun _ h=>h) q0g
    · obtain rfl:y=16:=by omega
      have r0:=hg.rows 0 _ rfl
      obtain ⟨A0,c0,e0,k1,k2⟩:=r0.isSl
      have r1:=hg.rows 1 _ rfl
      obtain ⟨A1,c1,e1,k3,k4⟩:=r1.isSl
      rw [e0,e1]
      (repeat ((try (conv=>whnf));(first |(with_reducible refine x33 tab_ok 0 true ?_) |(refine stQ ?_))))
      conv=>whnf
      intro b G1 hb hSb hG1
      conv=>whnf
      (repeat ((try (conv=>whnf));(refine stQ ?_)))
      conv=>whnf
      have hx:AV.val (.pointer (some (Addr.add (Addr.add ⟨b,0,none⟩ (Int.toNat 0*9)) 1)))=.val (.pointer (some ⟨b,0+Int.toNat 0*9+1,none⟩)):=by rw [q0t,q0t]
      have hGb:G1 b=some (.cells #[Value.slice A0 16 c0,.int .u8 255,.int .u8 0,.int .u8 0,.int .u8 0,.int .u8 0,.int .u8 0,.int .u8 0,.int .u8 0,Value.slice A1 16 c1,.int .u8 0,.int .u8 200,.int .u8 0,.int .u8 0,.int .u8 0,.int .u8 0,.int .u8 0,.int .u8 0] 29 (0,0)):=by
        rw [hG1,Mem.put_same];rfl
      refine x0v tab_ok 0 (by exact rfl) (Eq.trans (by exact rfl) hx) hGb ?_
      conv=>whnf
      refine ⟨.inr rfl,Nat.le_of_ble_eq_true rfl,fun G2 hG2=>?_⟩
      conv=>whnf
      (repeat ((try (conv=>whnf));(refine stQ ?_)))
      conv=>whnf
      have hb2:G2 b=some (.cells #[Value.slice A0 16 c0,.int .u8 255,.int .u8 100,.int .u8 0,.int .u8 0,.int .u8 0,.int .u8 0,.int .u8 0,.int .u8 0,Value.slice A1 16 c1,.int .u8 0,.int .u8 200,.int .u8 0,.int .u8 0,.int .u8 0,.int .u8 0,.int .u8 0,.int .u8 0] 29 (0,0)):=by
        rw [hG2,Mem.put_same];rfl
      have hle:st.M.le G2:=fun c o hc=>by
        have hne:c≠b:=fun e=>by rw [e,hb] at hc;cases hc
        rw [hG2,Mem.put_ne _ _ hne,hG1,Mem.put_ne _ _ hne];exact hc
      have hp:=(hg.piece (k:=0) rfl).2.2.2.2
      have eA:(gatP (q63 16) st.B 0).A=A0:=by simp [gatP,e0,slA]
      have eL:(gatP (q63 16) st.B 0).L=q02 0 8 0 16:=rfl
      rw [eA,eL] at hp
      refine ⟨_,rfl,_,A0,c0,rfl,⟨⟨fun x _=>rfl,fun x hx=>⟨b,0,rfl,fun j v hj=>?_⟩⟩,fun i hi=>hp.mono hle,fun i hi=>⟨k1,k2⟩,fun i hi j=>?_⟩⟩
      · obtain rfl:x=0:=by omega
        rw [show 0+0*9+j=j by omega]
        refine x0w hb2 ?_
        have hj9:j<9:=(List.getElem?_eq_some_iff.1 hj).1
        have h9:j=0∨j=1∨j=2∨j=3∨j=4∨j=5∨j=6∨j=7∨j=8:=by omega
        rcases h9 with rfl |rfl |rfl |rfl |rfl |rfl |rfl |rfl |rfl <;> exact hj
      · show 0≤edgI j∧edgI j≤255
        unfold edgI;split
        · omega
        · split <;> omega
end Go.Proofs.Ytbkhpddodmbdoaa
namespace Go.Proofs.Ytbkhpddodmbdoaa
open Go.RowKit
set_option maxRecDepth 20000
theorem x2n {E:List Run} (h:okR E) {s:Run} (hs:s∈E):hasR E s.x0 s.y∧hasR E (s.x1-1) s.y:=by
  have hx:=q2v h hs
  exact ⟨⟨s,hs,rfl,by omega,hx⟩,⟨s,hs,rfl,by omega,by omega⟩⟩
structure EdgF (f g:Run→Int) (P:Run→Prop) (L:List Run) (i:Nat) (l:List Int):Prop where
  le:i≤L.length
  srt:q3a l
  len:l.length≤2*i
  bd:∀ z∈l,-9000≤z∧z≤9000
  has:∀ (j:Nat) r,j<i→L[j]? = some r→P r→f r∈l∧g r∈l
theorem EdgF.start (f g:Run→Int) (P:Run→Prop) (L:List Run):EdgF f g P L 0 [] :=
  ⟨Nat.zero_le _,by simp [q3a],Nat.le_refl _,(by simp),fun j r hj=>by omega⟩
theorem EdgF.skip {f g:Run→Int} {P:Run→Prop} {L:List Run} {i:Nat} {l:List Int} (h:EdgF f g P L i l) {r:Run} (hr:L[i]? = some r) (hy:¬ P r):EdgF f g P L (i+1) l :=
  ⟨(List.getElem?_eq_some_iff.1 hr).1,h.srt,by have:=h.len;omega,h.bd,fun j q hj hq hqy=>by
    rcases Nat.lt_or_ge j i with h1 |h1
    · exact h.has j q h1 hq hqy
    · have:j=i:=by omega
      subst this;rw [hr] at hq;cases hq;exact absurd hqy hy⟩
theorem EdgF.step {f g:Run→Int} {P:Run→Prop} {L:List Run} {i:Nat} {l:List Int} (h:EdgF f g P L i l) {r:Run} (hr:L[i]? = some r) {a b:Int} (ha:f r=a) (hb:g r=b) (h1:-9000≤a∧a≤9000) (h2:-9000≤b∧b≤9000):EdgF f g P L (i+1) (ins b (ins a l)) :=
  ⟨(List.getElem?_eq_some_iff.1 hr).1,q5p (q5p h.srt),by
    have:=q4t (x:=b) (l:=ins a l);have:=q4t (x:=a) (l:=l);have:=h.len;omega,fun z hz=>by
    rcases mem_ins.1 hz with rfl |hz
    · exact h2
    · rcases mem_ins.1 hz with rfl |hz
      · exact h1
      · exact h.bd z hz,fun j q hj hq hqy=>by
    rcases Nat.lt_or_ge j i with h1 |h1
    · have:=h.has j q h1 hq hqy
      exact ⟨mem_ins.2 (.inr (mem_ins.2 (.inr this.1))),mem_ins.2 (.inr (mem_ins.2 (.inr this.2)))⟩
    · have:j=i:=by omega
      subst this;rw [hr] at hq;cases hq
      exact ⟨mem_ins.2 (.inr (mem_ins.2 (.inl ha))),mem_ins.2 (.inl hb)⟩⟩
theorem EdgF.borders {f g:Run→Int} {P:Run→Prop} {L E:List Run} {Y:Int} {l:List Int} (h:EdgF f g P L L.length l) (hE:∀ s∈E,s.y=Y→(∃ r∈L,P r∧f r=s.x0∨r∈L∧P r∧g r=s.x0)∧(∃ r∈L,P r∧f r=s.x1∨r∈L∧P r∧g r=s.x1)):Borders (nthR E) (nthR []) E.length 0 Y l:=by
  have key:∀ z,(∃ r∈L,P r∧f r=z∨r∈L∧P r∧g r=z)→z∈l:=by
    rintro z ⟨r,hr,h1⟩
    obtain ⟨j,hj⟩:=List.getElem?_of_mem hr
    have hjl:=(List.getElem?_eq_some_iff.1 hj).1
    rcases h1 with ⟨h2,h3⟩ |⟨_,h2,h3⟩
    · rw [← h3];exact (h.has j r hjl hj h2).1
    · rw [← h3];exact (h.has j r hjl hj h2).2
  refine ⟨h.srt,fun i hi hy=>?_,fun i hi=>by omega⟩
  have hq:E[i]? = some E[i]:=List.getElem?_eq_getElem hi
  rw [q39 hq] at hy ⊢
  obtain ⟨h1,h2⟩:=hE _ (List.getElem_mem hi) hy
  exact ⟨key _ h1,key _ h2⟩
end Go.Proofs.Ytbkhpddodmbdoaa
namespace Go.Proofs.Ytbkhpddodmbdoaa
open Go.RowKit
def catL (p:Nat→PcD) (sel:(Nat→Int)→Bool):Nat→List Run
  | 0=>[]
  | n+1=>if sel (p n).I=true then catL p sel n++(p n).L else catL p sel n
theorem q97 {p:Nat→PcD} {sel:(Nat→Int)→Bool} {n:Nat} (h:sel (p n).I=true):catL p sel (n+1)=catL p sel n++(p n).L:=if_pos h
theorem z4y {p:Nat→PcD} {sel:(Nat→Int)→Bool} {n:Nat} (h:sel (p n).I=false):catL p sel (n+1)=catL p sel n:=if_neg (by simp [h])
theorem z78 {p:Nat→PcD} {sel:(Nat→Int)→Bool} {B:Nat}:∀ {n:Nat},(∀ k,k<n→(p k).L.length≤B)→(catL p sel n).length≤n*B
  | 0,_=>by simp [catL]
  | n+1,h=>by
    have ih:=z78 (sel:=sel) (n:=n) (fun k hk=>h k (by omega))
    have h1:=h n (by omega)
    have e:(n+1)*B=n*B+B:=Nat.succ_mul n B
    cases hs:sel (p n).I with
    | true=>rw [q97 hs,List.length_append];omega
    | false=>rw [z4y hs];omega
theorem catL_mem {p:Nat→PcD} {sel:(Nat→Int)→Bool} {r:Run}:∀ {n:Nat},r∈catL p sel n↔∃ k,k<n∧sel (p k).I=true∧r∈(p k).L
  | 0=>by simp [catL]
  | n+1=>by
    have ih:=catL_mem (p:=p) (sel:=sel) (r:=r) (n:=n)
    cases hs:sel (p n).I with
    | true =>
      rw [q97 hs,List.mem_append,ih]
      constructor
      · rintro (⟨k,h1,h2,h3⟩ |h3)
        · exact ⟨k,by omega,h2,h3⟩
        · exact ⟨n,by omega,hs,h3⟩
      · rintro ⟨k,h1,h2,h3⟩
        by_cases e:k=n
        · subst e;exact .inr h3
        · exact .inl ⟨k,by omega,h2,h3⟩
    | false =>
      rw [z4y hs,ih]
      constructor
      · rintro ⟨k,h1,h2,h3⟩;exact ⟨k,by omega,h2,h3⟩
      · rintro ⟨k,h1,h2,h3⟩
        by_cases e:k=n
        · subst e;rw [hs] at h2;cases h2
        · exact ⟨k,by omega,h2,h3⟩
theorem x34 {p:Nat→PcD} {sel:(Nat→Int)→Bool} {n:Nat} {x y:Int}:hasR (catL p sel n) x y↔∃ k,k<n∧sel (p k).I=true∧hasR (p k).L x y:=by
  constructor
  · rintro ⟨r,h,h2⟩
    obtain ⟨k,h3,h4,h5⟩:=catL_mem.1 h
    exact ⟨k,h3,h4,r,h5,h2⟩
  · rintro ⟨k,h3,h4,r,h5,h2⟩
    exact ⟨r,catL_mem.2 ⟨k,h3,h4,h5⟩,h2⟩
theorem z79 {L:List Run} (h:okR L) (hb:∀ r∈L,(0≤r.y∧r.y<4096)∧0≤r.x0∧r.x1≤4096):L.length≤33554432:=by
  have hp:(L.map fun r=>r.y*8192+r.x1).Pairwise (·<·):=by
    rw [List.pairwise_map,List.pairwise_iff_getElem]
    intro i j hi hj hij
    have h1:=q9j h hij (List.getElem?_eq_getElem hi) (List.getElem?_eq_getElem hj)
    have h2:=hb _ (List.getElem_mem hi)
    have h3:=hb _ (List.getElem_mem hj)
    have h4:=q2v h (List.getElem_mem hj)
    have h5:=q2v h (List.getElem_mem hi)
    omega
  have:=q9c hp (B:=33554432) (fun z hz=>by
    obtain ⟨r,hr,rfl⟩:=List.mem_map.1 hz
    have h1:=hb r hr
    have h2:=q2v h hr
    omega)
  simpa using this
theorem PcsOk.valid {w h:Int} {n:Nat} {p:Nat→PcD} (ok:PcsOk w h n p) {k:Nat} (hk:k<n):ValidL (p k).L:=q22 (ok.one k hk).1
theorem PcsOk.short {w h:Int} {n:Nat} {p:Nat→PcD} (ok:PcsOk w h n p) {k:Nat} (hk:k<n):(p k).L.length≤33554432:=by
  refine z79 (ok.valid hk).ok fun r hr=>?_
  have:=(ok.one k hk).2.2.1 r hr
  have hw:=ok.wd
  have hh:=ok.ht
  unfold outP at this
  omega
theorem PcsOk.cat_len {w h:Int} {n m:Nat} {p:Nat→PcD} {sel:(Nat→Int)→Bool} (ok:PcsOk w h n p) (hm:m≤n):(catL p sel m).length≤137438953472:=by
  have h1:=z78 (sel:=sel) (B:=33554432) (n:=m) fun k hk=>ok.short (k:=k) (by omega)
  have h2:=ok.few
  omega
theorem PcsOk.cat_bd {w h:Int} {n:Nat} {p:Nat→PcD} {sel:(Nat→Int)→Bool} (ok:PcsOk w h n p) {r:Run} (hr:r∈catL p sel n):(0≤r.y∧r.y<16*h)∧0≤r.x0∧r.x0<r.x1∧r.x1≤16*w:=by
  obtain ⟨k,h1,h2,h3⟩:=catL_mem.1 hr
  have h4:=(ok.one k h1).2.2.1 r h3
  have h5:=(ok.valid h1).bd h3
  unfold outP at h4
  omega
noncomputable def q2k (p:Nat→PcD) (sel:(Nat→Int)→Bool) (n:Nat):List Run:=q4v (catL p sel n)
theorem PcsOk.some_ok {w h:Int} {n:Nat} {p:Nat→PcD} {sel:(Nat→Int)→Bool} (ok:PcsOk w h n p):okR (q2k p sel n)∧∀ x y,hasR (q2k p sel n) x y↔∃ k,k<n∧sel (p k).I=true∧hasR (p k).L x y:=by
  obtain ⟨N,h1,h2⟩:=x4o (catL p sel n) [] trivial (fun r hr=>(ok.cat_bd hr).2.2.1)
  have e:q4v (catL p sel n)=N:=z2r h1 fun u v=>by rw [h2];exact ⟨fun h=>h.resolve_left q28,.inr⟩
  unfold q2k
  rw [e]
  refine ⟨h1,fun x y=>?_⟩
  rw [h2,x34]
  exact ⟨fun h=>h.resolve_left q28,.inr⟩
theorem z55 {L:List Run} {W H:Int} (h:okR L) (hb:∀ x y,hasR L x y→(0≤x∧x<W)∧0≤y∧y<H):∀ r∈L,(0≤r.y∧r.y<H)∧0≤r.x0∧r.x0<r.x1∧r.x1≤W:=fun r hr=>by
  obtain ⟨g1,g2⟩:=x2n h hr
  have:=hb _ _ g1
  have:=hb _ _ g2
  have:=q2v h hr
  omega
theorem PcsOk.some_page {w h:Int} {n:Nat} {p:Nat→PcD} {sel:(Nat→Int)→Bool} (ok:PcsOk w h n p) {x y:Int} (hx:hasR (q2k p sel n) x y):(0≤x∧x<16*w)∧0≤y∧y<16*h:=by
  obtain ⟨k,h1,h2,h3⟩:=ok.some_ok.2 x y |>.1 hx
  exact ok.page h1 h3
theorem q3l {L:List Run} {W H:Int} (h:okR L) (hb:∀ x y,hasR L x y→(0≤x∧x<W)∧0≤y∧y<H) (hW:W≤4096) (hH:H≤4096):ValidL L∧L.length≤33554432:=by
  have h1:=z55 h hb
  refine ⟨ValidL.mk h fun r hr=>?_,z79 h fun r hr=>?_⟩
  · have:=h1 r hr;omega
  · have:=h1 r hr;omega
theorem PcsOk.some_valid {w h:Int} {n:Nat} {p:Nat→PcD} {sel:(Nat→Int)→Bool} (ok:PcsOk w h n p):ValidL (q2k p sel n)∧(q2k p sel n).length≤33554432 :=
  q3l ok.some_ok.1 (fun x y hx=>ok.some_page hx) (by have:=ok.wd;omega) (by have:=ok.ht;omega)
end Go.Proofs.Ytbkhpddodmbdoaa
namespace Go.Proofs.Ytbkhpddodmbdoaa
open Go.RowKit Go.Shelf Go.Lib Go.Sort
set_option maxRecDepth 20000
set_option maxHeartbeats 2000000 in
theorem x35 (b:Nat) (a c:Int) (W:World) (h0:W.cell? ⟨b,0,none⟩=some (.int .i64 a)) (h1:W.cell? ⟨b,1,none⟩=some (.int .i64 c)) :
    Calls Try.prog 42 #[.slice (some ⟨b,0,none⟩) 2 2] W fun e w'=>e=.returned (.int .i64 (orI a c))∧∃ q,w'=W.drewN q:=by
  go_enter Try.func42,Try.ntmps42
  by_cases ha:a=0
  · subst ha
    go_wp2
    refine wp_loop_rounds 3 ?_
    rw [rounds_succ]
    go_wp2
    repeat any_goals (rw [rounds_succ];go_wp2)
    all_goals go_ret
    all_goals ((try have hc:c=0:=by simpa using ‹(c != 0)=false›);(try subst hc);exact ⟨by simp [orI],0,rfl⟩)
  · go_wp2
    refine wp_loop_rounds 3 ?_
    rw [rounds_succ]
    go_wp2
    repeat any_goals (rw [rounds_succ];go_wp2)
    all_goals go_ret
    all_goals exact ⟨by simp [orI,ha],0,rfl⟩
structure BRun where
  r:Run
  hy:-1152921504606846976≤r.y∧r.y≤1152921504606846976
  hx:-1152921504606846976≤r.x0∧r.x0≤1152921504606846976
instance:Inhabited BRun:=⟨⟨⟨0,0,0⟩,by simp,by simp⟩⟩
def encB (r:BRun):List Value:=[.int .i64 r.r.y,.int .i64 r.r.x0,.int .i64 r.r.x1]
def cmpB (r s:BRun):Int:=orI (r.r.y-s.r.y) (r.r.x0-s.r.x0)
set_option maxHeartbeats 2000000 in
theorem x36 (x y:BRun) (W:World):Calls Try.prog 83 #[.agg (encB x).toArray,.agg (encB y).toArray] W fun e w'=>e=.returned (.int .i64 (cmpB x y))∧∃ q os',w'=grow (W.drewN q) os':=by
  obtain ⟨⟨a,b,c⟩,h1,h2⟩:=x
  obtain ⟨⟨d,e,f⟩,h3,h4⟩:=y
  simp only at h1 h2 h3 h4
  have hcon:=fun k W' h h'=>x35 k (a-d) (b-e) W' h h'
  simp only [cmpB,encB]
  generalize hr:orI (a-d) (b-e)=r at hcon
  have w1:IntKind.i64.wrap (a-d)=a-d:=IntWalk.i64_in _ (by omega)
  have w2:IntKind.i64.wrap (b-e)=b-e:=IntWalk.i64_in _ (by omega)
  show Calls Try.prog 83 #[.agg #[.int .i64 a,.int .i64 b,.int .i64 c],.agg #[.int .i64 d,.int .i64 e,.int .i64 f]] W _
  go_enter Try.func83,Try.ntmps83
  go_wp2_with (go_at_call 42;refine (hcon _ _ (by go_simp) (by go_simp)).mono ?_;rintro e w' ⟨rfl,q,rfl⟩)
  go_ret
  exact ⟨rfl,q,_,by rw [alloc_eq_grow,alloc_eq_grow,alloc_eq_grow,grow_grow,grow_grow];rfl⟩
end Go.Proofs.Ytbkhpddodmbdoaa
namespace Go.Proofs.Ytbkhpddodmbdoaa
open Go.RowKit
section
variable {α:Type} {enc:α→List Value} {k:Nat}
theorem q4p (hk:∀ x,(enc x).length=k):∀ (l:List α),(l.flatMap enc).length=l.length*k
  | []=>by simp
  | a::l=>by rw [List.flatMap_cons,List.length_append,hk,q4p hk l,List.length_cons,Nat.add_mul];omega
theorem z8a (hk:∀ x,(enc x).length=k):∀ (l:List α) (i j:Nat) (x:α),l[i]? = some x→j<k→(l.flatMap enc)[i*k+j]? = (enc x)[j]?
  | [],i,j,x,h,_=>by simp at h
  | a::l,0,j,x,h,hj=>by
    simp at h;subst h
    rw [List.flatMap_cons,Nat.zero_mul,Nat.zero_add,List.getElem?_append_left (by rw [hk];exact hj)]
  | a::l,i+1,j,x,h,hj=>by
    rw [List.flatMap_cons,List.getElem?_append_right (by rw [hk,Nat.add_mul];omega),hk]
    rw [show (i+1)*k+j-k=i*k+j by rw [Nat.add_mul];omega]
    exact z8a hk l i j x (by simpa using h) hj
end
end Go.Proofs.Ytbkhpddodmbdoaa
