/-
  Merged: XWhole, XSpot, XREnd, XRMem, XRMem2, XRListAt, XSliceM.
-/
import Derived.Test.YtkicdhaklnmonaaGreatMrg19
import Derived.Test.YtkicdhaklnmonaaGreatMrg14
import Derived.Test.YtkicdhaklnmonaaGreatMrg13
import Derived.Test.YtkicdhaklnmonaaGreatMrg30
set_option linter.unusedVariables false
set_option linter.unusedSimpArgs false
set_option linter.unnecessarySimpa false
namespace Go.Proofs.YtkicdhaklnmonaaGreat
open Go.RowKit
set_option maxRecDepth 20000
def v0k (e:Bool) (a:AV):AV:=.tup [a,.val (.bool e)]
theorem z4k (e:Bool):Wraps (v0k e):=.pair (.val (.bool e)) (fun _=>rfl) rfl
def q6i (w h:Nat):List Run:=(List.range (16*h)).map fun (y:Nat)=>⟨(y:Int),0,16*(w:Int)⟩
theorem x5i (w h:Nat):q0r (q6i w h)=q6h 0 (16*(w:Int)) 0 (16*h):=by
  unfold q0r q6i q6h
  rw [List.flatMap_map]
  simp
theorem x2w {w h:Nat} (hw:w≤512) (hh:h≤512) (G:Mem):q5k Tryz.prog 47 [.val (.int .i64 w),.val (.int .i64 h)] G (v0k true) 78 3 (16*h) (q6h 0 (16*(w:Int)) 0 (16*h)):=by
  refine q5x tab_ok Tryz.func47 (z4k true) ?_
  (repeat ((try (conv=>whnf));(refine stQ ?_)))
  conv=>whnf
  refine q0w tab_ok (fun i=>i≤16*h) (fun (i:Nat)=>[(7,.val (.int .i64 i)),(6,.own 0)]) (fun i=>[.own 78 3 i (q6h 0 (16*(w:Int)) 0 i)]) (fun i=>16*h-i) 0 (Nat.zero_le _) ?_ ?_
  · refine q3z 78 3 ?_
    conv=>whnf
    ((refine q0g ?_);(conv=>whnf);(refine q0k (by rfl) (by rfl) flQ ?_))
    exact q0c rfl (by simp [q6h]) q0f
  · intro i hi
    by_cases hlt:(i:Int)<16*(h:Int)
    · (repeat ((try (conv=>whnf));(refine stQ ?_)))
      refine ⟨i+1,by omega,by omega,?_⟩
      refine q1y 2 0 rfl rfl rfl rfl ?_
      conv=>whnf
      ((refine q0g ?_);(conv=>whnf);(refine q0k (by rfl) (by rfl) flQ ?_))
      exact q0c rfl (by rw [x69,Int.zero_add]) q0f
    · (repeat ((try (conv=>whnf));(refine stQ ?_)))
      have hi2:i=16*h:=by omega
      subst hi2
      exact .inl ⟨0,rfl,rfl⟩
end Go.Proofs.YtkicdhaklnmonaaGreat
namespace Go.Proofs.YtkicdhaklnmonaaGreat
open Go.RowKit
set_option maxRecDepth 20000
theorem x5j {P:Program} {T:Tab} (hT:TOk P T) {f:FuncId} {fn:Func} (hfn:P.funcs[f]? = some fn) {args:List AV} {G:Mem} {R:Value→Mem→Prop}
    (h:q0o (q5s fn) (q32 P T 1 fn args [.muts fun _=>False] G fun v hp' G'=>∃ l:List Value,v=.agg (l.map .val)∧R (.agg l.toArray) G')):GivesM P f args G R:=by
  intro w vs hG ha
  refine (q6a hT hfn (args:=args) ha hG h).mono ?_
  rintro e w' ⟨y,β',v,hp',G',h1,h2,h3,l,rfl,hR⟩
  simp only [AV.rel] at h3
  obtain ⟨cs,rfl,h4⟩:=h3
  have e:cs=l.toArray:=by rw [← q07 h4]
  subst e
  exact ⟨_,G',h1,h2.below,h2.sub,h2.hold,h2.grow,hR⟩
theorem z6u {G:Mem} {b:Nat} {L:List Run} (h:∀ (j:Nat) u,(q0r L)[j]? = some u→G.cell? ⟨b,j,none⟩=some u):RunsM G (some ⟨b,0,none⟩) L:=fun i r hr=>by
  obtain ⟨h1,h2,h3⟩:=q24 hr
  exact ⟨b,0,rfl,by rw [Nat.zero_add];exact h _ _ h1,by rw [Nat.zero_add];exact h _ _ h2,by rw [Nat.zero_add];exact h _ _ h3⟩
abbrev spIt (K:Int) (RA:Option Addr) (rn rq:Nat) (c:Int) (al:Int) (iso:Bool):ItemD:=⟨K,RA,rn,rq,0,fun j=>if j=0 then c else 0,0,0,0,0,0,none,0,0,0,0,none,0,0,none,0,0,0,0,0,0,0,0,false,false,al,0,false,iso,false⟩
def spI (A:Option Addr) (c b:Nat):Nat→ItemD
  | 0=>spIt 0 A 16 c 200 255 false
  | 1=>spIt 1 none 0 0 0 255 true
  | 2=>spIt 0 (some ⟨b,0,none⟩) 1 1 100 255 false
  | _=>spIt 2 none 0 0 0 0 false
set_option maxHeartbeats 4000000 in
theorem z7p {G:Mem}:GivesM Tryz.prog 25 [] G fun v F=>∃ A c b sb ib,v=.agg #[.int .i64 1,.int .i64 1,.slice (some ⟨sb,0,none⟩) 1 1,.slice (some ⟨ib,0,none⟩) 4 4]∧RunsM F A (q6i 1 1)∧16≤c∧c≤maxLen ∧
    F sb=some (.cells #[.string ⟨#[98,108,97,99,107]⟩] 9 (0,0))∧F b=some (.cells #[.int .i64 0,.int .i64 0,.int .i64 1] 78 (0,0))∧F ib=some (.cells ((spI A c b 0).cells++(spI A c b 1).cells++(spI A c b 2).cells++(spI A c b 3).cells).toArray 63 (0,0)):=by
  refine x5j tab_ok Tryz.func25 ?_
  (repeat ((try (conv=>whnf));(refine stQ ?_)))
  conv=>whnf
  refine q7c (fun vs w=>by kernel_rfl) (z4k true) (by rfl) (x2w (w:=1) (h:=1) (by omega) (by omega) _) ?_
  intro A c G1 hG1 hc hcm hF
  (repeat ((try (conv=>whnf));(first |(with_reducible refine q9q tab_ok 0 false ?_) |(refine stQ ?_))))
  conv=>whnf
  intro sb G2 hsb _ hG2
  conv=>whnf
  (repeat ((try (conv=>whnf));(first |(with_reducible refine q9q tab_ok 0 false ?_) |(refine stQ ?_))))
  conv=>whnf
  intro b G3 hb _ hG3
  conv=>whnf
  (repeat ((try (conv=>whnf));(first |(with_reducible refine q9q tab_ok 0 false ?_) |(refine stQ ?_))))
  conv=>whnf
  intro ib G4 hib _ hG4
  conv=>whnf
  (repeat ((try (conv=>whnf));(refine stQ ?_)))
  conv=>whnf
  have l2:G1.le G2:=fun p o hp=>by rw [hG2,Mem.put_ne _ _ (fun e=>by rw [e,hsb] at hp;cases hp)];exact hp
  have l3:G2.le G3:=fun p o hp=>by rw [hG3,Mem.put_ne _ _ (fun e=>by rw [e,hb] at hp;cases hp)];exact hp
  have l4:G3.le G4:=fun p o hp=>by rw [hG4,Mem.put_ne _ _ (fun e=>by rw [e,hib] at hp;cases hp)];exact hp
  refine ⟨[.int .i64 1,.int .i64 1,.slice (some ⟨sb,0,none⟩) 1 1,.slice (some ⟨ib,0,none⟩) 4 4],rfl,A,c,b,sb,ib,rfl,?_,hc,hcm,l4 _ _ (l3 _ _ (by rw [hG2,Mem.put_same])),l4 _ _ (by rw [hG3,Mem.put_same]),by rw [hG4,Mem.put_same];rfl⟩
  rcases hF with h |⟨a,rfl,h⟩
  · exact absurd (congrArg List.length h) (by rw [x9l];decide)
  · exact (z6u (fun j u hj=>by rw [x5i] at hj;exact h j u hj)).mono (Mem.le_trans l2 (Mem.le_trans l3 l4))
end Go.Proofs.YtkicdhaklnmonaaGreat
namespace Go.Proofs.YtkicdhaklnmonaaGreat
open Go.RowKit
set_option maxRecDepth 20000
theorem ItemsM.kind {G:Mem} {A:Option Addr} {n:Nat} {I:Nat→ItemD} (h:ItemsM G A n I) {k:Nat} (hk:k<n):∃ p:Addr,A=some p∧∀ (o:Nat) v,(I k).cells[o]? = some v→G.cell? ((p.add (k*34)).add o)=some v:=by
  obtain ⟨p,rfl,hp⟩:=h k hk
  exact ⟨p,rfl,fun o v hv=>x1q hp hv⟩
section
variable {I:Nat→ItemD} {G:Mem} {W H:Int} {SA IA:Option Addr} {m sq n iq:Nat}
end
end Go.Proofs.YtkicdhaklnmonaaGreat
namespace Go.Proofs.YtkicdhaklnmonaaGreat
open Go.RowKit
set_option maxRecDepth 20000
def cvB (I:Nat→ItemD) (R:Nat→List Run) (x y:Int) (i:Nat):Nat→Bool
  | 0=>false
  | d+1=>cvB I R x y i d||(decide ((I (i+d)).K=0)&&hasL (R (i+d)) x y)
theorem z06 {I:Nat→ItemD} {R:Nat→List Run} {x y:Int} {i a:Nat}:∀ b,cvB I R x y i (a+b)=(cvB I R x y i a||cvB I R x y (i+a) b)
  | 0=>by simp [cvB]
  | b+1=>by
    rw [← Nat.add_assoc,cvB,z06 b,cvB,Nat.add_assoc,Bool.or_assoc]
theorem SpanL.cov {I:Nat→ItemD} {R:Nat→List Run} {f:Nat→SrcF} {x y:Int} {ms:List Tr} {i j:Nat} (h:SpanL (fun k=>(I k).K) ms i j):cvB I R x y i (j-i)=covL (q0u I f R x y) ms:=by
  induction h with
  | nil i=>rw [Nat.sub_self];rfl
  | fill i ts j hf h2 ih =>
    have:=h2.le
    rw [show j-i=1+(j-(i+1)) by omega,z06,ih,covL,covT]
    simp [cvB,hf];rfl
  | group i ms e ts j hf h1 h0 h3 h2 ih1 ih2 =>
    have l1:=h1.le
    have l2:=h2.le
    rw [show j-i=1+((e-(i+1))+(1+(j-(e+1)))) by omega,z06,z06,z06,ih1,show i+1+(e-(i+1))=e by omega,ih2,covL,covT]
    simp [cvB,hf,h0,Bool.or_assoc]
section
variable {I:Nat→ItemD} {R:Nat→List Run} {f:Nat→SrcF} {G:Mem} {W H:Int} {SA IA:Option Addr} {m sq n iq:Nat} {x y:Int}
end
end Go.Proofs.YtkicdhaklnmonaaGreat
namespace Go.Proofs.YtkicdhaklnmonaaGreat
open Go.RowKit
set_option maxRecDepth 20000
section
variable {I:Nat→ItemD} {R:Nat→List Run} {f:Nat→SrcF} {G:Mem} {W H:Int} {SA IA:Option Addr} {m sq n iq:Nat} {x y:Int}
set_option maxHeartbeats 8000000
end
end Go.Proofs.YtkicdhaklnmonaaGreat
namespace Go.Proofs.YtkicdhaklnmonaaGreat
open Go.RowKit
set_option maxRecDepth 20000
section
variable {I:Nat→ItemD} {R:Nat→List Run} {f:Nat→SrcF} {G:Mem} {W H:Int} {SA IA:Option Addr} {m sq n iq:Nat} {x y:Int}
end
end Go.Proofs.YtkicdhaklnmonaaGreat
namespace Go.Proofs.YtkicdhaklnmonaaGreat
open Go.RowKit Go.ChangeShapes Go.WideShapes Go.Deep
def noSl (P:Program):Nat→TypeId→Bool
  | 0,_=>false
  | n+1,t=>match P.underlying t with
    | some (.int _)=>true
    | some .bool=>true
    | some .string=>true
    | some (.struct fs)=>fs.toList.all fun f=>noSl P n f.type
    | some (.array _ e)=>noSl P n e
    | _=>false
theorem Sees.any {P:Program} {w w':World}:∀ (m n:Nat) (t:TypeId) (cs:List Value),noSl P n t=true→Sees P w m t cs→Sees P w' m t cs
  | 0,_,_,_,_,h=>h
  | m+1,0,_,_,hn,_=>by simp [noSl] at hn
  | m+1,n+1,t,cs,hn,h=>by
    unfold Sees at h ⊢
    unfold noSl at hn
    split at h <;> simp_all
    · intro i f hf
      obtain ⟨h1,h2⟩:=Array.getElem?_eq_some_iff.1 hf
      have hq:=hn i h1
      rw [h2] at hq
      exact Sees.any m n _ _ hq (h.2 i f hf)
    · intro i hi
      exact Sees.any m n _ _ hn (h.2 i hi)
def SliceM (P:Program) (G:Mem) (e:TypeId) (A:Option Addr) (n:Nat) (g:Nat→Nat→Value):Prop :=
  (∃ w0 A0,SliceG P w0 e A0 n g)∧(0<n→∃ b off,A=some ⟨b,off,none⟩∧∀ x,x<n→∀ j,j<P.cellsOf e→G.cell? ⟨b,off+x*P.cellsOf e+j,none⟩=some (g x j))
section
variable {P:Program} {w:World} {G G':Mem} {e:TypeId} {A:Option Addr} {n:Nat} {g:Nat→Nat→Value}
theorem SliceM.of (h:SliceG P w e A n g):SliceM P (q64 w) e A n g:=⟨⟨w,A,h⟩,fun h0=>by
  obtain ⟨b,off,h1,h2,h3⟩:=h h0
  exact ⟨b,off,h1,fun x hx j hj=>(h3 x hx).1 j hj⟩⟩
theorem SliceM.mono (h:SliceM P G e A n g) (hle:G.le G'):SliceM P G' e A n g:=⟨h.1,fun h0=>by
  obtain ⟨b,off,h1,h2⟩:=h.2 h0
  exact ⟨b,off,h1,fun x hx j hj=>hle.cell (h2 x hx j hj)⟩⟩
theorem Mem.cell_in {w:World} {a:Addr} {v:Value} (hG:G.holds w) (h:G.cell? a=some v):w.cell? a=some v∧a.block<w.heap.size:=by
  unfold Mem.cell? at h
  unfold World.cell?
  cases hb:G a.block with
  | none=>rw [hb] at h;simp at h
  | some o =>
    have:=hG _ _ hb
    rw [this]
    rw [hb] at h
    exact ⟨h,(Array.getElem?_eq_some_iff.1 this).1⟩
theorem SliceM.at {k:Nat} (h:SliceM P G e A n g) (hk:noSl P k e=true) (hc:0<P.cellsOf e) (hG:G.holds w):SliceG P w e A n g:=fun h0=>by
  obtain ⟨⟨w0,A0,h1⟩,h2⟩:=h
  obtain ⟨b,off,hA,h3⟩:=h2 h0
  obtain ⟨b0,off0,hA0,_,h4⟩:=h1 h0
  refine ⟨b,off,hA,(Mem.cell_in hG (h3 0 h0 0 hc)).2,fun x hx=>⟨fun j hj=>(Mem.cell_in hG (h3 x hx j hj)).1,?_⟩⟩
  obtain ⟨m,hm⟩:=(h4 x hx).2
  exact ⟨m,Sees.any m k _ _ hk hm⟩
theorem SliceM.els (h:SliceM P G e A n g) {sz:Nat} (hs:P.cellsOf e=sz):ElsM G A sz n fun x=>(List.range sz).map (g x):=by
  subst hs
  refine ⟨fun x hx=>by simp,fun x hx=>?_⟩
  obtain ⟨b,off,hA,h3⟩:=h.2 (by omega)
  refine ⟨b,off,hA,fun j v hj=>?_⟩
  have hjl:j<P.cellsOf e:=by have:=(List.getElem?_eq_some_iff.1 hj).1;simpa using this
  rw [h3 x hx j hjl]
  simp [List.getElem?_map,List.getElem?_range hjl] at hj
  rw [hj]
theorem SliceM.copy (h:SliceM P G e A n g) {sz:Nat} (hs:P.cellsOf e=sz) {B:Option Addr} (hB:FlatM G' B (q0q (fun x=>(List.range sz).map (g x)) n)) (hz:0<sz):SliceM P G' e B n g:=by
  subst hs
  refine ⟨h.1,fun h0=>?_⟩
  have hE:=hB.els (sz:=P.cellsOf e) (fun x hx=>by simp) hz
  obtain ⟨b,off,hA,_⟩:=hE.at_ 0 h0
  refine ⟨b,off,hA,fun x hx j hj=>?_⟩
  obtain ⟨b',off',hA',h2⟩:=hE.at_ x hx
  rw [hA] at hA';cases hA'
  exact h2 j _ (by simp [List.getElem?_map,List.getElem?_range hj])
end
end Go.Proofs.YtkicdhaklnmonaaGreat
