/-
  Merged: XMath, XSees, XRuns, XRegLaw.
-/
import Derived.WalkKit
import Derived.ProofKit
import Derived.OpenShut
import Derived.Deep.Slices
set_option linter.unusedVariables false
set_option linter.unusedSimpArgs false
set_option linter.unnecessarySimpa false
namespace Go.Proofs.YtkicdhaklnmonaaGreat
open Go.RowKit
theorem x4k (a b:Int) (hb:1≤b):a/b=if a.tmod b<0 then a.tdiv b-1 else a.tdiv b:=by
  have hd:=Int.mul_tdiv_add_tmod a b
  have h1:a.tmod b<b:=Int.tmod_lt_of_pos a (by omega)
  have h2:-b<a.tmod b:=by
    have:=Int.tmod_lt_of_pos (-a) (b:=b) (by omega)
    rw [Int.neg_tmod] at this
    omega
  split
  · rename_i h
    refine ((Int.ediv_emod_unique (a:=a) (b:=b) (r:=a.tmod b+b) (q:=a.tdiv b-1) (by omega)).2 ⟨?_,?_,?_⟩).1
    · rw [Int.mul_sub];omega
    · omega
    · omega
  · rename_i h
    exact ((Int.ediv_emod_unique (a:=a) (b:=b) (r:=a.tmod b) (q:=a.tdiv b) (by omega)).2 ⟨by omega,by omega,by omega⟩).1
theorem z1o (a b:Int) (hb:1≤b):(0≤a→0≤a/b∧a/b≤a)∧(a≤0→a≤a/b∧a/b≤0):=by
  refine ⟨fun h=>⟨Int.ediv_nonneg h (by omega),Int.ediv_le_self b h⟩,fun h=>⟨?_,?_⟩⟩
  · refine Int.le_ediv_of_mul_le (by omega) ?_
    have:=Int.mul_le_mul_of_nonpos_left (a:=a) h (c:=1) (b:=b) (by omega)
    omega
  · have hm:=Int.emod_nonneg a (b:=b) (by omega)
    have he:=Int.mul_ediv_add_emod a b
    by_cases h0:a/b≤0
    · exact h0
    · have:b*1≤b*(a/b):=Int.mul_le_mul_of_nonneg_left (by omega) (by omega)
      omega
theorem x8g (a b:Int) (hb:1≤b):(0≤a→0≤a.tdiv b∧a.tdiv b≤a)∧(a≤0→a≤a.tdiv b∧a.tdiv b≤0):=by
  have h:=z1o a b hb
  have h':=z1o (-a) b hb
  constructor
  · intro h0;rw [Int.tdiv_eq_ediv_of_nonneg h0];exact h.1 h0
  · intro h0
    have e:a.tdiv b=-((-a)/b):=by
      rw [← Int.tdiv_eq_ediv_of_nonneg (by omega),Int.neg_tdiv];omega
    have:=h'.1 (by omega)
    rw [e];omega
theorem v0s (a b:Int):a-a/b*b=a%b:=by
  have he:=Int.mul_ediv_add_emod a b
  rw [Int.mul_comm] at he;omega
theorem x3k (a b:Int) (hb:1≤b):0≤a%b∧a%b<b:=⟨Int.emod_nonneg a (by omega),Int.emod_lt_of_pos a (by omega)⟩
def near (a b:Int):Int:=if b-a%b≤a%b then a/b+1 else a/b
theorem q05 {k:IntKind} {a b:Int} (h:a=b):Ending.returned (.int k a)=.returned (.int k b):=by rw [h]
theorem q9j {a b:Bool} (h:a=b):Ending.returned (.bool a)=.returned (.bool b):=by rw [h]
def inB (x l h:Int):Bool:=decide (l≤x∧x≤h)
theorem x3l {x l h:Int} (k:l≤x∧x≤h):inB x l h=true:=decide_eq_true k
theorem inB_iff {x l h:Int}:inB x l h=true↔l≤x∧x≤h:=by simp [inB]
theorem z9h (p:Int→Bool) (zs:List Int) (k:Nat) (hk:k<zs.length):(zs.take (k+1)).all p=((zs.take k).all p&&p zs[k]):=by
  rw [List.take_succ_eq_append_getElem hk,List.all_append];simp
theorem q3a (a b m:Int) (hb:1≤b) (h0:0≤a) (h1:a≤m*b):0≤near a b∧near a b≤m:=by
  have he:=Int.mul_ediv_add_emod a b
  have hm:=x3k a b hb
  have hd:=z1o a b hb
  have hq:a/b≤m:=Int.ediv_le_of_le_mul (by omega) (by omega)
  have hq0:=(hd.1 h0).1
  unfold near
  split
  · have:a/b≠m:=by
      intro e;rw [e] at he
      have:b*m=m*b:=Int.mul_comm _ _
      omega
    omega
  · omega
theorem z2o {a b A B:Int} (ha:0≤a∧a≤A) (hb:0≤b∧b≤B):0≤a*b∧a*b≤A*B :=
  ⟨Int.mul_nonneg ha.1 hb.1,Int.mul_le_mul ha.2 hb.2 hb.1 (by omega)⟩
end Go.Proofs.YtkicdhaklnmonaaGreat
namespace Go.Proofs.YtkicdhaklnmonaaGreat
open Go.RowKit Go.ChangeShapes Go.WideShapes Go.Deep
def Sees (P:Program) (w:World):Nat→TypeId→List Value→Prop
  | 0,_,_=>False
  | n+1,t,cs=>match P.underlying t with
    | some (.int k)=>∃ a,cs=[.int k a]∧(Lit.int k a).wf=true
    | some .bool=>∃ b,cs=[.bool b]
    | some .string=>∃ s,cs=[.string s]∧s.size≤maxLen
    | some (.struct fs)=>cs.length=P.cellsOf t∧∀ (i:Nat) (f:Field),fs[i]? = some f→Sees P w n f.type ((cs.drop f.offset).take (P.cellsOf f.type))
    | some (.array m e)=>cs.length=P.cellsOf t∧∀ i,i<m→Sees P w n e ((cs.drop (i*P.cellsOf e)).take (P.cellsOf e))
    | some (.slice e)=>cs=[.slice none 0 0]∨∃ a len cap,cs=[.slice (some a) len cap]∧len≤cap∧cap≤maxLen ∧
        ∀ i,i<len→∃ cs',cs'.length=P.cellsOf e∧(∀ j,j<P.cellsOf e→w.cell? (a.add (i*P.cellsOf e+j))=cs'[j]?)∧Sees P w n e cs'
    | _=>True
section
variable {H:Type} {enc:TypeId × Value→H} {P:Program} {w:World} {base:Nat} {spare:Nat→Bool} {held:Bool}
theorem q7a:∀ (n fuel:Nat) (t:TypeId) (cs:List Value) (x:DataW H × List MemPlace),fuel≤n→DataW.trod enc P w base spare held fuel t cs=some x→Sees P w n t cs
  | 0,fuel,t,cs,x,hf,h=>by
    have:fuel=0:=by omega
    subst this;simp [DataW.trod] at h
  | n+1,fuel,t,cs,x,hf,h=>by
    unfold Sees
    split
    · rename_i k ht;obtain ⟨a,h1,_,h2⟩:=DataW.trod_int ht h;exact ⟨a,h1,h2⟩
    · rename_i ht;obtain ⟨b,h1,_⟩:=DataW.trod_bool ht h;exact ⟨b,h1⟩
    · rename_i ht;obtain ⟨s,h1,_,h2⟩:=DataW.trod_string ht h;exact ⟨s,h1,h2⟩
    · rename_i fs ht
      obtain ⟨xs,m,hm,_,hl,hxl,hg⟩:=DataW.trod_struct ht h
      refine ⟨hl,fun i f hi=>?_⟩
      have hlt:i<xs.length:=by rw [hxl];exact (Array.getElem?_eq_some_iff.1 hi).1
      have:=hg i f hi
      rw [List.getElem?_eq_getElem hlt] at this
      exact q7a n m _ _ _ (by omega) this
    · rename_i m e ht
      obtain ⟨xs,k,hm,_,hl,hxl,hg⟩:=DataW.trod_array ht h
      refine ⟨hl,fun i hi=>?_⟩
      have:=hg i hi
      rw [List.getElem?_eq_getElem (by omega)] at this
      exact q7a n k _ _ _ (by omega) this
    · rename_i e ht
      rcases DataW.trod_slice ht h with ⟨h1,_⟩ |⟨a,len,cap,elems,rest,k,hk,h1,_,hb,hlc,hcm,hel,hg,_,_⟩
      · exact .inl h1
      · refine .inr ⟨a,len,cap,h1,hlc,hcm,fun i hi=>?_⟩
        have:=hg i hi
        rw [List.getElem?_eq_getElem (by omega)] at this
        obtain ⟨cs',hc,ht'⟩:=Option.bind_eq_some_iff.1 this
        obtain ⟨_,hcl,hat⟩:=World.cells?_some hc
        refine ⟨cs',hcl,fun j hj=>?_,q7a n k _ _ _ (by omega) ht'⟩
        rw [← add_add];exact hat j hj
    · trivial
theorem x0p {t:TypeId} {v:Value} {d:DataW H} {ps:List MemPlace} (h:DataW.Trod enc P w base spare held t v d ps):∃ n,Sees P w n t v.cells.toList:=by
  obtain ⟨fuel,hf⟩:=h
  exact ⟨fuel,q7a fuel fuel _ _ _ (Nat.le_refl _) hf⟩
end
section
variable {P:Program} {w:World} {n:Nat} {t:TypeId} {cs:List Value}
theorem Sees.int {k:IntKind} (ht:P.underlying t=some (.int k)) (h:Sees P w n t cs):∃ a,cs=[.int k a]∧(Lit.int k a).wf=true:=by
  cases n with
  | zero=>exact h.elim
  | succ n=>unfold Sees at h;rw [ht] at h;exact h
theorem Sees.bool (ht:P.underlying t=some .bool) (h:Sees P w n t cs):∃ b,cs=[.bool b]:=by
  cases n with
  | zero=>exact h.elim
  | succ n=>unfold Sees at h;rw [ht] at h;exact h
theorem Sees.string (ht:P.underlying t=some .string) (h:Sees P w n t cs):∃ s,cs=[.string s]∧s.size≤maxLen:=by
  cases n with
  | zero=>exact h.elim
  | succ n=>unfold Sees at h;rw [ht] at h;exact h
theorem Sees.struct {fs:Array Field} (ht:P.underlying t=some (.struct fs)) (h:Sees P w n t cs):cs.length=P.cellsOf t∧∃ m,∀ (i:Nat) (f:Field),fs[i]? = some f→Sees P w m f.type ((cs.drop f.offset).take (P.cellsOf f.type)):=by
  cases n with
  | zero=>exact h.elim
  | succ n=>unfold Sees at h;rw [ht] at h;exact ⟨h.1,n,h.2⟩
theorem Sees.array {m:Nat} {e:TypeId} (ht:P.underlying t=some (.array m e)) (h:Sees P w n t cs):cs.length=P.cellsOf t∧∃ k,∀ i,i<m→Sees P w k e ((cs.drop (i*P.cellsOf e)).take (P.cellsOf e)):=by
  cases n with
  | zero=>exact h.elim
  | succ n=>unfold Sees at h;rw [ht] at h;exact ⟨h.1,n,h.2⟩
theorem Sees.slice {e:TypeId} (ht:P.underlying t=some (.slice e)) (h:Sees P w n t cs):cs=[.slice none 0 0]∨∃ a len cap,cs=[.slice (some a) len cap]∧len≤cap∧cap≤maxLen ∧
    ∃ m,∀ i,i<len→∃ cs',cs'.length=P.cellsOf e∧(∀ j,j<P.cellsOf e→w.cell? (a.add (i*P.cellsOf e+j))=cs'[j]?)∧Sees P w m e cs':=by
  cases n with
  | zero=>exact h.elim
  | succ n =>
    unfold Sees at h;rw [ht] at h
    rcases h with h |⟨a,len,cap,h1,h2,h3,h4⟩
    · exact .inl h
    · exact .inr ⟨a,len,cap,h1,h2,h3,n,h4⟩
theorem Sees.ints {k:IntKind} {fs:Array Field} (ht:P.underlying t=some (.struct fs)) (hC:P.cellsOf t=fs.size)
    (hf:∀ (i:Nat) (f:Field),fs[i]? = some f→f.offset=i∧P.cellsOf f.type=1∧P.underlying f.type=some (.int k)) (h:Sees P w n t cs) :
    ∃ zs:List Int,zs.length=fs.size∧cs=zs.map (.int k)∧∀ z∈zs,(Lit.int k z).wf=true:=by
  obtain ⟨hl,m,hm⟩:=h.struct ht
  have key:∀ i,i<cs.length→∃ a,cs[i]? = some (.int k a)∧(Lit.int k a).wf=true:=by
    intro i hi
    have hi':i<fs.size:=by omega
    obtain ⟨ho,hc,hu⟩:=hf i fs[i] (Array.getElem?_eq_getElem hi')
    obtain ⟨a,ha,hw⟩:=(hm i fs[i] (Array.getElem?_eq_getElem hi')).int hu
    rw [ho,hc] at ha
    refine ⟨a,?_,hw⟩
    have:((cs.drop i).take 1)[0]? = some (.int k a):=by rw [ha];rfl
    simpa using this
  have hz:∃ zs:List Int,zs.length=cs.length∧cs=zs.map (.int k)∧∀ z∈zs,(Lit.int k z).wf=true:=by
    clear hm hl hf hC ht h
    induction cs with
    | nil=>exact ⟨[],rfl,rfl,by simp⟩
    | cons c cs ih =>
      obtain ⟨a,ha,hw⟩:=key 0 (by simp)
      obtain ⟨zs,h1,h2,h3⟩:=ih (fun i hi=>by have:=key (i+1) (by simpa using hi);simpa using this)
      refine ⟨a::zs,by simp [h1],?_,?_⟩
      · simp at ha;simp [ha,← h2]
      · intro z hz
        rcases List.mem_cons.1 hz with rfl |hz
        · exact hw
        · exact h3 z hz
  obtain ⟨zs,h1,h2,h3⟩:=hz
  exact ⟨zs,by omega,h2,h3⟩
end
end Go.Proofs.YtkicdhaklnmonaaGreat
namespace Go.Proofs.YtkicdhaklnmonaaGreat
open Go.RowKit Go.ChangeShapes Go.WideShapes Go.Deep
structure Run where
  y:Int
  x0:Int
  x1:Int
def RunsAt (w:World) (A:Option Addr) (n:Nat) (rs:Nat→Run):Prop :=
  0<n→∃ b off,A=some ⟨b,off,none⟩∧b<w.heap.size∧∀ i,i<n→w.cell? ⟨b,off+i*3,none⟩=some (.int .i64 (rs i).y)∧w.cell? ⟨b,off+i*3+1,none⟩=some (.int .i64 (rs i).x0)∧w.cell? ⟨b,off+i*3+2,none⟩=some (.int .i64 (rs i).x1)
theorem RunsAt.below {w w':World} {A:Option Addr} {n:Nat} {rs:Nat→Run} (h:RunsAt w A n rs) (hb:Below w.heap.size w w'):RunsAt w' A n rs:=by
  intro hn
  obtain ⟨b,off,hA,hlt,hc⟩:=h hn
  refine ⟨b,off,hA,Nat.lt_of_lt_of_le hlt hb.size,fun i hi=>?_⟩
  obtain ⟨h1,h2,h3⟩:=hc i hi
  exact ⟨(hb.cell (p:=⟨b,_,none⟩) hlt).trans h1,(hb.cell (p:=⟨b,_,none⟩) hlt).trans h2,(hb.cell (p:=⟨b,_,none⟩) hlt).trans h3⟩
def q4u (rs:Nat→Run) (k:Nat):Int :=
  if (rs k).y < -8192∨8191<(rs k).y∨(rs k).x0 < -8192∨8192<(rs k).x0∨(rs k).x1 < -8192∨8192<(rs k).x1 then 3
  else if (rs k).x1≤(rs k).x0 then 4
  else if 0<k∧(rs k).y≤(rs (k-1)).y∧((rs k).y<(rs (k-1)).y∨(rs k).x0≤(rs (k-1)).x1) then 18 else 0
def regV (rs:Nat→Run):Nat→Int
  | 0=>0
  | n+1=>if regV rs n≠0 then regV rs n else q4u rs n
theorem x4l {rs:Nat→Run} {k:Nat} (h0:regV rs k=0) (h:q4u rs k≠0):∀ {n:Nat},k<n→regV rs n=q4u rs k:=by
  intro n hn
  induction n with
  | zero=>omega
  | succ n ih =>
    unfold regV
    by_cases hk:k<n
    · rw [if_pos (by rw [ih hk];exact h),ih hk]
    · have:k=n:=by omega
      subst this
      rw [if_neg (by simp [h0])]
theorem z8f {rs:Nat→Run} {k:Nat} (h0:regV rs k=0) (h:q4u rs k=0):regV rs (k+1)=0:=by
  unfold regV;rw [if_neg (by simp [h0]),h]
section
variable {H:Type} {enc:TypeId × Value→H} {P:Program} {w:World} {base b0:Nat} {spare:Nat→Bool} {held:Bool} {r:Reach} {v:Value} {d:DataW H} {ps:List MemPlace}
theorem z5x {w:World} {a:Addr} {v:Value} (h:w.cell? a=some v):a=⟨a.block,a.off,none⟩∧a.block<w.heap.size:=by
  have hs:=World.cell?_spot h
  refine ⟨by cases a;simp at hs;simp [hs],?_⟩
  rcases Nat.lt_or_ge a.block w.heap.size with h' |h'
  · exact h'
  · unfold World.cell? at h;rw [Array.getElem?_eq_none h'] at h;simp at h
theorem x57 (b off i:Nat):(⟨b,off,none⟩:Addr).add i=⟨b,off+i,none⟩:=by
  unfold Addr.add
  split
  · rename_i h;subst h;rfl
  · rfl
end
end Go.Proofs.YtkicdhaklnmonaaGreat
namespace Go.Proofs.YtkicdhaklnmonaaGreat
theorem Run.ext' {r s:Run} (h1:r.y=s.y) (h2:r.x0=s.x0) (h3:r.x1=s.x1):r=s:=by
  cases r;cases s;simp_all
def okR:List Run→Prop
  | []=>True
  | r::l=>r.x0<r.x1∧(∀ s∈l,r.y<s.y∨(r.y=s.y∧r.x1<s.x0))∧okR l
def hasR (L:List Run) (x y:Int):Prop:=∃ r∈L,r.y=y∧r.x0≤x∧x<r.x1
theorem hasR_cons {r:Run} {l:List Run} {x y:Int}:hasR (r::l) x y↔(r.y=y∧r.x0≤x∧x<r.x1)∨hasR l x y:=by
  simp [hasR]
theorem q4j {k l:List Run} {x y:Int}:hasR (k++l) x y↔hasR k x y∨hasR l x y:=by
  constructor
  · rintro ⟨r,h,h'⟩
    rcases List.mem_append.1 h with h |h
    · exact .inl ⟨r,h,h'⟩
    · exact .inr ⟨r,h,h'⟩
  · rintro (⟨r,h,h'⟩ |⟨r,h,h'⟩)
    · exact ⟨r,List.mem_append.2 (.inl h),h'⟩
    · exact ⟨r,List.mem_append.2 (.inr h),h'⟩
theorem q5z {r:Run} {x y:Int}:hasR [r] x y↔r.y=y∧r.x0≤x∧x<r.x1:=by simp [hasR]
theorem q4k {x y:Int}:¬ hasR [] x y:=by simp [hasR]
theorem q56 {L:List Run} (h:okR L) {r:Run} (hr:r∈L):r.x0<r.x1:=by
  induction L with
  | nil=>cases hr
  | cons s l ih =>
    rcases List.mem_cons.1 hr with rfl |hr
    · exact h.1
    · exact ih h.2.2 hr
theorem okR_append {k l:List Run}:okR (k++l)↔okR k∧okR l∧∀ r∈k,∀ s∈l,r.y<s.y∨(r.y=s.y∧r.x1<s.x0):=by
  induction k with
  | nil=>simp [okR]
  | cons a k ih =>
    simp only [List.cons_append,okR,ih,List.mem_append,List.mem_cons]
    constructor
    · rintro ⟨h1,h2,h3,h4,h5⟩
      refine ⟨⟨h1,fun s hs=>h2 s (.inl hs),h3⟩,h4,fun r hr s hs=>?_⟩
      rcases hr with rfl |hr
      · exact h2 s (.inr hs)
      · exact h5 r hr s hs
    · rintro ⟨⟨h1,h2,h3⟩,h4,h5⟩
      refine ⟨h1,fun s hs=>?_,h3,h4,fun r hr s hs=>h5 r (.inr hr) s hs⟩
      rcases hs with hs |hs
      · exact h2 s hs
      · exact h5 a (.inl rfl) s hs
theorem z8g {r:Run} {l:List Run} (h:okR (r::l)) {x y:Int} (hx:hasR (r::l) x y):r.y<y∨(r.y=y∧r.x0≤x):=by
  rcases hasR_cons.1 hx with h1 |⟨s,hs,h1⟩
  · omega
  · have h2:=h.2.1 s hs
    have h3:=h.1
    omega
theorem z1p {r:Run} {l:List Run} (h:okR (r::l)) {x y:Int} (hx:hasR l x y):r.y<y∨(r.y=y∧r.x1<x+0∨r.y=y∧r.x1<x):=by
  obtain ⟨s,hs,h1⟩:=hx
  have h2:=h.2.1 s hs
  omega
theorem z3r:∀ {L M:List Run},okR L→okR M→(∀ x y,hasR L x y↔hasR M x y)→L=M
  | [],[],_,_,_=>rfl
  | [],s::m,_,hM,h=>((q4k ((h s.x0 s.y).2 ⟨s,List.mem_cons_self ..,rfl,Int.le_refl _,hM.1⟩))).elim
  | r::l,[],hL,_,h=>((q4k ((h r.x0 r.y).1 ⟨r,List.mem_cons_self ..,rfl,Int.le_refl _,hL.1⟩))).elim
  | r::l,s::m,hL,hM,h=>by
    have a1:=z8g hM ((h r.x0 r.y).1 ⟨r,List.mem_cons_self ..,rfl,Int.le_refl _,hL.1⟩)
    have a2:=z8g hL ((h s.x0 s.y).2 ⟨s,List.mem_cons_self ..,rfl,Int.le_refl _,hM.1⟩)
    have e1:r.y=s.y:=by omega
    have e2:r.x0=s.x0:=by omega
    have l1:=hL.1
    have m1:=hM.1
    have e3:r.x1=s.x1:=by
      rcases Int.lt_trichotomy r.x1 s.x1 with hlt |he |hlt
      · have b:=(h r.x1 r.y).2 ⟨s,List.mem_cons_self ..,by omega,by omega,hlt⟩
        rcases hasR_cons.1 b with b |b
        · omega
        · have:=z1p hL b;omega
      · exact he
      · have b:=(h s.x1 s.y).1 ⟨r,List.mem_cons_self ..,by omega,by omega,hlt⟩
        rcases hasR_cons.1 b with b |b
        · omega
        · have:=z1p hM b;omega
    obtain rfl:=Run.ext' e1 e2 e3
    refine congrArg (r::·) (z3r hL.2.2 hM.2.2 fun x y=>⟨fun hx=>?_,fun hx=>?_⟩)
    · rcases hasR_cons.1 ((h x y).1 (hasR_cons.2 (.inr hx))) with b |b
      · have:=z1p hL hx;omega
      · exact b
    · rcases hasR_cons.1 ((h x y).2 (hasR_cons.2 (.inr hx))) with b |b
      · have:=z1p hM hx;omega
      · exact b
def upTo (L:List Run) (y x:Int):Prop:=∀ r∈L,r.y<y∨(r.y=y∧r.x1≤x)
theorem q8d {L:List Run} {y x y' x':Int} (h:upTo L y x) (k:y<y'∨(y=y'∧x≤x')):upTo L y' x':=fun r hr=>by
  have:=h r hr;omega
def addR (L:List Run) (y a b:Int):List Run :=
  if b≤a then L else match L.getLast? with
    | some r=>if r.y=y∧a≤r.x1 then L.dropLast++[⟨y,r.x0,max r.x1 b⟩] else L++[⟨y,a,b⟩]
    | none=>[⟨y,a,b⟩]
theorem q6w {L:List Run} {y a b:Int} (h:b≤a):addR L y a b=L:=by simp [addR,h]
theorem q30 {y a b:Int} (h:¬ b≤a):addR [] y a b=[⟨y,a,b⟩]:=by simp [addR,h]
theorem q2g {L:List Run} {r:Run} {y a b:Int} (h:¬ b≤a) (h1:r.y=y) (h2:a≤r.x1):addR (L++[r]) y a b=L++[⟨y,r.x0,max r.x1 b⟩]:=by simp [addR,h,h1,h2]
theorem q3l {L:List Run} {r:Run} {y a b:Int} (h:¬ b≤a) (h1:¬ (r.y=y∧a≤r.x1)):addR (L++[r]) y a b=L++[r]++[⟨y,a,b⟩]:=by
  unfold addR
  rw [if_neg h]
  have e:(L++[r]).getLast? = some r:=by simp
  rw [e]
  simp only [if_neg h1]
theorem q36 (L:List Run):L=[]∨∃ K r,L=K++[r]:=by
  rcases List.eq_nil_or_concat L with h |⟨K,r,h⟩
  · exact .inl h
  · exact .inr ⟨K,r,by simpa using h⟩
theorem z68 {L:List Run} {y a b:Int} (h:okR L) (hu:upTo L y a) :
    okR (addR L y a b)∧(a<b→upTo (addR L y a b) y b)∧(∀ u v,hasR (addR L y a b) u v↔hasR L u v∨(v=y∧a≤u∧u<b)):=by
  by_cases hb:b≤a
  · rw [q6w hb]
    refine ⟨h,fun h'=>by omega,fun u v=>⟨.inl,?_⟩⟩
    rintro (h' |h')
    · exact h'
    · omega
  · rcases q36 L with rfl |⟨K,r,rfl⟩
    · rw [q30 hb]
      refine ⟨by simp [okR];omega,fun _ s hs=>?_,fun u v=>?_⟩
      · simp at hs;subst hs;simp
      · rw [q5z];simp only [q4k,false_or];omega
    · have hr:=hu r (by simp)
      obtain ⟨o1,o2,o3⟩:=okR_append.1 h
      by_cases hj:r.y=y∧a≤r.x1
      · rw [q2g hb hj.1 hj.2]
        have hm:max r.x1 b=b:=by omega
        rw [hm]
        refine ⟨okR_append.2 ⟨o1,?_,fun q hq s hs=>?_⟩,fun _ q hq=>?_,fun u v=>?_⟩
        · simp [okR] at o2 ⊢;omega
        · simp at hs;subst hs
          have:=o3 q hq r (by simp)
          simp only;omega
        · rcases List.mem_append.1 hq with hq |hq
          · have:=o3 q hq r (by simp)
            have:=hu q (by simp [hq])
            omega
          · simp at hq;subst hq;simp
        · rw [q4j,q4j,q5z,q5z]
          have o4:=o2.1
          simp only
          constructor
          · rintro (h1 |h1)
            · exact .inl (.inl h1)
            · by_cases hx:u<r.x1
              · exact .inl (.inr (by omega))
              · exact .inr (by omega)
          · rintro ((h1 |h1) |h1)
            · exact .inl h1
            · exact .inr (by omega)
            · exact .inr (by omega)
      · rw [q3l hb hj]
        refine ⟨okR_append.2 ⟨h,by simp [okR];omega,fun q hq s hs=>?_⟩,fun _ q hq=>?_,fun u v=>?_⟩
        · simp at hs;subst hs
          simp only
          have hq':=hu q hq
          rcases List.mem_append.1 hq with hq |hq
          · have:=o3 q hq r (by simp)
            have:=o2.1
            omega
          · simp at hq;subst hq
            omega
        · rcases List.mem_append.1 hq with hq |hq
          · have:=hu q hq;omega
          · simp at hq;subst hq;simp
        · rw [q4j (l:=[⟨y,a,b⟩]),q5z]
          simp only
          constructor
          · rintro (h1 |h1)
            · exact .inl h1
            · exact .inr (by omega)
          · rintro (h1 |h1)
            · exact .inl h1
            · exact .inr (by omega)
/-! ### Runs in memory as a list -/
def q2h (rs:Nat→Run) (n:Nat):List Run:=(List.range n).map rs
theorem x4m (rs:Nat→Run) (n:Nat):q2h rs (n+1)=q2h rs n++[rs n]:=by
  unfold q2h;rw [List.range_succ,List.map_append];rfl
theorem mem_runsL {rs:Nat→Run} {n:Nat} {r:Run}:r∈q2h rs n↔∃ i,i<n∧rs i=r:=by simp [q2h]
theorem q40 {rs:Nat→Run} {n:Nat} {x y:Int}:hasR (q2h rs n) x y↔∃ i,i<n∧(rs i).y=y∧(rs i).x0≤x∧x<(rs i).x1:=by
  unfold hasR
  constructor
  · rintro ⟨r,hr,h⟩
    obtain ⟨i,hi,rfl⟩:=mem_runsL.1 hr
    exact ⟨i,hi,h⟩
  · rintro ⟨i,hi,h⟩
    exact ⟨_,mem_runsL.2 ⟨i,hi,rfl⟩,h⟩
structure Valid (rs:Nat→Run) (n:Nat):Prop where
  bd:∀ i,i<n→(-8192≤(rs i).y∧(rs i).y≤8191)∧(-8192≤(rs i).x0∧(rs i).x0<(rs i).x1∧(rs i).x1≤8192)
  lt:∀ i j,i<j→j<n→(rs i).y<(rs j).y∨((rs i).y=(rs j).y∧(rs i).x1<(rs j).x0)
theorem x0q {rs:Nat→Run}:∀ {n:Nat},regV rs n=0→∀ k,k<n→q4u rs k=0
  | 0,_,k,hk=>by omega
  | n+1,h,k,hk=>by
    unfold regV at h
    split at h
    · rename_i h1;exact (h1 h).elim
    · rename_i h1
      rcases Nat.lt_or_ge k n with h2 |h2
      · exact x0q (Decidable.not_not.1 h1) k h2
      · have:k=n:=by omega
        subst this;exact h
theorem x2e {rs:Nat→Run} {k:Nat} (h:q4u rs k=0):((-8192≤(rs k).y∧(rs k).y≤8191)∧(-8192≤(rs k).x0∧(rs k).x0<(rs k).x1∧(rs k).x1≤8192))∧(0<k→(rs (k-1)).y<(rs k).y∨((rs (k-1)).y=(rs k).y∧(rs (k-1)).x1<(rs k).x0)):=by
  unfold q4u at h
  split at h
  · omega
  · split at h
    · omega
    · split at h
      · omega
      · refine ⟨by omega,fun hk=>by omega⟩
theorem x8h {rs:Nat→Run} {n:Nat} (h:regV rs n=0):Valid rs n:=by
  have h1:=fun k hk=>x2e (x0q h k hk)
  refine ⟨fun i hi=>(h1 i hi).1,fun i j hij hj=>?_⟩
  induction j with
  | zero=>omega
  | succ j ih =>
    have h2:=(h1 (j+1) hj).2 (by omega)
    simp only [Nat.add_sub_cancel] at h2
    rcases Nat.lt_or_ge i j with h3 |h3
    · have h4:=ih h3 (by omega)
      have h5:=(h1 j (by omega)).1
      omega
    · have:i=j:=by omega
      subst this;exact h2
theorem Valid.ok {rs:Nat→Run}:∀ {n:Nat},Valid rs n→okR (q2h rs n)
  | 0,_=>trivial
  | n+1,h=>by
    rw [x4m]
    refine okR_append.2 ⟨Valid.ok ⟨fun i hi=>h.bd i (by omega),fun i j hij hj=>h.lt i j hij (by omega)⟩,?_,fun r hr s hs=>?_⟩
    · have:=(h.bd n (by omega)).2
      simp [okR];omega
    · simp at hs;subst hs
      obtain ⟨i,hi,rfl⟩:=mem_runsL.1 hr
      exact h.lt i n hi (by omega)
/-! ### The edges of a region -/
def q1d (y x y' x':Int):Prop:=y<y'∨(y=y'∧x≤x')
def q17 (y x y' x':Int):Prop:=y<y'∨(y=y'∧x<x')
instance {y x y' x'}:Decidable (q1d y x y' x'):=by unfold q1d;infer_instance
instance {y x y' x'}:Decidable (q17 y x y' x'):=by unfold q17;infer_instance
def eY (rs:Nat→Run) (i:Nat):Int:=(rs (i/2)).y
def eX (rs:Nat→Run) (i:Nat):Int:=if i%2=0 then (rs (i/2)).x0 else (rs (i/2)).x1
theorem z69 {rs:Nat→Run} {n:Nat} (h:Valid rs n) {i j:Nat} (hij:i<j) (hj:j<2*n):q17 (eY rs i) (eX rs i) (eY rs j) (eX rs j):=by
  unfold q17 eY eX
  have b1:=h.bd (i/2) (by omega)
  have b2:=h.bd (j/2) (by omega)
  rcases Nat.lt_or_ge (i/2) (j/2) with h1 |h1
  · have:=h.lt (i/2) (j/2) h1 (by omega)
    split <;> split <;> omega
  · have e:i/2=j/2:=by omega
    rw [← e]
    have h2:i%2=0:=by omega
    have h3:¬ j%2=0:=by omega
    rw [if_pos h2,if_neg h3]
    omega
theorem q96 {rs:Nat→Run} {n:Nat} (h:Valid rs n) {i:Nat} (hi:i≤2*n) {x y:Int} (h1:∀ k,k<i→q1d (eY rs k) (eX rs k) y x) (h2:∀ k,i≤k→k<2*n→q17 y x (eY rs k) (eX rs k)) :
    hasR (q2h rs n) x y↔i%2=1:=by
  rw [q40]
  constructor
  · rintro ⟨q,hq,h3,h4,h5⟩
    have g1:¬ i≤2*q:=fun hle=>by
      have:=h2 (2*q) hle (by omega)
      unfold q17 eY eX at this
      rw [show 2*q/2=q by omega,if_pos (by omega)] at this
      omega
    have g2:¬ 2*q+1<i:=fun hle=>by
      have:=h1 (2*q+1) hle
      unfold q1d eY eX at this
      rw [show (2*q+1)/2=q by omega,if_neg (by omega)] at this
      omega
    omega
  · intro ho
    refine ⟨i/2,by omega,?_⟩
    have g1:=h1 (i-1) (by omega)
    have g2:=h2 i (Nat.le_refl _) (by omega)
    unfold q1d eY eX at g1
    unfold q17 eY eX at g2
    rw [show (i-1)/2=i/2 by omega,if_pos (by omega)] at g1
    rw [if_neg (by omega)] at g2
    omega
end Go.Proofs.YtkicdhaklnmonaaGreat
