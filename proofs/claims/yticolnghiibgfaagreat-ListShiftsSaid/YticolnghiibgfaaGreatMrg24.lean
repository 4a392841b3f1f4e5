/-
  Merged: XTreeLaw, XPut, XJoined, XRegRef, XMixed2, XEdges, XOr.
-/
import Derived.Test.YticolnghiibgfaaGreatMrg23
import Derived.Test.YticolnghiibgfaaGreatMrg14
import Derived.Test.YticolnghiibgfaaGreatMrg17
import Derived.Test.YticolnghiibgfaaGreatMrg13
import Derived.Test.YticolnghiibgfaaGreatMrg22
set_option linter.unusedVariables false
set_option linter.unusedSimpArgs false
set_option linter.unnecessarySimpa false
namespace Go.Proofs.YticolnghiibgfaaGreat
abbrev St:=Nat→Int
structure CellX where
  cov:Nat→Bool
  fill:Nat→St→St
  kn:Nat→Bool
  start:Nat→St→St
  grp:Nat→St→St→St
mutual
def covT (X:CellX):Tr→Bool
  | .fill i=>X.cov i
  | .group _ ms=>covL X ms
def covL (X:CellX):List Tr→Bool
  | []=>false
  | t::ts=>covT X t||covL X ts
end
mutual
def evT (X:CellX):Tr→St→St
  | .fill i,b=>X.fill i b
  | .group i ms,b=>X.grp i b (evL X (X.kn i) (X.start i b) ms (X.start i b))
def evL (X:CellX) (kn:Bool) (b0:St):List Tr→St→St
  | [],now=>now
  | t::ts,now=>evL X kn b0 ts (if covT X t=true then evT X t (if kn=true then b0 else now) else now)
end
inductive SpanL (K:Nat→Int):List Tr→Nat→Nat→Prop
  | nil (i:Nat):SpanL K [] i i
  | fill (i:Nat) (ts:List Tr) (j:Nat) (h:K i=0) (h2:SpanL K ts (i+1) j):SpanL K (.fill i::ts) i j
  | group (i:Nat) (ms:List Tr) (e:Nat) (ts:List Tr) (j:Nat) (h:K i=1) (h1:SpanL K ms (i+1) e) (h0:K e≠0) (h3:K e≠1) (h2:SpanL K ts (e+1) j):SpanL K (.group i ms::ts) i j
theorem SpanL.fillR {K:Nat→Int} {ms:List Tr} {i k:Nat} (h:SpanL K ms i k) (hk:K k=0):SpanL K (ms++[.fill k]) i (k+1):=by
  induction h with
  | nil i=>exact .fill i [] _ hk (.nil _)
  | fill i ts j h h2 ih=>exact .fill i _ _ h (ih hk)
  | group i ms e ts j h h1 h0 h3 h2 ih1 ih2=>exact .group i ms e _ _ h h1 h0 h3 (ih2 hk)
theorem SpanL.groupR {K:Nat→Int} {ms ms':List Tr} {i g k:Nat} (h:SpanL K ms i g) (hg:K g=1) (hms:SpanL K ms' (g+1) k) (h0:K k≠0) (h1:K k≠1):SpanL K (ms++[.group g ms']) i (k+1):=by
  induction h with
  | nil i=>exact .group i ms' k [] _ hg hms h0 h1 (.nil _)
  | fill i ts j h h2 ih=>exact .fill i _ _ h (ih hg hms)
  | group i ms e ts j h h1 h0 h3 h2 ih1 ih2=>exact .group i ms e _ _ h h1 h0 h3 (ih2 hg hms)
theorem SpanL.le {K:Nat→Int} {ms:List Tr} {i j:Nat} (h:SpanL K ms i j):i≤j:=by
  induction h with
  | nil i=>exact Nat.le_refl _
  | fill i ts j h h2 ih=>omega
  | group i ms e ts j h h1 h0 h3 h2 ih1 ih2=>omega
def z54 (K:Nat→Int):Nat→List (Nat × List Tr)→Prop
  | _,[]=>False
  | k,[(_,ms)]=>SpanL K ms 0 k
  | k,(i,ms)::q::r=>K i=1∧SpanL K ms (i+1) k∧z54 K i (q::r)
theorem x6s {K:Nat→Int} {n:Nat} (hd:∀ k,k<n→K k≠0→K k≠1→2≤(zst K k).length):∀ k,k≤n→z54 K k (zst K k)
  | 0,_=>.nil 0
  | k+1,hk=>by
    have ih:=x6s hd k (by omega)
    have hdk:=hd k (by omega)
    show z54 K (k+1) (q5j k (K k) (zst K k))
    generalize zst K k=s at *
    match s,ih with
    | [(i,ms)],ih =>
      have ih:SpanL K ms 0 k:=ih
      unfold q5j
      dsimp only
      by_cases h0:K k=0
      · rw [if_pos h0];exact ih.fillR h0
      · rw [if_neg h0]
        by_cases h1:K k=1
        · rw [if_pos h1];exact ⟨h1,.nil _,ih⟩
        · have:=hdk h0 h1;simp at this
    | (i,ms)::(j,ms')::r,ih =>
      obtain ⟨g1,g2,g3⟩:K i=1∧SpanL K ms (i+1) k∧z54 K i ((j,ms')::r):=ih
      unfold q5j
      dsimp only
      by_cases h0:K k=0
      · rw [if_pos h0];exact ⟨g1,g2.fillR h0,g3⟩
      · rw [if_neg h0]
        by_cases h1:K k=1
        · rw [if_pos h1];exact ⟨h1,.nil _,g1,g2,g3⟩
        · rw [if_neg h1]
          match r,g3 with
          | [],g3=>exact SpanL.groupR g3 g1 g2 h0 h1
          | q::r,g3 =>
            obtain ⟨k1,k2,k3⟩:K j=1∧SpanL K ms' (j+1) i∧z54 K j (q::r):=g3
            exact ⟨k1,SpanL.groupR k2 g1 g2 h0 h1,k3⟩
theorem x8u {K:Nat→Int} {n:Nat} (hd:∀ k,k<n→K k≠0→K k≠1→2≤(zst K k).length) {ms:List Tr} (h:(zst K n).map (·.2)=[ms]):SpanL K ms 0 n:=by
  have:=x6s hd n (Nat.le_refl _)
  generalize zst K n=s at *
  match s,h with
  | [(i,m)],h =>
    simp at h
    subst h;exact this
end Go.Proofs.YticolnghiibgfaaGreat
namespace Go.Proofs.YticolnghiibgfaaGreat
open Go.RowKit
set_option maxRecDepth 20000
end Go.Proofs.YticolnghiibgfaaGreat
namespace Go.Proofs.YticolnghiibgfaaGreat
open Go.RowKit
set_option maxRecDepth 20000
def q1u (L:List Run):List Value:=L.flatMap fun r=>[.int .i64 r.y,.int .i64 r.x0,.int .i64 r.x1]
theorem q3v (K L:List Run):q1u (K++L)=q1u K++q1u L:=by simp [q1u]
theorem z8d (r:Run):q1u [r]=[.int .i64 r.y,.int .i64 r.x0,.int .i64 r.x1]:=by simp [q1u]
theorem q3w:∀ (L:List Run),(q1u L).length=L.length*3
  | []=>rfl
  | r::L=>by
    have:=q3w L
    show (q1u ([r]++L)).length=_
    rw [q3v,List.length_append,this,z8d];simp;omega
theorem q6b {L:List Run} {i:Nat} {r:Run} (h:L[i]? = some r):(q1u L)[i*3]? = some (.int .i64 r.y)∧(q1u L)[i*3+1]? = some (.int .i64 r.x0)∧(q1u L)[i*3+2]? = some (.int .i64 r.x1):=by
  obtain ⟨h1,rfl⟩:=List.getElem?_eq_some_iff.1 h
  have e:L=L.take i++([L[i]]++L.drop (i+1)):=by simp
  have hl:(q1u (L.take i)).length=i*3:=by rw [q3w,List.length_take];congr 1;omega
  have key:∀ j,j<3→(q1u L)[i*3+j]? = [Value.int .i64 L[i].y,.int .i64 L[i].x0,.int .i64 L[i].x1][j]?:=fun j hj=>by
    conv=>lhs;rw [e,q3v,q3v,z8d]
    rw [List.getElem?_append_right (by omega),hl,show i*3+j-i*3=j by omega,List.getElem?_append_left (by simp;omega)]
  exact ⟨key 0 (by omega),key 1 (by omega),key 2 (by omega)⟩
theorem x4n {L:List Run}:∀ v∈q1u L,v.oneCell'=true:=fun v hv=>by
  simp only [q1u,List.mem_flatMap,List.mem_cons,List.not_mem_nil,or_false] at hv
  obtain ⟨r,_,rfl |rfl |rfl⟩:=hv <;> rfl
theorem x6t (K:List Run) (r:Run):(q1u (K++[r]))[K.length*3]? = some (.int .i64 r.y)∧(q1u (K++[r]))[K.length*3+1]? = some (.int .i64 r.x0)∧(q1u (K++[r]))[K.length*3+2]? = some (.int .i64 r.x1) :=
  q6b (by simp)
end Go.Proofs.YticolnghiibgfaaGreat
namespace Go.Proofs.YticolnghiibgfaaGreat
open Go.RowKit
set_option maxRecDepth 20000
theorem RunsM.frozen {G:Mem} {A:Option Addr} {L:List Run} (h:q1u L=[]∨∃ b,A=some ⟨b,0,none⟩∧∀ (j:Nat) u,(q1u L)[j]? = some u→G.cell? ⟨b,j,none⟩=some u):RunsM G A L:=fun i r hr=>by
  obtain ⟨h1,h2,h3⟩:=q6b hr
  rcases h with h |⟨b,rfl,h⟩
  · rw [h] at h1;simp at h1
  · exact ⟨b,0,rfl,by rw [Nat.zero_add];exact h _ _ h1,by rw [Nat.zero_add];exact h _ _ h2,by rw [Nat.zero_add];exact h _ _ h3⟩
def inR (r:Run) (x y:Int):Bool:=decide (r.y=y∧r.x0≤x∧x<r.x1)
def hasL (L:List Run) (x y:Int):Bool:=L.any fun r=>inR r x y
set_option maxHeartbeats 1000000 in
theorem z66 (A B:Option Addr) (L:List Run) (c d:Nat) (G:Mem) (hA:RunsM G A L) (hB:RunsM G B L) (hl:L.length≤1000000000000):Gives Tryz.prog 23 [.val (.slice A L.length c),.val (.slice B L.length d)] G (.val (.bool true)):=by
  refine q0w tab_ok Tryz.func23 ?_
  (repeat ((try (conv=>whnf));(refine stQ ?_)))
  conv=>whnf
  refine q02 tab_ok (fun i=>i≤L.length) (fun (i:Nat)=>[(13,.val (.int .i64 i))]) (fun i=>[]) (fun i=>L.length-i) 0 (Nat.zero_le _) ?_ ?_
  · ((refine q0h ?_);(conv=>whnf);(refine q0j (by rfl) (by rfl) flQ ?_))
    exact q0e
  · rintro i hi
    rcases Nat.lt_or_ge i L.length with h1 |h1
    · obtain ⟨r,hr⟩:∃ r,L[i]? = some r:=⟨L[i],List.getElem?_eq_getElem h1⟩
      obtain ⟨p,rfl,ca⟩:=hA.cells hr
      obtain ⟨q,rfl,cb⟩:=hB.cells hr
      (repeat ((try (conv=>whnf));(refine stQ ?_)))
      conv=>whnf
      refine ca _ ?_
      (repeat ((try (conv=>whnf));(refine stQ ?_)))
      conv=>whnf
      refine cb _ ?_
      (repeat ((try (conv=>whnf));(refine stQ ?_)))
      refine ⟨i+1,by omega,by omega,?_⟩
      ((refine q0h ?_);(conv=>whnf);(refine q0j (by rfl) (by rfl) flQ ?_))
      exact q0e
    · (repeat ((try (conv=>whnf));(refine stQ ?_)))
      exact ⟨rfl,rfl⟩
end Go.Proofs.YticolnghiibgfaaGreat
namespace Go.Proofs.YticolnghiibgfaaGreat
theorem x6u (L:List Run):q2m (nthR L) L.length=L:=by
  apply List.ext_getElem?
  intro i
  unfold q2m
  rw [List.getElem?_map]
  by_cases h:i<L.length
  · rw [List.getElem?_range h,List.getElem?_eq_getElem h]
    simp [nthR,List.getElem?_eq_getElem h]
  · rw [List.getElem?_eq_none (by simpa using h),List.getElem?_eq_none (by omega)];rfl
def ValidL (L:List Run):Prop:=Valid (nthR L) L.length
theorem ValidL.ok {L:List Run} (h:ValidL L):okR L:=by have:=Valid.ok h;rwa [x6u] at this
theorem ValidL.bd {L:List Run} (h:ValidL L) {r:Run} (hr:r∈L):(-8192≤r.y∧r.y≤8191)∧(-8192≤r.x0∧r.x0<r.x1∧r.x1≤8192):=by
  obtain ⟨i,hi⟩:=List.mem_iff_getElem?.1 hr
  have:=Valid.bd h i (List.getElem?_eq_some_iff.1 hi).1
  rwa [q4u hi] at this
theorem z0v {L:List Run} (h:okR L):∀ {i j:Nat} {r s:Run},i<j→L[i]? = some r→L[j]? = some s→r.y<s.y∨(r.y=s.y∧r.x1<s.x0):=by
  induction L with
  | nil=>intro i j r s _ hi;simp at hi
  | cons a l ih =>
    intro i j r s hij hi hj
    cases j with
    | zero=>omega
    | succ j =>
      cases i with
      | zero =>
        simp at hi;subst hi
        exact h.2.1 s (List.mem_of_getElem? (by simpa using hj))
      | succ i=>exact ih h.2.2 (i:=i) (j:=j) (by omega) (by simpa using hi) (by simpa using hj)
theorem ValidL.mk {L:List Run} (h:okR L) (hb:∀ r∈L,(-8192≤r.y∧r.y≤8191)∧(-8192≤r.x0∧r.x1≤8192)):ValidL L:=by
  refine ⟨fun i hi=>?_,fun i j hij hj=>?_⟩
  · have e:L[i]? = some L[i]:=List.getElem?_eq_getElem hi
    rw [q4u e]
    have h1:=hb _ (List.getElem_mem hi)
    have h2:=z3l h (List.getElem_mem hi)
    omega
  · have e:L[i]? = some L[i]:=List.getElem?_eq_getElem (by omega)
    have e':L[j]? = some L[j]:=List.getElem?_eq_getElem hj
    rw [q4u e,q4u e']
    exact z0v h hij e e'
theorem x10 {l:List Int} (h:l.Pairwise (·<·)) {B:Nat} (hb:∀ z∈l,0≤z∧z<B):l.length≤B:=by
  have key:∀ (l:List Int) (a:Int),l.Pairwise (·<·)→(∀ z∈l,a≤z∧z<B)→a≤B→(l.length:Int)≤B-a:=by
    intro l
    induction l with
    | nil=>intro a _ _ ha;simp;omega
    | cons x l ih =>
      intro a hp hz ha
      obtain ⟨h1,h2⟩:=List.pairwise_cons.1 hp
      have h3:=hz x (by simp)
      have:=ih (x+1) h2 (fun z hz'=>⟨by have:=h1 z hz';omega,(hz z (by simp [hz'])).2⟩) (by omega)
      simp;omega
  have:=key l 0 h hb (by omega)
  omega
theorem x4o {L:List Run} (h:okR L) (hb:∀ r∈L,(-8192≤r.y∧r.y≤8191)∧(-8192≤r.x0∧r.x1≤8192)):L.length≤268451840:=by
  have hp:(L.map fun r=>(r.y+8192)*16385+(r.x1+8192)).Pairwise (·<·):=by
    rw [List.pairwise_map,List.pairwise_iff_getElem]
    intro i j hi hj hij
    have h1:=z0v h hij (List.getElem?_eq_getElem hi) (List.getElem?_eq_getElem hj)
    have h2:=hb _ (List.getElem_mem hi)
    have h3:=hb _ (List.getElem_mem hj)
    have h4:=z3l h (List.getElem_mem hj)
    have h5:=z3l h (List.getElem_mem hi)
    omega
  have:=x10 hp (B:=268451840) (fun z hz=>by
    obtain ⟨r,hr,rfl⟩:=List.mem_map.1 hz
    have h1:=hb r hr
    have h2:=z3l h hr
    omega)
  simpa using this
theorem ValidL.length {L:List Run} (h:ValidL L):L.length≤268451840:=x4o h.ok fun r hr=>by have:=h.bd hr;omega
end Go.Proofs.YticolnghiibgfaaGreat
namespace Go.Proofs.YticolnghiibgfaaGreat
open Go.RowKit
set_option maxRecDepth 20000
def q4w (L:List Run) (o:Int):List Value:=L.flatMap fun r=>[.int .i64 r.y,.int .i64 r.x0,.int .i64 o,.int .i64 r.y,.int .i64 r.x1,.int .i64 o]
theorem q9h (K L:List Run) (o:Int):q4w (K++L) o=q4w K o++q4w L o:=by simp [q4w]
theorem z8e (r:Run) (o:Int):q4w [r] o=[.int .i64 r.y,.int .i64 r.x0,.int .i64 o,.int .i64 r.y,.int .i64 r.x1,.int .i64 o]:=by simp [q4w]
theorem z20 (o:Int):∀ (L:List Run),(q4w L o).length=L.length*6
  | []=>rfl
  | r::L=>by
    have:=z20 o L
    show (q4w ([r]++L) o).length=_
    rw [q9h,List.length_append,this,z8e];simp;omega
theorem x6v {L:List Run} {o:Int} {e:Nat} (h:e<2*L.length):(q4w L o)[e*3]? = some (.int .i64 (eY (nthR L) e))∧(q4w L o)[e*3+1]? = some (.int .i64 (eX (nthR L) e))∧(q4w L o)[e*3+2]? = some (.int .i64 o):=by
  obtain ⟨r,hr⟩:∃ r,L[e/2]? = some r:=⟨_,List.getElem?_eq_getElem (by omega)⟩
  have hsp:L=L.take (e/2)++([r]++L.drop (e/2+1)):=by
    obtain ⟨h1,rfl⟩:=List.getElem?_eq_some_iff.1 hr
    simp
  have hl:(q4w (L.take (e/2)) o).length=e/2*6:=by rw [z20,List.length_take];congr 1;omega
  have key:∀ j,j<6→(q4w L o)[e/2*6+j]? = [Value.int .i64 r.y,.int .i64 r.x0,.int .i64 o,.int .i64 r.y,.int .i64 r.x1,.int .i64 o][j]?:=fun j hj=>by
    conv=>lhs;rw [hsp,q9h,q9h,z8e]
    rw [List.getElem?_append_right (by omega),hl,show e/2*6+j-e/2*6=j by omega,List.getElem?_append_left (by simp;omega)]
  unfold eY eX
  rw [q4u hr]
  rcases Nat.mod_two_eq_zero_or_one e with h0 |h0
  · rw [if_pos h0]
    have e1:e*3=e/2*6+0:=by omega
    rw [e1]
    exact ⟨key 0 (by omega),key 1 (by omega),key 2 (by omega)⟩
  · rw [if_neg (by omega)]
    have e1:e*3=e/2*6+3:=by omega
    rw [e1]
    exact ⟨key 3 (by omega),key 4 (by omega),key 5 (by omega)⟩
end Go.Proofs.YticolnghiibgfaaGreat
namespace Go.Proofs.YticolnghiibgfaaGreat
open Go.RowKit
set_option maxRecDepth 20000
end Go.Proofs.YticolnghiibgfaaGreat
