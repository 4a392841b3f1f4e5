/-
  Merged: XTreeLaw, XPut, XJoined, XRegRef, XMixed2, XEdges, XOr.
-/
import Derived.Test.YticolnghiibgfaaGreatMrg24
import Derived.Test.YticolnghiibgfaaGreatMrg15
import Derived.Test.YticolnghiibgfaaGreatMrg18
import Derived.Test.YticolnghiibgfaaGreatMrg14
import Derived.Test.YticolnghiibgfaaGreatMrg23
set_option linter.unusedVariables false
set_option linter.unusedSimpArgs false
set_option linter.unnecessarySimpa false
namespace Go.Proofs.YticolnghiibgfaaGreat
abbrev St:=Nat→Int
structure CellX where
  cov:Nat→Bool
  fill:Nat→St→St
  kn:Nat→Bool
  start:Nat→St→St
  grp:Nat→St→St→St
mutual
def covT (X:CellX):Tr→Bool
  | .fill i=>X.cov i
  | .group _ ms=>covL X ms
def covL (X:CellX):List Tr→Bool
  | []=>false
  | t::ts=>covT X t||covL X ts
end
mutual
def evT (X:CellX):Tr→St→St
  | .fill i,b=>X.fill i b
  | .group i ms,b=>X.grp i b (evL X (X.kn i) (X.start i b) ms (X.start i b))
def evL (X:CellX) (kn:Bool) (b0:St):List Tr→St→St
  | [],now=>now
  | t::ts,now=>evL X kn b0 ts (if covT X t=true then evT X t (if kn=true then b0 else now) else now)
end
inductive SpanL (K:Nat→Int):List Tr→Nat→Nat→Prop
  | nil (i:Nat):SpanL K [] i i
  | fill (i:Nat) (ts:List Tr) (j:Nat) (h:K i=0) (h2:SpanL K ts (i+1) j):SpanL K (.fill i::ts) i j
  | group (i:Nat) (ms:List Tr) (e:Nat) (ts:List Tr) (j:Nat) (h:K i=1) (h1:SpanL K ms (i+1) e) (h0:K e≠0) (h3:K e≠1) (h2:SpanL K ts (e+1) j):SpanL K (.group i ms::ts) i j
theorem SpanL.fillR {K:Nat→Int} {ms:List Tr} {i k:Nat} (h:SpanL K ms i k) (hk:K k=0):SpanL K (ms++[.fill k]) i (k+1):=by
  induction h with
  | nil i=>exact .fill i [] _ hk (.nil _)
  | fill i ts j h h2 ih=>exact .fill i _ _ h (ih hk)
  | group i ms e ts j h h1 h0 h3 h2 ih1 ih2=>exact .group i ms e _ _ h h1 h0 h3 (ih2 hk)
theorem SpanL.groupR {K:Nat→Int} {ms ms':List Tr} {i g k:Nat} (h:SpanL K ms i g) (hg:K g=1) (hms:SpanL K ms' (g+1) k) (h0:K k≠0) (h1:K k≠1):SpanL K (ms++[.group g ms']) i (k+1):=by
  induction h with
  | nil i=>exact .group i ms' k [] _ hg hms h0 h1 (.nil _)
  | fill i ts j h h2 ih=>exact .fill i _ _ h (ih hg hms)
  | group i ms e ts j h h1 h0 h3 h2 ih1 ih2=>exact .group i ms e _ _ h h1 h0 h3 (ih2 hg hms)
theorem SpanL.le {K:Nat→Int} {ms:List Tr} {i j:Nat} (h:SpanL K ms i j):i≤j:=by
  induction h with
  | nil i=>exact Nat.le_refl _
  | fill i ts j h h2 ih=>omega
  | group i ms e ts j h h1 h0 h3 h2 ih1 ih2=>omega
def z7l (K:Nat→Int):Nat→List (Nat × List Tr)→Prop
  | _,[]=>False
  | k,[(_,ms)]=>SpanL K ms 0 k
  | k,(i,ms)::q::r=>K i=1∧SpanL K ms (i+1) k∧z7l K i (q::r)
theorem x8a {K:Nat→Int} {n:Nat} (hd:∀ k,k<n→K k≠0→K k≠1→2≤(zst K k).length):∀ k,k≤n→z7l K k (zst K k)
  | 0,_=>.nil 0
  | k+1,hk=>by
    have ih:=x8a hd k (by omega)
    have hdk:=hd k (by omega)
    show z7l K (k+1) (q55 k (K k) (zst K k))
    generalize zst K k=s at *
    match s,ih with
    | [(i,ms)],ih =>
      have ih:SpanL K ms 0 k:=ih
      unfold q55
      dsimp only
      by_cases h0:K k=0
      · rw [if_pos h0];exact ih.fillR h0
      · rw [if_neg h0]
        by_cases h1:K k=1
        · rw [if_pos h1];exact ⟨h1,.nil _,ih⟩
        · have:=hdk h0 h1;simp at this
    | (i,ms)::(j,ms')::r,ih =>
      obtain ⟨g1,g2,g3⟩:K i=1∧SpanL K ms (i+1) k∧z7l K i ((j,ms')::r):=ih
      unfold q55
      dsimp only
      by_cases h0:K k=0
      · rw [if_pos h0];exact ⟨g1,g2.fillR h0,g3⟩
      · rw [if_neg h0]
        by_cases h1:K k=1
        · rw [if_pos h1];exact ⟨h1,.nil _,g1,g2,g3⟩
        · rw [if_neg h1]
          match r,g3 with
          | [],g3=>exact SpanL.groupR g3 g1 g2 h0 h1
          | q::r,g3 =>
            obtain ⟨k1,k2,k3⟩:K j=1∧SpanL K ms' (j+1) i∧z7l K j (q::r):=g3
            exact ⟨k1,SpanL.groupR k2 g1 g2 h0 h1,k3⟩
theorem v0s {K:Nat→Int} {n:Nat} (hd:∀ k,k<n→K k≠0→K k≠1→2≤(zst K k).length) {ms:List Tr} (h:(zst K n).map (·.2)=[ms]):SpanL K ms 0 n:=by
  have:=x8a hd n (Nat.le_refl _)
  generalize zst K n=s at *
  match s,h with
  | [(i,m)],h =>
    simp at h
    subst h;exact this
end Go.Proofs.YticolnghiibgfaaGreat
namespace Go.Proofs.YticolnghiibgfaaGreat
open Go.RowKit
set_option maxRecDepth 20000
def ints (l:List Int):List Value:=l.map (.int .i64)
theorem q5y {l:List Int} {i:Nat} {z:Int} (h:l[i]? = some z):(ints l)[i]? = some (.int .i64 z):=by simp [ints,h]
theorem v0t {l:List Int} {i:Nat} {z:Int} (h:l[i]? = some z):(ints l)[(i:Int).toNat * (⟨.int .i64,1,8,[.int .i64 0]⟩:TI).size]? = some (.int .i64 z):=by
  rw [Int.toNat_natCast,Nat.mul_one];exact q5y h
theorem x8b {l:List Int} {i:Nat} {z:Int} (h:l[i+1]? = some z):(ints l)[((i:Int)+1).toNat * (⟨.int .i64,1,8,[.int .i64 0]⟩:TI).size]? = some (.int .i64 z):=by
  rw [show ((i:Int)+1).toNat=i+1 by omega,Nat.mul_one];exact q5y h
theorem q4z (l:List Int):(ints l).length=l.length:=by simp [ints]
theorem v2l {l:List Int} {x:Int} {i:Nat} (hi:i≤l.length) (a:Value):((((ints l++[a]).take (i+1)++ints (l.drop i)++(ints l++[a]).drop (i+1+(ints (l.drop i)).length)).take i++[.int .i64 x]++((ints l++[a]).take (i+1)++ints (l.drop i)++(ints l++[a]).drop (i+1+(ints (l.drop i)).length)).drop (i+1)))=ints (l.take i++x::l.drop i):=by
  have e1:(ints l++[a]).drop (i+1+(ints (l.drop i)).length)=[]:=by
    apply List.drop_eq_nil_of_le;simp [ints];omega
  rw [e1,List.append_nil]
  have e2:((ints l++[a]).take (i+1)).length=i+1:=by simp [ints];omega
  rw [List.take_append_of_le_length (by omega),List.drop_append_of_le_length (by omega),List.drop_of_length_le (by omega)]
  rw [List.take_take,show min i (i+1)=i by omega,List.take_append_of_le_length (by simp [ints];omega)]
  simp [ints]
theorem z9z {l:List Int} {i j:Nat} {v:Value} {r:List Value} (h:(ints (l.drop i))[j]? = some v):(ints l++r)[(i:Int).toNat * 1+j]? = some v:=by
  have hj:=(List.getElem?_eq_some_iff.1 h).1
  simp only [q4z,List.length_drop] at hj
  rw [List.getElem?_append_left (by simp [q4z];omega)]
  simp only [ints,List.getElem?_map,List.getElem?_drop] at h ⊢
  rw [← h];congr 2;omega
theorem z90 {l:List Int}:∀ v∈ints l,v.oneCell'=true:=fun v hv=>by
  simp only [ints,List.mem_map] at hv
  obtain ⟨z,_,rfl⟩:=hv;rfl
theorem x2h {l:List Int} {i:Nat} {x:Int} (hi:i≤l.length):(i:Int).toNat * 1+[Value.int .i64 x].length≤((ints l++[Value.int .i64 0]).take (((i:Int)+1).toNat * 1)++ints (l.drop i)++(ints l++[Value.int .i64 0]).drop (((i:Int)+1).toNat * 1+(ints (l.drop i)).length)).length:=by
  simp only [List.length_append,List.length_take,List.length_drop,q4z,List.length_singleton];omega
theorem x4o {l:List Int} {i:Nat} {x:Int} (hi:i≤l.length) (hins:ins x l=l.take i++x::l.drop i) :
    Blk.own 3 1 (l.length+1) (((ints l++[Value.int .i64 0]).take (((i:Int)+1).toNat * 1)++ints (l.drop i)++(ints l++[Value.int .i64 0]).drop (((i:Int)+1).toNat * 1+(ints (l.drop i)).length)).take ((i:Int).toNat * 1)++[.int .i64 x]++((ints l++[Value.int .i64 0]).take (((i:Int)+1).toNat * 1)++ints (l.drop i)++(ints l++[Value.int .i64 0]).drop (((i:Int)+1).toNat * 1+(ints (l.drop i)).length)).drop ((i:Int).toNat * 1+[Value.int .i64 x].length)) =
      .own 3 1 (ins x l).length (ints (ins x l)):=by
  rw [show (((i:Int)+1).toNat * 1)=i+1 by omega,show ((i:Int).toNat * 1)=i by omega,List.length_singleton,v2l hi,hins]
  have e:l.length+1=(l.take i++x::l.drop i).length:=by simp;omega
  rw [e]
theorem v2m (x:Int) (l:List Int):0<(ins x l).length:=by
  cases l with
  | nil=>simp [ins]
  | cons a l=>unfold ins;split <;> (try split) <;> simp
set_option maxHeartbeats 1000000 in
theorem q2w (l:List Int) (x:Int) (G:Mem) (hl:l.length≤4000000000):z4m Tryz.prog 47 [.val (.int .i64 x)] G 3 1 l.length (ints l) (ins x l).length (ints (ins x l)):=by
  refine x2a tab_ok Tryz.func47 (v2m x l) fun G' _=>?_
  (repeat ((try (conv=>whnf));(refine stQ ?_)))
  conv=>whnf
  refine q01 tab_ok (fun i=>i≤l.length∧∀ (j:Nat) z,j<i→l[j]? = some z→z<x) (fun (i:Nat)=>[(5,.val (.int .i64 i))]) (fun i=>[.own 3 1 l.length (ints l)]) (fun i=>l.length-i) 0 ⟨Nat.zero_le _,fun j z hj=>by omega⟩ ?_ ?_
  · ((refine q0g ?_);(conv=>whnf);(refine q0k (by rfl) (by rfl) flQ ?_))
    exact q0f rfl rfl q0e
  · rintro i ⟨hi,hlt⟩
    rcases Nat.lt_or_ge i l.length with h1 |h1
    · obtain ⟨z,hz⟩:∃ z,l[i]? = some z:=⟨l[i],List.getElem?_eq_getElem h1⟩
      by_cases hzx:z<x
      · (repeat ((try (conv=>whnf));(refine stQ ?_)))
        conv=>whnf
        refine q0j (.int .i64 z) (by rw [Int.toNat_natCast,Nat.mul_one];exact q5y hz) ?_
        (repeat ((try (conv=>whnf));(refine stQ ?_)))
        refine ⟨i+1,⟨by omega,fun j q hj hq=>?_⟩,by omega,?_⟩
        · rcases Nat.lt_or_ge j i with h2 |h2
          · exact hlt j q h2 hq
          · have:j=i:=by omega
            subst this;rw [hz] at hq;cases hq;exact hzx
        · ((refine q0g ?_);(conv=>whnf);(refine q0k (by rfl) (by rfl) flQ ?_))
          exact q0f rfl rfl q0e
      · have hins:=x1y (x:=x) hi hlt (fun q hq=>by rw [hz] at hq;cases hq;exact hzx)
        rw [hz] at hins
        by_cases he:z=x
        · simp only [if_pos he] at hins
          (repeat ((try (conv=>whnf));(refine stQ ?_)))
          conv=>whnf
          refine q0j (.int .i64 z) (by rw [Int.toNat_natCast,Nat.mul_one];exact q5y hz) ?_
          (repeat ((try (conv=>whnf));(refine stQ ?_)))
          conv=>whnf
          refine q0j (.int .i64 z) (by rw [Int.toNat_natCast,Nat.mul_one];exact q5y hz) ?_
          (repeat ((try (conv=>whnf));(refine stQ ?_)))
          conv=>whnf
          exact ⟨0,rfl,by rw [hins];rfl⟩
        · simp only [if_neg he] at hins
          (repeat ((try (conv=>whnf));(refine stQ ?_)))
          conv=>whnf
          refine q0j (.int .i64 z) (by rw [Int.toNat_natCast,Nat.mul_one];exact q5y hz) ?_
          (repeat ((try (conv=>whnf));(refine stQ ?_)))
          conv=>whnf
          refine q0j (.int .i64 z) (by rw [Int.toNat_natCast,Nat.mul_one];exact q5y hz) ?_
          (repeat ((try (conv=>whnf));(refine stQ ?_)))
          conv=>whnf
          refine q1p (ints (l.drop i)) (by simp only [q4z,List.length_drop];omega) (fun j v hj=>z9z hj) ?_
          conv=>whnf
          refine mustP.mk ⟨by simp only [q4z,List.length_drop,List.length_append,List.length_singleton];omega,z90⟩ ?_
          (repeat ((try (conv=>whnf));(refine stQ ?_)))
          conv=>whnf
          refine mustP.mk (x2h (by omega)) ?_
          (repeat ((try (conv=>whnf));(refine stQ ?_)))
          conv=>whnf
          exact ⟨2,rfl,x4o (by omega) hins⟩
    · have hins:=x1y (x:=x) hi hlt (fun q hq=>by rw [List.getElem?_eq_none (by omega)] at hq;cases hq)
      rw [List.getElem?_eq_none (by omega)] at hins
      simp only at hins
      (repeat ((try (conv=>whnf));(refine stQ ?_)))
      conv=>whnf
      refine q1p (ints (l.drop i)) (by simp only [q4z,List.length_drop];omega) (fun j v hj=>z9z hj) ?_
      conv=>whnf
      refine mustP.mk ⟨by simp only [q4z,List.length_drop,List.length_append,List.length_singleton];omega,z90⟩ ?_
      (repeat ((try (conv=>whnf));(refine stQ ?_)))
      conv=>whnf
      refine mustP.mk (x2h (by omega)) ?_
      (repeat ((try (conv=>whnf));(refine stQ ?_)))
      conv=>whnf
      exact ⟨2,rfl,x4o (by omega) (by rw [hins,List.take_of_length_le (by omega),List.drop_of_length_le (by omega)])⟩
end Go.Proofs.YticolnghiibgfaaGreat
namespace Go.Proofs.YticolnghiibgfaaGreat
open Go.RowKit
set_option maxRecDepth 20000
def q1a (L:List Run):List Value:=L.flatMap fun r=>[.int .i64 r.y,.int .i64 r.x0,.int .i64 r.x1]
theorem q1l (K L:List Run):q1a (K++L)=q1a K++q1a L:=by simp [q1a]
theorem q67 (r:Run):q1a [r]=[.int .i64 r.y,.int .i64 r.x0,.int .i64 r.x1]:=by simp [q1a]
theorem q1x:∀ (L:List Run),(q1a L).length=L.length*3
  | []=>rfl
  | r::L=>by
    have:=q1x L
    show (q1a ([r]++L)).length=_
    rw [q1l,List.length_append,this,q67];simp;omega
theorem q5e {L:List Run} {i:Nat} {r:Run} (h:L[i]? = some r):(q1a L)[i*3]? = some (.int .i64 r.y)∧(q1a L)[i*3+1]? = some (.int .i64 r.x0)∧(q1a L)[i*3+2]? = some (.int .i64 r.x1):=by
  obtain ⟨h1,rfl⟩:=List.getElem?_eq_some_iff.1 h
  have e:L=L.take i++([L[i]]++L.drop (i+1)):=by simp
  have hl:(q1a (L.take i)).length=i*3:=by rw [q1x,List.length_take];congr 1;omega
  have key:∀ j,j<3→(q1a L)[i*3+j]? = [Value.int .i64 L[i].y,.int .i64 L[i].x0,.int .i64 L[i].x1][j]?:=fun j hj=>by
    conv=>lhs;rw [e,q1l,q1l,q67]
    rw [List.getElem?_append_right (by omega),hl,show i*3+j-i*3=j by omega,List.getElem?_append_left (by simp;omega)]
  exact ⟨key 0 (by omega),key 1 (by omega),key 2 (by omega)⟩
theorem x54 {L:List Run}:∀ v∈q1a L,v.oneCell'=true:=fun v hv=>by
  simp only [q1a,List.mem_flatMap,List.mem_cons,List.not_mem_nil,or_false] at hv
  obtain ⟨r,_,rfl |rfl |rfl⟩:=hv <;> rfl
def q5t (L:List Run) (y a b:Int):List Run :=
  match L.getLast? with
  | some r=>if r.y=y∧r.x1=a then L.dropLast++[⟨y,r.x0,b⟩] else L++[⟨y,a,b⟩]
  | none=>[⟨y,a,b⟩]
theorem z37 {y a b:Int}:q5t [] y a b=[⟨y,a,b⟩]:=by simp [q5t]
theorem z2t {L:List Run} {r:Run} {y a b:Int} (h1:r.y=y) (h2:r.x1=a):q5t (L++[r]) y a b=L++[⟨y,r.x0,b⟩]:=by simp [q5t,h1,h2]
theorem z00 {L:List Run} {r:Run} {y a b:Int} (h1:¬ (r.y=y∧r.x1=a)):q5t (L++[r]) y a b=L++[r]++[⟨y,a,b⟩]:=by
  unfold q5t
  have e:(L++[r]).getLast? = some r:=by simp
  rw [e]
  simp only [if_neg h1]
theorem x8c (L:List Run) (y a b:Int):0<(q5t L y a b).length:=by
  rcases q63 L with rfl |⟨K,r,rfl⟩
  · simp [z37]
  · by_cases h:r.y=y∧r.x1=a
    · rw [z2t h.1 h.2];simp
    · rw [z00 h];simp
theorem x8d {L:List Run} {y a b:Int} (hu:upTo L y a) (h:a<b):q5t L y a b=addR L y a b:=by
  rcases q63 L with rfl |⟨K,r,rfl⟩
  · rw [z37,q7x (by omega)]
  · have hr:=hu r (by simp)
    by_cases h1:r.y=y∧a≤r.x1
    · rw [q62 (by omega) h1.1 h1.2,z2t h1.1 (by omega)]
      have:max r.x1 b=b:=by omega
      rw [this]
    · rw [q4y (by omega) h1,z00 (by omega)]
theorem q8v (K:List Run) (r:Run):(q1a (K++[r]))[K.length*3]? = some (.int .i64 r.y)∧(q1a (K++[r]))[K.length*3+1]? = some (.int .i64 r.x0)∧(q1a (K++[r]))[K.length*3+2]? = some (.int .i64 r.x1) :=
  q5e (by simp)
theorem z0f (K:List Run) (r:Run) (b:Int):(q1a (K++[r])).take (K.length*3+2)++[.int .i64 b]++(q1a (K++[r])).drop (K.length*3+2+1)=q1a (K++[⟨r.y,r.x0,b⟩]):=by
  have hl:=q1x K
  rw [q1l,q1l,q67,q67,List.take_append,List.drop_append,hl]
  rw [List.take_of_length_le (by omega),List.drop_of_length_le (by omega)]
  simp [show K.length*3+2-K.length*3=2 by omega,show K.length*3+2+1-K.length*3=3 by omega]
theorem v2n (K:List Run) (r:Run):(((K++[r]).length:Nat):Int)-1=(K.length:Int):=by simp
theorem v0u {K:List Run} {r:Run} {y a b:Int} (h1:r.y=y) (h2:r.x1=a) :
    Blk.own 87 3 (K++[r]).length ((q1a (K++[r])).take (((((K++[r]).length:Nat):Int)-1).toNat * 3+2)++[.int .i64 b]++(q1a (K++[r])).drop (((((K++[r]).length:Nat):Int)-1).toNat * 3+2+[Value.int .i64 b].length)) =
      .own 87 3 (q5t (K++[r]) y a b).length (q1a (q5t (K++[r]) y a b)):=by
  rw [z2t h1 h2,← h1,v2n,Int.toNat_natCast,List.length_singleton,z0f K r b]
  rw [show (K++[(⟨r.y,r.x0,b⟩:Run)]).length=(K++[r]).length by simp]
set_option maxHeartbeats 1000000 in
theorem z38 (L:List Run) (y a b:Int) (G:Mem) (hl:L.length≤1000000000000):z4m Tryz.prog 48 [.val (.int .i64 y),.val (.int .i64 a),.val (.int .i64 b)] G 87 3 L.length (q1a L) (q5t L y a b).length (q1a (q5t L y a b)):=by
  refine x2a tab_ok Tryz.func48 (x8c L y a b) fun G' _=>?_
  rcases q63 L with rfl |⟨K,r,rfl⟩
  · simp only [List.length_nil,show q1a []=[] from rfl]
    (repeat ((try (conv=>whnf));(refine stQ ?_)))
    conv=>whnf
    exact ⟨2,rfl,by rw [z37];rfl⟩
  · obtain ⟨c0,c1,c2⟩:=q8v K r
    have hkl:((K++[r]).length:Int)=K.length+1:=by simp
    have ei:((((K++[r]).length:Nat):Int)-1).toNat=K.length:=by omega
    by_cases h1:r.y=y
    · by_cases h2:r.x1=a
      · (repeat ((try (conv=>whnf));(refine stQ ?_)))
        conv=>whnf
        refine q0j (.int .i64 r.y) (by rw [ei];exact c0) ?_
        (repeat ((try (conv=>whnf));(refine stQ ?_)))
        conv=>whnf
        refine q0j (.int .i64 r.x1) (by rw [ei];exact c2) ?_
        (repeat ((try (conv=>whnf));(refine stQ ?_)))
        conv=>whnf
        refine mustP.mk (by rw [ei,q1x];simp;omega) ?_
        (repeat ((try (conv=>whnf));(refine stQ ?_)))
        conv=>whnf
        exact ⟨0,rfl,v0u h1 h2⟩
      · (repeat ((try (conv=>whnf));(refine stQ ?_)))
        conv=>whnf
        refine q0j (.int .i64 r.y) (by rw [ei];exact c0) ?_
        (repeat ((try (conv=>whnf));(refine stQ ?_)))
        conv=>whnf
        refine q0j (.int .i64 r.x1) (by rw [ei];exact c2) ?_
        (repeat ((try (conv=>whnf));(refine stQ ?_)))
        conv=>whnf
        refine ⟨2,rfl,?_⟩
        rw [z00 (by omega),q1l _ [⟨y,a,b⟩],q67]
        rw [show (K++[r]++[(⟨y,a,b⟩:Run)]).length=(K++[r]).length+1 by simp]
        rfl
    · (repeat ((try (conv=>whnf));(refine stQ ?_)))
      conv=>whnf
      refine q0j (.int .i64 r.y) (by rw [ei];exact c0) ?_
      (repeat ((try (conv=>whnf));(refine stQ ?_)))
      conv=>whnf
      refine ⟨2,rfl,?_⟩
      rw [z00 (by omega),q1l _ [⟨y,a,b⟩],q67]
      rw [show (K++[r]++[(⟨y,a,b⟩:Run)]).length=(K++[r]).length+1 by simp]
      rfl
end Go.Proofs.YticolnghiibgfaaGreat
namespace Go.Proofs.YticolnghiibgfaaGreat
open Go.RowKit
set_option maxRecDepth 20000
theorem RunsM.frozen {G:Mem} {A:Option Addr} {L:List Run} (h:q1a L=[]∨∃ b,A=some ⟨b,0,none⟩∧∀ (j:Nat) u,(q1a L)[j]? = some u→G.cell? ⟨b,j,none⟩=some u):RunsM G A L:=fun i r hr=>by
  obtain ⟨h1,h2,h3⟩:=q5e hr
  rcases h with h |⟨b,rfl,h⟩
  · rw [h] at h1;simp at h1
  · exact ⟨b,0,rfl,by rw [Nat.zero_add];exact h _ _ h1,by rw [Nat.zero_add];exact h _ _ h2,by rw [Nat.zero_add];exact h _ _ h3⟩
def inR (r:Run) (x y:Int):Bool:=decide (r.y=y∧r.x0≤x∧x<r.x1)
def hasL (L:List Run) (x y:Int):Bool:=L.any fun r=>inR r x y
theorem hasL_iff {L:List Run} {x y:Int}:hasL L x y=true↔hasR L x y:=by simp [hasL,hasR,inR]
theorem x8e {rs:Nat→Run} {n:Nat} {x y:Int}:hasL (q2o rs n) x y=hasB rs n x y:=by
  cases h:hasB rs n x y with
  | true=>exact hasL_iff.2 (hasB_iff.1 h)
  | false =>
    cases h2:hasL (q2o rs n) x y with
    | false=>rfl
    | true=>rw [hasB_iff.2 (hasL_iff.1 h2)] at h;cases h
theorem x8f {L:List Run} {x y:Int} (h:∀ (i:Nat) r,L[i]? = some r→inR r x y=false):hasL L x y=false:=by
  cases h2:hasL L x y with
  | false=>rfl
  | true =>
    obtain ⟨r,h3,h4⟩:=List.any_eq_true.1 h2
    obtain ⟨i,hi⟩:=List.mem_iff_getElem?.1 h3
    rw [h i r hi] at h4;cases h4
theorem x8g {L:List Run} {x y:Int} {i:Nat} {r:Run} (h:L[i]? = some r) (h2:inR r x y=true):hasL L x y=true:=List.any_eq_true.2 ⟨r,List.mem_of_getElem? h,h2⟩
set_option maxHeartbeats 1000000 in
theorem q8w (A:Option Addr) (L:List Run) (cap:Nat) (x y:Int) (G:Mem) (hR:RunsM G A L) (hl:L.length≤1000000000000):Gives Tryz.prog 17 [.val (.slice A L.length cap),.val (.int .i64 x),.val (.int .i64 y)] G (.val (.bool (hasL L x y))):=by
  refine q0r tab_ok Tryz.func17 ?_
  (repeat ((try (conv=>whnf));(refine stQ ?_)))
  conv=>whnf
  refine q01 tab_ok (fun i=>i≤L.length∧∀ (j:Nat) r,j<i→L[j]? = some r→inR r x y=false) (fun (i:Nat)=>[(10,.val (.int .i64 i))]) (fun i=>[]) (fun i=>L.length-i) 0 ⟨Nat.zero_le _,fun j z hj=>by omega⟩ ?_ ?_
  · ((refine q0g ?_);(conv=>whnf);(refine q0k (by rfl) (by rfl) flQ ?_))
    exact q0e
  · rintro i ⟨hi,hno⟩
    rcases Nat.lt_or_ge i L.length with h1 |h1
    · obtain ⟨r,hr⟩:∃ r,L[i]? = some r:=⟨L[i],List.getElem?_eq_getElem h1⟩
      obtain ⟨p,rfl,c0,c1,c2⟩:=hR.at_ hr
      have next:inR r x y=false→∀ (j:Nat) q,j<i+1→L[j]? = some q→inR q x y=false:=fun h j q hj hq=>by
        rcases Nat.lt_or_ge j i with h2 |h2
        · exact hno j q h2 hq
        · have:j=i:=by omega
          subst this;rw [hr] at hq;cases hq;exact h
      by_cases e1:r.y=y
      · by_cases e2:r.x0≤x
        · by_cases e3:x<r.x1
          · (repeat ((try (conv=>whnf));(refine stQ ?_)))
            conv=>whnf
            refine q0d _ c0 ?_
            (repeat ((try (conv=>whnf));(refine stQ ?_)))
            conv=>whnf
            refine q0d _ c1 ?_
            (repeat ((try (conv=>whnf));(refine stQ ?_)))
            conv=>whnf
            refine q0d _ c2 ?_
            (repeat ((try (conv=>whnf));(refine stQ ?_)))
            exact ⟨by rw [x8g hr (by simp [inR];omega)],rfl⟩
          · (repeat ((try (conv=>whnf));(refine stQ ?_)))
            conv=>whnf
            refine q0d _ c0 ?_
            (repeat ((try (conv=>whnf));(refine stQ ?_)))
            conv=>whnf
            refine q0d _ c1 ?_
            (repeat ((try (conv=>whnf));(refine stQ ?_)))
            conv=>whnf
            refine q0d _ c2 ?_
            (repeat ((try (conv=>whnf));(refine stQ ?_)))
            refine ⟨i+1,⟨by omega,next (by simp [inR];omega)⟩,by omega,?_⟩
            ((refine q0g ?_);(conv=>whnf);(refine q0k (by rfl) (by rfl) flQ ?_))
            exact q0e
        · (repeat ((try (conv=>whnf));(refine stQ ?_)))
          conv=>whnf
          refine q0d _ c0 ?_
          (repeat ((try (conv=>whnf));(refine stQ ?_)))
          conv=>whnf
          refine q0d _ c1 ?_
          (repeat ((try (conv=>whnf));(refine stQ ?_)))
          refine ⟨i+1,⟨by omega,next (by simp [inR];omega)⟩,by omega,?_⟩
          ((refine q0g ?_);(conv=>whnf);(refine q0k (by rfl) (by rfl) flQ ?_))
          exact q0e
      · (repeat ((try (conv=>whnf));(refine stQ ?_)))
        conv=>whnf
        refine q0d _ c0 ?_
        (repeat ((try (conv=>whnf));(refine stQ ?_)))
        refine ⟨i+1,⟨by omega,next (by simp [inR,e1])⟩,by omega,?_⟩
        ((refine q0g ?_);(conv=>whnf);(refine q0k (by rfl) (by rfl) flQ ?_))
        exact q0e
    · (repeat ((try (conv=>whnf));(refine stQ ?_)))
      exact ⟨by rw [x8f fun j r hr=>hno j r (by have:=(List.getElem?_eq_some_iff.1 hr).1;omega) hr],rfl⟩
set_option maxHeartbeats 1000000 in
theorem z1q (A B:Option Addr) (L:List Run) (c d:Nat) (G:Mem) (hA:RunsM G A L) (hB:RunsM G B L) (hl:L.length≤1000000000000):Gives Tryz.prog 23 [.val (.slice A L.length c),.val (.slice B L.length d)] G (.val (.bool true)):=by
  refine q0r tab_ok Tryz.func23 ?_
  (repeat ((try (conv=>whnf));(refine stQ ?_)))
  conv=>whnf
  refine q01 tab_ok (fun i=>i≤L.length) (fun (i:Nat)=>[(13,.val (.int .i64 i))]) (fun i=>[]) (fun i=>L.length-i) 0 (Nat.zero_le _) ?_ ?_
  · ((refine q0g ?_);(conv=>whnf);(refine q0k (by rfl) (by rfl) flQ ?_))
    exact q0e
  · rintro i hi
    rcases Nat.lt_or_ge i L.length with h1 |h1
    · obtain ⟨r,hr⟩:∃ r,L[i]? = some r:=⟨L[i],List.getElem?_eq_getElem h1⟩
      obtain ⟨p,rfl,ca⟩:=hA.cells hr
      obtain ⟨q,rfl,cb⟩:=hB.cells hr
      (repeat ((try (conv=>whnf));(refine stQ ?_)))
      conv=>whnf
      refine ca _ ?_
      (repeat ((try (conv=>whnf));(refine stQ ?_)))
      conv=>whnf
      refine cb _ ?_
      (repeat ((try (conv=>whnf));(refine stQ ?_)))
      refine ⟨i+1,by omega,by omega,?_⟩
      ((refine q0g ?_);(conv=>whnf);(refine q0k (by rfl) (by rfl) flQ ?_))
      exact q0e
    · (repeat ((try (conv=>whnf));(refine stQ ?_)))
      exact ⟨rfl,rfl⟩
end Go.Proofs.YticolnghiibgfaaGreat
namespace Go.Proofs.YticolnghiibgfaaGreat
theorem z39 (L:List Run):q2o (nthR L) L.length=L:=by
  apply List.ext_getElem?
  intro i
  unfold q2o
  rw [List.getElem?_map]
  by_cases h:i<L.length
  · rw [List.getElem?_range h,List.getElem?_eq_getElem h]
    simp [nthR,List.getElem?_eq_getElem h]
  · rw [List.getElem?_eq_none (by simpa using h),List.getElem?_eq_none (by omega)];rfl
theorem q4k (L:List Run) (x y:Int):hasB (nthR L) L.length x y=hasL L x y:=by rw [← x8e,z39]
def ValidL (L:List Run):Prop:=Valid (nthR L) L.length
theorem ValidL.ok {L:List Run} (h:ValidL L):okR L:=by have:=Valid.ok h;rwa [z39] at this
theorem ValidL.bd {L:List Run} (h:ValidL L) {r:Run} (hr:r∈L):(-8192≤r.y∧r.y≤8191)∧(-8192≤r.x0∧r.x0<r.x1∧r.x1≤8192):=by
  obtain ⟨i,hi⟩:=List.mem_iff_getElem?.1 hr
  have:=Valid.bd h i (List.getElem?_eq_some_iff.1 hi).1
  rwa [q5k hi] at this
theorem z4a {L:List Run} (h:okR L):∀ {i j:Nat} {r s:Run},i<j→L[i]? = some r→L[j]? = some s→r.y<s.y∨(r.y=s.y∧r.x1<s.x0):=by
  induction L with
  | nil=>intro i j r s _ hi;simp at hi
  | cons a l ih =>
    intro i j r s hij hi hj
    cases j with
    | zero=>omega
    | succ j =>
      cases i with
      | zero =>
        simp at hi;subst hi
        exact h.2.1 s (List.mem_of_getElem? (by simpa using hj))
      | succ i=>exact ih h.2.2 (i:=i) (j:=j) (by omega) (by simpa using hi) (by simpa using hj)
theorem ValidL.mk {L:List Run} (h:okR L) (hb:∀ r∈L,(-8192≤r.y∧r.y≤8191)∧(-8192≤r.x0∧r.x1≤8192)):ValidL L:=by
  refine ⟨fun i hi=>?_,fun i j hij hj=>?_⟩
  · have e:L[i]? = some L[i]:=List.getElem?_eq_getElem hi
    rw [q5k e]
    have h1:=hb _ (List.getElem_mem hi)
    have h2:=z1l h (List.getElem_mem hi)
    omega
  · have e:L[i]? = some L[i]:=List.getElem?_eq_getElem (by omega)
    have e':L[j]? = some L[j]:=List.getElem?_eq_getElem hj
    rw [q5k e,q5k e']
    exact z4a h hij e e'
theorem x3m {l:List Int} (h:l.Pairwise (·<·)) {B:Nat} (hb:∀ z∈l,0≤z∧z<B):l.length≤B:=by
  have key:∀ (l:List Int) (a:Int),l.Pairwise (·<·)→(∀ z∈l,a≤z∧z<B)→a≤B→(l.length:Int)≤B-a:=by
    intro l
    induction l with
    | nil=>intro a _ _ ha;simp;omega
    | cons x l ih =>
      intro a hp hz ha
      obtain ⟨h1,h2⟩:=List.pairwise_cons.1 hp
      have h3:=hz x (by simp)
      have:=ih (x+1) h2 (fun z hz'=>⟨by have:=h1 z hz';omega,(hz z (by simp [hz'])).2⟩) (by omega)
      simp;omega
  have:=key l 0 h hb (by omega)
  omega
theorem z7m {L:List Run} (h:okR L) (hb:∀ r∈L,(-8192≤r.y∧r.y≤8191)∧(-8192≤r.x0∧r.x1≤8192)):L.length≤268451840:=by
  have hp:(L.map fun r=>(r.y+8192)*16385+(r.x1+8192)).Pairwise (·<·):=by
    rw [List.pairwise_map,List.pairwise_iff_getElem]
    intro i j hi hj hij
    have h1:=z4a h hij (List.getElem?_eq_getElem hi) (List.getElem?_eq_getElem hj)
    have h2:=hb _ (List.getElem_mem hi)
    have h3:=hb _ (List.getElem_mem hj)
    have h4:=z1l h (List.getElem_mem hj)
    have h5:=z1l h (List.getElem_mem hi)
    omega
  have:=x3m hp (B:=268451840) (fun z hz=>by
    obtain ⟨r,hr,rfl⟩:=List.mem_map.1 hz
    have h1:=hb r hr
    have h2:=z1l h hr
    omega)
  simpa using this
theorem ValidL.length {L:List Run} (h:ValidL L):L.length≤268451840:=z7m h.ok fun r hr=>by have:=h.bd hr;omega
def opB (c:Int) (p q:Bool):Bool:=if c=1 then p&&q else if c=2 then p&&!q else if c=3 then p != q else p||q
theorem q6e (c:Int):opB c false false=false:=by unfold opB;split <;> (try split) <;> (try split) <;> rfl
theorem v2o {c:Int} {p q:Bool} (h:opB c p q=true):p=true∨q=true:=by
  cases p
  · cases q
    · rw [q6e] at h;cases h
    · exact .inr rfl
  · exact .inl rfl
theorem v0v {op:Bool→Bool→Bool} (hop:op false false=false) {ra rb:Nat→Run} {n m:Nat} (va:Valid ra n) (vb:Valid rb m):∀ (k i j:Nat) (fy fx:Int) (out:List Run),(2*n-i)+(2*m-j)=k→Sweep op ra rb n m i j fy fx out→∃ M,okR M∧∀ x y,hasR M x y↔op (hasB ra n x y) (hasB rb m x y)=true:=by
  intro k
  induction k with
  | zero =>
    intro i j fy fx out hk h
    have h1:=h.hi
    have h2:=h.hj
    have e1:i=2*n:=by omega
    have e2:j=2*m:=by omega
    subst e1;subst e2
    exact ⟨out,h.done hop va vb⟩
  | succ k ih =>
    intro i j fy fx out hk h
    have h1:=h.hi
    have h2:=h.hj
    by_cases hA:i<2*n∧(j<2*m→q1d (eY ra i) (eX ra i) (eY rb j) (eX rb j))
    · exact ih (i+1) j _ _ _ (by omega) (h.stepA hop va vb hA.1 hA.2)
    · by_cases hB:j<2*m
      · refine ih i (j+1) _ _ _ (by omega) (h.stepB hop va vb hB fun hi=>?_)
        have:¬ q1d (eY ra i) (eX ra i) (eY rb j) (eX rb j):=fun hle=>hA ⟨hi,fun _=>hle⟩
        unfold q1d at *;omega
      · exact absurd ⟨by omega,fun h=>absurd h hB⟩ hA
theorem x8h {c:Int} {La Lb:List Run} (va:ValidL La) (vb:ValidL Lb):∃ M,okR M∧∀ x y,hasR M x y↔opB c (hasL La x y) (hasL Lb x y)=true:=by
  obtain ⟨M,h1,h2⟩:=v0v (op:=opB c) (q6e c) va vb _ 0 0 0 0 [] rfl (Sweep.start _ _ _ _ _ _ _)
  exact ⟨M,h1,fun x y=>by rw [h2,q4k,q4k]⟩
open Classical in
noncomputable def mixR (c:Int) (La Lb:List Run):List Run:=if h:∃ M,okR M∧∀ x y,hasR M x y↔opB c (hasL La x y) (hasL Lb x y)=true then h.choose else []
theorem q9p {c:Int} {La Lb:List Run} (va:ValidL La) (vb:ValidL Lb):okR (mixR c La Lb)∧∀ x y,hasR (mixR c La Lb) x y↔opB c (hasL La x y) (hasL Lb x y)=true:=by
  unfold mixR
  rw [dif_pos (x8h va vb)]
  exact (x8h (c:=c) va vb).choose_spec
theorem z8t {c:Int} {La Lb M:List Run} (va:ValidL La) (vb:ValidL Lb) (h:okR M) (h2:∀ x y,hasR M x y↔opB c (hasL La x y) (hasL Lb x y)=true):M=mixR c La Lb :=
  x4f h (q9p va vb).1 fun x y=>(h2 x y).trans ((q9p va vb).2 x y).symm
theorem x8i {L:List Run} (h:ValidL L) {x y:Int} (hx:hasL L x y=true):(-8192≤y∧y≤8191)∧(-8192≤x∧x≤8191):=by
  obtain ⟨r,hr,h1,h2,h3⟩:=hasL_iff.1 hx
  have:=h.bd hr
  omega
theorem x2i {c:Int} {La Lb M:List Run} (va:ValidL La) (vb:ValidL Lb) (h:okR M) (h2:∀ x y,hasR M x y→opB c (hasL La x y) (hasL Lb x y)=true):∀ r∈M,(-8192≤r.y∧r.y≤8191)∧(-8192≤r.x0∧r.x1≤8192):=fun r hr=>by
  have hlt:=z1l h hr
  have key:∀ x,r.x0≤x→x<r.x1→(-8192≤r.y∧r.y≤8191)∧(-8192≤x∧x≤8191):=fun x h3 h4=>by
    rcases v2o (h2 x r.y ⟨r,hr,rfl,h3,h4⟩) with h5 |h5
    · exact x8i va h5
    · exact x8i vb h5
  have k1:=key r.x0 (Int.le_refl _) hlt
  have k2:=key (r.x1-1) (by omega) (by omega)
  omega
theorem z2u {c:Int} {La Lb:List Run} (va:ValidL La) (vb:ValidL Lb):ValidL (mixR c La Lb) :=
  ValidL.mk (q9p va vb).1 (x2i va vb (q9p va vb).1 fun x y h=>((q9p va vb).2 x y).1 h)
end Go.Proofs.YticolnghiibgfaaGreat
namespace Go.Proofs.YticolnghiibgfaaGreat
open Go.RowKit
set_option maxRecDepth 20000
def q3y (L:List Run) (o:Int):List Value:=L.flatMap fun r=>[.int .i64 r.y,.int .i64 r.x0,.int .i64 o,.int .i64 r.y,.int .i64 r.x1,.int .i64 o]
theorem q7n (K L:List Run) (o:Int):q3y (K++L) o=q3y K o++q3y L o:=by simp [q3y]
theorem z91 (r:Run) (o:Int):q3y [r] o=[.int .i64 r.y,.int .i64 r.x0,.int .i64 o,.int .i64 r.y,.int .i64 r.x1,.int .i64 o]:=by simp [q3y]
theorem z4b (o:Int):∀ (L:List Run),(q3y L o).length=L.length*6
  | []=>rfl
  | r::L=>by
    have:=z4b o L
    show (q3y ([r]++L) o).length=_
    rw [q7n,List.length_append,this,z91];simp;omega
theorem x55 {L:List Run} {i:Nat} {r:Run} (h:L[i]? = some r) (o:Int):q3y (L.take (i+1)) o=q3y (L.take i) o++[.int .i64 r.y,.int .i64 r.x0,.int .i64 o,.int .i64 r.y,.int .i64 r.x1,.int .i64 o]:=by
  rw [List.take_add_one,h,q7n];simp [q3y]
theorem x8j {L:List Run} {o:Int} {e:Nat} (h:e<2*L.length):(q3y L o)[e*3]? = some (.int .i64 (eY (nthR L) e))∧(q3y L o)[e*3+1]? = some (.int .i64 (eX (nthR L) e))∧(q3y L o)[e*3+2]? = some (.int .i64 o):=by
  obtain ⟨r,hr⟩:∃ r,L[e/2]? = some r:=⟨_,List.getElem?_eq_getElem (by omega)⟩
  have hsp:L=L.take (e/2)++([r]++L.drop (e/2+1)):=by
    obtain ⟨h1,rfl⟩:=List.getElem?_eq_some_iff.1 hr
    simp
  have hl:(q3y (L.take (e/2)) o).length=e/2*6:=by rw [z4b,List.length_take];congr 1;omega
  have key:∀ j,j<6→(q3y L o)[e/2*6+j]? = [Value.int .i64 r.y,.int .i64 r.x0,.int .i64 o,.int .i64 r.y,.int .i64 r.x1,.int .i64 o][j]?:=fun j hj=>by
    conv=>lhs;rw [hsp,q7n,q7n,z91]
    rw [List.getElem?_append_right (by omega),hl,show e/2*6+j-e/2*6=j by omega,List.getElem?_append_left (by simp;omega)]
  unfold eY eX
  rw [q5k hr]
  rcases Nat.mod_two_eq_zero_or_one e with h0 |h0
  · rw [if_pos h0]
    have e1:e*3=e/2*6+0:=by omega
    rw [e1]
    exact ⟨key 0 (by omega),key 1 (by omega),key 2 (by omega)⟩
  · rw [if_neg (by omega)]
    have e1:e*3=e/2*6+3:=by omega
    rw [e1]
    exact ⟨key 3 (by omega),key 4 (by omega),key 5 (by omega)⟩
set_option maxHeartbeats 1000000 in
theorem z5j (A:Option Addr) (L:List Run) (c:Nat) (o:Int) (G:Mem) (hA:RunsM G A L) (hl:L.length≤1000000000):q34 Tryz.prog 123 [.val (.slice A L.length c),.val (.int .i64 o)] G id 185 3 (2*L.length) (q3y L o):=by
  refine q23 tab_ok Tryz.func123 (.alone fun _=>rfl) ?_
  (repeat ((try (conv=>whnf));(refine stQ ?_)))
  conv=>whnf
  refine q01 tab_ok (fun i=>i≤L.length) (fun (i:Nat)=>[(14,.val (.int .i64 i)),(5,.own 0),(11,.any)]) (fun i=>[.own 185 3 (2*i) (q3y (L.take i) o)]) (fun i=>L.length-i) 0 (Nat.zero_le _) ?_ ?_
  · ((refine q0g ?_);(conv=>whnf);(refine q0k (by rfl) (by rfl) flQ ?_))
    exact q0f rfl rfl q0e
  · rintro i hi
    rcases Nat.lt_or_ge i L.length with h1 |h1
    · obtain ⟨r,hr⟩:∃ r,L[i]? = some r:=⟨L[i],List.getElem?_eq_getElem h1⟩
      obtain ⟨p,rfl,ca⟩:=hA.cells hr
      (repeat ((try (conv=>whnf));(refine stQ ?_)))
      conv=>whnf
      refine ca _ ?_
      (repeat ((try (conv=>whnf));(refine stQ ?_)))
      refine ⟨i+1,by omega,by omega,?_⟩
      refine q1n 3 0 rfl rfl rfl rfl ?_
      conv=>whnf
      ((refine q0g ?_);(conv=>whnf);(refine q0k (by rfl) (by rfl) flQ ?_))
      exact q0f (by omega) (x55 hr o).symm q0e
    · obtain rfl:i=L.length:=by omega
      (repeat ((try (conv=>whnf));(refine stQ ?_)))
      exact .inl ⟨0,rfl,by rw [List.take_length];rfl⟩
end Go.Proofs.YticolnghiibgfaaGreat
namespace Go.Proofs.YticolnghiibgfaaGreat
open Go.RowKit
set_option maxRecDepth 20000
def orI (a c:Int):Int:=if a=0 then c else a
theorem v0w (b:Nat) (a c:Int) (G:Mem) (h0:G.cell? ⟨b,0,none⟩=some (.int .i64 a)) (h1:G.cell? ⟨b,1,none⟩=some (.int .i64 c)) :
    Gives Tryz.prog 124 [.val (.slice (some ⟨b,0,none⟩) 2 2)] G (.val (.int .i64 (orI a c))):=by
  refine q0r tab_ok Tryz.func124 ?_
  by_cases ha:a=0
  · (repeat ((try (conv=>whnf));(refine stQ ?_)))
    refine q2q tab_ok ?_
    (repeat ((try (conv=>whnf));(refine stQ ?_)))
    refine q0d (.int .i64 a) (by rw [q0m];exact h0) ?_
    (repeat ((try (conv=>whnf));(refine stQ ?_)))
    refine q2q tab_ok ?_
    (repeat ((try (conv=>whnf));(refine stQ ?_)))
    refine q0d (.int .i64 c) (by rw [q0m];exact h1) ?_
    by_cases hc:c=0
    · (repeat ((try (conv=>whnf));(refine stQ ?_)))
      refine q2q tab_ok ?_
      (repeat ((try (conv=>whnf));(refine stQ ?_)))
      exact ⟨by simp [orI,ha,hc],rfl⟩
    · (repeat ((try (conv=>whnf));(refine stQ ?_)))
      exact ⟨by simp [orI,ha],rfl⟩
  · (repeat ((try (conv=>whnf));(refine stQ ?_)))
    refine q2q tab_ok ?_
    (repeat ((try (conv=>whnf));(refine stQ ?_)))
    refine q0d (.int .i64 a) (by rw [q0m];exact h0) ?_
    (repeat ((try (conv=>whnf));(refine stQ ?_)))
    exact ⟨by simp [orI,ha],rfl⟩
theorem q1c {k:Nat} {hp:List Blk} {G:Mem} {K:AV→Prop} {M:AV→Blk→Prop} {t:TypeId} {a c:Int} (hk:nthB hp k=.cells t [.val (.int .i64 a),.val (.int .i64 c)]) (h:K (.val (.int .i64 (orI a c)))):RCallP Tryz.prog 124 [.sli k 0 2 2] hp G K M :=
  x44 (vs:=[.int .i64 a,.int .i64 c]) (fun vs w=>by kernel_rfl) hk rfl (fun b G2 _ hc=>v0w b a c G2 (hc 0 _ rfl) (hc 1 _ rfl)) h
end Go.Proofs.YticolnghiibgfaaGreat
