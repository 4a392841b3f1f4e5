/-
  Merged: XJoinLaw, XInks, XTypes.
-/
import Derived.WalkKit
import Derived.ChangeKeysEq
import Derived.Test.YtbkhpddodmbdoaaMrg4
import Derived.Test.YtbkhpddodmbdoaaProg
import Derived.Test.YtbkhpddodmbdoaaMrg3
set_option linter.unusedVariables false
set_option linter.unusedSimpArgs false
set_option linter.unnecessarySimpa false
namespace Go.Proofs.Ytbkhpddodmbdoaa
def jn (o L:List Run):List Run:=L.foldl (fun o r=>addR o r.y r.x0 r.x1) o
def leR (r s:Run):Prop:=r.y<s.y∨(r.y=s.y∧r.x0≤s.x0)
theorem x3i {L:List Run} {y a b:Int} (hs:∀ r∈L,r.y<y∨(r.y=y∧r.x0≤a)):∀ q∈addR L y a b,q∈L∨(q.y=y∧q.x0≤a):=by
  intro q hq
  by_cases hb:b≤a
  · rw [q3y hb] at hq;exact .inl hq
  · rcases q2r L with rfl |⟨K,r,rfl⟩
    · rw [q2m hb] at hq;simp at hq;subst hq;exact .inr ⟨rfl,Int.le_refl _⟩
    · have hr:=hs r (by simp)
      by_cases hj:r.y=y∧a≤r.x1
      · rw [q1r hb hj.1 hj.2] at hq
        rcases List.mem_append.1 hq with hq |hq
        · exact .inl (by simp [hq])
        · simp at hq;subst hq;exact .inr ⟨rfl,by simp only;omega⟩
      · rw [q1o hb hj] at hq
        rcases List.mem_append.1 hq with hq |hq
        · exact .inl hq
        · simp at hq;subst hq;exact .inr ⟨rfl,Int.le_refl _⟩
theorem x3j {L:List Run} {y a b:Int}:(addR L y a b).length≤L.length+1:=by
  by_cases hb:b≤a
  · rw [q3y hb];omega
  · rcases q2r L with rfl |⟨K,r,rfl⟩
    · rw [q2m hb];simp
    · by_cases hj:r.y=y∧a≤r.x1
      · rw [q1r hb hj.1 hj.2];simp
      · rw [q1o hb hj];simp
theorem x3k {L:List Run} {y a b:Int} (h:okR L) (hs:∀ r∈L,r.y<y∨(r.y=y∧r.x0≤a)) :
    okR (addR L y a b)∧(∀ u v,hasR (addR L y a b) u v↔hasR L u v∨(v=y∧a≤u∧u<b)):=by
  by_cases hb:b≤a
  · rw [q3y hb]
    refine ⟨h,fun u v=>⟨.inl,?_⟩⟩
    rintro (h' |h')
    · exact h'
    · omega
  · rcases q2r L with rfl |⟨K,r,rfl⟩
    · rw [q2m hb]
      refine ⟨by simp [okR];omega,fun u v=>?_⟩
      rw [q5e];simp only [q28,false_or];omega
    · have hr:=hs r (by simp)
      obtain ⟨o1,o2,o3⟩:=okR_append.1 h
      have o4:=o2.1
      by_cases hj:r.y=y∧a≤r.x1
      · rw [q1r hb hj.1 hj.2]
        refine ⟨okR_append.2 ⟨o1,?_,fun q hq s hs'=>?_⟩,fun u v=>?_⟩
        · simp [okR];omega
        · simp at hs';subst hs'
          have:=o3 q hq r (by simp)
          simp only;omega
        · rw [q37,q37,q5e,q5e]
          simp only
          constructor
          · rintro (h1 |h1)
            · exact .inl (.inl h1)
            · by_cases hx:u<r.x1
              · exact .inl (.inr (by omega))
              · exact .inr (by omega)
          · rintro ((h1 |h1) |h1)
            · exact .inl h1
            · exact .inr (by omega)
            · exact .inr (by omega)
      · rw [q1o hb hj]
        refine ⟨okR_append.2 ⟨h,by simp [okR];omega,fun q hq s hs'=>?_⟩,fun u v=>?_⟩
        · simp at hs';subst hs'
          simp only
          rcases List.mem_append.1 hq with hq |hq
          · have:=o3 q hq r (by simp);omega
          · simp at hq;subst hq;omega
        · rw [q37,q5e];simp only
          constructor
          · rintro (h1 |h1)
            · exact .inl h1
            · exact .inr (by omega)
          · rintro (h1 |h1)
            · exact .inl h1
            · exact .inr (by omega)
theorem z6p:∀ (L o:List Run),okR o→(∀ r∈o,∀ s∈L,leR r s)→L.Pairwise leR→okR (jn o L)∧(∀ u v,hasR (jn o L) u v↔hasR o u v∨hasR L u v)
  | [],o,h,_,_=>⟨h,fun u v=>by simp [jn,q28]⟩
  | s::L,o,h,hs,hp=>by
    obtain ⟨p1,p2⟩:=List.pairwise_cons.1 hp
    obtain ⟨a1,a2⟩:=x3k (y:=s.y) (a:=s.x0) (b:=s.x1) h (fun r hr=>hs r hr s (by simp))
    obtain ⟨b1,b2⟩:=z6p L (addR o s.y s.x0 s.x1) a1 (fun r hr t ht=>by
      rcases x3i (fun r hr=>hs r hr s (by simp)) r hr with h1 |h1
      · exact hs r h1 t (by simp [ht])
      · have:=p1 t ht
        unfold leR at *;omega) p2
    refine ⟨b1,fun u v=>?_⟩
    show hasR (jn (addR o s.y s.x0 s.x1) L) u v↔_
    rw [b2,a2,hasR_cons]
    constructor
    · rintro ((h1 |h1) |h1)
      · exact .inl h1
      · exact .inr (.inl (by omega))
      · exact .inr (.inr h1)
    · rintro (h1 |(h1 |h1))
      · exact .inl (.inl h1)
      · exact .inl (.inr (by omega))
      · exact .inr h1
theorem z3v:∀ (L o:List Run),(jn o L).length≤o.length+L.length
  | [],o=>by simp [jn]
  | s::L,o=>by
    have h1:=z3v L (addR o s.y s.x0 s.x1)
    have h2:=x3j (L:=o) (y:=s.y) (a:=s.x0) (b:=s.x1)
    show (jn (addR o s.y s.x0 s.x1) L).length≤_
    simp;omega
theorem z9o {L:List Run} {i:Nat} {r:Run} (h:L[i]? = some r):jn [] (L.take (i+1))=addR (jn [] (L.take i)) r.y r.x0 r.x1:=by
  rw [List.take_add_one,h]
  simp [jn,List.foldl_append]
noncomputable def q4v (L:List Run):List Run:=open Classical in if h:∃ M,okR M∧∀ u v,hasR M u v↔hasR L u v then h.choose else []
theorem z2r {L M:List Run} (h:okR M) (h2:∀ u v,hasR M u v↔hasR L u v):q4v L=M:=by
  have hx:∃ M,okR M∧∀ u v,hasR M u v↔hasR L u v:=⟨M,h,h2⟩
  unfold q4v
  rw [dif_pos hx]
  exact z1x hx.choose_spec.1 h fun u v=>by rw [hx.choose_spec.2,h2]
theorem z5p {L M:List Run} (h:L.Perm M) {u v:Int}:hasR L u v↔hasR M u v :=
  ⟨fun ⟨r,hr,h'⟩=>⟨r,h.mem_iff.1 hr,h'⟩,fun ⟨r,hr,h'⟩=>⟨r,h.mem_iff.2 hr,h'⟩⟩
theorem z9p {L M:List Run} (hp:M.Perm L) (hs:M.Pairwise leR):jn [] M=q4v L:=by
  obtain ⟨h1,h2⟩:=z6p M [] trivial (by simp) hs
  exact (z2r h1 fun u v=>by rw [h2,z5p hp];simp [q28]).symm
end Go.Proofs.Ytbkhpddodmbdoaa
namespace Go.Proofs.Ytbkhpddodmbdoaa
open Go.RowKit
theorem x5x (a b:Int) (w:World):(Op.equalIn 9999 5 (.int .u8 a) (.int .u8 b)).run Try.prog w=.ok (a==b) w:=run_equalIn_int w 9998 _ _ .u8 a b Try.underlying5
theorem q6c {xs ys:Array Value} {j:Nat} {a b:Int} {w:World} {is:List Nat} {r:Bool} (pa:(part 5 xs (j*1)).run Try.prog w=.ok (.int .u8 a) w) (pb:(part 5 ys (j*1)).run Try.prog w=.ok (.int .u8 b) w)
    (hr:(Op.eqItems 9999 5 1 xs ys is).run Try.prog w=.ok r w):(Op.eqItems 9999 5 1 xs ys (j::is)).run Try.prog w=.ok (a==b&&r) w:=by
  simp only [Op.eqItems,Sem.run_bind,pa,pb,Result.andThen_ok,x5x]
  cases h:(a==b)
  · simp
  · simpa using hr
@[go_sem] theorem x54 (a0 a1 a2 a3 a4 a5 a6 a7 b0 b1 b2 b3 b4 b5 b6 b7:Int) (w:World) :
    (Op.equalIn 10000 27 (.agg #[.int .u8 a0,.int .u8 a1,.int .u8 a2,.int .u8 a3,.int .u8 a4,.int .u8 a5,.int .u8 a6,.int .u8 a7]) (.agg #[.int .u8 b0,.int .u8 b1,.int .u8 b2,.int .u8 b3,.int .u8 b4,.int .u8 b5,.int .u8 b6,.int .u8 b7])).run Try.prog w =
      .ok (a0==b0&&(a1==b1&&(a2==b2&&(a3==b3&&(a4==b4&&(a5==b5&&(a6==b6&&(a7==b7&&true)))))))) w:=by
  have hc:Try.prog.cellsOf 5=1:=by kernel_rfl
  obtain ⟨i,hi⟩:∃ i,Try.prog.info? 5=some i:=Option.isSome_iff_exists.1 (by kernel_rfl)
  rw [run_equalIn_array w 9999 (e:=5) (n:=8) _ _ Try.underlying27 hi]
  rw [hc,show List.range 8=[0,1,2,3,4,5,6,7] from rfl]
  exact q6c (by kernel_rfl) (by kernel_rfl) (q6c (by kernel_rfl) (by kernel_rfl) (q6c (by kernel_rfl) (by kernel_rfl) (q6c (by kernel_rfl) (by kernel_rfl) (q6c (by kernel_rfl) (by kernel_rfl) (q6c (by kernel_rfl) (by kernel_rfl) (q6c (by kernel_rfl) (by kernel_rfl) (q6c (by kernel_rfl) (by kernel_rfl) (rfl))))))))
end Go.Proofs.Ytbkhpddodmbdoaa
namespace Go.Proofs.Ytbkhpddodmbdoaa
open Go.RowKit Go.ChangeShapes Go.WideShapes Go.Deep
set_option maxRecDepth 100000
section
variable {H:Type} {enc:TypeId × Value→H} {w:World} {base b0:Nat} {spare:Nat→Bool} {held:Bool} {r:Reach} {v:Value} {d:DataW H} {ps:List MemPlace}
theorem z2s {P:Program} {t:TypeId} {k:IntKind} {fs:Array Field} (ht:P.underlying t=some (.struct fs)) (hC:P.cellsOf t=fs.size)
    (hf:∀ (i:Nat) (f:Field),fs[i]? = some f→f.offset=i∧P.cellsOf f.type=1∧P.underlying f.type=some (.int k)) (hv:Value.okWide P w r b0 t v) (h:DataW.Trod enc P w base spare held t v d ps) :
    ∃ zs:List Int,zs.length=fs.size∧v=.agg (zs.map (.int k)).toArray∧∀ z∈zs,(Lit.int k z).wf=true:=by
  obtain ⟨cs,rfl,_⟩:=okWide_struct ht hv
  obtain ⟨n,hs⟩:=z0z h
  obtain ⟨zs,h1,h2,h3⟩:=hs.ints ht hC hf
  refine ⟨zs,h1,?_,h3⟩
  have:cs=(zs.map (Value.int k)).toArray:=by rw [← h2];rfl
  rw [this]
theorem x11 {P:Program} {k:IntKind} {fs:Array Field} (h:(fs.toList.zipIdx.all fun (f,i)=>f.offset==i&&P.cellsOf f.type==1&&(match P.underlying f.type with |some (.int k')=>k'==k |_=>false))=true) :
    ∀ (i:Nat) (f:Field),fs[i]? = some f→f.offset=i∧P.cellsOf f.type=1∧P.underlying f.type=some (.int k):=by
  intro i f hi
  rw [List.all_eq_true] at h
  have hm:(f,i)∈fs.toList.zipIdx:=by
    rw [List.mem_zipIdx_iff_getElem?];simpa using hi
  have:=h _ hm
  simp only [Bool.and_eq_true,beq_iff_eq] at this
  obtain ⟨⟨h1,h2⟩,h3⟩:=this
  refine ⟨h1,h2,?_⟩
  split at h3
  · rename_i k' hk;rw [hk];simp at h3;rw [h3]
  · simp at h3
theorem x5y (hv:Value.okWide Try.prog w r b0 44 v) (h:DataW.Trod enc Try.prog w base spare held 44 v d ps):∃ a b:Int,v=.agg #[.int .i64 a,.int .i64 b]∧(∀ z∈[a,b],(Lit.int .i64 z).wf=true):=by
  obtain ⟨zs,h1,rfl,h3⟩:=z2s (k:=.i64) Try.underlying44 (by kernel_rfl) (x11 (by kernel_rfl)) hv h
  match zs,h1 with
  | [a,b],_=>exact ⟨a,b,rfl,h3⟩
end
end Go.Proofs.Ytbkhpddodmbdoaa
