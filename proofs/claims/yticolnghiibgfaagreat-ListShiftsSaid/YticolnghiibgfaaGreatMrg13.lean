/-
  Merged: XRInvertNeg, XInvertAny, XImage, XRegLaw, XRegSweep.
-/
import Derived.Test.YticolnghiibgfaaGreatMrg12
import Derived.Test.YticolnghiibgfaaGreatMrg3
import Derived.Test.YticolnghiibgfaaGreatMrg8
set_option linter.unusedVariables false
set_option linter.unusedSimpArgs false
set_option linter.unnecessarySimpa false
namespace Go.Proofs.YticolnghiibgfaaGreat
open Go.RowKit
set_option maxHeartbeats 4000000 in
theorem x1t (a b c d e f:Int) (w:World) (hm:matE a b c d e f=0) (hd:a*d-b*c<0) :
    Calls Tryz.prog 114 #[.agg #[.int .i64 a,.int .i64 b,.int .i64 c,.int .i64 d,.int .i64 e,.int .i64 f]] w fun r w'=>r=.returned (invO (-1) (-(a*d-b*c)) a b c d e f)∧Below w.heap.size w w':=by
  obtain ⟨x1,x2,x3,x4,x5,x6⟩:=q68 hm
  have p1:=q3g x1 x4
  have p2:=q3g x2 x3
  have p3:=q2d x3 x6
  have p4:=q2d x4 x5
  have p5:=q2d x2 x5
  have p6:=q2d x1 x6
  go_enter Tryz.func114,Tryz.ntmps114
  go_wp2_with (first |(go_at_call 138;refine (q4j _ _ _ _ _ _ _).mono ?_;rintro e w' ⟨rfl,rfl⟩;simp only []))
  simp only [List.append_eq,List.cons_append,List.nil_append]
  refine mix1 67 7 (.cells #[.int .i64 0,.int .i64 0,.int .i64 0,.int .i64 0,.int .i64 0,.int .i64 0] 50) (by kernel_rfl) (by kernel_rfl) ⟨by rfl,by simp⟩ ⟨_,rfl,rfl,rfl,fun f w=>by kernel_rfl⟩ ?_
  apply Exists.intro
  refine ⟨fun F=>?_,fun nb w9 hbn hbel hblk=>?_⟩
  · haveI:=F.ne
    simp only [List.take_succ_cons,List.take_zero]
    repeat (go_big_quiet_step (first |(go_at_call 121;first |exact q17 (q31 (-1) (16777216*d) _ _ _ (by omega) (by omega) (by omega)) |exact q17 (q31 (-1) (-16777216*b) _ _ _ (by omega) (by omega) (by omega)) |exact q17 (q31 (-1) (-16777216*c) _ _ _ (by omega) (by omega) (by omega)) |exact q17 (q31 (-1) (16777216*a) _ _ _ (by omega) (by omega) (by omega)) |exact q17 (q31 (-1) (4096*(c*f-d*e)) _ _ _ (by omega) (by omega) (by omega)) |exact q17 (q31 (-1) (4096*(b*e-a*f)) _ _ _ (by omega) (by omega) (by omega)))))
    exact wpQuiet_nil rfl
  obtain ⟨hc9,hf9,hz9⟩:=q43 hbel
  obtain ⟨hn9,hnf9,hl9⟩:=q9u hblk
  clear hblk
  have hB9:Below w.heap.size w w9:=z0m hbel (by exact blQ) (by simp only [World.size_alloc];omega)
  have hr9:∀ o,w9.cell? ⟨w.heap.size+1,o,none⟩=#[.int .i64 0,.int .i64 0,.int .i64 0,.int .i64 0,.int .i64 0,.int .i64 0][o]?:=fun o=>by
    rw [hc9];simp [go_sem]
  have hrf9:∀ o,w9.frozen? ⟨w.heap.size+1,o,none⟩=false:=fun o=>by
    rw [hf9];simp [go_sem]
  simp only [World.size_alloc] at hbn hz9 hc9 hf9
  have hm9:∀ o,w9.cell? ⟨nb,o,none⟩=#[.int .i64 0,.int .i64 0,.int .i64 0,.int .i64 0,.int .i64 0,.int .i64 0][o]?:=fun o=>by
    rw [hc9,if_neg (by omega),hn9]
  have hmf9:∀ o,w9.frozen? ⟨nb,o,none⟩=false:=fun o=>by
    rw [hf9,if_neg (by omega),hnf9]
  clear hc9 hf9 hn9 hnf9 hbel
  simp only [List.drop_succ_cons,List.drop_zero,Act.put,List.setIfInBounds_toArray,List.set_cons_succ,List.set_cons_zero]
  clear p1 p2 p3 p4 p5 p6 x1 x2 x3 x4 x5 x6
  have HR:Hid (invO (-1) (-(a*d-b*c)) a b c d e f=out6 (near (sg (-1) (16777216*d)) (-(a*d-b*c))) (near (sg (-1) (-16777216*b)) (-(a*d-b*c))) (near (sg (-1) (-16777216*c)) (-(a*d-b*c))) (near (sg (-1) (16777216*a)) (-(a*d-b*c))) (near (sg (-1) (4096*(c*f-d*e))) (-(a*d-b*c))) (near (sg (-1) (4096*(b*e-a*f))) (-(a*d-b*c)))):=rfl
  generalize near (sg (-1) (16777216*d)) (-(a*d-b*c))=n0 at HR ⊢
  generalize near (sg (-1) (-16777216*b)) (-(a*d-b*c))=n1 at HR ⊢
  generalize near (sg (-1) (-16777216*c)) (-(a*d-b*c))=n2 at HR ⊢
  generalize near (sg (-1) (16777216*a)) (-(a*d-b*c))=n3 at HR ⊢
  generalize near (sg (-1) (4096*(c*f-d*e))) (-(a*d-b*c))=n4 at HR ⊢
  generalize near (sg (-1) (4096*(b*e-a*f))) (-(a*d-b*c))=n5 at HR ⊢
  rcases q8t n0 n1 n2 n3 n4 n5 with ho |ho
  all_goals go_wp2_with (first |(go_at_call 138;refine (q4j _ _ _ _ _ _ _).mono ?_;rintro e w' ⟨rfl,rfl⟩;simp only []))
  all_goals try simp only [Exit.inBlock,Exit.then]
  · refine bodyPost_ret (by simp [results,Tryz.results114,go_sem,hr9,↓IntWalk.iteOmega];try rfl) rfl ?_
    exact ⟨by rw [HR.out,out6,if_pos ho],by exact blQ⟩
  · refine bodyPost_ret (by simp [results,Tryz.results114,go_sem,hr9,↓IntWalk.iteOmega];try rfl) rfl ?_
    exact ⟨by rw [HR.out,out6,if_neg (by rw [ho];decide)],by exact blQ⟩
end Go.Proofs.YticolnghiibgfaaGreat
namespace Go.Proofs.YticolnghiibgfaaGreat
open Go.RowKit
def q5p (g:Nat→Int):Value:=.tuple #[.agg #[.int .i64 (g 0),.int .i64 (g 1),.int .i64 (g 2),.int .i64 (g 3),.int .i64 (g 4),.int .i64 (g 5)],.int .i64 (g 6)]
def six (a b c d e f:Int) (i:Nat):Int :=
  if matE a b c d e f=0 then
    match i with |0=>a |1=>b |2=>c |3=>d |4=>e |5=>f |_=>0
  else if i=6 then 10 else 0
theorem q7k (a b c d e f:Int):out6 a b c d e f=q5p (six a b c d e f):=by
  unfold out6 q5p six
  split <;> simp_all
def invL (a b c d e f:Int):Nat→Int :=
  if matE a b c d e f=0 then
    if a*d-b*c=0 then fun i=>if i=6 then 8 else 0
    else if 0<a*d-b*c then six (near (sg 1 (16777216*d)) (a*d-b*c)) (near (sg 1 (-16777216*b)) (a*d-b*c)) (near (sg 1 (-16777216*c)) (a*d-b*c)) (near (sg 1 (16777216*a)) (a*d-b*c)) (near (sg 1 (4096*(c*f-d*e))) (a*d-b*c)) (near (sg 1 (4096*(b*e-a*f))) (a*d-b*c))
    else six (near (sg (-1) (16777216*d)) (-(a*d-b*c))) (near (sg (-1) (-16777216*b)) (-(a*d-b*c))) (near (sg (-1) (-16777216*c)) (-(a*d-b*c))) (near (sg (-1) (16777216*a)) (-(a*d-b*c))) (near (sg (-1) (4096*(c*f-d*e))) (-(a*d-b*c))) (near (sg (-1) (4096*(b*e-a*f))) (-(a*d-b*c)))
  else fun i=>if i=6 then 3 else 0
theorem z1o (a b c d e f:Int) (w:World) :
    Calls Tryz.prog 128 #[.agg #[.int .i64 a,.int .i64 b,.int .i64 c,.int .i64 d,.int .i64 e,.int .i64 f]] w fun r w'=>r=.returned (q5p (invL a b c d e f))∧Below w.heap.size w w':=by
  unfold invL
  rcases q8t a b c d e f with hm |hm
  · rw [if_pos hm]
    by_cases h0:a*d-b*c=0
    · rw [if_pos h0];exact x1r _ _ _ _ _ _ w hm h0
    · rw [if_neg h0]
      by_cases h1:0<a*d-b*c
      · rw [if_pos h1,← q7k];exact x33 _ _ _ _ _ _ w hm h1
      · rw [if_neg h1,← q7k];exact x34 _ _ _ _ _ _ w hm (by omega)
  · rw [if_neg (by omega)];exact x58 _ _ _ _ _ _ w hm
theorem z0b (a b c d e f:Int) (w:World) :
    Calls Tryz.prog 114 #[.agg #[.int .i64 a,.int .i64 b,.int .i64 c,.int .i64 d,.int .i64 e,.int .i64 f]] w fun r w'=>r=.returned (q5p (invL a b c d e f))∧Below w.heap.size w w':=by
  unfold invL
  rcases q8t a b c d e f with hm |hm
  · rw [if_pos hm]
    by_cases h0:a*d-b*c=0
    · rw [if_pos h0];exact x0c _ _ _ _ _ _ w hm h0
    · rw [if_neg h0]
      by_cases h1:0<a*d-b*c
      · rw [if_pos h1,← q7k];exact x1s _ _ _ _ _ _ w hm h1
      · rw [if_neg h1,← q7k];exact x1t _ _ _ _ _ _ w hm (by omega)
  · rw [if_neg (by omega)];exact x35 _ _ _ _ _ _ w hm
end Go.Proofs.YticolnghiibgfaaGreat
namespace Go.Proofs.YticolnghiibgfaaGreat
open Go.RowKit
def imgE (W H:Int) (n m:Nat) (e:Int):Int :=
  if W<1∨256<W∨H<1∨256<H then 3 else if (n:Int)≠W*H∨(m≠0∧(m:Int)≠W*H) then 4 else e
theorem z0p {W H:Int} (hW:1≤W∧W≤256) (hH:1≤H∧H≤256):1≤W*H∧W*H≤65536:=by
  have h1:=Int.mul_le_mul hW.1 hH.1 (by omega) (by omega)
  have h2:=Int.mul_le_mul hW.2 hH.2 (by omega) (by omega)
  omega
set_option maxRecDepth 20000 in
set_option maxHeartbeats 4000000 in
theorem x0d (W H:Int) (A B:Option Addr) (n p m q:Nat) (a b c d e f:Int) (s r:Bool) (w:World) :
    Calls Tryz.prog 99 #[.agg #[.int .i64 W,.int .i64 H,.slice A n p,.slice B m q,.int .i64 a,.int .i64 b,.int .i64 c,.int .i64 d,.int .i64 e,.int .i64 f,.bool s,.bool r]] w fun e' w'=>e'=.returned (.int .i64 (imgE W H n m (invL a b c d e f 6)))∧Below w.heap.size w w':=by
  by_cases hs:W<1∨256<W∨H<1∨256<H
  · go_enter Tryz.func99,Tryz.ntmps99
    go_wp2_with (first |(go_at_call 128;refine (z1o _ _ _ _ _ _ _).mono ?_;rintro e' w' ⟨rfl,hb⟩;obtain ⟨hc9,hf9,hz9⟩:=q43 hb;try simp only [World.size_alloc] at hz9 hc9 hf9;try unfold q5p))
    all_goals go_ret
    all_goals exact ⟨q0u (by rw [imgE,if_pos hs]),by exact blQ⟩
  · have hWH:=z0p (W:=W) (H:=H) (by omega) (by omega)
    go_enter Tryz.func99,Tryz.ntmps99
    go_wp2_with (first |(go_at_call 128;refine (z1o _ _ _ _ _ _ _).mono ?_;rintro e' w' ⟨rfl,hb⟩;obtain ⟨hc9,hf9,hz9⟩:=q43 hb;try simp only [World.size_alloc] at hz9 hc9 hf9;try unfold q5p))
    all_goals go_ret
    all_goals refine ⟨q0u ?_,by exact blQ⟩
    all_goals rw [imgE,if_neg hs]
    all_goals split
    all_goals first
      | rfl
      | (exfalso;simp_all;done)
      | (exfalso;simp_all;omega)
set_option maxRecDepth 20000 in
set_option maxHeartbeats 4000000 in
theorem z8m (W H:Int) (A B:Option Addr) (n p m q:Nat) (a b c d e f:Int) (s r:Bool) (w:World) :
    Calls Tryz.prog 87 #[.agg #[.int .i64 W,.int .i64 H,.slice A n p,.slice B m q,.int .i64 a,.int .i64 b,.int .i64 c,.int .i64 d,.int .i64 e,.int .i64 f,.bool s,.bool r]] w fun e' w'=>e'=.returned (.int .i64 (imgE W H n m (invL a b c d e f 6)))∧Below w.heap.size w w':=by
  by_cases hi:inB W 1 256=false∨inB H 1 256=false
  · have hs:Hid (W<1∨256<W∨H<1∨256<H):=by
      show W<1∨256<W∨H<1∨256<H
      rcases hi with hi |hi
      · have:¬(1≤W∧W≤256):=fun hh=>by rw [z3f hh] at hi;cases hi
        omega
      · have:¬(1≤H∧H≤256):=fun hh=>by rw [z3f hh] at hi;cases hi
        omega
    by_cases hW:inB W 1 256=true
    · have hH:inB H 1 256=false:=by simpa [hW] using hi
      clear hi
      go_enter Tryz.func87,Tryz.ntmps87
      go_wp2_with (first |(go_at_call 12;refine (q35 _ _ _ _).mono ?_;rintro e w' ⟨rfl,rfl⟩))
      go_ret
      exact ⟨q0u (by rw [imgE,if_pos hs.out]),by exact blQ⟩
    have hW:inB W 1 256=false:=by simpa using hW
    clear hi
    go_enter Tryz.func87,Tryz.ntmps87
    go_wp2_with (first |(go_at_call 12;refine (q35 _ _ _ _).mono ?_;rintro e w' ⟨rfl,rfl⟩) |(go_at_call 114;refine (z0b _ _ _ _ _ _ _).mono ?_;rintro e' w' ⟨rfl,hb⟩;obtain ⟨hc9,hf9,hz9⟩:=q43 hb;try simp only [World.size_alloc] at hz9 hc9 hf9;try unfold q5p))
    all_goals go_ret
    all_goals exact ⟨q0u (by rw [imgE,if_pos hs.out]),by exact blQ⟩
  · have hW:inB W 1 256=true:=by cases h:inB W 1 256 <;> simp_all
    have hH:inB H 1 256=true:=by cases h:inB H 1 256 <;> simp_all
    have hW':=inB_iff.1 hW
    have hH':=inB_iff.1 hH
    have hs:¬(W<1∨256<W∨H<1∨256<H):=by omega
    clear hi
    have hWH:=z0p (W:=W) (H:=H) (by omega) (by omega)
    go_enter Tryz.func87,Tryz.ntmps87
    go_wp2_with (first |(go_at_call 12;refine (q35 _ _ _ _).mono ?_;rintro e w' ⟨rfl,rfl⟩) |(go_at_call 114;refine (z0b _ _ _ _ _ _ _).mono ?_;rintro e' w' ⟨rfl,hb⟩;obtain ⟨hc9,hf9,hz9⟩:=q43 hb;try simp only [World.size_alloc] at hz9 hc9 hf9;try unfold q5p))
    all_goals go_ret
    all_goals refine ⟨q0u ?_,by exact blQ⟩
    all_goals rw [imgE,if_neg hs]
    all_goals split
    all_goals first
      | rfl
      | (exfalso;simp_all;done)
      | (exfalso;simp_all;omega)
end Go.Proofs.YticolnghiibgfaaGreat
namespace Go.Proofs.YticolnghiibgfaaGreat
def okR:List Run→Prop
  | []=>True
  | r::l=>r.x0<r.x1∧(∀ s∈l,r.y<s.y∨(r.y=s.y∧r.x1<s.x0))∧okR l
def hasR (L:List Run) (x y:Int):Prop:=∃ r∈L,r.y=y∧r.x0≤x∧x<r.x1
theorem z0c {k l:List Run} {x y:Int}:hasR (k++l) x y↔hasR k x y∨hasR l x y:=by
  constructor
  · rintro ⟨r,h,h'⟩
    rcases List.mem_append.1 h with h |h
    · exact .inl ⟨r,h,h'⟩
    · exact .inr ⟨r,h,h'⟩
  · rintro (⟨r,h,h'⟩ |⟨r,h,h'⟩)
    · exact ⟨r,List.mem_append.2 (.inl h),h'⟩
    · exact ⟨r,List.mem_append.2 (.inr h),h'⟩
theorem z1p {r:Run} {x y:Int}:hasR [r] x y↔r.y=y∧r.x0≤x∧x<r.x1:=by simp [hasR]
theorem x0e {x y:Int}:¬ hasR [] x y:=by simp [hasR]
theorem z3l {L:List Run} (h:okR L) {r:Run} (hr:r∈L):r.x0<r.x1:=by
  induction L with
  | nil=>cases hr
  | cons s l ih =>
    rcases List.mem_cons.1 hr with rfl |hr
    · exact h.1
    · exact ih h.2.2 hr
theorem okR_append {k l:List Run}:okR (k++l)↔okR k∧okR l∧∀ r∈k,∀ s∈l,r.y<s.y∨(r.y=s.y∧r.x1<s.x0):=by
  induction k with
  | nil=>simp [okR]
  | cons a k ih =>
    simp only [List.cons_append,okR,ih,List.mem_append,List.mem_cons]
    constructor
    · rintro ⟨h1,h2,h3,h4,h5⟩
      refine ⟨⟨h1,fun s hs=>h2 s (.inl hs),h3⟩,h4,fun r hr s hs=>?_⟩
      rcases hr with rfl |hr
      · exact h2 s (.inr hs)
      · exact h5 r hr s hs
    · rintro ⟨⟨h1,h2,h3⟩,h4,h5⟩
      refine ⟨h1,fun s hs=>?_,h3,h4,fun r hr s hs=>h5 r (.inr hr) s hs⟩
      rcases hs with hs |hs
      · exact h2 s hs
      · exact h5 a (.inl rfl) s hs
def upTo (L:List Run) (y x:Int):Prop:=∀ r∈L,r.y<y∨(r.y=y∧r.x1≤x)
theorem x59 {L:List Run} {y x y' x':Int} (h:upTo L y x) (k:y<y'∨(y=y'∧x≤x')):upTo L y' x':=fun r hr=>by
  have:=h r hr;omega
def addR (L:List Run) (y a b:Int):List Run :=
  if b≤a then L else match L.getLast? with
    | some r=>if r.y=y∧a≤r.x1 then L.dropLast++[⟨y,r.x0,max r.x1 b⟩] else L++[⟨y,a,b⟩]
    | none=>[⟨y,a,b⟩]
theorem v0b {L:List Run} {y a b:Int} (h:b≤a):addR L y a b=L:=by simp [addR,h]
theorem x8j {y a b:Int} (h:¬ b≤a):addR [] y a b=[⟨y,a,b⟩]:=by simp [addR,h]
theorem x6a {L:List Run} {r:Run} {y a b:Int} (h:¬ b≤a) (h1:r.y=y) (h2:a≤r.x1):addR (L++[r]) y a b=L++[⟨y,r.x0,max r.x1 b⟩]:=by simp [addR,h,h1,h2]
theorem x8k {L:List Run} {r:Run} {y a b:Int} (h:¬ b≤a) (h1:¬ (r.y=y∧a≤r.x1)):addR (L++[r]) y a b=L++[r]++[⟨y,a,b⟩]:=by
  unfold addR
  rw [if_neg h]
  have e:(L++[r]).getLast? = some r:=by simp
  rw [e]
  simp only [if_neg h1]
theorem x2z (L:List Run):L=[]∨∃ K r,L=K++[r]:=by
  rcases List.eq_nil_or_concat L with h |⟨K,r,h⟩
  · exact .inl h
  · exact .inr ⟨K,r,by simpa using h⟩
theorem v0c {L:List Run} {y a b:Int} (h:okR L) (hu:upTo L y a) :
    okR (addR L y a b)∧(a<b→upTo (addR L y a b) y b)∧(∀ u v,hasR (addR L y a b) u v↔hasR L u v∨(v=y∧a≤u∧u<b)):=by
  by_cases hb:b≤a
  · rw [v0b hb]
    refine ⟨h,fun h'=>by omega,fun u v=>⟨.inl,?_⟩⟩
    rintro (h' |h')
    · exact h'
    · omega
  · rcases x2z L with rfl |⟨K,r,rfl⟩
    · rw [x8j hb]
      refine ⟨by simp [okR];omega,fun _ s hs=>?_,fun u v=>?_⟩
      · simp at hs;subst hs;simp
      · rw [z1p];simp only [x0e,false_or];omega
    · have hr:=hu r (by simp)
      obtain ⟨o1,o2,o3⟩:=okR_append.1 h
      by_cases hj:r.y=y∧a≤r.x1
      · rw [x6a hb hj.1 hj.2]
        have hm:max r.x1 b=b:=by omega
        rw [hm]
        refine ⟨okR_append.2 ⟨o1,?_,fun q hq s hs=>?_⟩,fun _ q hq=>?_,fun u v=>?_⟩
        · simp [okR] at o2 ⊢;omega
        · simp at hs;subst hs
          have:=o3 q hq r (by simp)
          simp only;omega
        · rcases List.mem_append.1 hq with hq |hq
          · have:=o3 q hq r (by simp)
            have:=hu q (by simp [hq])
            omega
          · simp at hq;subst hq;simp
        · rw [z0c,z0c,z1p,z1p]
          have o4:=o2.1
          simp only
          constructor
          · rintro (h1 |h1)
            · exact .inl (.inl h1)
            · by_cases hx:u<r.x1
              · exact .inl (.inr (by omega))
              · exact .inr (by omega)
          · rintro ((h1 |h1) |h1)
            · exact .inl h1
            · exact .inr (by omega)
            · exact .inr (by omega)
      · rw [x8k hb hj]
        refine ⟨okR_append.2 ⟨h,by simp [okR];omega,fun q hq s hs=>?_⟩,fun _ q hq=>?_,fun u v=>?_⟩
        · simp at hs;subst hs
          simp only
          have hq':=hu q hq
          rcases List.mem_append.1 hq with hq |hq
          · have:=o3 q hq r (by simp)
            have:=o2.1
            omega
          · simp at hq;subst hq
            omega
        · rcases List.mem_append.1 hq with hq |hq
          · have:=hu q hq;omega
          · simp at hq;subst hq;simp
        · rw [z0c (l:=[⟨y,a,b⟩]),z1p]
          simp only
          constructor
          · rintro (h1 |h1)
            · exact .inl h1
            · exact .inr (by omega)
          · rintro (h1 |h1)
            · exact .inl h1
            · exact .inr (by omega)
/-! ### Runs in memory as a list -/
def q2m (rs:Nat→Run) (n:Nat):List Run:=(List.range n).map rs
theorem x36 (rs:Nat→Run) (n:Nat):q2m rs (n+1)=q2m rs n++[rs n]:=by
  unfold q2m;rw [List.range_succ,List.map_append];rfl
theorem mem_runsL {rs:Nat→Run} {n:Nat} {r:Run}:r∈q2m rs n↔∃ i,i<n∧rs i=r:=by simp [q2m]
theorem q5b {rs:Nat→Run} {n:Nat} {x y:Int}:hasR (q2m rs n) x y↔∃ i,i<n∧(rs i).y=y∧(rs i).x0≤x∧x<(rs i).x1:=by
  unfold hasR
  constructor
  · rintro ⟨r,hr,h⟩
    obtain ⟨i,hi,rfl⟩:=mem_runsL.1 hr
    exact ⟨i,hi,h⟩
  · rintro ⟨i,hi,h⟩
    exact ⟨_,mem_runsL.2 ⟨i,hi,rfl⟩,h⟩
structure Valid (rs:Nat→Run) (n:Nat):Prop where
  bd:∀ i,i<n→(-8192≤(rs i).y∧(rs i).y≤8191)∧(-8192≤(rs i).x0∧(rs i).x0<(rs i).x1∧(rs i).x1≤8192)
  lt:∀ i j,i<j→j<n→(rs i).y<(rs j).y∨((rs i).y=(rs j).y∧(rs i).x1<(rs j).x0)
theorem x0f {rs:Nat→Run}:∀ {n:Nat},regV rs n=0→∀ k,k<n→q3r rs k=0
  | 0,_,k,hk=>by omega
  | n+1,h,k,hk=>by
    unfold regV at h
    split at h
    · rename_i h1;exact (h1 h).elim
    · rename_i h1
      rcases Nat.lt_or_ge k n with h2 |h2
      · exact x0f (Decidable.not_not.1 h1) k h2
      · have:k=n:=by omega
        subst this;exact h
theorem x1u {rs:Nat→Run} {k:Nat} (h:q3r rs k=0):((-8192≤(rs k).y∧(rs k).y≤8191)∧(-8192≤(rs k).x0∧(rs k).x0<(rs k).x1∧(rs k).x1≤8192))∧(0<k→(rs (k-1)).y<(rs k).y∨((rs (k-1)).y=(rs k).y∧(rs (k-1)).x1<(rs k).x0)):=by
  unfold q3r at h
  split at h
  · omega
  · split at h
    · omega
    · split at h
      · omega
      · refine ⟨by omega,fun hk=>by omega⟩
theorem x8l {rs:Nat→Run} {n:Nat} (h:regV rs n=0):Valid rs n:=by
  have h1:=fun k hk=>x1u (x0f h k hk)
  refine ⟨fun i hi=>(h1 i hi).1,fun i j hij hj=>?_⟩
  induction j with
  | zero=>omega
  | succ j ih =>
    have h2:=(h1 (j+1) hj).2 (by omega)
    simp only [Nat.add_sub_cancel] at h2
    rcases Nat.lt_or_ge i j with h3 |h3
    · have h4:=ih h3 (by omega)
      have h5:=(h1 j (by omega)).1
      omega
    · have:i=j:=by omega
      subst this;exact h2
theorem Valid.ok {rs:Nat→Run}:∀ {n:Nat},Valid rs n→okR (q2m rs n)
  | 0,_=>trivial
  | n+1,h=>by
    rw [x36]
    refine okR_append.2 ⟨Valid.ok ⟨fun i hi=>h.bd i (by omega),fun i j hij hj=>h.lt i j hij (by omega)⟩,?_,fun r hr s hs=>?_⟩
    · have:=(h.bd n (by omega)).2
      simp [okR];omega
    · simp at hs;subst hs
      obtain ⟨i,hi,rfl⟩:=mem_runsL.1 hr
      exact h.lt i n hi (by omega)
/-! ### The edges of a region -/
def q4h (y x y' x':Int):Prop:=y<y'∨(y=y'∧x≤x')
def q6l (y x y' x':Int):Prop:=y<y'∨(y=y'∧x<x')
instance {y x y' x'}:Decidable (q4h y x y' x'):=by unfold q4h;infer_instance
instance {y x y' x'}:Decidable (q6l y x y' x'):=by unfold q6l;infer_instance
def eY (rs:Nat→Run) (i:Nat):Int:=(rs (i/2)).y
def eX (rs:Nat→Run) (i:Nat):Int:=if i%2=0 then (rs (i/2)).x0 else (rs (i/2)).x1
theorem z74 {rs:Nat→Run} {n:Nat} (h:Valid rs n) {i:Nat} (hi:i≤2*n) {x y:Int} (h1:∀ k,k<i→q4h (eY rs k) (eX rs k) y x) (h2:∀ k,i≤k→k<2*n→q6l y x (eY rs k) (eX rs k)) :
    hasR (q2m rs n) x y↔i%2=1:=by
  rw [q5b]
  constructor
  · rintro ⟨q,hq,h3,h4,h5⟩
    have g1:¬ i≤2*q:=fun hle=>by
      have:=h2 (2*q) hle (by omega)
      unfold q6l eY eX at this
      rw [show 2*q/2=q by omega,if_pos (by omega)] at this
      omega
    have g2:¬ 2*q+1<i:=fun hle=>by
      have:=h1 (2*q+1) hle
      unfold q4h eY eX at this
      rw [show (2*q+1)/2=q by omega,if_neg (by omega)] at this
      omega
    omega
  · intro ho
    refine ⟨i/2,by omega,?_⟩
    have g1:=h1 (i-1) (by omega)
    have g2:=h2 i (Nat.le_refl _) (by omega)
    unfold q4h eY eX at g1
    unfold q6l eY eX at g2
    rw [show (i-1)/2=i/2 by omega,if_pos (by omega)] at g1
    rw [if_neg (by omega)] at g2
    omega
end Go.Proofs.YticolnghiibgfaaGreat
namespace Go.Proofs.YticolnghiibgfaaGreat
def hasB (rs:Nat→Run) (n:Nat) (x y:Int):Bool:=(List.range n).any fun i=>decide ((rs i).y=y∧(rs i).x0≤x∧x<(rs i).x1)
theorem q69 {rs:Nat→Run} {n:Nat} {x y:Int}:hasB rs n x y=true↔hasR (q2m rs n) x y:=by
  rw [q5b];simp [hasB]
theorem x0g {rs:Nat→Run} {n:Nat} {x y:Int} {i:Nat} (h:hasR (q2m rs n) x y↔i%2=1):hasB rs n x y=decide (i%2=1):=by
  rw [← q69] at h
  cases hb:hasB rs n x y <;> simp_all
structure Sweep (op:Bool→Bool→Bool) (azs bs:Nat→Run) (n m i j:Nat) (fy fx:Int) (out:List Run):Prop where
  hi:i≤2*n
  hj:j≤2*m
  pa:0<i+j→∀ k,k<i→q4h (eY azs k) (eX azs k) fy fx
  pb:0<i+j→∀ k,k<j→q4h (eY bs k) (eX bs k) fy fx
  ua:0<i+j→∀ k,i≤k→k<2*n→q4h fy fx (eY azs k) (eX azs k)
  ub:0<i+j→∀ k,j≤k→k<2*m→q4h fy fx (eY bs k) (eX bs k)
  ok:okR out
  up:0<i+j→upTo out fy fx
  len:out.length≤i+j
  has:∀ x y,hasR out x y↔op (hasB azs n x y) (hasB bs m x y)=true∧0<i+j∧q6l y x fy fx
theorem Sweep.row {op:Bool→Bool→Bool} {azs bs:Nat→Run} {n m i j:Nat} {fy fx:Int} {out:List Run} (h:Sweep op azs bs n m i j fy fx out) {gy gx:Int} (hg:0<i+j→q4h fy fx gy gx) (ha:∀ k,i≤k→k<2*n→q4h gy gx (eY azs k) (eX azs k)) (hb:∀ k,j≤k→k<2*m→q4h gy gx (eY bs k) (eX bs k))
    (ho:i%2=1∨j%2=1):fy=gy:=by
  have hi:=h.hi
  have hj:=h.hj
  rcases ho with ho |ho
  · have a1:=h.pa (by omega) (i-1) (by omega)
    have a2:=ha i (Nat.le_refl _) (by omega)
    have a3:=hg (by omega)
    have e:eY azs (i-1)=eY azs i:=by unfold eY;rw [show (i-1)/2=i/2 by omega]
    unfold q4h at *;omega
  · have a1:=h.pb (by omega) (j-1) (by omega)
    have a2:=hb j (Nat.le_refl _) (by omega)
    have a3:=hg (by omega)
    have e:eY bs (j-1)=eY bs j:=by unfold eY;rw [show (j-1)/2=j/2 by omega]
    unfold q4h at *;omega
theorem Sweep.start (op:Bool→Bool→Bool) (azs bs:Nat→Run) (n m:Nat) (fy fx:Int):Sweep op azs bs n m 0 0 fy fx [] :=
  ⟨Nat.zero_le _,Nat.zero_le _,fun e=>by omega,fun e=>by omega,fun e=>by omega,fun e=>by omega,trivial,fun e=>by omega,Nat.le_refl _,fun x y=>⟨fun h=>(x0e h).elim,fun h=>by omega⟩⟩
theorem Sweep.done {op:Bool→Bool→Bool} (hop:op false false=false) {azs bs:Nat→Run} {n m:Nat} {fy fx:Int} {out:List Run} (h:Sweep op azs bs n m (2*n) (2*m) fy fx out) (va:Valid azs n) (vb:Valid bs m) :
    okR out∧∀ x y,hasR out x y↔op (hasB azs n x y) (hasB bs m x y)=true:=by
  refine ⟨h.ok,fun x y=>?_⟩
  rw [h.has x y]
  constructor
  · exact fun h1=>h1.1
  · intro h1
    by_cases h2:0<2*n+2*m∧q6l y x fy fx
    · exact ⟨h1,h2⟩
    · exfalso
      have e1:hasB azs n x y=decide ((2*n)%2=1):=x0g (z74 va (Nat.le_refl _) (fun k hk=>by
        have a1:=h.pa (by omega) k hk
        have:¬ q6l y x fy fx:=fun h4=>h2 ⟨by omega,h4⟩
        unfold q6l at this;unfold q4h at *;omega) fun k hk hk'=>by omega)
      have e2:hasB bs m x y=decide ((2*m)%2=1):=x0g (z74 vb (Nat.le_refl _) (fun k hk=>by
        have a1:=h.pb (by omega) k hk
        have:¬ q6l y x fy fx:=fun h4=>h2 ⟨by omega,h4⟩
        unfold q6l at this;unfold q4h at *;omega) fun k hk hk'=>by omega)
      rw [e1,e2] at h1
      have f1:decide ((2*n)%2=1)=false:=by simp
      have f2:decide ((2*m)%2=1)=false:=by simp
      rw [f1,f2,hop] at h1
      cases h1
/-! ### Sorted lists of numbers -/
def ins (x:Int):List Int→List Int
  | []=>[x]
  | a::l=>if a<x then a::ins x l else if a=x then a::l else x::a::l
def q41 (l:List Int):Prop:=l.Pairwise (·<·)
theorem mem_ins {x z:Int}:∀ {l:List Int},z∈ins x l↔z=x∨z∈l
  | []=>by simp [ins]
  | a::l=>by
    unfold ins
    split
    · rw [List.mem_cons,mem_ins,List.mem_cons];constructor
      · rintro (h |h |h) <;> simp [h]
      · rintro (h |h |h) <;> simp [h]
    · split
      · rename_i h;subst h
        simp
      · simp
theorem q8j {x:Int}:∀ {l:List Int},q41 l→q41 (ins x l)
  | [],_=>by simp [ins,q41]
  | a::l,h=>by
    obtain ⟨h1,h2⟩:=List.pairwise_cons.1 h
    unfold ins
    split
    · rename_i hl
      refine List.pairwise_cons.2 ⟨fun z hz=>?_,q8j h2⟩
      rcases mem_ins.1 hz with rfl |hz
      · exact hl
      · exact h1 z hz
    · split
      · exact h
      · refine List.pairwise_cons.2 ⟨fun z hz=>?_,h⟩
        rcases List.mem_cons.1 hz with rfl |hz
        · omega
        · have:=h1 z hz;omega
theorem q8k {x:Int}:∀ {l:List Int},(ins x l).length≤l.length+1
  | []=>by simp [ins]
  | a::l=>by
    have:=q8k (x:=x) (l:=l)
    unfold ins
    split
    · simp;omega
    · split <;> simp
/-! ### The rows of two regions -/
structure Borders (azs bs:Nat→Run) (n m:Nat) (Y:Int) (xs:List Int):Prop where
  srt:q41 xs
  a:∀ i,i<n→(azs i).y=Y→(azs i).x0∈xs∧(azs i).x1∈xs
  b:∀ i,i<m→(bs i).y=Y→(bs i).x0∈xs∧(bs i).x1∈xs
theorem q6m {xs:List Int} (h:q41 xs) {i j:Nat} {p q:Int} (hij:i<j) (hp:xs[i]? = some p) (hq:xs[j]? = some q):p<q:=by
  obtain ⟨h1,rfl⟩:=List.getElem?_eq_some_iff.1 hp
  obtain ⟨h2,rfl⟩:=List.getElem?_eq_some_iff.1 hq
  exact List.pairwise_iff_getElem.1 h i j h1 h2 hij
theorem z0q {xs:List Int} (h:q41 xs) {k:Nat} {p q z:Int} (hp:xs[k]? = some p) (hq:xs[k+1]? = some q) (hz:z∈xs):z≤p∨q≤z:=by
  obtain ⟨i,hi⟩:=List.mem_iff_getElem?.1 hz
  rcases Nat.lt_trichotomy i k with h1 |h1 |h1
  · left;have:=q6m h h1 hi hp;omega
  · subst h1;rw [hp] at hi;cases hi;left;omega
  · rcases Nat.lt_trichotomy i (k+1) with h2 |h2 |h2
    · omega
    · subst h2;rw [hq] at hi;cases hi;right;omega
    · right;have:=q6m h h2 hq hi;omega
theorem v0d {rs:Nat→Run} {n:Nat} {x y x':Int} (h:hasR (q2m rs n) x y↔hasR (q2m rs n) x' y):hasB rs n x y=hasB rs n x' y:=by
  rw [← q69,← q69] at h
  cases h1:hasB rs n x y <;> cases h2:hasB rs n x' y <;> simp_all
theorem x0h {rs:Nat→Run} {n:Nat} {Y:Int} {xs:List Int} (hs:q41 xs) (hb:∀ i,i<n→(rs i).y=Y→(rs i).x0∈xs∧(rs i).x1∈xs) {k:Nat} {p q x:Int} (hp:xs[k]? = some p) (hq:xs[k+1]? = some q) (h1:p≤x) (h2:x<q) :
    hasB rs n x Y=hasB rs n p Y:=by
  refine v0d ?_
  rw [q5b,q5b]
  constructor
  · rintro ⟨i,hi,g1,g2,g3⟩
    refine ⟨i,hi,g1,?_,by omega⟩
    rcases z0q hs hp hq (hb i hi g1).1 with h |h <;> omega
  · rintro ⟨i,hi,g1,g2,g3⟩
    refine ⟨i,hi,g1,by omega,?_⟩
    rcases z0q hs hp hq (hb i hi g1).2 with h |h <;> omega
theorem z5p {rs:Nat→Run} {n:Nat} {Y:Int} {xs:List Int} (hs:q41 xs) (hb:∀ i,i<n→(rs i).y=Y→(rs i).x0∈xs∧(rs i).x1∈xs) {p x:Int} (hp:xs[0]? = some p) (h1:x<p):hasB rs n x Y=false:=by
  cases h:hasB rs n x Y with
  | false=>rfl
  | true =>
    rw [q69,q5b] at h
    obtain ⟨i,hi,g1,g2,g3⟩:=h
    obtain ⟨j,hj⟩:=List.mem_iff_getElem?.1 (hb i hi g1).1
    rcases Nat.eq_zero_or_pos j with h0 |h0
    · subst h0;rw [hp] at hj;cases hj;omega
    · have:=q6m hs h0 hp hj;omega
structure RowsAt (op:Bool→Bool→Bool) (azs bs:Nat→Run) (n m:Nat) (rows:List Int) (q:Nat) (out:List Run):Prop where
  ok:okR out
  row:∀ r∈out,r.y∈rows.take q
  has:∀ x y,hasR out x y↔op (hasB azs n x y) (hasB bs m x y)=true∧y∈rows.take q
structure CellsAt (op:Bool→Bool→Bool) (azs bs:Nat→Run) (n m:Nat) (rows:List Int) (q:Nat) (Y p:Int) (out:List Run):Prop where
  ok:okR out
  row:∀ r∈out,r.y∈rows.take q∨r.y=Y
  up:upTo out Y p
  has:∀ x y,hasR out x y↔op (hasB azs n x y) (hasB bs m x y)=true∧(y∈rows.take q∨(y=Y∧x<p))
theorem v0e {rows:List Int} (hs:q41 rows) {q:Nat} {Y z:Int} (hY:rows[q]? = some Y) (hz:z∈rows.take q):z<Y:=by
  obtain ⟨i,hi⟩:=List.mem_iff_getElem?.1 hz
  rw [List.getElem?_take] at hi
  split at hi
  · rename_i h;exact q6m hs h hi hY
  · cases hi
theorem RowsAt.enter {op:Bool→Bool→Bool} (hop:op false false=false) {azs bs:Nat→Run} {n m:Nat} {rows:List Int} {q:Nat} {out:List Run} (h:RowsAt op azs bs n m rows q out) (hs:q41 rows) {Y p:Int} (hY:rows[q]? = some Y) {xs:List Int} (hb:Borders azs bs n m Y xs) (hp:xs[0]? = some p) :
    CellsAt op azs bs n m rows q Y p out :=
  ⟨h.ok,fun r hr=>.inl (h.row r hr),fun r hr=>.inl (v0e hs hY (h.row r hr)),fun x y=>by
    rw [h.has x y]
    constructor
    · exact fun h1=>⟨h1.1,.inl h1.2⟩
    · rintro ⟨h1,h2 |⟨rfl,h2⟩⟩
      · exact ⟨h1,h2⟩
      · rw [z5p hb.srt hb.a hp h2,z5p hb.srt hb.b hp h2,hop] at h1;cases h1⟩
theorem CellsAt.step {op:Bool→Bool→Bool} {azs bs:Nat→Run} {n m:Nat} {rows:List Int} {q:Nat} {out:List Run} {Y p p':Int} (h:CellsAt op azs bs n m rows q Y p out) {xs:List Int} (hb:Borders azs bs n m Y xs) {k:Nat} (hp:xs[k]? = some p) (hp':xs[k+1]? = some p') :
    CellsAt op azs bs n m rows q Y p' (if op (hasB azs n p Y) (hasB bs m p Y)=true then addR out Y p p' else out):=by
  have hlt:=q6m hb.srt (Nat.lt_succ_self k) hp hp'
  have key:∀ x,p≤x→x<p'→op (hasB azs n x Y) (hasB bs m x Y)=op (hasB azs n p Y) (hasB bs m p Y):=fun x h1 h2=>by
    rw [x0h hb.srt hb.a hp hp' h1 h2,x0h hb.srt hb.b hp hp' h1 h2]
  split
  · rename_i ho
    obtain ⟨a1,a2,a3⟩:=v0c (b:=p') h.ok h.up
    refine ⟨a1,fun r hr=>?_,a2 hlt,fun x y=>?_⟩
    · unfold addR at hr
      rw [if_neg (by omega)] at hr
      split at hr
      · split at hr
        · rcases List.mem_append.1 hr with hr |hr
          · exact h.row r (List.dropLast_subset _ hr)
          · simp at hr;subst hr;exact .inr rfl
        · rcases List.mem_append.1 hr with hr |hr
          · exact h.row r hr
          · simp at hr;subst hr;exact .inr rfl
      · simp at hr;subst hr;exact .inr rfl
    · rw [a3,h.has x y]
      constructor
      · rintro (⟨h1,h2⟩ |⟨rfl,h1,h2⟩)
        · refine ⟨h1,?_⟩
          rcases h2 with h2 |h2
          · exact .inl h2
          · exact .inr (by omega)
        · exact ⟨by rw [key x h1 h2];exact ho,.inr ⟨rfl,h2⟩⟩
      · rintro ⟨h1,h2 |⟨rfl,h2⟩⟩
        · exact .inl ⟨h1,.inl h2⟩
        · by_cases h3:x<p
          · exact .inl ⟨h1,.inr ⟨rfl,h3⟩⟩
          · exact .inr ⟨rfl,by omega,h2⟩
  · rename_i ho
    refine ⟨h.ok,h.row,x59 h.up (by omega),fun x y=>?_⟩
    rw [h.has x y]
    constructor
    · rintro ⟨h1,h2 |⟨rfl,h2⟩⟩
      · exact ⟨h1,.inl h2⟩
      · exact ⟨h1,.inr ⟨rfl,by omega⟩⟩
    · rintro ⟨h1,h2 |⟨rfl,h2⟩⟩
      · exact ⟨h1,.inl h2⟩
      · by_cases h3:x<p
        · exact ⟨h1,.inr ⟨rfl,h3⟩⟩
        · rw [key x (by omega) h2] at h1
          exact (ho h1).elim
theorem RowsAt.start (op:Bool→Bool→Bool) (azs bs:Nat→Run) (n m:Nat) (rows:List Int):RowsAt op azs bs n m rows 0 [] :=
  ⟨trivial,(fun r hr=>by cases hr),fun x y=>by simp [hasR]⟩
theorem RowsAt.done {op:Bool→Bool→Bool} (hop:op false false=false) {azs bs:Nat→Run} {n m:Nat} {rows:List Int} {out:List Run} (h:RowsAt op azs bs n m rows rows.length out) (ha:∀ i,i<n→(azs i).y∈rows) (hb:∀ i,i<m→(bs i).y∈rows) :
    okR out∧∀ x y,hasR out x y↔op (hasB azs n x y) (hasB bs m x y)=true:=by
  refine ⟨h.ok,fun x y=>?_⟩
  rw [h.has x y,List.take_length]
  refine ⟨fun h1=>h1.1,fun h1=>⟨h1,?_⟩⟩
  cases h2:hasB azs n x y with
  | true =>
    rw [q69,q5b] at h2
    obtain ⟨i,hi,rfl,_⟩:=h2
    exact ha i hi
  | false =>
    cases h3:hasB bs m x y with
    | true =>
      rw [q69,q5b] at h3
      obtain ⟨i,hi,rfl,_⟩:=h3
      exact hb i hi
    | false=>rw [h2,h3,hop] at h1;cases h1
end Go.Proofs.YticolnghiibgfaaGreat
