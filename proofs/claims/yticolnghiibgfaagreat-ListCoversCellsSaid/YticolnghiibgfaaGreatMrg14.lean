/-
  Merged: XRInvertNeg, XInvertAny, XImage, XRegLaw.
-/
import Derived.Test.YticolnghiibgfaaGreatMrg13
import Derived.Test.YticolnghiibgfaaGreatMrg3
import Derived.Test.YticolnghiibgfaaGreatMrg9
set_option linter.unusedVariables false
set_option linter.unusedSimpArgs false
set_option linter.unnecessarySimpa false
namespace Go.Proofs.YticolnghiibgfaaGreat
open Go.RowKit
set_option maxHeartbeats 4000000 in
theorem x0y (a b c d e f:Int) (w:World) (hm:matE a b c d e f=0) (hd:a*d-b*c<0) :
    Calls Tryz.prog 114 #[.agg #[.int .i64 a,.int .i64 b,.int .i64 c,.int .i64 d,.int .i64 e,.int .i64 f]] w fun r w'=>r=.returned (invO (-1) (-(a*d-b*c)) a b c d e f)∧Below w.heap.size w w':=by
  obtain ⟨x1,x2,x3,x4,x5,x6⟩:=q6s hm
  have p1:=q3b x1 x4
  have p2:=q3b x2 x3
  have p3:=q2c x3 x6
  have p4:=q2c x4 x5
  have p5:=q2c x2 x5
  have p6:=q2c x1 x6
  go_enter Tryz.func114,Tryz.ntmps114
  go_wp2_with (first |(go_at_call 138;refine (q39 _ _ _ _ _ _ _).mono ?_;rintro e w' ⟨rfl,rfl⟩;simp only []))
  simp only [List.append_eq,List.cons_append,List.nil_append]
  refine mix1 67 7 (.cells #[.int .i64 0,.int .i64 0,.int .i64 0,.int .i64 0,.int .i64 0,.int .i64 0] 50) (by kernel_rfl) (by kernel_rfl) ⟨by rfl,by simp⟩ ⟨_,rfl,rfl,rfl,fun f w=>by kernel_rfl⟩ ?_
  apply Exists.intro
  refine ⟨fun F=>?_,fun nb w9 hbn hbel hblk=>?_⟩
  · haveI:=F.ne
    simp only [List.take_succ_cons,List.take_zero]
    repeat (go_big_quiet_step (first |(go_at_call 121;first |exact q1z (q3s (-1) (16777216*d) _ _ _ (by omega) (by omega) (by omega)) |exact q1z (q3s (-1) (-16777216*b) _ _ _ (by omega) (by omega) (by omega)) |exact q1z (q3s (-1) (-16777216*c) _ _ _ (by omega) (by omega) (by omega)) |exact q1z (q3s (-1) (16777216*a) _ _ _ (by omega) (by omega) (by omega)) |exact q1z (q3s (-1) (4096*(c*f-d*e)) _ _ _ (by omega) (by omega) (by omega)) |exact q1z (q3s (-1) (4096*(b*e-a*f)) _ _ _ (by omega) (by omega) (by omega)))))
    exact wpQuiet_nil rfl
  obtain ⟨hc9,hf9,hz9⟩:=q4v hbel
  obtain ⟨hn9,hnf9,hl9⟩:=q9i hblk
  clear hblk
  have hB9:Below w.heap.size w w9:=q95 hbel (by exact blQ) (by simp only [World.size_alloc];omega)
  have hr9:∀ o,w9.cell? ⟨w.heap.size+1,o,none⟩=#[.int .i64 0,.int .i64 0,.int .i64 0,.int .i64 0,.int .i64 0,.int .i64 0][o]?:=fun o=>by
    rw [hc9];simp [go_sem]
  have hrf9:∀ o,w9.frozen? ⟨w.heap.size+1,o,none⟩=false:=fun o=>by
    rw [hf9];simp [go_sem]
  simp only [World.size_alloc] at hbn hz9 hc9 hf9
  have hm9:∀ o,w9.cell? ⟨nb,o,none⟩=#[.int .i64 0,.int .i64 0,.int .i64 0,.int .i64 0,.int .i64 0,.int .i64 0][o]?:=fun o=>by
    rw [hc9,if_neg (by omega),hn9]
  have hmf9:∀ o,w9.frozen? ⟨nb,o,none⟩=false:=fun o=>by
    rw [hf9,if_neg (by omega),hnf9]
  clear hc9 hf9 hn9 hnf9 hbel
  simp only [List.drop_succ_cons,List.drop_zero,Act.put,List.setIfInBounds_toArray,List.set_cons_succ,List.set_cons_zero]
  clear p1 p2 p3 p4 p5 p6 x1 x2 x3 x4 x5 x6
  have HR:Hid (invO (-1) (-(a*d-b*c)) a b c d e f=out6 (near (sg (-1) (16777216*d)) (-(a*d-b*c))) (near (sg (-1) (-16777216*b)) (-(a*d-b*c))) (near (sg (-1) (-16777216*c)) (-(a*d-b*c))) (near (sg (-1) (16777216*a)) (-(a*d-b*c))) (near (sg (-1) (4096*(c*f-d*e))) (-(a*d-b*c))) (near (sg (-1) (4096*(b*e-a*f))) (-(a*d-b*c)))):=rfl
  generalize near (sg (-1) (16777216*d)) (-(a*d-b*c))=n0 at HR ⊢
  generalize near (sg (-1) (-16777216*b)) (-(a*d-b*c))=n1 at HR ⊢
  generalize near (sg (-1) (-16777216*c)) (-(a*d-b*c))=n2 at HR ⊢
  generalize near (sg (-1) (16777216*a)) (-(a*d-b*c))=n3 at HR ⊢
  generalize near (sg (-1) (4096*(c*f-d*e))) (-(a*d-b*c))=n4 at HR ⊢
  generalize near (sg (-1) (4096*(b*e-a*f))) (-(a*d-b*c))=n5 at HR ⊢
  rcases q8b n0 n1 n2 n3 n4 n5 with ho |ho
  all_goals go_wp2_with (first |(go_at_call 138;refine (q39 _ _ _ _ _ _ _).mono ?_;rintro e w' ⟨rfl,rfl⟩;simp only []))
  all_goals try simp only [Exit.inBlock,Exit.then]
  · refine bodyPost_ret (by simp [results,Tryz.results114,go_sem,hr9,↓IntWalk.iteOmega];try rfl) rfl ?_
    exact ⟨by rw [HR.out,out6,if_pos ho],by exact blQ⟩
  · refine bodyPost_ret (by simp [results,Tryz.results114,go_sem,hr9,↓IntWalk.iteOmega];try rfl) rfl ?_
    exact ⟨by rw [HR.out,out6,if_neg (by rw [ho];decide)],by exact blQ⟩
end Go.Proofs.YticolnghiibgfaaGreat
namespace Go.Proofs.YticolnghiibgfaaGreat
open Go.RowKit
def q5f (g:Nat→Int):Value:=.tuple #[.agg #[.int .i64 (g 0),.int .i64 (g 1),.int .i64 (g 2),.int .i64 (g 3),.int .i64 (g 4),.int .i64 (g 5)],.int .i64 (g 6)]
def six (a b c d e f:Int) (i:Nat):Int :=
  if matE a b c d e f=0 then
    match i with |0=>a |1=>b |2=>c |3=>d |4=>e |5=>f |_=>0
  else if i=6 then 10 else 0
theorem q62 (a b c d e f:Int):out6 a b c d e f=q5f (six a b c d e f):=by
  unfold out6 q5f six
  split <;> simp_all
def invL (a b c d e f:Int):Nat→Int :=
  if matE a b c d e f=0 then
    if a*d-b*c=0 then fun i=>if i=6 then 8 else 0
    else if 0<a*d-b*c then six (near (sg 1 (16777216*d)) (a*d-b*c)) (near (sg 1 (-16777216*b)) (a*d-b*c)) (near (sg 1 (-16777216*c)) (a*d-b*c)) (near (sg 1 (16777216*a)) (a*d-b*c)) (near (sg 1 (4096*(c*f-d*e))) (a*d-b*c)) (near (sg 1 (4096*(b*e-a*f))) (a*d-b*c))
    else six (near (sg (-1) (16777216*d)) (-(a*d-b*c))) (near (sg (-1) (-16777216*b)) (-(a*d-b*c))) (near (sg (-1) (-16777216*c)) (-(a*d-b*c))) (near (sg (-1) (16777216*a)) (-(a*d-b*c))) (near (sg (-1) (4096*(c*f-d*e))) (-(a*d-b*c))) (near (sg (-1) (4096*(b*e-a*f))) (-(a*d-b*c)))
  else fun i=>if i=6 then 3 else 0
theorem z05 (a b c d e f:Int) (w:World) :
    Calls Tryz.prog 128 #[.agg #[.int .i64 a,.int .i64 b,.int .i64 c,.int .i64 d,.int .i64 e,.int .i64 f]] w fun r w'=>r=.returned (q5f (invL a b c d e f))∧Below w.heap.size w w':=by
  unfold invL
  rcases q8b a b c d e f with hm |hm
  · rw [if_pos hm]
    by_cases h0:a*d-b*c=0
    · rw [if_pos h0];exact x0w _ _ _ _ _ _ w hm h0
    · rw [if_neg h0]
      by_cases h1:0<a*d-b*c
      · rw [if_pos h1,← q62];exact x22 _ _ _ _ _ _ w hm h1
      · rw [if_neg h1,← q62];exact x23 _ _ _ _ _ _ w hm (by omega)
  · rw [if_neg (by omega)];exact x49 _ _ _ _ _ _ w hm
theorem q9w (a b c d e f:Int) (w:World) :
    Calls Tryz.prog 114 #[.agg #[.int .i64 a,.int .i64 b,.int .i64 c,.int .i64 d,.int .i64 e,.int .i64 f]] w fun r w'=>r=.returned (q5f (invL a b c d e f))∧Below w.heap.size w w':=by
  unfold invL
  rcases q8b a b c d e f with hm |hm
  · rw [if_pos hm]
    by_cases h0:a*d-b*c=0
    · rw [if_pos h0];exact z9f _ _ _ _ _ _ w hm h0
    · rw [if_neg h0]
      by_cases h1:0<a*d-b*c
      · rw [if_pos h1,← q62];exact x0x _ _ _ _ _ _ w hm h1
      · rw [if_neg h1,← q62];exact x0y _ _ _ _ _ _ w hm (by omega)
  · rw [if_neg (by omega)];exact x24 _ _ _ _ _ _ w hm
end Go.Proofs.YticolnghiibgfaaGreat
namespace Go.Proofs.YticolnghiibgfaaGreat
open Go.RowKit
def imgE (W H:Int) (n m:Nat) (e:Int):Int :=
  if W<1∨256<W∨H<1∨256<H then 3 else if (n:Int)≠W*H∨(m≠0∧(m:Int)≠W*H) then 4 else e
theorem q97 {W H:Int} (hW:1≤W∧W≤256) (hH:1≤H∧H≤256):1≤W*H∧W*H≤65536:=by
  have h1:=Int.mul_le_mul hW.1 hH.1 (by omega) (by omega)
  have h2:=Int.mul_le_mul hW.2 hH.2 (by omega) (by omega)
  omega
set_option maxRecDepth 20000 in
set_option maxHeartbeats 4000000 in
theorem z9g (W H:Int) (A B:Option Addr) (n p m q:Nat) (a b c d e f:Int) (s r:Bool) (w:World) :
    Calls Tryz.prog 99 #[.agg #[.int .i64 W,.int .i64 H,.slice A n p,.slice B m q,.int .i64 a,.int .i64 b,.int .i64 c,.int .i64 d,.int .i64 e,.int .i64 f,.bool s,.bool r]] w fun e' w'=>e'=.returned (.int .i64 (imgE W H n m (invL a b c d e f 6)))∧Below w.heap.size w w':=by
  by_cases hs:W<1∨256<W∨H<1∨256<H
  · go_enter Tryz.func99,Tryz.ntmps99
    go_wp2_with (first |(go_at_call 128;refine (z05 _ _ _ _ _ _ _).mono ?_;rintro e' w' ⟨rfl,hb⟩;obtain ⟨hc9,hf9,hz9⟩:=q4v hb;try simp only [World.size_alloc] at hz9 hc9 hf9;try unfold q5f))
    all_goals go_ret
    all_goals exact ⟨q0n (by rw [imgE,if_pos hs]),by exact blQ⟩
  · have hWH:=q97 (W:=W) (H:=H) (by omega) (by omega)
    go_enter Tryz.func99,Tryz.ntmps99
    go_wp2_with (first |(go_at_call 128;refine (z05 _ _ _ _ _ _ _).mono ?_;rintro e' w' ⟨rfl,hb⟩;obtain ⟨hc9,hf9,hz9⟩:=q4v hb;try simp only [World.size_alloc] at hz9 hc9 hf9;try unfold q5f))
    all_goals go_ret
    all_goals refine ⟨q0n ?_,by exact blQ⟩
    all_goals rw [imgE,if_neg hs]
    all_goals split
    all_goals first
      | rfl
      | (exfalso;simp_all;done)
      | (exfalso;simp_all;omega)
set_option maxRecDepth 20000 in
set_option maxHeartbeats 4000000 in
theorem z73 (W H:Int) (A B:Option Addr) (n p m q:Nat) (a b c d e f:Int) (s r:Bool) (w:World) :
    Calls Tryz.prog 87 #[.agg #[.int .i64 W,.int .i64 H,.slice A n p,.slice B m q,.int .i64 a,.int .i64 b,.int .i64 c,.int .i64 d,.int .i64 e,.int .i64 f,.bool s,.bool r]] w fun e' w'=>e'=.returned (.int .i64 (imgE W H n m (invL a b c d e f 6)))∧Below w.heap.size w w':=by
  by_cases hi:inB W 1 256=false∨inB H 1 256=false
  · have hs:Hid (W<1∨256<W∨H<1∨256<H):=by
      show W<1∨256<W∨H<1∨256<H
      rcases hi with hi |hi
      · have:¬(1≤W∧W≤256):=fun hh=>by rw [z2y hh] at hi;cases hi
        omega
      · have:¬(1≤H∧H≤256):=fun hh=>by rw [z2y hh] at hi;cases hi
        omega
    by_cases hW:inB W 1 256=true
    · have hH:inB H 1 256=false:=by simpa [hW] using hi
      clear hi
      go_enter Tryz.func87,Tryz.ntmps87
      go_wp2_with (first |(go_at_call 12;refine (q3v _ _ _ _).mono ?_;rintro e w' ⟨rfl,rfl⟩))
      go_ret
      exact ⟨q0n (by rw [imgE,if_pos hs.out]),by exact blQ⟩
    have hW:inB W 1 256=false:=by simpa using hW
    clear hi
    go_enter Tryz.func87,Tryz.ntmps87
    go_wp2_with (first |(go_at_call 12;refine (q3v _ _ _ _).mono ?_;rintro e w' ⟨rfl,rfl⟩) |(go_at_call 114;refine (q9w _ _ _ _ _ _ _).mono ?_;rintro e' w' ⟨rfl,hb⟩;obtain ⟨hc9,hf9,hz9⟩:=q4v hb;try simp only [World.size_alloc] at hz9 hc9 hf9;try unfold q5f))
    all_goals go_ret
    all_goals exact ⟨q0n (by rw [imgE,if_pos hs.out]),by exact blQ⟩
  · have hW:inB W 1 256=true:=by cases h:inB W 1 256 <;> simp_all
    have hH:inB H 1 256=true:=by cases h:inB H 1 256 <;> simp_all
    have hW':=inB_iff.1 hW
    have hH':=inB_iff.1 hH
    have hs:¬(W<1∨256<W∨H<1∨256<H):=by omega
    clear hi
    have hWH:=q97 (W:=W) (H:=H) (by omega) (by omega)
    go_enter Tryz.func87,Tryz.ntmps87
    go_wp2_with (first |(go_at_call 12;refine (q3v _ _ _ _).mono ?_;rintro e w' ⟨rfl,rfl⟩) |(go_at_call 114;refine (q9w _ _ _ _ _ _ _).mono ?_;rintro e' w' ⟨rfl,hb⟩;obtain ⟨hc9,hf9,hz9⟩:=q4v hb;try simp only [World.size_alloc] at hz9 hc9 hf9;try unfold q5f))
    all_goals go_ret
    all_goals refine ⟨q0n ?_,by exact blQ⟩
    all_goals rw [imgE,if_neg hs]
    all_goals split
    all_goals first
      | rfl
      | (exfalso;simp_all;done)
      | (exfalso;simp_all;omega)
end Go.Proofs.YticolnghiibgfaaGreat
namespace Go.Proofs.YticolnghiibgfaaGreat
def okR:List Run→Prop
  | []=>True
  | r::l=>r.x0<r.x1∧(∀ s∈l,r.y<s.y∨(r.y=s.y∧r.x1<s.x0))∧okR l
def hasR (L:List Run) (x y:Int):Prop:=∃ r∈L,r.y=y∧r.x0≤x∧x<r.x1
theorem q9x {k l:List Run} {x y:Int}:hasR (k++l) x y↔hasR k x y∨hasR l x y:=by
  constructor
  · rintro ⟨r,h,h'⟩
    rcases List.mem_append.1 h with h |h
    · exact .inl ⟨r,h,h'⟩
    · exact .inr ⟨r,h,h'⟩
  · rintro (⟨r,h,h'⟩ |⟨r,h,h'⟩)
    · exact ⟨r,List.mem_append.2 (.inl h),h'⟩
    · exact ⟨r,List.mem_append.2 (.inr h),h'⟩
theorem z06 {r:Run} {x y:Int}:hasR [r] x y↔r.y=y∧r.x0≤x∧x<r.x1:=by simp [hasR]
theorem z9h {x y:Int}:¬ hasR [] x y:=by simp [hasR]
theorem z24 {L:List Run} (h:okR L) {r:Run} (hr:r∈L):r.x0<r.x1:=by
  induction L with
  | nil=>cases hr
  | cons s l ih =>
    rcases List.mem_cons.1 hr with rfl |hr
    · exact h.1
    · exact ih h.2.2 hr
theorem okR_append {k l:List Run}:okR (k++l)↔okR k∧okR l∧∀ r∈k,∀ s∈l,r.y<s.y∨(r.y=s.y∧r.x1<s.x0):=by
  induction k with
  | nil=>simp [okR]
  | cons a k ih =>
    simp only [List.cons_append,okR,ih,List.mem_append,List.mem_cons]
    constructor
    · rintro ⟨h1,h2,h3,h4,h5⟩
      refine ⟨⟨h1,fun s hs=>h2 s (.inl hs),h3⟩,h4,fun r hr s hs=>?_⟩
      rcases hr with rfl |hr
      · exact h2 s (.inr hs)
      · exact h5 r hr s hs
    · rintro ⟨⟨h1,h2,h3⟩,h4,h5⟩
      refine ⟨h1,fun s hs=>?_,h3,h4,fun r hr s hs=>h5 r (.inr hr) s hs⟩
      rcases hs with hs |hs
      · exact h2 s hs
      · exact h5 a (.inl rfl) s hs
def upTo (L:List Run) (y x:Int):Prop:=∀ r∈L,r.y<y∨(r.y=y∧r.x1≤x)
theorem x5a {L:List Run} {y x y' x':Int} (h:upTo L y x) (k:y<y'∨(y=y'∧x≤x')):upTo L y' x':=fun r hr=>by
  have:=h r hr;omega
def addR (L:List Run) (y a b:Int):List Run :=
  if b≤a then L else match L.getLast? with
    | some r=>if r.y=y∧a≤r.x1 then L.dropLast++[⟨y,r.x0,max r.x1 b⟩] else L++[⟨y,a,b⟩]
    | none=>[⟨y,a,b⟩]
theorem x9j {L:List Run} {y a b:Int} (h:b≤a):addR L y a b=L:=by simp [addR,h]
theorem x7s {y a b:Int} (h:¬ b≤a):addR [] y a b=[⟨y,a,b⟩]:=by simp [addR,h]
theorem x5b {L:List Run} {r:Run} {y a b:Int} (h:¬ b≤a) (h1:r.y=y) (h2:a≤r.x1):addR (L++[r]) y a b=L++[⟨y,r.x0,max r.x1 b⟩]:=by simp [addR,h,h1,h2]
theorem x7t {L:List Run} {r:Run} {y a b:Int} (h:¬ b≤a) (h1:¬ (r.y=y∧a≤r.x1)):addR (L++[r]) y a b=L++[r]++[⟨y,a,b⟩]:=by
  unfold addR
  rw [if_neg h]
  have e:(L++[r]).getLast? = some r:=by simp
  rw [e]
  simp only [if_neg h1]
theorem x9k (L:List Run):L=[]∨∃ K r,L=K++[r]:=by
  rcases List.eq_nil_or_concat L with h |⟨K,r,h⟩
  · exact .inl h
  · exact .inr ⟨K,r,by simpa using h⟩
theorem x9l {L:List Run} {y a b:Int} (h:okR L) (hu:upTo L y a) :
    okR (addR L y a b)∧(a<b→upTo (addR L y a b) y b)∧(∀ u v,hasR (addR L y a b) u v↔hasR L u v∨(v=y∧a≤u∧u<b)):=by
  by_cases hb:b≤a
  · rw [x9j hb]
    refine ⟨h,fun h'=>by omega,fun u v=>⟨.inl,?_⟩⟩
    rintro (h' |h')
    · exact h'
    · omega
  · rcases x9k L with rfl |⟨K,r,rfl⟩
    · rw [x7s hb]
      refine ⟨by simp [okR];omega,fun _ s hs=>?_,fun u v=>?_⟩
      · simp at hs;subst hs;simp
      · rw [z06];simp only [z9h,false_or];omega
    · have hr:=hu r (by simp)
      obtain ⟨o1,o2,o3⟩:=okR_append.1 h
      by_cases hj:r.y=y∧a≤r.x1
      · rw [x5b hb hj.1 hj.2]
        have hm:max r.x1 b=b:=by omega
        rw [hm]
        refine ⟨okR_append.2 ⟨o1,?_,fun q hq s hs=>?_⟩,fun _ q hq=>?_,fun u v=>?_⟩
        · simp [okR] at o2 ⊢;omega
        · simp at hs;subst hs
          have:=o3 q hq r (by simp)
          simp only;omega
        · rcases List.mem_append.1 hq with hq |hq
          · have:=o3 q hq r (by simp)
            have:=hu q (by simp [hq])
            omega
          · simp at hq;subst hq;simp
        · rw [q9x,q9x,z06,z06]
          have o4:=o2.1
          simp only
          constructor
          · rintro (h1 |h1)
            · exact .inl (.inl h1)
            · by_cases hx:u<r.x1
              · exact .inl (.inr (by omega))
              · exact .inr (by omega)
          · rintro ((h1 |h1) |h1)
            · exact .inl h1
            · exact .inr (by omega)
            · exact .inr (by omega)
      · rw [x7t hb hj]
        refine ⟨okR_append.2 ⟨h,by simp [okR];omega,fun q hq s hs=>?_⟩,fun _ q hq=>?_,fun u v=>?_⟩
        · simp at hs;subst hs
          simp only
          have hq':=hu q hq
          rcases List.mem_append.1 hq with hq |hq
          · have:=o3 q hq r (by simp)
            have:=o2.1
            omega
          · simp at hq;subst hq
            omega
        · rcases List.mem_append.1 hq with hq |hq
          · have:=hu q hq;omega
          · simp at hq;subst hq;simp
        · rw [q9x (l:=[⟨y,a,b⟩]),z06]
          simp only
          constructor
          · rintro (h1 |h1)
            · exact .inl h1
            · exact .inr (by omega)
          · rintro (h1 |h1)
            · exact .inl h1
            · exact .inr (by omega)
/-! ### Runs in memory as a list -/
def q2i (rs:Nat→Run) (n:Nat):List Run:=(List.range n).map rs
theorem x25 (rs:Nat→Run) (n:Nat):q2i rs (n+1)=q2i rs n++[rs n]:=by
  unfold q2i;rw [List.range_succ,List.map_append];rfl
theorem mem_runsL {rs:Nat→Run} {n:Nat} {r:Run}:r∈q2i rs n↔∃ i,i<n∧rs i=r:=by simp [q2i]
theorem q4z {rs:Nat→Run} {n:Nat} {x y:Int}:hasR (q2i rs n) x y↔∃ i,i<n∧(rs i).y=y∧(rs i).x0≤x∧x<(rs i).x1:=by
  unfold hasR
  constructor
  · rintro ⟨r,hr,h⟩
    obtain ⟨i,hi,rfl⟩:=mem_runsL.1 hr
    exact ⟨i,hi,h⟩
  · rintro ⟨i,hi,h⟩
    exact ⟨_,mem_runsL.2 ⟨i,hi,rfl⟩,h⟩
structure Valid (rs:Nat→Run) (n:Nat):Prop where
  bd:∀ i,i<n→(-8192≤(rs i).y∧(rs i).y≤8191)∧(-8192≤(rs i).x0∧(rs i).x0<(rs i).x1∧(rs i).x1≤8192)
  lt:∀ i j,i<j→j<n→(rs i).y<(rs j).y∨((rs i).y=(rs j).y∧(rs i).x1<(rs j).x0)
theorem z9i {rs:Nat→Run}:∀ {n:Nat},regV rs n=0→∀ k,k<n→q38 rs k=0
  | 0,_,k,hk=>by omega
  | n+1,h,k,hk=>by
    unfold regV at h
    split at h
    · rename_i h1;exact (h1 h).elim
    · rename_i h1
      rcases Nat.lt_or_ge k n with h2 |h2
      · exact z9i (Decidable.not_not.1 h1) k h2
      · have:k=n:=by omega
        subst this;exact h
theorem x0z {rs:Nat→Run} {k:Nat} (h:q38 rs k=0):((-8192≤(rs k).y∧(rs k).y≤8191)∧(-8192≤(rs k).x0∧(rs k).x0<(rs k).x1∧(rs k).x1≤8192))∧(0<k→(rs (k-1)).y<(rs k).y∨((rs (k-1)).y=(rs k).y∧(rs (k-1)).x1<(rs k).x0)):=by
  unfold q38 at h
  split at h
  · omega
  · split at h
    · omega
    · split at h
      · omega
      · refine ⟨by omega,fun hk=>by omega⟩
theorem x7u {rs:Nat→Run} {n:Nat} (h:regV rs n=0):Valid rs n:=by
  have h1:=fun k hk=>x0z (z9i h k hk)
  refine ⟨fun i hi=>(h1 i hi).1,fun i j hij hj=>?_⟩
  induction j with
  | zero=>omega
  | succ j ih =>
    have h2:=(h1 (j+1) hj).2 (by omega)
    simp only [Nat.add_sub_cancel] at h2
    rcases Nat.lt_or_ge i j with h3 |h3
    · have h4:=ih h3 (by omega)
      have h5:=(h1 j (by omega)).1
      omega
    · have:i=j:=by omega
      subst this;exact h2
theorem Valid.ok {rs:Nat→Run}:∀ {n:Nat},Valid rs n→okR (q2i rs n)
  | 0,_=>trivial
  | n+1,h=>by
    rw [x25]
    refine okR_append.2 ⟨Valid.ok ⟨fun i hi=>h.bd i (by omega),fun i j hij hj=>h.lt i j hij (by omega)⟩,?_,fun r hr s hs=>?_⟩
    · have:=(h.bd n (by omega)).2
      simp [okR];omega
    · simp at hs;subst hs
      obtain ⟨i,hi,rfl⟩:=mem_runsL.1 hr
      exact h.lt i n hi (by omega)
/-! ### The edges of a region -/
def q35 (y x y' x':Int):Prop:=y<y'∨(y=y'∧x≤x')
def q6a (y x y' x':Int):Prop:=y<y'∨(y=y'∧x<x')
instance {y x y' x'}:Decidable (q35 y x y' x'):=by unfold q35;infer_instance
instance {y x y' x'}:Decidable (q6a y x y' x'):=by unfold q6a;infer_instance
def eY (rs:Nat→Run) (i:Nat):Int:=(rs (i/2)).y
def eX (rs:Nat→Run) (i:Nat):Int:=if i%2=0 then (rs (i/2)).x0 else (rs (i/2)).x1
theorem z7j {rs:Nat→Run} {n:Nat} (h:Valid rs n) {i:Nat} (hi:i≤2*n) {x y:Int} (h1:∀ k,k<i→q35 (eY rs k) (eX rs k) y x) (h2:∀ k,i≤k→k<2*n→q6a y x (eY rs k) (eX rs k)) :
    hasR (q2i rs n) x y↔i%2=1:=by
  rw [q4z]
  constructor
  · rintro ⟨q,hq,h3,h4,h5⟩
    have g1:¬ i≤2*q:=fun hle=>by
      have:=h2 (2*q) hle (by omega)
      unfold q6a eY eX at this
      rw [show 2*q/2=q by omega,if_pos (by omega)] at this
      omega
    have g2:¬ 2*q+1<i:=fun hle=>by
      have:=h1 (2*q+1) hle
      unfold q35 eY eX at this
      rw [show (2*q+1)/2=q by omega,if_neg (by omega)] at this
      omega
    omega
  · intro ho
    refine ⟨i/2,by omega,?_⟩
    have g1:=h1 (i-1) (by omega)
    have g2:=h2 i (Nat.le_refl _) (by omega)
    unfold q35 eY eX at g1
    unfold q6a eY eX at g2
    rw [show (i-1)/2=i/2 by omega,if_pos (by omega)] at g1
    rw [if_neg (by omega)] at g2
    omega
end Go.Proofs.YticolnghiibgfaaGreat
