/-
  Merged: XVecE, XOutLaw, XMakesF, XGivesV.
-/
import Derived.Test.YtegpkpilfgohhaaGreatMrg8
import Derived.Test.YtegpkpilfgohhaaGreatMrg5
import Derived.Test.YtegpkpilfgohhaaGreatMrg9
import Derived.Test.YtegpkpilfgohhaaGreatChain
set_option linter.unusedVariables false
set_option linter.unusedSimpArgs false
set_option linter.unnecessarySimpa false
namespace Go.Proofs.YtegpkpilfgohhaaGreat
open Go.RowKit
set_option maxRecDepth 20000
section
variable {G:Mem}
theorem q47 {a b:Int} (ha:-4611686018427387904≤a∧a≤4611686018427387904) (hb:1≤b∧b≤4611686018427387904):Gives Tryz.prog 27 [.val (.int .i64 a),.val (.int .i64 b)] G (.val (.int .i64 (near a b))) :=
  Gives.of_calls (args:=[.int .i64 a,.int .i64 b]) fun w _=>(x68 a b w ha hb).mono fun _ _ h=>⟨h.1,h.2 ▸ Below.refl _ _⟩
set_option maxHeartbeats 2000000 in
theorem q4r (x y:Int):Gives Tryz.prog 71 [.val (.int .i64 x),.val (.int .i64 y)] G (ptA x y):=by
  refine q06 tab_ok Tryz.func71 ?_
  (repeat ((try (conv=>whnf));(refine stQ ?_)))
  exact ⟨rfl,rfl⟩
def q0u (x:Int):Prop:=-1000000000000≤x∧x≤1000000000000
set_option maxHeartbeats 2000000 in
theorem q25 {x y u v:Int} (h1:q0u x) (h2:q0u y) (h3:q0u u) (h4:q0u v):Gives Tryz.prog 56 [ptA x y,ptA u v] G (ptA (x+u) (y+v)):=by
  unfold q0u at *
  refine q06 tab_ok Tryz.func56 ?_
  (repeat ((try (conv=>whnf));(first |(refine stQ ?_) |(with_reducible refine q0f tab_ok Tryz.func71 (fun vs w=>by kernel_rfl) (by rfl) ?_))))
  exact ⟨rfl,rfl⟩
set_option maxHeartbeats 2000000 in
theorem z4a {x y u v:Int} (h1:q0u x) (h2:q0u y) (h3:q0u u) (h4:q0u v):Gives Tryz.prog 57 [ptA x y,ptA u v] G (ptA (x-u) (y-v)):=by
  unfold q0u at *
  refine q06 tab_ok Tryz.func57 ?_
  (repeat ((try (conv=>whnf));(first |(refine stQ ?_) |(with_reducible refine q0f tab_ok Tryz.func71 (fun vs w=>by kernel_rfl) (by rfl) ?_))))
  exact ⟨rfl,rfl⟩
set_option maxHeartbeats 2000000 in
theorem x13 {x y k:Int} (h1:q0u x) (h2:q0u y) (hk:k=1∨k=-1):Gives Tryz.prog 75 [ptA x y,.val (.int .i64 k)] G (ptA (k*x) (k*y)):=by
  unfold q0u at *
  refine q06 tab_ok Tryz.func75 ?_
  rcases hk with rfl |rfl
  · (repeat ((try (conv=>whnf));(first |(refine stQ ?_) |(with_reducible refine q0f tab_ok Tryz.func71 (fun vs w=>by kernel_rfl) (by rfl) ?_))))
    exact ⟨rfl,rfl⟩
  · (repeat ((try (conv=>whnf));(first |(refine stQ ?_) |(with_reducible refine q0f tab_ok Tryz.func71 (fun vs w=>by kernel_rfl) (by rfl) ?_))))
    exact ⟨rfl,rfl⟩
set_option maxHeartbeats 2000000 in
theorem q73 {x y u v:Int} (h1:-70000≤x∧x≤70000) (h2:-70000≤y∧y≤70000) (h3:-70000≤u∧u≤70000) (h4:-70000≤v∧v≤70000):Gives Tryz.prog 72 [ptA x y,ptA u v] G (.val (.int .i64 (x*u+y*v))):=by
  have e1:=q04 (a:=x) (b:=u) (A:=70000) (B:=70000) (by omega) (by omega)
  have e2:=q04 (a:=y) (b:=v) (A:=70000) (B:=70000) (by omega) (by omega)
  refine q06 tab_ok Tryz.func72 ?_
  (repeat ((try (conv=>whnf));(refine stQ ?_)))
  exact ⟨rfl,rfl⟩
set_option maxHeartbeats 2000000 in
theorem z4b {x y u v:Int} (h1:-70000≤x∧x≤70000) (h2:-70000≤y∧y≤70000) (h3:-70000≤u∧u≤70000) (h4:-70000≤v∧v≤70000):Gives Tryz.prog 74 [ptA x y,ptA u v] G (.val (.int .i64 (x*v-y*u))):=by
  have e1:=q04 (a:=x) (b:=v) (A:=70000) (B:=70000) (by omega) (by omega)
  have e2:=q04 (a:=y) (b:=u) (A:=70000) (B:=70000) (by omega) (by omega)
  refine q06 tab_ok Tryz.func74 ?_
  (repeat ((try (conv=>whnf));(refine stQ ?_)))
  exact ⟨rfl,rfl⟩
def okP (p:Int × Int):Prop:=(-32767≤p.1∧p.1≤32767)∧(-32767≤p.2∧p.2≤32767)
noncomputable def nrm (w:Int) (p q:Int × Int):Int × Int:=(q7p w (-(q.2-p.2)) (q.1-p.1) (q.2-p.2),q7p w (q.1-p.1) (q.1-p.1) (q.2-p.2))
noncomputable def hln (w:Int) (p q:Int × Int):Int × Int:=(q7p w (q.1-p.1) (q.1-p.1) (q.2-p.2),q7p w (q.2-p.2) (q.1-p.1) (q.2-p.2))
theorem q3b {w:Int} {p q:Int × Int} (hw:1≤w∧w≤1024) (hpq:¬ p=q):1≤sLen (q.1-p.1) (q.2-p.2)∧((-512≤(nrm w p q).1∧(nrm w p q).1≤512)∧(-512≤(nrm w p q).2∧(nrm w p q).2≤512))∧((-512≤(hln w p q).1∧(hln w p q).1≤512)∧(-512≤(hln w p q).2∧(hln w p q).2≤512)):=by
  have hd:¬ (q.1-p.1=0∧q.2-p.2=0):=fun h=>hpq (Prod.ext (by omega) (by omega))
  have h1:=z4u (x:=q.1-p.1) hw hd (.inl rfl)
  have h2:=z4u (x:=q.2-p.2) hw hd (.inr (.inr (.inl rfl)))
  have h3:=z4u (x:=-(q.2-p.2)) hw hd (.inr (.inr (.inr rfl)))
  unfold nrm hln
  exact ⟨h1.1,⟨h3.2,h1.2⟩,h1.2,h2.2⟩
noncomputable abbrev z3o (w:Int) (p q:Int × Int):List Value:=[.int .i64 p.1,.int .i64 p.2,.int .i64 q.1,.int .i64 q.2,.int .i64 (q.1-p.1),.int .i64 (q.2-p.2),.int .i64 (nrm w p q).1,.int .i64 (nrm w p q).2,.int .i64 (hln w p q).1,.int .i64 (hln w p q).2]
theorem z9h {x:Int} (h:-65534≤x∧x≤65534):0≤x*x∧x*x≤4294705156:=by
  have:=q04 (a:=x) (b:=x) (A:=65534) (B:=65534) h h
  have:=z3n x
  omega
theorem x0m {n:Int} (h:0≤n∧n≤4611686018427387904):q4u n≤2147483648:=by
  obtain ⟨h0,h1,h2⟩:=q4c h.1
  rcases Int.lt_or_le 2147483648 (q4u n) with h3 |h3
  · have:=Int.mul_le_mul (show (2147483649:Int)≤q4u n by omega) (show (2147483649:Int)≤q4u n by omega) (by omega) (by omega)
    omega
  · exact h3
set_option maxHeartbeats 4000000 in
theorem z0v {w:Int} {p q:Int × Int} (hw:1≤w∧w≤1024) (hpq:¬ p=q) (hp:okP p) (hq:okP q):Gives Tryz.prog 54 [ptA p.1 p.2,ptA q.1 q.2,.val (.int .i64 w)] G (.agg ((z3o w p q).map .val)):=by
  have hsb:=(q3b hw hpq).1
  unfold okP at hp hq
  have s1:=z9h (x:=q.1-p.1) (by omega)
  have s2:=z9h (x:=q.2-p.2) (by omega)
  have hm:=z4a (G:=G) (x:=q.1) (y:=q.2) (u:=p.1) (v:=p.2) (by unfold q0u;omega) (by unfold q0u;omega) (by unfold q0u;omega) (by unfold q0u;omega)
  have hd:=q73 (G:=G) (x:=q.1-p.1) (y:=q.2-p.2) (u:=q.1-p.1) (v:=q.2-p.2) (by omega) (by omega) (by omega) (by omega)
  have hs:=z5y (G:=G) (n:=1048576*((q.1-p.1)*(q.1-p.1)+(q.2-p.2)*(q.2-p.2))) (by omega)
  have hl:sLen (q.1-p.1) (q.2-p.2)≤2147483648:=x0m (by omega)
  change Gives _ _ _ _ (.val (.int .i64 (sLen (q.1-p.1) (q.2-p.2)))) at hs
  have hN:∀ x:Int,-65534≤x∧x≤65534→(-40000000000≤512*w*x∧512*w*x≤40000000000)∧Gives Tryz.prog 70 [.val (.int .i64 (512*w*x)),.val (.int .i64 (sLen (q.1-p.1) (q.2-p.2)))] G (.val (.int .i64 (q7p w x (q.1-p.1) (q.2-p.2)))):=fun x hx=>by
    have e1:=q04 (a:=512*w) (b:=x) (A:=524288) (B:=65534) (by omega) (by omega)
    exact ⟨by omega,q3d (by omega) (by omega)⟩
  have n1:=hN (0-(q.2-p.2)) (by omega)
  have n2:=hN (q.1-p.1) (by omega)
  have n3:=hN (q.2-p.2) (by omega)
  obtain ⟨b1,g1⟩:=n1
  obtain ⟨b2,g2⟩:=n2
  obtain ⟨b3,g3⟩:=n3
  unfold z3o nrm hln
  rw [← Int.zero_sub (q.2-p.2)]
  clear hN
  refine q06 tab_ok Tryz.func54 ?_
  (repeat ((try (conv=>whnf));(first |(with_reducible refine q0o tab_ok (by kernel_rfl) [0,1,2,3,4,5,6,9,10,11,12,15,16,17,18,20,21,22,23] [7,8,13,14,19,24,25] [26,27] (by decide +kernel) ?_) |((refine q0n (by rfl) ?_ ?_);(· first |exact Mem.le_refl _ |assumption)) |(refine stQ ?_) |(with_reducible first |refine q0b (fun vs w=>by kernel_rfl) (by kernel_rfl) (hm) ?_ |refine q0a (fun vs w=>by kernel_rfl) (by kernel_rfl) (hm) ?_ |refine q0b (fun vs w=>by kernel_rfl) (by kernel_rfl) (hd) ?_ |refine q0a (fun vs w=>by kernel_rfl) (by kernel_rfl) (hd) ?_ |refine q0b (fun vs w=>by kernel_rfl) (by kernel_rfl) (hs) ?_ |refine q0a (fun vs w=>by kernel_rfl) (by kernel_rfl) (hs) ?_ |refine q0f tab_ok Tryz.func73 (fun vs w=>by kernel_rfl) (by rfl) ?_ |refine q0b (fun vs w=>by kernel_rfl) (by kernel_rfl) (g1) ?_ |refine q0a (fun vs w=>by kernel_rfl) (by kernel_rfl) (g1) ?_ |refine q0b (fun vs w=>by kernel_rfl) (by kernel_rfl) (g2) ?_ |refine q0a (fun vs w=>by kernel_rfl) (by kernel_rfl) (g2) ?_ |refine q0b (fun vs w=>by kernel_rfl) (by kernel_rfl) (g3) ?_ |refine q0a (fun vs w=>by kernel_rfl) (by kernel_rfl) (g3) ?_ |refine q0f tab_ok Tryz.func71 (fun vs w=>by kernel_rfl) (by rfl) ?_))))
  exact ⟨rfl,rfl⟩
set_option maxHeartbeats 4000000 in
theorem q34 {w:Int} {p q:Int × Int} (hw:1≤w∧w≤1024) (hpq:¬ p=q) (hp:okP p) (hq:okP q):Gives Tryz.prog 29 [ptA p.1 p.2,ptA q.1 q.2,.val (.int .i64 w)] G (.tup [ptA (nrm w p q).1 (nrm w p q).2,ptA (hln w p q).1 (hln w p q).2]):=by
  have hsb:=(q3b hw hpq).1
  unfold okP at hp hq
  have s1:=z9h (x:=q.1-p.1) (by omega)
  have s2:=z9h (x:=q.2-p.2) (by omega)
  have hs:=x11 (G:=G) (n:=1048576*((q.1-p.1)*(q.1-p.1)+(q.2-p.2)*(q.2-p.2))) (by omega)
  have hl:sLen (q.1-p.1) (q.2-p.2)≤2147483648:=x0m (by omega)
  change Gives _ _ _ _ (.val (.int .i64 (sLen (q.1-p.1) (q.2-p.2)))) at hs
  have hN:∀ x:Int,-65534≤x∧x≤65534→(-40000000000≤512*w*x∧512*w*x≤40000000000)∧Gives Tryz.prog 27 [.val (.int .i64 (512*w*x)),.val (.int .i64 (sLen (q.1-p.1) (q.2-p.2)))] G (.val (.int .i64 (q7p w x (q.1-p.1) (q.2-p.2)))):=fun x hx=>by
    have e1:=q04 (a:=512*w) (b:=x) (A:=524288) (B:=65534) (by omega) (by omega)
    exact ⟨by omega,q47 (by omega) (by omega)⟩
  have n1:=hN (-(q.2-p.2)) (by omega)
  have n2:=hN (q.1-p.1) (by omega)
  have n3:=hN (q.2-p.2) (by omega)
  obtain ⟨b1,g1⟩:=n1
  obtain ⟨b2,g2⟩:=n2
  obtain ⟨b3,g3⟩:=n3
  have e:512*w*-(q.2-p.2)=-512*w*(q.2-p.2):=by rw [Int.mul_neg,Int.neg_mul,Int.neg_mul]
  rw [e] at b1 g1
  unfold nrm hln
  clear hN
  refine q06 tab_ok Tryz.func29 ?_
  (repeat ((try (conv=>whnf));(first |(refine stQ ?_) |(with_reducible first |refine q0b (fun vs w=>by kernel_rfl) (by kernel_rfl) (hs) ?_ |refine q0a (fun vs w=>by kernel_rfl) (by kernel_rfl) (hs) ?_ |refine q0b (fun vs w=>by kernel_rfl) (by kernel_rfl) (g1) ?_ |refine q0a (fun vs w=>by kernel_rfl) (by kernel_rfl) (g1) ?_ |refine q0b (fun vs w=>by kernel_rfl) (by kernel_rfl) (g2) ?_ |refine q0a (fun vs w=>by kernel_rfl) (by kernel_rfl) (g2) ?_ |refine q0b (fun vs w=>by kernel_rfl) (by kernel_rfl) (g3) ?_ |refine q0a (fun vs w=>by kernel_rfl) (by kernel_rfl) (g3) ?_))))
  exact ⟨rfl,rfl⟩
end
end Go.Proofs.YtegpkpilfgohhaaGreat
namespace Go.Proofs.YtegpkpilfgohhaaGreat
structure Sty where
  w:Int
  cap:Int
  join:Int
  lim:Int
structure StyOk (s:Sty):Prop where
  w:1≤s.w∧s.w≤1024
  cap:0≤s.cap∧s.cap≤2
  join:0≤s.join∧s.join≤2
  lim:16≤s.lim∧s.lim≤1024
def mvP (p v:Int × Int) (k:Int):Int × Int:=(p.1+k*v.1,p.2+k*v.2)
def q8r (p q n:Int × Int):List (Int × Int):=[mvP p n 1,mvP q n 1,mvP q n (-1),mvP p n (-1)]
def q2l (u v t:Int × Int):Int:=(v.1-u.1)*(t.2-v.2)-(v.2-u.2)*(t.1-v.1)
def dotV (a b:Int × Int):Int:=a.1*b.1+a.2*b.2
def tipV (n m:Int × Int):Int × Int:=(near (dotV n n*(n.1+m.1)) (dotV n n+dotV n m),near (dotV n n*(n.2+m.2)) (dotV n n+dotV n m))
def q1p (s:Sty) (n m:Int × Int):Prop:=s.join=0∧0<dotV n n+dotV n m∧512*dotV n n≤s.lim*s.lim*(dotV n n+dotV n m)
instance (s:Sty) (n m:Int × Int):Decidable (q1p s n m):=by unfold q1p;infer_instance
def z52 (s:Sty) (u v t n m:Int × Int):Option (List (Int × Int)) :=
  if q2l u v t=0 then none else
    if q1p s n m then some [v,mvP v n (if 0<q2l u v t then -1 else 1),mvP v (tipV n m) (if 0<q2l u v t then -1 else 1),mvP v m (if 0<q2l u v t then -1 else 1)]
    else some [v,mvP v n (if 0<q2l u v t then -1 else 1),mvP v m (if 0<q2l u v t then -1 else 1)]
noncomputable def q4a (s:Sty) (u v t:Int × Int):Option (List (Int × Int)):=z52 s u v t (nrm s.w u v) (nrm s.w v t)
def rnd (P:Nat→Int × Int) (n i:Nat):Int × Int:=P (i%n)
noncomputable def q1z (s:Sty) (P:Nat→Int × Int) (n:Nat):Nat→List (List (Int × Int))
  | 0=>[]
  | k+1=>q1z s P n k++[q8r (rnd P n k) (rnd P n (k+1)) (nrm s.w (rnd P n k) (rnd P n (k+1)))]
noncomputable def q0r (s:Sty) (P:Nat→Int × Int) (n:Nat):Nat→List (List (Int × Int))
  | 0=>[]
  | j+1=>q0r s P n j++(if s.join=1 then [] else (q4a s (rnd P n j) (rnd P n (j+1)) (rnd P n (j+2))).toList)
def q1o (s:Sty) (P:Nat→Int × Int) (n:Nat):Nat→List (Int × Int)
  | 0=>[]
  | j+1=>q1o s P n j++(if s.join=1 then [rnd P n (j+1)] else [])
def capA (a v e:Int × Int) (k:Int):List (Int × Int):=[mvP a v 1,mvP a v (-1),mvP (mvP a v (-1)) e k,mvP (mvP a v 1) e k]
def dotP (p:Int × Int) (h:Int):List (Int × Int):=[(p.1-h,p.2-h),(p.1-h,p.2+h),(p.1+h,p.2+h),(p.1+h,p.2-h)]
noncomputable def q1u (s:Sty) (P:Nat→Int × Int) (n:Nat) (cl:Bool):List (List (Int × Int)) :=
  if n=0 then [] else if n=1 then (if s.cap=2 then [dotP (P 0) (near s.w 2)] else [])
  else q1z s P n (if cl=true then n else n-1)++q0r s P n (if cl=true then n else n-2) ++
    (if cl=false∧s.cap=2 then [capA (P 0) (nrm s.w (P 0) (P 1)) (hln s.w (P 0) (P 1)) (-1),capA (P (n-1)) (nrm s.w (P (n-2)) (P (n-1))) (hln s.w (P (n-2)) (P (n-1))) 1] else [])
def q10 (s:Sty) (P:Nat→Int × Int) (n:Nat) (cl:Bool):List (Int × Int) :=
  if n=0 then [] else if n=1 then (if s.cap=1 then [P 0] else [])
  else q1o s P n (if cl=true then n else n-2)++(if cl=false∧s.cap=1 then [P 0,P (n-1)] else [])
theorem q3g (s:Sty) (P:Nat→Int × Int) (n:Nat):∀ k,(q1z s P n k).length=k
  | 0=>rfl
  | k+1=>by rw [q1z,List.length_append,q3g s P n k];rfl
theorem q3s (s:Sty) (P:Nat→Int × Int) (n:Nat):∀ j,(q0r s P n j).length≤j
  | 0=>Nat.le_refl _
  | j+1=>by
    have:=q3s s P n j
    rw [q0r,List.length_append]
    split
    · simp;omega
    · have:(q4a s (rnd P n j) (rnd P n (j+1)) (rnd P n (j+2))).toList.length≤1:=by cases q4a s (rnd P n j) (rnd P n (j+1)) (rnd P n (j+2)) <;> simp
      omega
theorem q3t (s:Sty) (P:Nat→Int × Int) (n:Nat):∀ j,(q1o s P n j).length≤j
  | 0=>Nat.le_refl _
  | j+1=>by
    have:=q3t s P n j
    rw [q1o,List.length_append]
    split <;> simp <;> omega
theorem z2y {a b:Int × Int} (h1:-512≤a.1∧a.1≤512) (h2:-512≤a.2∧a.2≤512) (h3:-512≤b.1∧b.1≤512) (h4:-512≤b.2∧b.2≤512):-524288≤dotV a b∧dotV a b≤524288:=by
  have e1:=q04 (a:=a.1) (b:=b.1) (A:=512) (B:=512) h1 h3
  have e2:=q04 (a:=a.2) (b:=b.2) (A:=512) (B:=512) h2 h4
  unfold dotV;omega
theorem z0w {n m:Int × Int} (h1:-512≤n.1∧n.1≤512) (h2:-512≤n.2∧n.2≤512) (h3:-512≤m.1∧m.1≤512) (h4:-512≤m.2∧m.2≤512) (hd:0<dotV n n+dotV n m) :
    ((-1000000000≤dotV n n*(n.1+m.1)∧dotV n n*(n.1+m.1)≤1000000000)∧(-1000000000≤dotV n n*(n.2+m.2)∧dotV n n*(n.2+m.2)≤1000000000))∧((-1000000000≤(tipV n m).1∧(tipV n m).1≤1000000000)∧(-1000000000≤(tipV n m).2∧(tipV n m).2≤1000000000)):=by
  have hq:=z2y h1 h2 h1 h2
  have e1:=q04 (a:=dotV n n) (b:=n.1+m.1) (A:=524288) (B:=1024) hq (by omega)
  have e2:=q04 (a:=dotV n n) (b:=n.2+m.2) (A:=524288) (B:=1024) hq (by omega)
  have hk:∀ a:Int,-1000000000≤a→a≤1000000000→-1000000000≤near a (dotV n n+dotV n m)∧near a (dotV n n+dotV n m)≤1000000000:=fun a ha hb=>by
    have:=Int.mul_le_mul_of_nonneg_left (show (1:Int)≤dotV n n+dotV n m by omega) (show (0:Int)≤1000000000 by omega)
    exact z3m (by omega) (by omega) (by omega)
  refine ⟨⟨by omega,by omega⟩,hk _ (by omega) (by omega),hk _ (by omega) (by omega)⟩
end Go.Proofs.YtegpkpilfgohhaaGreat
namespace Go.Proofs.YtegpkpilfgohhaaGreat
open Go.RowKit
def x0n (P:Program) (f:FuncId) (args:List AV) (G:Mem) (wrap:AV→AV) (R:Mem→Option Addr→Nat→Prop):Prop :=
  ∀ (w:World) (vs:Array Value),G.holds w→AV.rels noName args vs.toList→Calls P f vs w fun e w'=>∃ y A n cap G',e=.returned y∧(wrap (.val (.slice A n cap))).rel noName y∧Below w.heap.size w w' ∧
    G.le G'∧G'.holds w'∧(∀ b o,G' b=some o→G b=some o∨w.heap.size≤b)∧n≤cap∧cap≤maxLen∧R G' A n
theorem x5k {P:Program} {T:Tab} (hT:TOk P T) {f:FuncId} {fn:Func} (hfn:P.funcs[f]? = some fn) {args:List AV} {G:Mem} {wrap:AV→AV} (hwr:Wraps wrap) {R:Mem→Option Addr→Nat→Prop} (hn:q6x fn=true)
    (h:q4f P T 0 fn args [] G fun v hp' G1=>(∃ k E sz n xs,v=wrap (.own k)∧nthB hp' k=.own E sz n xs∧∀ G2 A,G1.le G2→FlatM G2 A xs→R G2 A n)∨(v=wrap (.val (.slice none 0 0))∧R G1 none 0)):x0n P f args G wrap R:=by
  intro w vs hG ha
  refine (q5c hT hfn (hp:=[]) h (.inl hn) w G _ w vs (HR.init hG) ha).mono ?_
  rintro e w' ⟨y,β',v',hp',G',h1,_,h2,h3,h4⟩
  rcases h4 with ⟨k,E,sz,n,xs,rfl,hk,hR⟩ |⟨rfl,hR⟩
  · obtain ⟨s,h5,h6⟩:=hwr.back h3
    simp only [AV.rel] at h5
    obtain ⟨A,cap,G2,rfl,hle,hnc,hcm,hF,hr2⟩:=h2.freeze h5.1 hk
    exact ⟨y,A,n,cap,G2,h1,h6,h2.below,Mem.le_trans h2.sub hle,hr2.hold,hr2.grow,hnc,hcm,hR G2 A hle hF⟩
  · obtain ⟨s,h5,h6⟩:=hwr.back h3
    simp only [AV.rel] at h5
    subst h5
    exact ⟨y,none,0,0,G',h1,h6,h2.below,h2.sub,h2.hold,h2.grow,Nat.le_refl _,Nat.zero_le _,hR⟩
theorem x0o {P:Program} {f:FuncId} (hen:∀ vs w,(callFunc f vs).run P w=.ok (.enter f vs) w) {args:List AV} {hp:List Blk} {G:Mem} {K:AV→List Blk→Mem→Prop} {wrap:AV→AV} (hwr:Wraps wrap) {R:Mem→Option Addr→Nat→Prop} (hu:AV.unders 0 args=true)
    (hc:x0n P f args G wrap R) (h:∀ A n cap G',G.le G'→n≤cap→cap≤maxLen→R G' A n→K (wrap (.val (.slice A n cap))) hp G'):CallP P f args hp G K:=by
  refine ⟨hen,fun w0 G0 β w vs hr ha=>(hc w vs hr.hold (q3w hu ha)).mono ?_⟩
  rintro e w' ⟨y,A,n,cap,G',rfl,h2,h3,hle,hh,hg,hnc,hcm,hR⟩
  have hr':=hr.step h3
  have hv:∀ s':Value,(AV.val s').rel β s':=fun s'=>by simp only [AV.rel]
  have hno:∀ b,G b=none→b<w.heap.size→G' b=none:=fun b hb hl=>by
    cases e:G' b with
    | none=>rfl
    | some o =>
      rcases hg b o e with h6 |h6
      · rw [hb] at h6;cases h6
      · omega
  refine ⟨y,β,_,hp,G',rfl,Nm.le_refl _,⟨hr'.below,hh,Mem.le_trans hr.sub hle,fun b o hb=>?_,fun k z hk=>?_,hr'.inj,hr'.wrt⟩,hwr.rel (hv _) h2,h A n cap G' hle hnc hcm hR⟩
  · rcases hg b o hb with h6 |h6
    · exact hr.grow b o h6
    · exact .inr (Nat.le_trans hr.below.size h6)
  · obtain ⟨x,hx1,hx2⟩:=hr.blk k z hk
    obtain ⟨x',hx1',hx2'⟩:=hr'.blk k z hk
    rw [hx1] at hx1';cases hx1'
    refine ⟨x,hx1,?_⟩
    have hlt:∀ b,x.live=true→q0i z=some b→b<w.heap.size:=fun b hl hb=>(hr.lt hk hx1 hl hb).2.1
    cases x with
    | gone=>trivial
    | muts S=>exact hx2'.elim
    | cells t l =>
      obtain ⟨b,c,q1,q2,q3,q4,q5⟩:=hx2'
      exact ⟨b,c,q1,q2,hno b q3 (hlt b rfl (by rw [q1];rfl)),q4,q5⟩
    | own e' sz' n' xs' =>
      exact ⟨hx2'.1,fun b hb=>hno b (hx2'.2 b hb) (hlt b rfl hb)⟩
    | lp i fr st p =>
      obtain ⟨q1,q2,q3,q4⟩:=hx2'
      exact ⟨q1,q2,hno i.l q3 (hlt i.l rfl (by rw [q1];rfl)),q4⟩
    | mp f ks vs =>
      obtain ⟨b,ys,q1,q2,q3,q4⟩:=hx2'
      exact ⟨b,ys,q1,q2,hno b q3 (hlt b rfl (by rw [q1];rfl)),q4⟩
end Go.Proofs.YtegpkpilfgohhaaGreat
namespace Go.Proofs.YtegpkpilfgohhaaGreat
open Go.RowKit
def q4y (P:Program) (f:FuncId) (args:List AV) (G:Mem) (R:AV→Mem→Prop):Prop :=
  ∀ (w:World) (vs:Array Value),G.holds w→AV.rels noName args vs.toList→Calls P f vs w fun e w'=>∃ y v G',e=.returned y∧v.rel noName y∧Below w.heap.size w w' ∧
    G.le G'∧G'.holds w'∧(∀ b o,G' b=some o→G b=some o∨w.heap.size≤b)∧v.under 0=true∧R v G'
theorem z8d {P:Program} {T:Tab} (hT:TOk P T) {f:FuncId} {fn:Func} (hfn:P.funcs[f]? = some fn) {args:List AV} {G:Mem} {R:AV→Mem→Prop} (hn:q6x fn=true)
    (h:q4f P T 0 fn args [] G fun v hp' G1=>v.under 0=true∧R v G1):q4y P f args G R:=by
  intro w vs hG ha
  refine (q5c hT hfn (hp:=[]) h (.inl hn) w G _ w vs (HR.init hG) ha).mono ?_
  rintro e w' ⟨y,β',v',hp',G',h1,_,h2,h3,hb,hR⟩
  exact ⟨y,v',G',h1,q5d hb h3,h2.below,h2.sub,h2.hold,h2.grow,hb,hR⟩
theorem q2d {P:Program} {f:FuncId} (hen:∀ vs w,(callFunc f vs).run P w=.ok (.enter f vs) w) {args:List AV} {hp:List Blk} {G:Mem} {K:AV→List Blk→Mem→Prop} {R:AV→Mem→Prop} (hu:AV.unders 0 args=true)
    (hc:q4y P f args G R) (h:∀ v G',G.le G'→v.under 0=true→R v G'→K v hp G'):CallP P f args hp G K:=by
  refine ⟨hen,fun w0 G0 β w vs hr ha=>(hc w vs hr.hold (q3w hu ha)).mono ?_⟩
  rintro e w' ⟨y,v,G',rfl,h2,h3,hle,hh,hg,hb,hR⟩
  have hr':=hr.step h3
  have hno:∀ b,G b=none→b<w.heap.size→G' b=none:=fun b hb hl=>by
    cases e:G' b with
    | none=>rfl
    | some o =>
      rcases hg b o e with h6 |h6
      · rw [hb] at h6;cases h6
      · omega
  refine ⟨y,β,v,hp,G',rfl,Nm.le_refl _,⟨hr'.below,hh,Mem.le_trans hr.sub hle,fun b o ho=>?_,fun k z hk=>?_,hr'.inj,hr'.wrt⟩,AV.rel_mono (q4o β) _ _ h2,h v G' hle hb hR⟩
  · rcases hg b o ho with h6 |h6
    · exact hr.grow b o h6
    · exact .inr (Nat.le_trans hr.below.size h6)
  · obtain ⟨x,hx1,hx2⟩:=hr.blk k z hk
    obtain ⟨x',hx1',hx2'⟩:=hr'.blk k z hk
    rw [hx1] at hx1';cases hx1'
    refine ⟨x,hx1,?_⟩
    have hlt:∀ b,x.live=true→q0i z=some b→b<w.heap.size:=fun b hl hb=>(hr.lt hk hx1 hl hb).2.1
    cases x with
    | gone=>trivial
    | muts S=>exact hx2'.elim
    | cells t l =>
      obtain ⟨b,c,q1,q2,q3,q4,q5⟩:=hx2'
      exact ⟨b,c,q1,q2,hno b q3 (hlt b rfl (by rw [q1];rfl)),q4,q5⟩
    | own e' sz' n' xs' =>
      exact ⟨hx2'.1,fun b hb=>hno b (hx2'.2 b hb) (hlt b rfl hb)⟩
    | lp i fr st p =>
      obtain ⟨q1,q2,q3,q4⟩:=hx2'
      exact ⟨q1,q2,hno i.l q3 (hlt i.l rfl (by rw [q1];rfl)),q4⟩
    | mp f ks vs =>
      obtain ⟨b,ys,q1,q2,q3,q4⟩:=hx2'
      exact ⟨b,ys,q1,q2,hno b q3 (hlt b rfl (by rw [q1];rfl)),q4⟩
end Go.Proofs.YtegpkpilfgohhaaGreat
