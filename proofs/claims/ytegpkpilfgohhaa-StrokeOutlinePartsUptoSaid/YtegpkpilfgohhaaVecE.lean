/-
  stroke: vectors and sides; the reference's vectors.
-/
import Derived.Test.YtegpkpilfgohhaaMrg9
import Derived.Test.YtegpkpilfgohhaaMrg6
import Derived.Test.YtegpkpilfgohhaaMrg10
import Derived.Test.YtegpkpilfgohhaaChain
set_option linter.unusedVariables false
set_option linter.unusedSimpArgs false
set_option linter.unnecessarySimpa false
namespace Go.Proofs.Ytegpkpilfgohhaa
open Go.RowKit
set_option maxRecDepth 20000
section
variable {G:Mem}
theorem q3x {a b:Int} (ha:-4611686018427387904≤a∧a≤4611686018427387904) (hb:1≤b∧b≤4611686018427387904):Gives Try.prog 33 [.val (.int .i64 a),.val (.int .i64 b)] G (.val (.int .i64 (near a b))) :=
  Gives.of_calls (args:=[.int .i64 a,.int .i64 b]) fun w _=>(z95 a b w ha hb).mono fun _ _ h=>⟨h.1,h.2 ▸ Below.refl _ _⟩
set_option maxHeartbeats 2000000 in
theorem q3o (x y:Int):Gives Try.prog 77 [.val (.int .i64 x),.val (.int .i64 y)] G (ptA x y):=by
  refine q1e tab_ok Try.func77 ?_
  (repeat ((try (conv=>whnf));(refine stQ ?_)))
  exact ⟨rfl,rfl⟩
def q0o (x:Int):Prop:=-1000000000000≤x∧x≤1000000000000
set_option maxHeartbeats 2000000 in
theorem q2g {x y u v:Int} (h1:q0o x) (h2:q0o y) (h3:q0o u) (h4:q0o v):Gives Try.prog 66 [ptA x y,ptA u v] G (ptA (x+u) (y+v)):=by
  unfold q0o at *
  refine q1e tab_ok Try.func66 ?_
  (repeat ((try (conv=>whnf));(first |(refine stQ ?_) |(with_reducible refine q0e tab_ok Try.func77 (fun vs w=>by kernel_rfl) (by rfl) ?_))))
  exact ⟨rfl,rfl⟩
set_option maxHeartbeats 2000000 in
theorem z0k {x y u v:Int} (h1:q0o x) (h2:q0o y) (h3:q0o u) (h4:q0o v):Gives Try.prog 67 [ptA x y,ptA u v] G (ptA (x-u) (y-v)):=by
  unfold q0o at *
  refine q1e tab_ok Try.func67 ?_
  (repeat ((try (conv=>whnf));(first |(refine stQ ?_) |(with_reducible refine q0e tab_ok Try.func77 (fun vs w=>by kernel_rfl) (by rfl) ?_))))
  exact ⟨rfl,rfl⟩
set_option maxHeartbeats 2000000 in
theorem z57 {x y k:Int} (h1:q0o x) (h2:q0o y) (hk:k=1∨k=-1):Gives Try.prog 82 [ptA x y,.val (.int .i64 k)] G (ptA (k*x) (k*y)):=by
  unfold q0o at *
  refine q1e tab_ok Try.func82 ?_
  rcases hk with rfl |rfl
  · (repeat ((try (conv=>whnf));(first |(refine stQ ?_) |(with_reducible refine q0e tab_ok Try.func77 (fun vs w=>by kernel_rfl) (by rfl) ?_))))
    exact ⟨rfl,rfl⟩
  · (repeat ((try (conv=>whnf));(first |(refine stQ ?_) |(with_reducible refine q0e tab_ok Try.func77 (fun vs w=>by kernel_rfl) (by rfl) ?_))))
    exact ⟨rfl,rfl⟩
set_option maxHeartbeats 2000000 in
theorem q5w {x y u v:Int} (h1:-70000≤x∧x≤70000) (h2:-70000≤y∧y≤70000) (h3:-70000≤u∧u≤70000) (h4:-70000≤v∧v≤70000):Gives Try.prog 79 [ptA x y,ptA u v] G (.val (.int .i64 (x*u+y*v))):=by
  have e1:=q1g (a:=x) (b:=u) (A:=70000) (B:=70000) (by omega) (by omega)
  have e2:=q1g (a:=y) (b:=v) (A:=70000) (B:=70000) (by omega) (by omega)
  refine q1e tab_ok Try.func79 ?_
  (repeat ((try (conv=>whnf));(refine stQ ?_)))
  exact ⟨rfl,rfl⟩
set_option maxHeartbeats 2000000 in
theorem z0l {x y u v:Int} (h1:-70000≤x∧x≤70000) (h2:-70000≤y∧y≤70000) (h3:-70000≤u∧u≤70000) (h4:-70000≤v∧v≤70000):Gives Try.prog 81 [ptA x y,ptA u v] G (.val (.int .i64 (x*v-y*u))):=by
  have e1:=q1g (a:=x) (b:=v) (A:=70000) (B:=70000) (by omega) (by omega)
  have e2:=q1g (a:=y) (b:=u) (A:=70000) (B:=70000) (by omega) (by omega)
  refine q1e tab_ok Try.func81 ?_
  (repeat ((try (conv=>whnf));(refine stQ ?_)))
  exact ⟨rfl,rfl⟩
def okP (p:Int × Int):Prop:=(-32767≤p.1∧p.1≤32767)∧(-32767≤p.2∧p.2≤32767)
noncomputable def nrm (w:Int) (p q:Int × Int):Int × Int:=(q5k w (-(q.2-p.2)) (q.1-p.1) (q.2-p.2),q5k w (q.1-p.1) (q.1-p.1) (q.2-p.2))
noncomputable def hln (w:Int) (p q:Int × Int):Int × Int:=(q5k w (q.1-p.1) (q.1-p.1) (q.2-p.2),q5k w (q.2-p.2) (q.1-p.1) (q.2-p.2))
theorem q2k {w:Int} {p q:Int × Int} (hw:1≤w∧w≤1024) (hpq:¬ p=q):1≤sLen (q.1-p.1) (q.2-p.2)∧((-512≤(nrm w p q).1∧(nrm w p q).1≤512)∧(-512≤(nrm w p q).2∧(nrm w p q).2≤512))∧((-512≤(hln w p q).1∧(hln w p q).1≤512)∧(-512≤(hln w p q).2∧(hln w p q).2≤512)):=by
  have hd:¬ (q.1-p.1=0∧q.2-p.2=0):=fun h=>hpq (Prod.ext (by omega) (by omega))
  have h1:=z00 (x:=q.1-p.1) hw hd (.inl rfl)
  have h2:=z00 (x:=q.2-p.2) hw hd (.inr (.inr (.inl rfl)))
  have h3:=z00 (x:=-(q.2-p.2)) hw hd (.inr (.inr (.inr rfl)))
  unfold nrm hln
  exact ⟨h1.1,⟨h3.2,h1.2⟩,h1.2,h2.2⟩
noncomputable abbrev q96 (w:Int) (p q:Int × Int):List Value:=[.int .i64 p.1,.int .i64 p.2,.int .i64 q.1,.int .i64 q.2,.int .i64 (q.1-p.1),.int .i64 (q.2-p.2),.int .i64 (nrm w p q).1,.int .i64 (nrm w p q).2,.int .i64 (hln w p q).1,.int .i64 (hln w p q).2]
theorem z4d {x:Int} (h:-65534≤x∧x≤65534):0≤x*x∧x*x≤4294705156:=by
  have:=q1g (a:=x) (b:=x) (A:=65534) (B:=65534) h h
  have:=z7q x
  omega
theorem z83 {n:Int} (h:0≤n∧n≤4611686018427387904):q7d n≤2147483648:=by
  obtain ⟨h0,h1,h2⟩:=q6t h.1
  rcases Int.lt_or_le 2147483648 (q7d n) with h3 |h3
  · have:=Int.mul_le_mul (show (2147483649:Int)≤q7d n by omega) (show (2147483649:Int)≤q7d n by omega) (by omega) (by omega)
    omega
  · exact h3
set_option maxHeartbeats 4000000 in
theorem q7y {w:Int} {p q:Int × Int} (hw:1≤w∧w≤1024) (hpq:¬ p=q) (hp:okP p) (hq:okP q):Gives Try.prog 64 [ptA p.1 p.2,ptA q.1 q.2,.val (.int .i64 w)] G (.agg ((q96 w p q).map .val)):=by
  have hsb:=(q2k hw hpq).1
  unfold okP at hp hq
  have s1:=z4d (x:=q.1-p.1) (by omega)
  have s2:=z4d (x:=q.2-p.2) (by omega)
  have hm:=z0k (G:=G) (x:=q.1) (y:=q.2) (u:=p.1) (v:=p.2) (by unfold q0o;omega) (by unfold q0o;omega) (by unfold q0o;omega) (by unfold q0o;omega)
  have hd:=q5w (G:=G) (x:=q.1-p.1) (y:=q.2-p.2) (u:=q.1-p.1) (v:=q.2-p.2) (by omega) (by omega) (by omega) (by omega)
  have hs:=z7p (G:=G) (n:=1048576*((q.1-p.1)*(q.1-p.1)+(q.2-p.2)*(q.2-p.2))) (by omega)
  have hl:sLen (q.1-p.1) (q.2-p.2)≤2147483648:=z83 (by omega)
  change Gives _ _ _ _ (.val (.int .i64 (sLen (q.1-p.1) (q.2-p.2)))) at hs
  have hN:∀ x:Int,-65534≤x∧x≤65534→(-40000000000≤512*w*x∧512*w*x≤40000000000)∧Gives Try.prog 76 [.val (.int .i64 (512*w*x)),.val (.int .i64 (sLen (q.1-p.1) (q.2-p.2)))] G (.val (.int .i64 (q5k w x (q.1-p.1) (q.2-p.2)))):=fun x hx=>by
    have e1:=q1g (a:=512*w) (b:=x) (A:=524288) (B:=65534) (by omega) (by omega)
    exact ⟨by omega,q2m (by omega) (by omega)⟩
  have n1:=hN (0-(q.2-p.2)) (by omega)
  have n2:=hN (q.1-p.1) (by omega)
  have n3:=hN (q.2-p.2) (by omega)
  obtain ⟨b1,g1⟩:=n1
  obtain ⟨b2,g2⟩:=n2
  obtain ⟨b3,g3⟩:=n3
  unfold q96 nrm hln
  rw [← Int.zero_sub (q.2-p.2)]
  clear hN
  refine q1e tab_ok Try.func64 ?_
  (repeat ((try (conv=>whnf));(first |(with_reducible refine q0j tab_ok (by kernel_rfl) [0,1,2,3,4,5,6,9,10,11,12,15,16,17,18,20,21,22,23] [7,8,13,14,19,24,25] [26,27] (by decide +kernel) ?_) |((refine q0l (by rfl) ?_ ?_);(· first |exact Mem.le_refl _ |assumption)) |(refine stQ ?_) |(with_reducible first |refine q0b (fun vs w=>by kernel_rfl) (by kernel_rfl) (hm) ?_ |refine q0a (fun vs w=>by kernel_rfl) (by kernel_rfl) (hm) ?_ |refine q0b (fun vs w=>by kernel_rfl) (by kernel_rfl) (hd) ?_ |refine q0a (fun vs w=>by kernel_rfl) (by kernel_rfl) (hd) ?_ |refine q0b (fun vs w=>by kernel_rfl) (by kernel_rfl) (hs) ?_ |refine q0a (fun vs w=>by kernel_rfl) (by kernel_rfl) (hs) ?_ |refine q0e tab_ok Try.func80 (fun vs w=>by kernel_rfl) (by rfl) ?_ |refine q0b (fun vs w=>by kernel_rfl) (by kernel_rfl) (g1) ?_ |refine q0a (fun vs w=>by kernel_rfl) (by kernel_rfl) (g1) ?_ |refine q0b (fun vs w=>by kernel_rfl) (by kernel_rfl) (g2) ?_ |refine q0a (fun vs w=>by kernel_rfl) (by kernel_rfl) (g2) ?_ |refine q0b (fun vs w=>by kernel_rfl) (by kernel_rfl) (g3) ?_ |refine q0a (fun vs w=>by kernel_rfl) (by kernel_rfl) (g3) ?_ |refine q0e tab_ok Try.func77 (fun vs w=>by kernel_rfl) (by rfl) ?_))))
  exact ⟨rfl,rfl⟩
set_option maxHeartbeats 4000000 in
theorem q27 {w:Int} {p q:Int × Int} (hw:1≤w∧w≤1024) (hpq:¬ p=q) (hp:okP p) (hq:okP q):Gives Try.prog 35 [ptA p.1 p.2,ptA q.1 q.2,.val (.int .i64 w)] G (.tup [ptA (nrm w p q).1 (nrm w p q).2,ptA (hln w p q).1 (hln w p q).2]):=by
  have hsb:=(q2k hw hpq).1
  unfold okP at hp hq
  have s1:=z4d (x:=q.1-p.1) (by omega)
  have s2:=z4d (x:=q.2-p.2) (by omega)
  have hs:=z55 (G:=G) (n:=1048576*((q.1-p.1)*(q.1-p.1)+(q.2-p.2)*(q.2-p.2))) (by omega)
  have hl:sLen (q.1-p.1) (q.2-p.2)≤2147483648:=z83 (by omega)
  change Gives _ _ _ _ (.val (.int .i64 (sLen (q.1-p.1) (q.2-p.2)))) at hs
  have hN:∀ x:Int,-65534≤x∧x≤65534→(-40000000000≤512*w*x∧512*w*x≤40000000000)∧Gives Try.prog 33 [.val (.int .i64 (512*w*x)),.val (.int .i64 (sLen (q.1-p.1) (q.2-p.2)))] G (.val (.int .i64 (q5k w x (q.1-p.1) (q.2-p.2)))):=fun x hx=>by
    have e1:=q1g (a:=512*w) (b:=x) (A:=524288) (B:=65534) (by omega) (by omega)
    exact ⟨by omega,q3x (by omega) (by omega)⟩
  have n1:=hN (-(q.2-p.2)) (by omega)
  have n2:=hN (q.1-p.1) (by omega)
  have n3:=hN (q.2-p.2) (by omega)
  obtain ⟨b1,g1⟩:=n1
  obtain ⟨b2,g2⟩:=n2
  obtain ⟨b3,g3⟩:=n3
  have e:512*w*-(q.2-p.2)=-512*w*(q.2-p.2):=by rw [Int.mul_neg,Int.neg_mul,Int.neg_mul]
  rw [e] at b1 g1
  unfold nrm hln
  clear hN
  refine q1e tab_ok Try.func35 ?_
  (repeat ((try (conv=>whnf));(first |(refine stQ ?_) |(with_reducible first |refine q0b (fun vs w=>by kernel_rfl) (by kernel_rfl) (hs) ?_ |refine q0a (fun vs w=>by kernel_rfl) (by kernel_rfl) (hs) ?_ |refine q0b (fun vs w=>by kernel_rfl) (by kernel_rfl) (g1) ?_ |refine q0a (fun vs w=>by kernel_rfl) (by kernel_rfl) (g1) ?_ |refine q0b (fun vs w=>by kernel_rfl) (by kernel_rfl) (g2) ?_ |refine q0a (fun vs w=>by kernel_rfl) (by kernel_rfl) (g2) ?_ |refine q0b (fun vs w=>by kernel_rfl) (by kernel_rfl) (g3) ?_ |refine q0a (fun vs w=>by kernel_rfl) (by kernel_rfl) (g3) ?_))))
  exact ⟨rfl,rfl⟩
end
end Go.Proofs.Ytegpkpilfgohhaa
