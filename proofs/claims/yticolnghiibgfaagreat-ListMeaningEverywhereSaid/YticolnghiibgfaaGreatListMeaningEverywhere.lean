/-
  ListMeaningEverywhere: the law's walk.
-/
import Derived.Test.YticolnghiibgfaaGreatMrg32
import Derived.Test.YticolnghiibgfaaGreatMrg33
set_option linter.unusedVariables false
set_option linter.unusedSimpArgs false
set_option linter.unnecessarySimpa false
namespace Go.Proofs.YticolnghiibgfaaGreat.listMeaningEverywhere
open Go.RowKit Go.Deep
set_option maxRecDepth 20000
section
variable {W H:Int} {A B:Option Addr} {m sq n iq:Nat} {gs gi:Nat→Nat→Value} {w:World}
theorem x58 {i W H:Int} (hW:W=1∨W=2) (hH:H=1∨H=2) (h0:0≤i) (h1:i<16*H):0≤(i*W).tdiv H∧(i*W).tdiv H<16*W∧-64≤i*W∧i*W≤64:=by
  rcases hW with rfl |rfl <;> rcases hH with rfl |rfl
  all_goals
    rw [Int.tdiv_eq_ediv_of_nonneg (by omega)]
    omega
set_option maxHeartbeats 16000000 in
theorem body (hm:m≤sq∧sq≤maxLen) (hn:n≤iq∧iq≤maxLen) (hs:SliceG Tryz.prog w 9 A m gs) (hi:SliceG Tryz.prog w 56 B n gi) :
    q4h Tryz.prog tab 0 Tryz.f4 [q08 W H A m sq B n iq] [] (q1s w) fun v _ _=>v=.val (.bool true):=by
  obtain ⟨W',H',_,_,_,_,ht⟩:=x99 W H n
  have ht:=ht (q1s w) A B m sq iq hn.1
  have hi:=hi.less (Nat.min_le_left n 12)
  have hnl:min n 12≤n:=Nat.min_le_left n 12
  obtain ⟨e,h1,h2,h3⟩:=z2n (W:=W') (H:=H') hm ⟨Nat.le_trans hnl hn.1,hn.2⟩ hs hi
  have hL:=q90 (G:=q1s w)
  have hI:=z27 hi
  clear hs hi
  generalize hn':min n 12=n' at *
  by_cases he:e=0
  · obtain ⟨hW,hH,hm8,hn5,f,R,ok,ref⟩:=h3 he
    subst he
    have key:∀ x y:Int,(0≤x∧x<16*W')→(0≤y∧y<16*H')→∃ V,Gives Tryz.prog 10 [q08 W' H' A m sq B n' iq,.val (.int .i64 x),.val (.int .i64 y)] (q1s w) (.tup [inA V,.val (.int .i64 0)])∧Gives Tryz.prog 13 [q08 W' H' A m sq B n' iq,.val (.int .i64 x),.val (.int .i64 y)] (q1s w) (inA V):=fun x y hx hy =>
      ⟨_,x0c h1 hI (by omega) hm8 hW hH ok hx hy,z1i hI (by omega) hm8 ok ref (by omega) (by omega)⟩
    clear h3 ok ref hI h1
    have hW2:W'=1∨W'=2:=by omega
    have hH2:H'=1∨H'=2:=by omega
    (repeat ((try (conv=>whnf));(first |(refine stQ ?_) |(with_reducible first |refine q0b (fun vs w=>by kernel_rfl) (by kernel_rfl) (hL) ?_ |refine q0a (fun vs w=>by kernel_rfl) (by kernel_rfl) (hL) ?_ |refine q0b (fun vs w=>by kernel_rfl) (by kernel_rfl) (ht) ?_ |refine q0a (fun vs w=>by kernel_rfl) (by kernel_rfl) (ht) ?_ |refine q0b (fun vs w=>by kernel_rfl) (by kernel_rfl) (h2) ?_ |refine q0a (fun vs w=>by kernel_rfl) (by kernel_rfl) (h2) ?_))))
    conv=>whnf
    refine q0z tab_ok (fun (i:Nat)=>(i:Int)≤16*H') (fun (i:Nat)=>[(3,.val (.int .i64 i))]) (fun i=>[.cells 25 [.val (.int .i64 W'),.val (.int .i64 H'),.val (.slice A m sq),.val (.slice B n' iq)]]) (fun (i:Nat)=>40-i) 0 (by omega) ?_ ?_
    · ((refine q0g ?_);(conv=>whnf);(refine q0j (by rfl) (by rfl) flQ ?_))
      exact q0c (by exact flQ) q0e
    · intro i hi
      by_cases hlt:(i:Int)<16*H'
      · obtain ⟨c1,c2,c3,c4⟩:=x58 hW2 hH2 (Int.natCast_nonneg i) hlt
        obtain ⟨V1,r1,r2⟩:=key _ i ⟨c1,c2⟩ ⟨by omega,hlt⟩
        obtain ⟨V2,r3,r4⟩:=key (16*W'-1-((i:Int)*W').tdiv H') i ⟨by omega,by omega⟩ ⟨by omega,hlt⟩
        have hH0:H'≠0:=by omega
        have hd:-9223372036854775808≤((i:Int)*W').tdiv H'∧((i:Int)*W').tdiv H'≤9223372036854775807:=by omega
        (repeat ((try (conv=>whnf));(refine stQ ?_)))
        conv=>whnf
        (repeat ((try (conv=>whnf));(first |(with_reducible refine q43 tab_ok ?_) |(refine stQ ?_) |(with_reducible first |refine q0b (fun vs w=>by kernel_rfl) (by kernel_rfl) (r1) ?_ |refine q0a (fun vs w=>by kernel_rfl) (by kernel_rfl) (r1) ?_ |refine q0b (fun vs w=>by kernel_rfl) (by kernel_rfl) (r2) ?_ |refine q0a (fun vs w=>by kernel_rfl) (by kernel_rfl) (r2) ?_ |refine q0b (fun vs w=>by kernel_rfl) (by kernel_rfl) (r3) ?_ |refine q0a (fun vs w=>by kernel_rfl) (by kernel_rfl) (r3) ?_ |refine q0b (fun vs w=>by kernel_rfl) (by kernel_rfl) (r4) ?_ |refine q0a (fun vs w=>by kernel_rfl) (by kernel_rfl) (r4) ?_))))
        conv=>whnf
        refine ⟨i+1,by omega,by omega,?_⟩
        ((refine q0g ?_);(conv=>whnf);(refine q0j (by rfl) (by rfl) flQ ?_))
        exact q0c (by exact flQ) q0e
      · (repeat ((try (conv=>whnf));(refine stQ ?_)))
        conv=>whnf
        try simp
  · (repeat ((try (conv=>whnf));(first |(refine stQ ?_) |(with_reducible first |refine q0b (fun vs w=>by kernel_rfl) (by kernel_rfl) (hL) ?_ |refine q0a (fun vs w=>by kernel_rfl) (by kernel_rfl) (hL) ?_ |refine q0b (fun vs w=>by kernel_rfl) (by kernel_rfl) (ht) ?_ |refine q0a (fun vs w=>by kernel_rfl) (by kernel_rfl) (ht) ?_ |refine q0b (fun vs w=>by kernel_rfl) (by kernel_rfl) (h2) ?_ |refine q0a (fun vs w=>by kernel_rfl) (by kernel_rfl) (h2) ?_))))
    conv=>whnf
    try simp
end
theorem walk (a0x0:Int) (a0x1:Int) (A0x2:Option Addr) (n0x2:Nat) (q0x2:Nat) (g0x2:Nat→Nat→Value) (A0x3:Option Addr) (n0x3:Nat) (q0x3:Nat) (g0x3:Nat→Nat→Value) (w:World) (w0x0:(Lit.int .i64 a0x0).wf=true) (w0x1:(Lit.int .i64 a0x1).wf=true) (c0x2:n0x2≤q0x2) (m0x2:q0x2≤maxLen) (s0x2:SliceG Tryz.prog w 9 A0x2 n0x2 g0x2) (c0x3:n0x3≤q0x3) (m0x3:q0x3≤maxLen) (s0x3:SliceG Tryz.prog w 56 A0x3 n0x3 g0x3) :
    Calls Tryz.prog 4 #[.agg #[.int .i64 a0x0,.int .i64 a0x1,.slice A0x2 n0x2 q0x2,.slice A0x3 n0x3 q0x3]] w fun e w'=>e=.returned (.bool true)∧Below w.heap.size w w':=by
  refine z6k tab_ok Tryz.func4 ?_ (body (W:=a0x0) (H:=a0x1) (A:=A0x2) (m:=n0x2) (sq:=q0x2) (gs:=g0x2) (B:=A0x3) (n:=n0x3) (iq:=q0x3) (gi:=g0x3) ⟨c0x2,m0x2⟩ ⟨c0x3,m0x3⟩ s0x2 s0x3)
  rw [AV.rels]
  refine ⟨_,_,rfl,?_,q2l []⟩
  rw [AV.rel]
  exact ⟨_,rfl,q2l (β:=noName) [.int .i64 a0x0,.int .i64 a0x1,.slice A0x2 n0x2 q0x2,.slice A0x3 n0x3 q0x3]⟩
end Go.Proofs.YticolnghiibgfaaGreat.listMeaningEverywhere
