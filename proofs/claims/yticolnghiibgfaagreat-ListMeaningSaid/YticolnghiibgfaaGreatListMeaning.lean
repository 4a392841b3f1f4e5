/-
  ListMeaning: the law's walk.
-/
import Derived.Test.YticolnghiibgfaaGreatMrg31
set_option linter.unusedVariables false
set_option linter.unusedSimpArgs false
set_option linter.unnecessarySimpa false
namespace Go.Proofs.YticolnghiibgfaaGreat.listMeaning
open Go.RowKit Go.Deep
set_option maxRecDepth 20000
section
variable {W H x y:Int} {A B:Option Addr} {m sq n iq:Nat} {gs gi:Nat→Nat→Value} {w:World}
set_option maxHeartbeats 8000000 in
theorem body (hm:m≤sq∧sq≤maxLen) (hn:n≤iq∧iq≤maxLen) (hs:SliceG Tryz.prog w 9 A m gs) (hi:SliceG Tryz.prog w 56 B n gi) :
    q40 Tryz.prog tab 0 Tryz.f3 [q2o W H A m sq B n iq,.val (.int .i64 x),.val (.int .i64 y)] [] (q2b w) fun v _ _=>v=.val (.bool true):=by
  obtain ⟨e,h1,h2,h3⟩:=x5n (W:=W) (H:=H) hm hn hs hi
  have hL:=x0y (G:=q2b w)
  have hI:=x1n hi
  clear hs hi
  by_cases he:e=0
  · obtain ⟨hW,hH,hm8,hn5,f,R,ok,ref⟩:=h3 he
    subst he
    clear h3
    by_cases ho:(0≤x∧x<16*W)∧0≤y∧y<16*H
    · have r1:=x5i h1 hI (by omega) hm8 hW hH ok ho.1 ho.2
      have r2:=z7w (W:=W) (H:=H) (SA:=A) (sq:=sq) (iq:=iq) (x:=x) (y:=y) hI (by omega) hm8 ok ref (by omega) (by omega)
      generalize q65 (fun x=>q7i (gi x)) f R n m x y=V at r1 r2
      clear hI ok ref h1
      obtain ⟨⟨x0,x1⟩,y0,y1⟩:=ho
      (repeat ((try (conv=>whnf));(first |(refine stQ ?_) |(with_reducible first |refine q0b (fun vs w=>by kernel_rfl) (by kernel_rfl) (hL) ?_ |refine q0a (fun vs w=>by kernel_rfl) (by kernel_rfl) (hL) ?_ |refine q0b (fun vs w=>by kernel_rfl) (by kernel_rfl) (r1) ?_ |refine q0a (fun vs w=>by kernel_rfl) (by kernel_rfl) (r1) ?_ |refine q0b (fun vs w=>by kernel_rfl) (by kernel_rfl) (h2) ?_ |refine q0a (fun vs w=>by kernel_rfl) (by kernel_rfl) (h2) ?_ |refine q0b (fun vs w=>by kernel_rfl) (by kernel_rfl) (r2) ?_ |refine q0a (fun vs w=>by kernel_rfl) (by kernel_rfl) (r2) ?_ |refine q0g tab_ok Tryz.func12 (fun vs w=>by kernel_rfl) (by rfl) ?_))))
      conv=>whnf
      try simp
    · have r1:=x9j (x:=x) (y:=y) h1 hW hH ho
      clear hI ok ref h1
      by_cases x0:x<0
      · (repeat ((try (conv=>whnf));(first |(refine stQ ?_) |(with_reducible first |refine q0b (fun vs w=>by kernel_rfl) (by kernel_rfl) (hL) ?_ |refine q0a (fun vs w=>by kernel_rfl) (by kernel_rfl) (hL) ?_ |refine q0b (fun vs w=>by kernel_rfl) (by kernel_rfl) (r1) ?_ |refine q0a (fun vs w=>by kernel_rfl) (by kernel_rfl) (r1) ?_ |refine q0b (fun vs w=>by kernel_rfl) (by kernel_rfl) (h2) ?_ |refine q0a (fun vs w=>by kernel_rfl) (by kernel_rfl) (h2) ?_ |refine q0g tab_ok Tryz.func12 (fun vs w=>by kernel_rfl) (by rfl) ?_))))
        conv=>whnf
        try simp
      by_cases x1:x<16*W
      · by_cases y0:y<0
        · (repeat ((try (conv=>whnf));(first |(refine stQ ?_) |(with_reducible first |refine q0b (fun vs w=>by kernel_rfl) (by kernel_rfl) (hL) ?_ |refine q0a (fun vs w=>by kernel_rfl) (by kernel_rfl) (hL) ?_ |refine q0b (fun vs w=>by kernel_rfl) (by kernel_rfl) (r1) ?_ |refine q0a (fun vs w=>by kernel_rfl) (by kernel_rfl) (r1) ?_ |refine q0b (fun vs w=>by kernel_rfl) (by kernel_rfl) (h2) ?_ |refine q0a (fun vs w=>by kernel_rfl) (by kernel_rfl) (h2) ?_ |refine q0g tab_ok Tryz.func12 (fun vs w=>by kernel_rfl) (by rfl) ?_))))
          conv=>whnf
          try simp
        · have y1:16*H≤y:=by omega
          (repeat ((try (conv=>whnf));(first |(refine stQ ?_) |(with_reducible first |refine q0b (fun vs w=>by kernel_rfl) (by kernel_rfl) (hL) ?_ |refine q0a (fun vs w=>by kernel_rfl) (by kernel_rfl) (hL) ?_ |refine q0b (fun vs w=>by kernel_rfl) (by kernel_rfl) (r1) ?_ |refine q0a (fun vs w=>by kernel_rfl) (by kernel_rfl) (r1) ?_ |refine q0b (fun vs w=>by kernel_rfl) (by kernel_rfl) (h2) ?_ |refine q0a (fun vs w=>by kernel_rfl) (by kernel_rfl) (h2) ?_ |refine q0g tab_ok Tryz.func12 (fun vs w=>by kernel_rfl) (by rfl) ?_))))
          conv=>whnf
          try simp
      · (repeat ((try (conv=>whnf));(first |(refine stQ ?_) |(with_reducible first |refine q0b (fun vs w=>by kernel_rfl) (by kernel_rfl) (hL) ?_ |refine q0a (fun vs w=>by kernel_rfl) (by kernel_rfl) (hL) ?_ |refine q0b (fun vs w=>by kernel_rfl) (by kernel_rfl) (r1) ?_ |refine q0a (fun vs w=>by kernel_rfl) (by kernel_rfl) (r1) ?_ |refine q0b (fun vs w=>by kernel_rfl) (by kernel_rfl) (h2) ?_ |refine q0a (fun vs w=>by kernel_rfl) (by kernel_rfl) (h2) ?_ |refine q0g tab_ok Tryz.func12 (fun vs w=>by kernel_rfl) (by rfl) ?_))))
        conv=>whnf
        try simp
  · have r1:=x9i (x:=x) (y:=y) h1 he
    clear hI h1 h3
    (repeat ((try (conv=>whnf));(first |(refine stQ ?_) |(with_reducible first |refine q0b (fun vs w=>by kernel_rfl) (by kernel_rfl) (hL) ?_ |refine q0a (fun vs w=>by kernel_rfl) (by kernel_rfl) (hL) ?_ |refine q0b (fun vs w=>by kernel_rfl) (by kernel_rfl) (r1) ?_ |refine q0a (fun vs w=>by kernel_rfl) (by kernel_rfl) (r1) ?_ |refine q0b (fun vs w=>by kernel_rfl) (by kernel_rfl) (h2) ?_ |refine q0a (fun vs w=>by kernel_rfl) (by kernel_rfl) (h2) ?_ |refine q0g tab_ok Tryz.func12 (fun vs w=>by kernel_rfl) (by rfl) ?_))))
    conv=>whnf
    try simp
end
theorem walk (a0x0:Int) (a0x1:Int) (A0x2:Option Addr) (n0x2:Nat) (q0x2:Nat) (g0x2:Nat→Nat→Value) (A0x3:Option Addr) (n0x3:Nat) (q0x3:Nat) (g0x3:Nat→Nat→Value) (a1:Int) (a2:Int) (w:World) (w0x0:(Lit.int .i64 a0x0).wf=true) (w0x1:(Lit.int .i64 a0x1).wf=true) (c0x2:n0x2≤q0x2) (m0x2:q0x2≤maxLen) (s0x2:SliceG Tryz.prog w 9 A0x2 n0x2 g0x2) (c0x3:n0x3≤q0x3) (m0x3:q0x3≤maxLen) (s0x3:SliceG Tryz.prog w 56 A0x3 n0x3 g0x3) (w1:(Lit.int .i64 a1).wf=true) (w2:(Lit.int .i64 a2).wf=true) :
    Calls Tryz.prog 3 #[.agg #[.int .i64 a0x0,.int .i64 a0x1,.slice A0x2 n0x2 q0x2,.slice A0x3 n0x3 q0x3],.int .i64 a1,.int .i64 a2] w fun e w'=>e=.returned (.bool true)∧Below w.heap.size w w':=by
  refine x83 tab_ok Tryz.func3 ?_ (body (W:=a0x0) (H:=a0x1) (A:=A0x2) (m:=n0x2) (sq:=q0x2) (gs:=g0x2) (B:=A0x3) (n:=n0x3) (iq:=q0x3) (gi:=g0x3) (x:=a1) (y:=a2) ⟨c0x2,m0x2⟩ ⟨c0x3,m0x3⟩ s0x2 s0x3)
  rw [AV.rels]
  refine ⟨_,_,rfl,?_,q4u [.int .i64 a1,.int .i64 a2]⟩
  rw [AV.rel]
  exact ⟨_,rfl,q4u (β:=noName) [.int .i64 a0x0,.int .i64 a0x1,.slice A0x2 n0x2 q0x2,.slice A0x3 n0x3 q0x3]⟩
end Go.Proofs.YticolnghiibgfaaGreat.listMeaning
