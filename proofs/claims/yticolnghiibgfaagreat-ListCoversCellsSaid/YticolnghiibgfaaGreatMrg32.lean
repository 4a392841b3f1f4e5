/-
  Merged: XListOk, XListOk2, XListOk3, XWhole, XSpot.
-/
import Derived.Test.YticolnghiibgfaaGreatMrg31
import Derived.Test.YticolnghiibgfaaGreatMrg26
import Derived.Test.YticolnghiibgfaaGreatMrg19
import Derived.Test.YticolnghiibgfaaGreatMrg23
import Derived.Test.YticolnghiibgfaaGreatMrg25
import Derived.Test.YticolnghiibgfaaGreatMrg30
set_option linter.unusedVariables false
set_option linter.unusedSimpArgs false
set_option linter.unnecessarySimpa false
namespace Go.Proofs.YticolnghiibgfaaGreat
open Go.RowKit
theorem z7z {e:Nat→Int}:∀ {n:Nat},q17 e n=0→∀ k,k<n→e k=0
  | 0,_,k,hk=>by omega
  | n+1,h,k,hk=>by
    unfold q17 at h
    split at h
    · rename_i h0
      rcases Nat.lt_or_ge k n with h1 |h1
      · exact z7z h0 k h1
      · obtain rfl:k=n:=by omega
        exact h
    · rename_i h0
      exact absurd h h0
theorem x8a {K:Int} {rn:Nat} {nos:Bool} {al bl:Int} {ov iso kn:Bool} {o rE sE:Int} (h:q23 K rn nos al bl ov iso kn o rE sE=0) :
    (K=0∨K=1∨K=2)∧(K=2→o≠0)∧(K=1→o<16)∧(0≤bl∧bl≤11)∧(K=0→rE=0∧sE=0):=by
  unfold q23 at h
  split at h
  · omega
  · rename_i h1
    split at h
    · omega
    · split at h
      · omega
      · rename_i h3
        split at h
        · omega
        · rename_i h4
          split at h
          · omega
          · rename_i h5
            refine ⟨by omega,fun h6 h7=>h3 ⟨h6,h7⟩,fun h6=>Int.not_le.1 fun h7=>h4 ⟨h6,h7⟩,by omega,fun h6=>?_⟩
            rw [if_neg (by omega)] at h
            split at h
            · rename_i h7;exact absurd h h7
            · rename_i h7;exact ⟨Classical.not_not.1 h7,h⟩
theorem x16 {K:Nat→Int} {n:Nat} (hK:∀ k,k<n→K k=0∨K k=1∨K k=2) (hd:∀ k,k<n→K k=2→q0p K k≠0):∀ k,k≤n→((zst K k).length:Int)=q0p K k+1∧0≤q0p K k
  | 0,_=>⟨by simp [zst,q0p],by simp [q0p]⟩
  | k+1,hk=>by
    obtain ⟨ih1,ih2⟩:=x16 hK hd k (by omega)
    have h1:=hK k (by omega)
    have h2:=hd k (by omega)
    show ((q48 k (K k) (zst K k)).length:Int)=q0p K (k+1)+1∧0≤q0p K (k+1)
    have e:q0p K (k+1)=q0p K k+(if K k=1 then 1 else if K k=2 then -1 else 0):=rfl
    rw [e]
    generalize zst K k=s at *
    match s,ih1 with
    | [],ih1=>simp at ih1;omega
    | [(i,ms)],ih1 =>
      simp at ih1
      unfold q48
      rcases h1 with h1 |h1 |h1
      · simp [h1];omega
      · simp [h1];omega
      · exact absurd (by omega) (h2 h1)
    | (i,ms)::(j,ms')::r,ih1 =>
      simp at ih1
      unfold q48
      rcases h1 with h1 |h1 |h1
      · simp [h1];omega
      · simp [h1];omega
      · simp [h1];omega
end Go.Proofs.YticolnghiibgfaaGreat
namespace Go.Proofs.YticolnghiibgfaaGreat
open Go.RowKit
set_option maxRecDepth 20000
open Go.Proofs.YticolnghiibgfaaGreat.gradientRamps Go.Proofs.YticolnghiibgfaaGreat.gradientPlaces Go.Proofs.YticolnghiibgfaaGreat.imageCells
theorem z4c {L:List Run} (h:errL L=0):ValidL L:=by
  exact x9s h
section
variable {G:Mem}
structure RegE (G:Mem) (RA:Option Addr) (rn rq:Nat) (rE:Int) (L:List Run):Prop where
  prog:Gives Tryz.prog 45 [.val (.slice RA rn rq)] G (.val (.int .i64 rE))
  ref:Gives Tryz.prog 29 [.val (.slice RA rn rq)] G (.val (.int .i64 rE))
  runs:RunsM G RA L
  len:rn=L.length
  ok:rE=0→ValidL L
structure SrcE (G:Mem) (i:ItemD) (m:Nat) (sE:Int) (fi:SrcF):Prop where
  prog:Gives Tryz.prog 76 [q2t i,.val (.int .i64 m)] G (.val (.int .i64 sE))
  ref:Gives Tryz.prog 57 [q2t i,.val (.int .i64 m)] G (.val (.int .i64 sE))
  ok:sE=0→SrcBoth G i fi
theorem v07 {RA:Option Addr} {rn rq:Nat} {L:List Run} (h:RunsM G RA L) (hl:rn=L.length) (h1:rn≤rq) (h2:rq≤maxLen):RegE G RA rn rq (errL L) L:=by
  subst hl
  exact ⟨_root_.Go.Proofs.YticolnghiibgfaaGreat.Check_gives h h1 h2,_root_.Go.Proofs.YticolnghiibgfaaGreat.RCheck_gives h h1 h2,h,rfl,z4c⟩
theorem x8b {k:Int} {z p:Bool} {fx fy tx ty r st:Int} (h:q2p k (z&&p) fx fy tx ty r st=0):p=true∧st=0:=by
  unfold q2p at h
  cases p
  · rw [Bool.and_false] at h
    simp at h
    split at h
    · omega
    · split at h <;> omega
  · refine ⟨rfl,?_⟩
    split at h
    · split at h
      · omega
      · split at h
        · omega
        · split at h
          · omega
          · split at h
            · omega
            · exact h
    · split at h
      · split at h
        · omega
        · split at h
          · omega
          · split at h
            · omega
            · exact h
      · omega
theorem v0x {k:Int} {z1 ii fw sg pg:Bool} {fx fy tx ty r l:Int} {n pn sn:Nat} {W H a b c d e f:Int} {s t:Bool} {P:Nat→Int} (he:srcM k (q28 fx fy tx ty r n) (q1d W H pn sn a b c d e f s t) ii fw sg pg (q2p k (z1&&q1d W H pn sn a b c d e f s t) fx fy tx ty r (q1e P n)) (imgE W H pn sn l)=0):n≤1000000000∧pn≤1000000000∧sn≤1000000000:=by
  have pl:q1d W H pn sn a b c d e f s t=true→pn=0∧sn=0:=fun h=>by
    unfold q1d at h;simp at h;omega
  have zl:q28 fx fy tx ty r n=true→n=0:=fun h=>by
    unfold q28 at h;simp at h;omega
  unfold srcM at he
  split at he
  · split at he
    · rename_i h
      have:=zl h.1;have:=pl h.2.1;omega
    · omega
  · split at he
    · split at he
      · rename_i h
        obtain ⟨h1,h2⟩:=x8b h
        have:=pl h1
        have:=(q4y h2).1
        omega
      · exact absurd he ‹_›
    · split at he
      · split at he
        · split at he
          · rename_i h1 h2
            have:=zl h1.1
            obtain ⟨hw,hh,hn,hm⟩:=(x11 h2).1
            have:=q97 hw hh
            omega
          · exact absurd he ‹_›
        · omega
      · omega
theorem v08 {i:ItemD} {m:Nat} {gs gp gf:Nat→Nat→Value} (hm:1≤m∧m≤8) (h0:∃ G0 A q B pq C sq,SrcG G0 (setS i A q B pq C sq) gs gp gf) :
    ∃ sE fi,(sE=0→i.n≤1000000000∧i.pn≤1000000000∧i.sn≤1000000000)∧∀ (G:Mem) (A:Option Addr) (q:Nat) (B:Option Addr) (pq:Nat) (C:Option Addr) (sq:Nat),SrcG G (setS i A q B pq C sq) gs gp gf→SrcE G (setS i A q B pq C sq) m sE fi:=by
  obtain ⟨G0,A0,q0,B0,pq0,C0,sq0,⟨_,_,hs,_⟩,⟨_,_,hp,_⟩,⟨_,_,hf,_⟩,hi2⟩:=h0
  have hi:∀ j,j<8→0≤i.I j:=fun j hj=>(hi2 j hj).1
  obtain ⟨w1,A1,k1⟩:=id hs
  obtain ⟨w2,A2,k2⟩:=id hp
  have m1:∀ z,z≤maxLen→z≤9223372036854775807:=fun z hz=>hz
  have key:∃ sE,(∀ (G:Mem) (A:Option Addr) (q:Nat) (B:Option Addr) (pq:Nat) (C:Option Addr) (sq:Nat),SrcG G (setS i A q B pq C sq) gs gp gf→Gives Tryz.prog 76 [q2t (setS i A q B pq C sq),.val (.int .i64 m)] G (.val (.int .i64 sE))∧Gives Tryz.prog 57 [q2t (setS i A q B pq C sq),.val (.int .i64 m)] G (.val (.int .i64 sE))) ∧
      (sE=0→(i.n≤1000000000∧i.pn≤1000000000∧i.sn≤1000000000)∧∃ fi,∀ (G:Mem) (A:Option Addr) (q:Nat) (B:Option Addr) (pq:Nat) (C:Option Addr) (sq:Nat),SrcG G (setS i A q B pq C sq) gs gp gf→SrcBoth G (setS i A q B pq C sq) fi) :=
    ⟨_, fun G A q B pq C sq h=>⟨Gives.worlds fun w hw=>z2c (k:=i.k) (I:=i.I) (fx:=i.fx) (fy:=i.fy) (tx:=i.tx) (ty:=i.ty) (r:=i.r) (A:=A) (n:=i.n) (q:=q) (W:=i.W) (H:=i.H) (B:=B) (pn:=i.pn) (pq:=pq) (C:=C) (sn:=i.sn) (sq:=sq) (a:=i.a) (b:=i.b) (c:=i.c) (d:=i.d) (e:=i.e) (f:=i.f) (s:=i.s) (t:=i.t) (m:=m) hm (gradientPlaces.Check_gives ⟨h.stop.1,h.stop.2.1⟩ (q8f h.stop.2.2 hw)) z9r (v0r (q8f h.stop.2.2 hw)) (x8t (x52 h.pix.2.2 hw)) (m1 _ (Nat.le_trans h.stop.1 h.stop.2.1)) (m1 _ (Nat.le_trans h.pix.1 h.pix.2.1)),
      Gives.worlds fun w hw=>z2d (k:=i.k) (I:=i.I) (fx:=i.fx) (fy:=i.fy) (tx:=i.tx) (ty:=i.ty) (r:=i.r) (A:=A) (n:=i.n) (q:=q) (W:=i.W) (H:=i.H) (B:=B) (pn:=i.pn) (pq:=pq) (C:=C) (sn:=i.sn) (sq:=sq) (a:=i.a) (b:=i.b) (c:=i.c) (d:=i.d) (e:=i.e) (f:=i.f) (s:=i.s) (t:=i.t) (m:=m) hm hi (fun x hx j hj=>(q8c (k1.int (j:=j+1) (by kernel_rfl) hx (z23 hj)).2).1) (fun x hx j hj=>(q8c (k2.int (j:=j) (by kernel_rfl) hx (z6l hj)).2).1) (gradientPlaces.RCheck_gives ⟨h.stop.1,h.stop.2.1⟩ (q8f h.stop.2.2 hw)) z74 z2e (v0s (q8f h.stop.2.2 hw)) (x8t (x52 h.pix.2.2 hw)) (m1 _ (Nat.le_trans h.stop.1 h.stop.2.1)) (m1 _ (Nat.le_trans h.pix.1 h.pix.2.1))⟩,
      fun he=>⟨v0x he,v0w hi2 hs hp hf he⟩⟩
  obtain ⟨sE,e1,e2⟩:=key
  by_cases h0:sE=0
  · obtain ⟨hbd,fi,hfi⟩:=e2 h0
    exact ⟨sE,fi,fun _=>hbd,fun G A q B pq C sq h=>⟨(e1 G A q B pq C sq h).1,(e1 G A q B pq C sq h).2,fun _=>hfi G A q B pq C sq h⟩⟩
  · exact ⟨sE,fun _ _=>(fun _=>0,0),fun e=>absurd e h0,fun G A q B pq C sq h=>⟨(e1 G A q B pq C sq h).1,(e1 G A q B pq C sq h).2,fun e=>absurd e h0⟩⟩
theorem z5u {i:ItemD} {m:Nat} {rE sE:Int} {L:List Run} {fi:SrcF} (ha:0≤i.al) (hr:RegE G i.RA i.rn i.rq rE L) (hs:SrcE G i m sE fi) {o:Int} (ho:0≤o∧o≤16) :
    Gives Tryz.prog 52 [q75 i,.val (.int .i64 m),.val (.int .i64 o)] G (.val (.int .i64 (q23 i.K i.rn i.nos i.al i.bl i.ov i.iso i.kn o rE sE))) ∧
    Gives Tryz.prog 37 [q75 i,.val (.int .i64 m),.val (.int .i64 o)] G (.val (.int .i64 (q23 i.K i.rn i.nos i.al i.bl i.ov i.iso i.kn o rE sE))) :=
  ⟨q30 hr.prog hs.prog,z5j ha ho hr.ref hs.ref⟩
end
end Go.Proofs.YticolnghiibgfaaGreat
namespace Go.Proofs.YticolnghiibgfaaGreat
open Go.RowKit Go.Deep Go.Proofs.YticolnghiibgfaaGreat.gradientRamps Go.Proofs.YticolnghiibgfaaGreat.gradientPlaces Go.Proofs.YticolnghiibgfaaGreat.imageCells
set_option maxRecDepth 20000
theorem z2m {I:Nat→ItemD} {rE sE:Nat→Int} {n:Nat}:DepthOk (fun x=>(I x).K) (fun x o=>q23 (I x).K (I x).rn (I x).nos (I x).al (I x).bl (I x).ov (I x).iso (I x).kn o (rE x) (sE x)) n:=by
  refine ⟨fun x o _ h0 h1=>?_,fun x o _ h0 h1=>?_⟩
  · (try dsimp only at h0);(try dsimp only at h1)
    rcases Int.lt_or_le o 16 with h |h
    · exact h
    · unfold q23 at h0
      rw [h1] at h0
      split at h0
      · omega
      · split at h0
        · omega
        · split at h0
          · omega
          · rw [if_pos ⟨rfl,h⟩] at h0
            omega
  · (try dsimp only at h0);(try dsimp only at h1)
    intro h
    unfold q23 at h0
    rw [h1] at h0
    split at h0
    · omega
    · split at h0
      · omega
      · rw [if_pos ⟨rfl,h⟩] at h0
        omega
structure ItE (G:Mem) (i:ItemD) (m:Nat) (p:Int × Int) (L:List Run) (fi:SrcF):Prop where
  reg:RegE G i.RA i.rn i.rq p.1 L
  src:SrcE G i m p.2 fi
  al:0≤i.al∧i.al≤255
section
variable {G:Mem} {A B:Option Addr} {m sq n iq:Nat} {S:Nat→ByteArray} {I:Nat→ItemD} {p:Nat→Int × Int} {W H:Int} {R:Nat→List Run} {f:Nat→SrcF}
def lisE (W H:Int) (m:Nat) (S:Nat→ByteArray) (n:Nat) (I:Nat→ItemD) (p:Nat→Int × Int):Int :=
  q3f W H m S n (fun x=>(I x).K) fun x o=>if 1≤m∧m≤8 then q23 (I x).K (I x).rn (I x).nos (I x).al (I x).bl (I x).ov (I x).iso (I x).kn o (p x).1 (p x).2 else 1
theorem x0f (h:¬ (1≤m∧m≤8)):lisE W H m S n I p=q3f W H m S n (fun x=>(I x).K) fun _ _=>1:=by
  unfold lisE
  congr 1
  funext x o
  rw [if_neg h]
theorem x0g (h:1≤m∧m≤8):lisE W H m S n I p=q3f W H m S n (fun x=>(I x).K) fun x o=>q23 (I x).K (I x).rn (I x).nos (I x).al (I x).bl (I x).ov (I x).iso (I x).kn o (p x).1 (p x).2:=by
  unfold lisE
  congr 1
  funext x o
  rw [if_pos h]
structure ListOk (G:Mem) (W H:Int) (m n:Nat) (I:Nat→ItemD) (f:Nat→SrcF) (R:Nat→List Run):Prop where
  wd:1≤W∧W≤256
  ht:1≤H∧H≤256
  few:1≤m∧m≤8
  len:n≤5000
  ok:LOk G I f R n
  ref:LRef G I f n
theorem x8c (he:lisE W H m S n I p=0):∀ x,x<n→q23 (I x).K (I x).rn (I x).nos (I x).al (I x).bl (I x).ov (I x).iso (I x).kn (q0p (fun x=>(I x).K) x) (p x).1 (p x).2=0:=by
  by_cases hm8:1≤m∧m≤8
  · rw [x0g hm8] at he
    unfold q3f at he
    split at he
    · omega
    split at he
    · omega
    split at he
    · exact absurd he ‹_›
    split at he
    · omega
    split at he
    · exact absurd he ‹_›
    split at he
    · omega
    rename_i g1 g2 g3 g4 g5 g6
    exact z7z (Classical.not_not.1 g5)
  · rw [x0f hm8] at he
    unfold q3f at he
    split at he
    · omega
    · rw [if_pos (by omega)] at he;omega
theorem x3r (hm:m≤sq∧sq≤maxLen) (hn:n≤iq∧iq≤maxLen) (hs:StrM G A m S) (hi:ItemsM G B n I) (hp:(1≤m∧m≤8)→∀ x,x<n→ItE G (I x) m (p x) (R x) (f x)) :
    Gives Tryz.prog 33 [q08 W H A m sq B n iq] G (.val (.int .i64 (lisE W H m S n I p)))∧Gives Tryz.prog 11 [q08 W H A m sq B n iq] G (.val (.int .i64 (lisE W H m S n I p))) ∧
      (lisE W H m S n I p=0→ListOk G W H m n I f R):=by
  have m1:∀ z,z≤maxLen→z≤9223372036854775807:=fun z hz=>hz
  have hn1:=m1 _ (Nat.le_trans hn.1 hn.2)
  have hm1:=m1 _ (Nat.le_trans hm.1 hm.2)
  by_cases hm8:1≤m∧m≤8
  · have hp:=hp hm8
    have hall:=fun h=>x8c (W:=W) (H:=H) (m:=m) (S:=S) (n:=n) (I:=I) (p:=p) h
    rw [x0g hm8] at hall ⊢
    refine ⟨q6v hs hi hm.1 (fun _ x hx o h0 h1=>(z5u (hp x hx).al.1 (hp x hx).reg (hp x hx).src ⟨h0,h1⟩).1) (z2m (I:=I) (rE:=fun x=>(p x).1) (sE:=fun x=>(p x).2)) hn1 hm1,
      z1h hs hi hm.1 (fun _ x hx o h0 h1=>(z5u (hp x hx).al.1 (hp x hx).reg (hp x hx).src ⟨h0,h1⟩).2) (z2m (I:=I) (rE:=fun x=>(p x).1) (sE:=fun x=>(p x).2)) hn1 hm1,fun he=>?_⟩
    have hall:=hall he
    unfold q3f at he
    split at he
    · omega
    split at he
    · omega
    split at he
    · exact absurd he ‹_›
    split at he
    · omega
    split at he
    · exact absurd he ‹_›
    split at he
    · omega
    rename_i g1 g2 g3 g4 g5 g6
    have hit:=fun x hx=>x8a (hall x hx)
    have hlen:=x16 (K:=fun x=>(I x).K) (n:=n) (fun k hk=>(hit k hk).1) (fun k hk h2=>(hit k hk).2.1 h2)
    have hq:∀ k,k<n→(I k).K=0→SrcBoth G (I k) (f k)∧RunsM G (I k).RA (R k)∧(I k).rn=(R k).length∧ValidL (R k):=fun k hk h0=>by
      obtain ⟨e1,e2⟩:=(hit k hk).2.2.2.2 h0
      exact ⟨(hp k hk).src.ok e2,(hp k hk).reg.runs,(hp k hk).reg.len,(hp k hk).reg.ok e1⟩
    refine ⟨by omega,by omega,hm8,by omega,⟨fun k hk h0=>(hq k hk h0).1.prog,fun k hk h0=>(hq k hk h0).2,fun k hk h0=>⟨(hp k hk).al,(hit k hk).2.2.2.1,(hq k hk h0).1.bd⟩,fun k hk h1=>⟨(hp k hk).al,(hit k hk).2.2.2.1⟩,fun k hk h0 h1=>?_,?_⟩,⟨fun k hk=>(hit k hk).1,fun k hk h0=>(hq k hk h0).1.ref⟩⟩
    · have h2:(I k).K=2:=((hit k hk).1.resolve_left h0).resolve_left h1
      have:=hlen k (by omega)
      have:=(hit k hk).2.1 h2
      omega
    · have:=hlen n (Nat.le_refl _)
      omega
  · have hd:DepthOk (fun x=>(I x).K) (fun _ _=>1) n:=⟨fun x o _ h0 _=>absurd h0 (by decide),fun x o _ h0 _=>absurd h0 (by decide)⟩
    rw [x0f hm8]
    refine ⟨q6v hs hi hm.1 (fun h=>absurd h hm8) hd hn1 hm1,z1h hs hi hm.1 (fun h=>absurd h hm8) hd hn1 hm1,fun he=>?_⟩
    unfold q3f at he
    split at he
    · omega
    · rw [if_pos (by omega)] at he;omega
theorem v0y {i:ItemD} {gr gs gp gf:Nat→Nat→Value} (hm:1≤m∧m≤8) (h:ItemG G i gr gs gp gf):∃ p fi,ItE G i m p (q2i (fun x=>⟨valI (gr x 0),valI (gr x 1),valI (gr x 2)⟩) i.rn) fi:=by
  obtain ⟨sE,fi,_,h2⟩:=v08 (i:=i) (m:=m) hm ⟨G,i.A,i.q,i.B,i.pq,i.C,i.sq,h.src⟩
  exact ⟨(errL (q2i (fun x=>⟨valI (gr x 0),valI (gr x 1),valI (gr x 2)⟩) i.rn),sE),fi,v07 (x92 h.run.2.2) (z91 _ _).symm h.run.1 h.run.2.1,h2 G i.A i.q i.B i.pq i.C i.sq h.src,h.al⟩
end
section
variable {w:World} {A B:Option Addr} {m sq n iq:Nat} {gs gi:Nat→Nat→Value} {W H:Int}
theorem z2n (hm:m≤sq∧sq≤maxLen) (hn:n≤iq∧iq≤maxLen) (hs:SliceG Tryz.prog w 9 A m gs) (hi:SliceG Tryz.prog w 56 B n gi) :
    ∃ e:Int,Gives Tryz.prog 33 [q08 W H A m sq B n iq] (q1s w) (.val (.int .i64 e))∧Gives Tryz.prog 11 [q08 W H A m sq B n iq] (q1s w) (.val (.int .i64 e)) ∧
      (e=0→(1≤W∧W≤256)∧(1≤H∧H≤256)∧(1≤m∧m≤8)∧n≤5000∧∃ f R,LOk (q1s w) (fun x=>q4t (gi x)) f R n∧LRef (q1s w) (fun x=>q4t (gi x)) f n):=by
  have hp:∃ q:Nat→(Int × Int) × List Run × SrcF,(1≤m∧m≤8)→∀ x,x<n→ItE (q1s w) (q4t (gi x)) m (q x).1 (q x).2.1 (q x).2.2:=by
    by_cases hm8:1≤m∧m≤8
    · have key:∀ x,x<n→∃ q:(Int × Int) × List Run × SrcF,ItE (q1s w) (q4t (gi x)) m q.1 q.2.1 q.2.2:=fun x hx=>by
        obtain ⟨gr,gs,gp,gf,h⟩:=x53 hi hx
        obtain ⟨p,fi,h⟩:=v0y hm8 h
        exact ⟨(p,_,fi),h⟩
      obtain ⟨q,hq⟩:=choose_lt key
      exact ⟨q,fun _=>hq⟩
    · exact ⟨fun _=>((0,0),[],fun _ _=>(fun _=>0,0)),fun h=>absurd h hm8⟩
  obtain ⟨q,hq⟩:=hp
  obtain ⟨h1,h2,h3⟩:=x3r (W:=W) (H:=H) (p:=fun x=>(q x).1) (R:=fun x=>(q x).2.1) (f:=fun x=>(q x).2.2) hm hn (v0t hs) (z27 hi) hq
  refine ⟨_,h1,h2,fun he=>?_⟩
  have k:=h3 he
  exact ⟨k.wd,k.ht,k.few,k.len,_,_,k.ok,k.ref⟩
end
end Go.Proofs.YticolnghiibgfaaGreat
namespace Go.Proofs.YticolnghiibgfaaGreat
open Go.RowKit
set_option maxRecDepth 20000
def x80 (e:Bool) (a:AV):AV:=.tup [a,.val (.bool e)]
theorem z3o (e:Bool):Wraps (x80 e):=.pair (.val (.bool e)) (fun _=>rfl) rfl
def q5h (w h:Nat):List Run:=(List.range (16*h)).map fun (y:Nat)=>⟨(y:Int),0,16*(w:Int)⟩
theorem x3s (w h:Nat):q2e (q5h w h)=q5g 0 (16*(w:Int)) 0 (16*h):=by
  unfold q2e q5h q5g
  rw [List.flatMap_map]
  simp
theorem x1c {w h:Nat} (hw:w≤512) (hh:h≤512) (G:Mem):z0x Tryz.prog 49 [.val (.int .i64 w),.val (.int .i64 h)] G (x80 true) 87 3 (16*h) (q5g 0 (16*(w:Int)) 0 (16*h)):=by
  refine z3z tab_ok Tryz.func49 (z3o true) ?_
  (repeat ((try (conv=>whnf));(refine stQ ?_)))
  conv=>whnf
  refine q0z tab_ok (fun i=>i≤16*h) (fun (i:Nat)=>[(7,.val (.int .i64 i)),(6,.own 0)]) (fun i=>[.own 87 3 i (q5g 0 (16*(w:Int)) 0 i)]) (fun i=>16*h-i) 0 (Nat.zero_le _) ?_ ?_
  · refine v0e 87 3 ?_
    conv=>whnf
    ((refine q0g ?_);(conv=>whnf);(refine q0j (by rfl) (by rfl) flQ ?_))
    exact q0k rfl (by simp [q5g]) q0e
  · intro i hi
    by_cases hlt:(i:Int)<16*(h:Int)
    · (repeat ((try (conv=>whnf));(refine stQ ?_)))
      refine ⟨i+1,by omega,by omega,?_⟩
      refine x87 2 0 rfl rfl rfl rfl ?_
      conv=>whnf
      ((refine q0g ?_);(conv=>whnf);(refine q0j (by rfl) (by rfl) flQ ?_))
      exact q0k rfl (by rw [x5v,Int.zero_add]) q0e
    · (repeat ((try (conv=>whnf));(refine stQ ?_)))
      have hi2:i=16*h:=by omega
      subst hi2
      exact .inl ⟨0,rfl,rfl⟩
end Go.Proofs.YticolnghiibgfaaGreat
namespace Go.Proofs.YticolnghiibgfaaGreat
open Go.RowKit
set_option maxRecDepth 20000
theorem x3t {P:Program} {T:Tab} (hT:TOk P T) {f:FuncId} {fn:Func} (hfn:P.funcs[f]? = some fn) {args:List AV} {G:Mem} {R:Value→Mem→Prop}
    (h:q0r (q8l fn) (q4h P T 1 fn args [.muts fun _=>False] G fun v hp' G'=>∃ l:List Value,v=.agg (l.map .val)∧R (.agg l.toArray) G')):GivesM P f args G R:=by
  intro w vs hG ha
  refine (z0a hT hfn (args:=args) ha hG h).mono ?_
  rintro e w' ⟨y,β',v,hp',G',h1,h2,h3,l,rfl,hR⟩
  simp only [AV.rel] at h3
  obtain ⟨cs,rfl,h4⟩:=h3
  have e:cs=l.toArray:=by rw [← q06 h4]
  subst e
  exact ⟨_,G',h1,h2.below,h2.sub,h2.hold,h2.grow,hR⟩
theorem z5v {G:Mem} {b:Nat} {L:List Run} (h:∀ (j:Nat) u,(q2e L)[j]? = some u→G.cell? ⟨b,j,none⟩=some u):RunsM G (some ⟨b,0,none⟩) L:=fun i r hr=>by
  obtain ⟨h1,h2,h3⟩:=z2g hr
  exact ⟨b,0,rfl,by rw [Nat.zero_add];exact h _ _ h1,by rw [Nat.zero_add];exact h _ _ h2,by rw [Nat.zero_add];exact h _ _ h3⟩
abbrev spIt (K:Int) (RA:Option Addr) (rn rq:Nat) (c:Int) (al:Int) (iso:Bool):ItemD:=⟨K,RA,rn,rq,0,fun j=>if j=0 then c else 0,0,0,0,0,0,none,0,0,0,0,none,0,0,none,0,0,0,0,0,0,0,0,false,false,al,0,false,iso,false⟩
def spI (A:Option Addr) (c b:Nat):Nat→ItemD
  | 0=>spIt 0 A 16 c 200 255 false
  | 1=>spIt 1 none 0 0 0 255 true
  | 2=>spIt 0 (some ⟨b,0,none⟩) 1 1 100 255 false
  | _=>spIt 2 none 0 0 0 0 false
set_option maxHeartbeats 4000000 in
theorem z0g {G:Mem}:GivesM Tryz.prog 32 [] G fun v F=>∃ A c b sb ib,v=.agg #[.int .i64 1,.int .i64 1,.slice (some ⟨sb,0,none⟩) 1 1,.slice (some ⟨ib,0,none⟩) 4 4]∧RunsM F A (q5h 1 1)∧16≤c∧c≤maxLen ∧
    F sb=some (.cells #[.string ⟨#[98,108,97,99,107]⟩] 9 (0,0))∧F b=some (.cells #[.int .i64 0,.int .i64 0,.int .i64 1] 87 (0,0))∧F ib=some (.cells ((spI A c b 0).cells++(spI A c b 1).cells++(spI A c b 2).cells++(spI A c b 3).cells).toArray 56 (0,0)):=by
  refine x3t tab_ok Tryz.func32 ?_
  (repeat ((try (conv=>whnf));(refine stQ ?_)))
  conv=>whnf
  refine z9l (fun vs w=>by kernel_rfl) (z3o true) (by rfl) (x1c (w:=1) (h:=1) (by omega) (by omega) _) ?_
  intro A c G1 hG1 hc hcm hF
  (repeat ((try (conv=>whnf));(first |(with_reducible refine q8y tab_ok 0 false ?_) |(refine stQ ?_))))
  conv=>whnf
  intro sb G2 hsb _ hG2
  conv=>whnf
  (repeat ((try (conv=>whnf));(first |(with_reducible refine q8y tab_ok 0 false ?_) |(refine stQ ?_))))
  conv=>whnf
  intro b G3 hb _ hG3
  conv=>whnf
  (repeat ((try (conv=>whnf));(first |(with_reducible refine q8y tab_ok 0 false ?_) |(refine stQ ?_))))
  conv=>whnf
  intro ib G4 hib _ hG4
  conv=>whnf
  (repeat ((try (conv=>whnf));(refine stQ ?_)))
  conv=>whnf
  have l2:G1.le G2:=fun p o hp=>by rw [hG2,Mem.put_ne _ _ (fun e=>by rw [e,hsb] at hp;cases hp)];exact hp
  have l3:G2.le G3:=fun p o hp=>by rw [hG3,Mem.put_ne _ _ (fun e=>by rw [e,hb] at hp;cases hp)];exact hp
  have l4:G3.le G4:=fun p o hp=>by rw [hG4,Mem.put_ne _ _ (fun e=>by rw [e,hib] at hp;cases hp)];exact hp
  refine ⟨[.int .i64 1,.int .i64 1,.slice (some ⟨sb,0,none⟩) 1 1,.slice (some ⟨ib,0,none⟩) 4 4],rfl,A,c,b,sb,ib,rfl,?_,hc,hcm,l4 _ _ (l3 _ _ (by rw [hG2,Mem.put_same])),l4 _ _ (by rw [hG3,Mem.put_same]),by rw [hG4,Mem.put_same];rfl⟩
  rcases hF with h |⟨a,rfl,h⟩
  · exact absurd (congrArg List.length h) (by rw [x75];decide)
  · exact (z5v (fun j u hj=>by rw [x3s] at hj;exact h j u hj)).mono (Mem.le_trans l2 (Mem.le_trans l3 l4))
end Go.Proofs.YticolnghiibgfaaGreat
