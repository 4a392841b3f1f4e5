/-
  Plain laws of the stable sort: swaps, rotations, merges of sorted stretches, by keys. No program in sight.
-/
import Derived.Test.YtegpkpilfgohhaaGreatMrg7
set_option linter.unusedVariables false
set_option linter.unusedSimpArgs false
set_option linter.unnecessarySimpa false
namespace Go.Proofs.YtegpkpilfgohhaaGreat
section
variable {α:Type} [Inhabited α]
def gAt (l:List α) (i:Nat):α:=l[i]!
theorem z7c {l:List α} {i:Nat} (h:i<l.length):l[i]? = some (gAt l i):=by simp [gAt,h]
theorem x28 {l:List α} {i k:Nat} {x:α} (hi:i<l.length):gAt (l.set i x) k=if k=i then x else gAt l k:=by
  unfold gAt
  by_cases h:k=i
  · subst h;simp [hi]
  · rw [if_neg h]
    simp [List.getElem!_eq_getElem?_getD,List.getElem?_set_ne (fun e=>h e.symm)]
def swp (l:List α) (i j:Nat):List α:=(l.set i (gAt l j)).set j (gAt l i)
theorem q82 {l:List α} {i j k:Nat} (hi:i<l.length) (hj:j<l.length):gAt (swp l i j) k=if k=j then gAt l i else if k=i then gAt l j else gAt l k:=by
  unfold swp
  rw [x28 (by simpa using hj)]
  by_cases h:k=j
  · rw [if_pos h,if_pos h]
  · rw [if_neg h,if_neg h,x28 hi]
theorem z1u {l:List α} {i j:Nat} (hi:i<l.length) (hj:j<l.length):(swp l i j).Perm l:=by
  unfold swp gAt
  rw [getElem!_pos l i hi,getElem!_pos l j hj]
  exact List.set_set_perm hi hj
structure SameIn (l l':List α) (a b:Nat):Prop where
  perm:l'.Perm l
  out:∀ i,i<a∨b≤i→gAt l' i=gAt l i
  in_:∀ i,a≤i→i<b→∃ j,a≤j∧j<b∧gAt l' i=gAt l j
theorem SameIn.refl (l:List α) (a b:Nat):SameIn l l a b:=⟨List.Perm.refl _,fun _ _=>rfl,fun i h1 h2=>⟨i,h1,h2,rfl⟩⟩
theorem SameIn.trans {l l' l'':List α} {a b:Nat} (h:SameIn l l' a b) (h':SameIn l' l'' a b):SameIn l l'' a b :=
  ⟨h'.perm.trans h.perm,fun i hi=>(h'.out i hi).trans (h.out i hi),fun i h1 h2=>by
    obtain ⟨j,h3,h4,h5⟩:=h'.in_ i h1 h2
    obtain ⟨k,h6,h7,h8⟩:=h.in_ j h3 h4
    exact ⟨k,h6,h7,h5.trans h8⟩⟩
theorem SameIn.wide {l l':List α} {a b c d:Nat} (h:SameIn l l' a b) (h1:c≤a) (h2:b≤d):SameIn l l' c d :=
  ⟨h.perm,fun i hi=>h.out i (by omega),fun i h3 h4=>by
    by_cases hi:a≤i∧i<b
    · obtain ⟨j,h5,h6,h7⟩:=h.in_ i hi.1 hi.2
      exact ⟨j,by omega,by omega,h7⟩
    · exact ⟨i,h3,h4,h.out i (by omega)⟩⟩
theorem SameIn.len {l l':List α} {a b:Nat} (h:SameIn l l' a b):l'.length=l.length:=h.perm.length_eq
theorem SameIn.swp {l:List α} {i j a b:Nat} (hi:i<l.length) (hj:j<l.length) (h1:a≤i∧i<b) (h2:a≤j∧j<b):SameIn l (swp l i j) a b :=
  ⟨z1u hi hj,fun k hk=>by rw [q82 hi hj,if_neg (by omega),if_neg (by omega)],fun k h3 h4=>by
    rw [q82 hi hj]
    by_cases e:k=j
    · exact ⟨i,h1.1,h1.2,by rw [if_pos e]⟩
    · by_cases e2:k=i
      · exact ⟨j,h2.1,h2.2,by rw [if_neg e,if_pos e2]⟩
      · exact ⟨k,h3,h4,by rw [if_neg e,if_neg e2]⟩⟩
def rngF (l:List α) (a b c t:Nat):α:=if a≤t∧t<a+c then gAt l (t-a+b) else if b≤t∧t<b+c then gAt l (t-b+a) else gAt l t
structure RngAt (l cur:List α) (a b c:Nat):Prop where
  perm:cur.Perm l
  at_:∀ t,gAt cur t=rngF l a b c t
theorem RngAt.start (l:List α) (a b:Nat):RngAt l l a b 0:=⟨List.Perm.refl _,fun t=>by unfold rngF;rw [if_neg (by omega),if_neg (by omega)]⟩
theorem RngAt.next {l cur:List α} {a b c:Nat} (h:RngAt l cur a b c) (hab:a+c<b) (hb:b+c<l.length):RngAt l (Go.Proofs.YtegpkpilfgohhaaGreat.swp cur (a+c) (b+c)) a b (c+1):=by
  have hl:=h.perm.length_eq
  refine ⟨(z1u (by omega) (by omega)).trans h.perm,fun t=>?_⟩
  rw [q82 (by omega) (by omega),h.at_,h.at_,h.at_]
  unfold rngF
  (repeat' split) <;> first |rfl |(exfalso;omega) |(congr 1;omega)
def rotF (l:List α) (a m b t:Nat):α:=if a≤t∧t<a+(b-m) then gAt l (t+(m-a)) else if a+(b-m)≤t∧t<b then gAt l (t-(b-m)) else gAt l t
structure RotAt (l cur:List α) (a m b i j:Nat):Prop where
  perm:cur.Perm l
  pos:0<i∧0<j∧i≤m-a∧j≤b-m
  at_:∀ t,rotF cur (m-i) m (m+j) t=rotF l a m b t
theorem RotAt.start (l:List α) {a m b:Nat} (h1:a<m) (h2:m<b):RotAt l l a m b (m-a) (b-m) :=
  ⟨List.Perm.refl _,⟨by omega,by omega,by omega,by omega⟩,fun t=>by rw [show m-(m-a)=a by omega,show m+(b-m)=b by omega]⟩
theorem RotAt.left {l cur cur':List α} {a m b i j:Nat} (h:RotAt l cur a m b i j) (hij:j<i) (h':RngAt cur cur' (m-i) m j):RotAt l cur' a m b (i-j) j:=by
  obtain ⟨hp,⟨p1,p2,p3,p4⟩,h3⟩:=h
  refine ⟨h'.perm.trans hp,⟨by omega,p2,by omega,p4⟩,fun t=>?_⟩
  rw [← h3 t]
  unfold rotF
  rw [h'.at_,h'.at_,h'.at_]
  unfold rngF
  clear h3 h' hp
  (repeat' split) <;> first |rfl |(exfalso;omega) |(congr 1;omega)
theorem RotAt.right {l cur cur':List α} {a m b i j:Nat} (h:RotAt l cur a m b i j) (hij:i<j) (h':RngAt cur cur' (m-i) (m+j-i) i):RotAt l cur' a m b i (j-i):=by
  obtain ⟨hp,⟨p1,p2,p3,p4⟩,h3⟩:=h
  refine ⟨h'.perm.trans hp,⟨p1,by omega,p3,by omega⟩,fun t=>?_⟩
  rw [← h3 t]
  unfold rotF
  rw [h'.at_,h'.at_,h'.at_]
  unfold rngF
  clear h3 h' hp
  (repeat' split) <;> first |rfl |(exfalso;omega) |(congr 1;omega)
theorem RotAt.fin {l cur cur':List α} {a m b i:Nat} (h:RotAt l cur a m b i i) (h':RngAt cur cur' (m-i) m i) (t:Nat):gAt cur' t=rotF l a m b t:=by
  obtain ⟨hp,⟨p1,p2,p3,p4⟩,h3⟩:=h
  rw [← h3 t,h'.at_]
  unfold rotF rngF
  clear h3 h' hp
  (repeat' split) <;> first |rfl |(exfalso;omega) |(congr 1;omega)
theorem SameIn.of_rot {l cur:List α} {a m b:Nat} (h1:a<m) (h2:m<b) (hp:cur.Perm l) (h:∀ t,gAt cur t=rotF l a m b t):SameIn l cur a b:=by
  refine ⟨hp,fun i hi=>?_,fun i h3 h4=>?_⟩
  · rw [h];unfold rotF;rw [if_neg (by omega),if_neg (by omega)]
  · rw [h];unfold rotF
    by_cases e:a≤i∧i<a+(b-m)
    · exact ⟨i+(m-a),by omega,by omega,by rw [if_pos e]⟩
    · exact ⟨i-(b-m),by omega,by omega,by rw [if_neg e,if_pos (by omega)]⟩
variable {κ:α→Int}
def srtK (κ:α→Int) (l:List α) (a b:Nat):Prop:=∀ i j,a≤i→i<j→j<b→κ (gAt l i)≤κ (gAt l j)
theorem srtK.at_le {l:List α} {a b i j:Nat} (h:srtK κ l a b) (h1:a≤i) (h2:i≤j) (h3:j<b):κ (gAt l i)≤κ (gAt l j):=by
  rcases Nat.lt_or_ge i j with h4 |h4
  · exact h i j h1 h4 h3
  · obtain rfl:i=j:=by omega
    exact Int.le_refl _
theorem srtK.less {l:List α} {a b c d:Nat} (h:srtK κ l a b) (h1:a≤c) (h2:d≤b):srtK κ l c d:=fun i j h3 h4 h5=>h i j (by omega) h4 (by omega)
theorem srtK.congr {l l':List α} {a b:Nat} (h:srtK κ l a b) (e:∀ i,a≤i→i<b→gAt l' i=gAt l i):srtK κ l' a b:=fun i j h1 h2 h3=>by
  rw [e i h1 (by omega),e j (by omega) h3];exact h i j h1 h2 h3
theorem srtK.one {l:List α} {a b:Nat} (h:b≤a+1):srtK κ l a b:=fun i j h1 h2 h3=>by omega
theorem srtK.join {l:List α} {a m b:Nat} (h1:srtK κ l a m) (h2:srtK κ l m b) (h:∀ i j,a≤i→i<m→m≤j→j<b→κ (gAt l i)≤κ (gAt l j)):srtK κ l a b:=fun i j h3 h4 h5=>by
  rcases Nat.lt_or_ge j m with e |e
  · exact h1 i j h3 h4 e
  · rcases Nat.lt_or_ge i m with e2 |e2
    · exact h i j h3 e2 e h5
    · exact h2 i j e2 h4 h5
structure InsAt (κ:α→Int) (l cur:List α) (a i j:Nat):Prop where
  same:SameIn l cur a (i+1)
  le:a≤j∧j≤i
  low:srtK κ cur a j
  high:srtK κ cur j (i+1)
  skip:∀ p q,a≤p→p<j→j<q→q≤i→κ (gAt cur p)≤κ (gAt cur q)
theorem InsAt.start {l:List α} {a i:Nat} (h:srtK κ l a i) (hi:a≤i):InsAt κ l l a i i :=
  ⟨SameIn.refl _ _ _,⟨hi,Nat.le_refl _⟩,h,srtK.one (by omega),fun p q h1 h2 h3 h4=>by omega⟩
theorem InsAt.next {l cur:List α} {a i j:Nat} (h:InsAt κ l cur a i j) (hl:i<l.length) (hj:a<j) (hlt:κ (gAt cur j)<κ (gAt cur (j-1))):InsAt κ l (swp cur j (j-1)) a i (j-1):=by
  have hlen:=h.same.len
  obtain ⟨hs,⟨h1,h2⟩,h3,h4,h5⟩:=h
  have hg:∀ k,gAt (swp cur j (j-1)) k=if k=j-1 then gAt cur j else if k=j then gAt cur (j-1) else gAt cur k:=fun k=>q82 (by omega) (by omega)
  refine ⟨hs.trans (SameIn.swp (by omega) (by omega) (by omega) (by omega)),by omega,(h3.less (Nat.le_refl _) (by omega)).congr fun k e1 e2=>?_,fun p q e1 e2 e3=>?_,fun p q e1 e2 e3 e4=>?_⟩
  · rw [hg,if_neg (by omega),if_neg (by omega)]
  · rw [hg,hg,if_neg (show ¬ q=j-1 by omega)]
    by_cases e:p=j-1
    · rw [if_pos e]
      by_cases e':q=j
      · rw [if_pos e'];exact Int.le_of_lt hlt
      · rw [if_neg e'];exact h4 j q (Nat.le_refl _) (by omega) (by omega)
    · rw [if_neg e,if_neg (show ¬ q=j by omega)]
      by_cases e':p=j
      · rw [if_pos e'];exact h5 (j-1) q (by omega) (by omega) (by omega) (by omega)
      · rw [if_neg e'];exact h4 p q (by omega) (by omega) (by omega)
  · rw [hg,hg,if_neg (show ¬ p=j-1 by omega),if_neg (show ¬ p=j by omega),if_neg (show ¬ q=j-1 by omega)]
    by_cases e:q=j
    · rw [if_pos e];exact h3 p (j-1) (by omega) (by omega) (by omega)
    · rw [if_neg e];exact h5 p q e1 (by omega) (by omega) e4
theorem InsAt.fin {l cur:List α} {a i j:Nat} (h:InsAt κ l cur a i j) (hend:j=a∨κ (gAt cur (j-1))≤κ (gAt cur j)):srtK κ cur a (i+1):=by
  obtain ⟨hs,⟨h1,h2⟩,h3,h4,h5⟩:=h
  rcases Nat.lt_or_ge a j with e |e
  · refine h3.join h4 fun p q e1 e2 e3 e4=>?_
    have h6:κ (gAt cur p)≤κ (gAt cur (j-1)):=h3.at_le e1 (by omega) (by omega)
    rcases Nat.lt_or_ge j q with e5 |e5
    · exact h5 p q e1 e2 e5 (by omega)
    · obtain rfl:q=j:=by omega
      rcases hend with h7 |h7 <;> omega
  · obtain rfl:j=a:=by omega
    exact h4
theorem z6e (Q:Nat→Prop) (lo:Nat):∀ (d:Nat),(∀ c c',lo≤c→c<c'→c'<lo+d→Q c'→Q c)→∃ s,lo≤s∧s≤lo+d∧(∀ c,lo≤c→c<s→Q c)∧(∀ c,s≤c→c<lo+d→¬ Q c)
  | 0,_=>⟨lo,Nat.le_refl _,Nat.le_refl _,fun c h1 h2=>by omega,fun c h1 h2=>by omega⟩
  | d+1,h=>by
    obtain ⟨s,h1,h2,h3,h4⟩:=z6e Q lo d fun c c' e1 e2 e3=>h c c' e1 e2 (by omega)
    by_cases e:s=lo+d∧Q (lo+d)
    · refine ⟨lo+d+1,by omega,by omega,fun c e1 e2=>?_,fun c e1 e2=>by omega⟩
      rcases Nat.lt_or_ge c (lo+d) with e3 |e3
      · exact h3 c e1 (by omega)
      · obtain rfl:c=lo+d:=by omega
        exact e.2
    · refine ⟨s,h1,by omega,h3,fun c e1 e2 hq=>?_⟩
      rcases Nat.lt_or_ge c (lo+d) with e3 |e3
      · exact h4 c e1 e3 hq
      · obtain rfl:c=lo+d:=by omega
        rcases Nat.lt_or_ge s (lo+d) with e4 |e4
        · exact h4 s (Nat.le_refl _) e4 (h s (lo+d) h1 e4 (by omega) hq)
        · exact e ⟨by omega,hq⟩
structure UpAt (l cur:List α) (a k:Nat):Prop where
  perm:cur.Perm l
  at_:∀ t,gAt cur t=if a≤t∧t<k then gAt l (t+1) else if t=k then gAt l a else gAt l t
theorem UpAt.start (l:List α) (a:Nat):UpAt l l a a:=⟨List.Perm.refl _,fun t=>by
  rw [if_neg (by omega)];split
  · rename_i e;rw [e]
  · rfl⟩
theorem UpAt.next {l cur:List α} {a k:Nat} (h:UpAt l cur a k) (hak:a≤k) (hk:k+1<l.length):UpAt l (swp cur k (k+1)) a (k+1):=by
  have hl:=h.perm.length_eq
  refine ⟨(z1u (by omega) (by omega)).trans h.perm,fun t=>?_⟩
  rw [q82 (by omega) (by omega),h.at_,h.at_,h.at_]
  by_cases e:t=k+1
  · subst e
    rw [if_pos rfl,if_neg (by omega),if_pos rfl,if_neg (by omega),if_pos rfl]
  · rw [if_neg e]
    by_cases e2:t=k
    · subst e2
      rw [if_pos rfl,if_neg (by omega),if_neg (by omega),if_pos (by omega)]
    · rw [if_neg e2,if_neg e2]
      by_cases e3:a≤t∧t<k
      · rw [if_pos e3,if_pos (by omega)]
      · rw [if_neg e3,if_neg (by omega),if_neg e]
theorem UpAt.fin {l cur:List α} {a i b:Nat} (h:UpAt l cur a (i-1)) (hi:a+1≤i∧i≤b) (hs:srtK κ l (a+1) b) (h1:∀ c,a+1≤c→c<i→κ (gAt l c)<κ (gAt l a)) (h2:∀ c,i≤c→c<b→¬ κ (gAt l c)<κ (gAt l a)):SameIn l cur a b∧srtK κ cur a b:=by
  refine ⟨⟨h.perm,fun t ht=>?_,fun t e1 e2=>?_⟩,fun p q e1 e2 e3=>?_⟩
  · rw [h.at_,if_neg (by omega),if_neg (by omega)]
  · rw [h.at_]
    by_cases e:a≤t∧t<i-1
    · exact ⟨t+1,by omega,by omega,by rw [if_pos e]⟩
    · by_cases e':t=i-1
      · exact ⟨a,by omega,by omega,by rw [if_neg e,if_pos e']⟩
      · exact ⟨t,by omega,by omega,by rw [if_neg e,if_neg e']⟩
  · rw [h.at_,h.at_]
    by_cases ep:a≤p∧p<i-1
    · rw [if_pos ep]
      by_cases eq:a≤q∧q<i-1
      · rw [if_pos eq];exact hs _ _ (by omega) (by omega) (by omega)
      · rw [if_neg eq]
        by_cases eq2:q=i-1
        · rw [if_pos eq2];exact Int.le_of_lt (h1 _ (by omega) (by omega))
        · rw [if_neg eq2];exact hs _ _ (by omega) (by omega) (by omega)
    · rw [if_neg ep,if_neg (show ¬ (a≤q∧q<i-1) by omega),if_neg (show ¬ q=i-1 by omega)]
      by_cases ep2:p=i-1
      · rw [if_pos ep2];exact Int.not_lt.1 (h2 q (by omega) e3)
      · rw [if_neg ep2];exact hs _ _ (by omega) e2 e3
structure DnAt (l cur:List α) (m k:Nat):Prop where
  perm:cur.Perm l
  at_:∀ t,gAt cur t=if k<t∧t≤m then gAt l (t-1) else if t=k then gAt l m else gAt l t
theorem DnAt.start (l:List α) (m:Nat):DnAt l l m m:=⟨List.Perm.refl _,fun t=>by
  rw [if_neg (by omega)];split
  · rename_i e;rw [e]
  · rfl⟩
theorem DnAt.next {l cur:List α} {m k:Nat} (h:DnAt l cur m k) (hk:0<k) (hkm:k≤m) (hm:m<l.length):DnAt l (swp cur k (k-1)) m (k-1):=by
  have hl:=h.perm.length_eq
  refine ⟨(z1u (by omega) (by omega)).trans h.perm,fun t=>?_⟩
  rw [q82 (by omega) (by omega),h.at_,h.at_,h.at_]
  by_cases e:t=k-1
  · subst e
    rw [if_pos rfl,if_neg (by omega),if_pos rfl,if_neg (by omega),if_pos rfl]
  · rw [if_neg e]
    by_cases e2:t=k
    · subst e2
      rw [if_pos rfl,if_neg (by omega),if_neg (by omega),if_pos (by omega)]
    · rw [if_neg e2,if_neg e2]
      by_cases e3:k<t∧t≤m
      · rw [if_pos e3,if_pos (by omega)]
      · rw [if_neg e3,if_neg (by omega),if_neg e]
theorem DnAt.fin {l cur:List α} {a m i:Nat} (h:DnAt l cur m i) (hi:a≤i∧i≤m) (hs:srtK κ l a m) (h1:∀ c,a≤c→c<i→¬ κ (gAt l m)<κ (gAt l c)) (h2:∀ c,i≤c→c<m→κ (gAt l m)<κ (gAt l c)):SameIn l cur a (m+1)∧srtK κ cur a (m+1):=by
  refine ⟨⟨h.perm,fun t ht=>?_,fun t e1 e2=>?_⟩,fun p q e1 e2 e3=>?_⟩
  · rw [h.at_,if_neg (by omega),if_neg (by omega)]
  · rw [h.at_]
    by_cases e:i<t∧t≤m
    · exact ⟨t-1,by omega,by omega,by rw [if_pos e]⟩
    · by_cases e':t=i
      · exact ⟨m,by omega,by omega,by rw [if_neg e,if_pos e']⟩
      · exact ⟨t,by omega,by omega,by rw [if_neg e,if_neg e']⟩
  · rw [h.at_,h.at_]
    by_cases eq:i<q∧q≤m
    · rw [if_pos eq]
      by_cases ep:i<p∧p≤m
      · rw [if_pos ep];exact hs _ _ (by omega) (by omega) (by omega)
      · rw [if_neg ep]
        by_cases ep2:p=i
        · rw [if_pos ep2];exact Int.le_of_lt (h2 _ (by omega) (by omega))
        · rw [if_neg ep2];exact hs.at_le (by omega) (by omega) (by omega)
    · rw [if_neg eq,if_neg (show ¬ (i<p∧p≤m) by omega),if_neg (show ¬ p=i by omega)]
      by_cases eq2:q=i
      · rw [if_pos eq2];exact Int.not_lt.1 (h1 p e1 (by omega))
      · rw [if_neg eq2];exact hs _ _ e1 e2 (by omega)
def q3v (a m b:Nat):Nat:=if (a+b)/2<m then (a+b)/2+m-b else a
def q3p (a m b:Nat):Nat:=if (a+b)/2<m then (a+b)/2 else m
def symQ (κ:α→Int) (l:List α) (a m b c:Nat):Prop:=¬ κ (gAt l ((a+b)/2+m-1-c))<κ (gAt l c)
theorem z4x {a m b:Nat} (h1:a<m) (h2:m<b):a≤q3v a m b∧q3v a m b≤q3p a m b∧q3p a m b≤m∧q3p a m b≤(a+b)/2:=by
  unfold q3v q3p
  split <;> omega
theorem x01 {a m b c:Nat} (h1:a<m) (h2:m<b) (h3:q3v a m b≤c) (h4:c<q3p a m b):(a≤c∧c<m)∧(m≤(a+b)/2+m-1-c∧(a+b)/2+m-1-c<b):=by
  unfold q3v at h3
  unfold q3p at h4
  split at h3 <;> rename_i e
  · rw [if_pos e] at h4;omega
  · rw [if_neg e] at h4;omega
theorem x9b {l:List α} {a m b:Nat} (h1:a<m) (h2:m<b) (hs1:srtK κ l a m) (hs2:srtK κ l m b):∃ s,q3v a m b≤s∧s≤q3p a m b∧(∀ c,q3v a m b≤c→c<s→symQ κ l a m b c)∧(∀ c,s≤c→c<q3p a m b→¬ symQ κ l a m b c):=by
  obtain ⟨g1,g2,g3,g4⟩:=z4x h1 h2
  obtain ⟨s,e1,e2,e3,e4⟩:=z6e (symQ κ l a m b) (q3v a m b) (q3p a m b-q3v a m b) fun c c' f1 f2 f3 hq=>by
    have i1:=x01 h1 h2 f1 (show c<q3p a m b by omega)
    have i2:=x01 h1 h2 (show q3v a m b≤c' by omega) (show c'<q3p a m b by omega)
    unfold symQ at hq ⊢
    have j1:=hs1 c c' (by omega) f2 (by omega)
    have j2:=hs2.at_le (i:=(a+b)/2+m-1-c') (j:=(a+b)/2+m-1-c) (by omega) (by omega) (by omega)
    omega
  exact ⟨s,e1,by omega,e3,fun c f1 f2=>e4 c f1 (by omega)⟩
theorem x9c {l l1:List α} {a m b s:Nat} (h1:a<m) (h2:m<b) (hs1:srtK κ l a m) (hs2:srtK κ l m b) (g1:q3v a m b≤s) (g2:s≤q3p a m b) (hq:∀ c,q3v a m b≤c→c<s→symQ κ l a m b c) (hn:∀ c,s≤c→c<q3p a m b→¬ symQ κ l a m b c)
    (hat:∀ t,gAt l1 t=rotF l s m ((a+b)/2+m-s) t) :
    srtK κ l1 a s∧srtK κ l1 s ((a+b)/2)∧srtK κ l1 ((a+b)/2) ((a+b)/2+m-s)∧srtK κ l1 ((a+b)/2+m-s) b∧∀ i j,a≤i→i<(a+b)/2→(a+b)/2≤j→j<b→κ (gAt l1 i)≤κ (gAt l1 j):=by
  obtain ⟨k1,k2,k3,k4⟩:=z4x h1 h2
  have hlo:(a+b)/2<m∧q3v a m b=(a+b)/2+m-b∧q3p a m b=(a+b)/2∨m≤(a+b)/2∧q3v a m b=a∧q3p a m b=m:=by
    unfold q3v q3p
    by_cases e:(a+b)/2<m
    · rw [if_pos e,if_pos e];exact .inl ⟨e,rfl,rfl⟩
    · rw [if_neg e,if_neg e];exact .inr ⟨by omega,rfl,rfl⟩
  have hle:(a+b)/2+m-s≤b:=by omega
  have A:∀ t,t<s→gAt l1 t=gAt l t:=fun t ht=>by rw [hat];unfold rotF;rw [if_neg (by omega),if_neg (by omega)]
  have B:∀ t,s≤t→t<(a+b)/2→gAt l1 t=gAt l (t+(m-s)):=fun t e1 e2=>by rw [hat];unfold rotF;rw [if_pos (by omega)]
  have C:∀ t,(a+b)/2≤t→t<(a+b)/2+m-s→gAt l1 t=gAt l (t-((a+b)/2-s)):=fun t e1 e2=>by
    rw [hat];unfold rotF;rw [if_neg (by omega),if_pos (by omega)];congr 1;omega
  have D:∀ t,(a+b)/2+m-s≤t→gAt l1 t=gAt l t:=fun t e1=>by rw [hat];unfold rotF;rw [if_neg (by omega),if_neg (by omega)]
  refine ⟨fun i j e1 e2 e3=>?_,fun i j e1 e2 e3=>?_,fun i j e1 e2 e3=>?_,fun i j e1 e2 e3=>?_,fun i j e1 e2 e3 e4=>?_⟩
  · rw [A i (by omega),A j e3];exact hs1 i j e1 e2 (by omega)
  · rw [B i e1 (by omega),B j (by omega) e3];exact hs2 _ _ (by omega) (by omega) (by omega)
  · rw [C i e1 (by omega),C j (by omega) e3];exact hs1 _ _ (by omega) (by omega) (by omega)
  · rw [D i e1,D j (by omega)];exact hs2 _ _ (by omega) (by omega) (by omega)
  · rcases Nat.lt_or_ge i s with f1 |f1
    · rw [A i f1]
      rcases Nat.lt_or_ge j ((a+b)/2+m-s) with f2 |f2
      · rw [C j e3 f2];exact hs1.at_le e1 (by omega) (by omega)
      · rw [D j f2]
        have:=hq (s-1) (by omega) (by omega)
        unfold symQ at this
        have g1':=hs1.at_le (i:=i) (j:=s-1) e1 (by omega) (by omega)
        have g2':=hs2.at_le (i:=(a+b)/2+m-1-(s-1)) (j:=j) (by omega) (by omega) e4
        omega
    · rw [B i f1 e2]
      rcases Nat.lt_or_ge j ((a+b)/2+m-s) with f2 |f2
      · rw [C j e3 f2]
        have:=hn s (Nat.le_refl _) (by omega)
        unfold symQ at this
        have g1':=hs2.at_le (i:=i+(m-s)) (j:=(a+b)/2+m-1-s) (by omega) (by omega) (by omega)
        have g2':=hs1.at_le (i:=s) (j:=j-((a+b)/2-s)) (by omega) (by omega) (by omega)
        omega
      · rw [D j f2];exact hs2.at_le (by omega) (by omega) e4
theorem srtK.halves {l l' l'':List α} {a m b:Nat} (hl:SameIn l l' a m) (hl':SameIn l' l'' m b) (h1:srtK κ l' a m) (h2:srtK κ l'' m b) (h:∀ i j,a≤i→i<m→m≤j→j<b→κ (gAt l i)≤κ (gAt l j)):srtK κ l'' a b:=by
  refine (h1.congr fun i e1 e2=>hl'.out i (by omega)).join h2 fun i j e1 e2 e3 e4=>?_
  rw [hl'.out i (by omega)]
  obtain ⟨p,f1,f2,f3⟩:=hl.in_ i e1 e2
  obtain ⟨q,f4,f5,f6⟩:=hl'.in_ j e3 e4
  rw [f3,f6,hl.out q (by omega)]
  exact h p q f1 f2 f4 f5
end
end Go.Proofs.YtegpkpilfgohhaaGreat
