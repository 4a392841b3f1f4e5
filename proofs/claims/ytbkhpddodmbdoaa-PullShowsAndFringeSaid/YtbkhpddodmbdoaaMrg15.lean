/-
  Merged: XCellW, XPcBack.
-/
import Derived.Test.YtbkhpddodmbdoaaMrg12
import Derived.Test.YtbkhpddodmbdoaaMrg13
import Derived.Test.YtbkhpddodmbdoaaMrg11
import Derived.Test.YtbkhpddodmbdoaaMrg10
set_option linter.unusedVariables false
set_option linter.unusedSimpArgs false
set_option linter.unnecessarySimpa false
namespace Go.Proofs.Ytbkhpddodmbdoaa
open Go.RowKit
set_option maxRecDepth 20000
def q3k (J:Nat→Nat→Int) (W:Nat) (L:List Run) (I:Nat→Int) (i:Nat):Nat→Int:=if hasL L ((i%W:Nat):Int) ((i/W:Nat):Int)=true then I else J i
def q01 (p:Nat→PcD) (W:Nat):Nat→Nat→Nat→Int
  | 0=>fun _ _=>0
  | n+1=>q3k (q01 p W n) W (p n).L (p n).I
theorem q9l {p:Nat→PcD} {W:Nat}:∀ (n i:Nat),vecI (q01 p W n i)=q6k p W n i
  | 0,i=>rfl
  | n+1,i=>by
    unfold q01 q3k q6k
    split
    · rfl
    · exact q9l n i
theorem q4b (K L:List Run) (x y:Int):hasL (K++L) x y=(hasL K x y||hasL L x y):=by simp [hasL]
theorem z5z {J:Nat→Nat→Int} {W:Nat} {I:Nat→Int}:q3k J W [] I=J:=by funext i;simp [q3k,hasL]
theorem z37 {J:Nat→Nat→Int} {W:Nat} {K:List Run} {y x:Int} {I:Nat→Int}:q3k J W (K++[⟨y,x,x⟩]) I=q3k J W K I:=by
  funext i
  unfold q3k
  rw [q4b]
  have:hasL [⟨y,x,x⟩] ((i%W:Nat):Int) ((i/W:Nat):Int)=false:=by simp only [hasL,List.any_cons,List.any_nil,Bool.or_false,inR,decide_eq_false_iff_not];omega
  rw [this,Bool.or_false]
theorem z50 {J:Nat→Nat→Int} {W:Nat} (hW:0<W) {K:List Run} {y x0 x:Nat} {I:Nat→Int} (h0:x0≤x) (hx:x<W) (i:Nat):q3k J W (K++[⟨(y:Int),(x0:Int),((x+1:Nat):Int)⟩]) I i=if i=y*W+x then I else q3k J W (K++[⟨(y:Int),(x0:Int),(x:Int)⟩]) I i:=by
  have e:=Nat.div_add_mod i W
  have hm:=Nat.mod_lt i hW
  unfold q3k
  rw [q4b,q4b]
  by_cases hi:i=y*W+x
  · have e1:i/W=y:=by rw [hi,Nat.add_comm,Nat.add_mul_div_right _ _ hW,Nat.div_eq_of_lt hx,Nat.zero_add]
    have e2:i%W=x:=by rw [hi,Nat.add_comm,Nat.add_mul_mod_self_right,Nat.mod_eq_of_lt hx]
    have hc:(hasL K ((i%W:Nat):Int) ((i/W:Nat):Int)||hasL [⟨(y:Int),(x0:Int),((x+1:Nat):Int)⟩] ((i%W:Nat):Int) ((i/W:Nat):Int))=true:=by
      rw [e1,e2,Bool.or_eq_true]
      right
      simp [hasL,inR]
      omega
    rw [if_pos hi,if_pos hc]
  · rw [if_neg hi]
    have:hasL [⟨(y:Int),(x0:Int),((x+1:Nat):Int)⟩] ((i%W:Nat):Int) ((i/W:Nat):Int)=hasL [⟨(y:Int),(x0:Int),(x:Int)⟩] ((i%W:Nat):Int) ((i/W:Nat):Int):=by
      by_cases hy:i/W=y
      · have hne:i%W≠x:=fun h=>hi (by rw [← e,hy,h,Nat.mul_comm])
        simp only [hasL,List.any_cons,List.any_nil,Bool.or_false,inR,decide_eq_decide];omega
      · simp only [hasL,List.any_cons,List.any_nil,Bool.or_false,inR,decide_eq_decide];omega
    rw [this]
theorem z1b:∀ N:Nat,(List.replicate N [Value.int .u8 0,Value.int .u8 0,Value.int .u8 0,Value.int .u8 0,Value.int .u8 0,Value.int .u8 0,Value.int .u8 0,Value.int .u8 0]).flatten=q0p (fun _=>inkC (fun _=>0)) N
  | 0=>rfl
  | N+1=>by
    rw [List.replicate_succ',List.flatten_concat,z1b N];rfl
set_option maxHeartbeats 4000000 in
theorem z8t {A:Option Addr} {w h W N n c:Nat} {p:Nat→PcD} {G:Mem} (ok:PcsOk w h n p) (hP:PcsM G A n p) (hW:W=16*w) (hN:N=16*h*W) (hN4:N≤4096) :
    q2j Try.prog 30 [.val (.int .i64 w),.val (.int .i64 h),.val (.slice A n c)] G id 27 8 N (q0p (fun i=>inkC (q01 p W n i)) N):=by
  have hw:=ok.wd
  have hh:=ok.ht
  have hn:=ok.few
  have hW0:0<W:=by omega
  have eN:(256:Int)*(w:Int)*(h:Int)=(N:Int):=by
    rw [hN,hW];push_cast
    rw [show (16:Int)*h*(16*w)=256*w*h by
      rw [Int.mul_comm 16 (h:Int),Int.mul_assoc,← Int.mul_assoc 16 16,Int.mul_comm (h:Int)];rfl]
  refine q1y tab_ok Try.func30 (.alone fun _=>rfl) ?_
  (repeat ((try (conv=>whnf));(refine stQ ?_)))
  conv=>whnf
  refine q05 tab_ok (fun m=>m≤n) (fun (m:Nat)=>[(21,.val (.int .i64 m))]) (fun m=>[.own 27 8 N (q0p (fun i=>inkC (q01 p W m i)) N)]) (fun m=>n-m) 0 (Nat.zero_le _) ?_ ?_
  · ((refine q0h ?_);(conv=>whnf);(refine q0k (by rfl) (by rfl) flQ ?_))
    refine q0e ?_ ?_ q0g
    · show (256*(w:Int)*(h:Int)).toNat=N
      omega
    · rw [show (256*(w:Int)*(h:Int)).toNat=N by omega]
      exact z1b N
  · rintro m hm
    rcases Nat.lt_or_ge m n with h1 |h1
    · obtain ⟨a,rfl,ca⟩:=hP.cells h1
      have hR:=hP.runs m h1
      have hroom:=hP.room m h1
      obtain ⟨k1,k2,k3,k4⟩:=ok.one m h1
      have hlen:=(q22 k1).length
      (repeat ((try (conv=>whnf));(first |(refine ca _ ?_) |(refine stQ ?_))))
      conv=>whnf
      refine q05 tab_ok (fun s=>s≤(p m).L.length) (fun (s:Nat)=>[(28,.val (.int .i64 s))]) (fun s=>[.own 27 8 N (q0p (fun i=>inkC (q3k (q01 p W m) W ((p m).L.take s) (p m).I i)) N),.cells 29 [.val (.slice (p m).A (p m).L.length (p m).q),.val (.int .u8 ((p m).I 0)),.val (.int .u8 ((p m).I 1)),.val (.int .u8 ((p m).I 2)),.val (.int .u8 ((p m).I 3)),.val (.int .u8 ((p m).I 4)),.val (.int .u8 ((p m).I 5)),.val (.int .u8 ((p m).I 6)),.val (.int .u8 ((p m).I 7))]]) (fun s=>(p m).L.length-s) 0 (Nat.zero_le _) ?_ ?_
      · ((refine q0h ?_);(conv=>whnf);(refine q0k (by rfl) (by rfl) flQ ?_))
        exact q0e rfl (by rw [List.take_zero,z5z]) (q0f (by exact flQ) q0g)
      · rintro s hs
        rcases Nat.lt_or_ge s (p m).L.length with h2 |h2
        · obtain ⟨r,hr⟩:∃ r,(p m).L[s]? = some r:=⟨_,List.getElem?_eq_getElem h2⟩
          obtain ⟨b,hb,cb⟩:=hR.cells hr
          have hbd:=(q22 k1).bd (List.mem_of_getElem? hr)
          have hout:=k3 r (List.mem_of_getElem? hr)
          unfold outP at hout
          obtain ⟨ry,r0,r1⟩:=r
          dsimp only at hbd hout cb
          obtain ⟨y,rfl⟩:∃ y:Nat,ry=y:=⟨ry.toNat,by omega⟩
          obtain ⟨x0,rfl⟩:∃ y:Nat,r0=y:=⟨r0.toNat,by omega⟩
          obtain ⟨x1,rfl⟩:∃ y:Nat,r1=y:=⟨r1.toNat,by omega⟩
          have e1:(y:Int)*16*(w:Int)=((y*W:Nat):Int):=by rw [hW];push_cast;rw [Int.mul_assoc]
          have hyW:y*W+W≤N:=by
            rw [hN]
            have:=Nat.mul_le_mul_right W (show y+1≤16*h by omega)
            rw [Nat.add_mul,Nat.one_mul] at this;exact this
          rw [hb]
          (repeat ((try (conv=>whnf));(first |(refine cb _ ?_) |(refine stQ ?_))))
          conv=>whnf
          refine q05 tab_ok (fun x=>x0≤x∧x≤x1) (fun (x:Nat)=>[(13,.val (.int .i64 x))]) (fun x=>[.own 27 8 N (q0p (fun i=>inkC (q3k (q01 p W m) W ((p m).L.take s++[⟨(y:Int),(x0:Int),(x:Int)⟩]) (p m).I i)) N),.cells 29 [.val (.slice (some b) (p m).L.length (p m).q),.val (.int .u8 ((p m).I 0)),.val (.int .u8 ((p m).I 1)),.val (.int .u8 ((p m).I 2)),.val (.int .u8 ((p m).I 3)),.val (.int .u8 ((p m).I 4)),.val (.int .u8 ((p m).I 5)),.val (.int .u8 ((p m).I 6)),.val (.int .u8 ((p m).I 7))],.cells 54 [.val (.int .i64 y),.val (.int .i64 x0),.val (.int .i64 x1)]]) (fun x=>x1-x) x0 ⟨Nat.le_refl _,by omega⟩ ?_ ?_
          · ((refine q0h ?_);(conv=>whnf);(refine q0k (by rfl) (by rfl) flQ ?_))
            exact q0e rfl (by rw [z37]) (q0f (by exact flQ) (q0f (by exact flQ) q0g))
          · rintro x ⟨g1,g2⟩
            rcases Nat.lt_or_ge x x1 with h3 |h3
            · (repeat ((try (conv=>whnf));(refine stQ ?_)))
              conv=>whnf
              have eo:((y:Int)*16*(w:Int)).toNat * 8+((x:Int)).toNat * 8=(y*W+x)*8+0:=by rw [e1,Int.toNat_natCast,Int.toNat_natCast];omega
              have hxW:x<W:=by omega
              have hst:=z50 (J:=q01 p W m) hW0 (K:=(p m).L.take s) (y:=y) (I:=(p m).I) g1 hxW
              have hfl:=q8j (c:=fun i=>inkC (q3k (q01 p W m) W ((p m).L.take s++[⟨(y:Int),(x0:Int),(x:Int)⟩]) (p m).I i)) (sz:=8) (n:=N) (x:=y*W+x) (o:=0) (vs:=inkC (p m).I) (fun _ _=>rfl) (by omega) (Nat.le_refl _)
              refine q46 (ys:=q0p (fun i=>inkC (q3k (q01 p W m) W ((p m).L.take s++[⟨(y:Int),(x0:Int),((x+1:Nat):Int)⟩]) (p m).I i)) N) ?_ ?_ ?_
              · show ((y:Int)*16*(w:Int)).toNat * 8+((x:Int)).toNat * 8+8≤_
                rw [eo,q2b (sz:=8) (fun _ _=>rfl)];omega
              · show (q0p _ N).take (((y:Int)*16*(w:Int)).toNat * 8+((x:Int)).toNat * 8)++inkC (p m).I++(q0p _ N).drop (((y:Int)*16*(w:Int)).toNat * 8+((x:Int)).toNat * 8+(inkC (p m).I).length)=_
                rw [eo,hfl]
                refine q2d fun i hi=>?_
                rw [hst i]
                split <;> rfl
              conv=>whnf
              (repeat ((try (conv=>whnf));(refine stQ ?_)))
              conv=>whnf
              refine ⟨x+1,by omega,by omega,?_⟩
              ((refine q0h ?_);(conv=>whnf);(refine q0k (by rfl) (by rfl) flQ ?_))
              exact q0e rfl rfl (q0f (by exact flQ) (q0f (by exact flQ) q0g))
            · obtain rfl:x=x1:=by omega
              have htk:(p m).L.take (s+1)=(p m).L.take s++[⟨(y:Int),(x0:Int),(x:Int)⟩]:=by rw [List.take_add_one,hr];rfl
              (repeat ((try (conv=>whnf));(refine stQ ?_)))
              conv=>whnf
              refine ⟨s+1,by omega,by omega,?_⟩
              rw [htk]
              ((refine q0h ?_);(conv=>whnf);(refine q0k (by rfl) (by rfl) flQ ?_))
              exact q0e rfl rfl (q0f (by exact flQ) q0g)
        · obtain rfl:s=(p m).L.length:=by omega
          rw [List.take_length]
          (repeat ((try (conv=>whnf));(refine stQ ?_)))
          conv=>whnf
          refine ⟨m+1,by omega,by omega,?_⟩
          ((refine q0h ?_);(conv=>whnf);(refine q0k (by rfl) (by rfl) flQ ?_))
          exact q0e rfl rfl q0g
    · obtain rfl:m=n:=by omega
      (repeat ((try (conv=>whnf));(refine stQ ?_)))
      conv=>whnf
      exact .inl ⟨0,rfl,rfl⟩
end Go.Proofs.Ytbkhpddodmbdoaa
namespace Go.Proofs.Ytbkhpddodmbdoaa
open Go.RowKit
section
variable {c:Nat→List Int} {W:Nat}
end
theorem PcsOk.first {w h:Int} {n:Nat} {p:Nat→PcD} (ok:PcsOk w h n p):∀ (d i:Nat),i+d<n→(q1g (p i).L).y<(q1g (p (i+d)).L).y∨((q1g (p i).L).y=(q1g (p (i+d)).L).y∧(q1g (p i).L).x0≤(q1g (p (i+d)).L).x0)
  | 0,i,_=>.inr ⟨rfl,Int.le_refl _⟩
  | d+1,i,hd=>by
    have ih:=ok.first d i (by omega)
    have h1:=(ok.two (i+(d+1)) hd).2
    unfold ordP at h1
    rw [show i+(d+1)-1=i+d by omega] at h1
    omega
end Go.Proofs.Ytbkhpddodmbdoaa
