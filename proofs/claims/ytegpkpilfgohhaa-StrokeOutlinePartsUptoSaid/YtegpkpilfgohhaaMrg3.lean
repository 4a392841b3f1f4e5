/-
  Merged: XMath, XQuo.
-/
import Derived.WalkKit
import Derived.WalkLawsBesides
import Derived.Handy
import Derived.Test.YtegpkpilfgohhaaProg
set_option linter.unusedVariables false
set_option linter.unusedSimpArgs false
set_option linter.unnecessarySimpa false
namespace Go.Proofs.Ytegpkpilfgohhaa
open Go.RowKit
theorem z1o (a b:Int) (hb:1≤b):a/b=if a.tmod b<0 then a.tdiv b-1 else a.tdiv b:=by
  have hd:=Int.mul_tdiv_add_tmod a b
  have h1:a.tmod b<b:=Int.tmod_lt_of_pos a (by omega)
  have h2:-b<a.tmod b:=by
    have:=Int.tmod_lt_of_pos (-a) (b:=b) (by omega)
    rw [Int.neg_tmod] at this
    omega
  split
  · rename_i h
    refine ((Int.ediv_emod_unique (a:=a) (b:=b) (r:=a.tmod b+b) (q:=a.tdiv b-1) (by omega)).2 ⟨?_,?_,?_⟩).1
    · rw [Int.mul_sub];omega
    · omega
    · omega
  · rename_i h
    exact ((Int.ediv_emod_unique (a:=a) (b:=b) (r:=a.tmod b) (q:=a.tdiv b) (by omega)).2 ⟨by omega,by omega,by omega⟩).1
theorem z7n (a b:Int) (hb:1≤b):a%b=if a.tmod b<0 then a.tmod b+b else a.tmod b:=by
  have h:=z1o a b hb
  have hd:=Int.mul_tdiv_add_tmod a b
  have he:=Int.mul_ediv_add_emod a b
  split at h
  · rename_i h1;rw [if_pos h1];rw [h,Int.mul_sub] at he;omega
  · rename_i h1;rw [if_neg h1];rw [h] at he;omega
theorem q6r (a b:Int) (hb:1≤b):(0≤a→0≤a/b∧a/b≤a)∧(a≤0→a≤a/b∧a/b≤0):=by
  refine ⟨fun h=>⟨Int.ediv_nonneg h (by omega),Int.ediv_le_self b h⟩,fun h=>⟨?_,?_⟩⟩
  · refine Int.le_ediv_of_mul_le (by omega) ?_
    have:=Int.mul_le_mul_of_nonpos_left (a:=a) h (c:=1) (b:=b) (by omega)
    omega
  · have hm:=Int.emod_nonneg a (b:=b) (by omega)
    have he:=Int.mul_ediv_add_emod a b
    by_cases h0:a/b≤0
    · exact h0
    · have:b*1≤b*(a/b):=Int.mul_le_mul_of_nonneg_left (by omega) (by omega)
      omega
theorem z9z (a b:Int) (hb:1≤b):(0≤a→0≤a.tdiv b∧a.tdiv b≤a)∧(a≤0→a≤a.tdiv b∧a.tdiv b≤0):=by
  have h:=q6r a b hb
  have h':=q6r (-a) b hb
  constructor
  · intro h0;rw [Int.tdiv_eq_ediv_of_nonneg h0];exact h.1 h0
  · intro h0
    have e:a.tdiv b=-((-a)/b):=by
      rw [← Int.tdiv_eq_ediv_of_nonneg (by omega),Int.neg_tdiv];omega
    have:=h'.1 (by omega)
    rw [e];omega
theorem z6y (a b:Int):a-a/b*b=a%b:=by
  have he:=Int.mul_ediv_add_emod a b
  rw [Int.mul_comm] at he;omega
theorem z6z (a b:Int) (hb:1≤b):0≤a%b∧a%b<b:=⟨Int.emod_nonneg a (by omega),Int.emod_lt_of_pos a (by omega)⟩
def near (a b:Int):Int:=if b-a%b≤a%b then a/b+1 else a/b
theorem z30 (a b:Int) (hb:1≤b):(a-a%b).tdiv b=a/b:=by
  have he:=Int.mul_ediv_add_emod a b
  have:a-a%b=b*(a/b):=by omega
  rw [this,Int.mul_tdiv_cancel_left _ (by omega)]
theorem x05 (a b:Int) (hb:1≤b):-b<a.tmod b∧a.tmod b<b:=by
  have h1:a.tmod b<b:=Int.tmod_lt_of_pos a (by omega)
  have:=Int.tmod_lt_of_pos (-a) (b:=b) (by omega)
  rw [Int.neg_tmod] at this
  exact ⟨by omega,h1⟩
theorem q39 {k:IntKind} {a b:Int} (h:a=b):Ending.returned (.int k a)=.returned (.int k b):=by rw [h]
end Go.Proofs.Ytegpkpilfgohhaa
namespace Go.Proofs.Ytegpkpilfgohhaa
open Go.RowKit
set_option maxHeartbeats 400000 in
theorem x06 (a b:Int) (w:World) (ha:-4611686018427387904≤a∧a≤4611686018427387904) (hb:1≤b∧b≤4611686018427387904) :
    Calls Try.prog 71 #[.int .i64 a,.int .i64 b] w fun e w'=>e=.returned (.int .i64 (a/b))∧w=w':=by
  have hf:Hid _:=z1o a b hb.1
  have ht:=z9z a b hb.1
  go_enter Try.func71,Try.ntmps71
  go_wp2
  all_goals go_ret
  · exact ⟨q39 (by rw [hf.out,if_pos (by assumption)]),rfl⟩
  · exact ⟨q39 (by rw [hf.out,if_neg (by omega)]),rfl⟩
set_option maxHeartbeats 400000 in
theorem z90 (a b:Int) (w:World) (ha:-4611686018427387904≤a∧a≤4611686018427387904) (hb:1≤b∧b≤4611686018427387904) :
    Calls Try.prog 76 #[.int .i64 a,.int .i64 b] w fun e w'=>e=.returned (.int .i64 (near a b))∧w=w':=by
  have hm:Hid _:=z6y a b
  have hb':=z6z a b hb.1
  have hd:=q6r a b hb.1
  have he:=Int.mul_ediv_add_emod a b
  rw [Int.mul_comm] at he
  go_enter Try.func76,Try.ntmps76
  go_wp2_with (go_at_call 71;refine (x06 _ _ _ ha hb).mono ?_;rintro e w' ⟨rfl,rfl⟩)
  all_goals go_ret
  all_goals refine ⟨q39 ?_,rfl⟩
  · unfold near;rw [← hm.out,if_pos (by omega)]
  · unfold near;rw [← hm.out,if_neg (by omega)]
end Go.Proofs.Ytegpkpilfgohhaa
