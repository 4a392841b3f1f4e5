/-
  Merged: XAffine, XInvert, XInvertNeg, XRInvert, XRInvertNeg, XInvertAny, XImage, XSized.
-/
import Derived.SizedLaws
import Derived.ChangeArms
import Derived.Test.YtkicdhaklnmonaaGreatMrg5
import Derived.Test.YtkicdhaklnmonaaGreatMrg11
import Derived.Test.YtkicdhaklnmonaaGreatMrg6
set_option linter.unusedVariables false
set_option linter.unusedSimpArgs false
set_option linter.unnecessarySimpa false
namespace Go.Proofs.YtkicdhaklnmonaaGreat
open Go.RowKit
end Go.Proofs.YtkicdhaklnmonaaGreat
namespace Go.Proofs.YtkicdhaklnmonaaGreat
open Go.RowKit
def sg (s x:Int):Int:=s*x
end Go.Proofs.YtkicdhaklnmonaaGreat
namespace Go.Proofs.YtkicdhaklnmonaaGreat
open Go.RowKit
end Go.Proofs.YtkicdhaklnmonaaGreat
namespace Go.Proofs.YtkicdhaklnmonaaGreat
open Go.RowKit
end Go.Proofs.YtkicdhaklnmonaaGreat
namespace Go.Proofs.YtkicdhaklnmonaaGreat
open Go.RowKit
end Go.Proofs.YtkicdhaklnmonaaGreat
namespace Go.Proofs.YtkicdhaklnmonaaGreat
open Go.RowKit
end Go.Proofs.YtkicdhaklnmonaaGreat
namespace Go.Proofs.YtkicdhaklnmonaaGreat
open Go.RowKit
end Go.Proofs.YtkicdhaklnmonaaGreat
namespace Go.Proofs.YtkicdhaklnmonaaGreat
theorem v21 {H:Type} {enc:TypeId × Value→H} {P:Program} {w:World} {base:Nat} {spare:Nat→Bool} {held:Bool} {ts:List TypeId} {ds:List (DataW H)} (hwt:(DataW.weightsEach P ts ds).all (·≤reachBytes)=true) {j:Nat} {t e:TypeId} {A:Option Addr} {n cap:Nat} {d:DataW H} {ps:List MemPlace}
    (hts:ts[j]? = some t) (hds:ds[j]? = some d) (ht:P.underlying t=some (.slice e)) (h:DataW.Trod enc P w base spare held t (.slice A n cap) d ps):n*P.bytesOf e≤reachBytes:=by
  obtain ⟨fuel,hf⟩:=h
  have hf':DataW.trod enc P w base spare held fuel t [.slice A n cap]=some (d,ps):=by simpa [Value.cells] using hf
  rcases DataW.trod_slice ht hf' with ⟨h1,_⟩ |⟨a,len,cap',elems,rest,m,_,h1,h2,_,_,_,h3,_⟩
  · simp at h1
    rw [h1.2.1];simp
  · simp at h1
    obtain ⟨_,rfl,_⟩:=h1
    simp only [Prod.mk.injEq] at h2
    have:=sized_slice hwt hts (by rw [hds,h2.1]) ht
    rw [List.length_map,List.length_map,h3] at this
    exact Nat.le_trans (Nat.mul_le_mul_right _ (Nat.le_add_right _ _)) this
end Go.Proofs.YtkicdhaklnmonaaGreat
