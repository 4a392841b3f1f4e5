/-
  The engine: ranges over functions. No program in sight.
-/
import Derived.Test.YtegpkpilfgohhaaGreatEng2
set_option linter.unusedVariables false
set_option linter.unusedSimpArgs false
set_option linter.unnecessarySimpa false
namespace Go.Proofs.YtegpkpilfgohhaaGreat
open Go.RowKit
def psF:List Tmp→List AV→List AV→(List AV→Prop)→Prop
  | [],[],fr,K=>K fr
  | t::ts,a::l,fr,K=>setF fr t a fun fr'=>psF ts l fr' K
  | _,_,_,_=>False
def Mem.put (G:Mem) (D:Nat) (o:Obj):Mem:=fun b=>if b=D then some o else G b
theorem Mem.put_same (G:Mem) (D:Nat) (o:Obj):G.put D o D=some o:=by simp [Mem.put]
theorem Mem.put_ne (G:Mem) {D b:Nat} (o:Obj) (h:b≠D):G.put D o b=G b:=by simp [Mem.put,h]
end Go.Proofs.YtegpkpilfgohhaaGreat
