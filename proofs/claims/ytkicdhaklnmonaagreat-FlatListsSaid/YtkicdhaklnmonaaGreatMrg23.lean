/-
  Merged: XListC, XListR, XCells, XSmooth, XRSmooth, XSmoothBoth, XImageBoth, XListX.
-/
import Derived.Test.YtkicdhaklnmonaaGreatMrg22
import Derived.Test.YtkicdhaklnmonaaGreatMrg5
set_option linter.unusedVariables false
set_option linter.unusedSimpArgs false
set_option linter.unnecessarySimpa false
namespace Go.Proofs.YtkicdhaklnmonaaGreat
open Go.RowKit
set_option maxRecDepth 20000
theorem z86 {I:Nat→Int}:inkZ (I 0) (I 1) (I 2) (I 3) (I 4) (I 5) (I 6) (I 7)=true↔(I 0=0∧I 1=0∧I 2=0∧I 3=0∧I 4=0∧I 5=0∧I 6=0∧I 7=0):=by
  simp [inkZ,and_assoc]
section
variable {k:Int} {I:Nat→Int} {fx fy tx ty r:Int} {A:Option Addr} {n q:Nat} {W H:Int} {B:Option Addr} {pn pq:Nat} {C:Option Addr} {sn sq:Nat} {a b c d e f:Int} {s t:Bool} {G:Mem} {gE iE:Int} {T:Nat→Int} {D D':Nat→Nat→Int}
end
end Go.Proofs.YtkicdhaklnmonaaGreat
namespace Go.Proofs.YtkicdhaklnmonaaGreat
open Go.RowKit
set_option maxRecDepth 20000
theorem x9r {fx fy tx ty r:Int} {n:Nat}:q5n fx fy tx ty r n=true↔(fx=0∧fy=0∧tx=0∧ty=0∧r=0∧n=0):=by
  simp [q5n,and_assoc]
section
variable {k:Int} {I:Nat→Int} {fx fy tx ty r:Int} {A:Option Addr} {n q:Nat} {W H:Int} {B:Option Addr} {pn pq:Nat} {C:Option Addr} {sn sq:Nat} {a b c d e f:Int} {s t:Bool} {G:Mem} {gE iE:Int} {D D':Nat→Nat→Int}
end
end Go.Proofs.YtkicdhaklnmonaaGreat
namespace Go.Proofs.YtkicdhaklnmonaaGreat
open Go.RowKit
set_option maxRecDepth 20000
section
variable {W H:Int} {A B:Option Addr} {n p m q:Nat} {a b c d e f:Int} {s r:Bool} {u v:Int} {G:Mem}
end
end Go.Proofs.YtkicdhaklnmonaaGreat
namespace Go.Proofs.YtkicdhaklnmonaaGreat
open Go.RowKit
set_option maxRecDepth 20000
section
variable {W H:Int} {A B:Option Addr} {n p m q:Nat} {a b c d e f:Int} {s r:Bool} {G:Mem}
end
end Go.Proofs.YtkicdhaklnmonaaGreat
namespace Go.Proofs.YtkicdhaklnmonaaGreat
open Go.RowKit
set_option maxRecDepth 20000
section
variable {W H:Int} {A B:Option Addr} {n p m q:Nat} {a b c d e f:Int} {s r:Bool} {G:Mem}
end
end Go.Proofs.YtkicdhaklnmonaaGreat
namespace Go.Proofs.YtkicdhaklnmonaaGreat
open Go.RowKit
set_option maxRecDepth 20000
section
variable {W H:Int} {A B:Option Addr} {n p m q:Nat} {P:Nat→Nat→Int} {S:Nat→Int} {a b c d e f:Int} {r:Bool} {G:Mem} {X Y:Int}
end
end Go.Proofs.YtkicdhaklnmonaaGreat
namespace Go.Proofs.YtkicdhaklnmonaaGreat.imageCells
open Go.RowKit
set_option maxRecDepth 20000
section
variable {W H:Int} {A B:Option Addr} {n p m q:Nat} {a b c d e f:Int} {s r:Bool} {x y:Int} {w:World} {g h:Nat→Nat→Value}
end
end Go.Proofs.YtkicdhaklnmonaaGreat.imageCells
namespace Go.Proofs.YtkicdhaklnmonaaGreat
open Go.RowKit Go.Proofs.YtkicdhaklnmonaaGreat.gradientRamps Go.Proofs.YtkicdhaklnmonaaGreat.gradientPlaces Go.Proofs.YtkicdhaklnmonaaGreat.imageCells
set_option maxRecDepth 20000
section
variable {w:World} {A:Option Addr} {n:Nat} {g:Nat→Nat→Value}
end
section
variable {k:Int} {I:Nat→Int} {fx fy tx ty r:Int} {A:Option Addr} {n q:Nat} {W H:Int} {B:Option Addr} {pn pq:Nat} {C:Option Addr} {sn sq:Nat} {a b c d e f:Int} {s t:Bool} {G:Mem} {er x y:Int}
set_option maxHeartbeats 4000000
end
end Go.Proofs.YtkicdhaklnmonaaGreat
