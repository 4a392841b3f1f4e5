/-
  The contract of blend.Mode and of the function that it makes.
-/
import Derived.Test.YtkicdhaklnmonaaGreatMrg5
set_option linter.unusedVariables false
set_option linter.unusedSimpArgs false
set_option linter.unnecessarySimpa false
namespace Go.Proofs.YtkicdhaklnmonaaGreat
open Go.RowKit
def q28 (k:Int):FuncId :=
  if k=1 then 162 else if k=2 then 163 else if k=3 then 164 else if k=4 then 166 else if k=5 then 167
  else if k=6 then 168 else if k=7 then 169 else if k=8 then 165 else if k=9 then 170 else if k=10 then 171 else if k=11 then 172 else 161
theorem q21 (k b s:Int) (w:World) (hk:0≤k∧k≤11) (hb:0≤b∧b≤255) (hs:0≤s∧s≤255) :
    Calls Tryz.prog (q28 k) #[.int .i64 b,.int .i64 s] w fun e w'=>e=.returned (.int .i64 (blV k b s))∧w=w':=by
  have:k=0∨k=1∨k=2∨k=3∨k=4∨k=5∨k=6∨k=7∨k=8∨k=9∨k=10∨k=11:=by omega
  rcases this with rfl |rfl |rfl |rfl |rfl |rfl |rfl |rfl |rfl |rfl |rfl |rfl
  · exact x31 b s w hb hs
  · exact z0t b s w hb hs
  · exact x32 b s w hb hs
  · exact x33 b s w hb hs
  · exact x34 b s w hb hs
  · exact x35 b s w hb hs
  · exact x2b b s w hb hs
  · exact x30 b s w hb hs
  · exact z61 b s w hb hs
  · exact x36 b s w hb hs
  · exact x2c b s w hb hs
  · exact x2d b s w hb hs
def q24:Obj:=.cells #[.func (.func 161) #[] #[],.func (.func 162) #[] #[],.func (.func 163) #[] #[],.func (.func 164) #[] #[],.func (.func 166) #[] #[],.func (.func 167) #[] #[],.func (.func 168) #[] #[],.func (.func 169) #[] #[],.func (.func 165) #[] #[],.func (.func 170) #[] #[],.func (.func 171) #[] #[],.func (.func 172) #[] #[]] 203
set_option maxRecDepth 20000 in
set_option maxHeartbeats 2000000 in
theorem q22 (w:World):Calls Tryz.prog 144 #[] w fun e w'=>e=.returned (.agg #[.func (.func 161) #[] #[],.func (.func 162) #[] #[],.func (.func 163) #[] #[],.func (.func 164) #[] #[],.func (.func 166) #[] #[],.func (.func 167) #[] #[],.func (.func 168) #[] #[],.func (.func 169) #[] #[],.func (.func 165) #[] #[],.func (.func 170) #[] #[],.func (.func 171) #[] #[],.func (.func 172) #[] #[]])∧w.alloc q24=w':=by
  go_enter Tryz.func144,Tryz.ntmps144
  go_wp2_with fail
  go_returns
  exact ⟨rfl,rfl⟩
set_option maxRecDepth 20000 in
set_option maxHeartbeats 1000000 in
theorem x58 (b s:Int) (p:Nat) (w:World) (hb:0≤b∧b≤255) (hs:0≤s∧s≤255) (hc:∀ o,w.cell? ⟨p,o,none⟩=#[Value.func (.func 161) #[] #[]][o]?) :
    Calls Tryz.prog 145 #[.int .u8 b,.int .u8 s,.pointer (some ⟨p,0,none⟩)] w fun e w'=>e=.returned (.int .u8 (blV 0 b s))∧w=w':=by
  have hr:=q3x (k:=0) hb hs
  have hF:=fun w=>q21 0 b s w (by omega) hb hs
  rw [show q28 0=161 by decide] at hF
  generalize blV 0 b s=r at *
  go_enter Tryz.func145,Tryz.ntmps145
  go_wp2_with (first |(go_at_call 161;refine (hF _).mono ?_;rintro e w' ⟨rfl,rfl⟩))
  go_ret
  exact ⟨by rfl,rfl⟩
set_option maxRecDepth 20000 in
set_option maxHeartbeats 2000000 in
theorem x9p (w:World):Calls Tryz.prog 108 #[.int .i64 0] w fun e w'=>e=.returned (.tuple #[.func (.func 145) #[] #[.pointer (some ⟨w.heap.size+1,0,none⟩)],.int .i64 0])∧(w.alloc q24).alloc (.cells #[.func (.func 161) #[] #[]] 112)=w':=by
  have i1:∀ w,(Instr.index 203 (.agg #[.func (.func 161) #[] #[],.func (.func 162) #[] #[],.func (.func 163) #[] #[],.func (.func 164) #[] #[],.func (.func 166) #[] #[],.func (.func 167) #[] #[],.func (.func 168) #[] #[],.func (.func 169) #[] #[],.func (.func 165) #[] #[],.func (.func 170) #[] #[],.func (.func 171) #[] #[],.func (.func 172) #[] #[]]) (.int .i64 0)).run Tryz.prog w=.ok (.func (.func 161) #[] #[]) w:=fun _=>by kernel_rfl
  go_enter Tryz.func108,Tryz.ntmps108
  go_wp2_with (first |(go_at_call 144;refine (q22 _).mono ?_;rintro e w' ⟨rfl,rfl⟩))
  go_ret2
  exact ⟨rfl,rfl⟩
set_option maxRecDepth 20000 in
set_option maxHeartbeats 1000000 in
theorem x59 (b s:Int) (p:Nat) (w:World) (hb:0≤b∧b≤255) (hs:0≤s∧s≤255) (hc:∀ o,w.cell? ⟨p,o,none⟩=#[Value.func (.func 162) #[] #[]][o]?) :
    Calls Tryz.prog 145 #[.int .u8 b,.int .u8 s,.pointer (some ⟨p,0,none⟩)] w fun e w'=>e=.returned (.int .u8 (blV 1 b s))∧w=w':=by
  have hr:=q3x (k:=1) hb hs
  have hF:=fun w=>q21 1 b s w (by omega) hb hs
  rw [show q28 1=162 by decide] at hF
  generalize blV 1 b s=r at *
  go_enter Tryz.func145,Tryz.ntmps145
  go_wp2_with (first |(go_at_call 162;refine (hF _).mono ?_;rintro e w' ⟨rfl,rfl⟩))
  go_ret
  exact ⟨by rfl,rfl⟩
set_option maxRecDepth 20000 in
set_option maxHeartbeats 2000000 in
theorem x9q (w:World):Calls Tryz.prog 108 #[.int .i64 1] w fun e w'=>e=.returned (.tuple #[.func (.func 145) #[] #[.pointer (some ⟨w.heap.size+1,0,none⟩)],.int .i64 0])∧(w.alloc q24).alloc (.cells #[.func (.func 162) #[] #[]] 112)=w':=by
  have i1:∀ w,(Instr.index 203 (.agg #[.func (.func 161) #[] #[],.func (.func 162) #[] #[],.func (.func 163) #[] #[],.func (.func 164) #[] #[],.func (.func 166) #[] #[],.func (.func 167) #[] #[],.func (.func 168) #[] #[],.func (.func 169) #[] #[],.func (.func 165) #[] #[],.func (.func 170) #[] #[],.func (.func 171) #[] #[],.func (.func 172) #[] #[]]) (.int .i64 1)).run Tryz.prog w=.ok (.func (.func 162) #[] #[]) w:=fun _=>by kernel_rfl
  go_enter Tryz.func108,Tryz.ntmps108
  go_wp2_with (first |(go_at_call 144;refine (q22 _).mono ?_;rintro e w' ⟨rfl,rfl⟩))
  go_ret2
  exact ⟨rfl,rfl⟩
set_option maxRecDepth 20000 in
set_option maxHeartbeats 1000000 in
theorem x6a (b s:Int) (p:Nat) (w:World) (hb:0≤b∧b≤255) (hs:0≤s∧s≤255) (hc:∀ o,w.cell? ⟨p,o,none⟩=#[Value.func (.func 163) #[] #[]][o]?) :
    Calls Tryz.prog 145 #[.int .u8 b,.int .u8 s,.pointer (some ⟨p,0,none⟩)] w fun e w'=>e=.returned (.int .u8 (blV 2 b s))∧w=w':=by
  have hr:=q3x (k:=2) hb hs
  have hF:=fun w=>q21 2 b s w (by omega) hb hs
  rw [show q28 2=163 by decide] at hF
  generalize blV 2 b s=r at *
  go_enter Tryz.func145,Tryz.ntmps145
  go_wp2_with (first |(go_at_call 163;refine (hF _).mono ?_;rintro e w' ⟨rfl,rfl⟩))
  go_ret
  exact ⟨by rfl,rfl⟩
set_option maxRecDepth 20000 in
set_option maxHeartbeats 2000000 in
theorem x9r (w:World):Calls Tryz.prog 108 #[.int .i64 2] w fun e w'=>e=.returned (.tuple #[.func (.func 145) #[] #[.pointer (some ⟨w.heap.size+1,0,none⟩)],.int .i64 0])∧(w.alloc q24).alloc (.cells #[.func (.func 163) #[] #[]] 112)=w':=by
  have i1:∀ w,(Instr.index 203 (.agg #[.func (.func 161) #[] #[],.func (.func 162) #[] #[],.func (.func 163) #[] #[],.func (.func 164) #[] #[],.func (.func 166) #[] #[],.func (.func 167) #[] #[],.func (.func 168) #[] #[],.func (.func 169) #[] #[],.func (.func 165) #[] #[],.func (.func 170) #[] #[],.func (.func 171) #[] #[],.func (.func 172) #[] #[]]) (.int .i64 2)).run Tryz.prog w=.ok (.func (.func 163) #[] #[]) w:=fun _=>by kernel_rfl
  go_enter Tryz.func108,Tryz.ntmps108
  go_wp2_with (first |(go_at_call 144;refine (q22 _).mono ?_;rintro e w' ⟨rfl,rfl⟩))
  go_ret2
  exact ⟨rfl,rfl⟩
set_option maxRecDepth 20000 in
set_option maxHeartbeats 1000000 in
theorem x6b (b s:Int) (p:Nat) (w:World) (hb:0≤b∧b≤255) (hs:0≤s∧s≤255) (hc:∀ o,w.cell? ⟨p,o,none⟩=#[Value.func (.func 164) #[] #[]][o]?) :
    Calls Tryz.prog 145 #[.int .u8 b,.int .u8 s,.pointer (some ⟨p,0,none⟩)] w fun e w'=>e=.returned (.int .u8 (blV 3 b s))∧w=w':=by
  have hr:=q3x (k:=3) hb hs
  have hF:=fun w=>q21 3 b s w (by omega) hb hs
  rw [show q28 3=164 by decide] at hF
  generalize blV 3 b s=r at *
  go_enter Tryz.func145,Tryz.ntmps145
  go_wp2_with (first |(go_at_call 164;refine (hF _).mono ?_;rintro e w' ⟨rfl,rfl⟩))
  go_ret
  exact ⟨by rfl,rfl⟩
set_option maxRecDepth 20000 in
set_option maxHeartbeats 2000000 in
theorem x9s (w:World):Calls Tryz.prog 108 #[.int .i64 3] w fun e w'=>e=.returned (.tuple #[.func (.func 145) #[] #[.pointer (some ⟨w.heap.size+1,0,none⟩)],.int .i64 0])∧(w.alloc q24).alloc (.cells #[.func (.func 164) #[] #[]] 112)=w':=by
  have i1:∀ w,(Instr.index 203 (.agg #[.func (.func 161) #[] #[],.func (.func 162) #[] #[],.func (.func 163) #[] #[],.func (.func 164) #[] #[],.func (.func 166) #[] #[],.func (.func 167) #[] #[],.func (.func 168) #[] #[],.func (.func 169) #[] #[],.func (.func 165) #[] #[],.func (.func 170) #[] #[],.func (.func 171) #[] #[],.func (.func 172) #[] #[]]) (.int .i64 3)).run Tryz.prog w=.ok (.func (.func 164) #[] #[]) w:=fun _=>by kernel_rfl
  go_enter Tryz.func108,Tryz.ntmps108
  go_wp2_with (first |(go_at_call 144;refine (q22 _).mono ?_;rintro e w' ⟨rfl,rfl⟩))
  go_ret2
  exact ⟨rfl,rfl⟩
set_option maxRecDepth 20000 in
set_option maxHeartbeats 1000000 in
theorem x6c (b s:Int) (p:Nat) (w:World) (hb:0≤b∧b≤255) (hs:0≤s∧s≤255) (hc:∀ o,w.cell? ⟨p,o,none⟩=#[Value.func (.func 166) #[] #[]][o]?) :
    Calls Tryz.prog 145 #[.int .u8 b,.int .u8 s,.pointer (some ⟨p,0,none⟩)] w fun e w'=>e=.returned (.int .u8 (blV 4 b s))∧w=w':=by
  have hr:=q3x (k:=4) hb hs
  have hF:=fun w=>q21 4 b s w (by omega) hb hs
  rw [show q28 4=166 by decide] at hF
  generalize blV 4 b s=r at *
  go_enter Tryz.func145,Tryz.ntmps145
  go_wp2_with (first |(go_at_call 166;refine (hF _).mono ?_;rintro e w' ⟨rfl,rfl⟩))
  go_ret
  exact ⟨by rfl,rfl⟩
set_option maxRecDepth 20000 in
set_option maxHeartbeats 2000000 in
theorem x9t (w:World):Calls Tryz.prog 108 #[.int .i64 4] w fun e w'=>e=.returned (.tuple #[.func (.func 145) #[] #[.pointer (some ⟨w.heap.size+1,0,none⟩)],.int .i64 0])∧(w.alloc q24).alloc (.cells #[.func (.func 166) #[] #[]] 112)=w':=by
  have i1:∀ w,(Instr.index 203 (.agg #[.func (.func 161) #[] #[],.func (.func 162) #[] #[],.func (.func 163) #[] #[],.func (.func 164) #[] #[],.func (.func 166) #[] #[],.func (.func 167) #[] #[],.func (.func 168) #[] #[],.func (.func 169) #[] #[],.func (.func 165) #[] #[],.func (.func 170) #[] #[],.func (.func 171) #[] #[],.func (.func 172) #[] #[]]) (.int .i64 4)).run Tryz.prog w=.ok (.func (.func 166) #[] #[]) w:=fun _=>by kernel_rfl
  go_enter Tryz.func108,Tryz.ntmps108
  go_wp2_with (first |(go_at_call 144;refine (q22 _).mono ?_;rintro e w' ⟨rfl,rfl⟩))
  go_ret2
  exact ⟨rfl,rfl⟩
set_option maxRecDepth 20000 in
set_option maxHeartbeats 1000000 in
theorem x6d (b s:Int) (p:Nat) (w:World) (hb:0≤b∧b≤255) (hs:0≤s∧s≤255) (hc:∀ o,w.cell? ⟨p,o,none⟩=#[Value.func (.func 167) #[] #[]][o]?) :
    Calls Tryz.prog 145 #[.int .u8 b,.int .u8 s,.pointer (some ⟨p,0,none⟩)] w fun e w'=>e=.returned (.int .u8 (blV 5 b s))∧w=w':=by
  have hr:=q3x (k:=5) hb hs
  have hF:=fun w=>q21 5 b s w (by omega) hb hs
  rw [show q28 5=167 by decide] at hF
  generalize blV 5 b s=r at *
  go_enter Tryz.func145,Tryz.ntmps145
  go_wp2_with (first |(go_at_call 167;refine (hF _).mono ?_;rintro e w' ⟨rfl,rfl⟩))
  go_ret
  exact ⟨by rfl,rfl⟩
set_option maxRecDepth 20000 in
set_option maxHeartbeats 2000000 in
theorem x9u (w:World):Calls Tryz.prog 108 #[.int .i64 5] w fun e w'=>e=.returned (.tuple #[.func (.func 145) #[] #[.pointer (some ⟨w.heap.size+1,0,none⟩)],.int .i64 0])∧(w.alloc q24).alloc (.cells #[.func (.func 167) #[] #[]] 112)=w':=by
  have i1:∀ w,(Instr.index 203 (.agg #[.func (.func 161) #[] #[],.func (.func 162) #[] #[],.func (.func 163) #[] #[],.func (.func 164) #[] #[],.func (.func 166) #[] #[],.func (.func 167) #[] #[],.func (.func 168) #[] #[],.func (.func 169) #[] #[],.func (.func 165) #[] #[],.func (.func 170) #[] #[],.func (.func 171) #[] #[],.func (.func 172) #[] #[]]) (.int .i64 5)).run Tryz.prog w=.ok (.func (.func 167) #[] #[]) w:=fun _=>by kernel_rfl
  go_enter Tryz.func108,Tryz.ntmps108
  go_wp2_with (first |(go_at_call 144;refine (q22 _).mono ?_;rintro e w' ⟨rfl,rfl⟩))
  go_ret2
  exact ⟨rfl,rfl⟩
set_option maxRecDepth 20000 in
set_option maxHeartbeats 1000000 in
theorem x6e (b s:Int) (p:Nat) (w:World) (hb:0≤b∧b≤255) (hs:0≤s∧s≤255) (hc:∀ o,w.cell? ⟨p,o,none⟩=#[Value.func (.func 168) #[] #[]][o]?) :
    Calls Tryz.prog 145 #[.int .u8 b,.int .u8 s,.pointer (some ⟨p,0,none⟩)] w fun e w'=>e=.returned (.int .u8 (blV 6 b s))∧w=w':=by
  have hr:=q3x (k:=6) hb hs
  have hF:=fun w=>q21 6 b s w (by omega) hb hs
  rw [show q28 6=168 by decide] at hF
  generalize blV 6 b s=r at *
  go_enter Tryz.func145,Tryz.ntmps145
  go_wp2_with (first |(go_at_call 168;refine (hF _).mono ?_;rintro e w' ⟨rfl,rfl⟩))
  go_ret
  exact ⟨by rfl,rfl⟩
set_option maxRecDepth 20000 in
set_option maxHeartbeats 2000000 in
theorem x9v (w:World):Calls Tryz.prog 108 #[.int .i64 6] w fun e w'=>e=.returned (.tuple #[.func (.func 145) #[] #[.pointer (some ⟨w.heap.size+1,0,none⟩)],.int .i64 0])∧(w.alloc q24).alloc (.cells #[.func (.func 168) #[] #[]] 112)=w':=by
  have i1:∀ w,(Instr.index 203 (.agg #[.func (.func 161) #[] #[],.func (.func 162) #[] #[],.func (.func 163) #[] #[],.func (.func 164) #[] #[],.func (.func 166) #[] #[],.func (.func 167) #[] #[],.func (.func 168) #[] #[],.func (.func 169) #[] #[],.func (.func 165) #[] #[],.func (.func 170) #[] #[],.func (.func 171) #[] #[],.func (.func 172) #[] #[]]) (.int .i64 6)).run Tryz.prog w=.ok (.func (.func 168) #[] #[]) w:=fun _=>by kernel_rfl
  go_enter Tryz.func108,Tryz.ntmps108
  go_wp2_with (first |(go_at_call 144;refine (q22 _).mono ?_;rintro e w' ⟨rfl,rfl⟩))
  go_ret2
  exact ⟨rfl,rfl⟩
set_option maxRecDepth 20000 in
set_option maxHeartbeats 1000000 in
theorem x6f (b s:Int) (p:Nat) (w:World) (hb:0≤b∧b≤255) (hs:0≤s∧s≤255) (hc:∀ o,w.cell? ⟨p,o,none⟩=#[Value.func (.func 169) #[] #[]][o]?) :
    Calls Tryz.prog 145 #[.int .u8 b,.int .u8 s,.pointer (some ⟨p,0,none⟩)] w fun e w'=>e=.returned (.int .u8 (blV 7 b s))∧w=w':=by
  have hr:=q3x (k:=7) hb hs
  have hF:=fun w=>q21 7 b s w (by omega) hb hs
  rw [show q28 7=169 by decide] at hF
  generalize blV 7 b s=r at *
  go_enter Tryz.func145,Tryz.ntmps145
  go_wp2_with (first |(go_at_call 169;refine (hF _).mono ?_;rintro e w' ⟨rfl,rfl⟩))
  go_ret
  exact ⟨by rfl,rfl⟩
set_option maxRecDepth 20000 in
set_option maxHeartbeats 2000000 in
theorem x9w (w:World):Calls Tryz.prog 108 #[.int .i64 7] w fun e w'=>e=.returned (.tuple #[.func (.func 145) #[] #[.pointer (some ⟨w.heap.size+1,0,none⟩)],.int .i64 0])∧(w.alloc q24).alloc (.cells #[.func (.func 169) #[] #[]] 112)=w':=by
  have i1:∀ w,(Instr.index 203 (.agg #[.func (.func 161) #[] #[],.func (.func 162) #[] #[],.func (.func 163) #[] #[],.func (.func 164) #[] #[],.func (.func 166) #[] #[],.func (.func 167) #[] #[],.func (.func 168) #[] #[],.func (.func 169) #[] #[],.func (.func 165) #[] #[],.func (.func 170) #[] #[],.func (.func 171) #[] #[],.func (.func 172) #[] #[]]) (.int .i64 7)).run Tryz.prog w=.ok (.func (.func 169) #[] #[]) w:=fun _=>by kernel_rfl
  go_enter Tryz.func108,Tryz.ntmps108
  go_wp2_with (first |(go_at_call 144;refine (q22 _).mono ?_;rintro e w' ⟨rfl,rfl⟩))
  go_ret2
  exact ⟨rfl,rfl⟩
set_option maxRecDepth 20000 in
set_option maxHeartbeats 1000000 in
theorem x6g (b s:Int) (p:Nat) (w:World) (hb:0≤b∧b≤255) (hs:0≤s∧s≤255) (hc:∀ o,w.cell? ⟨p,o,none⟩=#[Value.func (.func 165) #[] #[]][o]?) :
    Calls Tryz.prog 145 #[.int .u8 b,.int .u8 s,.pointer (some ⟨p,0,none⟩)] w fun e w'=>e=.returned (.int .u8 (blV 8 b s))∧w=w':=by
  have hr:=q3x (k:=8) hb hs
  have hF:=fun w=>q21 8 b s w (by omega) hb hs
  rw [show q28 8=165 by decide] at hF
  generalize blV 8 b s=r at *
  go_enter Tryz.func145,Tryz.ntmps145
  go_wp2_with (first |(go_at_call 165;refine (hF _).mono ?_;rintro e w' ⟨rfl,rfl⟩))
  go_ret
  exact ⟨by rfl,rfl⟩
set_option maxRecDepth 20000 in
set_option maxHeartbeats 2000000 in
theorem x9x (w:World):Calls Tryz.prog 108 #[.int .i64 8] w fun e w'=>e=.returned (.tuple #[.func (.func 145) #[] #[.pointer (some ⟨w.heap.size+1,0,none⟩)],.int .i64 0])∧(w.alloc q24).alloc (.cells #[.func (.func 165) #[] #[]] 112)=w':=by
  have i1:∀ w,(Instr.index 203 (.agg #[.func (.func 161) #[] #[],.func (.func 162) #[] #[],.func (.func 163) #[] #[],.func (.func 164) #[] #[],.func (.func 166) #[] #[],.func (.func 167) #[] #[],.func (.func 168) #[] #[],.func (.func 169) #[] #[],.func (.func 165) #[] #[],.func (.func 170) #[] #[],.func (.func 171) #[] #[],.func (.func 172) #[] #[]]) (.int .i64 8)).run Tryz.prog w=.ok (.func (.func 165) #[] #[]) w:=fun _=>by kernel_rfl
  go_enter Tryz.func108,Tryz.ntmps108
  go_wp2_with (first |(go_at_call 144;refine (q22 _).mono ?_;rintro e w' ⟨rfl,rfl⟩))
  go_ret2
  exact ⟨rfl,rfl⟩
set_option maxRecDepth 20000 in
set_option maxHeartbeats 1000000 in
theorem x6h (b s:Int) (p:Nat) (w:World) (hb:0≤b∧b≤255) (hs:0≤s∧s≤255) (hc:∀ o,w.cell? ⟨p,o,none⟩=#[Value.func (.func 170) #[] #[]][o]?) :
    Calls Tryz.prog 145 #[.int .u8 b,.int .u8 s,.pointer (some ⟨p,0,none⟩)] w fun e w'=>e=.returned (.int .u8 (blV 9 b s))∧w=w':=by
  have hr:=q3x (k:=9) hb hs
  have hF:=fun w=>q21 9 b s w (by omega) hb hs
  rw [show q28 9=170 by decide] at hF
  generalize blV 9 b s=r at *
  go_enter Tryz.func145,Tryz.ntmps145
  go_wp2_with (first |(go_at_call 170;refine (hF _).mono ?_;rintro e w' ⟨rfl,rfl⟩))
  go_ret
  exact ⟨by rfl,rfl⟩
set_option maxRecDepth 20000 in
set_option maxHeartbeats 2000000 in
theorem x9y (w:World):Calls Tryz.prog 108 #[.int .i64 9] w fun e w'=>e=.returned (.tuple #[.func (.func 145) #[] #[.pointer (some ⟨w.heap.size+1,0,none⟩)],.int .i64 0])∧(w.alloc q24).alloc (.cells #[.func (.func 170) #[] #[]] 112)=w':=by
  have i1:∀ w,(Instr.index 203 (.agg #[.func (.func 161) #[] #[],.func (.func 162) #[] #[],.func (.func 163) #[] #[],.func (.func 164) #[] #[],.func (.func 166) #[] #[],.func (.func 167) #[] #[],.func (.func 168) #[] #[],.func (.func 169) #[] #[],.func (.func 165) #[] #[],.func (.func 170) #[] #[],.func (.func 171) #[] #[],.func (.func 172) #[] #[]]) (.int .i64 9)).run Tryz.prog w=.ok (.func (.func 170) #[] #[]) w:=fun _=>by kernel_rfl
  go_enter Tryz.func108,Tryz.ntmps108
  go_wp2_with (first |(go_at_call 144;refine (q22 _).mono ?_;rintro e w' ⟨rfl,rfl⟩))
  go_ret2
  exact ⟨rfl,rfl⟩
set_option maxRecDepth 20000 in
set_option maxHeartbeats 1000000 in
theorem x37 (b s:Int) (p:Nat) (w:World) (hb:0≤b∧b≤255) (hs:0≤s∧s≤255) (hc:∀ o,w.cell? ⟨p,o,none⟩=#[Value.func (.func 171) #[] #[]][o]?) :
    Calls Tryz.prog 145 #[.int .u8 b,.int .u8 s,.pointer (some ⟨p,0,none⟩)] w fun e w'=>e=.returned (.int .u8 (blV 10 b s))∧w=w':=by
  have hr:=q3x (k:=10) hb hs
  have hF:=fun w=>q21 10 b s w (by omega) hb hs
  rw [show q28 10=171 by decide] at hF
  generalize blV 10 b s=r at *
  go_enter Tryz.func145,Tryz.ntmps145
  go_wp2_with (first |(go_at_call 171;refine (hF _).mono ?_;rintro e w' ⟨rfl,rfl⟩))
  go_ret
  exact ⟨by rfl,rfl⟩
set_option maxRecDepth 20000 in
set_option maxHeartbeats 2000000 in
theorem x8n (w:World):Calls Tryz.prog 108 #[.int .i64 10] w fun e w'=>e=.returned (.tuple #[.func (.func 145) #[] #[.pointer (some ⟨w.heap.size+1,0,none⟩)],.int .i64 0])∧(w.alloc q24).alloc (.cells #[.func (.func 171) #[] #[]] 112)=w':=by
  have i1:∀ w,(Instr.index 203 (.agg #[.func (.func 161) #[] #[],.func (.func 162) #[] #[],.func (.func 163) #[] #[],.func (.func 164) #[] #[],.func (.func 166) #[] #[],.func (.func 167) #[] #[],.func (.func 168) #[] #[],.func (.func 169) #[] #[],.func (.func 165) #[] #[],.func (.func 170) #[] #[],.func (.func 171) #[] #[],.func (.func 172) #[] #[]]) (.int .i64 10)).run Tryz.prog w=.ok (.func (.func 171) #[] #[]) w:=fun _=>by kernel_rfl
  go_enter Tryz.func108,Tryz.ntmps108
  go_wp2_with (first |(go_at_call 144;refine (q22 _).mono ?_;rintro e w' ⟨rfl,rfl⟩))
  go_ret2
  exact ⟨rfl,rfl⟩
set_option maxRecDepth 20000 in
set_option maxHeartbeats 1000000 in
theorem x38 (b s:Int) (p:Nat) (w:World) (hb:0≤b∧b≤255) (hs:0≤s∧s≤255) (hc:∀ o,w.cell? ⟨p,o,none⟩=#[Value.func (.func 172) #[] #[]][o]?) :
    Calls Tryz.prog 145 #[.int .u8 b,.int .u8 s,.pointer (some ⟨p,0,none⟩)] w fun e w'=>e=.returned (.int .u8 (blV 11 b s))∧w=w':=by
  have hr:=q3x (k:=11) hb hs
  have hF:=fun w=>q21 11 b s w (by omega) hb hs
  rw [show q28 11=172 by decide] at hF
  generalize blV 11 b s=r at *
  go_enter Tryz.func145,Tryz.ntmps145
  go_wp2_with (first |(go_at_call 172;refine (hF _).mono ?_;rintro e w' ⟨rfl,rfl⟩))
  go_ret
  exact ⟨by rfl,rfl⟩
set_option maxRecDepth 20000 in
set_option maxHeartbeats 2000000 in
theorem x8o (w:World):Calls Tryz.prog 108 #[.int .i64 11] w fun e w'=>e=.returned (.tuple #[.func (.func 145) #[] #[.pointer (some ⟨w.heap.size+1,0,none⟩)],.int .i64 0])∧(w.alloc q24).alloc (.cells #[.func (.func 172) #[] #[]] 112)=w':=by
  have i1:∀ w,(Instr.index 203 (.agg #[.func (.func 161) #[] #[],.func (.func 162) #[] #[],.func (.func 163) #[] #[],.func (.func 164) #[] #[],.func (.func 166) #[] #[],.func (.func 167) #[] #[],.func (.func 168) #[] #[],.func (.func 169) #[] #[],.func (.func 165) #[] #[],.func (.func 170) #[] #[],.func (.func 171) #[] #[],.func (.func 172) #[] #[]]) (.int .i64 11)).run Tryz.prog w=.ok (.func (.func 172) #[] #[]) w:=fun _=>by kernel_rfl
  go_enter Tryz.func108,Tryz.ntmps108
  go_wp2_with (first |(go_at_call 144;refine (q22 _).mono ?_;rintro e w' ⟨rfl,rfl⟩))
  go_ret2
  exact ⟨rfl,rfl⟩
theorem x2e (k b s:Int) (p:Nat) (w:World) (hk:0≤k∧k≤11) (hb:0≤b∧b≤255) (hs:0≤s∧s≤255) (hc:∀ o,w.cell? ⟨p,o,none⟩=#[Value.func (.func (q28 k)) #[] #[]][o]?) :
    Calls Tryz.prog 145 #[.int .u8 b,.int .u8 s,.pointer (some ⟨p,0,none⟩)] w fun e w'=>e=.returned (.int .u8 (blV k b s))∧w=w':=by
  have:k=0∨k=1∨k=2∨k=3∨k=4∨k=5∨k=6∨k=7∨k=8∨k=9∨k=10∨k=11:=by omega
  rcases this with rfl |rfl |rfl |rfl |rfl |rfl |rfl |rfl |rfl |rfl |rfl |rfl
  · exact x58 b s p w hb hs hc
  · exact x59 b s p w hb hs hc
  · exact x6a b s p w hb hs hc
  · exact x6b b s p w hb hs hc
  · exact x6c b s p w hb hs hc
  · exact x6d b s p w hb hs hc
  · exact x6e b s p w hb hs hc
  · exact x6f b s p w hb hs hc
  · exact x6g b s p w hb hs hc
  · exact x6h b s p w hb hs hc
  · exact x37 b s p w hb hs hc
  · exact x38 b s p w hb hs hc
theorem x6i (k:Int) (w:World) (hk:0≤k∧k≤11):Calls Tryz.prog 108 #[.int .i64 k] w fun e w'=>e=.returned (.tuple #[.func (.func 145) #[] #[.pointer (some ⟨w.heap.size+1,0,none⟩)],.int .i64 0])∧(w.alloc q24).alloc (.cells #[.func (.func (q28 k)) #[] #[]] 112)=w':=by
  have:k=0∨k=1∨k=2∨k=3∨k=4∨k=5∨k=6∨k=7∨k=8∨k=9∨k=10∨k=11:=by omega
  rcases this with rfl |rfl |rfl |rfl |rfl |rfl |rfl |rfl |rfl |rfl |rfl |rfl
  · exact x9p w
  · exact x9q w
  · exact x9r w
  · exact x9s w
  · exact x9t w
  · exact x9u w
  · exact x9v w
  · exact x9w w
  · exact x9x w
  · exact x9y w
  · exact x8n w
  · exact x8o w
end Go.Proofs.YtkicdhaklnmonaaGreat
