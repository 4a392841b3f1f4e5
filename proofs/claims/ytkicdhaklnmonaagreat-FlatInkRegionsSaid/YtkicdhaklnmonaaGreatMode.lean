/-
  The contract of blend.Mode and of the function that it makes.
-/
import Derived.Test.YtkicdhaklnmonaaGreatMrg5
set_option linter.unusedVariables false
set_option linter.unusedSimpArgs false
set_option linter.unnecessarySimpa false
namespace Go.Proofs.YtkicdhaklnmonaaGreat
open Go.RowKit
def q3c (k:Int):FuncId :=
  if k=1 then 162 else if k=2 then 163 else if k=3 then 164 else if k=4 then 166 else if k=5 then 167
  else if k=6 then 168 else if k=7 then 169 else if k=8 then 165 else if k=9 then 170 else if k=10 then 171 else if k=11 then 172 else 161
theorem q22 (k b s:Int) (w:World) (hk:0≤k∧k≤11) (hb:0≤b∧b≤255) (hs:0≤s∧s≤255) :
    Calls Tryz.prog (q3c k) #[.int .i64 b,.int .i64 s] w fun e w'=>e=.returned (.int .i64 (blV k b s))∧w=w':=by
  have:k=0∨k=1∨k=2∨k=3∨k=4∨k=5∨k=6∨k=7∨k=8∨k=9∨k=10∨k=11:=by omega
  rcases this with rfl |rfl |rfl |rfl |rfl |rfl |rfl |rfl |rfl |rfl |rfl |rfl
  · exact x48 b s w hb hs
  · exact z1c b s w hb hs
  · exact x49 b s w hb hs
  · exact x5a b s w hb hs
  · exact x5b b s w hb hs
  · exact x5c b s w hb hs
  · exact x3m b s w hb hs
  · exact x47 b s w hb hs
  · exact z7u b s w hb hs
  · exact x5d b s w hb hs
  · exact x3n b s w hb hs
  · exact x3o b s w hb hs
def q25:Obj:=.cells #[.func (.func 161) #[] #[],.func (.func 162) #[] #[],.func (.func 163) #[] #[],.func (.func 164) #[] #[],.func (.func 166) #[] #[],.func (.func 167) #[] #[],.func (.func 168) #[] #[],.func (.func 169) #[] #[],.func (.func 165) #[] #[],.func (.func 170) #[] #[],.func (.func 171) #[] #[],.func (.func 172) #[] #[]] 203
set_option maxRecDepth 20000 in
set_option maxHeartbeats 2000000 in
theorem q23 (w:World):Calls Tryz.prog 144 #[] w fun e w'=>e=.returned (.agg #[.func (.func 161) #[] #[],.func (.func 162) #[] #[],.func (.func 163) #[] #[],.func (.func 164) #[] #[],.func (.func 166) #[] #[],.func (.func 167) #[] #[],.func (.func 168) #[] #[],.func (.func 169) #[] #[],.func (.func 165) #[] #[],.func (.func 170) #[] #[],.func (.func 171) #[] #[],.func (.func 172) #[] #[]])∧w.alloc q25=w':=by
  go_enter Tryz.func144,Tryz.ntmps144
  go_wp2_with fail
  go_returns
  exact ⟨rfl,rfl⟩
set_option maxRecDepth 20000 in
set_option maxHeartbeats 1000000 in
theorem x7l (b s:Int) (p:Nat) (w:World) (hb:0≤b∧b≤255) (hs:0≤s∧s≤255) (hc:∀ o,w.cell? ⟨p,o,none⟩=#[Value.func (.func 161) #[] #[]][o]?) :
    Calls Tryz.prog 145 #[.int .u8 b,.int .u8 s,.pointer (some ⟨p,0,none⟩)] w fun e w'=>e=.returned (.int .u8 (blV 0 b s))∧w=w':=by
  have hr:=q4c (k:=0) hb hs
  have hF:=fun w=>q22 0 b s w (by omega) hb hs
  rw [show q3c 0=161 by decide] at hF
  generalize blV 0 b s=r at *
  go_enter Tryz.func145,Tryz.ntmps145
  go_wp2_with (first |(go_at_call 161;refine (hF _).mono ?_;rintro e w' ⟨rfl,rfl⟩))
  go_ret
  exact ⟨by rfl,rfl⟩
set_option maxRecDepth 20000 in
set_option maxHeartbeats 2000000 in
theorem v03 (w:World):Calls Tryz.prog 108 #[.int .i64 0] w fun e w'=>e=.returned (.tuple #[.func (.func 145) #[] #[.pointer (some ⟨w.heap.size+1,0,none⟩)],.int .i64 0])∧(w.alloc q25).alloc (.cells #[.func (.func 161) #[] #[]] 112)=w':=by
  have i1:∀ w,(Instr.index 203 (.agg #[.func (.func 161) #[] #[],.func (.func 162) #[] #[],.func (.func 163) #[] #[],.func (.func 164) #[] #[],.func (.func 166) #[] #[],.func (.func 167) #[] #[],.func (.func 168) #[] #[],.func (.func 169) #[] #[],.func (.func 165) #[] #[],.func (.func 170) #[] #[],.func (.func 171) #[] #[],.func (.func 172) #[] #[]]) (.int .i64 0)).run Tryz.prog w=.ok (.func (.func 161) #[] #[]) w:=fun _=>by kernel_rfl
  go_enter Tryz.func108,Tryz.ntmps108
  go_wp2_with (first |(go_at_call 144;refine (q23 _).mono ?_;rintro e w' ⟨rfl,rfl⟩))
  go_ret2
  exact ⟨rfl,rfl⟩
set_option maxRecDepth 20000 in
set_option maxHeartbeats 1000000 in
theorem x7m (b s:Int) (p:Nat) (w:World) (hb:0≤b∧b≤255) (hs:0≤s∧s≤255) (hc:∀ o,w.cell? ⟨p,o,none⟩=#[Value.func (.func 162) #[] #[]][o]?) :
    Calls Tryz.prog 145 #[.int .u8 b,.int .u8 s,.pointer (some ⟨p,0,none⟩)] w fun e w'=>e=.returned (.int .u8 (blV 1 b s))∧w=w':=by
  have hr:=q4c (k:=1) hb hs
  have hF:=fun w=>q22 1 b s w (by omega) hb hs
  rw [show q3c 1=162 by decide] at hF
  generalize blV 1 b s=r at *
  go_enter Tryz.func145,Tryz.ntmps145
  go_wp2_with (first |(go_at_call 162;refine (hF _).mono ?_;rintro e w' ⟨rfl,rfl⟩))
  go_ret
  exact ⟨by rfl,rfl⟩
set_option maxRecDepth 20000 in
set_option maxHeartbeats 2000000 in
theorem v04 (w:World):Calls Tryz.prog 108 #[.int .i64 1] w fun e w'=>e=.returned (.tuple #[.func (.func 145) #[] #[.pointer (some ⟨w.heap.size+1,0,none⟩)],.int .i64 0])∧(w.alloc q25).alloc (.cells #[.func (.func 162) #[] #[]] 112)=w':=by
  have i1:∀ w,(Instr.index 203 (.agg #[.func (.func 161) #[] #[],.func (.func 162) #[] #[],.func (.func 163) #[] #[],.func (.func 164) #[] #[],.func (.func 166) #[] #[],.func (.func 167) #[] #[],.func (.func 168) #[] #[],.func (.func 169) #[] #[],.func (.func 165) #[] #[],.func (.func 170) #[] #[],.func (.func 171) #[] #[],.func (.func 172) #[] #[]]) (.int .i64 1)).run Tryz.prog w=.ok (.func (.func 162) #[] #[]) w:=fun _=>by kernel_rfl
  go_enter Tryz.func108,Tryz.ntmps108
  go_wp2_with (first |(go_at_call 144;refine (q23 _).mono ?_;rintro e w' ⟨rfl,rfl⟩))
  go_ret2
  exact ⟨rfl,rfl⟩
set_option maxRecDepth 20000 in
set_option maxHeartbeats 1000000 in
theorem x7n (b s:Int) (p:Nat) (w:World) (hb:0≤b∧b≤255) (hs:0≤s∧s≤255) (hc:∀ o,w.cell? ⟨p,o,none⟩=#[Value.func (.func 163) #[] #[]][o]?) :
    Calls Tryz.prog 145 #[.int .u8 b,.int .u8 s,.pointer (some ⟨p,0,none⟩)] w fun e w'=>e=.returned (.int .u8 (blV 2 b s))∧w=w':=by
  have hr:=q4c (k:=2) hb hs
  have hF:=fun w=>q22 2 b s w (by omega) hb hs
  rw [show q3c 2=163 by decide] at hF
  generalize blV 2 b s=r at *
  go_enter Tryz.func145,Tryz.ntmps145
  go_wp2_with (first |(go_at_call 163;refine (hF _).mono ?_;rintro e w' ⟨rfl,rfl⟩))
  go_ret
  exact ⟨by rfl,rfl⟩
set_option maxRecDepth 20000 in
set_option maxHeartbeats 2000000 in
theorem v05 (w:World):Calls Tryz.prog 108 #[.int .i64 2] w fun e w'=>e=.returned (.tuple #[.func (.func 145) #[] #[.pointer (some ⟨w.heap.size+1,0,none⟩)],.int .i64 0])∧(w.alloc q25).alloc (.cells #[.func (.func 163) #[] #[]] 112)=w':=by
  have i1:∀ w,(Instr.index 203 (.agg #[.func (.func 161) #[] #[],.func (.func 162) #[] #[],.func (.func 163) #[] #[],.func (.func 164) #[] #[],.func (.func 166) #[] #[],.func (.func 167) #[] #[],.func (.func 168) #[] #[],.func (.func 169) #[] #[],.func (.func 165) #[] #[],.func (.func 170) #[] #[],.func (.func 171) #[] #[],.func (.func 172) #[] #[]]) (.int .i64 2)).run Tryz.prog w=.ok (.func (.func 163) #[] #[]) w:=fun _=>by kernel_rfl
  go_enter Tryz.func108,Tryz.ntmps108
  go_wp2_with (first |(go_at_call 144;refine (q23 _).mono ?_;rintro e w' ⟨rfl,rfl⟩))
  go_ret2
  exact ⟨rfl,rfl⟩
set_option maxRecDepth 20000 in
set_option maxHeartbeats 1000000 in
theorem x7o (b s:Int) (p:Nat) (w:World) (hb:0≤b∧b≤255) (hs:0≤s∧s≤255) (hc:∀ o,w.cell? ⟨p,o,none⟩=#[Value.func (.func 164) #[] #[]][o]?) :
    Calls Tryz.prog 145 #[.int .u8 b,.int .u8 s,.pointer (some ⟨p,0,none⟩)] w fun e w'=>e=.returned (.int .u8 (blV 3 b s))∧w=w':=by
  have hr:=q4c (k:=3) hb hs
  have hF:=fun w=>q22 3 b s w (by omega) hb hs
  rw [show q3c 3=164 by decide] at hF
  generalize blV 3 b s=r at *
  go_enter Tryz.func145,Tryz.ntmps145
  go_wp2_with (first |(go_at_call 164;refine (hF _).mono ?_;rintro e w' ⟨rfl,rfl⟩))
  go_ret
  exact ⟨by rfl,rfl⟩
set_option maxRecDepth 20000 in
set_option maxHeartbeats 2000000 in
theorem v06 (w:World):Calls Tryz.prog 108 #[.int .i64 3] w fun e w'=>e=.returned (.tuple #[.func (.func 145) #[] #[.pointer (some ⟨w.heap.size+1,0,none⟩)],.int .i64 0])∧(w.alloc q25).alloc (.cells #[.func (.func 164) #[] #[]] 112)=w':=by
  have i1:∀ w,(Instr.index 203 (.agg #[.func (.func 161) #[] #[],.func (.func 162) #[] #[],.func (.func 163) #[] #[],.func (.func 164) #[] #[],.func (.func 166) #[] #[],.func (.func 167) #[] #[],.func (.func 168) #[] #[],.func (.func 169) #[] #[],.func (.func 165) #[] #[],.func (.func 170) #[] #[],.func (.func 171) #[] #[],.func (.func 172) #[] #[]]) (.int .i64 3)).run Tryz.prog w=.ok (.func (.func 164) #[] #[]) w:=fun _=>by kernel_rfl
  go_enter Tryz.func108,Tryz.ntmps108
  go_wp2_with (first |(go_at_call 144;refine (q23 _).mono ?_;rintro e w' ⟨rfl,rfl⟩))
  go_ret2
  exact ⟨rfl,rfl⟩
set_option maxRecDepth 20000 in
set_option maxHeartbeats 1000000 in
theorem x7p (b s:Int) (p:Nat) (w:World) (hb:0≤b∧b≤255) (hs:0≤s∧s≤255) (hc:∀ o,w.cell? ⟨p,o,none⟩=#[Value.func (.func 166) #[] #[]][o]?) :
    Calls Tryz.prog 145 #[.int .u8 b,.int .u8 s,.pointer (some ⟨p,0,none⟩)] w fun e w'=>e=.returned (.int .u8 (blV 4 b s))∧w=w':=by
  have hr:=q4c (k:=4) hb hs
  have hF:=fun w=>q22 4 b s w (by omega) hb hs
  rw [show q3c 4=166 by decide] at hF
  generalize blV 4 b s=r at *
  go_enter Tryz.func145,Tryz.ntmps145
  go_wp2_with (first |(go_at_call 166;refine (hF _).mono ?_;rintro e w' ⟨rfl,rfl⟩))
  go_ret
  exact ⟨by rfl,rfl⟩
set_option maxRecDepth 20000 in
set_option maxHeartbeats 2000000 in
theorem v07 (w:World):Calls Tryz.prog 108 #[.int .i64 4] w fun e w'=>e=.returned (.tuple #[.func (.func 145) #[] #[.pointer (some ⟨w.heap.size+1,0,none⟩)],.int .i64 0])∧(w.alloc q25).alloc (.cells #[.func (.func 166) #[] #[]] 112)=w':=by
  have i1:∀ w,(Instr.index 203 (.agg #[.func (.func 161) #[] #[],.func (.func 162) #[] #[],.func (.func 163) #[] #[],.func (.func 164) #[] #[],.func (.func 166) #[] #[],.func (.func 167) #[] #[],.func (.func 168) #[] #[],.func (.func 169) #[] #[],.func (.func 165) #[] #[],.func (.func 170) #[] #[],.func (.func 171) #[] #[],.func (.func 172) #[] #[]]) (.int .i64 4)).run Tryz.prog w=.ok (.func (.func 166) #[] #[]) w:=fun _=>by kernel_rfl
  go_enter Tryz.func108,Tryz.ntmps108
  go_wp2_with (first |(go_at_call 144;refine (q23 _).mono ?_;rintro e w' ⟨rfl,rfl⟩))
  go_ret2
  exact ⟨rfl,rfl⟩
set_option maxRecDepth 20000 in
set_option maxHeartbeats 1000000 in
theorem x7q (b s:Int) (p:Nat) (w:World) (hb:0≤b∧b≤255) (hs:0≤s∧s≤255) (hc:∀ o,w.cell? ⟨p,o,none⟩=#[Value.func (.func 167) #[] #[]][o]?) :
    Calls Tryz.prog 145 #[.int .u8 b,.int .u8 s,.pointer (some ⟨p,0,none⟩)] w fun e w'=>e=.returned (.int .u8 (blV 5 b s))∧w=w':=by
  have hr:=q4c (k:=5) hb hs
  have hF:=fun w=>q22 5 b s w (by omega) hb hs
  rw [show q3c 5=167 by decide] at hF
  generalize blV 5 b s=r at *
  go_enter Tryz.func145,Tryz.ntmps145
  go_wp2_with (first |(go_at_call 167;refine (hF _).mono ?_;rintro e w' ⟨rfl,rfl⟩))
  go_ret
  exact ⟨by rfl,rfl⟩
set_option maxRecDepth 20000 in
set_option maxHeartbeats 2000000 in
theorem v08 (w:World):Calls Tryz.prog 108 #[.int .i64 5] w fun e w'=>e=.returned (.tuple #[.func (.func 145) #[] #[.pointer (some ⟨w.heap.size+1,0,none⟩)],.int .i64 0])∧(w.alloc q25).alloc (.cells #[.func (.func 167) #[] #[]] 112)=w':=by
  have i1:∀ w,(Instr.index 203 (.agg #[.func (.func 161) #[] #[],.func (.func 162) #[] #[],.func (.func 163) #[] #[],.func (.func 164) #[] #[],.func (.func 166) #[] #[],.func (.func 167) #[] #[],.func (.func 168) #[] #[],.func (.func 169) #[] #[],.func (.func 165) #[] #[],.func (.func 170) #[] #[],.func (.func 171) #[] #[],.func (.func 172) #[] #[]]) (.int .i64 5)).run Tryz.prog w=.ok (.func (.func 167) #[] #[]) w:=fun _=>by kernel_rfl
  go_enter Tryz.func108,Tryz.ntmps108
  go_wp2_with (first |(go_at_call 144;refine (q23 _).mono ?_;rintro e w' ⟨rfl,rfl⟩))
  go_ret2
  exact ⟨rfl,rfl⟩
set_option maxRecDepth 20000 in
set_option maxHeartbeats 1000000 in
theorem x7r (b s:Int) (p:Nat) (w:World) (hb:0≤b∧b≤255) (hs:0≤s∧s≤255) (hc:∀ o,w.cell? ⟨p,o,none⟩=#[Value.func (.func 168) #[] #[]][o]?) :
    Calls Tryz.prog 145 #[.int .u8 b,.int .u8 s,.pointer (some ⟨p,0,none⟩)] w fun e w'=>e=.returned (.int .u8 (blV 6 b s))∧w=w':=by
  have hr:=q4c (k:=6) hb hs
  have hF:=fun w=>q22 6 b s w (by omega) hb hs
  rw [show q3c 6=168 by decide] at hF
  generalize blV 6 b s=r at *
  go_enter Tryz.func145,Tryz.ntmps145
  go_wp2_with (first |(go_at_call 168;refine (hF _).mono ?_;rintro e w' ⟨rfl,rfl⟩))
  go_ret
  exact ⟨by rfl,rfl⟩
set_option maxRecDepth 20000 in
set_option maxHeartbeats 2000000 in
theorem v09 (w:World):Calls Tryz.prog 108 #[.int .i64 6] w fun e w'=>e=.returned (.tuple #[.func (.func 145) #[] #[.pointer (some ⟨w.heap.size+1,0,none⟩)],.int .i64 0])∧(w.alloc q25).alloc (.cells #[.func (.func 168) #[] #[]] 112)=w':=by
  have i1:∀ w,(Instr.index 203 (.agg #[.func (.func 161) #[] #[],.func (.func 162) #[] #[],.func (.func 163) #[] #[],.func (.func 164) #[] #[],.func (.func 166) #[] #[],.func (.func 167) #[] #[],.func (.func 168) #[] #[],.func (.func 169) #[] #[],.func (.func 165) #[] #[],.func (.func 170) #[] #[],.func (.func 171) #[] #[],.func (.func 172) #[] #[]]) (.int .i64 6)).run Tryz.prog w=.ok (.func (.func 168) #[] #[]) w:=fun _=>by kernel_rfl
  go_enter Tryz.func108,Tryz.ntmps108
  go_wp2_with (first |(go_at_call 144;refine (q23 _).mono ?_;rintro e w' ⟨rfl,rfl⟩))
  go_ret2
  exact ⟨rfl,rfl⟩
set_option maxRecDepth 20000 in
set_option maxHeartbeats 1000000 in
theorem x7s (b s:Int) (p:Nat) (w:World) (hb:0≤b∧b≤255) (hs:0≤s∧s≤255) (hc:∀ o,w.cell? ⟨p,o,none⟩=#[Value.func (.func 169) #[] #[]][o]?) :
    Calls Tryz.prog 145 #[.int .u8 b,.int .u8 s,.pointer (some ⟨p,0,none⟩)] w fun e w'=>e=.returned (.int .u8 (blV 7 b s))∧w=w':=by
  have hr:=q4c (k:=7) hb hs
  have hF:=fun w=>q22 7 b s w (by omega) hb hs
  rw [show q3c 7=169 by decide] at hF
  generalize blV 7 b s=r at *
  go_enter Tryz.func145,Tryz.ntmps145
  go_wp2_with (first |(go_at_call 169;refine (hF _).mono ?_;rintro e w' ⟨rfl,rfl⟩))
  go_ret
  exact ⟨by rfl,rfl⟩
set_option maxRecDepth 20000 in
set_option maxHeartbeats 2000000 in
theorem v1a (w:World):Calls Tryz.prog 108 #[.int .i64 7] w fun e w'=>e=.returned (.tuple #[.func (.func 145) #[] #[.pointer (some ⟨w.heap.size+1,0,none⟩)],.int .i64 0])∧(w.alloc q25).alloc (.cells #[.func (.func 169) #[] #[]] 112)=w':=by
  have i1:∀ w,(Instr.index 203 (.agg #[.func (.func 161) #[] #[],.func (.func 162) #[] #[],.func (.func 163) #[] #[],.func (.func 164) #[] #[],.func (.func 166) #[] #[],.func (.func 167) #[] #[],.func (.func 168) #[] #[],.func (.func 169) #[] #[],.func (.func 165) #[] #[],.func (.func 170) #[] #[],.func (.func 171) #[] #[],.func (.func 172) #[] #[]]) (.int .i64 7)).run Tryz.prog w=.ok (.func (.func 169) #[] #[]) w:=fun _=>by kernel_rfl
  go_enter Tryz.func108,Tryz.ntmps108
  go_wp2_with (first |(go_at_call 144;refine (q23 _).mono ?_;rintro e w' ⟨rfl,rfl⟩))
  go_ret2
  exact ⟨rfl,rfl⟩
set_option maxRecDepth 20000 in
set_option maxHeartbeats 1000000 in
theorem x7t (b s:Int) (p:Nat) (w:World) (hb:0≤b∧b≤255) (hs:0≤s∧s≤255) (hc:∀ o,w.cell? ⟨p,o,none⟩=#[Value.func (.func 165) #[] #[]][o]?) :
    Calls Tryz.prog 145 #[.int .u8 b,.int .u8 s,.pointer (some ⟨p,0,none⟩)] w fun e w'=>e=.returned (.int .u8 (blV 8 b s))∧w=w':=by
  have hr:=q4c (k:=8) hb hs
  have hF:=fun w=>q22 8 b s w (by omega) hb hs
  rw [show q3c 8=165 by decide] at hF
  generalize blV 8 b s=r at *
  go_enter Tryz.func145,Tryz.ntmps145
  go_wp2_with (first |(go_at_call 165;refine (hF _).mono ?_;rintro e w' ⟨rfl,rfl⟩))
  go_ret
  exact ⟨by rfl,rfl⟩
set_option maxRecDepth 20000 in
set_option maxHeartbeats 2000000 in
theorem v1b (w:World):Calls Tryz.prog 108 #[.int .i64 8] w fun e w'=>e=.returned (.tuple #[.func (.func 145) #[] #[.pointer (some ⟨w.heap.size+1,0,none⟩)],.int .i64 0])∧(w.alloc q25).alloc (.cells #[.func (.func 165) #[] #[]] 112)=w':=by
  have i1:∀ w,(Instr.index 203 (.agg #[.func (.func 161) #[] #[],.func (.func 162) #[] #[],.func (.func 163) #[] #[],.func (.func 164) #[] #[],.func (.func 166) #[] #[],.func (.func 167) #[] #[],.func (.func 168) #[] #[],.func (.func 169) #[] #[],.func (.func 165) #[] #[],.func (.func 170) #[] #[],.func (.func 171) #[] #[],.func (.func 172) #[] #[]]) (.int .i64 8)).run Tryz.prog w=.ok (.func (.func 165) #[] #[]) w:=fun _=>by kernel_rfl
  go_enter Tryz.func108,Tryz.ntmps108
  go_wp2_with (first |(go_at_call 144;refine (q23 _).mono ?_;rintro e w' ⟨rfl,rfl⟩))
  go_ret2
  exact ⟨rfl,rfl⟩
set_option maxRecDepth 20000 in
set_option maxHeartbeats 1000000 in
theorem x7u (b s:Int) (p:Nat) (w:World) (hb:0≤b∧b≤255) (hs:0≤s∧s≤255) (hc:∀ o,w.cell? ⟨p,o,none⟩=#[Value.func (.func 170) #[] #[]][o]?) :
    Calls Tryz.prog 145 #[.int .u8 b,.int .u8 s,.pointer (some ⟨p,0,none⟩)] w fun e w'=>e=.returned (.int .u8 (blV 9 b s))∧w=w':=by
  have hr:=q4c (k:=9) hb hs
  have hF:=fun w=>q22 9 b s w (by omega) hb hs
  rw [show q3c 9=170 by decide] at hF
  generalize blV 9 b s=r at *
  go_enter Tryz.func145,Tryz.ntmps145
  go_wp2_with (first |(go_at_call 170;refine (hF _).mono ?_;rintro e w' ⟨rfl,rfl⟩))
  go_ret
  exact ⟨by rfl,rfl⟩
set_option maxRecDepth 20000 in
set_option maxHeartbeats 2000000 in
theorem v1c (w:World):Calls Tryz.prog 108 #[.int .i64 9] w fun e w'=>e=.returned (.tuple #[.func (.func 145) #[] #[.pointer (some ⟨w.heap.size+1,0,none⟩)],.int .i64 0])∧(w.alloc q25).alloc (.cells #[.func (.func 170) #[] #[]] 112)=w':=by
  have i1:∀ w,(Instr.index 203 (.agg #[.func (.func 161) #[] #[],.func (.func 162) #[] #[],.func (.func 163) #[] #[],.func (.func 164) #[] #[],.func (.func 166) #[] #[],.func (.func 167) #[] #[],.func (.func 168) #[] #[],.func (.func 169) #[] #[],.func (.func 165) #[] #[],.func (.func 170) #[] #[],.func (.func 171) #[] #[],.func (.func 172) #[] #[]]) (.int .i64 9)).run Tryz.prog w=.ok (.func (.func 170) #[] #[]) w:=fun _=>by kernel_rfl
  go_enter Tryz.func108,Tryz.ntmps108
  go_wp2_with (first |(go_at_call 144;refine (q23 _).mono ?_;rintro e w' ⟨rfl,rfl⟩))
  go_ret2
  exact ⟨rfl,rfl⟩
set_option maxRecDepth 20000 in
set_option maxHeartbeats 1000000 in
theorem x5e (b s:Int) (p:Nat) (w:World) (hb:0≤b∧b≤255) (hs:0≤s∧s≤255) (hc:∀ o,w.cell? ⟨p,o,none⟩=#[Value.func (.func 171) #[] #[]][o]?) :
    Calls Tryz.prog 145 #[.int .u8 b,.int .u8 s,.pointer (some ⟨p,0,none⟩)] w fun e w'=>e=.returned (.int .u8 (blV 10 b s))∧w=w':=by
  have hr:=q4c (k:=10) hb hs
  have hF:=fun w=>q22 10 b s w (by omega) hb hs
  rw [show q3c 10=171 by decide] at hF
  generalize blV 10 b s=r at *
  go_enter Tryz.func145,Tryz.ntmps145
  go_wp2_with (first |(go_at_call 171;refine (hF _).mono ?_;rintro e w' ⟨rfl,rfl⟩))
  go_ret
  exact ⟨by rfl,rfl⟩
set_option maxRecDepth 20000 in
set_option maxHeartbeats 2000000 in
theorem x90 (w:World):Calls Tryz.prog 108 #[.int .i64 10] w fun e w'=>e=.returned (.tuple #[.func (.func 145) #[] #[.pointer (some ⟨w.heap.size+1,0,none⟩)],.int .i64 0])∧(w.alloc q25).alloc (.cells #[.func (.func 171) #[] #[]] 112)=w':=by
  have i1:∀ w,(Instr.index 203 (.agg #[.func (.func 161) #[] #[],.func (.func 162) #[] #[],.func (.func 163) #[] #[],.func (.func 164) #[] #[],.func (.func 166) #[] #[],.func (.func 167) #[] #[],.func (.func 168) #[] #[],.func (.func 169) #[] #[],.func (.func 165) #[] #[],.func (.func 170) #[] #[],.func (.func 171) #[] #[],.func (.func 172) #[] #[]]) (.int .i64 10)).run Tryz.prog w=.ok (.func (.func 171) #[] #[]) w:=fun _=>by kernel_rfl
  go_enter Tryz.func108,Tryz.ntmps108
  go_wp2_with (first |(go_at_call 144;refine (q23 _).mono ?_;rintro e w' ⟨rfl,rfl⟩))
  go_ret2
  exact ⟨rfl,rfl⟩
set_option maxRecDepth 20000 in
set_option maxHeartbeats 1000000 in
theorem x5f (b s:Int) (p:Nat) (w:World) (hb:0≤b∧b≤255) (hs:0≤s∧s≤255) (hc:∀ o,w.cell? ⟨p,o,none⟩=#[Value.func (.func 172) #[] #[]][o]?) :
    Calls Tryz.prog 145 #[.int .u8 b,.int .u8 s,.pointer (some ⟨p,0,none⟩)] w fun e w'=>e=.returned (.int .u8 (blV 11 b s))∧w=w':=by
  have hr:=q4c (k:=11) hb hs
  have hF:=fun w=>q22 11 b s w (by omega) hb hs
  rw [show q3c 11=172 by decide] at hF
  generalize blV 11 b s=r at *
  go_enter Tryz.func145,Tryz.ntmps145
  go_wp2_with (first |(go_at_call 172;refine (hF _).mono ?_;rintro e w' ⟨rfl,rfl⟩))
  go_ret
  exact ⟨by rfl,rfl⟩
set_option maxRecDepth 20000 in
set_option maxHeartbeats 2000000 in
theorem x91 (w:World):Calls Tryz.prog 108 #[.int .i64 11] w fun e w'=>e=.returned (.tuple #[.func (.func 145) #[] #[.pointer (some ⟨w.heap.size+1,0,none⟩)],.int .i64 0])∧(w.alloc q25).alloc (.cells #[.func (.func 172) #[] #[]] 112)=w':=by
  have i1:∀ w,(Instr.index 203 (.agg #[.func (.func 161) #[] #[],.func (.func 162) #[] #[],.func (.func 163) #[] #[],.func (.func 164) #[] #[],.func (.func 166) #[] #[],.func (.func 167) #[] #[],.func (.func 168) #[] #[],.func (.func 169) #[] #[],.func (.func 165) #[] #[],.func (.func 170) #[] #[],.func (.func 171) #[] #[],.func (.func 172) #[] #[]]) (.int .i64 11)).run Tryz.prog w=.ok (.func (.func 172) #[] #[]) w:=fun _=>by kernel_rfl
  go_enter Tryz.func108,Tryz.ntmps108
  go_wp2_with (first |(go_at_call 144;refine (q23 _).mono ?_;rintro e w' ⟨rfl,rfl⟩))
  go_ret2
  exact ⟨rfl,rfl⟩
theorem x3p (k b s:Int) (p:Nat) (w:World) (hk:0≤k∧k≤11) (hb:0≤b∧b≤255) (hs:0≤s∧s≤255) (hc:∀ o,w.cell? ⟨p,o,none⟩=#[Value.func (.func (q3c k)) #[] #[]][o]?) :
    Calls Tryz.prog 145 #[.int .u8 b,.int .u8 s,.pointer (some ⟨p,0,none⟩)] w fun e w'=>e=.returned (.int .u8 (blV k b s))∧w=w':=by
  have:k=0∨k=1∨k=2∨k=3∨k=4∨k=5∨k=6∨k=7∨k=8∨k=9∨k=10∨k=11:=by omega
  rcases this with rfl |rfl |rfl |rfl |rfl |rfl |rfl |rfl |rfl |rfl |rfl |rfl
  · exact x7l b s p w hb hs hc
  · exact x7m b s p w hb hs hc
  · exact x7n b s p w hb hs hc
  · exact x7o b s p w hb hs hc
  · exact x7p b s p w hb hs hc
  · exact x7q b s p w hb hs hc
  · exact x7r b s p w hb hs hc
  · exact x7s b s p w hb hs hc
  · exact x7t b s p w hb hs hc
  · exact x7u b s p w hb hs hc
  · exact x5e b s p w hb hs hc
  · exact x5f b s p w hb hs hc
theorem x7v (k:Int) (w:World) (hk:0≤k∧k≤11):Calls Tryz.prog 108 #[.int .i64 k] w fun e w'=>e=.returned (.tuple #[.func (.func 145) #[] #[.pointer (some ⟨w.heap.size+1,0,none⟩)],.int .i64 0])∧(w.alloc q25).alloc (.cells #[.func (.func (q3c k)) #[] #[]] 112)=w':=by
  have:k=0∨k=1∨k=2∨k=3∨k=4∨k=5∨k=6∨k=7∨k=8∨k=9∨k=10∨k=11:=by omega
  rcases this with rfl |rfl |rfl |rfl |rfl |rfl |rfl |rfl |rfl |rfl |rfl |rfl
  · exact v03 w
  · exact v04 w
  · exact v05 w
  · exact v06 w
  · exact v07 w
  · exact v08 w
  · exact v09 w
  · exact v1a w
  · exact v1b w
  · exact v1c w
  · exact x90 w
  · exact x91 w
end Go.Proofs.YtkicdhaklnmonaaGreat
