/-
  The contract of blend.Mode and of the function that it makes.
-/
import Derived.Test.YticolnghiibgfaaGreatMrg3
set_option linter.unusedVariables false
set_option linter.unusedSimpArgs false
set_option linter.unnecessarySimpa false
namespace Go.Proofs.YticolnghiibgfaaGreat
open Go.RowKit
def q28 (k:Int):FuncId :=
  if k=1 then 146 else if k=2 then 147 else if k=3 then 148 else if k=4 then 150 else if k=5 then 151
  else if k=6 then 152 else if k=7 then 153 else if k=8 then 149 else if k=9 then 154 else if k=10 then 155 else if k=11 then 156 else 145
theorem q20 (k b s:Int) (w:World) (hk:0≤k∧k≤11) (hb:0≤b∧b≤255) (hs:0≤s∧s≤255) :
    Calls Tryz.prog (q28 k) #[.int .i64 b,.int .i64 s] w fun e w'=>e=.returned (.int .i64 (blV k b s))∧w=w':=by
  have:k=0∨k=1∨k=2∨k=3∨k=4∨k=5∨k=6∨k=7∨k=8∨k=9∨k=10∨k=11:=by omega
  rcases this with rfl |rfl |rfl |rfl |rfl |rfl |rfl |rfl |rfl |rfl |rfl |rfl
  · exact x5o b s w hb hs
  · exact z1l b s w hb hs
  · exact x5p b s w hb hs
  · exact x5q b s w hb hs
  · exact x5r b s w hb hs
  · exact x5s b s w hb hs
  · exact x3q b s w hb hs
  · exact x5n b s w hb hs
  · exact z70 b s w hb hs
  · exact x5t b s w hb hs
  · exact x3r b s w hb hs
  · exact x3s b s w hb hs
def q22:Obj:=.cells #[.func (.func 145) #[] #[],.func (.func 146) #[] #[],.func (.func 147) #[] #[],.func (.func 148) #[] #[],.func (.func 150) #[] #[],.func (.func 151) #[] #[],.func (.func 152) #[] #[],.func (.func 153) #[] #[],.func (.func 149) #[] #[],.func (.func 154) #[] #[],.func (.func 155) #[] #[],.func (.func 156) #[] #[]] 189
set_option maxRecDepth 20000 in
set_option maxHeartbeats 2000000 in
theorem q21 (w:World):Calls Tryz.prog 133 #[] w fun e w'=>e=.returned (.agg #[.func (.func 145) #[] #[],.func (.func 146) #[] #[],.func (.func 147) #[] #[],.func (.func 148) #[] #[],.func (.func 150) #[] #[],.func (.func 151) #[] #[],.func (.func 152) #[] #[],.func (.func 153) #[] #[],.func (.func 149) #[] #[],.func (.func 154) #[] #[],.func (.func 155) #[] #[],.func (.func 156) #[] #[]])∧w.alloc q22=w':=by
  go_enter Tryz.func133,Tryz.ntmps133
  go_wp2_with fail
  go_returns
  exact ⟨rfl,rfl⟩
set_option maxRecDepth 20000 in
set_option maxHeartbeats 1000000 in
theorem x7w (b s:Int) (p:Nat) (w:World) (hb:0≤b∧b≤255) (hs:0≤s∧s≤255) (hc:∀ o,w.cell? ⟨p,o,none⟩=#[Value.func (.func 145) #[] #[]][o]?) :
    Calls Tryz.prog 134 #[.int .u8 b,.int .u8 s,.pointer (some ⟨p,0,none⟩)] w fun e w'=>e=.returned (.int .u8 (blV 0 b s))∧w=w':=by
  have hr:=q34 (k:=0) hb hs
  have hF:=fun w=>q20 0 b s w (by omega) hb hs
  rw [show q28 0=145 by decide] at hF
  generalize blV 0 b s=r at *
  go_enter Tryz.func134,Tryz.ntmps134
  go_wp2_with (first |(go_at_call 145;refine (hF _).mono ?_;rintro e w' ⟨rfl,rfl⟩))
  go_ret
  exact ⟨by rfl,rfl⟩
set_option maxRecDepth 20000 in
set_option maxHeartbeats 2000000 in
theorem v04 (w:World):Calls Tryz.prog 106 #[.int .i64 0] w fun e w'=>e=.returned (.tuple #[.func (.func 134) #[] #[.pointer (some ⟨w.heap.size+1,0,none⟩)],.int .i64 0])∧(w.alloc q22).alloc (.cells #[.func (.func 145) #[] #[]] 113)=w':=by
  have i1:∀ w,(Instr.index 189 (.agg #[.func (.func 145) #[] #[],.func (.func 146) #[] #[],.func (.func 147) #[] #[],.func (.func 148) #[] #[],.func (.func 150) #[] #[],.func (.func 151) #[] #[],.func (.func 152) #[] #[],.func (.func 153) #[] #[],.func (.func 149) #[] #[],.func (.func 154) #[] #[],.func (.func 155) #[] #[],.func (.func 156) #[] #[]]) (.int .i64 0)).run Tryz.prog w=.ok (.func (.func 145) #[] #[]) w:=fun _=>by kernel_rfl
  go_enter Tryz.func106,Tryz.ntmps106
  go_wp2_with (first |(go_at_call 133;refine (q21 _).mono ?_;rintro e w' ⟨rfl,rfl⟩))
  go_ret2
  exact ⟨rfl,rfl⟩
set_option maxRecDepth 20000 in
set_option maxHeartbeats 1000000 in
theorem x7x (b s:Int) (p:Nat) (w:World) (hb:0≤b∧b≤255) (hs:0≤s∧s≤255) (hc:∀ o,w.cell? ⟨p,o,none⟩=#[Value.func (.func 146) #[] #[]][o]?) :
    Calls Tryz.prog 134 #[.int .u8 b,.int .u8 s,.pointer (some ⟨p,0,none⟩)] w fun e w'=>e=.returned (.int .u8 (blV 1 b s))∧w=w':=by
  have hr:=q34 (k:=1) hb hs
  have hF:=fun w=>q20 1 b s w (by omega) hb hs
  rw [show q28 1=146 by decide] at hF
  generalize blV 1 b s=r at *
  go_enter Tryz.func134,Tryz.ntmps134
  go_wp2_with (first |(go_at_call 146;refine (hF _).mono ?_;rintro e w' ⟨rfl,rfl⟩))
  go_ret
  exact ⟨by rfl,rfl⟩
set_option maxRecDepth 20000 in
set_option maxHeartbeats 2000000 in
theorem v05 (w:World):Calls Tryz.prog 106 #[.int .i64 1] w fun e w'=>e=.returned (.tuple #[.func (.func 134) #[] #[.pointer (some ⟨w.heap.size+1,0,none⟩)],.int .i64 0])∧(w.alloc q22).alloc (.cells #[.func (.func 146) #[] #[]] 113)=w':=by
  have i1:∀ w,(Instr.index 189 (.agg #[.func (.func 145) #[] #[],.func (.func 146) #[] #[],.func (.func 147) #[] #[],.func (.func 148) #[] #[],.func (.func 150) #[] #[],.func (.func 151) #[] #[],.func (.func 152) #[] #[],.func (.func 153) #[] #[],.func (.func 149) #[] #[],.func (.func 154) #[] #[],.func (.func 155) #[] #[],.func (.func 156) #[] #[]]) (.int .i64 1)).run Tryz.prog w=.ok (.func (.func 146) #[] #[]) w:=fun _=>by kernel_rfl
  go_enter Tryz.func106,Tryz.ntmps106
  go_wp2_with (first |(go_at_call 133;refine (q21 _).mono ?_;rintro e w' ⟨rfl,rfl⟩))
  go_ret2
  exact ⟨rfl,rfl⟩
set_option maxRecDepth 20000 in
set_option maxHeartbeats 1000000 in
theorem x7y (b s:Int) (p:Nat) (w:World) (hb:0≤b∧b≤255) (hs:0≤s∧s≤255) (hc:∀ o,w.cell? ⟨p,o,none⟩=#[Value.func (.func 147) #[] #[]][o]?) :
    Calls Tryz.prog 134 #[.int .u8 b,.int .u8 s,.pointer (some ⟨p,0,none⟩)] w fun e w'=>e=.returned (.int .u8 (blV 2 b s))∧w=w':=by
  have hr:=q34 (k:=2) hb hs
  have hF:=fun w=>q20 2 b s w (by omega) hb hs
  rw [show q28 2=147 by decide] at hF
  generalize blV 2 b s=r at *
  go_enter Tryz.func134,Tryz.ntmps134
  go_wp2_with (first |(go_at_call 147;refine (hF _).mono ?_;rintro e w' ⟨rfl,rfl⟩))
  go_ret
  exact ⟨by rfl,rfl⟩
set_option maxRecDepth 20000 in
set_option maxHeartbeats 2000000 in
theorem v06 (w:World):Calls Tryz.prog 106 #[.int .i64 2] w fun e w'=>e=.returned (.tuple #[.func (.func 134) #[] #[.pointer (some ⟨w.heap.size+1,0,none⟩)],.int .i64 0])∧(w.alloc q22).alloc (.cells #[.func (.func 147) #[] #[]] 113)=w':=by
  have i1:∀ w,(Instr.index 189 (.agg #[.func (.func 145) #[] #[],.func (.func 146) #[] #[],.func (.func 147) #[] #[],.func (.func 148) #[] #[],.func (.func 150) #[] #[],.func (.func 151) #[] #[],.func (.func 152) #[] #[],.func (.func 153) #[] #[],.func (.func 149) #[] #[],.func (.func 154) #[] #[],.func (.func 155) #[] #[],.func (.func 156) #[] #[]]) (.int .i64 2)).run Tryz.prog w=.ok (.func (.func 147) #[] #[]) w:=fun _=>by kernel_rfl
  go_enter Tryz.func106,Tryz.ntmps106
  go_wp2_with (first |(go_at_call 133;refine (q21 _).mono ?_;rintro e w' ⟨rfl,rfl⟩))
  go_ret2
  exact ⟨rfl,rfl⟩
set_option maxRecDepth 20000 in
set_option maxHeartbeats 1000000 in
theorem x7z (b s:Int) (p:Nat) (w:World) (hb:0≤b∧b≤255) (hs:0≤s∧s≤255) (hc:∀ o,w.cell? ⟨p,o,none⟩=#[Value.func (.func 148) #[] #[]][o]?) :
    Calls Tryz.prog 134 #[.int .u8 b,.int .u8 s,.pointer (some ⟨p,0,none⟩)] w fun e w'=>e=.returned (.int .u8 (blV 3 b s))∧w=w':=by
  have hr:=q34 (k:=3) hb hs
  have hF:=fun w=>q20 3 b s w (by omega) hb hs
  rw [show q28 3=148 by decide] at hF
  generalize blV 3 b s=r at *
  go_enter Tryz.func134,Tryz.ntmps134
  go_wp2_with (first |(go_at_call 148;refine (hF _).mono ?_;rintro e w' ⟨rfl,rfl⟩))
  go_ret
  exact ⟨by rfl,rfl⟩
set_option maxRecDepth 20000 in
set_option maxHeartbeats 2000000 in
theorem v07 (w:World):Calls Tryz.prog 106 #[.int .i64 3] w fun e w'=>e=.returned (.tuple #[.func (.func 134) #[] #[.pointer (some ⟨w.heap.size+1,0,none⟩)],.int .i64 0])∧(w.alloc q22).alloc (.cells #[.func (.func 148) #[] #[]] 113)=w':=by
  have i1:∀ w,(Instr.index 189 (.agg #[.func (.func 145) #[] #[],.func (.func 146) #[] #[],.func (.func 147) #[] #[],.func (.func 148) #[] #[],.func (.func 150) #[] #[],.func (.func 151) #[] #[],.func (.func 152) #[] #[],.func (.func 153) #[] #[],.func (.func 149) #[] #[],.func (.func 154) #[] #[],.func (.func 155) #[] #[],.func (.func 156) #[] #[]]) (.int .i64 3)).run Tryz.prog w=.ok (.func (.func 148) #[] #[]) w:=fun _=>by kernel_rfl
  go_enter Tryz.func106,Tryz.ntmps106
  go_wp2_with (first |(go_at_call 133;refine (q21 _).mono ?_;rintro e w' ⟨rfl,rfl⟩))
  go_ret2
  exact ⟨rfl,rfl⟩
set_option maxRecDepth 20000 in
set_option maxHeartbeats 1000000 in
theorem x70 (b s:Int) (p:Nat) (w:World) (hb:0≤b∧b≤255) (hs:0≤s∧s≤255) (hc:∀ o,w.cell? ⟨p,o,none⟩=#[Value.func (.func 150) #[] #[]][o]?) :
    Calls Tryz.prog 134 #[.int .u8 b,.int .u8 s,.pointer (some ⟨p,0,none⟩)] w fun e w'=>e=.returned (.int .u8 (blV 4 b s))∧w=w':=by
  have hr:=q34 (k:=4) hb hs
  have hF:=fun w=>q20 4 b s w (by omega) hb hs
  rw [show q28 4=150 by decide] at hF
  generalize blV 4 b s=r at *
  go_enter Tryz.func134,Tryz.ntmps134
  go_wp2_with (first |(go_at_call 150;refine (hF _).mono ?_;rintro e w' ⟨rfl,rfl⟩))
  go_ret
  exact ⟨by rfl,rfl⟩
set_option maxRecDepth 20000 in
set_option maxHeartbeats 2000000 in
theorem v08 (w:World):Calls Tryz.prog 106 #[.int .i64 4] w fun e w'=>e=.returned (.tuple #[.func (.func 134) #[] #[.pointer (some ⟨w.heap.size+1,0,none⟩)],.int .i64 0])∧(w.alloc q22).alloc (.cells #[.func (.func 150) #[] #[]] 113)=w':=by
  have i1:∀ w,(Instr.index 189 (.agg #[.func (.func 145) #[] #[],.func (.func 146) #[] #[],.func (.func 147) #[] #[],.func (.func 148) #[] #[],.func (.func 150) #[] #[],.func (.func 151) #[] #[],.func (.func 152) #[] #[],.func (.func 153) #[] #[],.func (.func 149) #[] #[],.func (.func 154) #[] #[],.func (.func 155) #[] #[],.func (.func 156) #[] #[]]) (.int .i64 4)).run Tryz.prog w=.ok (.func (.func 150) #[] #[]) w:=fun _=>by kernel_rfl
  go_enter Tryz.func106,Tryz.ntmps106
  go_wp2_with (first |(go_at_call 133;refine (q21 _).mono ?_;rintro e w' ⟨rfl,rfl⟩))
  go_ret2
  exact ⟨rfl,rfl⟩
set_option maxRecDepth 20000 in
set_option maxHeartbeats 1000000 in
theorem x71 (b s:Int) (p:Nat) (w:World) (hb:0≤b∧b≤255) (hs:0≤s∧s≤255) (hc:∀ o,w.cell? ⟨p,o,none⟩=#[Value.func (.func 151) #[] #[]][o]?) :
    Calls Tryz.prog 134 #[.int .u8 b,.int .u8 s,.pointer (some ⟨p,0,none⟩)] w fun e w'=>e=.returned (.int .u8 (blV 5 b s))∧w=w':=by
  have hr:=q34 (k:=5) hb hs
  have hF:=fun w=>q20 5 b s w (by omega) hb hs
  rw [show q28 5=151 by decide] at hF
  generalize blV 5 b s=r at *
  go_enter Tryz.func134,Tryz.ntmps134
  go_wp2_with (first |(go_at_call 151;refine (hF _).mono ?_;rintro e w' ⟨rfl,rfl⟩))
  go_ret
  exact ⟨by rfl,rfl⟩
set_option maxRecDepth 20000 in
set_option maxHeartbeats 2000000 in
theorem v09 (w:World):Calls Tryz.prog 106 #[.int .i64 5] w fun e w'=>e=.returned (.tuple #[.func (.func 134) #[] #[.pointer (some ⟨w.heap.size+1,0,none⟩)],.int .i64 0])∧(w.alloc q22).alloc (.cells #[.func (.func 151) #[] #[]] 113)=w':=by
  have i1:∀ w,(Instr.index 189 (.agg #[.func (.func 145) #[] #[],.func (.func 146) #[] #[],.func (.func 147) #[] #[],.func (.func 148) #[] #[],.func (.func 150) #[] #[],.func (.func 151) #[] #[],.func (.func 152) #[] #[],.func (.func 153) #[] #[],.func (.func 149) #[] #[],.func (.func 154) #[] #[],.func (.func 155) #[] #[],.func (.func 156) #[] #[]]) (.int .i64 5)).run Tryz.prog w=.ok (.func (.func 151) #[] #[]) w:=fun _=>by kernel_rfl
  go_enter Tryz.func106,Tryz.ntmps106
  go_wp2_with (first |(go_at_call 133;refine (q21 _).mono ?_;rintro e w' ⟨rfl,rfl⟩))
  go_ret2
  exact ⟨rfl,rfl⟩
set_option maxRecDepth 20000 in
set_option maxHeartbeats 1000000 in
theorem x72 (b s:Int) (p:Nat) (w:World) (hb:0≤b∧b≤255) (hs:0≤s∧s≤255) (hc:∀ o,w.cell? ⟨p,o,none⟩=#[Value.func (.func 152) #[] #[]][o]?) :
    Calls Tryz.prog 134 #[.int .u8 b,.int .u8 s,.pointer (some ⟨p,0,none⟩)] w fun e w'=>e=.returned (.int .u8 (blV 6 b s))∧w=w':=by
  have hr:=q34 (k:=6) hb hs
  have hF:=fun w=>q20 6 b s w (by omega) hb hs
  rw [show q28 6=152 by decide] at hF
  generalize blV 6 b s=r at *
  go_enter Tryz.func134,Tryz.ntmps134
  go_wp2_with (first |(go_at_call 152;refine (hF _).mono ?_;rintro e w' ⟨rfl,rfl⟩))
  go_ret
  exact ⟨by rfl,rfl⟩
set_option maxRecDepth 20000 in
set_option maxHeartbeats 2000000 in
theorem v1a (w:World):Calls Tryz.prog 106 #[.int .i64 6] w fun e w'=>e=.returned (.tuple #[.func (.func 134) #[] #[.pointer (some ⟨w.heap.size+1,0,none⟩)],.int .i64 0])∧(w.alloc q22).alloc (.cells #[.func (.func 152) #[] #[]] 113)=w':=by
  have i1:∀ w,(Instr.index 189 (.agg #[.func (.func 145) #[] #[],.func (.func 146) #[] #[],.func (.func 147) #[] #[],.func (.func 148) #[] #[],.func (.func 150) #[] #[],.func (.func 151) #[] #[],.func (.func 152) #[] #[],.func (.func 153) #[] #[],.func (.func 149) #[] #[],.func (.func 154) #[] #[],.func (.func 155) #[] #[],.func (.func 156) #[] #[]]) (.int .i64 6)).run Tryz.prog w=.ok (.func (.func 152) #[] #[]) w:=fun _=>by kernel_rfl
  go_enter Tryz.func106,Tryz.ntmps106
  go_wp2_with (first |(go_at_call 133;refine (q21 _).mono ?_;rintro e w' ⟨rfl,rfl⟩))
  go_ret2
  exact ⟨rfl,rfl⟩
set_option maxRecDepth 20000 in
set_option maxHeartbeats 1000000 in
theorem x73 (b s:Int) (p:Nat) (w:World) (hb:0≤b∧b≤255) (hs:0≤s∧s≤255) (hc:∀ o,w.cell? ⟨p,o,none⟩=#[Value.func (.func 153) #[] #[]][o]?) :
    Calls Tryz.prog 134 #[.int .u8 b,.int .u8 s,.pointer (some ⟨p,0,none⟩)] w fun e w'=>e=.returned (.int .u8 (blV 7 b s))∧w=w':=by
  have hr:=q34 (k:=7) hb hs
  have hF:=fun w=>q20 7 b s w (by omega) hb hs
  rw [show q28 7=153 by decide] at hF
  generalize blV 7 b s=r at *
  go_enter Tryz.func134,Tryz.ntmps134
  go_wp2_with (first |(go_at_call 153;refine (hF _).mono ?_;rintro e w' ⟨rfl,rfl⟩))
  go_ret
  exact ⟨by rfl,rfl⟩
set_option maxRecDepth 20000 in
set_option maxHeartbeats 2000000 in
theorem v1b (w:World):Calls Tryz.prog 106 #[.int .i64 7] w fun e w'=>e=.returned (.tuple #[.func (.func 134) #[] #[.pointer (some ⟨w.heap.size+1,0,none⟩)],.int .i64 0])∧(w.alloc q22).alloc (.cells #[.func (.func 153) #[] #[]] 113)=w':=by
  have i1:∀ w,(Instr.index 189 (.agg #[.func (.func 145) #[] #[],.func (.func 146) #[] #[],.func (.func 147) #[] #[],.func (.func 148) #[] #[],.func (.func 150) #[] #[],.func (.func 151) #[] #[],.func (.func 152) #[] #[],.func (.func 153) #[] #[],.func (.func 149) #[] #[],.func (.func 154) #[] #[],.func (.func 155) #[] #[],.func (.func 156) #[] #[]]) (.int .i64 7)).run Tryz.prog w=.ok (.func (.func 153) #[] #[]) w:=fun _=>by kernel_rfl
  go_enter Tryz.func106,Tryz.ntmps106
  go_wp2_with (first |(go_at_call 133;refine (q21 _).mono ?_;rintro e w' ⟨rfl,rfl⟩))
  go_ret2
  exact ⟨rfl,rfl⟩
set_option maxRecDepth 20000 in
set_option maxHeartbeats 1000000 in
theorem x74 (b s:Int) (p:Nat) (w:World) (hb:0≤b∧b≤255) (hs:0≤s∧s≤255) (hc:∀ o,w.cell? ⟨p,o,none⟩=#[Value.func (.func 149) #[] #[]][o]?) :
    Calls Tryz.prog 134 #[.int .u8 b,.int .u8 s,.pointer (some ⟨p,0,none⟩)] w fun e w'=>e=.returned (.int .u8 (blV 8 b s))∧w=w':=by
  have hr:=q34 (k:=8) hb hs
  have hF:=fun w=>q20 8 b s w (by omega) hb hs
  rw [show q28 8=149 by decide] at hF
  generalize blV 8 b s=r at *
  go_enter Tryz.func134,Tryz.ntmps134
  go_wp2_with (first |(go_at_call 149;refine (hF _).mono ?_;rintro e w' ⟨rfl,rfl⟩))
  go_ret
  exact ⟨by rfl,rfl⟩
set_option maxRecDepth 20000 in
set_option maxHeartbeats 2000000 in
theorem v1c (w:World):Calls Tryz.prog 106 #[.int .i64 8] w fun e w'=>e=.returned (.tuple #[.func (.func 134) #[] #[.pointer (some ⟨w.heap.size+1,0,none⟩)],.int .i64 0])∧(w.alloc q22).alloc (.cells #[.func (.func 149) #[] #[]] 113)=w':=by
  have i1:∀ w,(Instr.index 189 (.agg #[.func (.func 145) #[] #[],.func (.func 146) #[] #[],.func (.func 147) #[] #[],.func (.func 148) #[] #[],.func (.func 150) #[] #[],.func (.func 151) #[] #[],.func (.func 152) #[] #[],.func (.func 153) #[] #[],.func (.func 149) #[] #[],.func (.func 154) #[] #[],.func (.func 155) #[] #[],.func (.func 156) #[] #[]]) (.int .i64 8)).run Tryz.prog w=.ok (.func (.func 149) #[] #[]) w:=fun _=>by kernel_rfl
  go_enter Tryz.func106,Tryz.ntmps106
  go_wp2_with (first |(go_at_call 133;refine (q21 _).mono ?_;rintro e w' ⟨rfl,rfl⟩))
  go_ret2
  exact ⟨rfl,rfl⟩
set_option maxRecDepth 20000 in
set_option maxHeartbeats 1000000 in
theorem x75 (b s:Int) (p:Nat) (w:World) (hb:0≤b∧b≤255) (hs:0≤s∧s≤255) (hc:∀ o,w.cell? ⟨p,o,none⟩=#[Value.func (.func 154) #[] #[]][o]?) :
    Calls Tryz.prog 134 #[.int .u8 b,.int .u8 s,.pointer (some ⟨p,0,none⟩)] w fun e w'=>e=.returned (.int .u8 (blV 9 b s))∧w=w':=by
  have hr:=q34 (k:=9) hb hs
  have hF:=fun w=>q20 9 b s w (by omega) hb hs
  rw [show q28 9=154 by decide] at hF
  generalize blV 9 b s=r at *
  go_enter Tryz.func134,Tryz.ntmps134
  go_wp2_with (first |(go_at_call 154;refine (hF _).mono ?_;rintro e w' ⟨rfl,rfl⟩))
  go_ret
  exact ⟨by rfl,rfl⟩
set_option maxRecDepth 20000 in
set_option maxHeartbeats 2000000 in
theorem v1d (w:World):Calls Tryz.prog 106 #[.int .i64 9] w fun e w'=>e=.returned (.tuple #[.func (.func 134) #[] #[.pointer (some ⟨w.heap.size+1,0,none⟩)],.int .i64 0])∧(w.alloc q22).alloc (.cells #[.func (.func 154) #[] #[]] 113)=w':=by
  have i1:∀ w,(Instr.index 189 (.agg #[.func (.func 145) #[] #[],.func (.func 146) #[] #[],.func (.func 147) #[] #[],.func (.func 148) #[] #[],.func (.func 150) #[] #[],.func (.func 151) #[] #[],.func (.func 152) #[] #[],.func (.func 153) #[] #[],.func (.func 149) #[] #[],.func (.func 154) #[] #[],.func (.func 155) #[] #[],.func (.func 156) #[] #[]]) (.int .i64 9)).run Tryz.prog w=.ok (.func (.func 154) #[] #[]) w:=fun _=>by kernel_rfl
  go_enter Tryz.func106,Tryz.ntmps106
  go_wp2_with (first |(go_at_call 133;refine (q21 _).mono ?_;rintro e w' ⟨rfl,rfl⟩))
  go_ret2
  exact ⟨rfl,rfl⟩
set_option maxRecDepth 20000 in
set_option maxHeartbeats 1000000 in
theorem x5u (b s:Int) (p:Nat) (w:World) (hb:0≤b∧b≤255) (hs:0≤s∧s≤255) (hc:∀ o,w.cell? ⟨p,o,none⟩=#[Value.func (.func 155) #[] #[]][o]?) :
    Calls Tryz.prog 134 #[.int .u8 b,.int .u8 s,.pointer (some ⟨p,0,none⟩)] w fun e w'=>e=.returned (.int .u8 (blV 10 b s))∧w=w':=by
  have hr:=q34 (k:=10) hb hs
  have hF:=fun w=>q20 10 b s w (by omega) hb hs
  rw [show q28 10=155 by decide] at hF
  generalize blV 10 b s=r at *
  go_enter Tryz.func134,Tryz.ntmps134
  go_wp2_with (first |(go_at_call 155;refine (hF _).mono ?_;rintro e w' ⟨rfl,rfl⟩))
  go_ret
  exact ⟨by rfl,rfl⟩
set_option maxRecDepth 20000 in
set_option maxHeartbeats 2000000 in
theorem x94 (w:World):Calls Tryz.prog 106 #[.int .i64 10] w fun e w'=>e=.returned (.tuple #[.func (.func 134) #[] #[.pointer (some ⟨w.heap.size+1,0,none⟩)],.int .i64 0])∧(w.alloc q22).alloc (.cells #[.func (.func 155) #[] #[]] 113)=w':=by
  have i1:∀ w,(Instr.index 189 (.agg #[.func (.func 145) #[] #[],.func (.func 146) #[] #[],.func (.func 147) #[] #[],.func (.func 148) #[] #[],.func (.func 150) #[] #[],.func (.func 151) #[] #[],.func (.func 152) #[] #[],.func (.func 153) #[] #[],.func (.func 149) #[] #[],.func (.func 154) #[] #[],.func (.func 155) #[] #[],.func (.func 156) #[] #[]]) (.int .i64 10)).run Tryz.prog w=.ok (.func (.func 155) #[] #[]) w:=fun _=>by kernel_rfl
  go_enter Tryz.func106,Tryz.ntmps106
  go_wp2_with (first |(go_at_call 133;refine (q21 _).mono ?_;rintro e w' ⟨rfl,rfl⟩))
  go_ret2
  exact ⟨rfl,rfl⟩
set_option maxRecDepth 20000 in
set_option maxHeartbeats 1000000 in
theorem x5v (b s:Int) (p:Nat) (w:World) (hb:0≤b∧b≤255) (hs:0≤s∧s≤255) (hc:∀ o,w.cell? ⟨p,o,none⟩=#[Value.func (.func 156) #[] #[]][o]?) :
    Calls Tryz.prog 134 #[.int .u8 b,.int .u8 s,.pointer (some ⟨p,0,none⟩)] w fun e w'=>e=.returned (.int .u8 (blV 11 b s))∧w=w':=by
  have hr:=q34 (k:=11) hb hs
  have hF:=fun w=>q20 11 b s w (by omega) hb hs
  rw [show q28 11=156 by decide] at hF
  generalize blV 11 b s=r at *
  go_enter Tryz.func134,Tryz.ntmps134
  go_wp2_with (first |(go_at_call 156;refine (hF _).mono ?_;rintro e w' ⟨rfl,rfl⟩))
  go_ret
  exact ⟨by rfl,rfl⟩
set_option maxRecDepth 20000 in
set_option maxHeartbeats 2000000 in
theorem x95 (w:World):Calls Tryz.prog 106 #[.int .i64 11] w fun e w'=>e=.returned (.tuple #[.func (.func 134) #[] #[.pointer (some ⟨w.heap.size+1,0,none⟩)],.int .i64 0])∧(w.alloc q22).alloc (.cells #[.func (.func 156) #[] #[]] 113)=w':=by
  have i1:∀ w,(Instr.index 189 (.agg #[.func (.func 145) #[] #[],.func (.func 146) #[] #[],.func (.func 147) #[] #[],.func (.func 148) #[] #[],.func (.func 150) #[] #[],.func (.func 151) #[] #[],.func (.func 152) #[] #[],.func (.func 153) #[] #[],.func (.func 149) #[] #[],.func (.func 154) #[] #[],.func (.func 155) #[] #[],.func (.func 156) #[] #[]]) (.int .i64 11)).run Tryz.prog w=.ok (.func (.func 156) #[] #[]) w:=fun _=>by kernel_rfl
  go_enter Tryz.func106,Tryz.ntmps106
  go_wp2_with (first |(go_at_call 133;refine (q21 _).mono ?_;rintro e w' ⟨rfl,rfl⟩))
  go_ret2
  exact ⟨rfl,rfl⟩
theorem x3t (k b s:Int) (p:Nat) (w:World) (hk:0≤k∧k≤11) (hb:0≤b∧b≤255) (hs:0≤s∧s≤255) (hc:∀ o,w.cell? ⟨p,o,none⟩=#[Value.func (.func (q28 k)) #[] #[]][o]?) :
    Calls Tryz.prog 134 #[.int .u8 b,.int .u8 s,.pointer (some ⟨p,0,none⟩)] w fun e w'=>e=.returned (.int .u8 (blV k b s))∧w=w':=by
  have:k=0∨k=1∨k=2∨k=3∨k=4∨k=5∨k=6∨k=7∨k=8∨k=9∨k=10∨k=11:=by omega
  rcases this with rfl |rfl |rfl |rfl |rfl |rfl |rfl |rfl |rfl |rfl |rfl |rfl
  · exact x7w b s p w hb hs hc
  · exact x7x b s p w hb hs hc
  · exact x7y b s p w hb hs hc
  · exact x7z b s p w hb hs hc
  · exact x70 b s p w hb hs hc
  · exact x71 b s p w hb hs hc
  · exact x72 b s p w hb hs hc
  · exact x73 b s p w hb hs hc
  · exact x74 b s p w hb hs hc
  · exact x75 b s p w hb hs hc
  · exact x5u b s p w hb hs hc
  · exact x5v b s p w hb hs hc
theorem x76 (k:Int) (w:World) (hk:0≤k∧k≤11):Calls Tryz.prog 106 #[.int .i64 k] w fun e w'=>e=.returned (.tuple #[.func (.func 134) #[] #[.pointer (some ⟨w.heap.size+1,0,none⟩)],.int .i64 0])∧(w.alloc q22).alloc (.cells #[.func (.func (q28 k)) #[] #[]] 113)=w':=by
  have:k=0∨k=1∨k=2∨k=3∨k=4∨k=5∨k=6∨k=7∨k=8∨k=9∨k=10∨k=11:=by omega
  rcases this with rfl |rfl |rfl |rfl |rfl |rfl |rfl |rfl |rfl |rfl |rfl |rfl
  · exact v04 w
  · exact v05 w
  · exact v06 w
  · exact v07 w
  · exact v08 w
  · exact v09 w
  · exact v1a w
  · exact v1b w
  · exact v1c w
  · exact v1d w
  · exact x94 w
  · exact x95 w
end Go.Proofs.YticolnghiibgfaaGreat
