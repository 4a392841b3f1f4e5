/-
  The contract of blend.Mode and of the function that it makes.
-/
import Derived.Test.YticolnghiibgfaaGreatMrg3
set_option linter.unusedVariables false
set_option linter.unusedSimpArgs false
set_option linter.unnecessarySimpa false
namespace Go.Proofs.YticolnghiibgfaaGreat
open Go.RowKit
def q3r (k:Int):FuncId :=
  if k=1 then 146 else if k=2 then 147 else if k=3 then 148 else if k=4 then 150 else if k=5 then 151
  else if k=6 then 152 else if k=7 then 153 else if k=8 then 149 else if k=9 then 154 else if k=10 then 155 else if k=11 then 156 else 145
theorem q3e (k b s:Int) (w:World) (hk:0≤k∧k≤11) (hb:0≤b∧b≤255) (hs:0≤s∧s≤255) :
    Calls Tryz.prog (q3r k) #[.int .i64 b,.int .i64 s] w fun e w'=>e=.returned (.int .i64 (blV k b s))∧w=w':=by
  have:k=0∨k=1∨k=2∨k=3∨k=4∨k=5∨k=6∨k=7∨k=8∨k=9∨k=10∨k=11:=by omega
  rcases this with rfl |rfl |rfl |rfl |rfl |rfl |rfl |rfl |rfl |rfl |rfl |rfl
  · exact x65 b s w hb hs
  · exact z2f b s w hb hs
  · exact x66 b s w hb hs
  · exact x67 b s w hb hs
  · exact x68 b s w hb hs
  · exact x69 b s w hb hs
  · exact x47 b s w hb hs
  · exact x64 b s w hb hs
  · exact z9l b s w hb hs
  · exact x7a b s w hb hs
  · exact x48 b s w hb hs
  · exact x49 b s w hb hs
def q3j:Obj:=.cells #[.func (.func 145) #[] #[],.func (.func 146) #[] #[],.func (.func 147) #[] #[],.func (.func 148) #[] #[],.func (.func 150) #[] #[],.func (.func 151) #[] #[],.func (.func 152) #[] #[],.func (.func 153) #[] #[],.func (.func 149) #[] #[],.func (.func 154) #[] #[],.func (.func 155) #[] #[],.func (.func 156) #[] #[]] 189
set_option maxRecDepth 20000 in
set_option maxHeartbeats 2000000 in
theorem q3f (w:World):Calls Tryz.prog 133 #[] w fun e w'=>e=.returned (.agg #[.func (.func 145) #[] #[],.func (.func 146) #[] #[],.func (.func 147) #[] #[],.func (.func 148) #[] #[],.func (.func 150) #[] #[],.func (.func 151) #[] #[],.func (.func 152) #[] #[],.func (.func 153) #[] #[],.func (.func 149) #[] #[],.func (.func 154) #[] #[],.func (.func 155) #[] #[],.func (.func 156) #[] #[]])∧w.alloc q3j=w':=by
  go_enter Tryz.func133,Tryz.ntmps133
  go_wp2_with fail
  go_returns
  exact ⟨rfl,rfl⟩
set_option maxRecDepth 20000 in
set_option maxHeartbeats 1000000 in
theorem x9h (b s:Int) (p:Nat) (w:World) (hb:0≤b∧b≤255) (hs:0≤s∧s≤255) (hc:∀ o,w.cell? ⟨p,o,none⟩=#[Value.func (.func 145) #[] #[]][o]?) :
    Calls Tryz.prog 134 #[.int .u8 b,.int .u8 s,.pointer (some ⟨p,0,none⟩)] w fun e w'=>e=.returned (.int .u8 (blV 0 b s))∧w=w':=by
  have hr:=q4d (k:=0) hb hs
  have hF:=fun w=>q3e 0 b s w (by omega) hb hs
  rw [show q3r 0=145 by decide] at hF
  generalize blV 0 b s=r at *
  go_enter Tryz.func134,Tryz.ntmps134
  go_wp2_with (first |(go_at_call 145;refine (hF _).mono ?_;rintro e w' ⟨rfl,rfl⟩))
  go_ret
  exact ⟨by rfl,rfl⟩
set_option maxRecDepth 20000 in
set_option maxHeartbeats 2000000 in
theorem v27 (w:World):Calls Tryz.prog 106 #[.int .i64 0] w fun e w'=>e=.returned (.tuple #[.func (.func 134) #[] #[.pointer (some ⟨w.heap.size+1,0,none⟩)],.int .i64 0])∧(w.alloc q3j).alloc (.cells #[.func (.func 145) #[] #[]] 113)=w':=by
  have i1:∀ w,(Instr.index 189 (.agg #[.func (.func 145) #[] #[],.func (.func 146) #[] #[],.func (.func 147) #[] #[],.func (.func 148) #[] #[],.func (.func 150) #[] #[],.func (.func 151) #[] #[],.func (.func 152) #[] #[],.func (.func 153) #[] #[],.func (.func 149) #[] #[],.func (.func 154) #[] #[],.func (.func 155) #[] #[],.func (.func 156) #[] #[]]) (.int .i64 0)).run Tryz.prog w=.ok (.func (.func 145) #[] #[]) w:=fun _=>by kernel_rfl
  go_enter Tryz.func106,Tryz.ntmps106
  go_wp2_with (first |(go_at_call 133;refine (q3f _).mono ?_;rintro e w' ⟨rfl,rfl⟩))
  go_ret2
  exact ⟨rfl,rfl⟩
set_option maxRecDepth 20000 in
set_option maxHeartbeats 1000000 in
theorem x9i (b s:Int) (p:Nat) (w:World) (hb:0≤b∧b≤255) (hs:0≤s∧s≤255) (hc:∀ o,w.cell? ⟨p,o,none⟩=#[Value.func (.func 146) #[] #[]][o]?) :
    Calls Tryz.prog 134 #[.int .u8 b,.int .u8 s,.pointer (some ⟨p,0,none⟩)] w fun e w'=>e=.returned (.int .u8 (blV 1 b s))∧w=w':=by
  have hr:=q4d (k:=1) hb hs
  have hF:=fun w=>q3e 1 b s w (by omega) hb hs
  rw [show q3r 1=146 by decide] at hF
  generalize blV 1 b s=r at *
  go_enter Tryz.func134,Tryz.ntmps134
  go_wp2_with (first |(go_at_call 146;refine (hF _).mono ?_;rintro e w' ⟨rfl,rfl⟩))
  go_ret
  exact ⟨by rfl,rfl⟩
set_option maxRecDepth 20000 in
set_option maxHeartbeats 2000000 in
theorem v28 (w:World):Calls Tryz.prog 106 #[.int .i64 1] w fun e w'=>e=.returned (.tuple #[.func (.func 134) #[] #[.pointer (some ⟨w.heap.size+1,0,none⟩)],.int .i64 0])∧(w.alloc q3j).alloc (.cells #[.func (.func 146) #[] #[]] 113)=w':=by
  have i1:∀ w,(Instr.index 189 (.agg #[.func (.func 145) #[] #[],.func (.func 146) #[] #[],.func (.func 147) #[] #[],.func (.func 148) #[] #[],.func (.func 150) #[] #[],.func (.func 151) #[] #[],.func (.func 152) #[] #[],.func (.func 153) #[] #[],.func (.func 149) #[] #[],.func (.func 154) #[] #[],.func (.func 155) #[] #[],.func (.func 156) #[] #[]]) (.int .i64 1)).run Tryz.prog w=.ok (.func (.func 146) #[] #[]) w:=fun _=>by kernel_rfl
  go_enter Tryz.func106,Tryz.ntmps106
  go_wp2_with (first |(go_at_call 133;refine (q3f _).mono ?_;rintro e w' ⟨rfl,rfl⟩))
  go_ret2
  exact ⟨rfl,rfl⟩
set_option maxRecDepth 20000 in
set_option maxHeartbeats 1000000 in
theorem x9j (b s:Int) (p:Nat) (w:World) (hb:0≤b∧b≤255) (hs:0≤s∧s≤255) (hc:∀ o,w.cell? ⟨p,o,none⟩=#[Value.func (.func 147) #[] #[]][o]?) :
    Calls Tryz.prog 134 #[.int .u8 b,.int .u8 s,.pointer (some ⟨p,0,none⟩)] w fun e w'=>e=.returned (.int .u8 (blV 2 b s))∧w=w':=by
  have hr:=q4d (k:=2) hb hs
  have hF:=fun w=>q3e 2 b s w (by omega) hb hs
  rw [show q3r 2=147 by decide] at hF
  generalize blV 2 b s=r at *
  go_enter Tryz.func134,Tryz.ntmps134
  go_wp2_with (first |(go_at_call 147;refine (hF _).mono ?_;rintro e w' ⟨rfl,rfl⟩))
  go_ret
  exact ⟨by rfl,rfl⟩
set_option maxRecDepth 20000 in
set_option maxHeartbeats 2000000 in
theorem v29 (w:World):Calls Tryz.prog 106 #[.int .i64 2] w fun e w'=>e=.returned (.tuple #[.func (.func 134) #[] #[.pointer (some ⟨w.heap.size+1,0,none⟩)],.int .i64 0])∧(w.alloc q3j).alloc (.cells #[.func (.func 147) #[] #[]] 113)=w':=by
  have i1:∀ w,(Instr.index 189 (.agg #[.func (.func 145) #[] #[],.func (.func 146) #[] #[],.func (.func 147) #[] #[],.func (.func 148) #[] #[],.func (.func 150) #[] #[],.func (.func 151) #[] #[],.func (.func 152) #[] #[],.func (.func 153) #[] #[],.func (.func 149) #[] #[],.func (.func 154) #[] #[],.func (.func 155) #[] #[],.func (.func 156) #[] #[]]) (.int .i64 2)).run Tryz.prog w=.ok (.func (.func 147) #[] #[]) w:=fun _=>by kernel_rfl
  go_enter Tryz.func106,Tryz.ntmps106
  go_wp2_with (first |(go_at_call 133;refine (q3f _).mono ?_;rintro e w' ⟨rfl,rfl⟩))
  go_ret2
  exact ⟨rfl,rfl⟩
set_option maxRecDepth 20000 in
set_option maxHeartbeats 1000000 in
theorem x9k (b s:Int) (p:Nat) (w:World) (hb:0≤b∧b≤255) (hs:0≤s∧s≤255) (hc:∀ o,w.cell? ⟨p,o,none⟩=#[Value.func (.func 148) #[] #[]][o]?) :
    Calls Tryz.prog 134 #[.int .u8 b,.int .u8 s,.pointer (some ⟨p,0,none⟩)] w fun e w'=>e=.returned (.int .u8 (blV 3 b s))∧w=w':=by
  have hr:=q4d (k:=3) hb hs
  have hF:=fun w=>q3e 3 b s w (by omega) hb hs
  rw [show q3r 3=148 by decide] at hF
  generalize blV 3 b s=r at *
  go_enter Tryz.func134,Tryz.ntmps134
  go_wp2_with (first |(go_at_call 148;refine (hF _).mono ?_;rintro e w' ⟨rfl,rfl⟩))
  go_ret
  exact ⟨by rfl,rfl⟩
set_option maxRecDepth 20000 in
set_option maxHeartbeats 2000000 in
theorem v3a (w:World):Calls Tryz.prog 106 #[.int .i64 3] w fun e w'=>e=.returned (.tuple #[.func (.func 134) #[] #[.pointer (some ⟨w.heap.size+1,0,none⟩)],.int .i64 0])∧(w.alloc q3j).alloc (.cells #[.func (.func 148) #[] #[]] 113)=w':=by
  have i1:∀ w,(Instr.index 189 (.agg #[.func (.func 145) #[] #[],.func (.func 146) #[] #[],.func (.func 147) #[] #[],.func (.func 148) #[] #[],.func (.func 150) #[] #[],.func (.func 151) #[] #[],.func (.func 152) #[] #[],.func (.func 153) #[] #[],.func (.func 149) #[] #[],.func (.func 154) #[] #[],.func (.func 155) #[] #[],.func (.func 156) #[] #[]]) (.int .i64 3)).run Tryz.prog w=.ok (.func (.func 148) #[] #[]) w:=fun _=>by kernel_rfl
  go_enter Tryz.func106,Tryz.ntmps106
  go_wp2_with (first |(go_at_call 133;refine (q3f _).mono ?_;rintro e w' ⟨rfl,rfl⟩))
  go_ret2
  exact ⟨rfl,rfl⟩
set_option maxRecDepth 20000 in
set_option maxHeartbeats 1000000 in
theorem x9l (b s:Int) (p:Nat) (w:World) (hb:0≤b∧b≤255) (hs:0≤s∧s≤255) (hc:∀ o,w.cell? ⟨p,o,none⟩=#[Value.func (.func 150) #[] #[]][o]?) :
    Calls Tryz.prog 134 #[.int .u8 b,.int .u8 s,.pointer (some ⟨p,0,none⟩)] w fun e w'=>e=.returned (.int .u8 (blV 4 b s))∧w=w':=by
  have hr:=q4d (k:=4) hb hs
  have hF:=fun w=>q3e 4 b s w (by omega) hb hs
  rw [show q3r 4=150 by decide] at hF
  generalize blV 4 b s=r at *
  go_enter Tryz.func134,Tryz.ntmps134
  go_wp2_with (first |(go_at_call 150;refine (hF _).mono ?_;rintro e w' ⟨rfl,rfl⟩))
  go_ret
  exact ⟨by rfl,rfl⟩
set_option maxRecDepth 20000 in
set_option maxHeartbeats 2000000 in
theorem v3b (w:World):Calls Tryz.prog 106 #[.int .i64 4] w fun e w'=>e=.returned (.tuple #[.func (.func 134) #[] #[.pointer (some ⟨w.heap.size+1,0,none⟩)],.int .i64 0])∧(w.alloc q3j).alloc (.cells #[.func (.func 150) #[] #[]] 113)=w':=by
  have i1:∀ w,(Instr.index 189 (.agg #[.func (.func 145) #[] #[],.func (.func 146) #[] #[],.func (.func 147) #[] #[],.func (.func 148) #[] #[],.func (.func 150) #[] #[],.func (.func 151) #[] #[],.func (.func 152) #[] #[],.func (.func 153) #[] #[],.func (.func 149) #[] #[],.func (.func 154) #[] #[],.func (.func 155) #[] #[],.func (.func 156) #[] #[]]) (.int .i64 4)).run Tryz.prog w=.ok (.func (.func 150) #[] #[]) w:=fun _=>by kernel_rfl
  go_enter Tryz.func106,Tryz.ntmps106
  go_wp2_with (first |(go_at_call 133;refine (q3f _).mono ?_;rintro e w' ⟨rfl,rfl⟩))
  go_ret2
  exact ⟨rfl,rfl⟩
set_option maxRecDepth 20000 in
set_option maxHeartbeats 1000000 in
theorem x9m (b s:Int) (p:Nat) (w:World) (hb:0≤b∧b≤255) (hs:0≤s∧s≤255) (hc:∀ o,w.cell? ⟨p,o,none⟩=#[Value.func (.func 151) #[] #[]][o]?) :
    Calls Tryz.prog 134 #[.int .u8 b,.int .u8 s,.pointer (some ⟨p,0,none⟩)] w fun e w'=>e=.returned (.int .u8 (blV 5 b s))∧w=w':=by
  have hr:=q4d (k:=5) hb hs
  have hF:=fun w=>q3e 5 b s w (by omega) hb hs
  rw [show q3r 5=151 by decide] at hF
  generalize blV 5 b s=r at *
  go_enter Tryz.func134,Tryz.ntmps134
  go_wp2_with (first |(go_at_call 151;refine (hF _).mono ?_;rintro e w' ⟨rfl,rfl⟩))
  go_ret
  exact ⟨by rfl,rfl⟩
set_option maxRecDepth 20000 in
set_option maxHeartbeats 2000000 in
theorem v3c (w:World):Calls Tryz.prog 106 #[.int .i64 5] w fun e w'=>e=.returned (.tuple #[.func (.func 134) #[] #[.pointer (some ⟨w.heap.size+1,0,none⟩)],.int .i64 0])∧(w.alloc q3j).alloc (.cells #[.func (.func 151) #[] #[]] 113)=w':=by
  have i1:∀ w,(Instr.index 189 (.agg #[.func (.func 145) #[] #[],.func (.func 146) #[] #[],.func (.func 147) #[] #[],.func (.func 148) #[] #[],.func (.func 150) #[] #[],.func (.func 151) #[] #[],.func (.func 152) #[] #[],.func (.func 153) #[] #[],.func (.func 149) #[] #[],.func (.func 154) #[] #[],.func (.func 155) #[] #[],.func (.func 156) #[] #[]]) (.int .i64 5)).run Tryz.prog w=.ok (.func (.func 151) #[] #[]) w:=fun _=>by kernel_rfl
  go_enter Tryz.func106,Tryz.ntmps106
  go_wp2_with (first |(go_at_call 133;refine (q3f _).mono ?_;rintro e w' ⟨rfl,rfl⟩))
  go_ret2
  exact ⟨rfl,rfl⟩
set_option maxRecDepth 20000 in
set_option maxHeartbeats 1000000 in
theorem x9n (b s:Int) (p:Nat) (w:World) (hb:0≤b∧b≤255) (hs:0≤s∧s≤255) (hc:∀ o,w.cell? ⟨p,o,none⟩=#[Value.func (.func 152) #[] #[]][o]?) :
    Calls Tryz.prog 134 #[.int .u8 b,.int .u8 s,.pointer (some ⟨p,0,none⟩)] w fun e w'=>e=.returned (.int .u8 (blV 6 b s))∧w=w':=by
  have hr:=q4d (k:=6) hb hs
  have hF:=fun w=>q3e 6 b s w (by omega) hb hs
  rw [show q3r 6=152 by decide] at hF
  generalize blV 6 b s=r at *
  go_enter Tryz.func134,Tryz.ntmps134
  go_wp2_with (first |(go_at_call 152;refine (hF _).mono ?_;rintro e w' ⟨rfl,rfl⟩))
  go_ret
  exact ⟨by rfl,rfl⟩
set_option maxRecDepth 20000 in
set_option maxHeartbeats 2000000 in
theorem v3d (w:World):Calls Tryz.prog 106 #[.int .i64 6] w fun e w'=>e=.returned (.tuple #[.func (.func 134) #[] #[.pointer (some ⟨w.heap.size+1,0,none⟩)],.int .i64 0])∧(w.alloc q3j).alloc (.cells #[.func (.func 152) #[] #[]] 113)=w':=by
  have i1:∀ w,(Instr.index 189 (.agg #[.func (.func 145) #[] #[],.func (.func 146) #[] #[],.func (.func 147) #[] #[],.func (.func 148) #[] #[],.func (.func 150) #[] #[],.func (.func 151) #[] #[],.func (.func 152) #[] #[],.func (.func 153) #[] #[],.func (.func 149) #[] #[],.func (.func 154) #[] #[],.func (.func 155) #[] #[],.func (.func 156) #[] #[]]) (.int .i64 6)).run Tryz.prog w=.ok (.func (.func 152) #[] #[]) w:=fun _=>by kernel_rfl
  go_enter Tryz.func106,Tryz.ntmps106
  go_wp2_with (first |(go_at_call 133;refine (q3f _).mono ?_;rintro e w' ⟨rfl,rfl⟩))
  go_ret2
  exact ⟨rfl,rfl⟩
set_option maxRecDepth 20000 in
set_option maxHeartbeats 1000000 in
theorem x9o (b s:Int) (p:Nat) (w:World) (hb:0≤b∧b≤255) (hs:0≤s∧s≤255) (hc:∀ o,w.cell? ⟨p,o,none⟩=#[Value.func (.func 153) #[] #[]][o]?) :
    Calls Tryz.prog 134 #[.int .u8 b,.int .u8 s,.pointer (some ⟨p,0,none⟩)] w fun e w'=>e=.returned (.int .u8 (blV 7 b s))∧w=w':=by
  have hr:=q4d (k:=7) hb hs
  have hF:=fun w=>q3e 7 b s w (by omega) hb hs
  rw [show q3r 7=153 by decide] at hF
  generalize blV 7 b s=r at *
  go_enter Tryz.func134,Tryz.ntmps134
  go_wp2_with (first |(go_at_call 153;refine (hF _).mono ?_;rintro e w' ⟨rfl,rfl⟩))
  go_ret
  exact ⟨by rfl,rfl⟩
set_option maxRecDepth 20000 in
set_option maxHeartbeats 2000000 in
theorem v3e (w:World):Calls Tryz.prog 106 #[.int .i64 7] w fun e w'=>e=.returned (.tuple #[.func (.func 134) #[] #[.pointer (some ⟨w.heap.size+1,0,none⟩)],.int .i64 0])∧(w.alloc q3j).alloc (.cells #[.func (.func 153) #[] #[]] 113)=w':=by
  have i1:∀ w,(Instr.index 189 (.agg #[.func (.func 145) #[] #[],.func (.func 146) #[] #[],.func (.func 147) #[] #[],.func (.func 148) #[] #[],.func (.func 150) #[] #[],.func (.func 151) #[] #[],.func (.func 152) #[] #[],.func (.func 153) #[] #[],.func (.func 149) #[] #[],.func (.func 154) #[] #[],.func (.func 155) #[] #[],.func (.func 156) #[] #[]]) (.int .i64 7)).run Tryz.prog w=.ok (.func (.func 153) #[] #[]) w:=fun _=>by kernel_rfl
  go_enter Tryz.func106,Tryz.ntmps106
  go_wp2_with (first |(go_at_call 133;refine (q3f _).mono ?_;rintro e w' ⟨rfl,rfl⟩))
  go_ret2
  exact ⟨rfl,rfl⟩
set_option maxRecDepth 20000 in
set_option maxHeartbeats 1000000 in
theorem x9p (b s:Int) (p:Nat) (w:World) (hb:0≤b∧b≤255) (hs:0≤s∧s≤255) (hc:∀ o,w.cell? ⟨p,o,none⟩=#[Value.func (.func 149) #[] #[]][o]?) :
    Calls Tryz.prog 134 #[.int .u8 b,.int .u8 s,.pointer (some ⟨p,0,none⟩)] w fun e w'=>e=.returned (.int .u8 (blV 8 b s))∧w=w':=by
  have hr:=q4d (k:=8) hb hs
  have hF:=fun w=>q3e 8 b s w (by omega) hb hs
  rw [show q3r 8=149 by decide] at hF
  generalize blV 8 b s=r at *
  go_enter Tryz.func134,Tryz.ntmps134
  go_wp2_with (first |(go_at_call 149;refine (hF _).mono ?_;rintro e w' ⟨rfl,rfl⟩))
  go_ret
  exact ⟨by rfl,rfl⟩
set_option maxRecDepth 20000 in
set_option maxHeartbeats 2000000 in
theorem v3f (w:World):Calls Tryz.prog 106 #[.int .i64 8] w fun e w'=>e=.returned (.tuple #[.func (.func 134) #[] #[.pointer (some ⟨w.heap.size+1,0,none⟩)],.int .i64 0])∧(w.alloc q3j).alloc (.cells #[.func (.func 149) #[] #[]] 113)=w':=by
  have i1:∀ w,(Instr.index 189 (.agg #[.func (.func 145) #[] #[],.func (.func 146) #[] #[],.func (.func 147) #[] #[],.func (.func 148) #[] #[],.func (.func 150) #[] #[],.func (.func 151) #[] #[],.func (.func 152) #[] #[],.func (.func 153) #[] #[],.func (.func 149) #[] #[],.func (.func 154) #[] #[],.func (.func 155) #[] #[],.func (.func 156) #[] #[]]) (.int .i64 8)).run Tryz.prog w=.ok (.func (.func 149) #[] #[]) w:=fun _=>by kernel_rfl
  go_enter Tryz.func106,Tryz.ntmps106
  go_wp2_with (first |(go_at_call 133;refine (q3f _).mono ?_;rintro e w' ⟨rfl,rfl⟩))
  go_ret2
  exact ⟨rfl,rfl⟩
set_option maxRecDepth 20000 in
set_option maxHeartbeats 1000000 in
theorem x9q (b s:Int) (p:Nat) (w:World) (hb:0≤b∧b≤255) (hs:0≤s∧s≤255) (hc:∀ o,w.cell? ⟨p,o,none⟩=#[Value.func (.func 154) #[] #[]][o]?) :
    Calls Tryz.prog 134 #[.int .u8 b,.int .u8 s,.pointer (some ⟨p,0,none⟩)] w fun e w'=>e=.returned (.int .u8 (blV 9 b s))∧w=w':=by
  have hr:=q4d (k:=9) hb hs
  have hF:=fun w=>q3e 9 b s w (by omega) hb hs
  rw [show q3r 9=154 by decide] at hF
  generalize blV 9 b s=r at *
  go_enter Tryz.func134,Tryz.ntmps134
  go_wp2_with (first |(go_at_call 154;refine (hF _).mono ?_;rintro e w' ⟨rfl,rfl⟩))
  go_ret
  exact ⟨by rfl,rfl⟩
set_option maxRecDepth 20000 in
set_option maxHeartbeats 2000000 in
theorem v3g (w:World):Calls Tryz.prog 106 #[.int .i64 9] w fun e w'=>e=.returned (.tuple #[.func (.func 134) #[] #[.pointer (some ⟨w.heap.size+1,0,none⟩)],.int .i64 0])∧(w.alloc q3j).alloc (.cells #[.func (.func 154) #[] #[]] 113)=w':=by
  have i1:∀ w,(Instr.index 189 (.agg #[.func (.func 145) #[] #[],.func (.func 146) #[] #[],.func (.func 147) #[] #[],.func (.func 148) #[] #[],.func (.func 150) #[] #[],.func (.func 151) #[] #[],.func (.func 152) #[] #[],.func (.func 153) #[] #[],.func (.func 149) #[] #[],.func (.func 154) #[] #[],.func (.func 155) #[] #[],.func (.func 156) #[] #[]]) (.int .i64 9)).run Tryz.prog w=.ok (.func (.func 154) #[] #[]) w:=fun _=>by kernel_rfl
  go_enter Tryz.func106,Tryz.ntmps106
  go_wp2_with (first |(go_at_call 133;refine (q3f _).mono ?_;rintro e w' ⟨rfl,rfl⟩))
  go_ret2
  exact ⟨rfl,rfl⟩
set_option maxRecDepth 20000 in
set_option maxHeartbeats 1000000 in
theorem x7b (b s:Int) (p:Nat) (w:World) (hb:0≤b∧b≤255) (hs:0≤s∧s≤255) (hc:∀ o,w.cell? ⟨p,o,none⟩=#[Value.func (.func 155) #[] #[]][o]?) :
    Calls Tryz.prog 134 #[.int .u8 b,.int .u8 s,.pointer (some ⟨p,0,none⟩)] w fun e w'=>e=.returned (.int .u8 (blV 10 b s))∧w=w':=by
  have hr:=q4d (k:=10) hb hs
  have hF:=fun w=>q3e 10 b s w (by omega) hb hs
  rw [show q3r 10=155 by decide] at hF
  generalize blV 10 b s=r at *
  go_enter Tryz.func134,Tryz.ntmps134
  go_wp2_with (first |(go_at_call 155;refine (hF _).mono ?_;rintro e w' ⟨rfl,rfl⟩))
  go_ret
  exact ⟨by rfl,rfl⟩
set_option maxRecDepth 20000 in
set_option maxHeartbeats 2000000 in
theorem v16 (w:World):Calls Tryz.prog 106 #[.int .i64 10] w fun e w'=>e=.returned (.tuple #[.func (.func 134) #[] #[.pointer (some ⟨w.heap.size+1,0,none⟩)],.int .i64 0])∧(w.alloc q3j).alloc (.cells #[.func (.func 155) #[] #[]] 113)=w':=by
  have i1:∀ w,(Instr.index 189 (.agg #[.func (.func 145) #[] #[],.func (.func 146) #[] #[],.func (.func 147) #[] #[],.func (.func 148) #[] #[],.func (.func 150) #[] #[],.func (.func 151) #[] #[],.func (.func 152) #[] #[],.func (.func 153) #[] #[],.func (.func 149) #[] #[],.func (.func 154) #[] #[],.func (.func 155) #[] #[],.func (.func 156) #[] #[]]) (.int .i64 10)).run Tryz.prog w=.ok (.func (.func 155) #[] #[]) w:=fun _=>by kernel_rfl
  go_enter Tryz.func106,Tryz.ntmps106
  go_wp2_with (first |(go_at_call 133;refine (q3f _).mono ?_;rintro e w' ⟨rfl,rfl⟩))
  go_ret2
  exact ⟨rfl,rfl⟩
set_option maxRecDepth 20000 in
set_option maxHeartbeats 1000000 in
theorem x7c (b s:Int) (p:Nat) (w:World) (hb:0≤b∧b≤255) (hs:0≤s∧s≤255) (hc:∀ o,w.cell? ⟨p,o,none⟩=#[Value.func (.func 156) #[] #[]][o]?) :
    Calls Tryz.prog 134 #[.int .u8 b,.int .u8 s,.pointer (some ⟨p,0,none⟩)] w fun e w'=>e=.returned (.int .u8 (blV 11 b s))∧w=w':=by
  have hr:=q4d (k:=11) hb hs
  have hF:=fun w=>q3e 11 b s w (by omega) hb hs
  rw [show q3r 11=156 by decide] at hF
  generalize blV 11 b s=r at *
  go_enter Tryz.func134,Tryz.ntmps134
  go_wp2_with (first |(go_at_call 156;refine (hF _).mono ?_;rintro e w' ⟨rfl,rfl⟩))
  go_ret
  exact ⟨by rfl,rfl⟩
set_option maxRecDepth 20000 in
set_option maxHeartbeats 2000000 in
theorem v17 (w:World):Calls Tryz.prog 106 #[.int .i64 11] w fun e w'=>e=.returned (.tuple #[.func (.func 134) #[] #[.pointer (some ⟨w.heap.size+1,0,none⟩)],.int .i64 0])∧(w.alloc q3j).alloc (.cells #[.func (.func 156) #[] #[]] 113)=w':=by
  have i1:∀ w,(Instr.index 189 (.agg #[.func (.func 145) #[] #[],.func (.func 146) #[] #[],.func (.func 147) #[] #[],.func (.func 148) #[] #[],.func (.func 150) #[] #[],.func (.func 151) #[] #[],.func (.func 152) #[] #[],.func (.func 153) #[] #[],.func (.func 149) #[] #[],.func (.func 154) #[] #[],.func (.func 155) #[] #[],.func (.func 156) #[] #[]]) (.int .i64 11)).run Tryz.prog w=.ok (.func (.func 156) #[] #[]) w:=fun _=>by kernel_rfl
  go_enter Tryz.func106,Tryz.ntmps106
  go_wp2_with (first |(go_at_call 133;refine (q3f _).mono ?_;rintro e w' ⟨rfl,rfl⟩))
  go_ret2
  exact ⟨rfl,rfl⟩
theorem x5a (k b s:Int) (p:Nat) (w:World) (hk:0≤k∧k≤11) (hb:0≤b∧b≤255) (hs:0≤s∧s≤255) (hc:∀ o,w.cell? ⟨p,o,none⟩=#[Value.func (.func (q3r k)) #[] #[]][o]?) :
    Calls Tryz.prog 134 #[.int .u8 b,.int .u8 s,.pointer (some ⟨p,0,none⟩)] w fun e w'=>e=.returned (.int .u8 (blV k b s))∧w=w':=by
  have:k=0∨k=1∨k=2∨k=3∨k=4∨k=5∨k=6∨k=7∨k=8∨k=9∨k=10∨k=11:=by omega
  rcases this with rfl |rfl |rfl |rfl |rfl |rfl |rfl |rfl |rfl |rfl |rfl |rfl
  · exact x9h b s p w hb hs hc
  · exact x9i b s p w hb hs hc
  · exact x9j b s p w hb hs hc
  · exact x9k b s p w hb hs hc
  · exact x9l b s p w hb hs hc
  · exact x9m b s p w hb hs hc
  · exact x9n b s p w hb hs hc
  · exact x9o b s p w hb hs hc
  · exact x9p b s p w hb hs hc
  · exact x9q b s p w hb hs hc
  · exact x7b b s p w hb hs hc
  · exact x7c b s p w hb hs hc
theorem x9r (k:Int) (w:World) (hk:0≤k∧k≤11):Calls Tryz.prog 106 #[.int .i64 k] w fun e w'=>e=.returned (.tuple #[.func (.func 134) #[] #[.pointer (some ⟨w.heap.size+1,0,none⟩)],.int .i64 0])∧(w.alloc q3j).alloc (.cells #[.func (.func (q3r k)) #[] #[]] 113)=w':=by
  have:k=0∨k=1∨k=2∨k=3∨k=4∨k=5∨k=6∨k=7∨k=8∨k=9∨k=10∨k=11:=by omega
  rcases this with rfl |rfl |rfl |rfl |rfl |rfl |rfl |rfl |rfl |rfl |rfl |rfl
  · exact v27 w
  · exact v28 w
  · exact v29 w
  · exact v3a w
  · exact v3b w
  · exact v3c w
  · exact v3d w
  · exact v3e w
  · exact v3f w
  · exact v3g w
  · exact v16 w
  · exact v17 w
end Go.Proofs.YticolnghiibgfaaGreat
