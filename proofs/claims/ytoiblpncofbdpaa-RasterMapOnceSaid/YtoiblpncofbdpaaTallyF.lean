/-
  The contract of tally's sums, for whatever function gives the classes.
-/
import Derived.Test.YtoiblpncofbdpaaTally
import Derived.Test.YtoiblpncofbdpaaHead
import Derived.Laws.OwnMore
namespace Go.Proofs.Ytoiblpncofbdpaa
open Go.RowKit

theorem i64_info : ∃ i, Try.prog.info? 3 = some i ∧ i.zero = some (.int .i64 0) ∧ i.size = 1 ∧ i.bytes = 8 := by
  obtain ⟨i, hi⟩ : ∃ i, Try.prog.info? 3 = some i := Option.isSome_iff_exists.1 (by kernel_rfl)
  have h1 : (Try.prog.info? 3).map (fun i => (i.size, i.bytes)) = some (1, 8) := by kernel_rfl
  have h2 : (Try.prog.info? 3).bind (fun i => i.zero) = some (.int .i64 0) := by kernel_rfl
  rw [hi] at h1 h2
  simp at h1 h2
  exact ⟨i, hi, h2, h1.1, h1.2⟩
theorem make_ints (n : Nat) (hn : n ≤ 1048576) (w : World) : (Instr.makeSlice 43 (.int .i64 n) (.int .i64 n)).run Try.prog w = .ok (.slice (some ⟨w.heap.size, 0, none⟩) n n) (w.alloc (.cells (madeCells #[.int .i64 0] n) 3)) := by
  obtain ⟨i, hi, hi2⟩ := i64_info
  have := run_make (P := Try.prog) w 43 3 i (.int .i64 0) Try.underlying43 hi hi2.1 .i64 .i64 n n (by omega) (by omega) (by rw [hi2.2.2]; omega) (by omega)
  simpa [hi2.2.1, Value.cells] using this
theorem made_get (n k : Nat) (hk : k < n) : (madeCells #[.int .i64 0] n)[k]? = some (Value.int .i64 0) := by
  rw [← Array.getElem?_toList, toList_madeCells_one, List.getElem?_replicate, if_pos hk]
set_option maxRecDepth 20000 in
set_option maxHeartbeats 4000000 in
theorem sums_any (F : FuncId) (hcl : ∀ args w, (callFunc F args).run Try.prog w = .ok (.enter F args) w) (caps : Array Value) (cls : Nat → Nat) (N W H cap b off : Nat) (pix : Nat → Int) (w : World) (hN : N ≤ 1048576) (hW : 1 ≤ W ∧ W ≤ 1024) (hH : 1 ≤ H ∧ H ≤ 1024) (hlt : b < w.heap.size)
    (hp : ∀ i, i < W * H → w.cell? ⟨b, off + i, none⟩ = some (.int .u8 (pix i))) (hpx : ∀ i, i < W * H → 0 ≤ pix i ∧ pix i ≤ 255) (hcls : ∀ i, i < W * H → cls i < N)
    (hF : ∀ (i : Nat) (w' : World), i < W * H → Below w.heap.size w w' → Calls Try.prog F (#[.int .i64 (i % W : Nat), .int .i64 (i / W : Nat)] ++ caps) w' fun e w'' => e = .returned (.int .i64 (cls i)) ∧ ∃ n, w'' = w'.drewN n) :
    Calls Try.prog 53 #[.agg #[.int .i64 W, .int .i64 H, .slice (some ⟨b, off, none⟩) (W * H) cap], .int .i64 N, .func (.func F) #[] caps] w fun e w' => ∃ B, e = .returned (.tuple #[.slice (some ⟨B, 0, none⟩) N N, .int .i64 0]) ∧ w.heap.size ≤ B ∧ Sums w w' B N (acc cls pix (W * H)) := by
  have h0 : gridE W H (W * H) = 0 := by rw [gridE, if_neg (by rw [inB_yes (by omega), inB_yes (by omega)]; simp), if_neg (by simp)]
  have hm : W * H ≤ 1048576 := Nat.mul_le_mul hW.2 hH.2
  have hmk := make_ints N hN
  generalize hM : W * H = M at *
  have hMH : Hid _ := hM
  have hpH : Hid _ := hp
  have hpxH : Hid _ := hpx
  have hcH : Hid _ := hcls
  have hFH : Hid _ := hF
  clear hp hpx hcls hF hM
  go_enter Try.func53, Try.ntmps53
  go_wp2_with fail
  refine (renderCheck_any W H _ M cap _).mono ?_
  rw [h0]
  rintro e w' ⟨rfl, rfl⟩
  go_wp2_with fail
  obtain ⟨W1, hW1⟩ : ∃ W1, W1 = ((w.alloc (.cells #[.int .i64 W, .int .i64 H, .slice (some ⟨b, off, none⟩) M cap] 39)).alloc (.cells #[.int .i64 W, .int .i64 H, .slice (some ⟨b, off, none⟩) M cap] 39)).alloc (.cells (madeCells #[.int .i64 0] N) 3) := ⟨_, rfl⟩
  rw [← hW1]
  have B1 : Hid (Below w.heap.size w W1) := show Below w.heap.size w W1 by rw [hW1]; (repeat' (with_reducible first | exact Below.refl _ _ | refine past_le ?_ ?_ _ | refine Below.alloc ?_ ?_ _ | refine Below.drew ?_ | refine drewN_le ?_ _ | refine Below.setCell ?_ ?_ _ | refine step_le (by assumption) ?_ ?_ | omega | (simp only []; omega) | (simp only [World.size_alloc]; omega) | (simp only [World.size_setCell]; omega) | (simp only [World.size_drew]; omega) | (simp only [World.size_alloc, World.size_setCell]; omega) | (simp only [World.size_alloc, World.size_drew]; omega) | (simp only [World.size_setCell, World.size_drew]; omega) | (simp only [World.size_alloc, World.size_setCell, World.size_drew]; omega)))
  have S1 : Hid (Sums w W1 (w.heap.size + 1 + 1) N (acc cls pix 0)) := show Sums w W1 (w.heap.size + 1 + 1) N (acc cls pix 0) by
    refine ⟨B1.out, by rw [hW1]; simp, fun k hk => ?_, fun k => ?_⟩
    · rw [hW1, cell_alloc_if, if_pos (by simp)]
      exact made_get N k hk
    · rw [hW1]; simp [frozen_alloc_if]
  have G1 : Hid (∀ o, W1.cell? ⟨w.heap.size, o, none⟩ = #[Value.int .i64 W, .int .i64 H, .slice (some ⟨b, off, none⟩) M cap][o]?) := show ∀ o, W1.cell? ⟨w.heap.size, o, none⟩ = #[Value.int .i64 W, .int .i64 H, .slice (some ⟨b, off, none⟩) M cap][o]? from fun o => by
    rw [hW1, cell_alloc_if, if_neg (by simp only [World.size_alloc]; omega), cell_alloc_if, if_neg (by simp only [World.size_alloc]; omega), cell_alloc_if, if_pos rfl]
  clear hW1 hmk
  go_loopw [22] (fun i wr => ∃ k : Nat, k ≤ M ∧ i = .int .i64 k ∧ (∀ o, wr.cell? ⟨w.heap.size, o, none⟩ = #[Value.int .i64 W, .int .i64 H, .slice (some ⟨b, off, none⟩) M cap][o]?) ∧ Sums w wr (w.heap.size + 1 + 1) N (acc cls pix k)) (fun i _ => M - (intOf i).toNat)
  case atStart => exact ⟨0, Nat.zero_le _, rfl, G1.out, S1.out⟩
  case round =>
    obtain ⟨k, hk, rfl, hg, hS⟩ := hrel
    have HS : Hid _ := hS
    have hszr := hS.size
    by_cases hlt' : k < M
    · have hpk := (hS.below.cell (p := ⟨b, off + k, none⟩) hlt).trans (hpH.out k hlt')
      have hbd := hpxH.out k hlt'
      have hck := hS.cells (cls k) (hcH.out k hlt')
      have hfk := hS.free (cls k)
      have hcn := hcH.out k hlt'
      have hab := acc_bd cls pix (cls k) k (fun i hi => hpxH.out i (by omega))
      have e1 : (k : Int).tmod W = ((k % W : Nat) : Int) := by rw [Int.tmod_eq_emod_of_nonneg (by omega)]; simp
      have e2 : (k : Int).tdiv W = ((k / W : Nat) : Int) := by rw [Int.tdiv_eq_ediv_of_nonneg (by omega)]; simp
      have e3 := Nat.mod_lt k (show W > 0 by omega)
      have e4 : k / W ≤ k := Nat.div_le_self _ _
      have hst : ∀ w', Sums w w' (w.heap.size + 1 + 1) N (acc cls pix k) → Sums w (w'.setCell ⟨w.heap.size + 1 + 1, cls k, none⟩ (.int .i64 (acc cls pix k (cls k) + pix k))) (w.heap.size + 1 + 1) N (acc cls pix (k + 1)) := fun w' h => h.step (cls := cls) (f := pix) (Nat.le_succ_of_le (Nat.le_succ _))
      have HT : Hid _ := hst
      have HG : Hid _ := hg
      have HF : Hid (∀ w', Below w.heap.size w w' → Calls Try.prog F (#[.int .i64 (k % W : Nat), .int .i64 (k / W : Nat)] ++ caps) w' fun e w'' => e = .returned (.int .i64 (cls k)) ∧ ∃ n, w'' = w'.drewN n) := fun w' hb => hFH.out k w' hlt' hb
      clear hst hS
      generalize cls k = c at *
      generalize acc cls pix k c = s at *
      generalize pix k = p at *
      generalize k % W = x at *
      generalize k / W = y at *
      go_wp2_with fail
      refine head 17 (by kernel_rfl) (by kernel_rfl) (by rfl) ?_
      apply Exists.intro
      refine ⟨fun F' => ?_, fun w' hb => ?_⟩
      · haveI := F'.ne
        have hbF : Hid (∀ x', Below w.heap.size w (F'.f x')) := fun x' => (Below.drew HS.out.below).trans ((F'.below x').mono HS.out.below.size)
        simp only [List.take_succ_cons, List.take_zero]
        repeat (go_big_quiet_step (exact fam_draws (HF.out _ (hbF.out _))))
        exact wpQuiet_nil rfl
      have HT' : Hid _ := HS.out.later hb
      have hck' := HT'.out.cells c hcn
      have hfk' := HT'.out.free c
      simp only [List.drop_succ_cons, List.drop_zero]
      go_wp2_with fail
      go_roundw
      case rel => exact ⟨k + 1, by omega, by go_num, (fun o => by rw [cell_setCell_if, if_neg (by omega)]; exact (hb.cell (p := ⟨w.heap.size, o, none⟩) (by show w.heap.size < _; omega)).trans (HG.out o)), HT.out _ HT'.out⟩
      case measure => simp [intOf]; omega
    · have : k = M := by omega
      subst this
      go_wp2_with fail
      go_ret2
      exact ⟨_, rfl, by omega, HS.out⟩
end Go.Proofs.Ytoiblpncofbdpaa
