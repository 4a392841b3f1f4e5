/-
  The contract of raster.build, with each of the functions that it is handed.
-/
import Derived.Test.YtmklpphdbmpbbaaRaster
import Derived.Test.YtmklpphdbmpbbaaBuild
import Derived.OwnWalk
namespace Go.Proofs.Ytmklpphdbmpbbaa
open Go.RowKit

set_option maxRecDepth 20000 in
set_option maxHeartbeats 4000000 in
theorem build_turn1 (c d : Nat) (p0 p1 p2 : Nat) (v : Nat → Nat → Int) (w : World) (hm : c * d ≤ 1048576) (hc : c ≤ 1024) (hd : d ≤ 1024) (hv : ∀ x y, x < c → y < d → 0 ≤ v x y ∧ v x y ≤ 255)
    (hF : ∀ (x y : Nat) (w' : World), x < c → y < d → Below w.heap.size w w' → Calls Try.prog 46 #[.int .i64 x, .int .i64 y, .pointer (some ⟨p0, 0, none⟩), .pointer (some ⟨p1, 0, none⟩), .pointer (some ⟨p2, 0, none⟩)] w' fun e w'' => e = .returned (.int .u8 (v x y)) ∧ w' = w'') :
    Calls Try.prog 45 #[.int .i64 c, .int .i64 d, .func (.func 46) #[] #[.pointer (some ⟨p0, 0, none⟩), .pointer (some ⟨p1, 0, none⟩), .pointer (some ⟨p2, 0, none⟩)]] w fun e w' => e = .returned (.agg #[.int .i64 c, .int .i64 d, .slice (some ⟨w.heap.size + 1, 0, none⟩) (c * d) (c * d)]) ∧
      Below w.heap.size w w' ∧ ∀ i, i < c * d → w'.cell? ⟨w.heap.size + 1, i, none⟩ = some (.int .u8 (v (i % c) (i / c))) := by
  have hcd : (c : Int) * (d : Int) = ((c * d : Nat) : Int) := by simp
  have HM : Hid (c * d = c * d) := rfl
  generalize hM : c * d = m at hm hcd ⊢
  have hMH : Hid _ := hM
  have HF : Hid _ := hF
  clear hM hF
  obtain ⟨i, hi⟩ : ∃ i, Try.prog.info? 5 = some i := Option.isSome_iff_exists.1 (by kernel_rfl)
  have hi2 : i.zero = some (.int .u8 0) ∧ i.size = 1 ∧ i.bytes = 1 := by
    have h1 : (Try.prog.info? 5).map (fun i => (i.size, i.bytes)) = some (1, 1) := by kernel_rfl
    have h2 : (Try.prog.info? 5).bind (fun i => i.zero) = some (.int .u8 0) := by kernel_rfl
    rw [hi] at h1 h2
    simp at h1 h2
    exact ⟨h2, h1.1, h1.2⟩
  have hmk : ∀ w, (Instr.makeSlice 41 (.int .i64 0) (.int .i64 m)).run Try.prog w = .ok (.slice (some ⟨w.heap.size, 0, none⟩) 0 m) (w.alloc (.cells (madeCells #[.int .u8 0] m) 5)) := fun w => by
    have := run_make (P := Try.prog) w 41 5 i (.int .u8 0) Try.underlying41 hi hi2.1 .i64 .i64 0 m (by omega) (by omega) (by rw [hi2.2.2]; omega) (by omega)
    simpa [hi2.2.1, Value.cells] using this
  have hiH : Hid _ := hi
  have hi2H : Hid _ := hi2
  clear hi hi2
  go_enter Try.func45, Try.ntmps45
  go_wp2_with fail
  have hB0 : Hid (Built w (((w.alloc (.cells #[.int .i64 0, .int .i64 0, .slice none 0 0] 43)).alloc (.cells (madeCells #[.int .u8 0] m) 5)).alloc (.cells #[.int .i64 c, .int .i64 d, .slice (some ⟨w.heap.size + 1, 0, none⟩) 0 m] 43)) 5 (.int .u8) m 0 c d (fun i => v (i % c) (i / c))) :=
    Built.start 43 43 (madeCells #[.int .u8 0] m) (size_madeCells _ _) (by unfold maxLen; omega) _ rfl
  go_loopw [18] (fun i wr => ∃ y : Nat, y ≤ d ∧ i = .int .i64 y ∧ Built w wr 5 (.int .u8) m (y * c) c d (fun i => v (i % c) (i / c))) (fun i _ => d - (intOf i).toNat)
  case atStart => exact ⟨0, Nat.zero_le _, rfl, by rw [Nat.zero_mul]; exact hB0.out⟩
  case round =>
    obtain ⟨y, hy, rfl, hB⟩ := hrel
    have hBH : Hid _ := hB
    clear hB hB0
    by_cases hlt : y < d
    · go_wp2_with fail
      go_loopw [22] (fun i wr => ∃ x : Nat, x ≤ c ∧ i = .int .i64 x ∧ Built w wr 5 (.int .u8) m (y * c + x) c d (fun i => v (i % c) (i / c))) (fun i _ => c - (intOf i).toNat)
      case atStart => exact ⟨0, Nat.zero_le _, rfl, hBH.out⟩
      case round =>
        obtain ⟨x, hx, rfl, hB1⟩ := hrel
        clear hBH
        by_cases hlx : x < c
        · have hg := hB1.grid
          have hgF := hB1.gridF
          have hszr := hB1.size
          have hBH1 : Hid _ := hB1
          clear hB1
          have hroom : y * c + x + 1 ≤ m := by
            have h1 : (y + 1) * c ≤ d * c := Nat.mul_le_mul_right _ hlt
            have h2 : d * c = m := by rw [Nat.mul_comm]; exact hMH.out
            rw [Nat.add_mul] at h1
            omega
          have hvx : Hid (v ((y * c + x) % c) ((y * c + x) / c) = v x y) := by
            show v ((y * c + x) % c) ((y * c + x) / c) = v x y
            rw [show y * c + x = x + c * y by rw [Nat.mul_comm, Nat.add_comm], Nat.add_mul_mod_self_left, Nat.mod_eq_of_lt hlx, Nat.add_mul_div_left _ _ (by omega), Nat.div_eq_of_lt hlx, Nat.zero_add]
          go_wp2_with fail
          refine mix2 6 31 (by kernel_rfl) (by kernel_rfl) ⟨by rfl, by simp⟩ ⟨_, rfl, rfl, rfl⟩ ?_
          apply Exists.intro
          refine ⟨fun b => .slice (some ⟨b, 0, none⟩) 1 1, .cells #[.int .u8 (v x y)] 5, fun b b' h => ?_, fun F => ?_, fun o ho w' => ?_, fun nb w9 hbn hbel hblk => ?_⟩
          · simpa using h
          · haveI := F.ne
            have hbF : Hid (∀ x', Below w.heap.size w (F.f x')) := fun x' => (Below.drew hBH1.out.below).trans ((F.below x').mono hBH1.out.below.size)
            simp only [List.take_succ_cons, List.take_zero]
            repeat (go_big_quiet_step (first | (go_at_call 46; exact fam_same (HF.out x y _ hlx hlt (hbF.out _)))))
            exact wpQuiet_nil rfl
          · obtain rfl := Option.some.inj ho
            kernel_rfl
          have hB9 := hBH1.out.later hbel
          have hcn : w9.cell? ⟨nb, 0, none⟩ = some (.int .u8 (v x y)) := by unfold World.cell?; simp [hblk]
          have hB9H : Hid _ := hB9
          clear hbel hblk hB9 hg hgF
          simp only [List.drop_succ_cons, List.drop_zero, Act.put, List.setIfInBounds_toArray, List.set_cons_succ, List.set_cons_zero]
          refine wpList_append_own_spare _ rfl _ _ 41 rfl 0 5 i 1 Try.underlying41 hiH.out hi2H.out.2.1 (w.heap.size + 1) (y * c + x) m _ rfl hB9H.out.own ⟨nb, 0, none⟩ 1 1 [.int .u8 (v x y)] rfl rfl ?_ ?_ hroom ?_
          · intro j u hj
            match j, hj with
            | 0, hj => simp at hj; subst hj; exact hcn
          · intro u hu; simp at hu; subst hu; rfl
          intro w1 hown1 hgrow1
          have hs9 := hB9H.out.size
          have hg1 : ∀ o, w1.cell? ⟨w.heap.size + 2, o, none⟩ = #[Value.int .i64 c, .int .i64 d, .slice (some ⟨w.heap.size + 1, 0, none⟩) (y * c + x) m][o]? := fun o => by
            rw [World.cell?_of_block (hgrow1.block _ (by show w.heap.size + 2 < _; omega) (by simp))]; exact hB9H.out.grid o
          have hg1F : ∀ o, w1.frozen? ⟨w.heap.size + 2, o, none⟩ = false := fun o => by
            rw [World.frozen?_of_block (hgrow1.block _ (by show w.heap.size + 2 < _; omega) (by simp))]; exact hB9H.out.gridF o
          rw [show (Value.int .u8 (v x y)) = (Value.int .u8 ((fun i => v (i % c) (i / c)) (y * c + x))) by show Value.int .u8 (v x y) = Value.int .u8 (v ((y * c + x) % c) ((y * c + x) / c)); rw [hvx.out]] at hown1
          have hBn : Hid _ := hB9H.out.next hown1 hgrow1
          clear hown1 hgrow1
          simp only [Act.put, List.setIfInBounds_toArray, List.set_cons_succ, List.set_cons_zero]
          go_wp2_with fail
          go_roundw
          case rel => exact ⟨x + 1, by omega, by go_num, hBn.out⟩
          case measure => simp [intOf]; omega
        · have : x = c := by omega
          subst this
          have hBH1 : Hid _ := hB1
          clear hB1
          go_wp2_with fail
          go_roundw
          case rel => exact ⟨y + 1, by omega, by go_num, by rw [Nat.add_mul, Nat.one_mul]; exact hBH1.out⟩
          case measure => simp [intOf]; omega
    · have : y = d := by omega
      subst this
      have hb := hBH.out.box
      have hbF := hBH.out.boxF
      have hg := hBH.out.grid
      have hgF := hBH.out.gridF
      have hym : y * c = m := by rw [Nat.mul_comm]; exact hMH.out
      rw [hym] at hg
      have hs := hBH.out.size
      go_wp2_with fail
      refine bodyPost_ret (by simp [results, Try.results45, go_sem, hb]; try rfl) rfl ?_
      refine ⟨rfl, ((hBH.out.below.setCell (Nat.le_refl _) _).setCell (Nat.le_refl _) _).setCell (Nat.le_refl _) _, fun j hj => ?_⟩
      have hBm := hBH.out
      rw [hym] at hBm
      rw [cell_setCell_if, if_neg (by omega), cell_setCell_if, if_neg (by omega), cell_setCell_if, if_neg (by omega)]
      exact hBm.cells j hj
set_option maxRecDepth 20000 in
set_option maxHeartbeats 4000000 in
theorem build_turn2 (c d : Nat) (p0 p1 p2 : Nat) (v : Nat → Nat → Int) (w : World) (hm : c * d ≤ 1048576) (hc : c ≤ 1024) (hd : d ≤ 1024) (hv : ∀ x y, x < c → y < d → 0 ≤ v x y ∧ v x y ≤ 255)
    (hF : ∀ (x y : Nat) (w' : World), x < c → y < d → Below w.heap.size w w' → Calls Try.prog 47 #[.int .i64 x, .int .i64 y, .pointer (some ⟨p0, 0, none⟩), .pointer (some ⟨p1, 0, none⟩), .pointer (some ⟨p2, 0, none⟩)] w' fun e w'' => e = .returned (.int .u8 (v x y)) ∧ w' = w'') :
    Calls Try.prog 45 #[.int .i64 c, .int .i64 d, .func (.func 47) #[] #[.pointer (some ⟨p0, 0, none⟩), .pointer (some ⟨p1, 0, none⟩), .pointer (some ⟨p2, 0, none⟩)]] w fun e w' => e = .returned (.agg #[.int .i64 c, .int .i64 d, .slice (some ⟨w.heap.size + 1, 0, none⟩) (c * d) (c * d)]) ∧
      Below w.heap.size w w' ∧ ∀ i, i < c * d → w'.cell? ⟨w.heap.size + 1, i, none⟩ = some (.int .u8 (v (i % c) (i / c))) := by
  have hcd : (c : Int) * (d : Int) = ((c * d : Nat) : Int) := by simp
  have HM : Hid (c * d = c * d) := rfl
  generalize hM : c * d = m at hm hcd ⊢
  have hMH : Hid _ := hM
  have HF : Hid _ := hF
  clear hM hF
  obtain ⟨i, hi⟩ : ∃ i, Try.prog.info? 5 = some i := Option.isSome_iff_exists.1 (by kernel_rfl)
  have hi2 : i.zero = some (.int .u8 0) ∧ i.size = 1 ∧ i.bytes = 1 := by
    have h1 : (Try.prog.info? 5).map (fun i => (i.size, i.bytes)) = some (1, 1) := by kernel_rfl
    have h2 : (Try.prog.info? 5).bind (fun i => i.zero) = some (.int .u8 0) := by kernel_rfl
    rw [hi] at h1 h2
    simp at h1 h2
    exact ⟨h2, h1.1, h1.2⟩
  have hmk : ∀ w, (Instr.makeSlice 41 (.int .i64 0) (.int .i64 m)).run Try.prog w = .ok (.slice (some ⟨w.heap.size, 0, none⟩) 0 m) (w.alloc (.cells (madeCells #[.int .u8 0] m) 5)) := fun w => by
    have := run_make (P := Try.prog) w 41 5 i (.int .u8 0) Try.underlying41 hi hi2.1 .i64 .i64 0 m (by omega) (by omega) (by rw [hi2.2.2]; omega) (by omega)
    simpa [hi2.2.1, Value.cells] using this
  have hiH : Hid _ := hi
  have hi2H : Hid _ := hi2
  clear hi hi2
  go_enter Try.func45, Try.ntmps45
  go_wp2_with fail
  have hB0 : Hid (Built w (((w.alloc (.cells #[.int .i64 0, .int .i64 0, .slice none 0 0] 43)).alloc (.cells (madeCells #[.int .u8 0] m) 5)).alloc (.cells #[.int .i64 c, .int .i64 d, .slice (some ⟨w.heap.size + 1, 0, none⟩) 0 m] 43)) 5 (.int .u8) m 0 c d (fun i => v (i % c) (i / c))) :=
    Built.start 43 43 (madeCells #[.int .u8 0] m) (size_madeCells _ _) (by unfold maxLen; omega) _ rfl
  go_loopw [18] (fun i wr => ∃ y : Nat, y ≤ d ∧ i = .int .i64 y ∧ Built w wr 5 (.int .u8) m (y * c) c d (fun i => v (i % c) (i / c))) (fun i _ => d - (intOf i).toNat)
  case atStart => exact ⟨0, Nat.zero_le _, rfl, by rw [Nat.zero_mul]; exact hB0.out⟩
  case round =>
    obtain ⟨y, hy, rfl, hB⟩ := hrel
    have hBH : Hid _ := hB
    clear hB hB0
    by_cases hlt : y < d
    · go_wp2_with fail
      go_loopw [22] (fun i wr => ∃ x : Nat, x ≤ c ∧ i = .int .i64 x ∧ Built w wr 5 (.int .u8) m (y * c + x) c d (fun i => v (i % c) (i / c))) (fun i _ => c - (intOf i).toNat)
      case atStart => exact ⟨0, Nat.zero_le _, rfl, hBH.out⟩
      case round =>
        obtain ⟨x, hx, rfl, hB1⟩ := hrel
        clear hBH
        by_cases hlx : x < c
        · have hg := hB1.grid
          have hgF := hB1.gridF
          have hszr := hB1.size
          have hBH1 : Hid _ := hB1
          clear hB1
          have hroom : y * c + x + 1 ≤ m := by
            have h1 : (y + 1) * c ≤ d * c := Nat.mul_le_mul_right _ hlt
            have h2 : d * c = m := by rw [Nat.mul_comm]; exact hMH.out
            rw [Nat.add_mul] at h1
            omega
          have hvx : Hid (v ((y * c + x) % c) ((y * c + x) / c) = v x y) := by
            show v ((y * c + x) % c) ((y * c + x) / c) = v x y
            rw [show y * c + x = x + c * y by rw [Nat.mul_comm, Nat.add_comm], Nat.add_mul_mod_self_left, Nat.mod_eq_of_lt hlx, Nat.add_mul_div_left _ _ (by omega), Nat.div_eq_of_lt hlx, Nat.zero_add]
          go_wp2_with fail
          refine mix2 6 31 (by kernel_rfl) (by kernel_rfl) ⟨by rfl, by simp⟩ ⟨_, rfl, rfl, rfl⟩ ?_
          apply Exists.intro
          refine ⟨fun b => .slice (some ⟨b, 0, none⟩) 1 1, .cells #[.int .u8 (v x y)] 5, fun b b' h => ?_, fun F => ?_, fun o ho w' => ?_, fun nb w9 hbn hbel hblk => ?_⟩
          · simpa using h
          · haveI := F.ne
            have hbF : Hid (∀ x', Below w.heap.size w (F.f x')) := fun x' => (Below.drew hBH1.out.below).trans ((F.below x').mono hBH1.out.below.size)
            simp only [List.take_succ_cons, List.take_zero]
            repeat (go_big_quiet_step (first | (go_at_call 47; exact fam_same (HF.out x y _ hlx hlt (hbF.out _)))))
            exact wpQuiet_nil rfl
          · obtain rfl := Option.some.inj ho
            kernel_rfl
          have hB9 := hBH1.out.later hbel
          have hcn : w9.cell? ⟨nb, 0, none⟩ = some (.int .u8 (v x y)) := by unfold World.cell?; simp [hblk]
          have hB9H : Hid _ := hB9
          clear hbel hblk hB9 hg hgF
          simp only [List.drop_succ_cons, List.drop_zero, Act.put, List.setIfInBounds_toArray, List.set_cons_succ, List.set_cons_zero]
          refine wpList_append_own_spare _ rfl _ _ 41 rfl 0 5 i 1 Try.underlying41 hiH.out hi2H.out.2.1 (w.heap.size + 1) (y * c + x) m _ rfl hB9H.out.own ⟨nb, 0, none⟩ 1 1 [.int .u8 (v x y)] rfl rfl ?_ ?_ hroom ?_
          · intro j u hj
            match j, hj with
            | 0, hj => simp at hj; subst hj; exact hcn
          · intro u hu; simp at hu; subst hu; rfl
          intro w1 hown1 hgrow1
          have hs9 := hB9H.out.size
          have hg1 : ∀ o, w1.cell? ⟨w.heap.size + 2, o, none⟩ = #[Value.int .i64 c, .int .i64 d, .slice (some ⟨w.heap.size + 1, 0, none⟩) (y * c + x) m][o]? := fun o => by
            rw [World.cell?_of_block (hgrow1.block _ (by show w.heap.size + 2 < _; omega) (by simp))]; exact hB9H.out.grid o
          have hg1F : ∀ o, w1.frozen? ⟨w.heap.size + 2, o, none⟩ = false := fun o => by
            rw [World.frozen?_of_block (hgrow1.block _ (by show w.heap.size + 2 < _; omega) (by simp))]; exact hB9H.out.gridF o
          rw [show (Value.int .u8 (v x y)) = (Value.int .u8 ((fun i => v (i % c) (i / c)) (y * c + x))) by show Value.int .u8 (v x y) = Value.int .u8 (v ((y * c + x) % c) ((y * c + x) / c)); rw [hvx.out]] at hown1
          have hBn : Hid _ := hB9H.out.next hown1 hgrow1
          clear hown1 hgrow1
          simp only [Act.put, List.setIfInBounds_toArray, List.set_cons_succ, List.set_cons_zero]
          go_wp2_with fail
          go_roundw
          case rel => exact ⟨x + 1, by omega, by go_num, hBn.out⟩
          case measure => simp [intOf]; omega
        · have : x = c := by omega
          subst this
          have hBH1 : Hid _ := hB1
          clear hB1
          go_wp2_with fail
          go_roundw
          case rel => exact ⟨y + 1, by omega, by go_num, by rw [Nat.add_mul, Nat.one_mul]; exact hBH1.out⟩
          case measure => simp [intOf]; omega
    · have : y = d := by omega
      subst this
      have hb := hBH.out.box
      have hbF := hBH.out.boxF
      have hg := hBH.out.grid
      have hgF := hBH.out.gridF
      have hym : y * c = m := by rw [Nat.mul_comm]; exact hMH.out
      rw [hym] at hg
      have hs := hBH.out.size
      go_wp2_with fail
      refine bodyPost_ret (by simp [results, Try.results45, go_sem, hb]; try rfl) rfl ?_
      refine ⟨rfl, ((hBH.out.below.setCell (Nat.le_refl _) _).setCell (Nat.le_refl _) _).setCell (Nat.le_refl _) _, fun j hj => ?_⟩
      have hBm := hBH.out
      rw [hym] at hBm
      rw [cell_setCell_if, if_neg (by omega), cell_setCell_if, if_neg (by omega), cell_setCell_if, if_neg (by omega)]
      exact hBm.cells j hj
set_option maxRecDepth 20000 in
set_option maxHeartbeats 4000000 in
theorem build_turn3 (c d : Nat) (p0 p1 : Nat) (v : Nat → Nat → Int) (w : World) (hm : c * d ≤ 1048576) (hc : c ≤ 1024) (hd : d ≤ 1024) (hv : ∀ x y, x < c → y < d → 0 ≤ v x y ∧ v x y ≤ 255)
    (hF : ∀ (x y : Nat) (w' : World), x < c → y < d → Below w.heap.size w w' → Calls Try.prog 48 #[.int .i64 x, .int .i64 y, .pointer (some ⟨p0, 0, none⟩), .pointer (some ⟨p1, 0, none⟩)] w' fun e w'' => e = .returned (.int .u8 (v x y)) ∧ w' = w'') :
    Calls Try.prog 45 #[.int .i64 c, .int .i64 d, .func (.func 48) #[] #[.pointer (some ⟨p0, 0, none⟩), .pointer (some ⟨p1, 0, none⟩)]] w fun e w' => e = .returned (.agg #[.int .i64 c, .int .i64 d, .slice (some ⟨w.heap.size + 1, 0, none⟩) (c * d) (c * d)]) ∧
      Below w.heap.size w w' ∧ ∀ i, i < c * d → w'.cell? ⟨w.heap.size + 1, i, none⟩ = some (.int .u8 (v (i % c) (i / c))) := by
  have hcd : (c : Int) * (d : Int) = ((c * d : Nat) : Int) := by simp
  have HM : Hid (c * d = c * d) := rfl
  generalize hM : c * d = m at hm hcd ⊢
  have hMH : Hid _ := hM
  have HF : Hid _ := hF
  clear hM hF
  obtain ⟨i, hi⟩ : ∃ i, Try.prog.info? 5 = some i := Option.isSome_iff_exists.1 (by kernel_rfl)
  have hi2 : i.zero = some (.int .u8 0) ∧ i.size = 1 ∧ i.bytes = 1 := by
    have h1 : (Try.prog.info? 5).map (fun i => (i.size, i.bytes)) = some (1, 1) := by kernel_rfl
    have h2 : (Try.prog.info? 5).bind (fun i => i.zero) = some (.int .u8 0) := by kernel_rfl
    rw [hi] at h1 h2
    simp at h1 h2
    exact ⟨h2, h1.1, h1.2⟩
  have hmk : ∀ w, (Instr.makeSlice 41 (.int .i64 0) (.int .i64 m)).run Try.prog w = .ok (.slice (some ⟨w.heap.size, 0, none⟩) 0 m) (w.alloc (.cells (madeCells #[.int .u8 0] m) 5)) := fun w => by
    have := run_make (P := Try.prog) w 41 5 i (.int .u8 0) Try.underlying41 hi hi2.1 .i64 .i64 0 m (by omega) (by omega) (by rw [hi2.2.2]; omega) (by omega)
    simpa [hi2.2.1, Value.cells] using this
  have hiH : Hid _ := hi
  have hi2H : Hid _ := hi2
  clear hi hi2
  go_enter Try.func45, Try.ntmps45
  go_wp2_with fail
  have hB0 : Hid (Built w (((w.alloc (.cells #[.int .i64 0, .int .i64 0, .slice none 0 0] 43)).alloc (.cells (madeCells #[.int .u8 0] m) 5)).alloc (.cells #[.int .i64 c, .int .i64 d, .slice (some ⟨w.heap.size + 1, 0, none⟩) 0 m] 43)) 5 (.int .u8) m 0 c d (fun i => v (i % c) (i / c))) :=
    Built.start 43 43 (madeCells #[.int .u8 0] m) (size_madeCells _ _) (by unfold maxLen; omega) _ rfl
  go_loopw [18] (fun i wr => ∃ y : Nat, y ≤ d ∧ i = .int .i64 y ∧ Built w wr 5 (.int .u8) m (y * c) c d (fun i => v (i % c) (i / c))) (fun i _ => d - (intOf i).toNat)
  case atStart => exact ⟨0, Nat.zero_le _, rfl, by rw [Nat.zero_mul]; exact hB0.out⟩
  case round =>
    obtain ⟨y, hy, rfl, hB⟩ := hrel
    have hBH : Hid _ := hB
    clear hB hB0
    by_cases hlt : y < d
    · go_wp2_with fail
      go_loopw [22] (fun i wr => ∃ x : Nat, x ≤ c ∧ i = .int .i64 x ∧ Built w wr 5 (.int .u8) m (y * c + x) c d (fun i => v (i % c) (i / c))) (fun i _ => c - (intOf i).toNat)
      case atStart => exact ⟨0, Nat.zero_le _, rfl, hBH.out⟩
      case round =>
        obtain ⟨x, hx, rfl, hB1⟩ := hrel
        clear hBH
        by_cases hlx : x < c
        · have hg := hB1.grid
          have hgF := hB1.gridF
          have hszr := hB1.size
          have hBH1 : Hid _ := hB1
          clear hB1
          have hroom : y * c + x + 1 ≤ m := by
            have h1 : (y + 1) * c ≤ d * c := Nat.mul_le_mul_right _ hlt
            have h2 : d * c = m := by rw [Nat.mul_comm]; exact hMH.out
            rw [Nat.add_mul] at h1
            omega
          have hvx : Hid (v ((y * c + x) % c) ((y * c + x) / c) = v x y) := by
            show v ((y * c + x) % c) ((y * c + x) / c) = v x y
            rw [show y * c + x = x + c * y by rw [Nat.mul_comm, Nat.add_comm], Nat.add_mul_mod_self_left, Nat.mod_eq_of_lt hlx, Nat.add_mul_div_left _ _ (by omega), Nat.div_eq_of_lt hlx, Nat.zero_add]
          go_wp2_with fail
          refine mix2 6 31 (by kernel_rfl) (by kernel_rfl) ⟨by rfl, by simp⟩ ⟨_, rfl, rfl, rfl⟩ ?_
          apply Exists.intro
          refine ⟨fun b => .slice (some ⟨b, 0, none⟩) 1 1, .cells #[.int .u8 (v x y)] 5, fun b b' h => ?_, fun F => ?_, fun o ho w' => ?_, fun nb w9 hbn hbel hblk => ?_⟩
          · simpa using h
          · haveI := F.ne
            have hbF : Hid (∀ x', Below w.heap.size w (F.f x')) := fun x' => (Below.drew hBH1.out.below).trans ((F.below x').mono hBH1.out.below.size)
            simp only [List.take_succ_cons, List.take_zero]
            repeat (go_big_quiet_step (first | (go_at_call 48; exact fam_same (HF.out x y _ hlx hlt (hbF.out _)))))
            exact wpQuiet_nil rfl
          · obtain rfl := Option.some.inj ho
            kernel_rfl
          have hB9 := hBH1.out.later hbel
          have hcn : w9.cell? ⟨nb, 0, none⟩ = some (.int .u8 (v x y)) := by unfold World.cell?; simp [hblk]
          have hB9H : Hid _ := hB9
          clear hbel hblk hB9 hg hgF
          simp only [List.drop_succ_cons, List.drop_zero, Act.put, List.setIfInBounds_toArray, List.set_cons_succ, List.set_cons_zero]
          refine wpList_append_own_spare _ rfl _ _ 41 rfl 0 5 i 1 Try.underlying41 hiH.out hi2H.out.2.1 (w.heap.size + 1) (y * c + x) m _ rfl hB9H.out.own ⟨nb, 0, none⟩ 1 1 [.int .u8 (v x y)] rfl rfl ?_ ?_ hroom ?_
          · intro j u hj
            match j, hj with
            | 0, hj => simp at hj; subst hj; exact hcn
          · intro u hu; simp at hu; subst hu; rfl
          intro w1 hown1 hgrow1
          have hs9 := hB9H.out.size
          have hg1 : ∀ o, w1.cell? ⟨w.heap.size + 2, o, none⟩ = #[Value.int .i64 c, .int .i64 d, .slice (some ⟨w.heap.size + 1, 0, none⟩) (y * c + x) m][o]? := fun o => by
            rw [World.cell?_of_block (hgrow1.block _ (by show w.heap.size + 2 < _; omega) (by simp))]; exact hB9H.out.grid o
          have hg1F : ∀ o, w1.frozen? ⟨w.heap.size + 2, o, none⟩ = false := fun o => by
            rw [World.frozen?_of_block (hgrow1.block _ (by show w.heap.size + 2 < _; omega) (by simp))]; exact hB9H.out.gridF o
          rw [show (Value.int .u8 (v x y)) = (Value.int .u8 ((fun i => v (i % c) (i / c)) (y * c + x))) by show Value.int .u8 (v x y) = Value.int .u8 (v ((y * c + x) % c) ((y * c + x) / c)); rw [hvx.out]] at hown1
          have hBn : Hid _ := hB9H.out.next hown1 hgrow1
          clear hown1 hgrow1
          simp only [Act.put, List.setIfInBounds_toArray, List.set_cons_succ, List.set_cons_zero]
          go_wp2_with fail
          go_roundw
          case rel => exact ⟨x + 1, by omega, by go_num, hBn.out⟩
          case measure => simp [intOf]; omega
        · have : x = c := by omega
          subst this
          have hBH1 : Hid _ := hB1
          clear hB1
          go_wp2_with fail
          go_roundw
          case rel => exact ⟨y + 1, by omega, by go_num, by rw [Nat.add_mul, Nat.one_mul]; exact hBH1.out⟩
          case measure => simp [intOf]; omega
    · have : y = d := by omega
      subst this
      have hb := hBH.out.box
      have hbF := hBH.out.boxF
      have hg := hBH.out.grid
      have hgF := hBH.out.gridF
      have hym : y * c = m := by rw [Nat.mul_comm]; exact hMH.out
      rw [hym] at hg
      have hs := hBH.out.size
      go_wp2_with fail
      refine bodyPost_ret (by simp [results, Try.results45, go_sem, hb]; try rfl) rfl ?_
      refine ⟨rfl, ((hBH.out.below.setCell (Nat.le_refl _) _).setCell (Nat.le_refl _) _).setCell (Nat.le_refl _) _, fun j hj => ?_⟩
      have hBm := hBH.out
      rw [hym] at hBm
      rw [cell_setCell_if, if_neg (by omega), cell_setCell_if, if_neg (by omega), cell_setCell_if, if_neg (by omega)]
      exact hBm.cells j hj
end Go.Proofs.Ytmklpphdbmpbbaa
