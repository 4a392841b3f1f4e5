/-
  The contract of raster.Map with the law's function, which counts its calls.
-/
import Derived.Test.YtoiblpncofbdpaaTallyF
import Derived.Test.YtoiblpncofbdpaaSmall
import Derived.Deep.RegionLaw
namespace Go.Proofs.Ytoiblpncofbdpaa
open Go.RowKit

theorem mapC_any (v : Int) (n : Nat) (p : Nat) (w : World) (hv : 0 ≤ v ∧ v ≤ 255) (hn : n ≤ 64) (hp : w.cell? ⟨p, 0, none⟩ = some (.int .i64 n)) (hf : w.frozen? ⟨p, 0, none⟩ = false) :
    Calls Try.prog 34 #[.int .u8 v, .pointer (some ⟨p, 0, none⟩)] w fun e w' => e = .returned (.int .i64 (1000 * (n + 1) + v)) ∧ w' = w.setCell ⟨p, 0, none⟩ (.int .i64 (n + 1)) := by
  go_enter Try.func34, Try.ntmps34
  go_wp2_with fail
  go_ret
  exact ⟨rfl, rfl⟩
/-- A raster of numbers that grows while a captured counter counts: c columns, d rows, the values so far. -/
structure Mapped (W wr : World) (t : TypeId) (bc : Nat) (c d : Int) (v : Value) (vs : List Int) : Prop where
  below : Below bc W wr
  size : W.heap.size + 4 ≤ wr.heap.size
  res : ∀ o, wr.cell? ⟨W.heap.size + 1, o, none⟩ = #[Value.int .i64 0, .int .i64 0, .slice none 0 0][o]?
  resF : ∀ o, wr.frozen? ⟨W.heap.size + 1, o, none⟩ = false
  grid : ∀ o, wr.cell? ⟨W.heap.size + 3, o, none⟩ = #[Value.int .i64 c, .int .i64 d, v][o]?
  gridF : ∀ o, wr.frozen? ⟨W.heap.size + 3, o, none⟩ = false
  count : wr.cell? ⟨bc, 0, none⟩ = some (.int .i64 vs.length)
  countF : wr.frozen? ⟨bc, 0, none⟩ = false
  own : wr.ownsRow (W.heap.size + 4) t 1 v vs.length (vs.map (Value.int .i64))
theorem ownsRow_of_block {w w' : World} {base : Nat} {e : TypeId} {size : Nat} {v : Value} {n : Nat} {xs : List Value} (h : w.ownsRow base e size v n xs) (hb : ∀ g, base ≤ g → g < w.heap.size → w'.heap[g]? = w.heap[g]?) : w'.ownsRow base e size v n xs := by
  refine ⟨h.1, ?_⟩
  rcases h.2 with h1 | ⟨g, cap, cur, h1, h2, h3, h4⟩
  · exact .inl h1
  · refine .inr ⟨g, cap, cur, h1, h2, ?_, h4⟩
    rw [hb g h2 (Array.getElem?_eq_some_iff.1 h3).1]; exact h3
/-- An append to a slice of the call's own, as one step of a region that draws. -/
theorem step_append_own {P : Program} {ops : Array Oper} {o : Oper} {a : Act} {w : World} {K : Act → World → Prop} {Q : Exit → Act → World → Prop} {E : Prop} (hgd : o.guard = none) (s x : Operand) (t : TypeId)
    (ho : o.op = .call { callee := .builtin .append, args := #[s, x], argTypes := #[t, t] })
    (base : Nat) (e : TypeId) (i : TypeInfo) (z : Value) (size bytes : Nat) (ht : P.underlying t = some (.slice e)) (hi : P.info? e = some i) (hz : i.zero = some z)
    (hsize : i.size = size) (hby : i.bytes = bytes) (hzs : z.cells.size = size) (hsz : 0 < size)
    (v : Value) (n : Nat) (xs : List Value) (hs : a.eval s = v) (hown : w.ownsRow base e size v n xs)
    (ad : Addr) (m c : Nat) (news : List Value) (hx : a.eval x = .slice (some ad) m c) (hl : news.length = m * size) (hnews : ∀ j u, news[j]? = some u → w.cell? (ad.add j) = some u) (h1 : ∀ u ∈ news, u.oneCell' = true)
    (h63 : n + m ≤ maxLen) (hbytes : (n + m) * bytes ≤ 140737488355328) (hbase : base ≤ w.heap.size)
    (h : ∀ v' w', w'.ownsRow base e size v' (n + m) (xs ++ news) → w.grownBy w' v.ownBlock → (v' = .slice none 0 0 ↔ v = .slice none 0 0 ∧ m = 0) → K (a.put o.dst v') w') :
    if Region.wanted o (yielded ops a.tmps) = true then Oper.wp P o a w K Q else E := by
  rw [if_pos (by simp [Region.wanted, hgd])]
  exact wp_append_own w s x t ho base e i z size bytes ht hi hz hsize hby hzs hsz v n xs hs hown ad m c news hx hl hnews h1 h63 hbytes hbase h
/-- A call by a contract that names its result and its world, as one step of a region that draws. -/
theorem step_call {P : Program} {ops : Array Oper} {o : Oper} {a : Act} {w : World} {K : Act → World → Prop} {Q : Exit → Act → World → Prop} {E : Prop} (hgd : o.guard = none) (f : FuncId) (args : Array Value)
    (hrun : (execOp a.eval o).run P w = .ok (.enter f args) w) (v : Value) (w' : World) (hc : Calls P f args w fun e w'' => e = .returned v ∧ w'' = w') (hK : K (a.put o.dst v) w') :
    if Region.wanted o (yielded ops a.tmps) = true then Oper.wp P o a w K Q else E := by
  rw [if_pos (by simp [Region.wanted, hgd])]
  unfold Oper.wp
  rw [hrun]
  exact hc.mono fun e w'' ⟨he, hw⟩ => by subst he; subst hw; exact hK
theorem Mapped.next {W wr w2 : World} {t ti : TypeId} {bc : Nat} {c d : Int} {v v' : Value} {vs : List Int} {r : Int} (h : Mapped W wr t bc c d v vs) (hbc : bc < W.heap.size)
    (hown : w2.ownsRow (W.heap.size + 4) t 1 v' (vs.length + 1) (vs.map (Value.int .i64) ++ [.int .i64 r]))
    (hg : ((wr.drew.setCell ⟨bc, 0, none⟩ (.int .i64 (vs.length + 1))).alloc (.cells #[.int .i64 r] ti)).grownBy w2 v.ownBlock) :
    (∃ g q, v' = .slice (some ⟨g, 0, none⟩) (vs.length + 1) q) ∧ (∀ o, w2.cell? ⟨W.heap.size + 3, o, none⟩ = #[Value.int .i64 c, .int .i64 d, v][o]?) ∧ (∀ o, w2.frozen? ⟨W.heap.size + 3, o, none⟩ = false) ∧ Mapped W (w2.setCell ⟨W.heap.size + 3, 2, none⟩ v') t bc c d v' (vs ++ [r]) := by
  have hs := h.size
  have hv : ∀ k, k < W.heap.size + 4 → some k ≠ v.ownBlock := fun k hk he => by
    have := (h.own.lt k he.symm).1
    omega
  have hz : ((wr.drew.setCell ⟨bc, 0, none⟩ (.int .i64 (vs.length + 1))).alloc (.cells #[.int .i64 r] ti)).heap.size = wr.heap.size + 1 := by simp only [World.size_alloc, World.size_setCell, World.size_drew]
  have hb0 : ∀ k, k < wr.heap.size → k ≠ bc → ((wr.drew.setCell ⟨bc, 0, none⟩ (.int .i64 (vs.length + 1))).alloc (.cells #[.int .i64 r] ti)).heap[k]? = wr.heap[k]? := fun k hk hne => by
    rw [Below.heap_alloc _ _ _ (by simp only [World.size_setCell, World.size_drew]; exact hk), Below.heap_setCell _ _ _ _ (by show k ≠ bc; exact hne)]
    rfl
  have hb : ∀ k, k < W.heap.size + 4 → k ≠ bc → w2.heap[k]? = wr.heap[k]? := fun k hk hne => (hg.block k (by rw [hz]; omega) (hv k hk)).trans (hb0 k (by omega) hne)
  have hc1 : ∀ o, w2.cell? ⟨bc, o, none⟩ = ((wr.drew.setCell ⟨bc, 0, none⟩ (.int .i64 (vs.length + 1))).alloc (.cells #[.int .i64 r] ti)).cell? ⟨bc, o, none⟩ := fun o => World.cell?_of_block (a := ⟨bc, o, none⟩) (hg.block _ (by rw [hz]; show bc < _; omega) (hv _ (by show bc < _; omega)))
  have hf1 : ∀ o, w2.frozen? ⟨bc, o, none⟩ = ((wr.drew.setCell ⟨bc, 0, none⟩ (.int .i64 (vs.length + 1))).alloc (.cells #[.int .i64 r] ti)).frozen? ⟨bc, o, none⟩ := fun o => World.frozen?_of_block (a := ⟨bc, o, none⟩) (hg.block _ (by rw [hz]; show bc < _; omega) (hv _ (by show bc < _; omega)))
  have c1 : ∀ o, w2.cell? ⟨W.heap.size + 1, o, none⟩ = wr.cell? ⟨W.heap.size + 1, o, none⟩ := fun o => World.cell?_of_block (a := ⟨W.heap.size + 1, o, none⟩) (hb _ (by show W.heap.size + 1 < _; omega) (by show W.heap.size + 1 ≠ _; omega))
  have f1 : ∀ o, w2.frozen? ⟨W.heap.size + 1, o, none⟩ = wr.frozen? ⟨W.heap.size + 1, o, none⟩ := fun o => World.frozen?_of_block (a := ⟨W.heap.size + 1, o, none⟩) (hb _ (by show W.heap.size + 1 < _; omega) (by show W.heap.size + 1 ≠ _; omega))
  have c3 : ∀ o, w2.cell? ⟨W.heap.size + 3, o, none⟩ = wr.cell? ⟨W.heap.size + 3, o, none⟩ := fun o => World.cell?_of_block (a := ⟨W.heap.size + 3, o, none⟩) (hb _ (by show W.heap.size + 3 < _; omega) (by show W.heap.size + 3 ≠ _; omega))
  have f3 : ∀ o, w2.frozen? ⟨W.heap.size + 3, o, none⟩ = wr.frozen? ⟨W.heap.size + 3, o, none⟩ := fun o => World.frozen?_of_block (a := ⟨W.heap.size + 3, o, none⟩) (hb _ (by show W.heap.size + 3 < _; omega) (by show W.heap.size + 3 ≠ _; omega))
  have hsz2 := hg.size
  rw [hz] at hsz2
  have b2 : Below bc W w2 := ⟨hg.os.trans h.below.os, hg.tape.trans h.below.tape, hg.output.trans h.below.output, by have := h.below.size; omega, fun k hk => (hb k (by omega) (by omega)).trans (h.below.block k hk)⟩
  have hex : ∃ g q, v' = .slice (some ⟨g, 0, none⟩) (vs.length + 1) q := by
    rcases hown.2 with ⟨_, h2⟩ | ⟨g, q, cur, h1, _⟩
    · omega
    · exact ⟨g, q, h1⟩
  refine ⟨hex, fun o => (c3 o).trans (h.grid o), fun o => (f3 o).trans (h.gridF o), b2.setCell (by show bc ≤ W.heap.size + 3; omega) _, by rw [World.size_setCell]; omega, fun o => ?_, fun o => ?_, fun o => ?_, fun o => ?_, ?_, ?_, ?_⟩
  · rw [cell_setCell_if, if_neg (by omega), c1]; exact h.res o
  · rw [World.frozen?_setCell, f1]; exact h.resF o
  · rw [cell_setCell_if, if_pos rfl]
    by_cases ho : o = 2
    · subst ho; rw [if_pos rfl, c3, h.grid]; rfl
    · rw [if_neg ho, c3, h.grid]
      match o, ho with
      | 0, _ => rfl
      | 1, _ => rfl
      | _ + 3, _ => rfl
  · rw [World.frozen?_setCell, f3]; exact h.gridF o
  · rw [cell_setCell_if, if_neg (by omega), hc1, cell_alloc_if, if_neg (by simp only [World.size_setCell, World.size_drew]; omega), cell_setCell_if, if_pos rfl, if_pos rfl]
    have := h.count
    rw [show wr.drew.cell? ⟨bc, 0, none⟩ = wr.cell? ⟨bc, 0, none⟩ from rfl, this]
    simp
  · rw [World.frozen?_setCell, hf1, frozen_alloc_if, if_neg (by simp only [World.size_setCell, World.size_drew]; omega), World.frozen?_setCell]
    exact h.countF
  · rw [List.map_append, List.length_append]
    refine ownsRow_of_block hown fun g hg1 _ => ?_
    rw [Below.heap_setCell _ _ _ _ (by show g ≠ W.heap.size + 3; omega)]
set_option maxRecDepth 20000 in
set_option maxHeartbeats 4000000 in
theorem Map_any (c d cap b off bc : Nat) (pix : Nat → Int) (w : World) (hc : 1 ≤ c ∧ c ≤ 8) (hd : 1 ≤ d ∧ d ≤ 8) (hlt : b < bc) (hbc : bc < w.heap.size)
    (hp : ∀ i, i < c * d → w.cell? ⟨b, off + i, none⟩ = some (.int .u8 (pix i))) (hpx : ∀ i, i < c * d → 0 ≤ pix i ∧ pix i ≤ 255) (hcn : w.cell? ⟨bc, 0, none⟩ = some (.int .i64 0)) (hcf : w.frozen? ⟨bc, 0, none⟩ = false) :
    Calls Try.prog 33 #[.agg #[.int .i64 c, .int .i64 d, .slice (some ⟨b, off, none⟩) (c * d) cap], .func (.func 34) #[] #[.pointer (some ⟨bc, 0, none⟩)]] w fun e w' => ∃ A q, e = .returned (.tuple #[.agg #[.int .i64 c, .int .i64 d, .slice A (c * d) q], .int .i64 0]) ∧ (c * d ≤ q ∧ q ≤ maxLen) ∧
      Below bc w w' ∧ w'.cell? ⟨bc, 0, none⟩ = some (.int .i64 (c * d : Nat)) ∧ IntsAt w' A (c * d) (fun i => 1000 * ((i : Int) + 1) + pix i) := by
  have h0 : gridE c d (c * d) = 0 := by rw [gridE, if_neg (by rw [inB_yes (by omega), inB_yes (by omega)]; simp), if_neg (by simp)]
  have hm : c * d ≤ 64 := Nat.mul_le_mul hc.2 hd.2
  have hm1 : 1 ≤ c * d := Nat.mul_le_mul hc.1 hd.1
  generalize c * d = M at *
  have HP : Hid _ := hp
  have HX : Hid _ := hpx
  clear hp hpx
  obtain ⟨i, hi, hi2⟩ := i64_info
  have hiH : Hid _ := hi
  have hi2H : Hid _ := hi2
  clear hi hi2
  go_enter Try.func33, Try.ntmps33
  go_wp2_with fail
  refine (gridCheck_any c d _ M cap _).mono ?_
  rw [h0]
  rintro e w' ⟨rfl, rfl⟩
  go_wp2_with fail
  obtain ⟨W1, hW1⟩ : ∃ W1, W1 = (((w.alloc (.cells #[.int .i64 c, .int .i64 d, .slice (some ⟨b, off, none⟩) M cap] 56)).alloc (.cells #[.int .i64 0, .int .i64 0, .slice none 0 0] 67)).alloc (.cells #[.int .i64 c, .int .i64 d, .slice (some ⟨b, off, none⟩) M cap] 56)).alloc (.cells #[.int .i64 c, .int .i64 d, .slice none 0 0] 67) := ⟨_, rfl⟩
  rw [← hW1]
  have M1 : Hid (Mapped w W1 3 bc c d (.slice none 0 0) []) := show Mapped w W1 3 bc c d (.slice none 0 0) [] by
    refine ⟨?_, by rw [hW1]; simp, fun o => ?_, fun o => ?_, fun o => ?_, fun o => ?_, ?_, ?_, World.ownsRow_nil _ _ _ _⟩
    · rw [hW1]; (repeat' (with_reducible first | exact Below.refl _ _ | refine past_le ?_ ?_ _ | refine Below.alloc ?_ ?_ _ | refine Below.drew ?_ | refine drewN_le ?_ _ | refine Below.setCell ?_ ?_ _ | refine step_le (by assumption) ?_ ?_ | omega | (simp only []; omega) | (simp only [World.size_alloc]; omega) | (simp only [World.size_setCell]; omega) | (simp only [World.size_drew]; omega) | (simp only [World.size_alloc, World.size_setCell]; omega) | (simp only [World.size_alloc, World.size_drew]; omega) | (simp only [World.size_setCell, World.size_drew]; omega) | (simp only [World.size_alloc, World.size_setCell, World.size_drew]; omega)))
    · rw [hW1]; simp +arith [cell_alloc_if]
    · rw [hW1]; simp +arith [frozen_alloc_if]
    · rw [hW1]; simp +arith [cell_alloc_if]
    · rw [hW1]; simp +arith [frozen_alloc_if]
    · rw [hW1]; simp only [cell_alloc_if, World.size_alloc]
      rw [if_neg (by omega), if_neg (by omega), if_neg (by omega), if_neg (by omega)]; exact hcn
    · rw [hW1]; simp only [frozen_alloc_if, World.size_alloc]
      rw [if_neg (by omega), if_neg (by omega), if_neg (by omega), if_neg (by omega)]; exact hcf
  clear hW1 hcn hcf
  go_loopw [24] (fun i wr => ∃ (v : Value) (vs : List Int), vs.length ≤ M ∧ i = .int .i64 vs.length ∧ (∀ j, j < vs.length → vs.getD j 0 = 1000 * ((j : Int) + 1) + pix j) ∧ Mapped w wr 3 bc c d v vs) (fun i _ => M - (intOf i).toNat)
  case atStart => exact ⟨_, [], Nat.zero_le _, rfl, (fun j hj => by simp at hj), M1.out⟩
  case round =>
    obtain ⟨v, vs, hk, rfl, hvs, hB⟩ := hrel
    have hg := hB.grid
    have hgF := hB.gridF
    have hszr := hB.size
    have HB : Hid _ := hB
    have HV : Hid _ := hvs
    clear hvs
    by_cases hlt' : vs.length < M
    · have hpk := (hB.below.cell (p := ⟨b, off + vs.length, none⟩) hlt).trans (HP.out _ hlt')
      have hbd := HX.out _ hlt'
      have hcc := hB.count
      have hcf := hB.countF
      clear hB
      have HN : Hid (∀ j, j < (vs ++ [1000 * ((vs.length : Int) + 1) + pix vs.length]).length → (vs ++ [1000 * ((vs.length : Int) + 1) + pix vs.length]).getD j 0 = 1000 * ((j : Int) + 1) + pix j) := fun j hj => by
        rw [List.length_append, List.length_singleton] at hj
        rcases Nat.lt_or_ge j vs.length with h | h
        · rw [← HV.out j h]; simp [List.getElem?_append_left h]
        · have : j = vs.length := by omega
          subst this; simp
      generalize pix vs.length = p at *
      go_wp2_with fail
      have hbcs : bc < wr.heap.size := by omega
      have O1 : Hid (((wr.drew.setCell ⟨bc, 0, none⟩ (.int .i64 (vs.length + 1))).alloc (.cells #[.int .i64 (1000 * (vs.length + 1) + p)] 3)).ownsRow (w.heap.size + 4) 3 1 v vs.length (vs.map (Value.int .i64))) := ownsRow_of_block HB.out.own fun g hg1 hg2 => by
        rw [Below.heap_alloc _ _ _ (by simp only [World.size_setCell, World.size_drew]; exact hg2), Below.heap_setCell _ _ _ _ (by show g ≠ bc; omega)]
        rfl
      have hgs : ∀ o x, (wr.setCell ⟨bc, 0, none⟩ x).cell? ⟨w.heap.size + 3, o, none⟩ = #[Value.int .i64 c, .int .i64 d, v][o]? := fun o x => by
        rw [cell_setCell_if, if_neg (by omega)]; exact hg o
      have hgd : ∀ o x, (wr.drew.setCell ⟨bc, 0, none⟩ x).cell? ⟨w.heap.size + 3, o, none⟩ = #[Value.int .i64 c, .int .i64 d, v][o]? := fun o x => by
        rw [cell_setCell_if, if_neg (by omega)]; exact hg o
      have hne : ¬ w.heap.size + 1 + 1 + 1 = wr.heap.size := by omega
      go_region_law (first
        | (refine step_append_own rfl _ _ 43 rfl (w.heap.size + 4) 3 i (.int .i64 0) 1 8 Try.underlying43 hiH.out hi2H.out.1 hi2H.out.2.1 hi2H.out.2.2 rfl (by decide) v vs.length (vs.map (Value.int .i64)) rfl O1.out ⟨wr.heap.size, 0, none⟩ 1 1 [.int .i64 (1000 * (vs.length + 1) + p)] rfl rfl (by intro j u hj; match j, hj with | 0, hj => simp at hj; subst hj; simp [Addr.add, go_sem]) (by intro u hu; simp at hu; subst hu; rfl) (by unfold maxLen; omega) (by omega) (by simp only [World.size_alloc, World.size_setCell, World.size_drew]; omega) ?_; intro v' w2 hown hgrow _; obtain ⟨⟨g', q', rfl⟩, hg2, hgF2, hM2⟩ := HB.out.next hbc hown hgrow; have HM2 : Hid _ := hM2; clear hown hgrow hM2 hg hgF hcc hcf hgs hgd)
        | (refine step_call rfl 34 #[.int .u8 p, .pointer (some ⟨bc, 0, none⟩)] (by simp [go_sem, execOp, resolve, invoke]) _ _ (mapC_any p vs.length bc _ hbd (by omega) (by simp [hcc]) (by simp [hcf])) ?_))
      all_goals
        clear hne
        go_wp2_with fail
        go_roundw
        case rel => exact ⟨_, vs ++ [1000 * (vs.length + 1) + p], by simp; omega, by simp, HN.out, HM2.out⟩
        case measure => simp [intOf]; omega
    · have hkm : vs.length = M := by omega
      have hr := hB.res
      have hrF := hB.resF
      have hcc := hB.count
      have hbel : Hid _ := hB.below
      obtain ⟨g', q', cur, hv, hq1, hq2, hcur⟩ : ∃ g q cur, v = .slice (some ⟨g, 0, none⟩) vs.length q ∧ (vs.length ≤ q ∧ q ≤ maxLen) ∧ (w.heap.size + 4 ≤ g ∧ g < wr.heap.size) ∧ (∀ i, i < vs.length → wr.cell? ⟨g, i, none⟩ = some (.int .i64 (vs.getD i 0))) ∧ cur = g := by
        rcases hB.own.2 with ⟨_, h2⟩ | ⟨g, cap, cur, h1, h2, h3, h4, h5, h6, h7⟩
        · omega
        · refine ⟨g, cap, g, h1, ⟨h4, h5⟩, ⟨h2, (Array.getElem?_eq_some_iff.1 h3).1⟩, fun i hi => ?_, rfl⟩
          have e1 : wr.cell? ⟨g, i, none⟩ = cur[i]? := by unfold World.cell?; simp [h3]
          rw [e1]
          have e2 : (cur.toList.take (vs.length * 1))[i]? = some (.int .i64 (vs.getD i 0)) := by rw [h7]; simp [hi]
          rw [List.getElem?_take, if_pos (by omega)] at e2
          simpa using e2
      subst hv
      have HC : Hid _ := hcur.1
      have hg0 := hg
      clear hB hcur
      go_wp2_with fail
      refine bodyPost_ret (by simp [results, Try.results33, go_sem, hr]; try rfl) rfl ?_
      refine ⟨some ⟨g', 0, none⟩, q', by rw [← hkm], by rw [← hkm]; exact hq1, ((hbel.out.setCell (by show bc ≤ w.heap.size + 1; omega) _).setCell (by show bc ≤ w.heap.size + 1; omega) _).setCell (by show bc ≤ w.heap.size + 1; omega) _, ?_, ?_⟩
      · rw [cell_setCell_if, if_neg (by omega), cell_setCell_if, if_neg (by omega), cell_setCell_if, if_neg (by omega), ← hkm]; exact hcc
      · rw [← hkm]
        refine ints_of_cells0 fun j hj => ?_
        rw [cell_setCell_if, if_neg (by omega), cell_setCell_if, if_neg (by omega), cell_setCell_if, if_neg (by omega), HC.out j hj, HV.out j hj]
end Go.Proofs.Ytoiblpncofbdpaa
