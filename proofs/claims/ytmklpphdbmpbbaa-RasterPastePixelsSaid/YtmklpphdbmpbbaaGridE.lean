/-
  The law's helpers cut and small, and Grid.Check, by reckoning.
-/
import Derived.Test.YtmklpphdbmpbbaaEz
import Derived.Test.YtmklpphdbmpbbaaEw
import Derived.Test.YtmklpphdbmpbbaaTab
import Derived.Test.YtmklpphdbmpbbaaRow
namespace Go.Proofs.Ytmklpphdbmpbbaa
open Go.RowKit
set_option linter.unusedVariables false
set_option maxRecDepth 20000
theorem cut_of (x lo hi : Int) (h : -1000000 ≤ lo ∧ lo ≤ hi ∧ hi ≤ 1000000) : ∃ s : Int, (lo ≤ s ∧ s ≤ hi) ∧ ∀ G, Gives Try.prog 10 [.val (.int .i64 x), .val (.int .i64 lo), .val (.int .i64 hi)] G (.val (.int .i64 s)) := by
  have h1 := Int.tmod_lt_of_pos x (show (0 : Int) < hi - lo + 1 by omega)
  have h2 : -(hi - lo + 1) < x.tmod (hi - lo + 1) := Int.lt_tmod_of_pos x (by omega)
  have h3 := Int.tmod_lt_of_pos (x.tmod (hi - lo + 1) + (hi - lo + 1)) (show (0 : Int) < hi - lo + 1 by omega)
  have h4 : 0 ≤ (x.tmod (hi - lo + 1) + (hi - lo + 1)).tmod (hi - lo + 1) := Int.tmod_nonneg _ (by omega)
  refine ⟨lo + (x.tmod (hi - lo + 1) + (hi - lo + 1)).tmod (hi - lo + 1), by omega, fun G => ?_⟩
  refine Gives_of tab_ok Try.func10 ?_
  (repeat ((try (conv => whnf)); (first | (with_reducible refine condP_true ?_) | (with_reducible refine condP_false ?_) | (with_reducible refine condP_not ?_) | (with_reducible refine condP_and ?_) | ((with_reducible refine condP_dt ?_ ?_); (· omega)) | ((with_reducible refine condP_df ?_ ?_); (· omega)) | ((with_reducible refine condP_yes ?_ ?_); (· assumption)) | ((with_reducible refine condP_no ?_ ?_); (· assumption)) | ((with_reducible refine ArP_i64 ?_ ?_); (· omega)) | ((with_reducible refine mustP.mk ?_ ?_); (· first | omega | rfl | (dsimp only; omega))) | (with_reducible refine EqP_nil tab_ok ?_) | (with_reducible refine EqP_sli tab_ok ?_) | (with_reducible refine DrawP_auto tab_ok (by kernel_rfl) (by decide +kernel) ?_) | (with_reducible refine DrawP_auto2 tab_ok (by kernel_rfl) (by decide +kernel) ?_) | (with_reducible refine eq28 ?_) | (with_reducible refine eq33 ?_) | (with_reducible refine eq95 ?_) | (with_reducible refine eq115 ?_))))
  exact ⟨rfl, rfl⟩
/-- Pixels in memory. -/
def PixM (G : Mem) (A : Option Addr) (n : Nat) (f : Nat → Int) : Prop := ∀ i, i < n → ∃ b off, A = some ⟨b, off, none⟩ ∧ G.cell? ⟨b, off + i, none⟩ = some (.int .u8 (f i))
theorem PixM.mono {G G' : Mem} {A : Option Addr} {n : Nat} {f : Nat → Int} (h : PixM G A n f) (hle : G.le G') : PixM G' A n f := fun i hi => by
  obtain ⟨b, off, h1, h2⟩ := h i hi
  exact ⟨b, off, h1, hle.cell h2⟩
theorem addr_zero (p : Addr) : p.add 0 = p := by
  obtain ⟨b, o, s⟩ := p
  unfold Addr.add
  split <;> simp_all
theorem PixM.at_ {G : Mem} {A : Option Addr} {n : Nat} {f : Nat → Int} (h : PixM G A n f) {i : Nat} (hi : i < n) : ∃ p : Addr, A = some p ∧ G.cell? (p.add i) = some (.int .u8 (f i)) := by
  obtain ⟨b, off, rfl, h2⟩ := h i hi
  exact ⟨_, rfl, by rw [addr_add]; exact h2⟩
def pixL (f : Nat → Int) (n : Nat) : List Value := (List.range n).map fun i => .int .u8 (f i)
theorem pixL_length (f : Nat → Int) (n : Nat) : (pixL f n).length = n := by simp [pixL]
theorem pixL_get {f : Nat → Int} {n i : Nat} (h : i < n) : (pixL f n)[i]? = some (.int .u8 (f i)) := by simp [pixL, List.getElem?_range h]
theorem pixL_succ (f : Nat → Int) (n : Nat) : pixL f (n + 1) = pixL f n ++ [.int .u8 (f n)] := by simp [pixL, List.range_succ]
theorem pixL_cell {f : Nat → Int} {n : Nat} : ∀ v ∈ pixL f n, v.oneCell' = true := fun v hv => by
  obtain ⟨i, _, rfl⟩ := List.mem_map.1 hv
  rfl
/-- A grid with its row. -/
abbrev gridW (W H : Int) (a : AV) : AV := .agg [.val (.int .i64 W), .val (.int .i64 H), a]
theorem gridW_wraps (W H : Int) : Wraps (gridW W H) := .last [.val (.int .i64 W), .val (.int .i64 H)] (fun _ => rfl) rfl
def smallV (n : Nat) (g : Nat → Int) (i : Nat) : Int := if n = 0 then IntKind.u8.wrap i else IntKind.u8.wrap (g (i % n) + IntKind.u8.wrap ((i / n : Nat) : Int))
set_option maxHeartbeats 2000000 in
theorem small_of (w h : Int) (n : Nat) (hn : n ≤ 9223372036854775807) (g : Nat → Int) : ∃ W H : Nat, (1 ≤ W ∧ W ≤ 8 ∧ 1 ≤ H ∧ H ≤ 8) ∧ ∀ (G : Mem) (A : Option Addr) (c : Nat), PixM G A n g →
    Makes Try.prog 16 [.val (.int .i64 w), .val (.int .i64 h), .val (.slice A n c)] G (gridW W H) 5 1 (W * H) (pixL (smallV n g) (W * H)) := by
  obtain ⟨W', hW, gW⟩ := cut_of w 1 8 (by decide)
  obtain ⟨H', hH, gH⟩ := cut_of h 1 8 (by decide)
  obtain ⟨W, rfl⟩ := Int.eq_ofNat_of_zero_le (show 0 ≤ W' by omega)
  obtain ⟨H, rfl⟩ := Int.eq_ofNat_of_zero_le (show 0 ≤ H' by omega)
  refine ⟨W, H, by omega, fun G A c hA => ?_⟩
  have hp : ((W : Int) * (H : Int)) = ((W * H : Nat) : Int) := by push_cast; rfl
  have hN : W * H ≤ 64 := Nat.le_trans (Nat.mul_le_mul (show W ≤ 8 by omega) (show H ≤ 8 by omega)) (by decide)
  refine Makes_of tab_ok Try.func16 (gridW_wraps W H) ?_
  generalize hNe : W * H = N at *
  (repeat ((try (conv => whnf)); (first | (with_reducible refine condP_true ?_) | (with_reducible refine condP_false ?_) | (with_reducible refine condP_not ?_) | (with_reducible refine condP_and ?_) | ((with_reducible refine condP_dt ?_ ?_); (· omega)) | ((with_reducible refine condP_df ?_ ?_); (· omega)) | ((with_reducible refine condP_yes ?_ ?_); (· assumption)) | ((with_reducible refine condP_no ?_ ?_); (· assumption)) | ((with_reducible refine ArP_i64 ?_ ?_); (· omega)) | ((with_reducible refine mustP.mk ?_ ?_); (· first | omega | rfl | (dsimp only; omega))) | (with_reducible refine EqP_nil tab_ok ?_) | (with_reducible refine EqP_sli tab_ok ?_) | (with_reducible refine DrawP_auto tab_ok (by kernel_rfl) (by decide +kernel) ?_) | (with_reducible refine DrawP_auto2 tab_ok (by kernel_rfl) (by decide +kernel) ?_) | (with_reducible refine eq28 ?_) | (with_reducible refine eq33 ?_) | (with_reducible refine eq95 ?_) | (with_reducible refine eq115 ?_) | (with_reducible refine CallP_gives (fun vs w => by kernel_rfl) (by kernel_rfl) (gW G) ?_) | (with_reducible refine RCallP_gives (fun vs w => by kernel_rfl) (by kernel_rfl) (gW G) ?_) | (with_reducible refine CallP_gives (fun vs w => by kernel_rfl) (by kernel_rfl) (gH G) ?_) | (with_reducible refine RCallP_gives (fun vs w => by kernel_rfl) (by kernel_rfl) (gH G) ?_))))
  conv => whnf
  refine LoopP_at tab_ok (fun i => i ≤ N) (fun (i : Nat) => [(8, .val (.int .i64 i))]) (fun i => [.cells 43 [.val (.int .i64 0), .val (.int .i64 0), .val (.slice none 0 0)], .cells 43 [.val (.int .i64 W), .val (.int .i64 H), .own 2], .own 5 1 i (pixL (smallV n g) i)]) (fun i => N - i) 0 (Nat.zero_le _) ?_ ?_
  · refine Le_head ?_
    conv => whnf
    refine Le_own 5 1 ?_
    conv => whnf
    refine Le_mk (by rfl) (by rfl) (by (repeat (first | (with_reducible exact frLe_nil) | (with_reducible refine frLe_any ?_) | (with_reducible refine frLe_val ?_) | ((with_reducible refine frLe_eq rfl ?_ ?_); (· rfl)) | ((with_reducible refine frLe_val' (int_eq ?_) ?_ ?_); (· omega); (· rfl)) | ((with_reducible refine frLe_val' (int_eq ?_) ?_ ?_); (· simp only [Int.natCast_add, Int.natCast_one, Int.natCast_ofNat] <;> omega); (· rfl)) | ((with_reducible refine frLe_val' (bool_eq ?_) ?_ ?_); (· first | assumption | (symm; assumption)); (· rfl))))) ?_
    exact hpLe_cells (by (repeat (first | (with_reducible exact frLe_nil) | (with_reducible refine frLe_any ?_) | (with_reducible refine frLe_val ?_) | ((with_reducible refine frLe_eq rfl ?_ ?_); (· rfl)) | ((with_reducible refine frLe_val' (int_eq ?_) ?_ ?_); (· omega); (· rfl)) | ((with_reducible refine frLe_val' (int_eq ?_) ?_ ?_); (· simp only [Int.natCast_add, Int.natCast_one, Int.natCast_ofNat] <;> omega); (· rfl)) | ((with_reducible refine frLe_val' (bool_eq ?_) ?_ ?_); (· first | assumption | (symm; assumption)); (· rfl))))) (hpLe_cells (by (repeat (first | (with_reducible exact frLe_nil) | (with_reducible refine frLe_any ?_) | (with_reducible refine frLe_val ?_) | ((with_reducible refine frLe_eq rfl ?_ ?_); (· rfl)) | ((with_reducible refine frLe_val' (int_eq ?_) ?_ ?_); (· omega); (· rfl)) | ((with_reducible refine frLe_val' (int_eq ?_) ?_ ?_); (· simp only [Int.natCast_add, Int.natCast_one, Int.natCast_ofNat] <;> omega); (· rfl)) | ((with_reducible refine frLe_val' (bool_eq ?_) ?_ ?_); (· first | assumption | (symm; assumption)); (· rfl))))) (hpLe_own rfl rfl hpLe_nil))
  · rintro i hi
    rcases Nat.lt_or_ge i N with h1 | h1
    · by_cases h0 : n = 0
      · (repeat ((try (conv => whnf)); (first | (refine ArP_as (k := .u8) _ rfl ?_) | (with_reducible refine condP_true ?_) | (with_reducible refine condP_false ?_) | (with_reducible refine condP_not ?_) | (with_reducible refine condP_and ?_) | ((with_reducible refine condP_dt ?_ ?_); (· omega)) | ((with_reducible refine condP_df ?_ ?_); (· omega)) | ((with_reducible refine condP_yes ?_ ?_); (· assumption)) | ((with_reducible refine condP_no ?_ ?_); (· assumption)) | ((with_reducible refine ArP_i64 ?_ ?_); (· omega)) | ((with_reducible refine mustP.mk ?_ ?_); (· first | omega | rfl | (dsimp only; omega))) | (with_reducible refine EqP_nil tab_ok ?_) | (with_reducible refine EqP_sli tab_ok ?_) | (with_reducible refine DrawP_auto tab_ok (by kernel_rfl) (by decide +kernel) ?_) | (with_reducible refine DrawP_auto2 tab_ok (by kernel_rfl) (by decide +kernel) ?_) | (with_reducible refine eq28 ?_) | (with_reducible refine eq33 ?_) | (with_reducible refine eq95 ?_) | (with_reducible refine eq115 ?_))))
        refine ⟨i + 1, by omega, by omega, ?_⟩
        refine Le_head ?_
        conv => whnf
        refine Le_move 4 2 (by rfl) (by rfl) (by rfl) (by rfl) ?_
        conv => whnf
        refine Le_mk (by rfl) (by rfl) (by (repeat (first | (with_reducible exact frLe_nil) | (with_reducible refine frLe_any ?_) | (with_reducible refine frLe_val ?_) | ((with_reducible refine frLe_eq rfl ?_ ?_); (· rfl)) | ((with_reducible refine frLe_val' (int_eq ?_) ?_ ?_); (· omega); (· rfl)) | ((with_reducible refine frLe_val' (int_eq ?_) ?_ ?_); (· simp only [Int.natCast_add, Int.natCast_one, Int.natCast_ofNat] <;> omega); (· rfl)) | ((with_reducible refine frLe_val' (bool_eq ?_) ?_ ?_); (· first | assumption | (symm; assumption)); (· rfl))))) ?_
        exact hpLe_cells (by (repeat (first | (with_reducible exact frLe_nil) | (with_reducible refine frLe_any ?_) | (with_reducible refine frLe_val ?_) | ((with_reducible refine frLe_eq rfl ?_ ?_); (· rfl)) | ((with_reducible refine frLe_val' (int_eq ?_) ?_ ?_); (· omega); (· rfl)) | ((with_reducible refine frLe_val' (int_eq ?_) ?_ ?_); (· simp only [Int.natCast_add, Int.natCast_one, Int.natCast_ofNat] <;> omega); (· rfl)) | ((with_reducible refine frLe_val' (bool_eq ?_) ?_ ?_); (· first | assumption | (symm; assumption)); (· rfl))))) (hpLe_cells (by (repeat (first | (with_reducible exact frLe_nil) | (with_reducible refine frLe_any ?_) | (with_reducible refine frLe_val ?_) | ((with_reducible refine frLe_eq rfl ?_ ?_); (· rfl)) | ((with_reducible refine frLe_val' (int_eq ?_) ?_ ?_); (· omega); (· rfl)) | ((with_reducible refine frLe_val' (int_eq ?_) ?_ ?_); (· simp only [Int.natCast_add, Int.natCast_one, Int.natCast_ofNat] <;> omega); (· rfl)) | ((with_reducible refine frLe_val' (bool_eq ?_) ?_ ?_); (· first | assumption | (symm; assumption)); (· rfl))))) (hpLe_own rfl (by rw [pixL_succ]; simp [smallV, h0]) hpLe_nil))
      · have hlt : i % n < n := Nat.mod_lt _ (by omega)
        obtain ⟨p, rfl, q0⟩ := hA.at_ hlt
        have ht : (i : Int).tmod n = ((i % n : Nat) : Int) := by rw [Int.tmod_eq_emod_of_nonneg (by omega)]; push_cast; rfl
        have hd : (i : Int).tdiv n = ((i / n : Nat) : Int) := by rw [Int.tdiv_eq_ediv_of_nonneg (by omega)]; push_cast; rfl
        have hdn : i / n ≤ i := Nat.div_le_self _ _
        obtain ⟨k, hk⟩ : ∃ k, i / n = k := ⟨_, rfl⟩
        rw [hk] at hd hdn
        have hd2 : -9223372036854775808 ≤ (i : Int).tdiv n ∧ (i : Int).tdiv n ≤ 9223372036854775807 := by rw [hd]; omega
        have q1 : G.cell? (Addr.add (p.add (((i : Int).tmod n).toNat * 1)) 0) = some (.int .u8 (g (i % n))) := by
          rw [ht, Int.toNat_natCast, Nat.mul_one]
          rw [addr_zero]; exact q0
        (repeat ((try (conv => whnf)); (first | (refine ArP_as (k := .u8) _ rfl ?_) | (refine OldCells_one _ q1 ?_) | (refine ArP_i64 hd2 ?_) | (with_reducible refine condP_true ?_) | (with_reducible refine condP_false ?_) | (with_reducible refine condP_not ?_) | (with_reducible refine condP_and ?_) | ((with_reducible refine condP_dt ?_ ?_); (· omega)) | ((with_reducible refine condP_df ?_ ?_); (· omega)) | ((with_reducible refine condP_yes ?_ ?_); (· assumption)) | ((with_reducible refine condP_no ?_ ?_); (· assumption)) | ((with_reducible refine ArP_i64 ?_ ?_); (· omega)) | ((with_reducible refine mustP.mk ?_ ?_); (· first | omega | rfl | (dsimp only; omega))) | (with_reducible refine EqP_nil tab_ok ?_) | (with_reducible refine EqP_sli tab_ok ?_) | (with_reducible refine DrawP_auto tab_ok (by kernel_rfl) (by decide +kernel) ?_) | (with_reducible refine DrawP_auto2 tab_ok (by kernel_rfl) (by decide +kernel) ?_) | (with_reducible refine eq28 ?_) | (with_reducible refine eq33 ?_) | (with_reducible refine eq95 ?_) | (with_reducible refine eq115 ?_))))
        refine ⟨i + 1, by omega, by omega, ?_⟩
        refine Le_head ?_
        conv => whnf
        refine Le_move 4 2 (by rfl) (by rfl) (by rfl) (by rfl) ?_
        conv => whnf
        refine Le_mk (by rfl) (by rfl) (by (repeat (first | (with_reducible exact frLe_nil) | (with_reducible refine frLe_any ?_) | (with_reducible refine frLe_val ?_) | ((with_reducible refine frLe_eq rfl ?_ ?_); (· rfl)) | ((with_reducible refine frLe_val' (int_eq ?_) ?_ ?_); (· omega); (· rfl)) | ((with_reducible refine frLe_val' (int_eq ?_) ?_ ?_); (· simp only [Int.natCast_add, Int.natCast_one, Int.natCast_ofNat] <;> omega); (· rfl)) | ((with_reducible refine frLe_val' (bool_eq ?_) ?_ ?_); (· first | assumption | (symm; assumption)); (· rfl))))) ?_
        exact hpLe_cells (by (repeat (first | (with_reducible exact frLe_nil) | (with_reducible refine frLe_any ?_) | (with_reducible refine frLe_val ?_) | ((with_reducible refine frLe_eq rfl ?_ ?_); (· rfl)) | ((with_reducible refine frLe_val' (int_eq ?_) ?_ ?_); (· omega); (· rfl)) | ((with_reducible refine frLe_val' (int_eq ?_) ?_ ?_); (· simp only [Int.natCast_add, Int.natCast_one, Int.natCast_ofNat] <;> omega); (· rfl)) | ((with_reducible refine frLe_val' (bool_eq ?_) ?_ ?_); (· first | assumption | (symm; assumption)); (· rfl))))) (hpLe_cells (by (repeat (first | (with_reducible exact frLe_nil) | (with_reducible refine frLe_any ?_) | (with_reducible refine frLe_val ?_) | ((with_reducible refine frLe_eq rfl ?_ ?_); (· rfl)) | ((with_reducible refine frLe_val' (int_eq ?_) ?_ ?_); (· omega); (· rfl)) | ((with_reducible refine frLe_val' (int_eq ?_) ?_ ?_); (· simp only [Int.natCast_add, Int.natCast_one, Int.natCast_ofNat] <;> omega); (· rfl)) | ((with_reducible refine frLe_val' (bool_eq ?_) ?_ ?_); (· first | assumption | (symm; assumption)); (· rfl))))) (hpLe_own rfl (by rw [pixL_succ]; simp [smallV, h0, hd, hk]) hpLe_nil))
    · obtain rfl : i = N := by omega
      (repeat ((try (conv => whnf)); (first | (with_reducible refine condP_true ?_) | (with_reducible refine condP_false ?_) | (with_reducible refine condP_not ?_) | (with_reducible refine condP_and ?_) | ((with_reducible refine condP_dt ?_ ?_); (· omega)) | ((with_reducible refine condP_df ?_ ?_); (· omega)) | ((with_reducible refine condP_yes ?_ ?_); (· assumption)) | ((with_reducible refine condP_no ?_ ?_); (· assumption)) | ((with_reducible refine ArP_i64 ?_ ?_); (· omega)) | ((with_reducible refine mustP.mk ?_ ?_); (· first | omega | rfl | (dsimp only; omega))) | (with_reducible refine EqP_nil tab_ok ?_) | (with_reducible refine EqP_sli tab_ok ?_) | (with_reducible refine DrawP_auto tab_ok (by kernel_rfl) (by decide +kernel) ?_) | (with_reducible refine DrawP_auto2 tab_ok (by kernel_rfl) (by decide +kernel) ?_) | (with_reducible refine eq28 ?_) | (with_reducible refine eq33 ?_) | (with_reducible refine eq95 ?_) | (with_reducible refine eq115 ?_))))
      exact .inl ⟨2, rfl, rfl⟩
theorem pix_frozen {G : Mem} {A : Option Addr} {n : Nat} {f : Nat → Int} (h : pixL f n = [] ∨ ∃ b, A = some ⟨b, 0, none⟩ ∧ ∀ (j : Nat) u, (pixL f n)[j]? = some u → G.cell? ⟨b, j, none⟩ = some u) : PixM G A n f := fun i hi => by
  rcases h with h | ⟨b, h1, h2⟩
  · have := pixL_get (f := f) hi; rw [h] at this; simp at this
  · exact ⟨b, 0, h1, by rw [Nat.zero_add]; exact h2 i _ (pixL_get hi)⟩
theorem PixM.sub {G : Mem} {A : Option Addr} {n o k : Nat} {f : Nat → Int} (h : PixM G A n f) (hk : o + k ≤ n) : PixM G (Option.map (fun x => x.add o) A) k (fun i => f (o + i)) := fun i hi => by
  obtain ⟨b, off, rfl, h2⟩ := h (o + i) (by omega)
  exact ⟨b, off + o, by rw [Option.map_some, addr_add], by rw [Nat.add_assoc]; exact h2⟩
theorem PixM.flat {G : Mem} {A : Option Addr} {n : Nat} {f : Nat → Int} (h : PixM G A n f) (hn : 0 < n) : ∃ p, A = some p ∧ G.cellsAt p (pixL f n) := by
  obtain ⟨b, off, rfl, _⟩ := h 0 hn
  refine ⟨_, rfl, fun j u hj => ?_⟩
  have hjl := (List.getElem?_eq_some_iff.1 hj).1
  rw [pixL_length] at hjl
  rw [pixL_get hjl] at hj; cases hj
  obtain ⟨b', off', h1, h2⟩ := h j hjl
  cases h1
  rw [addr_add]; exact h2
set_option maxHeartbeats 1000000 in
theorem CloneB_makes {A : Option Addr} {n c : Nat} {f : Nat → Int} {G : Mem} (h : PixM G A n f) (hl : n ≤ 1000000000000) :
    Makes Try.prog 33 [.val (.slice A n c)] G id 5 1 n (pixL f n) := by
  refine Makes_of tab_ok Try.func33 (.alone fun _ => rfl) ?_
  have hs : ∀ K : Nat → List Value → Prop, K n (pixL f n) → SrcV G A n 1 K := fun K k => ⟨pixL f n, by rw [pixL_length, Nat.mul_one], fun h0 => h.flat (by omega), pixL_cell, k⟩
  cases A with
  | none =>
    have h0 : n = 0 := by
      rcases Nat.eq_zero_or_pos n with h1 | h1
      · exact h1
      · obtain ⟨p, h2, _⟩ := h.flat h1; cases h2
    subst h0
    (repeat ((try (conv => whnf)); (first | (refine condP_yes (show Option.isNone (none : Option Addr) = true from rfl) ?_) | (with_reducible refine condP_true ?_) | (with_reducible refine condP_false ?_) | (with_reducible refine condP_not ?_) | (with_reducible refine condP_and ?_) | ((with_reducible refine condP_dt ?_ ?_); (· omega)) | ((with_reducible refine condP_df ?_ ?_); (· omega)) | ((with_reducible refine condP_yes ?_ ?_); (· assumption)) | ((with_reducible refine condP_no ?_ ?_); (· assumption)) | ((with_reducible refine ArP_i64 ?_ ?_); (· omega)) | ((with_reducible refine mustP.mk ?_ ?_); (· first | omega | rfl | (dsimp only; omega))) | (with_reducible refine EqP_nil tab_ok ?_) | (with_reducible refine EqP_sli tab_ok ?_) | (with_reducible refine DrawP_auto tab_ok (by kernel_rfl) (by decide +kernel) ?_) | (with_reducible refine DrawP_auto2 tab_ok (by kernel_rfl) (by decide +kernel) ?_) | (with_reducible refine eq28 ?_) | (with_reducible refine eq33 ?_) | (with_reducible refine eq95 ?_) | (with_reducible refine eq115 ?_))))
    exact .inr (.inl ⟨rfl, rfl, rfl⟩)
  | some p =>
    (repeat ((try (conv => whnf)); (first | (refine condP_no (show Option.isNone (some p) = false from rfl) ?_) | (refine hs _ ?_) | (with_reducible refine condP_true ?_) | (with_reducible refine condP_false ?_) | (with_reducible refine condP_not ?_) | (with_reducible refine condP_and ?_) | ((with_reducible refine condP_dt ?_ ?_); (· omega)) | ((with_reducible refine condP_df ?_ ?_); (· omega)) | ((with_reducible refine condP_yes ?_ ?_); (· assumption)) | ((with_reducible refine condP_no ?_ ?_); (· assumption)) | ((with_reducible refine ArP_i64 ?_ ?_); (· omega)) | ((with_reducible refine mustP.mk ?_ ?_); (· first | omega | rfl | (dsimp only; omega))) | (with_reducible refine EqP_nil tab_ok ?_) | (with_reducible refine EqP_sli tab_ok ?_) | (with_reducible refine DrawP_auto tab_ok (by kernel_rfl) (by decide +kernel) ?_) | (with_reducible refine DrawP_auto2 tab_ok (by kernel_rfl) (by decide +kernel) ?_) | (with_reducible refine eq28 ?_) | (with_reducible refine eq33 ?_) | (with_reducible refine eq95 ?_) | (with_reducible refine eq115 ?_))))
    exact .inl ⟨1, rfl, rfl⟩
end Go.Proofs.Ytmklpphdbmpbbaa
