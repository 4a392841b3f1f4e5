/-
  The reference's Walk: the points of a line with its closing one, and their positions.
-/
import Derived.Test.YtpgjbfbdappniaaDashPt
import Derived.Test.YtpgjbfbdappniaaDashS
import Derived.Test.YtpgjbfbdappniaaMakesF
import Derived.Test.YtpgjbfbdappniaaStand
namespace Go.Proofs.Ytpgjbfbdappniaa
open Go.RowKit
set_option linter.unusedVariables false
set_option linter.unusedSimpArgs false
set_option maxRecDepth 20000
/-- A value comes back that may speak of memory that stands from now on. -/
def MakesV (P : Program) (f : FuncId) (args : List AV) (G : Mem) (R : Mem → AV → Prop) : Prop :=
  ∀ (w : World) (vs : Array Value), G.holds w → AV.rels noName args vs.toList → Calls P f vs w fun e w' => ∃ y v G', e = .returned y ∧ v.rel noName y ∧ Below w.heap.size w w' ∧
    G.le G' ∧ G'.holds w' ∧ (∀ b o, G' b = some o → G b = some o ∨ w.heap.size ≤ b) ∧ R G' v
theorem MakesV_of2 {P : Program} {T : Tab} (hT : TOk P T) {f : FuncId} {fn : Func} (hfn : P.funcs[f]? = some fn) {args : List AV} {G : Mem} {R : Mem → AV → Prop} (hn : noRngF fn = true)
    (h : bodyV P T 0 fn args [] G fun v hp' G1 => ∃ k l E sz n xs E' sz' n' xs', v = .tup [.own k, .own l] ∧ k ≠ l ∧ nthB hp' k = .own E sz n xs ∧ nthB hp' l = .own E' sz' n' xs' ∧ ∀ G2 A D ca cd, G1.le G2 → FlatM G2 A xs → FlatM G2 D xs' → R G2 (.tup [.val (.slice A n ca), .val (.slice D n' cd)])) : MakesV P f args G R := by
  intro w vs hG ha
  refine (bodyV_ok hT hfn (hp := []) h (.inl hn) w G _ w vs (HR.init hG) ha).mono ?_
  rintro e w' ⟨y, β', v', hp', G', h1, _, h2, h3, k, l, E, sz, n, xs, E', sz', n', xs', rfl, hkl, hk, hl, hR⟩
  simp only [AV.rel, AV.rels] at h3
  obtain ⟨cs, h4, y1, zs, h5, h6, y2, zs2, h7, h8, h9⟩ := h3
  obtain ⟨A, ca, G2, rfl, hle, hnc, hcm, hF, hr2⟩ := h2.freeze h6.1 hk
  obtain ⟨D, cd, G3, rfl, hle3, hnc3, hcm3, hF3, hr3⟩ := hr2.freeze h8.1 (by
    have hll := nthB_live hl rfl
    rw [nthB_eq, List.getElem?_set, if_neg hkl, hll]; rfl)
  refine ⟨y, _, G3, h1, ?_, h2.below, Mem.le_trans h2.sub (Mem.le_trans hle hle3), hr3.hold, hr3.grow, hR G3 A D ca cd (Mem.le_trans hle hle3) (hF.mono hle3) hF3⟩
  simp only [AV.rel, AV.rels]
  exact ⟨cs, h4, _, zs, h5, rfl, _, zs2, h7, rfl, h9⟩
theorem CallP_makesV {P : Program} {f : FuncId} (hen : ∀ vs w, (callFunc f vs).run P w = .ok (.enter f vs) w) {args : List AV} {hp : List Blk} {G : Mem} {K : AV → List Blk → Mem → Prop} {R : Mem → AV → Prop} (hu : AV.unders 0 args = true)
    (hc : MakesV P f args G R) (h : ∀ v G', G.le G' → R G' v → K v hp G') : CallP P f args hp G K := by
  refine ⟨hen, fun w0 G0 β w vs hr ha => (hc w vs hr.hold (bare_rels hu ha)).mono ?_⟩
  rintro e w' ⟨y, v, G', rfl, h2, h3, hle, hh, hg, hR⟩
  have hr' := hr.step h3
  have hno : ∀ b, G b = none → b < w.heap.size → G' b = none := fun b hb hl => by
    cases e : G' b with
    | none => rfl
    | some o =>
      rcases hg b o e with h6 | h6
      · rw [hb] at h6; cases h6
      · omega
  refine ⟨y, β, v, hp, G', rfl, Nm.le_refl _, ⟨hr'.below, hh, Mem.le_trans hr.sub hle, fun b o hb => ?_, fun k z hk => ?_, hr'.inj⟩, AV.rel_mono (noName_le β) _ _ h2, h v G' hle hR⟩
  · rcases hg b o hb with h6 | h6
    · exact hr.grow b o h6
    · exact .inr (Nat.le_trans hr.below.size h6)
  · obtain ⟨x, hx1, hx2⟩ := hr.blk k z hk
    obtain ⟨x', hx1', hx2'⟩ := hr'.blk k z hk
    rw [hx1] at hx1'; cases hx1'
    refine ⟨x, hx1, ?_⟩
    have hlt : ∀ b, x.live = true → blkOf z = some b → b < w.heap.size := fun b hl hb => (hr.lt hk hx1 hl hb).2.1
    cases x with
    | gone => trivial
    | cells t l =>
      obtain ⟨b, c, q1, q2, q3, q4, q5⟩ := hx2'
      exact ⟨b, c, q1, q2, hno b q3 (hlt b rfl (by rw [q1]; rfl)), q4, q5⟩
    | own e' sz' n' xs' =>
      exact ⟨hx2'.1, fun b hb => hno b (hx2'.2 b hb) (hlt b rfl hb)⟩
    | lp i fr st p =>
      obtain ⟨q1, q2, q3, q4⟩ := hx2'
      exact ⟨q1, q2, hno i.l q3 (hlt i.l rfl (by rw [q1]; rfl)), q4⟩
section
variable {G : Mem} {A : Option Addr} {X Y : Nat → Int} {n q : Nat} {cl : Bool}
def rowW (X Y : Nat → Int) (n k : Nat) : List Value := flatC (ptC (fun i => X (pi n i)) (fun i => Y (pi n i))) k
theorem rowW_n : rowW X Y n n = flatC (ptC X Y) n := flatC_congr fun x hx => by simp only [ptC]; rw [pi_in hx]
theorem rowW_n1 : rowW X Y n (n + 1) = flatC (ptC X Y) n ++ [.int .i64 (X 0), .int .i64 (Y 0)] := by
  show rowW X Y n n ++ ptC (fun i => X (pi n i)) (fun i => Y (pi n i)) n = _
  rw [rowW_n]; simp only [ptC, pi_end]
theorem rowW_get {k i : Nat} (h : i < k) (K : List Value → Prop) (hK : K [.int .i64 (X (pi n i)), .int .i64 (Y (pi n i))]) : OwnCells (rowW X Y n k) (i * 2) 2 K :=
  OwnCells_list _ rfl (fun j v hj => by
    have hjk : j < 2 := (List.getElem?_eq_some_iff.1 hj).1
    unfold rowW
    rw [flatC_get (c := ptC (fun i => X (pi n i)) (fun i => Y (pi n i))) (sz := 2) (fun x _ => rfl) h hjk]; exact hj) hK
noncomputable def atsW (X Y : Nat → Int) (n k : Nat) : List Value := flatC (fun i => [.int .i64 (atI X Y n i)]) k
theorem atsW_next {k : Nat} : atsW X Y n (k + 1) = atsW X Y n k ++ [.int .i64 (atI X Y n k)] := rfl
theorem atsW_get {k i : Nat} (h : i < k) : (atsW X Y n k)[i]? = some (.int .i64 (atI X Y n i)) := by
  have := flatC_get (c := fun i => [Value.int .i64 (atI X Y n i)]) (sz := 1) (n := k) (fun x _ => rfl) h (show 0 < 1 by omega)
  rw [Nat.mul_one, Nat.add_zero] at this
  exact this
theorem src_ptsW (hp : ElsM G A 2 n (ptC X Y)) {K : Nat → List Value → Prop} (h : K n (flatC (ptC X Y) n)) : SrcV G A n 2 K := by
  refine ⟨_, flatC_length (fun x _ => rfl), fun hn => ?_, flatC_one fun x _ v hv => ?_, h⟩
  · obtain ⟨b, off, hA, _⟩ := hp.at_ 0 (by omega)
    refine ⟨_, hA, fun j v hj => ?_⟩
    have hjl := (List.getElem?_eq_some_iff.1 hj).1
    rw [flatC_length (sz := 2) (fun x _ => rfl)] at hjl
    obtain ⟨b', off', hA', hc⟩ := hp.at_ (j / 2) (by omega)
    rw [hA] at hA'; cases hA'
    have e : j = j / 2 * 2 + j % 2 := by omega
    have hg := flatC_get (c := ptC X Y) (sz := 2) (n := n) (fun x _ => rfl) (x := j / 2) (j := j % 2) (by omega) (by omega)
    rw [← e, hj] at hg
    rw [addr_add]
    have := hc (j % 2) v hg.symm
    rwa [Nat.add_assoc, ← e] at this
  · simp [ptC] at hv; rcases hv with rfl | rfl <;> rfl
set_option maxHeartbeats 2000000 in
theorem RLength_givesW {a b c d : Int} (h : (-32767 ≤ a ∧ a ≤ 32767) ∧ (-32767 ≤ b ∧ b ≤ 32767)) (h' : (-32767 ≤ c ∧ c ≤ 32767) ∧ (-32767 ≤ d ∧ d ≤ 32767)) :
    Gives Try.prog 57 [.agg [.val (.int .i64 a), .val (.int .i64 b)], .agg [.val (.int .i64 c), .val (.int .i64 d)]] G (.val (.int .i64 (rootI ((c - a) * (c - a) + (d - b) * (d - b))))) := by
  have e1 := sq_bd (a := c - a) (by omega)
  have e2 := sq_bd (a := d - b) (by omega)
  have hr := RRoot_gives (n := (c - a) * (c - a) + (d - b) * (d - b)) (G := G) (by omega)
  refine Gives_of tab_ok Try.func57 ?_
  (repeat ((try (conv => whnf)); (first | (with_reducible refine condP_true ?_) | (with_reducible refine condP_false ?_) | (with_reducible refine condP_not ?_) | (with_reducible refine condP_and ?_) | ((with_reducible refine condP_dt ?_ ?_); (· omega)) | ((with_reducible refine condP_df ?_ ?_); (· omega)) | ((with_reducible refine condP_yes ?_ ?_); (· assumption)) | ((with_reducible refine condP_no ?_ ?_); (· assumption)) | ((with_reducible refine ArP_i64 ?_ ?_); (· omega)) | ((with_reducible refine mustP.mk ?_ ?_); (· first | omega | rfl | (dsimp only; omega))) | (with_reducible refine EqP_nil tab_ok ?_) | (with_reducible refine EqP_sli tab_ok ?_) | (with_reducible refine DrawP_auto tab_ok (by kernel_rfl) (by decide +kernel) ?_) | (with_reducible refine DrawP_auto2 tab_ok (by kernel_rfl) (by decide +kernel) ?_) | (with_reducible refine eq43 ?_) | (with_reducible refine eq55 ?_) | (with_reducible refine eq57 ?_) | (with_reducible refine eq93 ?_) | (with_reducible refine eq101 ?_) | (with_reducible refine eq116 ?_) | (with_reducible refine eq119 ?_) | (with_reducible refine CallP_gives (fun vs w => by kernel_rfl) (by kernel_rfl) (hr) ?_) | (with_reducible refine RCallP_gives (fun vs w => by kernel_rfl) (by kernel_rfl) (hr) ?_))))
  exact ⟨rfl, rfl⟩
/-- The result of Walk. -/
def WkR (X Y : Nat → Int) (n T : Nat) (G : Mem) (v : AV) : Prop := ∃ B D cb cd, v = .tup [.val (.slice B (T + 1) cb), .val (.slice D (T + 1) cd)] ∧ WalkM G B D T (fun i => X (pi n i)) (fun i => Y (pi n i)) (atI X Y n)
theorem WkR_of {T : Nat} {B D : Option Addr} {cb cd : Nat} (h1 : FlatM G B (rowW X Y n (T + 1))) (h2 : FlatM G D (atsW X Y n (T + 1))) : WkR X Y n T G (.tup [.val (.slice B (T + 1) cb), .val (.slice D (T + 1) cd)]) :=
  ⟨B, D, cb, cd, rfl, ⟨h1.els (sz := 2) (fun _ _ => rfl) (by omega), h2.els (sz := 1) (fun _ _ => rfl) (by omega)⟩⟩
set_option maxHeartbeats 8000000 in
theorem Walk_makes (hp : ElsM G A 2 n (ptC X Y)) (hok : ∀ j, j < n → okXY (X j) (Y j) = true) (hn : n ≤ 1000) (h0 : 0 < n) :
    MakesV Try.prog 35 [.agg [.val (.slice A n q), .val (.bool cl)]] G (WkR X Y n (tot n cl)) := by
  have hc0 : ∀ K : List Value → Prop, K [.int .i64 (X 0), .int .i64 (Y 0)] → OwnCells (flatC (ptC X Y) n) 0 2 K := fun K hK => by
    rw [← rowW_n]
    have := rowW_get (X := X) (Y := Y) (n := n) h0 K (by rw [pi_in h0]; exact hK)
    rwa [Nat.zero_mul] at this
  refine MakesV_of2 tab_ok Try.func35 (by kernel_rfl) ?_
  have ht : tot n cl = if cl = true ∧ 1 < n then n else n - 1 := by
    unfold tot
    rw [if_neg (by omega)]
  by_cases hcl : cl = true ∧ 1 < n
  · rw [if_pos hcl] at ht
    rw [ht]
    obtain ⟨rfl, h2⟩ := hcl
    (repeat ((try (conv => whnf)); (first | (refine src_ptsW hp ?_) | (refine hc0 _ ?_) | (with_reducible refine condP_true ?_) | (with_reducible refine condP_false ?_) | (with_reducible refine condP_not ?_) | (with_reducible refine condP_and ?_) | ((with_reducible refine condP_dt ?_ ?_); (· omega)) | ((with_reducible refine condP_df ?_ ?_); (· omega)) | ((with_reducible refine condP_yes ?_ ?_); (· assumption)) | ((with_reducible refine condP_no ?_ ?_); (· assumption)) | ((with_reducible refine ArP_i64 ?_ ?_); (· omega)) | ((with_reducible refine mustP.mk ?_ ?_); (· first | omega | rfl | (dsimp only; omega))) | (with_reducible refine EqP_nil tab_ok ?_) | (with_reducible refine EqP_sli tab_ok ?_) | (with_reducible refine DrawP_auto tab_ok (by kernel_rfl) (by decide +kernel) ?_) | (with_reducible refine DrawP_auto2 tab_ok (by kernel_rfl) (by decide +kernel) ?_) | (with_reducible refine eq43 ?_) | (with_reducible refine eq55 ?_) | (with_reducible refine eq57 ?_) | (with_reducible refine eq93 ?_) | (with_reducible refine eq101 ?_) | (with_reducible refine eq116 ?_) | (with_reducible refine eq119 ?_))))
    conv => whnf
    refine LoopP_at tab_ok (fun i => i ≤ n + 1) (fun (i : Nat) => [(26, .val (.int .i64 i)), (5, .own 5)]) (fun i => [.cells 34 [.val (.slice A n q), .val (.bool true)], .gone, .gone, .gone, .own 55 2 (n + 1) (rowW X Y n (n + 1)), .own 3 1 i (atsW X Y n i)]) (fun i => n + 1 - i) 0 (Nat.zero_le _) ?_ ?_
    · refine Le_own 3 1 ?_
      conv => whnf
      ((refine Le_head ?_); (conv => whnf); (refine Le_mk (by rfl) (by rfl) ?_ ?_); (· (repeat (first | (with_reducible exact frLe_nil) | (with_reducible refine frLe_any ?_) | (with_reducible refine frLe_val ?_) | ((with_reducible refine frLe_eq rfl ?_ ?_); (· rfl)) | ((with_reducible refine frLe_val' (int_eq ?_) ?_ ?_); (· omega); (· rfl)) | ((with_reducible refine frLe_val' (int_eq ?_) ?_ ?_); (· simp only [Int.natCast_add, Int.natCast_one, Int.natCast_ofNat] <;> omega); (· rfl)) | ((with_reducible refine frLe_val' (bool_eq ?_) ?_ ?_); (· first | assumption | (symm; assumption)); (· rfl))))))
      exact hpLe_cells (by (repeat (first | (with_reducible exact frLe_nil) | (with_reducible refine frLe_any ?_) | (with_reducible refine frLe_val ?_) | ((with_reducible refine frLe_eq rfl ?_ ?_); (· rfl)) | ((with_reducible refine frLe_val' (int_eq ?_) ?_ ?_); (· omega); (· rfl)) | ((with_reducible refine frLe_val' (int_eq ?_) ?_ ?_); (· simp only [Int.natCast_add, Int.natCast_one, Int.natCast_ofNat] <;> omega); (· rfl)) | ((with_reducible refine frLe_val' (bool_eq ?_) ?_ ?_); (· first | assumption | (symm; assumption)); (· rfl))))) (hpLe_gone (hpLe_gone (hpLe_gone (hpLe_own rfl (by rw [rowW_n1]; try rfl) (hpLe_own rfl rfl hpLe_nil)))))
    · rintro i hi
      rcases Nat.lt_or_ge i (n + 1) with h1 | h1
      · cases i with
        | zero =>
          (repeat ((try (conv => whnf)); (first | (with_reducible refine condP_true ?_) | (with_reducible refine condP_false ?_) | (with_reducible refine condP_not ?_) | (with_reducible refine condP_and ?_) | ((with_reducible refine condP_dt ?_ ?_); (· omega)) | ((with_reducible refine condP_df ?_ ?_); (· omega)) | ((with_reducible refine condP_yes ?_ ?_); (· assumption)) | ((with_reducible refine condP_no ?_ ?_); (· assumption)) | ((with_reducible refine ArP_i64 ?_ ?_); (· omega)) | ((with_reducible refine mustP.mk ?_ ?_); (· first | omega | rfl | (dsimp only; omega))) | (with_reducible refine EqP_nil tab_ok ?_) | (with_reducible refine EqP_sli tab_ok ?_) | (with_reducible refine DrawP_auto tab_ok (by kernel_rfl) (by decide +kernel) ?_) | (with_reducible refine DrawP_auto2 tab_ok (by kernel_rfl) (by decide +kernel) ?_) | (with_reducible refine eq43 ?_) | (with_reducible refine eq55 ?_) | (with_reducible refine eq57 ?_) | (with_reducible refine eq93 ?_) | (with_reducible refine eq101 ?_) | (with_reducible refine eq116 ?_) | (with_reducible refine eq119 ?_))))
          refine ⟨1, by omega, by omega, ?_⟩
          refine Le_move 7 5 rfl rfl rfl rfl ?_
          conv => whnf
          ((refine Le_head ?_); (conv => whnf); (refine Le_mk (by rfl) (by rfl) ?_ ?_); (· (repeat (first | (with_reducible exact frLe_nil) | (with_reducible refine frLe_any ?_) | (with_reducible refine frLe_val ?_) | ((with_reducible refine frLe_eq rfl ?_ ?_); (· rfl)) | ((with_reducible refine frLe_val' (int_eq ?_) ?_ ?_); (· omega); (· rfl)) | ((with_reducible refine frLe_val' (int_eq ?_) ?_ ?_); (· simp only [Int.natCast_add, Int.natCast_one, Int.natCast_ofNat] <;> omega); (· rfl)) | ((with_reducible refine frLe_val' (bool_eq ?_) ?_ ?_); (· first | assumption | (symm; assumption)); (· rfl))))))
          exact hpLe_cells (by (repeat (first | (with_reducible exact frLe_nil) | (with_reducible refine frLe_any ?_) | (with_reducible refine frLe_val ?_) | ((with_reducible refine frLe_eq rfl ?_ ?_); (· rfl)) | ((with_reducible refine frLe_val' (int_eq ?_) ?_ ?_); (· omega); (· rfl)) | ((with_reducible refine frLe_val' (int_eq ?_) ?_ ?_); (· simp only [Int.natCast_add, Int.natCast_one, Int.natCast_ofNat] <;> omega); (· rfl)) | ((with_reducible refine frLe_val' (bool_eq ?_) ?_ ?_); (· first | assumption | (symm; assumption)); (· rfl))))) (hpLe_gone (hpLe_gone (hpLe_gone (hpLe_own rfl rfl (hpLe_own rfl rfl hpLe_nil)))))
        | succ j =>
          have hjn : j < n := by omega
          have i1 : (((j + 1 : Nat) : Int) - 1).toNat = j := by omega
          have c0 : ∀ K : List Value → Prop, K [.int .i64 (X (pi n j)), .int .i64 (Y (pi n j))] → OwnCells (rowW X Y n (n + 1)) ((((j + 1 : Nat) : Int) - 1).toNat * 2) 2 K := by rw [i1]; exact rowW_get (by omega)
          have c1 : ∀ K : List Value → Prop, K [.int .i64 (X (pi n (j + 1))), .int .i64 (Y (pi n (j + 1)))] → OwnCells (rowW X Y n (n + 1)) (((j + 1 : Nat) : Int).toNat * 2) 2 K := rowW_get h1
          have a0 : (atsW X Y n (j + 1))[(((j + 1 : Nat) : Int) - 1).toNat * 1]? = some (.int .i64 (atI X Y n j)) := by rw [i1, Nat.mul_one]; exact atsW_get (by omega)
          have hl := RLength_givesW (G := G) (okXY_of (hok _ (pi_lt (show j ≤ n by omega) (by omega)))) (okXY_of (hok _ (pi_lt (show j + 1 ≤ n by omega) (by omega))))
          have hl : Gives Try.prog 57 [.agg [.val (.int .i64 (X (pi n j))), .val (.int .i64 (Y (pi n j)))], .agg [.val (.int .i64 (X (pi n (j + 1)))), .val (.int .i64 (Y (pi n (j + 1))))]] G (.val (.int .i64 (szI X Y n j))) := hl
          have hb := atI_bd hok j (by omega)
          have hz := szI_bd hok hjn
          have hnx : atsW X Y n (j + 1 + 1) = atsW X Y n (j + 1) ++ [.int .i64 (atI X Y n j + szI X Y n j)] := atsW_next
          generalize hr2 : atsW X Y n (j + 1 + 1) = r2 at *
          generalize atsW X Y n (j + 1) = r1 at *
          generalize szI X Y n j = z at *
          generalize atI X Y n j = t at *
          clear hok hp
          (repeat ((try (conv => whnf)); (first | (refine c0 _ ?_) | (refine c1 _ ?_) | (refine OwnCells_one _ a0 ?_) | (with_reducible refine condP_true ?_) | (with_reducible refine condP_false ?_) | (with_reducible refine condP_not ?_) | (with_reducible refine condP_and ?_) | ((with_reducible refine condP_dt ?_ ?_); (· omega)) | ((with_reducible refine condP_df ?_ ?_); (· omega)) | ((with_reducible refine condP_yes ?_ ?_); (· assumption)) | ((with_reducible refine condP_no ?_ ?_); (· assumption)) | ((with_reducible refine ArP_i64 ?_ ?_); (· omega)) | ((with_reducible refine mustP.mk ?_ ?_); (· first | omega | rfl | (dsimp only; omega))) | (with_reducible refine EqP_nil tab_ok ?_) | (with_reducible refine EqP_sli tab_ok ?_) | (with_reducible refine DrawP_auto tab_ok (by kernel_rfl) (by decide +kernel) ?_) | (with_reducible refine DrawP_auto2 tab_ok (by kernel_rfl) (by decide +kernel) ?_) | (with_reducible refine eq43 ?_) | (with_reducible refine eq55 ?_) | (with_reducible refine eq57 ?_) | (with_reducible refine eq93 ?_) | (with_reducible refine eq101 ?_) | (with_reducible refine eq116 ?_) | (with_reducible refine eq119 ?_) | (with_reducible refine CallP_gives (fun vs w => by kernel_rfl) (by kernel_rfl) (hl) ?_) | (with_reducible refine RCallP_gives (fun vs w => by kernel_rfl) (by kernel_rfl) (hl) ?_))))
          refine ⟨j + 1 + 1, by omega, by omega, ?_⟩
          rw [hr2, hnx]
          refine Le_move 7 5 rfl rfl rfl rfl ?_
          conv => whnf
          ((refine Le_head ?_); (conv => whnf); (refine Le_mk (by rfl) (by rfl) ?_ ?_); (· (repeat (first | (with_reducible exact frLe_nil) | (with_reducible refine frLe_any ?_) | (with_reducible refine frLe_val ?_) | ((with_reducible refine frLe_eq rfl ?_ ?_); (· rfl)) | ((with_reducible refine frLe_val' (int_eq ?_) ?_ ?_); (· omega); (· rfl)) | ((with_reducible refine frLe_val' (int_eq ?_) ?_ ?_); (· simp only [Int.natCast_add, Int.natCast_one, Int.natCast_ofNat] <;> omega); (· rfl)) | ((with_reducible refine frLe_val' (bool_eq ?_) ?_ ?_); (· first | assumption | (symm; assumption)); (· rfl))))))
          exact hpLe_cells (by (repeat (first | (with_reducible exact frLe_nil) | (with_reducible refine frLe_any ?_) | (with_reducible refine frLe_val ?_) | ((with_reducible refine frLe_eq rfl ?_ ?_); (· rfl)) | ((with_reducible refine frLe_val' (int_eq ?_) ?_ ?_); (· omega); (· rfl)) | ((with_reducible refine frLe_val' (int_eq ?_) ?_ ?_); (· simp only [Int.natCast_add, Int.natCast_one, Int.natCast_ofNat] <;> omega); (· rfl)) | ((with_reducible refine frLe_val' (bool_eq ?_) ?_ ?_); (· first | assumption | (symm; assumption)); (· rfl))))) (hpLe_gone (hpLe_gone (hpLe_gone (hpLe_own rfl rfl (hpLe_own rfl rfl hpLe_nil)))))
      · have hin : n + 1 = i := by omega
        subst hin
        clear hok hp
        (repeat ((try (conv => whnf)); (first | (with_reducible refine condP_true ?_) | (with_reducible refine condP_false ?_) | (with_reducible refine condP_not ?_) | (with_reducible refine condP_and ?_) | ((with_reducible refine condP_dt ?_ ?_); (· omega)) | ((with_reducible refine condP_df ?_ ?_); (· omega)) | ((with_reducible refine condP_yes ?_ ?_); (· assumption)) | ((with_reducible refine condP_no ?_ ?_); (· assumption)) | ((with_reducible refine ArP_i64 ?_ ?_); (· omega)) | ((with_reducible refine mustP.mk ?_ ?_); (· first | omega | rfl | (dsimp only; omega))) | (with_reducible refine EqP_nil tab_ok ?_) | (with_reducible refine EqP_sli tab_ok ?_) | (with_reducible refine DrawP_auto tab_ok (by kernel_rfl) (by decide +kernel) ?_) | (with_reducible refine DrawP_auto2 tab_ok (by kernel_rfl) (by decide +kernel) ?_) | (with_reducible refine eq43 ?_) | (with_reducible refine eq55 ?_) | (with_reducible refine eq57 ?_) | (with_reducible refine eq93 ?_) | (with_reducible refine eq101 ?_) | (with_reducible refine eq116 ?_) | (with_reducible refine eq119 ?_))))
        conv => whnf
        exact ⟨4, 5, _, _, _, _, _, _, _, _, rfl, by omega, rfl, rfl, fun G2 A2 D2 ca cd hle f1 f2 => WkR_of f1 f2⟩
  · rw [if_neg hcl] at ht
    rw [ht]
    cases cl
    · clear hcl
      (repeat ((try (conv => whnf)); (first | (refine src_ptsW hp ?_) | (refine hc0 _ ?_) | (with_reducible refine condP_true ?_) | (with_reducible refine condP_false ?_) | (with_reducible refine condP_not ?_) | (with_reducible refine condP_and ?_) | ((with_reducible refine condP_dt ?_ ?_); (· omega)) | ((with_reducible refine condP_df ?_ ?_); (· omega)) | ((with_reducible refine condP_yes ?_ ?_); (· assumption)) | ((with_reducible refine condP_no ?_ ?_); (· assumption)) | ((with_reducible refine ArP_i64 ?_ ?_); (· omega)) | ((with_reducible refine mustP.mk ?_ ?_); (· first | omega | rfl | (dsimp only; omega))) | (with_reducible refine EqP_nil tab_ok ?_) | (with_reducible refine EqP_sli tab_ok ?_) | (with_reducible refine DrawP_auto tab_ok (by kernel_rfl) (by decide +kernel) ?_) | (with_reducible refine DrawP_auto2 tab_ok (by kernel_rfl) (by decide +kernel) ?_) | (with_reducible refine eq43 ?_) | (with_reducible refine eq55 ?_) | (with_reducible refine eq57 ?_) | (with_reducible refine eq93 ?_) | (with_reducible refine eq101 ?_) | (with_reducible refine eq116 ?_) | (with_reducible refine eq119 ?_))))
      conv => whnf
      refine LoopP_at tab_ok (fun i => i ≤ n) (fun (i : Nat) => [(26, .val (.int .i64 i)), (5, .own 3)]) (fun i => [.cells 34 [.val (.slice A n q), .val (.bool false)], .gone, .own 55 2 (n) (rowW X Y n (n)), .own 3 1 i (atsW X Y n i)]) (fun i => n - i) 0 (Nat.zero_le _) ?_ ?_
      · refine Le_own 3 1 ?_
        conv => whnf
        ((refine Le_head ?_); (conv => whnf); (refine Le_mk (by rfl) (by rfl) ?_ ?_); (· (repeat (first | (with_reducible exact frLe_nil) | (with_reducible refine frLe_any ?_) | (with_reducible refine frLe_val ?_) | ((with_reducible refine frLe_eq rfl ?_ ?_); (· rfl)) | ((with_reducible refine frLe_val' (int_eq ?_) ?_ ?_); (· omega); (· rfl)) | ((with_reducible refine frLe_val' (int_eq ?_) ?_ ?_); (· simp only [Int.natCast_add, Int.natCast_one, Int.natCast_ofNat] <;> omega); (· rfl)) | ((with_reducible refine frLe_val' (bool_eq ?_) ?_ ?_); (· first | assumption | (symm; assumption)); (· rfl))))))
        exact hpLe_cells (by (repeat (first | (with_reducible exact frLe_nil) | (with_reducible refine frLe_any ?_) | (with_reducible refine frLe_val ?_) | ((with_reducible refine frLe_eq rfl ?_ ?_); (· rfl)) | ((with_reducible refine frLe_val' (int_eq ?_) ?_ ?_); (· omega); (· rfl)) | ((with_reducible refine frLe_val' (int_eq ?_) ?_ ?_); (· simp only [Int.natCast_add, Int.natCast_one, Int.natCast_ofNat] <;> omega); (· rfl)) | ((with_reducible refine frLe_val' (bool_eq ?_) ?_ ?_); (· first | assumption | (symm; assumption)); (· rfl))))) (hpLe_gone (hpLe_own rfl (by rw [rowW_n]; try rfl) (hpLe_own rfl rfl hpLe_nil)))
      · rintro i hi
        rcases Nat.lt_or_ge i (n) with h1 | h1
        · cases i with
          | zero =>
            (repeat ((try (conv => whnf)); (first | (with_reducible refine condP_true ?_) | (with_reducible refine condP_false ?_) | (with_reducible refine condP_not ?_) | (with_reducible refine condP_and ?_) | ((with_reducible refine condP_dt ?_ ?_); (· omega)) | ((with_reducible refine condP_df ?_ ?_); (· omega)) | ((with_reducible refine condP_yes ?_ ?_); (· assumption)) | ((with_reducible refine condP_no ?_ ?_); (· assumption)) | ((with_reducible refine ArP_i64 ?_ ?_); (· omega)) | ((with_reducible refine mustP.mk ?_ ?_); (· first | omega | rfl | (dsimp only; omega))) | (with_reducible refine EqP_nil tab_ok ?_) | (with_reducible refine EqP_sli tab_ok ?_) | (with_reducible refine DrawP_auto tab_ok (by kernel_rfl) (by decide +kernel) ?_) | (with_reducible refine DrawP_auto2 tab_ok (by kernel_rfl) (by decide +kernel) ?_) | (with_reducible refine eq43 ?_) | (with_reducible refine eq55 ?_) | (with_reducible refine eq57 ?_) | (with_reducible refine eq93 ?_) | (with_reducible refine eq101 ?_) | (with_reducible refine eq116 ?_) | (with_reducible refine eq119 ?_))))
            refine ⟨1, by omega, by omega, ?_⟩
            refine Le_move 5 3 rfl rfl rfl rfl ?_
            conv => whnf
            ((refine Le_head ?_); (conv => whnf); (refine Le_mk (by rfl) (by rfl) ?_ ?_); (· (repeat (first | (with_reducible exact frLe_nil) | (with_reducible refine frLe_any ?_) | (with_reducible refine frLe_val ?_) | ((with_reducible refine frLe_eq rfl ?_ ?_); (· rfl)) | ((with_reducible refine frLe_val' (int_eq ?_) ?_ ?_); (· omega); (· rfl)) | ((with_reducible refine frLe_val' (int_eq ?_) ?_ ?_); (· simp only [Int.natCast_add, Int.natCast_one, Int.natCast_ofNat] <;> omega); (· rfl)) | ((with_reducible refine frLe_val' (bool_eq ?_) ?_ ?_); (· first | assumption | (symm; assumption)); (· rfl))))))
            exact hpLe_cells (by (repeat (first | (with_reducible exact frLe_nil) | (with_reducible refine frLe_any ?_) | (with_reducible refine frLe_val ?_) | ((with_reducible refine frLe_eq rfl ?_ ?_); (· rfl)) | ((with_reducible refine frLe_val' (int_eq ?_) ?_ ?_); (· omega); (· rfl)) | ((with_reducible refine frLe_val' (int_eq ?_) ?_ ?_); (· simp only [Int.natCast_add, Int.natCast_one, Int.natCast_ofNat] <;> omega); (· rfl)) | ((with_reducible refine frLe_val' (bool_eq ?_) ?_ ?_); (· first | assumption | (symm; assumption)); (· rfl))))) (hpLe_gone (hpLe_own rfl rfl (hpLe_own rfl rfl hpLe_nil)))
          | succ j =>
            have hjn : j < n := by omega
            have i1 : (((j + 1 : Nat) : Int) - 1).toNat = j := by omega
            have c0 : ∀ K : List Value → Prop, K [.int .i64 (X (pi n j)), .int .i64 (Y (pi n j))] → OwnCells (rowW X Y n (n)) ((((j + 1 : Nat) : Int) - 1).toNat * 2) 2 K := by rw [i1]; exact rowW_get (by omega)
            have c1 : ∀ K : List Value → Prop, K [.int .i64 (X (pi n (j + 1))), .int .i64 (Y (pi n (j + 1)))] → OwnCells (rowW X Y n (n)) (((j + 1 : Nat) : Int).toNat * 2) 2 K := rowW_get h1
            have a0 : (atsW X Y n (j + 1))[(((j + 1 : Nat) : Int) - 1).toNat * 1]? = some (.int .i64 (atI X Y n j)) := by rw [i1, Nat.mul_one]; exact atsW_get (by omega)
            have hl := RLength_givesW (G := G) (okXY_of (hok _ (pi_lt (show j ≤ n by omega) (by omega)))) (okXY_of (hok _ (pi_lt (show j + 1 ≤ n by omega) (by omega))))
            have hl : Gives Try.prog 57 [.agg [.val (.int .i64 (X (pi n j))), .val (.int .i64 (Y (pi n j)))], .agg [.val (.int .i64 (X (pi n (j + 1)))), .val (.int .i64 (Y (pi n (j + 1))))]] G (.val (.int .i64 (szI X Y n j))) := hl
            have hb := atI_bd hok j (by omega)
            have hz := szI_bd hok hjn
            have hnx : atsW X Y n (j + 1 + 1) = atsW X Y n (j + 1) ++ [.int .i64 (atI X Y n j + szI X Y n j)] := atsW_next
            generalize hr2 : atsW X Y n (j + 1 + 1) = r2 at *
            generalize atsW X Y n (j + 1) = r1 at *
            generalize szI X Y n j = z at *
            generalize atI X Y n j = t at *
            clear hok hp
            (repeat ((try (conv => whnf)); (first | (refine c0 _ ?_) | (refine c1 _ ?_) | (refine OwnCells_one _ a0 ?_) | (with_reducible refine condP_true ?_) | (with_reducible refine condP_false ?_) | (with_reducible refine condP_not ?_) | (with_reducible refine condP_and ?_) | ((with_reducible refine condP_dt ?_ ?_); (· omega)) | ((with_reducible refine condP_df ?_ ?_); (· omega)) | ((with_reducible refine condP_yes ?_ ?_); (· assumption)) | ((with_reducible refine condP_no ?_ ?_); (· assumption)) | ((with_reducible refine ArP_i64 ?_ ?_); (· omega)) | ((with_reducible refine mustP.mk ?_ ?_); (· first | omega | rfl | (dsimp only; omega))) | (with_reducible refine EqP_nil tab_ok ?_) | (with_reducible refine EqP_sli tab_ok ?_) | (with_reducible refine DrawP_auto tab_ok (by kernel_rfl) (by decide +kernel) ?_) | (with_reducible refine DrawP_auto2 tab_ok (by kernel_rfl) (by decide +kernel) ?_) | (with_reducible refine eq43 ?_) | (with_reducible refine eq55 ?_) | (with_reducible refine eq57 ?_) | (with_reducible refine eq93 ?_) | (with_reducible refine eq101 ?_) | (with_reducible refine eq116 ?_) | (with_reducible refine eq119 ?_) | (with_reducible refine CallP_gives (fun vs w => by kernel_rfl) (by kernel_rfl) (hl) ?_) | (with_reducible refine RCallP_gives (fun vs w => by kernel_rfl) (by kernel_rfl) (hl) ?_))))
            refine ⟨j + 1 + 1, by omega, by omega, ?_⟩
            rw [hr2, hnx]
            refine Le_move 5 3 rfl rfl rfl rfl ?_
            conv => whnf
            ((refine Le_head ?_); (conv => whnf); (refine Le_mk (by rfl) (by rfl) ?_ ?_); (· (repeat (first | (with_reducible exact frLe_nil) | (with_reducible refine frLe_any ?_) | (with_reducible refine frLe_val ?_) | ((with_reducible refine frLe_eq rfl ?_ ?_); (· rfl)) | ((with_reducible refine frLe_val' (int_eq ?_) ?_ ?_); (· omega); (· rfl)) | ((with_reducible refine frLe_val' (int_eq ?_) ?_ ?_); (· simp only [Int.natCast_add, Int.natCast_one, Int.natCast_ofNat] <;> omega); (· rfl)) | ((with_reducible refine frLe_val' (bool_eq ?_) ?_ ?_); (· first | assumption | (symm; assumption)); (· rfl))))))
            exact hpLe_cells (by (repeat (first | (with_reducible exact frLe_nil) | (with_reducible refine frLe_any ?_) | (with_reducible refine frLe_val ?_) | ((with_reducible refine frLe_eq rfl ?_ ?_); (· rfl)) | ((with_reducible refine frLe_val' (int_eq ?_) ?_ ?_); (· omega); (· rfl)) | ((with_reducible refine frLe_val' (int_eq ?_) ?_ ?_); (· simp only [Int.natCast_add, Int.natCast_one, Int.natCast_ofNat] <;> omega); (· rfl)) | ((with_reducible refine frLe_val' (bool_eq ?_) ?_ ?_); (· first | assumption | (symm; assumption)); (· rfl))))) (hpLe_gone (hpLe_own rfl rfl (hpLe_own rfl rfl hpLe_nil)))
        · have hin : n = i := by omega
          subst hin
          clear hok hp
          (repeat ((try (conv => whnf)); (first | (with_reducible refine condP_true ?_) | (with_reducible refine condP_false ?_) | (with_reducible refine condP_not ?_) | (with_reducible refine condP_and ?_) | ((with_reducible refine condP_dt ?_ ?_); (· omega)) | ((with_reducible refine condP_df ?_ ?_); (· omega)) | ((with_reducible refine condP_yes ?_ ?_); (· assumption)) | ((with_reducible refine condP_no ?_ ?_); (· assumption)) | ((with_reducible refine ArP_i64 ?_ ?_); (· omega)) | ((with_reducible refine mustP.mk ?_ ?_); (· first | omega | rfl | (dsimp only; omega))) | (with_reducible refine EqP_nil tab_ok ?_) | (with_reducible refine EqP_sli tab_ok ?_) | (with_reducible refine DrawP_auto tab_ok (by kernel_rfl) (by decide +kernel) ?_) | (with_reducible refine DrawP_auto2 tab_ok (by kernel_rfl) (by decide +kernel) ?_) | (with_reducible refine eq43 ?_) | (with_reducible refine eq55 ?_) | (with_reducible refine eq57 ?_) | (with_reducible refine eq93 ?_) | (with_reducible refine eq101 ?_) | (with_reducible refine eq116 ?_) | (with_reducible refine eq119 ?_))))
          conv => whnf
          exact ⟨2, 3, _, _, _, _, _, _, _, _, rfl, by omega, rfl, rfl, fun G2 A2 D2 ca cd hle f1 f2 => by
            obtain ⟨n', rfl⟩ : ∃ n', n = n' + 1 := ⟨n - 1, by omega⟩
            exact WkR_of (T := n') f1 f2⟩
    · have h2 : ¬ 1 < n := fun h => hcl ⟨rfl, h⟩
      clear hcl
      (repeat ((try (conv => whnf)); (first | (refine src_ptsW hp ?_) | (refine hc0 _ ?_) | (with_reducible refine condP_true ?_) | (with_reducible refine condP_false ?_) | (with_reducible refine condP_not ?_) | (with_reducible refine condP_and ?_) | ((with_reducible refine condP_dt ?_ ?_); (· omega)) | ((with_reducible refine condP_df ?_ ?_); (· omega)) | ((with_reducible refine condP_yes ?_ ?_); (· assumption)) | ((with_reducible refine condP_no ?_ ?_); (· assumption)) | ((with_reducible refine ArP_i64 ?_ ?_); (· omega)) | ((with_reducible refine mustP.mk ?_ ?_); (· first | omega | rfl | (dsimp only; omega))) | (with_reducible refine EqP_nil tab_ok ?_) | (with_reducible refine EqP_sli tab_ok ?_) | (with_reducible refine DrawP_auto tab_ok (by kernel_rfl) (by decide +kernel) ?_) | (with_reducible refine DrawP_auto2 tab_ok (by kernel_rfl) (by decide +kernel) ?_) | (with_reducible refine eq43 ?_) | (with_reducible refine eq55 ?_) | (with_reducible refine eq57 ?_) | (with_reducible refine eq93 ?_) | (with_reducible refine eq101 ?_) | (with_reducible refine eq116 ?_) | (with_reducible refine eq119 ?_))))
      conv => whnf
      refine LoopP_at tab_ok (fun i => i ≤ n) (fun (i : Nat) => [(26, .val (.int .i64 i)), (5, .own 3)]) (fun i => [.cells 34 [.val (.slice A n q), .val (.bool true)], .gone, .own 55 2 (n) (rowW X Y n (n)), .own 3 1 i (atsW X Y n i)]) (fun i => n - i) 0 (Nat.zero_le _) ?_ ?_
      · refine Le_own 3 1 ?_
        conv => whnf
        ((refine Le_head ?_); (conv => whnf); (refine Le_mk (by rfl) (by rfl) ?_ ?_); (· (repeat (first | (with_reducible exact frLe_nil) | (with_reducible refine frLe_any ?_) | (with_reducible refine frLe_val ?_) | ((with_reducible refine frLe_eq rfl ?_ ?_); (· rfl)) | ((with_reducible refine frLe_val' (int_eq ?_) ?_ ?_); (· omega); (· rfl)) | ((with_reducible refine frLe_val' (int_eq ?_) ?_ ?_); (· simp only [Int.natCast_add, Int.natCast_one, Int.natCast_ofNat] <;> omega); (· rfl)) | ((with_reducible refine frLe_val' (bool_eq ?_) ?_ ?_); (· first | assumption | (symm; assumption)); (· rfl))))))
        exact hpLe_cells (by (repeat (first | (with_reducible exact frLe_nil) | (with_reducible refine frLe_any ?_) | (with_reducible refine frLe_val ?_) | ((with_reducible refine frLe_eq rfl ?_ ?_); (· rfl)) | ((with_reducible refine frLe_val' (int_eq ?_) ?_ ?_); (· omega); (· rfl)) | ((with_reducible refine frLe_val' (int_eq ?_) ?_ ?_); (· simp only [Int.natCast_add, Int.natCast_one, Int.natCast_ofNat] <;> omega); (· rfl)) | ((with_reducible refine frLe_val' (bool_eq ?_) ?_ ?_); (· first | assumption | (symm; assumption)); (· rfl))))) (hpLe_gone (hpLe_own rfl (by rw [rowW_n]; try rfl) (hpLe_own rfl rfl hpLe_nil)))
      · rintro i hi
        rcases Nat.lt_or_ge i (n) with h1 | h1
        · cases i with
          | zero =>
            (repeat ((try (conv => whnf)); (first | (with_reducible refine condP_true ?_) | (with_reducible refine condP_false ?_) | (with_reducible refine condP_not ?_) | (with_reducible refine condP_and ?_) | ((with_reducible refine condP_dt ?_ ?_); (· omega)) | ((with_reducible refine condP_df ?_ ?_); (· omega)) | ((with_reducible refine condP_yes ?_ ?_); (· assumption)) | ((with_reducible refine condP_no ?_ ?_); (· assumption)) | ((with_reducible refine ArP_i64 ?_ ?_); (· omega)) | ((with_reducible refine mustP.mk ?_ ?_); (· first | omega | rfl | (dsimp only; omega))) | (with_reducible refine EqP_nil tab_ok ?_) | (with_reducible refine EqP_sli tab_ok ?_) | (with_reducible refine DrawP_auto tab_ok (by kernel_rfl) (by decide +kernel) ?_) | (with_reducible refine DrawP_auto2 tab_ok (by kernel_rfl) (by decide +kernel) ?_) | (with_reducible refine eq43 ?_) | (with_reducible refine eq55 ?_) | (with_reducible refine eq57 ?_) | (with_reducible refine eq93 ?_) | (with_reducible refine eq101 ?_) | (with_reducible refine eq116 ?_) | (with_reducible refine eq119 ?_))))
            refine ⟨1, by omega, by omega, ?_⟩
            refine Le_move 5 3 rfl rfl rfl rfl ?_
            conv => whnf
            ((refine Le_head ?_); (conv => whnf); (refine Le_mk (by rfl) (by rfl) ?_ ?_); (· (repeat (first | (with_reducible exact frLe_nil) | (with_reducible refine frLe_any ?_) | (with_reducible refine frLe_val ?_) | ((with_reducible refine frLe_eq rfl ?_ ?_); (· rfl)) | ((with_reducible refine frLe_val' (int_eq ?_) ?_ ?_); (· omega); (· rfl)) | ((with_reducible refine frLe_val' (int_eq ?_) ?_ ?_); (· simp only [Int.natCast_add, Int.natCast_one, Int.natCast_ofNat] <;> omega); (· rfl)) | ((with_reducible refine frLe_val' (bool_eq ?_) ?_ ?_); (· first | assumption | (symm; assumption)); (· rfl))))))
            exact hpLe_cells (by (repeat (first | (with_reducible exact frLe_nil) | (with_reducible refine frLe_any ?_) | (with_reducible refine frLe_val ?_) | ((with_reducible refine frLe_eq rfl ?_ ?_); (· rfl)) | ((with_reducible refine frLe_val' (int_eq ?_) ?_ ?_); (· omega); (· rfl)) | ((with_reducible refine frLe_val' (int_eq ?_) ?_ ?_); (· simp only [Int.natCast_add, Int.natCast_one, Int.natCast_ofNat] <;> omega); (· rfl)) | ((with_reducible refine frLe_val' (bool_eq ?_) ?_ ?_); (· first | assumption | (symm; assumption)); (· rfl))))) (hpLe_gone (hpLe_own rfl rfl (hpLe_own rfl rfl hpLe_nil)))
          | succ j =>
            exfalso; omega
        · have hin : n = i := by omega
          subst hin
          clear hok hp
          (repeat ((try (conv => whnf)); (first | (with_reducible refine condP_true ?_) | (with_reducible refine condP_false ?_) | (with_reducible refine condP_not ?_) | (with_reducible refine condP_and ?_) | ((with_reducible refine condP_dt ?_ ?_); (· omega)) | ((with_reducible refine condP_df ?_ ?_); (· omega)) | ((with_reducible refine condP_yes ?_ ?_); (· assumption)) | ((with_reducible refine condP_no ?_ ?_); (· assumption)) | ((with_reducible refine ArP_i64 ?_ ?_); (· omega)) | ((with_reducible refine mustP.mk ?_ ?_); (· first | omega | rfl | (dsimp only; omega))) | (with_reducible refine EqP_nil tab_ok ?_) | (with_reducible refine EqP_sli tab_ok ?_) | (with_reducible refine DrawP_auto tab_ok (by kernel_rfl) (by decide +kernel) ?_) | (with_reducible refine DrawP_auto2 tab_ok (by kernel_rfl) (by decide +kernel) ?_) | (with_reducible refine eq43 ?_) | (with_reducible refine eq55 ?_) | (with_reducible refine eq57 ?_) | (with_reducible refine eq93 ?_) | (with_reducible refine eq101 ?_) | (with_reducible refine eq116 ?_) | (with_reducible refine eq119 ?_))))
          conv => whnf
          exact ⟨2, 3, _, _, _, _, _, _, _, _, rfl, by omega, rfl, rfl, fun G2 A2 D2 ca cd hle f1 f2 => by
            obtain ⟨n', rfl⟩ : ∃ n', n = n' + 1 := ⟨n - 1, by omega⟩
            exact WkR_of (T := n') f1 f2⟩
end
end Go.Proofs.Ytpgjbfbdappniaa
