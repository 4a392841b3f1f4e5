/-
  PathParseDamaged: the law's walk.
-/
import Derived.Test.YtdakcfggecpjjaaDoorParse3
import Derived.Test.YtdakcfggecpjjaaDoorRText
import Derived.Lib.ConvBytes
import Derived.Laws.IdiomStrings
namespace Go.Proofs.YtdakcfggecpjjaaDoor.pathParseDamaged
open Go.RowKit Go.Lib
set_option linter.unusedVariables false
set_option maxRecDepth 20000
theorem paths_c (w : World) : Calls Tryd.prog 5 #[] w fun e w' => e = .returned (.bool true) ∧ Below w.heap.size w w' :=
  Gives.calls (args := []) (paths_gives (G := memOf w)) (memOf_holds w)
theorem cut_gives {x h : Int} {G : Mem} (hx : (Lit.int .i64 x).wf = true) (hh : 0 ≤ h ∧ h ≤ 10000) : ∃ k : Nat, (k : Int) ≤ h ∧ Gives Tryd.prog 11 [.val (.int .i64 x), .val (.int .i64 0), .val (.int .i64 h)] G (.val (.int .i64 k)) := by
  have h1 := Int.tmod_lt_of_pos x (show 0 < h - 0 + 1 by omega)
  have h2 : -(h - 0 + 1) < x.tmod (h - 0 + 1) := by
    have := Int.lt_tmod_of_pos x (show 0 < h - 0 + 1 by omega)
    omega
  have h3 : 0 ≤ (x.tmod (h - 0 + 1) + (h - 0 + 1)).tmod (h - 0 + 1) := Int.tmod_nonneg _ (by omega)
  have h4 := Int.tmod_lt_of_pos (x.tmod (h - 0 + 1) + (h - 0 + 1)) (show 0 < h - 0 + 1 by omega)
  refine ⟨((x.tmod (h - 0 + 1) + (h - 0 + 1)).tmod (h - 0 + 1)).toNat, by omega, ?_⟩
  rw [Int.toNat_of_nonneg h3]
  have hx' : -9223372036854775808 ≤ x ∧ x ≤ 9223372036854775807 := by
    have : IntKind.i64.min ≤ x ∧ x ≤ 9223372036854775807 := by simpa [Lit.wf] using hx
    exact this
  refine Gives_of tab_ok Tryd.func11 ?_
  (repeat ((try (conv => whnf)); (first | (with_reducible refine condP_true ?_) | (with_reducible refine condP_false ?_) | (with_reducible refine condP_not ?_) | (with_reducible refine condP_and ?_) | ((with_reducible refine condP_dt ?_ ?_); (· omega)) | ((with_reducible refine condP_df ?_ ?_); (· omega)) | ((with_reducible refine condP_yes ?_ ?_); (· assumption)) | ((with_reducible refine condP_no ?_ ?_); (· assumption)) | ((with_reducible refine ArP_i64 ?_ ?_); (· omega)) | ((with_reducible refine mustP.mk ?_ ?_); (· first | omega | rfl | (dsimp only; omega))) | (with_reducible refine EqP_nil tab_ok ?_) | (with_reducible refine EqP_sli tab_ok ?_) | (with_reducible refine DrawP_auto tab_ok (by kernel_rfl) (by decide +kernel) ?_) | (with_reducible refine DrawP_auto2 tab_ok (by kernel_rfl) (by decide +kernel) ?_) | (with_reducible refine eq45 ?_) | (with_reducible refine eq62 ?_) | (with_reducible refine eq100 ?_))))
  conv => whnf
  exact ⟨by rw [Int.zero_add], rfl⟩
theorem mem_below {w w' : World} (h : Below w.heap.size w w') : (memOf w).le (memOf w') := fun b o hb => by
  have hb : w.heap[b]? = some o := hb
  show w'.heap[b]? = some o
  rw [h.block b (Array.getElem?_eq_some_iff.1 hb).1]; exact hb
theorem gives_pair {f : FuncId} {args : List AV} {G : Mem} {e : Int} (h : Gives Tryd.prog f args G (.tup [.val (.slice none 0 0), .val (.int .i64 e)])) : Gives Tryd.prog f args G (.val (.tuple #[.slice none 0 0, .int .i64 e])) := fun w vs hG ha => by
  refine (h w vs hG ha).mono ?_
  rintro x w' ⟨y, rfl, h2, h3⟩
  refine ⟨y, rfl, ?_, h3⟩
  simp only [AV.rel, AV.rels] at h2 ⊢
  obtain ⟨⟨xs⟩, rfl, a, t, h1, rfl, b, t2, rfl, rfl, rfl⟩ := h2
  have h1 : xs = _ := h1
  subst h1
  rfl
theorem row_calls {f : FuncId} {s : ByteArray} {G : Mem} {L : List SegD} {w : World} (h : Makes Tryd.prog f [.val (.string s)] G (pairE 0) 45 6 L.length (flatC (segC L) L.length)) (hG : G.holds w) :
    Calls Tryd.prog f #[.string s] w fun e w' => ∃ A c, e = .returned (.tuple #[.slice A L.length c, .int .i64 0]) ∧ Below w.heap.size w w' ∧ SegsM (memOf w') A L.length (segsF L) := by
  refine (h w #[.string s] hG (by simp only [AV.rels, AV.rel]; exact ⟨_, _, rfl, rfl, rfl⟩)).mono ?_
  rintro e w' ⟨y, v, rfl, h2, h3, h4⟩
  simp only [pairE, AV.rel, AV.rels] at h2
  obtain ⟨⟨xs⟩, rfl, a, t, h1, rfl, b, t2, rfl, rfl, rfl⟩ := h2
  have h1 : xs = _ := h1
  subst h1
  rcases h3.2 with ⟨rfl, h5⟩ | ⟨g, cap, cur, rfl, h5, h6, h7, h8, h9, h10⟩
  · refine ⟨none, 0, by rw [h5], h4, ?_⟩
    rw [h5]; exact ElsM.none
  · refine ⟨some ⟨g, 0, none⟩, cap, rfl, h4, segs_of (.inr ⟨g, rfl, fun j u hj => ?_⟩)⟩
    rw [← h10] at hj
    rw [List.getElem?_take] at hj
    split at hj
    · rw [memOf_cell]
      unfold World.cell?
      rw [h6]
      simpa using hj
    · cases hj
theorem itoa_pos (n : Int) : 1 ≤ (itoa n).length := by
  have hd : ∀ u, 1 ≤ (Lib.decDigits u).length := fun u => by
    by_cases h : u < 10
    · rw [decDigits_small h]; simp
    · rw [decDigits_next h]; simp
  unfold itoa
  split
  · simp
  · exact hd _
theorem segW_full (k x y u v w : Int) : ∀ l ∈ segW k x y u v w, 1 ≤ l.length := by
  have hi := fun n => itoa_pos n
  unfold segW
  intro l hl
  repeat' split at hl
  all_goals
    simp only [List.mem_cons, List.not_mem_nil, or_false] at hl
  · rcases hl with rfl | rfl | rfl <;> first | exact hi _ | simp
  · rcases hl with rfl | rfl | rfl <;> first | exact hi _ | simp
  · rcases hl with rfl | rfl | rfl | rfl | rfl | rfl <;> first | exact hi _ | simp
  · subst hl; simp
theorem wordsS_full {S : Nat → SegD} : ∀ {n : Nat}, ∀ l ∈ wordsS S n, 1 ≤ l.length
  | 0, l, hl => by simp [wordsS] at hl
  | n + 1, l, hl => by
    rw [wordsS, List.mem_append] at hl
    rcases hl with hl | hl
    · exact wordsS_full l hl
    · exact segW_full _ _ _ _ _ _ l hl
theorem walk_in (A0 : Option Addr) (n0 : Nat) (cap0 : Nat) (S : Nat → SegD) (a1 a2 : Int) (w : World) (c0 : n0 ≤ cap0) (m0 : cap0 ≤ maxLen) (h : SegsM (memOf w) A0 n0 S) (hp : pathE S n0 = 0) (hn : 0 < n0) (hn1 : n0 ≤ 100) (wf1 : (Lit.int .i64 a1).wf = true) (wf2 : (Lit.int .u8 a2).wf = true) (hM : MaxM (memOf w)) :
    Calls Tryd.prog 4 #[.slice A0 n0 cap0, .int .i64 a1, .int .u8 a2] w fun e w' => e = .returned (.bool true) ∧ Below w.heap.size w w' := by
  have gp := RPCheck_gives (c := cap0) h (Nat.le_trans c0 m0)
  have gt := RText_gives (c := cap0) h hp
  rw [hp] at gp
  have hw := wordsS_small fun i hi => (path_small hp hi).1
  have hjl := join_len hw
  have hwl := wordsS_len S n0
  have hne : 1 ≤ (Lib.join (wordsS S n0) [32]).length := by
    obtain ⟨m, rfl⟩ : ∃ m, n0 = m + 1 := ⟨n0 - 1, by omega⟩
    have hp2 := wordsS_pos S m
    cases hws : wordsS S (m + 1) with
    | nil => exact absurd hws hp2
    | cons x r =>
      have hx : 1 ≤ x.length := wordsS_full (n := m + 1) x (by rw [hws]; simp)
      cases r with
      | nil => simpa [Lib.join] using hx
      | cons y t => simp [Lib.join]; omega
  have hs1 : 1 ≤ (bytesS (Lib.join (wordsS S n0) [32])).size ∧ (bytesS (Lib.join (wordsS S n0) [32])).size ≤ 5000 := by rw [bytes_size]; omega
  clear hw hjl hwl hne
  have HP : Hid _ := gp
  have HT : Hid _ := gt
  clear gp gt
  generalize bytesS (Lib.join (wordsS S n0) [32]) = T at *
  go_enter Tryd.func4, Tryd.ntmps4
  go_wp2_with fail
  refine (paths_c _).mono ?_
  rintro e w1 ⟨rfl, hb1⟩
  go_wp2_with fail
  refine (Gives.calls (args := [.slice A0 n0 cap0]) (y := .int .i64 0) HP.out (fun b o hbo => ?_)).mono ?_
  · rw [hb1.block b (Array.getElem?_eq_some_iff.1 hbo).1]; exact hbo
  rintro e w2 ⟨rfl, hb2⟩
  have b2 : Hid (Below w.heap.size w w2) := show Below w.heap.size w w2 from hb1.trans (hb2.mono hb1.size)
  clear hb1 hb2
  have q1 : decide (100 < (n0 : Int)) = false := decide_eq_false (by omega)
  have q2 : ((n0 : Int) == 0) = false := by rw [beq_eq_false_iff_ne]; omega
  go_wp2_with fail
  refine (Gives.calls (args := [.slice A0 n0 cap0]) (y := .string T) HT.out (fun b o hbo => ?_)).mono ?_
  · rw [b2.out.block b (Array.getElem?_eq_some_iff.1 hbo).1]; exact hbo
  rintro e w3 ⟨rfl, hb3⟩
  have b3 : Hid (Below w.heap.size w w3) := show Below w.heap.size w w3 from b2.out.trans (hb3.mono b2.out.size)
  clear hb3 b2
  go_wp2_with fail
  rw [Lib.run_convert_string_bytes w3 9 30 5 T Tryd.underlying9 Tryd.underlying30 Tryd.underlying5]
  have hz4 := Lib.bytesWorld_size w3 5 T
  have hc4 := Lib.bytesWorld_cell w3 5 T
  have ho4 := Lib.bytesWorld_at_old w3 5 T
  have hn4 := Lib.bytesWorld_at_new w3 5 T
  have hos : (Lib.bytesWorld w3 5 T).os = w3.os ∧ (Lib.bytesWorld w3 5 T).tape = w3.tape ∧ (Lib.bytesWorld w3 5 T).output = w3.output := ⟨rfl, rfl, rfl⟩
  generalize grownCap w3 T.size 0 5 = cap at *
  generalize Lib.bytesCells w3 5 T = cs at *
  generalize Lib.bytesWorld w3 5 T = w4 at *
  go_wp2_with fail
  obtain ⟨hs1, hs2⟩ := hs1
  obtain ⟨k, hk, gk⟩ := cut_gives (x := a1) (h := (T.size : Int) - 1) (G := memOf w4) wf1 (by omega)
  refine (Gives.calls (args := [.int .i64 a1, .int .i64 0, .int .i64 ((T.size : Int) - 1)]) (y := .int .i64 k) gk (memOf_holds w4)).mono ?_
  rintro e w5 ⟨rfl, hb5⟩
  have hcell5 : ∀ j, j < T.size → w5.cell? ⟨w3.heap.size, j, none⟩ = some (.int .u8 (T.data.toList.getD j 0).toNat) := fun j hj => by
    rw [hb5.cell (p := ⟨w3.heap.size, j, none⟩) (by show w3.heap.size < _; omega)]
    exact hc4 j hj
  have hx := hcell5 k (by omega)
  have hfr : w5.frozen? ⟨w3.heap.size, k, none⟩ = false := by
    rw [hb5.frozen (p := ⟨w3.heap.size, k, none⟩) (by show w3.heap.size < _; omega)]
    unfold World.frozen?
    rw [hn4]
    have := hc4 k (by omega)
    unfold World.cell? at this
    rw [hn4] at this
    have hk2 := (Array.getElem?_eq_some_iff.1 (show cs[k]? = some _ from this)).1
    show (decide (cs.size ≤ k) && decide (k < cs.size + 1)) = false
    rw [decide_eq_false (by omega)]; rfl
  have HC : Hid _ := hcell5
  clear gk hc4 hn4 hcell5
  go_wp2_with fail
  have hwf : 0 ≤ a2 ∧ a2 ≤ 255 := by
    have : IntKind.u8.min ≤ a2 ∧ a2 ≤ IntKind.u8.max := by simpa [Lit.wf] using wf2
    exact this
  have hz5 := hb5.size
  have b6 : Hid (Below w.heap.size w (w5.setCell ⟨w3.heap.size, k, none⟩ (.int .u8 a2))) := show Below _ _ _ from
    ((b3.out.trans (b := w3) ⟨hos.1, hos.2.1, hos.2.2, by rw [hz4]; have := b3.out.size; omega, fun j hj => ho4 j (by have := b3.out.size; omega)⟩).trans (hb5.mono (by rw [hz4]; have := b3.out.size; omega))).setCell (by show w.heap.size ≤ w3.heap.size; exact b3.out.size) _
  have hc6 : ∀ j (hj : j < (T.data.toList.set k (UInt8.ofNat a2.toNat)).length), (w5.setCell ⟨w3.heap.size, k, none⟩ (.int .u8 a2)).cell? (Addr.add ⟨w3.heap.size, 0, none⟩ j) = some (.int .u8 ((T.data.toList.set k (UInt8.ofNat a2.toNat))[j].toNat : Int)) := fun j hj => by
    rw [List.length_set] at hj
    have hplain : (⟨w3.heap.size, 0, none⟩ : Addr).add j = ⟨w3.heap.size, j, none⟩ := by unfold Addr.add; split <;> simp_all
    rw [hplain]
    by_cases hjk : j = k
    · subst hjk
      rw [World.cell?_setCell_same _ _ _ hx]
      simp
      omega
    · rw [World.cell?_setCell_other]
      · rw [HC.out j (by simpa using hj), List.getElem_set_ne (fun h => hjk h.symm), List.getD_eq_getElem?_getD, List.getElem?_eq_getElem hj]
        rfl
      · intro h; exact hjk (congrArg Addr.off h).symm
  have hlen : (T.data.toList.set k (UInt8.ofNat a2.toNat)).length = T.size := by simp
  generalize T.data.toList.set k (UInt8.ofNat a2.toNat) = l at *
  have hz6 : (w5.setCell ⟨w3.heap.size, k, none⟩ (.int .u8 a2)).heap.size = w5.heap.size := by simp
  generalize w5.setCell ⟨w3.heap.size, k, none⟩ (.int .u8 a2) = w6 at *
  have conv : ∀ w', (∀ j (hj : j < l.length), w'.cell? (Addr.add ⟨w3.heap.size, 0, none⟩ j) = some (.int .u8 (l[j].toNat : Int))) → (convert 30 9 (.slice (some ⟨w3.heap.size, 0, none⟩) T.size cap)).run Tryd.prog w' = .ok (.string ⟨l.toArray⟩) w' := fun w' h => by
    have := run_convert_bytes_back w' 30 9 5 ⟨w3.heap.size, 0, none⟩ cap l Tryd.underlying30 Tryd.underlying5 Tryd.underlying9 h
    rw [hlen] at this
    exact this
  rw [conv w6 hc6]
  have CV : Hid _ := conv
  have C6 : Hid _ := hc6
  clear conv hc6 HC hx hfr
  have hs6 : (⟨l.toArray⟩ : ByteArray).size ≤ 100000 := by
    have : (⟨l.toArray⟩ : ByteArray).size = l.length := by simp [ByteArray.size]
    omega
  generalize (⟨l.toArray⟩ : ByteArray) = s at *
  have hM6 : MaxM (memOf w6) := by
    obtain ⟨m, hm⟩ := hM
    exact ⟨m, (mem_below b6.out).cell hm⟩
  have C7 : Hid (∀ w7, Below w6.heap.size w6 w7 → ∀ j (hj : j < l.length), w7.cell? (Addr.add ⟨w3.heap.size, 0, none⟩ j) = some (.int .u8 (l[j].toNat : Int))) := fun w7 hb j hj => by
    rw [← C6.out j hj]
    have hplain : (⟨w3.heap.size, 0, none⟩ : Addr).add j = ⟨w3.heap.size, j, none⟩ := by unfold Addr.add; split <;> simp_all
    rw [hplain]
    exact hb.cell (p := ⟨w3.heap.size, j, none⟩) (by show w3.heap.size < _; omega)
  have HM : Hid _ := hM6
  clear hM6 C6
  obtain ⟨R, hR⟩ := reads_some s.data.toList
  cases R with
  | none =>
    have G1 : Hid _ := fun w7 (hw : (memOf w6).holds w7) => Gives.calls (args := [.string s]) (y := .tuple #[.slice none 0 0, .int .i64 5]) (gives_pair (Parse_none HM.out hs6 hR)) hw
    have G2 : Hid _ := fun w7 => Gives.calls (args := [.string s]) (y := .tuple #[.slice none 0 0, .int .i64 5]) (gives_pair (RParse_none (G := memOf w7) hs6 hR)) (memOf_holds w7)
    have G3 : Hid _ := fun w7 => Gives.calls (args := [.slice none 0 0, .slice none 0 0]) (y := .bool true) (SameSegs_gives (G := memOf w7) (A := none) (B := none) (S := segsF []) (n := 0) (c := 0) (d := 0) ElsM.none ElsM.none (by omega)) (memOf_holds w7)
    clear hR
    go_wp2_with fail
    refine (G1.out w6 (memOf_holds w6)).mono ?_
    rintro e w7 ⟨rfl, hb7⟩
    go_wp2_with fail
    rw [CV.out w7 (C7.out w7 hb7)]
    go_wp2_with fail
    refine (G2.out w7).mono ?_
    rintro e w8 ⟨rfl, hb8⟩
    go_wp2_with fail
    refine (G3.out w8).mono ?_
    rintro e w9 ⟨rfl, hb9⟩
    go_wp2_with fail
    go_ret
    exact ⟨rfl, ((b6.out.trans (hb7.mono b6.out.size)).trans (hb8.mono (Nat.le_trans b6.out.size hb7.size))).trans (hb9.mono (Nat.le_trans (Nat.le_trans b6.out.size hb7.size) hb8.size))⟩
  | some L =>
    by_cases hpe : pathE (segsF L) L.length = 0
    · have hsm := pathE_small hpe
      have G1 : Hid _ := row_calls (w := w6) (Parse_makes HM.out hs6 hR hpe) (memOf_holds w6)
      have G2 : Hid _ := fun w7 => row_calls (w := w7) (RParse_makes (G := memOf w7) hs6 hR hpe) (memOf_holds w7)
      clear hR
      go_wp2_with fail
      refine Calls.mono G1.out ?_
      rintro e w7 ⟨B, c7, rfl, hb7, hs7⟩
      have S7 : Hid _ := hs7
      clear hs7
      go_wp2_with fail
      rw [CV.out w7 (C7.out w7 hb7)]
      go_wp2_with fail
      refine (G2.out w7).mono ?_
      rintro e w8 ⟨C, c8, rfl, hb8, hs8⟩
      have G3 : Hid _ := Gives.calls (args := [.slice B L.length c7, .slice C L.length c8]) (y := .bool true) (SameSegs_gives (G := memOf w8) (c := c7) (d := c8) (S7.out.mono (mem_below hb8)) hs8 hsm) (memOf_holds w8)
      clear hs8
      go_wp2_with fail
      refine Calls.mono G3.out ?_
      rintro e w9 ⟨rfl, hb9⟩
      go_wp2_with fail
      go_ret
      exact ⟨rfl, ((b6.out.trans (hb7.mono b6.out.size)).trans (hb8.mono (Nat.le_trans b6.out.size hb7.size))).trans (hb9.mono (Nat.le_trans (Nat.le_trans b6.out.size hb7.size) hb8.size))⟩
    · have G1 : Hid _ := fun w7 (hw : (memOf w6).holds w7) => Gives.calls (args := [.string s]) (y := .tuple #[.slice none 0 0, .int .i64 (pathE (segsF L) L.length)]) (gives_pair (Parse_err HM.out hs6 hR hpe)) hw
      have G2 : Hid _ := fun w7 => Gives.calls (args := [.string s]) (y := .tuple #[.slice none 0 0, .int .i64 (pathE (segsF L) L.length)]) (gives_pair (RParse_err (G := memOf w7) hs6 hR hpe)) (memOf_holds w7)
      have G3 : Hid _ := fun w7 => Gives.calls (args := [.slice none 0 0, .slice none 0 0]) (y := .bool true) (SameSegs_gives (G := memOf w7) (A := none) (B := none) (S := segsF []) (n := 0) (c := 0) (d := 0) ElsM.none ElsM.none (by omega)) (memOf_holds w7)
      clear hR hpe
      generalize pathE (segsF L) L.length = E at *
      have qE : (E == E) = true := by simp
      go_wp2_with fail
      refine (G1.out w6 (memOf_holds w6)).mono ?_
      rintro e w7 ⟨rfl, hb7⟩
      go_wp2_with fail
      rw [CV.out w7 (C7.out w7 hb7)]
      go_wp2_with fail
      refine (G2.out w7).mono ?_
      rintro e w8 ⟨rfl, hb8⟩
      go_wp2_with fail
      refine (G3.out w8).mono ?_
      rintro e w9 ⟨rfl, hb9⟩
      go_wp2_with fail
      go_ret
      exact ⟨rfl, ((b6.out.trans (hb7.mono b6.out.size)).trans (hb8.mono (Nat.le_trans b6.out.size hb7.size))).trans (hb9.mono (Nat.le_trans (Nat.le_trans b6.out.size hb7.size) hb8.size))⟩
theorem walk_out (A0 : Option Addr) (n0 : Nat) (cap0 : Nat) (S : Nat → SegD) (a1 a2 : Int) (w : World) (c0 : n0 ≤ cap0) (m0 : cap0 ≤ maxLen) (h : SegsM (memOf w) A0 n0 S) (ho : ¬ (pathE S n0 = 0 ∧ 0 < n0 ∧ n0 ≤ 100)) :
    Calls Tryd.prog 4 #[.slice A0 n0 cap0, .int .i64 a1, .int .u8 a2] w fun e w' => e = .returned (.bool true) ∧ Below w.heap.size w w' := by
  have gp := RPCheck_gives (c := cap0) h (Nat.le_trans c0 m0)
  have h' : bodyV Tryd.prog tab 0 Tryd.f4 [.val (.slice A0 n0 cap0), .val (.int .i64 a1), .val (.int .u8 a2)] [] (memOf w) fun v _ _ => v = .val (.bool true) := by
    rcases Nat.lt_or_ge 100 n0 with h1 | h1
    · (repeat ((try (conv => whnf)); (first | (with_reducible refine condP_true ?_) | (with_reducible refine condP_false ?_) | (with_reducible refine condP_not ?_) | (with_reducible refine condP_and ?_) | ((with_reducible refine condP_dt ?_ ?_); (· omega)) | ((with_reducible refine condP_df ?_ ?_); (· omega)) | ((with_reducible refine condP_yes ?_ ?_); (· assumption)) | ((with_reducible refine condP_no ?_ ?_); (· assumption)) | ((with_reducible refine ArP_i64 ?_ ?_); (· omega)) | ((with_reducible refine mustP.mk ?_ ?_); (· first | omega | rfl | (dsimp only; omega))) | (with_reducible refine EqP_nil tab_ok ?_) | (with_reducible refine EqP_sli tab_ok ?_) | (with_reducible refine DrawP_auto tab_ok (by kernel_rfl) (by decide +kernel) ?_) | (with_reducible refine DrawP_auto2 tab_ok (by kernel_rfl) (by decide +kernel) ?_) | (with_reducible refine eq45 ?_) | (with_reducible refine eq62 ?_) | (with_reducible refine eq100 ?_) | (with_reducible refine CallP_gives (fun vs w => by kernel_rfl) (by kernel_rfl) (paths_gives) ?_) | (with_reducible refine RCallP_gives (fun vs w => by kernel_rfl) (by kernel_rfl) (paths_gives) ?_) | (with_reducible refine CallP_gives (fun vs w => by kernel_rfl) (by kernel_rfl) (gp) ?_) | (with_reducible refine RCallP_gives (fun vs w => by kernel_rfl) (by kernel_rfl) (gp) ?_))))
      conv => whnf
      try simp
    · by_cases hp : pathE S n0 = 0
      · rw [hp] at gp
        have h0 : n0 = 0 := by omega
        (repeat ((try (conv => whnf)); (first | (with_reducible refine condP_true ?_) | (with_reducible refine condP_false ?_) | (with_reducible refine condP_not ?_) | (with_reducible refine condP_and ?_) | ((with_reducible refine condP_dt ?_ ?_); (· omega)) | ((with_reducible refine condP_df ?_ ?_); (· omega)) | ((with_reducible refine condP_yes ?_ ?_); (· assumption)) | ((with_reducible refine condP_no ?_ ?_); (· assumption)) | ((with_reducible refine ArP_i64 ?_ ?_); (· omega)) | ((with_reducible refine mustP.mk ?_ ?_); (· first | omega | rfl | (dsimp only; omega))) | (with_reducible refine EqP_nil tab_ok ?_) | (with_reducible refine EqP_sli tab_ok ?_) | (with_reducible refine DrawP_auto tab_ok (by kernel_rfl) (by decide +kernel) ?_) | (with_reducible refine DrawP_auto2 tab_ok (by kernel_rfl) (by decide +kernel) ?_) | (with_reducible refine eq45 ?_) | (with_reducible refine eq62 ?_) | (with_reducible refine eq100 ?_) | (with_reducible refine CallP_gives (fun vs w => by kernel_rfl) (by kernel_rfl) (paths_gives) ?_) | (with_reducible refine RCallP_gives (fun vs w => by kernel_rfl) (by kernel_rfl) (paths_gives) ?_) | (with_reducible refine CallP_gives (fun vs w => by kernel_rfl) (by kernel_rfl) (gp) ?_) | (with_reducible refine RCallP_gives (fun vs w => by kernel_rfl) (by kernel_rfl) (gp) ?_))))
        conv => whnf
        try simp
      · generalize pathE S n0 = E at *
        (repeat ((try (conv => whnf)); (first | (with_reducible refine condP_true ?_) | (with_reducible refine condP_false ?_) | (with_reducible refine condP_not ?_) | (with_reducible refine condP_and ?_) | ((with_reducible refine condP_dt ?_ ?_); (· omega)) | ((with_reducible refine condP_df ?_ ?_); (· omega)) | ((with_reducible refine condP_yes ?_ ?_); (· assumption)) | ((with_reducible refine condP_no ?_ ?_); (· assumption)) | ((with_reducible refine ArP_i64 ?_ ?_); (· omega)) | ((with_reducible refine mustP.mk ?_ ?_); (· first | omega | rfl | (dsimp only; omega))) | (with_reducible refine EqP_nil tab_ok ?_) | (with_reducible refine EqP_sli tab_ok ?_) | (with_reducible refine DrawP_auto tab_ok (by kernel_rfl) (by decide +kernel) ?_) | (with_reducible refine DrawP_auto2 tab_ok (by kernel_rfl) (by decide +kernel) ?_) | (with_reducible refine eq45 ?_) | (with_reducible refine eq62 ?_) | (with_reducible refine eq100 ?_) | (with_reducible refine CallP_gives (fun vs w => by kernel_rfl) (by kernel_rfl) (paths_gives) ?_) | (with_reducible refine RCallP_gives (fun vs w => by kernel_rfl) (by kernel_rfl) (paths_gives) ?_) | (with_reducible refine CallP_gives (fun vs w => by kernel_rfl) (by kernel_rfl) (gp) ?_) | (with_reducible refine RCallP_gives (fun vs w => by kernel_rfl) (by kernel_rfl) (gp) ?_))))
        conv => whnf
        try simp
  exact walk_of tab_ok Tryd.func4 (rels_map_val (β := noName) [.slice A0 n0 cap0, .int .i64 a1, .int .u8 a2]) h'
theorem walk (A0 : Option Addr) (n0 : Nat) (cap0 : Nat) (f0 : Nat → Nat → Int) (a1 : Int) (a2 : Int) (w : World) (c0 : n0 ≤ cap0) (m0 : cap0 ≤ maxLen) (w0 : RecsAt .i64 w A0 n0 6 f0) (z0 : RecsIn .i64 n0 6 f0) (w1 : (Lit.int .i64 a1).wf = true) (w2 : (Lit.int .u8 a2).wf = true) (hM : ∃ m : Int, w.cell? ⟨0, 0, none⟩ = some (.int .i64 m)) :
    Calls Tryd.prog 4 #[.slice A0 n0 cap0, .int .i64 a1, .int .u8 a2] w fun e w' => e = .returned (.bool true) ∧ Below w.heap.size w w' := by
  have h := segs_m w0
  by_cases ho : pathE (segD f0) n0 = 0 ∧ 0 < n0 ∧ n0 ≤ 100
  · exact walk_in A0 n0 cap0 (segD f0) a1 a2 w c0 m0 h ho.1 ho.2.1 ho.2.2 w1 w2 (max_m hM)
  · exact walk_out A0 n0 cap0 (segD f0) a1 a2 w c0 m0 h ho
end Go.Proofs.YtdakcfggecpjjaaDoor.pathParseDamaged
