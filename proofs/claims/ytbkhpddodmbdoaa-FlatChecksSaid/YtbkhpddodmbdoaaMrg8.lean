/-
  Merged: XEz, XPut.
-/
import Derived.Test.YtbkhpddodmbdoaaEng2
import Derived.Test.YtbkhpddodmbdoaaMrg7
import Derived.Test.YtbkhpddodmbdoaaMrg5
namespace Go.Proofs.Ytbkhpddodmbdoaa
open Go.RowKit
set_option linter.unusedVariables false
set_option linter.unusedSimpArgs false
set_option linter.unnecessarySimpa false

/-- A loop whose state is told by two things, by three. -/
theorem LoopP_at2 {P : Program} {T : Tab} (hT : TOk P T) {n0 : Nat} {b : Code} {fr : List AV} {hp : List Blk} {G : Mem} {Q : Post} {ι κ : Type} (inv : ι → κ → Prop) (S : ι → κ → List (Nat × AV)) (H : ι → κ → List Blk) (μ : ι → κ → Nat) (i0 : ι) (k0 : κ) (h0 : inv i0 k0)
    (start : Le n0 fr hp G (headFr b fr (S i0 k0)) (H i0 k0) G)
    (round : ∀ i k, inv i k → natsF (written b []) fun ws => havocF ws 0 fr fun fr1 => setAllF fr1 (S i k) fun fr2 => vcode P T n0 b fr2 (H i k) G fun e fr' hp' G' => match e with
      | .normal => ∃ i' k', inv i' k' ∧ μ i' k' < μ i k ∧ Le n0 fr' hp' G' (headFr b fr (S i' k')) (H i' k') G
      | e => Q e fr' hp' G') : LoopP P n0 b fr hp G Q := by
  refine LoopP_mk hT (fun i : ι × κ => inv i.1 i.2) (fun i => headFr b fr (S i.1 i.2)) (fun i => H i.1 i.2) (fun _ => G) (fun i => μ i.1 i.2) ⟨(i0, k0), h0, start⟩ fun i hi => ?_
  have h := round i.1 i.2 hi
  rw [natsF_eq, havocF_eq, setAllF_eq] at h
  refine cast (congrArg _ ?_) h
  funext e fr' hp' G'
  cases e with
  | normal => exact propext ⟨fun ⟨i', k', h1, h2, h3⟩ => ⟨(i', k'), h1, h2, h3⟩, fun ⟨p, h1, h2, h3⟩ => ⟨p.1, p.2, h1, h2, h3⟩⟩
  | _ => rfl
theorem LoopP_at3 {P : Program} {T : Tab} (hT : TOk P T) {n0 : Nat} {b : Code} {fr : List AV} {hp : List Blk} {G : Mem} {Q : Post} {ι κ ν : Type} (inv : ι → κ → ν → Prop) (S : ι → κ → ν → List (Nat × AV)) (H : ι → κ → ν → List Blk) (μ : ι → κ → ν → Nat) (i0 : ι) (k0 : κ) (m0 : ν) (h0 : inv i0 k0 m0)
    (start : Le n0 fr hp G (headFr b fr (S i0 k0 m0)) (H i0 k0 m0) G)
    (round : ∀ i k m, inv i k m → natsF (written b []) fun ws => havocF ws 0 fr fun fr1 => setAllF fr1 (S i k m) fun fr2 => vcode P T n0 b fr2 (H i k m) G fun e fr' hp' G' => match e with
      | .normal => ∃ i' k' m', inv i' k' m' ∧ μ i' k' m' < μ i k m ∧ Le n0 fr' hp' G' (headFr b fr (S i' k' m')) (H i' k' m') G
      | e => Q e fr' hp' G') : LoopP P n0 b fr hp G Q := by
  refine LoopP_at2 hT (fun (i : ι) (q : κ × ν) => inv i q.1 q.2) (fun i q => S i q.1 q.2) (fun i q => H i q.1 q.2) (fun i q => μ i q.1 q.2) i0 (k0, m0) h0 start fun i q hi => ?_
  have h := round i q.1 q.2 hi
  rw [natsF_eq, havocF_eq, setAllF_eq] at h ⊢
  refine cast (congrArg _ ?_) h
  funext e fr' hp' G'
  cases e with
  | normal => exact propext ⟨fun ⟨i', k', m', h1, h2, h3⟩ => ⟨i', (k', m'), h1, h2, h3⟩, fun ⟨i', p, h1, h2, h3⟩ => ⟨i', p.1, p.2, h1, h2, h3⟩⟩
  | _ => rfl
/-- All that stands, but for one block. -/
def memBut (w : World) (o : Option Nat) : Mem := fun b => if o = some b then none else w.heap[b]?
theorem Takes_of {P : Program} {T : Tab} (hT : TOk P T) {f : FuncId} {fn : Func} (hfn : P.funcs[f]? = some fn) {post : List AV} {G : Mem} {E : TypeId} {sz n : Nat} {xs : List Value} {n' : Nat} {xs' : List Value} (hn' : 0 < n')
    (h : ∀ G', G.le G' → bodyV P T 1 fn (.own 0 :: post) [.own E sz n xs] G' fun v hp' _ => ∃ k, v = .own k ∧ nthB hp' k = .own E sz n' xs') : Takes P f post G E sz n xs n' xs' := by
  intro base w v ts hG hown hbase hfree hts
  have hle : G.le (memBut w (blkOf v)) := fun b o hb => by
    unfold memBut
    by_cases h1 : blkOf v = some b
    · rw [hfree b h1] at hb; cases hb
    · rw [if_neg h1]; exact hG b o hb
  have hmb : ∀ b o, memBut w (blkOf v) b = some o → w.heap[b]? = some o := fun b o hb => by
    unfold memBut at hb
    split at hb
    · cases hb
    · exact hb
  have hsl := ownsRow_sl hown
  have hw0 : Below base {w with heap := w.heap.extract 0 base} w := by
    refine ⟨rfl, rfl, rfl, ?_, fun k hk => ?_⟩
    · simp; omega
    · show w.heap[k]? = (w.heap.extract 0 base)[k]?
      rw [Array.getElem?_extract]; simp; intro h; omega
  have hsz : ({w with heap := w.heap.extract 0 base} : World).heap.size = base := by
    show (w.heap.extract 0 base).size = base
    simp; omega
  have hr : HR {w with heap := w.heap.extract 0 base} (memBut w (blkOf v)) (fun k => if k = 0 then some v else none) [.own E sz n xs] (memBut w (blkOf v)) w := by
    refine ⟨by rw [hsz]; exact hw0, hmb, Mem.le_refl _, fun b o hb => .inl hb, fun k y hk => ?_, fun k k' y y' x x' b hne hk hk' => ?_, fun k S hk => (by cases k <;> simp at hk)⟩
    · by_cases h0 : k = 0
      · subst h0
        simp at hk; subst hk
        refine ⟨_, rfl, ?_⟩
        rw [hsz]
        refine ⟨hown, fun g hg => ?_⟩
        unfold memBut; rw [if_pos hg]
      · simp [h0] at hk
    · by_cases h0 : k = 0
      · have : k' ≠ 0 := by omega
        simp [this] at hk'
      · simp [h0] at hk
  refine (bodyV_ok hT hfn (hp := [.own E sz n xs]) (h _ hle) (.inr fun _ _ _ _ _ h => h) _ _ _ w (v :: ts).toArray hr ?_).mono ?_
  · simp only [AV.rels]
    refine ⟨v, ts, rfl, ?_, AV.rels_mono (noName_le _) _ _ hts⟩
    simp only [AV.rel]; exact ⟨by simp, hsl⟩
  · rintro e w' ⟨y, β', v', hp', G', rfl, h1, h2, h3, k, rfl, hk⟩
    simp only [AV.rel] at h3
    obtain ⟨x, hx1, hx2⟩ := h2.blk k y h3.1
    rw [nthB_live hk rfl] at hx1; cases hx1
    rw [hsz] at hx2
    have hold : ∀ b, b < w.heap.size → blkOf v ≠ some b → w'.heap[b]? = w.heap[b]? ∧ ∃ o, G' b = some o := fun b hb hne => by
      have h4 : memBut w (blkOf v) b = some w.heap[b] := by unfold memBut; rw [if_neg hne]; exact Array.getElem?_eq_getElem hb
      have h5 := h2.sub b _ h4
      exact ⟨by rw [h2.hold b _ h5, Array.getElem?_eq_getElem hb], _, h5⟩
    have hat : ∀ b, blkOf y = some b → w.heap.size ≤ b ∨ blkOf v = some b := fun b hb => by
      by_cases h4 : w.heap.size ≤ b
      · exact .inl h4
      · right
        apply Classical.byContradiction
        intro hne
        obtain ⟨_, o, h5⟩ := hold b (by omega) hne
        rw [hx2.2 b hb] at h5; cases h5
    refine ⟨y, rfl, hx2.1, ⟨h2.below.os, h2.below.tape, h2.below.output, ?_, fun b hb hne => (hold b hb (fun e => hne e.symm)).1⟩, hat⟩
    rcases Nat.eq_zero_or_pos w.heap.size with h0 | h0
    · omega
    · by_cases h4 : blkOf v = some (w.heap.size - 1)
      · rcases hx2.1.2 with ⟨_, h5⟩ | ⟨g, cap, cur, rfl, h5, h6, _⟩
        · omega
        · have h7 := (Array.getElem?_eq_some_iff.1 h6).1
          rcases hat g rfl with h8 | h8
          · omega
          · rw [h4] at h8; cases h8; omega
      · have h5 := (hold (w.heap.size - 1) (by omega) h4).1
        rw [Array.getElem?_eq_getElem (show w.heap.size - 1 < w.heap.size by omega)] at h5
        have := (Array.getElem?_eq_some_iff.1 h5).1
        omega
theorem CallP_takes {P : Program} {f : FuncId} (hen : ∀ vs w, (callFunc f vs).run P w = .ok (.enter f vs) w) {k : Nat} {post : List AV} {hp : List Blk} {G : Mem} {K : AV → List Blk → Mem → Prop} {E : TypeId} {sz n : Nat} {xs : List Value} {n' : Nat} {xs' : List Value}
    (hk : nthB hp k = .own E sz n xs) (hu : AV.unders 0 post = true) (hc : Takes P f post G E sz n xs n' xs') (h : setF hp k .gone fun hp1 => lenF hp1 fun q => catF hp1 [.own E sz n' xs'] fun hp' => K (.own q) hp' G) : CallP P f (.own k :: post) hp G K := by
  rw [setF_eq] at h
  have h0 := lenF_eq h
  rw [catF_eq] at h0
  refine ⟨hen, fun w0 G0 β w vs hr ha => ?_⟩
  simp only [AV.rels] at ha
  obtain ⟨v, ts, hvs, hv, hts⟩ := ha
  have e : vs = (v :: ts).toArray := by rw [← hvs]
  subst e
  simp only [AV.rel] at hv
  obtain ⟨x, hx1, hx2⟩ := hr.blk k v hv.1
  rw [nthB_live hk rfl] at hx1; cases hx1
  refine (hc w0.heap.size w v ts hr.hold hx2.1 hr.below.size hx2.2 (bare_rels hu hts)).mono ?_
  rintro e w' ⟨y, rfl, h1, h2, h3⟩
  have hlen : (hp.set k .gone).length = hp.length := by simp
  rw [hlen] at h0
  refine ⟨y, _, _, _, G, rfl, Nm.le_put y (hr.fresh (Nat.le_refl _)), hr.moveName hv.1 (nthB_live hk rfl) rfl h2 h3 rfl (u := .own E sz n' xs') ⟨h1, fun g hg => ?_⟩, by simp only [AV.rel]; exact ⟨Nm.put_same _ _ _, ownsRow_sl h1⟩, h0⟩
  rcases h3 g hg with h7 | h7
  · exact mem_new hr.hold h7
  · exact hx2.2 g h7
theorem TakeP_by {P : Program} {f : FuncId} {k : Nat} {post : List AV} {hp0 : List Blk} {G : Mem} {K : Blk → Prop} {E : TypeId} {sz n : Nat} {xs : List Value} {n' : Nat} {xs' : List Value} (hk : nthB hp0 k = .own E sz n xs) (he : ∀ vs w, (callFunc f vs).run P w = .ok (.enter f vs) w) (hu : AV.unders 0 post = true) (hc : Takes P f post G E sz n xs n' xs') (h : K (.own E sz n' xs')) : TakeP P f k post hp0 G K :=
  .mk E sz n xs n' xs' hk he hu hc h
end Go.Proofs.Ytbkhpddodmbdoaa

namespace Go.Proofs.Ytbkhpddodmbdoaa
open Go.RowKit
set_option linter.unusedVariables false
set_option maxRecDepth 20000
def ints (l : List Int) : List Value := l.map (.int .i64)
theorem ints_get {l : List Int} {i : Nat} {z : Int} (h : l[i]? = some z) : (ints l)[i]? = some (.int .i64 z) := by simp [ints, h]
theorem ints_nat {l : List Int} {i : Nat} {z : Int} (h : l[i]? = some z) : (ints l)[(i : Int).toNat * (⟨.int .i64, 1, 8, [.int .i64 0]⟩ : TI).size]? = some (.int .i64 z) := by
  rw [Int.toNat_natCast, Nat.mul_one]; exact ints_get h
theorem ints_next {l : List Int} {i : Nat} {z : Int} (h : l[i + 1]? = some z) : (ints l)[((i : Int) + 1).toNat * (⟨.int .i64, 1, 8, [.int .i64 0]⟩ : TI).size]? = some (.int .i64 z) := by
  rw [show ((i : Int) + 1).toNat = i + 1 by omega, Nat.mul_one]; exact ints_get h
theorem ints_length (l : List Int) : (ints l).length = l.length := by simp [ints]
theorem put_row {l : List Int} {x : Int} {i : Nat} (hi : i ≤ l.length) (a : Value) : ((((ints l ++ [a]).take (i + 1) ++ ints (l.drop i) ++ (ints l ++ [a]).drop (i + 1 + (ints (l.drop i)).length)).take i ++ [.int .i64 x] ++ ((ints l ++ [a]).take (i + 1) ++ ints (l.drop i) ++ (ints l ++ [a]).drop (i + 1 + (ints (l.drop i)).length)).drop (i + 1))) = ints (l.take i ++ x :: l.drop i) := by
  have e1 : (ints l ++ [a]).drop (i + 1 + (ints (l.drop i)).length) = [] := by
    apply List.drop_eq_nil_of_le; simp [ints]; omega
  rw [e1, List.append_nil]
  have e2 : ((ints l ++ [a]).take (i + 1)).length = i + 1 := by simp [ints]; omega
  rw [List.take_append_of_le_length (by omega), List.drop_append_of_le_length (by omega), List.drop_of_length_le (by omega)]
  rw [List.take_take, show min i (i + 1) = i by omega, List.take_append_of_le_length (by simp [ints]; omega)]
  simp [ints]
theorem ints_drop {l : List Int} {i j : Nat} {v : Value} {r : List Value} (h : (ints (l.drop i))[j]? = some v) : (ints l ++ r)[(i : Int).toNat * 1 + j]? = some v := by
  have hj := (List.getElem?_eq_some_iff.1 h).1
  simp only [ints_length, List.length_drop] at hj
  rw [List.getElem?_append_left (by simp [ints_length]; omega)]
  simp only [ints, List.getElem?_map, List.getElem?_drop] at h ⊢
  rw [← h]; congr 2; omega
theorem ints_cell {l : List Int} : ∀ v ∈ ints l, v.oneCell' = true := fun v hv => by
  simp only [ints, List.mem_map] at hv
  obtain ⟨z, _, rfl⟩ := hv; rfl
theorem put_room {l : List Int} {i : Nat} {x : Int} (hi : i ≤ l.length) : (i : Int).toNat * 1 + [Value.int .i64 x].length ≤ ((ints l ++ [Value.int .i64 0]).take (((i : Int) + 1).toNat * 1) ++ ints (l.drop i) ++ (ints l ++ [Value.int .i64 0]).drop (((i : Int) + 1).toNat * 1 + (ints (l.drop i)).length)).length := by
  simp only [List.length_append, List.length_take, List.length_drop, ints_length, List.length_singleton]; omega
theorem put_fin {l : List Int} {i : Nat} {x : Int} (hi : i ≤ l.length) (hins : ins x l = l.take i ++ x :: l.drop i) :
    Blk.own 3 1 (l.length + 1) (((ints l ++ [Value.int .i64 0]).take (((i : Int) + 1).toNat * 1) ++ ints (l.drop i) ++ (ints l ++ [Value.int .i64 0]).drop (((i : Int) + 1).toNat * 1 + (ints (l.drop i)).length)).take ((i : Int).toNat * 1) ++ [.int .i64 x] ++ ((ints l ++ [Value.int .i64 0]).take (((i : Int) + 1).toNat * 1) ++ ints (l.drop i) ++ (ints l ++ [Value.int .i64 0]).drop (((i : Int) + 1).toNat * 1 + (ints (l.drop i)).length)).drop ((i : Int).toNat * 1 + [Value.int .i64 x].length)) =
      .own 3 1 (ins x l).length (ints (ins x l)) := by
  rw [show (((i : Int) + 1).toNat * 1) = i + 1 by omega, show ((i : Int).toNat * 1) = i by omega, List.length_singleton, put_row hi, hins]
  have e : l.length + 1 = (l.take i ++ x :: l.drop i).length := by simp; omega
  rw [e]
theorem ins_pos (x : Int) (l : List Int) : 0 < (ins x l).length := by
  cases l with
  | nil => simp [ins]
  | cons a l => unfold ins; split <;> (try split) <;> simp
set_option maxHeartbeats 1000000 in
theorem put_takes (l : List Int) (x : Int) (G : Mem) (hl : l.length ≤ 4000000000) : Takes Try.prog 46 [.val (.int .i64 x)] G 3 1 l.length (ints l) (ins x l).length (ints (ins x l)) := by
  refine Takes_of tab_ok Try.func46 (ins_pos x l) fun G' _ => ?_
  (repeat ((try (conv => whnf)); (first | (with_reducible first | refine condP_true ?_ | refine condP_false ?_ | refine condP_not ?_ | refine condP_and ?_) | ((with_reducible refine condP_dt ?_ ?_); (· omega)) | ((with_reducible refine condP_df ?_ ?_); (· omega)) | ((with_reducible refine condP_yes ?_ ?_); (· assumption)) | ((with_reducible refine condP_no ?_ ?_); (· assumption)) | ((with_reducible refine ArP_i64 ?_ ?_); (· omega)) | ((with_reducible refine mustP.mk ?_ ?_); (· first | omega | rfl | (dsimp only; omega))) | (with_reducible first | refine EqP_nil tab_ok ?_ | refine EqP_sli tab_ok ?_ | refine DrawP_auto tab_ok (by kernel_rfl) (by decide +kernel) ?_ | refine DrawP_auto2 tab_ok (by kernel_rfl) (by decide +kernel) ?_ | refine eq27 ?_ | refine eq44 ?_ | refine eq54 ?_ | refine eq76 ?_ | refine eq134 ?_))))
  conv => whnf
  refine LoopP_at tab_ok (fun i => i ≤ l.length ∧ ∀ (j : Nat) z, j < i → l[j]? = some z → z < x) (fun (i : Nat) => [(5, .val (.int .i64 i))]) (fun i => [.own 3 1 l.length (ints l)]) (fun i => l.length - i) 0 ⟨Nat.zero_le _, fun j z hj => by omega⟩ ?_ ?_
  · ((refine Le_head ?_); (conv => whnf); (refine Le_mk (by rfl) (by rfl) ?_ ?_); (· (repeat (first | (with_reducible exact frLe_nil) | (with_reducible first | refine frLe_any ?_ | refine frLe_val ?_) | ((with_reducible refine frLe_eq rfl ?_ ?_); (· rfl)) | ((with_reducible refine frLe_val' (int_eq ?_) ?_ ?_); (· omega); (· rfl)) | ((with_reducible refine frLe_val' (int_eq ?_) ?_ ?_); (· simp only [Int.natCast_add, Int.natCast_one, Int.natCast_ofNat] <;> omega); (· rfl)) | ((with_reducible refine frLe_val' (bool_eq ?_) ?_ ?_); (· first | assumption | (symm; assumption)); (· rfl))))))
    exact hpLe_own rfl rfl hpLe_nil
  · rintro i ⟨hi, hlt⟩
    rcases Nat.lt_or_ge i l.length with h1 | h1
    · obtain ⟨z, hz⟩ : ∃ z, l[i]? = some z := ⟨l[i], List.getElem?_eq_getElem h1⟩
      by_cases hzx : z < x
      · (repeat ((try (conv => whnf)); (first | (with_reducible first | refine condP_true ?_ | refine condP_false ?_ | refine condP_not ?_ | refine condP_and ?_) | ((with_reducible refine condP_dt ?_ ?_); (· omega)) | ((with_reducible refine condP_df ?_ ?_); (· omega)) | ((with_reducible refine condP_yes ?_ ?_); (· assumption)) | ((with_reducible refine condP_no ?_ ?_); (· assumption)) | ((with_reducible refine ArP_i64 ?_ ?_); (· omega)) | ((with_reducible refine mustP.mk ?_ ?_); (· first | omega | rfl | (dsimp only; omega))) | (with_reducible first | refine EqP_nil tab_ok ?_ | refine EqP_sli tab_ok ?_ | refine DrawP_auto tab_ok (by kernel_rfl) (by decide +kernel) ?_ | refine DrawP_auto2 tab_ok (by kernel_rfl) (by decide +kernel) ?_ | refine eq27 ?_ | refine eq44 ?_ | refine eq54 ?_ | refine eq76 ?_ | refine eq134 ?_))))
        conv => whnf
        refine OwnCells_one (.int .i64 z) (by rw [Int.toNat_natCast, Nat.mul_one]; exact ints_get hz) ?_
        (repeat ((try (conv => whnf)); (first | (with_reducible first | refine condP_true ?_ | refine condP_false ?_ | refine condP_not ?_ | refine condP_and ?_) | ((with_reducible refine condP_dt ?_ ?_); (· omega)) | ((with_reducible refine condP_df ?_ ?_); (· omega)) | ((with_reducible refine condP_yes ?_ ?_); (· assumption)) | ((with_reducible refine condP_no ?_ ?_); (· assumption)) | ((with_reducible refine ArP_i64 ?_ ?_); (· omega)) | ((with_reducible refine mustP.mk ?_ ?_); (· first | omega | rfl | (dsimp only; omega))) | (with_reducible first | refine EqP_nil tab_ok ?_ | refine EqP_sli tab_ok ?_ | refine DrawP_auto tab_ok (by kernel_rfl) (by decide +kernel) ?_ | refine DrawP_auto2 tab_ok (by kernel_rfl) (by decide +kernel) ?_ | refine eq27 ?_ | refine eq44 ?_ | refine eq54 ?_ | refine eq76 ?_ | refine eq134 ?_))))
        refine ⟨i + 1, ⟨by omega, fun j q hj hq => ?_⟩, by omega, ?_⟩
        · rcases Nat.lt_or_ge j i with h2 | h2
          · exact hlt j q h2 hq
          · have : j = i := by omega
            subst this; rw [hz] at hq; cases hq; exact hzx
        · ((refine Le_head ?_); (conv => whnf); (refine Le_mk (by rfl) (by rfl) ?_ ?_); (· (repeat (first | (with_reducible exact frLe_nil) | (with_reducible first | refine frLe_any ?_ | refine frLe_val ?_) | ((with_reducible refine frLe_eq rfl ?_ ?_); (· rfl)) | ((with_reducible refine frLe_val' (int_eq ?_) ?_ ?_); (· omega); (· rfl)) | ((with_reducible refine frLe_val' (int_eq ?_) ?_ ?_); (· simp only [Int.natCast_add, Int.natCast_one, Int.natCast_ofNat] <;> omega); (· rfl)) | ((with_reducible refine frLe_val' (bool_eq ?_) ?_ ?_); (· first | assumption | (symm; assumption)); (· rfl))))))
          exact hpLe_own rfl rfl hpLe_nil
      · have hins := ins_at (x := x) hi hlt (fun q hq => by rw [hz] at hq; cases hq; exact hzx)
        rw [hz] at hins
        by_cases he : z = x
        · simp only [if_pos he] at hins
          (repeat ((try (conv => whnf)); (first | (with_reducible first | refine condP_true ?_ | refine condP_false ?_ | refine condP_not ?_ | refine condP_and ?_) | ((with_reducible refine condP_dt ?_ ?_); (· omega)) | ((with_reducible refine condP_df ?_ ?_); (· omega)) | ((with_reducible refine condP_yes ?_ ?_); (· assumption)) | ((with_reducible refine condP_no ?_ ?_); (· assumption)) | ((with_reducible refine ArP_i64 ?_ ?_); (· omega)) | ((with_reducible refine mustP.mk ?_ ?_); (· first | omega | rfl | (dsimp only; omega))) | (with_reducible first | refine EqP_nil tab_ok ?_ | refine EqP_sli tab_ok ?_ | refine DrawP_auto tab_ok (by kernel_rfl) (by decide +kernel) ?_ | refine DrawP_auto2 tab_ok (by kernel_rfl) (by decide +kernel) ?_ | refine eq27 ?_ | refine eq44 ?_ | refine eq54 ?_ | refine eq76 ?_ | refine eq134 ?_))))
          conv => whnf
          refine OwnCells_one (.int .i64 z) (by rw [Int.toNat_natCast, Nat.mul_one]; exact ints_get hz) ?_
          (repeat ((try (conv => whnf)); (first | (with_reducible first | refine condP_true ?_ | refine condP_false ?_ | refine condP_not ?_ | refine condP_and ?_) | ((with_reducible refine condP_dt ?_ ?_); (· omega)) | ((with_reducible refine condP_df ?_ ?_); (· omega)) | ((with_reducible refine condP_yes ?_ ?_); (· assumption)) | ((with_reducible refine condP_no ?_ ?_); (· assumption)) | ((with_reducible refine ArP_i64 ?_ ?_); (· omega)) | ((with_reducible refine mustP.mk ?_ ?_); (· first | omega | rfl | (dsimp only; omega))) | (with_reducible first | refine EqP_nil tab_ok ?_ | refine EqP_sli tab_ok ?_ | refine DrawP_auto tab_ok (by kernel_rfl) (by decide +kernel) ?_ | refine DrawP_auto2 tab_ok (by kernel_rfl) (by decide +kernel) ?_ | refine eq27 ?_ | refine eq44 ?_ | refine eq54 ?_ | refine eq76 ?_ | refine eq134 ?_))))
          conv => whnf
          refine OwnCells_one (.int .i64 z) (by rw [Int.toNat_natCast, Nat.mul_one]; exact ints_get hz) ?_
          (repeat ((try (conv => whnf)); (first | (with_reducible first | refine condP_true ?_ | refine condP_false ?_ | refine condP_not ?_ | refine condP_and ?_) | ((with_reducible refine condP_dt ?_ ?_); (· omega)) | ((with_reducible refine condP_df ?_ ?_); (· omega)) | ((with_reducible refine condP_yes ?_ ?_); (· assumption)) | ((with_reducible refine condP_no ?_ ?_); (· assumption)) | ((with_reducible refine ArP_i64 ?_ ?_); (· omega)) | ((with_reducible refine mustP.mk ?_ ?_); (· first | omega | rfl | (dsimp only; omega))) | (with_reducible first | refine EqP_nil tab_ok ?_ | refine EqP_sli tab_ok ?_ | refine DrawP_auto tab_ok (by kernel_rfl) (by decide +kernel) ?_ | refine DrawP_auto2 tab_ok (by kernel_rfl) (by decide +kernel) ?_ | refine eq27 ?_ | refine eq44 ?_ | refine eq54 ?_ | refine eq76 ?_ | refine eq134 ?_))))
          conv => whnf
          exact ⟨0, rfl, by rw [hins]; rfl⟩
        · simp only [if_neg he] at hins
          (repeat ((try (conv => whnf)); (first | (with_reducible first | refine condP_true ?_ | refine condP_false ?_ | refine condP_not ?_ | refine condP_and ?_) | ((with_reducible refine condP_dt ?_ ?_); (· omega)) | ((with_reducible refine condP_df ?_ ?_); (· omega)) | ((with_reducible refine condP_yes ?_ ?_); (· assumption)) | ((with_reducible refine condP_no ?_ ?_); (· assumption)) | ((with_reducible refine ArP_i64 ?_ ?_); (· omega)) | ((with_reducible refine mustP.mk ?_ ?_); (· first | omega | rfl | (dsimp only; omega))) | (with_reducible first | refine EqP_nil tab_ok ?_ | refine EqP_sli tab_ok ?_ | refine DrawP_auto tab_ok (by kernel_rfl) (by decide +kernel) ?_ | refine DrawP_auto2 tab_ok (by kernel_rfl) (by decide +kernel) ?_ | refine eq27 ?_ | refine eq44 ?_ | refine eq54 ?_ | refine eq76 ?_ | refine eq134 ?_))))
          conv => whnf
          refine OwnCells_one (.int .i64 z) (by rw [Int.toNat_natCast, Nat.mul_one]; exact ints_get hz) ?_
          (repeat ((try (conv => whnf)); (first | (with_reducible first | refine condP_true ?_ | refine condP_false ?_ | refine condP_not ?_ | refine condP_and ?_) | ((with_reducible refine condP_dt ?_ ?_); (· omega)) | ((with_reducible refine condP_df ?_ ?_); (· omega)) | ((with_reducible refine condP_yes ?_ ?_); (· assumption)) | ((with_reducible refine condP_no ?_ ?_); (· assumption)) | ((with_reducible refine ArP_i64 ?_ ?_); (· omega)) | ((with_reducible refine mustP.mk ?_ ?_); (· first | omega | rfl | (dsimp only; omega))) | (with_reducible first | refine EqP_nil tab_ok ?_ | refine EqP_sli tab_ok ?_ | refine DrawP_auto tab_ok (by kernel_rfl) (by decide +kernel) ?_ | refine DrawP_auto2 tab_ok (by kernel_rfl) (by decide +kernel) ?_ | refine eq27 ?_ | refine eq44 ?_ | refine eq54 ?_ | refine eq76 ?_ | refine eq134 ?_))))
          conv => whnf
          refine OwnCells_one (.int .i64 z) (by rw [Int.toNat_natCast, Nat.mul_one]; exact ints_get hz) ?_
          (repeat ((try (conv => whnf)); (first | (with_reducible first | refine condP_true ?_ | refine condP_false ?_ | refine condP_not ?_ | refine condP_and ?_) | ((with_reducible refine condP_dt ?_ ?_); (· omega)) | ((with_reducible refine condP_df ?_ ?_); (· omega)) | ((with_reducible refine condP_yes ?_ ?_); (· assumption)) | ((with_reducible refine condP_no ?_ ?_); (· assumption)) | ((with_reducible refine ArP_i64 ?_ ?_); (· omega)) | ((with_reducible refine mustP.mk ?_ ?_); (· first | omega | rfl | (dsimp only; omega))) | (with_reducible first | refine EqP_nil tab_ok ?_ | refine EqP_sli tab_ok ?_ | refine DrawP_auto tab_ok (by kernel_rfl) (by decide +kernel) ?_ | refine DrawP_auto2 tab_ok (by kernel_rfl) (by decide +kernel) ?_ | refine eq27 ?_ | refine eq44 ?_ | refine eq54 ?_ | refine eq76 ?_ | refine eq134 ?_))))
          conv => whnf
          refine OwnCells_list (ints (l.drop i)) (by simp only [ints_length, List.length_drop]; omega) (fun j v hj => ints_drop hj) ?_
          conv => whnf
          refine mustP.mk ⟨by simp only [ints_length, List.length_drop, List.length_append, List.length_singleton]; omega, ints_cell⟩ ?_
          (repeat ((try (conv => whnf)); (first | (with_reducible first | refine condP_true ?_ | refine condP_false ?_ | refine condP_not ?_ | refine condP_and ?_) | ((with_reducible refine condP_dt ?_ ?_); (· omega)) | ((with_reducible refine condP_df ?_ ?_); (· omega)) | ((with_reducible refine condP_yes ?_ ?_); (· assumption)) | ((with_reducible refine condP_no ?_ ?_); (· assumption)) | ((with_reducible refine ArP_i64 ?_ ?_); (· omega)) | ((with_reducible refine mustP.mk ?_ ?_); (· first | omega | rfl | (dsimp only; omega))) | (with_reducible first | refine EqP_nil tab_ok ?_ | refine EqP_sli tab_ok ?_ | refine DrawP_auto tab_ok (by kernel_rfl) (by decide +kernel) ?_ | refine DrawP_auto2 tab_ok (by kernel_rfl) (by decide +kernel) ?_ | refine eq27 ?_ | refine eq44 ?_ | refine eq54 ?_ | refine eq76 ?_ | refine eq134 ?_))))
          conv => whnf
          refine mustP.mk (put_room (by omega)) ?_
          (repeat ((try (conv => whnf)); (first | (with_reducible first | refine condP_true ?_ | refine condP_false ?_ | refine condP_not ?_ | refine condP_and ?_) | ((with_reducible refine condP_dt ?_ ?_); (· omega)) | ((with_reducible refine condP_df ?_ ?_); (· omega)) | ((with_reducible refine condP_yes ?_ ?_); (· assumption)) | ((with_reducible refine condP_no ?_ ?_); (· assumption)) | ((with_reducible refine ArP_i64 ?_ ?_); (· omega)) | ((with_reducible refine mustP.mk ?_ ?_); (· first | omega | rfl | (dsimp only; omega))) | (with_reducible first | refine EqP_nil tab_ok ?_ | refine EqP_sli tab_ok ?_ | refine DrawP_auto tab_ok (by kernel_rfl) (by decide +kernel) ?_ | refine DrawP_auto2 tab_ok (by kernel_rfl) (by decide +kernel) ?_ | refine eq27 ?_ | refine eq44 ?_ | refine eq54 ?_ | refine eq76 ?_ | refine eq134 ?_))))
          conv => whnf
          exact ⟨2, rfl, put_fin (by omega) hins⟩
    · have hins := ins_at (x := x) hi hlt (fun q hq => by rw [List.getElem?_eq_none (by omega)] at hq; cases hq)
      rw [List.getElem?_eq_none (by omega)] at hins
      simp only at hins
      (repeat ((try (conv => whnf)); (first | (with_reducible first | refine condP_true ?_ | refine condP_false ?_ | refine condP_not ?_ | refine condP_and ?_) | ((with_reducible refine condP_dt ?_ ?_); (· omega)) | ((with_reducible refine condP_df ?_ ?_); (· omega)) | ((with_reducible refine condP_yes ?_ ?_); (· assumption)) | ((with_reducible refine condP_no ?_ ?_); (· assumption)) | ((with_reducible refine ArP_i64 ?_ ?_); (· omega)) | ((with_reducible refine mustP.mk ?_ ?_); (· first | omega | rfl | (dsimp only; omega))) | (with_reducible first | refine EqP_nil tab_ok ?_ | refine EqP_sli tab_ok ?_ | refine DrawP_auto tab_ok (by kernel_rfl) (by decide +kernel) ?_ | refine DrawP_auto2 tab_ok (by kernel_rfl) (by decide +kernel) ?_ | refine eq27 ?_ | refine eq44 ?_ | refine eq54 ?_ | refine eq76 ?_ | refine eq134 ?_))))
      conv => whnf
      refine OwnCells_list (ints (l.drop i)) (by simp only [ints_length, List.length_drop]; omega) (fun j v hj => ints_drop hj) ?_
      conv => whnf
      refine mustP.mk ⟨by simp only [ints_length, List.length_drop, List.length_append, List.length_singleton]; omega, ints_cell⟩ ?_
      (repeat ((try (conv => whnf)); (first | (with_reducible first | refine condP_true ?_ | refine condP_false ?_ | refine condP_not ?_ | refine condP_and ?_) | ((with_reducible refine condP_dt ?_ ?_); (· omega)) | ((with_reducible refine condP_df ?_ ?_); (· omega)) | ((with_reducible refine condP_yes ?_ ?_); (· assumption)) | ((with_reducible refine condP_no ?_ ?_); (· assumption)) | ((with_reducible refine ArP_i64 ?_ ?_); (· omega)) | ((with_reducible refine mustP.mk ?_ ?_); (· first | omega | rfl | (dsimp only; omega))) | (with_reducible first | refine EqP_nil tab_ok ?_ | refine EqP_sli tab_ok ?_ | refine DrawP_auto tab_ok (by kernel_rfl) (by decide +kernel) ?_ | refine DrawP_auto2 tab_ok (by kernel_rfl) (by decide +kernel) ?_ | refine eq27 ?_ | refine eq44 ?_ | refine eq54 ?_ | refine eq76 ?_ | refine eq134 ?_))))
      conv => whnf
      refine mustP.mk (put_room (by omega)) ?_
      (repeat ((try (conv => whnf)); (first | (with_reducible first | refine condP_true ?_ | refine condP_false ?_ | refine condP_not ?_ | refine condP_and ?_) | ((with_reducible refine condP_dt ?_ ?_); (· omega)) | ((with_reducible refine condP_df ?_ ?_); (· omega)) | ((with_reducible refine condP_yes ?_ ?_); (· assumption)) | ((with_reducible refine condP_no ?_ ?_); (· assumption)) | ((with_reducible refine ArP_i64 ?_ ?_); (· omega)) | ((with_reducible refine mustP.mk ?_ ?_); (· first | omega | rfl | (dsimp only; omega))) | (with_reducible first | refine EqP_nil tab_ok ?_ | refine EqP_sli tab_ok ?_ | refine DrawP_auto tab_ok (by kernel_rfl) (by decide +kernel) ?_ | refine DrawP_auto2 tab_ok (by kernel_rfl) (by decide +kernel) ?_ | refine eq27 ?_ | refine eq44 ?_ | refine eq54 ?_ | refine eq76 ?_ | refine eq134 ?_))))
      conv => whnf
      exact ⟨2, rfl, put_fin (by omega) (by rw [hins, List.take_of_length_le (by omega), List.drop_of_length_le (by omega)])⟩
end Go.Proofs.Ytbkhpddodmbdoaa
