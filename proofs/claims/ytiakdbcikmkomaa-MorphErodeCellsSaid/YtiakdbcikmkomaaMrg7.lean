/-
  Merged: XTab, XEz.
-/
import Derived.Test.YtiakdbcikmkomaaProg
import Derived.Test.YtiakdbcikmkomaaEng2
namespace Go.Proofs.Ytiakdbcikmkomaa
open Go.RowKit
set_option linter.unusedVariables false

def tab : Tab := [
  (1, ⟨.fn, 1, 8, [.nilFunc]⟩),
  (2, ⟨.int .i64, 1, 8, [.int .i64 0]⟩),
  (3, ⟨.int .i64, 1, 8, [.int .i64 0]⟩),
  (4, ⟨.bool, 1, 1, [.bool false]⟩),
  (5, ⟨.int .u8, 1, 1, [.int .u8 0]⟩),
  (9, ⟨.str, 1, 16, [.string ByteArray.empty]⟩),
  (12, ⟨.int .u64, 1, 8, [.int .u64 0]⟩),
  (17, ⟨.ptr 104, 1, 8, [.pointer none]⟩),
  (21, ⟨.int .i32, 1, 4, [.int .i32 0]⟩),
  (22, ⟨.slice 34, 1, 24, [.slice none 0 0]⟩),
  (23, ⟨.fn, 1, 8, [.nilFunc]⟩),
  (24, ⟨.fn, 1, 8, [.nilFunc]⟩),
  (25, ⟨.int .i64, 1, 8, [.int .i64 0]⟩),
  (27, ⟨.fn, 1, 8, [.nilFunc]⟩),
  (28, ⟨.fn, 1, 8, [.nilFunc]⟩),
  (29, ⟨.fn, 1, 8, [.nilFunc]⟩),
  (30, ⟨.fn, 1, 8, [.nilFunc]⟩),
  (31, ⟨.fn, 1, 8, [.nilFunc]⟩),
  (32, ⟨.fn, 1, 8, [.nilFunc]⟩),
  (33, ⟨.strct [(0, 3), (1, 3), (2, 3)], 3, 24, [.int .i64 0, .int .i64 0, .int .i64 0]⟩),
  (34, ⟨.strct [(0, 3), (1, 3), (2, 3)], 3, 24, [.int .i64 0, .int .i64 0, .int .i64 0]⟩),
  (35, ⟨.fn, 1, 8, [.nilFunc]⟩),
  (36, ⟨.fn, 1, 8, [.nilFunc]⟩),
  (37, ⟨.fn, 1, 8, [.nilFunc]⟩),
  (38, ⟨.slice 3, 1, 24, [.slice none 0 0]⟩),
  (39, ⟨.fn, 1, 8, [.nilFunc]⟩),
  (40, ⟨.fn, 1, 8, [.nilFunc]⟩),
  (41, ⟨.fn, 1, 8, [.nilFunc]⟩),
  (42, ⟨.fn, 1, 8, [.nilFunc]⟩),
  (43, ⟨.fn, 1, 8, [.nilFunc]⟩),
  (44, ⟨.strct [(0, 22)], 1, 24, [.slice none 0 0]⟩),
  (45, ⟨.strct [(0, 22)], 1, 24, [.slice none 0 0]⟩),
  (46, ⟨.fn, 1, 8, [.nilFunc]⟩),
  (47, ⟨.mapT 3 22, 1, 8, [.map none]⟩),
  (48, ⟨.fn, 1, 8, [.nilFunc]⟩),
  (49, ⟨.fn, 1, 8, [.nilFunc]⟩),
  (50, ⟨.fn, 1, 8, [.nilFunc]⟩),
  (51, ⟨.fn, 1, 8, [.nilFunc]⟩),
  (52, ⟨.fn, 1, 8, [.nilFunc]⟩),
  (53, ⟨.ptr 45, 1, 8, [.pointer none]⟩),
  (54, ⟨.fn, 1, 8, [.nilFunc]⟩),
  (55, ⟨.fn, 1, 8, [.nilFunc]⟩),
  (56, ⟨.fn, 1, 8, [.nilFunc]⟩),
  (57, ⟨.fn, 1, 8, [.nilFunc]⟩),
  (58, ⟨.fn, 1, 8, [.nilFunc]⟩),
  (59, ⟨.arr 2 22, 2, 48, [.slice none 0 0, .slice none 0 0]⟩),
  (60, ⟨.fn, 1, 8, [.nilFunc]⟩),
  (61, ⟨.fn, 1, 8, [.nilFunc]⟩),
  (62, ⟨.fn, 1, 8, [.nilFunc]⟩),
  (63, ⟨.int .u64, 1, 8, [.int .u64 0]⟩),
  (64, ⟨.slice 68, 1, 24, [.slice none 0 0]⟩),
  (65, ⟨.fn, 1, 8, [.nilFunc]⟩),
  (66, ⟨.arr 2 4, 2, 2, [.bool false, .bool false]⟩),
  (67, ⟨.strct [(0, 3), (1, 3), (2, 3)], 3, 24, [.int .i64 0, .int .i64 0, .int .i64 0]⟩),
  (68, ⟨.strct [(0, 3), (1, 3), (2, 3)], 3, 24, [.int .i64 0, .int .i64 0, .int .i64 0]⟩),
  (69, ⟨.fn, 1, 8, [.nilFunc]⟩),
  (70, ⟨.int .i64, 1, 8, [.int .i64 0]⟩),
  (72, ⟨.fn, 1, 8, [.nilFunc]⟩),
  (73, ⟨.fn, 1, 8, [.nilFunc]⟩),
  (74, ⟨.fn, 1, 8, [.nilFunc]⟩),
  (76, ⟨.fn, 1, 8, [.nilFunc]⟩),
  (77, ⟨.fn, 1, 8, [.nilFunc]⟩),
  (78, ⟨.int .u32, 1, 4, [.int .u32 0]⟩),
  (79, ⟨.fn, 1, 8, [.nilFunc]⟩),
  (80, ⟨.int .u64, 1, 8, [.int .u64 0]⟩),
  (82, ⟨.fn, 1, 8, [.nilFunc]⟩),
  (83, ⟨.fn, 1, 8, [.nilFunc]⟩),
  (84, ⟨.fn, 1, 8, [.nilFunc]⟩),
  (85, ⟨.ptr 3, 1, 8, [.pointer none]⟩),
  (86, ⟨.fn, 1, 8, [.nilFunc]⟩),
  (89, ⟨.fn, 1, 8, [.nilFunc]⟩),
  (90, ⟨.fn, 1, 8, [.nilFunc]⟩),
  (96, ⟨.fn, 1, 8, [.nilFunc]⟩),
  (99, ⟨.fn, 1, 8, [.nilFunc]⟩),
  (100, ⟨.ptr 5, 1, 8, [.pointer none]⟩),
  (103, ⟨.strct [(0, 12), (1, 12), (2, 78), (3, 97), (4, 5), (5, 5), (6, 98), (7, 99), (8, 100), (9, 101), (10, 102)], 11, 48, [.int .u64 0, .int .u64 0, .int .u32 0, .int .u8 0, .int .u8 0, .int .u8 0, .int .u8 0, .nilFunc, .pointer none, .int .i32 0, .int .i32 0]⟩)]
set_option maxRecDepth 100000 in
theorem tab_ok : TOk Try.prog tab := by unfold TOk; kernel_rfl
theorem eq34 {x y : Operand} {l m : List AV} {K : Bool → Prop} (h : plainF l fun xs => plainF m fun ys => testP (kindsB [.int .i64, .int .i64, .int .i64] xs) (testP (kindsB [.int .i64, .int .i64, .int .i64] ys) (eqListF xs ys K))) : EqP Try.prog 34 x y (.agg l) (.agg m) K := EqP_agg (ks := [.int .i64, .int .i64, .int .i64]) (by kernel_rfl) (by kernel_rfl) (by kernel_rfl) h
theorem eq68 {x y : Operand} {l m : List AV} {K : Bool → Prop} (h : plainF l fun xs => plainF m fun ys => testP (kindsB [.int .i64, .int .i64, .int .i64] xs) (testP (kindsB [.int .i64, .int .i64, .int .i64] ys) (eqListF xs ys K))) : EqP Try.prog 68 x y (.agg l) (.agg m) K := EqP_agg (ks := [.int .i64, .int .i64, .int .i64]) (by kernel_rfl) (by kernel_rfl) (by kernel_rfl) h
end Go.Proofs.Ytiakdbcikmkomaa

namespace Go.Proofs.Ytiakdbcikmkomaa
open Go.RowKit
set_option linter.unusedVariables false
set_option linter.unusedSimpArgs false
set_option linter.unnecessarySimpa false

/-- A loop whose state is told by two things, by three. -/
theorem LoopP_at2 {P : Program} {T : Tab} (hT : TOk P T) {n0 : Nat} {b : Code} {fr : List AV} {hp : List Blk} {G : Mem} {Q : Post} {ι κ : Type} (inv : ι → κ → Prop) (S : ι → κ → List (Nat × AV)) (H : ι → κ → List Blk) (μ : ι → κ → Nat) (i0 : ι) (k0 : κ) (h0 : inv i0 k0)
    (start : Le n0 fr hp G (headFr b fr (S i0 k0)) (H i0 k0) G)
    (round : ∀ i k, inv i k → natsF (written b []) fun ws => havocF ws 0 fr fun fr1 => setAllF fr1 (S i k) fun fr2 => vcode P T n0 b fr2 (H i k) G fun e fr' hp' G' => match e with
      | .normal => ∃ i' k', inv i' k' ∧ μ i' k' < μ i k ∧ Le n0 fr' hp' G' (headFr b fr (S i' k')) (H i' k') G
      | e => Q e fr' hp' G') : LoopP P n0 b fr hp G Q := by
  refine LoopP_mk hT (fun i : ι × κ => inv i.1 i.2) (fun i => headFr b fr (S i.1 i.2)) (fun i => H i.1 i.2) (fun _ => G) (fun i => μ i.1 i.2) ⟨(i0, k0), h0, start⟩ fun i hi => ?_
  have h := round i.1 i.2 hi
  rw [natsF_eq, havocF_eq, setAllF_eq] at h
  refine cast (congrArg _ ?_) h
  funext e fr' hp' G'
  cases e with
  | normal => exact propext ⟨fun ⟨i', k', h1, h2, h3⟩ => ⟨(i', k'), h1, h2, h3⟩, fun ⟨p, h1, h2, h3⟩ => ⟨p.1, p.2, h1, h2, h3⟩⟩
  | _ => rfl
theorem LoopP_at3 {P : Program} {T : Tab} (hT : TOk P T) {n0 : Nat} {b : Code} {fr : List AV} {hp : List Blk} {G : Mem} {Q : Post} {ι κ ν : Type} (inv : ι → κ → ν → Prop) (S : ι → κ → ν → List (Nat × AV)) (H : ι → κ → ν → List Blk) (μ : ι → κ → ν → Nat) (i0 : ι) (k0 : κ) (m0 : ν) (h0 : inv i0 k0 m0)
    (start : Le n0 fr hp G (headFr b fr (S i0 k0 m0)) (H i0 k0 m0) G)
    (round : ∀ i k m, inv i k m → natsF (written b []) fun ws => havocF ws 0 fr fun fr1 => setAllF fr1 (S i k m) fun fr2 => vcode P T n0 b fr2 (H i k m) G fun e fr' hp' G' => match e with
      | .normal => ∃ i' k' m', inv i' k' m' ∧ μ i' k' m' < μ i k m ∧ Le n0 fr' hp' G' (headFr b fr (S i' k' m')) (H i' k' m') G
      | e => Q e fr' hp' G') : LoopP P n0 b fr hp G Q := by
  refine LoopP_at2 hT (fun (i : ι) (q : κ × ν) => inv i q.1 q.2) (fun i q => S i q.1 q.2) (fun i q => H i q.1 q.2) (fun i q => μ i q.1 q.2) i0 (k0, m0) h0 start fun i q hi => ?_
  have h := round i q.1 q.2 hi
  rw [natsF_eq, havocF_eq, setAllF_eq] at h ⊢
  refine cast (congrArg _ ?_) h
  funext e fr' hp' G'
  cases e with
  | normal => exact propext ⟨fun ⟨i', k', m', h1, h2, h3⟩ => ⟨i', (k', m'), h1, h2, h3⟩, fun ⟨i', p, h1, h2, h3⟩ => ⟨i', p.1, p.2, h1, h2, h3⟩⟩
  | _ => rfl
/-- All that stands, but for one block. -/
def memBut (w : World) (o : Option Nat) : Mem := fun b => if o = some b then none else w.heap[b]?
theorem Takes_of {P : Program} {T : Tab} (hT : TOk P T) {f : FuncId} {fn : Func} (hfn : P.funcs[f]? = some fn) {post : List AV} {G : Mem} {E : TypeId} {sz n : Nat} {xs : List Value} {n' : Nat} {xs' : List Value} (hn' : 0 < n')
    (h : ∀ G', G.le G' → bodyV P T 1 fn (.own 0 :: post) [.own E sz n xs] G' fun v hp' _ => ∃ k, v = .own k ∧ nthB hp' k = .own E sz n' xs') : Takes P f post G E sz n xs n' xs' := by
  intro base w v ts hG hown hbase hfree hts
  have hle : G.le (memBut w (blkOf v)) := fun b o hb => by
    unfold memBut
    by_cases h1 : blkOf v = some b
    · rw [hfree b h1] at hb; cases hb
    · rw [if_neg h1]; exact hG b o hb
  have hmb : ∀ b o, memBut w (blkOf v) b = some o → w.heap[b]? = some o := fun b o hb => by
    unfold memBut at hb
    split at hb
    · cases hb
    · exact hb
  have hsl := ownsRow_sl hown
  have hw0 : Below base {w with heap := w.heap.extract 0 base} w := by
    refine ⟨rfl, rfl, rfl, ?_, fun k hk => ?_⟩
    · simp; omega
    · show w.heap[k]? = (w.heap.extract 0 base)[k]?
      rw [Array.getElem?_extract]; simp; intro h; omega
  have hsz : ({w with heap := w.heap.extract 0 base} : World).heap.size = base := by
    show (w.heap.extract 0 base).size = base
    simp; omega
  have hr : HR {w with heap := w.heap.extract 0 base} (memBut w (blkOf v)) (fun k => if k = 0 then some v else none) [.own E sz n xs] (memBut w (blkOf v)) w := by
    refine ⟨by rw [hsz]; exact hw0, hmb, Mem.le_refl _, fun b o hb => .inl hb, fun k y hk => ?_, fun k k' y y' x x' b hne hk hk' => ?_⟩
    · by_cases h0 : k = 0
      · subst h0
        simp at hk; subst hk
        refine ⟨_, rfl, ?_⟩
        rw [hsz]
        refine ⟨hown, fun g hg => ?_⟩
        unfold memBut; rw [if_pos hg]
      · simp [h0] at hk
    · by_cases h0 : k = 0
      · have : k' ≠ 0 := by omega
        simp [this] at hk'
      · simp [h0] at hk
  refine (bodyV_ok hT hfn (hp := [.own E sz n xs]) (h _ hle) (.inr fun _ _ _ _ _ h => h) _ _ _ w (v :: ts).toArray hr ?_).mono ?_
  · simp only [AV.rels]
    refine ⟨v, ts, rfl, ?_, AV.rels_mono (noName_le _) _ _ hts⟩
    simp only [AV.rel]; exact ⟨by simp, hsl⟩
  · rintro e w' ⟨y, β', v', hp', G', rfl, h1, h2, h3, k, rfl, hk⟩
    simp only [AV.rel] at h3
    obtain ⟨x, hx1, hx2⟩ := h2.blk k y h3.1
    rw [nthB_live hk rfl] at hx1; cases hx1
    rw [hsz] at hx2
    have hold : ∀ b, b < w.heap.size → blkOf v ≠ some b → w'.heap[b]? = w.heap[b]? ∧ ∃ o, G' b = some o := fun b hb hne => by
      have h4 : memBut w (blkOf v) b = some w.heap[b] := by unfold memBut; rw [if_neg hne]; exact Array.getElem?_eq_getElem hb
      have h5 := h2.sub b _ h4
      exact ⟨by rw [h2.hold b _ h5, Array.getElem?_eq_getElem hb], _, h5⟩
    have hat : ∀ b, blkOf y = some b → w.heap.size ≤ b ∨ blkOf v = some b := fun b hb => by
      by_cases h4 : w.heap.size ≤ b
      · exact .inl h4
      · right
        apply Classical.byContradiction
        intro hne
        obtain ⟨_, o, h5⟩ := hold b (by omega) hne
        rw [hx2.2 b hb] at h5; cases h5
    refine ⟨y, rfl, hx2.1, ⟨h2.below.os, h2.below.tape, h2.below.output, ?_, fun b hb hne => (hold b hb (fun e => hne e.symm)).1⟩, hat⟩
    rcases Nat.eq_zero_or_pos w.heap.size with h0 | h0
    · omega
    · by_cases h4 : blkOf v = some (w.heap.size - 1)
      · rcases hx2.1.2 with ⟨_, h5⟩ | ⟨g, cap, cur, rfl, h5, h6, _⟩
        · omega
        · have h7 := (Array.getElem?_eq_some_iff.1 h6).1
          rcases hat g rfl with h8 | h8
          · omega
          · rw [h4] at h8; cases h8; omega
      · have h5 := (hold (w.heap.size - 1) (by omega) h4).1
        rw [Array.getElem?_eq_getElem (show w.heap.size - 1 < w.heap.size by omega)] at h5
        have := (Array.getElem?_eq_some_iff.1 h5).1
        omega
theorem CallP_takes {P : Program} {f : FuncId} (hen : ∀ vs w, (callFunc f vs).run P w = .ok (.enter f vs) w) {k : Nat} {post : List AV} {hp : List Blk} {G : Mem} {K : AV → List Blk → Mem → Prop} {E : TypeId} {sz n : Nat} {xs : List Value} {n' : Nat} {xs' : List Value}
    (hk : nthB hp k = .own E sz n xs) (hu : AV.unders 0 post = true) (hc : Takes P f post G E sz n xs n' xs') (h : setF hp k .gone fun hp1 => lenF hp1 fun q => catF hp1 [.own E sz n' xs'] fun hp' => K (.own q) hp' G) : CallP P f (.own k :: post) hp G K := by
  rw [setF_eq] at h
  have h0 := lenF_eq h
  rw [catF_eq] at h0
  refine ⟨hen, fun w0 G0 β w vs hr ha => ?_⟩
  simp only [AV.rels] at ha
  obtain ⟨v, ts, hvs, hv, hts⟩ := ha
  have e : vs = (v :: ts).toArray := by rw [← hvs]
  subst e
  simp only [AV.rel] at hv
  obtain ⟨x, hx1, hx2⟩ := hr.blk k v hv.1
  rw [nthB_live hk rfl] at hx1; cases hx1
  refine (hc w0.heap.size w v ts hr.hold hx2.1 hr.below.size hx2.2 (bare_rels hu hts)).mono ?_
  rintro e w' ⟨y, rfl, h1, h2, h3⟩
  have hlen : (hp.set k .gone).length = hp.length := by simp
  rw [hlen] at h0
  refine ⟨y, _, _, _, G, rfl, Nm.le_put y (hr.fresh (Nat.le_refl _)), hr.moveName hv.1 (nthB_live hk rfl) rfl h2 h3 rfl (u := .own E sz n' xs') ⟨h1, fun g hg => ?_⟩, by simp only [AV.rel]; exact ⟨Nm.put_same _ _ _, ownsRow_sl h1⟩, h0⟩
  rcases h3 g hg with h7 | h7
  · exact mem_new hr.hold h7
  · exact hx2.2 g h7
theorem TakeP_by {P : Program} {f : FuncId} {k : Nat} {post : List AV} {hp0 : List Blk} {G : Mem} {K : Blk → Prop} {E : TypeId} {sz n : Nat} {xs : List Value} {n' : Nat} {xs' : List Value} (hk : nthB hp0 k = .own E sz n xs) (he : ∀ vs w, (callFunc f vs).run P w = .ok (.enter f vs) w) (hu : AV.unders 0 post = true) (hc : Takes P f post G E sz n xs n' xs') (h : K (.own E sz n' xs')) : TakeP P f k post hp0 G K :=
  .mk E sz n xs n' xs' hk he hu hc h
end Go.Proofs.Ytiakdbcikmkomaa
