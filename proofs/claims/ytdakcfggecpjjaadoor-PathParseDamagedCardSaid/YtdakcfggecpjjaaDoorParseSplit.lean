/-
  strings.Split at a blank, as a maker; a maker whose row stands already.
-/
import Derived.Test.YtdakcfggecpjjaaDoorParseLaw
import Derived.Test.YtdakcfggecpjjaaDoorTab
import Derived.Test.YtdakcfggecpjjaaDoorMakesF
import Derived.Test.YtdakcfggecpjjaaDoorShelf
namespace Go.Proofs.YtdakcfggecpjjaaDoor
open Go.RowKit
set_option linter.unusedVariables false
set_option linter.unusedSimpArgs false
/-- What is known of memory has the library's variable of a length. -/
def MaxM (G : Mem) : Prop := ∃ m : Int, G.cell? ⟨0, 0, none⟩ = some (.int .i64 m)
theorem MaxM.mono {G G' : Mem} (h : MaxM G) (hle : G.le G') : MaxM G' := by
  obtain ⟨m, h⟩ := h
  exact ⟨m, hle.cell h⟩
theorem max_m {w : World} (h : ∃ m : Int, w.cell? ⟨0, 0, none⟩ = some (.int .i64 m)) : MaxM (memOf w) := h
def wordsB (s : ByteArray) : List ByteArray := Lib.splitB ⟨#[32]⟩ 0 (Lib.countB s ⟨#[32]⟩) s
theorem wordsB_list (s : ByteArray) : (wordsB s).map (·.data.toList) = sepW s.data.toList := by
  unfold wordsB
  rw [Lib.splitB_data]
  exact splitK_sep s.data.toList
theorem wordsB_len (s : ByteArray) : (wordsB s).length = Lib.countB s ⟨#[32]⟩ + 1 := Lib.splitB_all ⟨#[32]⟩ (by decide) 0 _ s rfl
theorem wordsB_le (s : ByteArray) : (wordsB s).length ≤ s.size + 1 := by
  rw [wordsB_len]
  have := Lib.countB_le ⟨#[32]⟩ (by decide) s.size s (Nat.le_refl _)
  omega
theorem splitB_size (sep : ByteArray) : ∀ (k : Nat) (s : ByteArray) (x : ByteArray), x ∈ Lib.splitB sep 0 k s → x.size ≤ s.size
  | 0, s, x, h => by simp [Lib.splitB] at h; subst h; exact Nat.le_refl _
  | k + 1, s, x, h => by
    unfold Lib.splitB at h
    split at h
    · simp at h; subst h; exact Nat.le_refl _
    · rcases List.mem_cons.1 h with rfl | h
      · simp [ByteArray.size_extract]; omega
      · have := splitB_size sep k _ x h
        simp [ByteArray.size_extract] at this
        omega
theorem wordsB_size (s : ByteArray) (j : Nat) (h : j < (wordsB s).length) : (wordsB s)[j].size ≤ s.size := splitB_size _ _ _ _ (List.getElem_mem h)
theorem Split_makes {G : Mem} {s : ByteArray} (hM : MaxM G) (hs : s.size < 4294967281) : Makes Tryd.prog 14 [.val (.string s), .val (.string ⟨#[32]⟩)] G (fun a => a) 9 1 (wordsB s).length ((wordsB s).map .string) := by
  obtain ⟨m, hm⟩ := hM
  intro w vs hG ha
  obtain ⟨vs⟩ := vs
  have hv : vs = [.string s, .string ⟨#[32]⟩] := by
    simp only [AV.rels, AV.rel] at ha
    obtain ⟨a, t, h1, rfl, b, t2, rfl, rfl, rfl⟩ := ha
    exact h1
  subst hv
  refine (Tryd.strings_Split s ⟨#[32]⟩ m w hs (hG.cell hm) (by decide)).mono ?_
  rintro e w' ⟨rfl, rfl⟩
  have hl := wordsB_len s
  have hle := wordsB_le s
  have hnew : (w.alloc (.cells ((Lib.splitB ⟨#[32]⟩ 0 (Lib.countB s ⟨#[32]⟩) s).map Value.string).toArray 9)).heap[w.heap.size]? = some (.cells ((wordsB s).map Value.string).toArray 9 (0, 0)) := by
    show (w.heap.push _)[w.heap.size]? = _
    rw [Array.getElem?_push_size]; rfl
  rw [← hl]
  refine ⟨_, .slice (some ⟨w.heap.size, 0, none⟩) (wordsB s).length (wordsB s).length, rfl, by simp only [AV.rel], ⟨by simp, .inr ⟨w.heap.size, (wordsB s).length, ((wordsB s).map Value.string).toArray, rfl, Nat.le_refl _, hnew, Nat.le_refl _, ?_, by simp, ?_⟩⟩, ?_⟩
  · unfold maxLen; omega
  · rw [Nat.mul_one]
    exact List.take_of_length_le (by simp)
  · refine ⟨rfl, rfl, rfl, ?_, fun k hk => Below.heap_alloc _ _ _ hk⟩
    show w.heap.size ≤ (w.heap.push _).size
    rw [Array.size_push]; omega
/-- A maker, out of a walk that ends in another form. -/
theorem Makes_ofK {P : Program} {T : Tab} (hT : TOk P T) {f : FuncId} {fn : Func} (hfn : P.funcs[f]? = some fn) {args : List AV} {G : Mem} {wrap : AV → AV} (hwr : Wraps wrap) {E : TypeId} {sz n : Nat} {xs : List Value} {K : AV → List Blk → Prop}
    (h : bodyV P T 0 fn args [] G fun v hp' _ => K v hp') (hK : ∀ v hp', K v hp' → OwnRes wrap E sz n xs v hp') : Makes P f args G wrap E sz n xs := by
  intro w vs hG ha
  refine (calls_of_body hT hfn (args := args) ha hG h (fun _ _ _ _ _ h => h)).mono ?_
  rintro e w' ⟨y, β', v', hp', G', h1, h2, h3, h4⟩
  rcases hK _ _ h4 with ⟨k, rfl, hk⟩ | ⟨rfl, rfl, rfl⟩ | ⟨k, rfl, hk, hl, hm⟩
  · obtain ⟨s, h5, h6⟩ := hwr.back h3
    simp only [AV.rel] at h5
    exact ⟨y, s, h1, h6, (h2.br.blk k s _ h5.1 (nthB_live hk rfl)).1, h2.below⟩
  · obtain ⟨s, h5, h6⟩ := hwr.back h3
    simp only [AV.rel] at h5
    subst h5
    exact ⟨y, _, h1, h6, World.ownsRow_nil _ _ _ _, h2.below⟩
  · obtain ⟨s, h5, h6⟩ := hwr.back h3
    simp only [AV.rel] at h5
    obtain ⟨v, b, h7, h8, rfl⟩ := h5
    have h9 := h2.br.blk k v _ h7 (nthB_live hk rfl)
    obtain ⟨b', c, rfl, g1, g2, g3, g4⟩ := h9
    simp [blkOf] at h8; subst h8
    have g5 := rels_plain g4
    refine ⟨y, _, h1, h6, ⟨hl, .inr ⟨b', n, c, rfl, g1, g3, Nat.le_refl _, hm, ?_, ?_⟩⟩, h2.below⟩
    · rw [← hl, ← g5]; simp
    · rw [g5, ← hl]; exact List.take_length
end Go.Proofs.YtdakcfggecpjjaaDoor
