/-
  Arguments that are structs of integers, opened to their fields.
-/
import Derived.Test.YtdakcfggecpjjaaDoorProg
import Derived.Test.YtdakcfggecpjjaaDoorMrg3
import Derived.Test.YtdakcfggecpjjaaDoorMrg4
namespace Go.Proofs.YtdakcfggecpjjaaDoor
open Go.RowKit Go.ChangeShapes Go.WideShapes Go.Deep
set_option maxRecDepth 100000

section
variable {H : Type} {enc : TypeId × Value → H} {w : World} {base b0 : Nat} {spare : Nat → Bool} {held : Bool} {r : Reach} {v : Value} {d : DataW H} {ps : List MemPlace}
theorem open_struct_ints {P : Program} {t : TypeId} {k : IntKind} {fs : Array Field} (ht : P.underlying t = some (.struct fs)) (hC : P.cellsOf t = fs.size)
    (hf : ∀ (i : Nat) (f : Field), fs[i]? = some f → f.offset = i ∧ P.cellsOf f.type = 1 ∧ P.underlying f.type = some (.int k)) (hv : Value.okWide P w r b0 t v) (h : DataW.Trod enc P w base spare held t v d ps) :
    ∃ zs : List Int, zs.length = fs.size ∧ v = .agg (zs.map (.int k)).toArray ∧ ∀ z ∈ zs, (Lit.int k z).wf = true := by
  obtain ⟨cs, rfl, _⟩ := okWide_struct ht hv
  obtain ⟨n, hs⟩ := sees_of_Trod h
  obtain ⟨zs, h1, h2, h3⟩ := hs.ints ht hC hf
  refine ⟨zs, h1, ?_, h3⟩
  have : cs = (zs.map (Value.int k)).toArray := by rw [← h2]; rfl
  rw [this]
theorem fields_of {P : Program} {k : IntKind} {fs : Array Field} (h : (fs.toList.zipIdx.all fun (f, i) => f.offset == i && P.cellsOf f.type == 1 && (match P.underlying f.type with | some (.int k') => k' == k | _ => false)) = true) :
    ∀ (i : Nat) (f : Field), fs[i]? = some f → f.offset = i ∧ P.cellsOf f.type = 1 ∧ P.underlying f.type = some (.int k) := by
  intro i f hi
  rw [List.all_eq_true] at h
  have hm : (f, i) ∈ fs.toList.zipIdx := by
    rw [List.mem_zipIdx_iff_getElem?]; simpa using hi
  have := h _ hm
  simp only [Bool.and_eq_true, beq_iff_eq] at this
  obtain ⟨⟨h1, h2⟩, h3⟩ := this
  refine ⟨h1, h2, ?_⟩
  split at h3
  · rename_i k' hk; rw [hk]; simp at h3; rw [h3]
  · simp at h3
theorem i64_bd {z : Int} (h : (Lit.int .i64 z).wf = true) : -9223372036854775808 ≤ z ∧ z ≤ 9223372036854775807 := by
  simp [Lit.wf, IntKind.min, IntKind.max, IntKind.signed, IntKind.bits] at h
  omega
theorem open_Point (hv : Value.okWide Tryd.prog w r b0 62 v) (h : DataW.Trod enc Tryd.prog w base spare held 62 v d ps) : ∃ a b : Int, v = .agg #[.int .i64 a, .int .i64 b] ∧ (∀ z ∈ [a, b], (Lit.int .i64 z).wf = true) := by
  obtain ⟨zs, h1, rfl, h3⟩ := open_struct_ints (k := .i64) Tryd.underlying62 (by kernel_rfl) (fields_of (by kernel_rfl)) hv h
  match zs, h1 with
  | [a, b], _ => exact ⟨a, b, rfl, h3⟩
theorem open_SegsT (hv : Value.okWide Tryd.prog w r b0 23 v) (h : DataW.Trod enc Tryd.prog w base spare held 23 v d ps) : ∃ (A : Option Addr) (n cap : Nat) (f : Nat → Nat → Int), v = .slice A n cap ∧ n ≤ cap ∧ cap ≤ maxLen ∧ RecsAt .i64 w A n 6 f ∧ RecsIn .i64 n 6 f :=
  open_Recs (P := Tryd.prog) Tryd.underlying23 Tryd.underlying45 (by decide) (by kernel_rfl) (fields_of (by kernel_rfl)) hv h
end
end Go.Proofs.YtdakcfggecpjjaaDoor
