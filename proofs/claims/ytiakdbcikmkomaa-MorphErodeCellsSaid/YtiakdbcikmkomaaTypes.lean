/-
  Arguments that are structs of integers, opened to their fields.
-/
import Derived.Test.YtiakdbcikmkomaaProg
import Derived.Test.YtiakdbcikmkomaaMrg3
import Derived.Test.YtiakdbcikmkomaaMrg4
import Derived.Test.YtiakdbcikmkomaaMrg6
namespace Go.Proofs.Ytiakdbcikmkomaa
open Go.RowKit Go.ChangeShapes Go.WideShapes Go.Deep
set_option maxRecDepth 100000

section
variable {H : Type} {enc : TypeId × Value → H} {w : World} {base b0 : Nat} {spare : Nat → Bool} {held : Bool} {r : Reach} {v : Value} {d : DataW H} {ps : List MemPlace}
theorem open_struct_ints {P : Program} {t : TypeId} {k : IntKind} {fs : Array Field} (ht : P.underlying t = some (.struct fs)) (hC : P.cellsOf t = fs.size)
    (hf : ∀ (i : Nat) (f : Field), fs[i]? = some f → f.offset = i ∧ P.cellsOf f.type = 1 ∧ P.underlying f.type = some (.int k)) (hv : Value.okWide P w r b0 t v) (h : DataW.Trod enc P w base spare held t v d ps) :
    ∃ zs : List Int, zs.length = fs.size ∧ v = .agg (zs.map (.int k)).toArray ∧ ∀ z ∈ zs, (Lit.int k z).wf = true := by
  obtain ⟨cs, rfl, _⟩ := okWide_struct ht hv
  obtain ⟨n, hs⟩ := sees_of_Trod h
  obtain ⟨zs, h1, h2, h3⟩ := hs.ints ht hC hf
  refine ⟨zs, h1, ?_, h3⟩
  have : cs = (zs.map (Value.int k)).toArray := by rw [← h2]; rfl
  rw [this]
theorem fields_of {P : Program} {k : IntKind} {fs : Array Field} (h : (fs.toList.zipIdx.all fun (f, i) => f.offset == i && P.cellsOf f.type == 1 && (match P.underlying f.type with | some (.int k') => k' == k | _ => false)) = true) :
    ∀ (i : Nat) (f : Field), fs[i]? = some f → f.offset = i ∧ P.cellsOf f.type = 1 ∧ P.underlying f.type = some (.int k) := by
  intro i f hi
  rw [List.all_eq_true] at h
  have hm : (f, i) ∈ fs.toList.zipIdx := by
    rw [List.mem_zipIdx_iff_getElem?]; simpa using hi
  have := h _ hm
  simp only [Bool.and_eq_true, beq_iff_eq] at this
  obtain ⟨⟨h1, h2⟩, h3⟩ := this
  refine ⟨h1, h2, ?_⟩
  split at h3
  · rename_i k' hk; rw [hk]; simp at h3; rw [h3]
  · simp at h3
theorem i64_bd {z : Int} (h : (Lit.int .i64 z).wf = true) : -9223372036854775808 ≤ z ∧ z ≤ 9223372036854775807 := by
  simp [Lit.wf, IntKind.min, IntKind.max, IntKind.signed, IntKind.bits] at h
  omega
theorem open_RunsT (hv : Value.okWide Try.prog w r b0 22 v) (h : DataW.Trod enc Try.prog w base spare held 22 v d ps) : ∃ (A : Option Addr) (n cap : Nat) (rs : Nat → Run), v = .slice A n cap ∧ n ≤ cap ∧ cap ≤ maxLen ∧ RunsAt w A n rs :=
  open_Runs (P := Try.prog) Try.underlying22 Try.underlying34 (by kernel_rfl) (by kernel_rfl) (fields_of (by kernel_rfl)) hv h
end
end Go.Proofs.Ytiakdbcikmkomaa
