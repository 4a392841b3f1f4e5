/-
  What the laws of images have in common.
-/
import Derived.Test.YtampdegpfndggaaImages
import Derived.Test.YtampdegpfndggaaSample
namespace Go.Proofs.Ytampdegpfndggaa
open Go.RowKit
set_option linter.unusedVariables false
set_option maxRecDepth 20000
/-- No ink. -/
abbrev ink0 : AV := .agg [.val (.int .u8 0), .val (.int .u8 0), .val (.int .u8 0), .val (.int .u8 0), .val (.int .u8 0), .val (.int .u8 0), .val (.int .u8 0), .val (.int .u8 0)]
section
variable {W H : Int} {A B : Option Addr} {n p m q : Nat} {a b c d e f : Int} {s r : Bool} {u v : Int} {w : World} {g h : Nat → Nat → Value}
theorem img_is {β : Nm} (vs : List Value) (h : AV.rels β [imgA W H (.slice A n p) (.slice B m q) a b c d e f s r] vs) : vs = [.agg #[.int .i64 W, .int .i64 H, .slice A n p, .slice B m q, .int .i64 a, .int .i64 b, .int .i64 c, .int .i64 d, .int .i64 e, .int .i64 f, .bool s, .bool r]] := by
  simp only [AV.rels] at h
  obtain ⟨y, zs, rfl, h2, rfl⟩ := h
  rw [AV.rel] at h2
  obtain ⟨cs, rfl, h3⟩ := h2
  have := rels_plain (m := [.int .i64 W, .int .i64 H, .slice A n p, .slice B m q, .int .i64 a, .int .i64 b, .int .i64 c, .int .i64 d, .int .i64 e, .int .i64 f, .bool s, .bool r]) h3
  rw [show cs = ([.int .i64 W, .int .i64 H, .slice A n p, .slice B m q, .int .i64 a, .int .i64 b, .int .i64 c, .int .i64 d, .int .i64 e, .int .i64 f, .bool s, .bool r] : List Value).toArray by rw [← this]]
theorem img_rel {β : Nm} : (imgA W H (.slice A n p) (.slice B m q) a b c d e f s r).rel β (.agg #[.int .i64 W, .int .i64 H, .slice A n p, .slice B m q, .int .i64 a, .int .i64 b, .int .i64 c, .int .i64 d, .int .i64 e, .int .i64 f, .bool s, .bool r]) := by
  rw [AV.rel]; exact ⟨_, rfl, rels_map_val (β := β) [.int .i64 W, .int .i64 H, .slice A n p, .slice B m q, .int .i64 a, .int .i64 b, .int .i64 c, .int .i64 d, .int .i64 e, .int .i64 f, .bool s, .bool r]⟩
theorem ICheck_gives {G : Mem} : Gives Try.prog 70 [imgA W H (.slice A n p) (.slice B m q) a b c d e f s r] G (.val (.int .i64 (imgE W H n m (invL a b c d e f 6)))) :=
  Gives.of_callsA (fun vs h => img_is vs h) (by rw [AV.rel]) fun w' _ => ImgCheck_any W H A B n p m q a b c d e f s r w'
theorem RICheck_gives {G : Mem} : Gives Try.prog 36 [imgA W H (.slice A n p) (.slice B m q) a b c d e f s r] G (.val (.int .i64 (imgE W H n m (invL a b c d e f 6)))) :=
  Gives.of_callsA (fun vs h => img_is vs h) (by rw [AV.rel]) fun w' _ => RImgCheck_any W H A B n p m q a b c d e f s r w'
theorem imgE_ok {l : Int} (h : imgE W H n m l = 0) : ImgOk W H n m ∧ l = 0 := by
  unfold imgE at h
  split at h
  · omega
  · rename_i h1
    split at h
    · omega
    · rename_i h2
      refine ⟨⟨by omega, by omega, ?_, ?_⟩, h⟩
      · simp_all
      · by_cases hm : m = 0
        · exact .inl hm
        · right; simp_all
theorem inks_flat : flat Try.prog 20 29 = [.int .u8, .int .u8, .int .u8, .int .u8, .int .u8, .int .u8, .int .u8, .int .u8] := by kernel_rfl
theorem inks_u8 {j : Nat} (hj : j < 8) : (flat Try.prog 20 29)[j]? = some (.int .u8) := by
  rw [inks_flat]
  match j, hj with
  | 0, _ => rfl
  | 1, _ => rfl
  | 2, _ => rfl
  | 3, _ => rfl
  | 4, _ => rfl
  | 5, _ => rfl
  | 6, _ => rfl
  | 7, _ => rfl
theorem byte_bd {z : Int} (h : (Lit.int .u8 z).wf = true) : 0 ≤ z ∧ z ≤ 255 := by
  simp [Lit.wf, IntKind.min, IntKind.max, IntKind.signed, IntKind.bits] at h
  omega
theorem pics_of (h1 : SliceG Try.prog w 29 A n g) (h2 : SliceG Try.prog w 5 B m h) : Pics (memOf w) A n (fun x j => valI (g x j)) B m (fun x => valI (h x 0)) := by
  have e8 : Try.prog.cellsOf 29 = 8 := by kernel_rfl
  have e1 : Try.prog.cellsOf 5 = 1 := by kernel_rfl
  refine ⟨fun x hx => ?_, fun x hx => ?_⟩
  · obtain ⟨b, off, hA, hb, hc⟩ := h1 (by omega)
    rw [e8] at hc
    refine ⟨b, off, hA, fun j hj => ?_⟩
    rw [← (h1.int (by kernel_rfl) hx (inks_u8 hj)).1]
    exact (hc x hx).1 j hj
  · obtain ⟨b, off, hA, hb, hc⟩ := h2 (by omega)
    rw [e1] at hc
    refine ⟨b, off, hA, ?_⟩
    rw [← (h2.int (j := 0) (by kernel_rfl) hx (by kernel_rfl)).1]
    have := (hc x hx).1 0 (by omega)
    rw [Nat.mul_one, Nat.add_zero] at this
    exact this
theorem soft_bd (h2 : SliceG Try.prog w 5 B m h) : ∀ x, x < m → 0 ≤ valI (h x 0) ∧ valI (h x 0) ≤ 255 := fun x hx => byte_bd (h2.int (j := 0) (by kernel_rfl) hx (by kernel_rfl)).2
theorem sampS_bd {S : Nat → Int} (ho : ImgOk W H n m) (hs : ∀ x, x < m → 0 ≤ S x ∧ S x ≤ 255) : 0 ≤ sampS r W H u v m S ∧ sampS r W H u v m S ≤ 255 := by
  obtain ⟨hw, hh, hn, hm⟩ := ho
  unfold sampS
  split
  · rename_i hi
    have := at_in hi
    split
    · omega
    · refine hs _ ?_
      unfold atI; omega
  · omega
end
end Go.Proofs.Ytampdegpfndggaa
