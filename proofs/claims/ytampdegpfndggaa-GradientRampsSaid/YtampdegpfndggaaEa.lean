/-
  An engine of symbolic execution: abstract values (blocks by name), abstract heaps, and what they say of a world. No program in sight.
-/
import Derived.WalkKit
import Derived.Handy
import Derived.Laws.EntriesVeiled
import Derived.Laws.CopyOwn
namespace Go.Proofs.Ytampdegpfndggaa
open Go.RowKit
set_option linter.unusedVariables false
set_option linter.unusedSimpArgs false
set_option linter.unnecessarySimpa false

/-- An abstract value: blocks of the call's own bear names. -/
inductive AV where
  | val (x : Value)
  | ptr (k off : Nat)
  | sli (k off len cap : Nat)
  | own (k : Nat)
  | agg (l : List AV)
  | tup (l : List AV)
  | fn (f : Fn) (first caps : List AV)
  | any
  deriving Inhabited

/-- What a name stands for: the pointer to the head of its block, or the slice that owns its row. -/
abbrev Nm := Nat → Option Value
/-- A slice. -/
def isSl : Value → Bool
  | .slice _ _ _ => true
  | _ => false
def blkOf : Value → Option Nat
  | .pointer (some a) => some a.block
  | .slice (some a) _ _ => some a.block
  | _ => none
mutual
def AV.rel (β : Nm) : AV → Value → Prop
  | .val x, y => y = x
  | .ptr k o, y => ∃ v b, β k = some v ∧ blkOf v = some b ∧ y = .pointer (some ⟨b, o, none⟩)
  | .sli k o l c, y => ∃ v b, β k = some v ∧ blkOf v = some b ∧ y = .slice (some ⟨b, o, none⟩) l c
  | .own k, y => β k = some y ∧ isSl y = true
  | .agg l, y => ∃ cs, y = .agg cs ∧ AV.rels β l cs.toList
  | .tup l, y => ∃ cs, y = .tuple cs ∧ AV.rels β l cs.toList
  | .fn f a b, y => ∃ xs ys, y = .func f xs ys ∧ AV.rels β a xs.toList ∧ AV.rels β b ys.toList
  | .any, _ => True
def AV.rels (β : Nm) : List AV → List Value → Prop
  | [], ys => ys = []
  | a :: l, ys => ∃ y zs, ys = y :: zs ∧ AV.rel β a y ∧ AV.rels β l zs
end
def Nm.le (β γ : Nm) : Prop := ∀ k v, β k = some v → γ k = some v
theorem Nm.le_refl (β : Nm) : β.le β := fun _ _ h => h
theorem Nm.le_trans {a b c : Nm} (h : a.le b) (h' : b.le c) : a.le c := fun k v e => h' k v (h k v e)
mutual
theorem AV.rel_mono {β γ : Nm} (h : β.le γ) : ∀ (a : AV) (y : Value), AV.rel β a y → AV.rel γ a y
  | .val _, _, e => by simpa [AV.rel] using e
  | .ptr _ _, _, e => by simp only [AV.rel] at e ⊢; obtain ⟨v, b, h1, h2, h3⟩ := e; exact ⟨v, b, h _ _ h1, h2, h3⟩
  | .sli _ _ _ _, _, e => by simp only [AV.rel] at e ⊢; obtain ⟨v, b, h1, h2, h3⟩ := e; exact ⟨v, b, h _ _ h1, h2, h3⟩
  | .own _, _, e => by simp only [AV.rel] at e ⊢; exact ⟨h _ _ e.1, e.2⟩
  | .agg l, _, e => by simp only [AV.rel] at e ⊢; obtain ⟨cs, h1, h2⟩ := e; exact ⟨cs, h1, AV.rels_mono h l _ h2⟩
  | .tup l, _, e => by simp only [AV.rel] at e ⊢; obtain ⟨cs, h1, h2⟩ := e; exact ⟨cs, h1, AV.rels_mono h l _ h2⟩
  | .fn _ a b, _, e => by simp only [AV.rel] at e ⊢; obtain ⟨xs, ys, h1, h2, h3⟩ := e; exact ⟨xs, ys, h1, AV.rels_mono h a _ h2, AV.rels_mono h b _ h3⟩
  | .any, _, _ => by simp only [AV.rel]
theorem AV.rels_mono {β γ : Nm} (h : β.le γ) : ∀ (l : List AV) (ys : List Value), AV.rels β l ys → AV.rels γ l ys
  | [], _, e => by simpa [AV.rels] using e
  | a :: l, _, e => by
    simp only [AV.rels] at e ⊢
    obtain ⟨y, zs, h1, h2, h3⟩ := e
    exact ⟨y, zs, h1, AV.rel_mono h a _ h2, AV.rels_mono h l _ h3⟩
end
theorem AV.rels_length {β : Nm} : ∀ {l : List AV} {ys : List Value}, AV.rels β l ys → ys.length = l.length
  | [], _, e => by simp only [AV.rels] at e; subst e; rfl
  | a :: l, _, e => by
    simp only [AV.rels] at e
    obtain ⟨y, zs, rfl, _, h3⟩ := e
    simp [AV.rels_length h3]
theorem AV.rels_get {β : Nm} : ∀ {l : List AV} {ys : List Value} {i : Nat} {a : AV}, AV.rels β l ys → l[i]? = some a → ∃ y, ys[i]? = some y ∧ AV.rel β a y
  | [], _, _, _, _, h => by simp at h
  | a :: l, _, 0, b, e, h => by
    simp only [AV.rels] at e
    obtain ⟨y, zs, rfl, h2, _⟩ := e
    simp at h; subst h
    exact ⟨y, by simp, h2⟩
  | a :: l, _, i + 1, b, e, h => by
    simp only [AV.rels] at e
    obtain ⟨y, zs, rfl, _, h3⟩ := e
    obtain ⟨y', h4, h5⟩ := AV.rels_get h3 (i := i) (by simpa using h)
    exact ⟨y', by simpa using h4, h5⟩
theorem AV.rels_of_get {β : Nm} : ∀ {l : List AV} {ys : List Value}, ys.length = l.length → (∀ (i : Nat) a y, l[i]? = some a → ys[i]? = some y → AV.rel β a y) → AV.rels β l ys
  | [], ys, h, _ => by simp only [AV.rels]; exact List.eq_nil_of_length_eq_zero (by simpa using h)
  | a :: l, [], h, _ => by simp at h
  | a :: l, y :: ys, h, k => by
    simp only [AV.rels]
    exact ⟨y, ys, rfl, k 0 a y (by simp) (by simp), AV.rels_of_get (by simpa using h) (fun i b z hb hz => k (i + 1) b z (by simpa using hb) (by simpa using hz))⟩
theorem AV.rels_append {β : Nm} : ∀ {l m : List AV} {ys zs : List Value}, AV.rels β l ys → AV.rels β m zs → AV.rels β (l ++ m) (ys ++ zs)
  | [], _, _, _, e, h => by simp only [AV.rels] at e; subst e; simpa using h
  | a :: l, m, _, zs, e, h => by
    simp only [AV.rels] at e
    obtain ⟨y, ws, rfl, h2, h3⟩ := e
    simp only [List.cons_append, AV.rels]
    exact ⟨y, ws ++ zs, rfl, h2, AV.rels_append h3 h⟩
theorem AV.rels_take {β : Nm} : ∀ {l : List AV} {ys : List Value} (n : Nat), AV.rels β l ys → AV.rels β (l.take n) (ys.take n)
  | _, _, 0, _ => by simp [AV.rels]
  | [], _, n + 1, e => by simp only [AV.rels] at e; subst e; simp [AV.rels]
  | a :: l, _, n + 1, e => by
    simp only [AV.rels] at e
    obtain ⟨y, ws, rfl, h2, h3⟩ := e
    simp only [List.take_succ_cons, AV.rels]
    exact ⟨y, ws.take n, rfl, h2, AV.rels_take n h3⟩
theorem AV.rels_drop {β : Nm} : ∀ {l : List AV} {ys : List Value} (n : Nat), AV.rels β l ys → AV.rels β (l.drop n) (ys.drop n)
  | _, _, 0, e => by simpa using e
  | [], _, n + 1, e => by simp only [AV.rels] at e; subst e; simp [AV.rels]
  | a :: l, _, n + 1, e => by
    simp only [AV.rels] at e
    obtain ⟨y, ws, rfl, h2, h3⟩ := e
    simpa using AV.rels_drop n h3
theorem AV.rels_set {β : Nm} : ∀ {l : List AV} {ys : List Value} (n : Nat) {a : AV} {y : Value}, AV.rels β l ys → AV.rel β a y → AV.rels β (l.set n a) (ys.set n y)
  | [], _, _, _, _, e, _ => by simp only [AV.rels] at e; subst e; simp [AV.rels]
  | a :: l, _, 0, b, z, e, h => by
    simp only [AV.rels] at e
    obtain ⟨y, ws, rfl, h2, h3⟩ := e
    simp only [List.set_cons_zero, AV.rels]
    exact ⟨z, ws, rfl, h, h3⟩
  | a :: l, _, n + 1, b, z, e, h => by
    simp only [AV.rels] at e
    obtain ⟨y, ws, rfl, h2, h3⟩ := e
    simp only [List.set_cons_succ, AV.rels]
    exact ⟨y, ws.set n z, rfl, h2, AV.rels_set n h3 h⟩
theorem AV.rels_vals {β : Nm} : ∀ (ys : List Value), AV.rels β (ys.map .val) ys
  | [] => by simp [AV.rels]
  | y :: ys => by simp only [List.map_cons, AV.rels]; exact ⟨y, ys, rfl, by simp only [AV.rel], AV.rels_vals ys⟩

/-- Memory that does not change any more. -/
abbrev Mem := Nat → Option Obj
def Mem.le (G H : Mem) : Prop := ∀ b o, G b = some o → H b = some o
theorem Mem.le_refl (G : Mem) : G.le G := fun _ _ h => h
theorem Mem.le_trans {a b c : Mem} (h : a.le b) (h' : b.le c) : a.le c := fun k v e => h' k v (h k v e)
def Mem.holds (G : Mem) (w : World) : Prop := ∀ b o, G b = some o → w.heap[b]? = some o
def Mem.cell? (G : Mem) (a : Addr) : Option Value :=
  match G a.block with
  | some (.cells c _ _) => if a.spot.isSome then none else c[a.off]?
  | _ => none
theorem Mem.holds.cell {G : Mem} {w : World} (h : G.holds w) {a : Addr} {v : Value} (hv : G.cell? a = some v) : w.cell? a = some v := by
  unfold Mem.cell? at hv
  unfold World.cell?
  cases hg : G a.block with
  | none => rw [hg] at hv; cases hv
  | some o => rw [hg] at hv; rw [h _ _ hg]; exact hv
theorem Mem.le.cell {G H : Mem} (h : G.le H) {a : Addr} {v : Value} (hv : G.cell? a = some v) : H.cell? a = some v := by
  unfold Mem.cell? at hv ⊢
  cases hg : G a.block with
  | none => rw [hg] at hv; cases hv
  | some o => rw [hg] at hv; rw [h _ _ hg]; exact hv
/-- The whole memory of a world. -/
def memOf (w : World) : Mem := fun b => w.heap[b]?
theorem memOf_holds (w : World) : (memOf w).holds w := fun _ _ h => h
theorem memOf_cell (w : World) (a : Addr) : (memOf w).cell? a = w.cell? a := rfl

/-- What is known of a block of the call's own. -/
inductive Blk where
  | cells (t : TypeId) (l : List AV)
  | own (e : TypeId) (sz n : Nat) (xs : List Value)
  | gone
  deriving Inhabited
def Blk.live : Blk → Bool
  | .gone => false
  | _ => true
def Blk.rel (base : Nat) (β : Nm) (G : Mem) (w : World) : Blk → Value → Prop
  | .cells t l, y => ∃ b c, y = .pointer (some ⟨b, 0, none⟩) ∧ base ≤ b ∧ G b = none ∧ w.heap[b]? = some (.cells c t (0, 0)) ∧ AV.rels β l c.toList
  | .own e sz n xs, y => w.ownsRow base e sz y n xs ∧ ∀ g, blkOf y = some g → G g = none
  | .gone, _ => True

/-- What an abstract heap says of a world. -/
structure HR (w0 : World) (G0 : Mem) (β : Nm) (hp : List Blk) (G : Mem) (w : World) : Prop where
  below : Below w0.heap.size w0 w
  hold : G.holds w
  sub : G0.le G
  grow : ∀ b o, G b = some o → G0 b = some o ∨ w0.heap.size ≤ b
  blk : ∀ k y, β k = some y → ∃ x, hp[k]? = some x ∧ x.rel w0.heap.size β G w y
  inj : ∀ k k' y y' x x' b, k ≠ k' → β k = some y → β k' = some y' → hp[k]? = some x → hp[k']? = some x' → x.live = true → x'.live = true → blkOf y = some b → blkOf y' ≠ some b

theorem blkOf_own (y : Value) : y.ownBlock = blkOf y ∨ y.ownBlock = none := by
  cases y <;> first | (right; rfl) | (left; rfl) | skip
  rename_i a _ _; cases a <;> (left; rfl)
theorem own_blk {y : Value} {n cap : Nat} {A : Option Addr} (h : y = .slice A n cap) : y.ownBlock = blkOf y := by
  subst h; cases A <;> rfl
theorem HR.lt {w0 : World} {G0 : Mem} {β : Nm} {hp : List Blk} {G : Mem} {w : World} (h : HR w0 G0 β hp G w) {k : Nat} {y : Value} {x : Blk} {b : Nat} (hk : β k = some y) (hx : hp[k]? = some x) (hl : x.live = true) (hb : blkOf y = some b) :
    w0.heap.size ≤ b ∧ b < w.heap.size ∧ G b = none := by
  obtain ⟨x', h1, h2⟩ := h.blk k y hk
  rw [hx] at h1; cases h1
  cases x with
  | gone => simp [Blk.live] at hl
  | cells t l =>
    obtain ⟨b', c, rfl, h3, h4, h5, _⟩ := h2
    simp [blkOf] at hb; subst hb
    exact ⟨h3, (Array.getElem?_eq_some_iff.1 h5).1, h4⟩
  | own e sz n xs =>
    obtain ⟨h3, h4⟩ := h2
    refine ⟨?_, ?_, h4 b hb⟩
    · rcases h3.2 with ⟨rfl, _⟩ | ⟨g, cap, cur, rfl, h5, _⟩
      · simp [blkOf] at hb
      · simp [blkOf] at hb; omega
    · rcases h3.2 with ⟨rfl, _⟩ | ⟨g, cap, cur, rfl, h5, h6, _⟩
      · simp [blkOf] at hb
      · simp [blkOf] at hb; subst hb; exact (Array.getElem?_eq_some_iff.1 h6).1

/-- A block is as it was as long as its place is. -/
theorem Blk.rel_of {base : Nat} {β γ : Nm} {G H : Mem} {w w' : World} (hβ : β.le γ) {x : Blk} {y : Value} (h : x.rel base β G w y) (hb : ∀ b, blkOf y = some b → w'.heap[b]? = w.heap[b]? ∧ (G b = none → H b = none)) : x.rel base γ H w' y := by
  cases x with
  | gone => trivial
  | cells t l =>
    obtain ⟨b, c, rfl, h1, h2, h3, h4⟩ := h
    obtain ⟨h5, h6⟩ := hb b rfl
    exact ⟨b, c, rfl, h1, h6 h2, h5.trans h3, AV.rels_mono hβ _ _ h4⟩
  | own e sz n xs =>
    obtain ⟨⟨h1, h2⟩, h3⟩ := h
    refine ⟨⟨h1, ?_⟩, fun g hg => (hb g hg).2 (h3 g hg)⟩
    rcases h2 with h2 | ⟨g, cap, cur, rfl, h5, h6, h7⟩
    · exact .inl h2
    · exact .inr ⟨g, cap, cur, rfl, h5, (hb g rfl).1.trans h6, h7⟩

section
variable {w0 : World} {G0 : Mem} {β : Nm} {hp : List Blk} {G : Mem} {w : World}
/-- A world in which all that was there stands as it was. -/
theorem HR.step (h : HR w0 G0 β hp G w) {w' : World} (hb : Below w.heap.size w w') : HR w0 G0 β hp G w' where
  below := h.below.trans (hb.mono h.below.size)
  hold := fun b o hg => (hb.block b (Array.getElem?_eq_some_iff.1 (h.hold b o hg)).1).trans (h.hold b o hg)
  sub := h.sub
  grow := h.grow
  blk := fun k y hk => by
    obtain ⟨x, h1, h2⟩ := h.blk k y hk
    refine ⟨x, h1, ?_⟩
    by_cases hl : x.live = true
    · exact Blk.rel_of (Nm.le_refl _) h2 (fun b hb' => ⟨hb.block b (h.lt hk h1 hl hb').2.1, id⟩)
    · cases x <;> simp [Blk.live] at hl; trivial
  inj := h.inj
theorem HR.drew (h : HR w0 G0 β hp G w) : HR w0 G0 β hp G w.drew := h.step (Below.refl _ _).drew
theorem HR.fresh (h : HR w0 G0 β hp G w) {n : Nat} (hn : hp.length ≤ n) : β n = none := by
  cases hb : β n with
  | none => rfl
  | some y =>
    obtain ⟨x, h1, _⟩ := h.blk n y hb
    rw [List.getElem?_eq_none hn] at h1; cases h1
def Nm.put (β : Nm) (n : Nat) (y : Value) : Nm := fun k => if k = n then some y else β k
theorem Nm.put_same (β : Nm) (n : Nat) (y : Value) : β.put n y n = some y := by simp [Nm.put]
theorem Nm.put_ne (β : Nm) {n k : Nat} (y : Value) (h : k ≠ n) : β.put n y k = β k := by simp [Nm.put, h]
theorem Nm.le_put {β : Nm} {n : Nat} (y : Value) (hn : β n = none) : β.le (β.put n y) := fun k v h => by
  by_cases hk : k = n
  · subst hk; rw [hn] at h; cases h
  · rw [Nm.put_ne β y hk]; exact h
/-- A new name for a new thing. -/
theorem HR.name (h : HR w0 G0 β hp G w) {w' : World} (hb : Below w.heap.size w w') {y : Value} {x : Blk} {n : Nat} (hx : x.rel w0.heap.size (β.put n y) G w' y) (hn : n = hp.length)
    (hy : ∀ b, blkOf y = some b → w.heap.size ≤ b) : HR w0 G0 (β.put n y) (hp ++ [x]) G w' where
  below := (h.step hb).below
  hold := (h.step hb).hold
  sub := h.sub
  grow := h.grow
  blk := fun k z hk => by
    by_cases hkn : k = n
    · rw [hkn, Nm.put_same] at hk
      cases hk
      exact ⟨x, by rw [hkn, hn]; simp, hx⟩
    · rw [Nm.put_ne β y hkn] at hk
      obtain ⟨x', h1, h2⟩ := (h.step hb).blk k z hk
      refine ⟨x', ?_, Blk.rel_of (Nm.le_put y (h.fresh (by omega))) h2 (fun b _ => ⟨rfl, id⟩)⟩
      rw [List.getElem?_append_left (List.getElem?_eq_some_iff.1 h1).1]; exact h1
  inj := fun k k' z z' u u' b hne hk hk' hu hu' hl hl' hz hz' => by
    have old : ∀ {j : Nat} {q : Value} {s : Blk}, j ≠ n → (β.put n y) j = some q → (hp ++ [x])[j]? = some s → s.live = true → blkOf q = some b → b < w.heap.size ∧ hp[j]? = some s ∧ β j = some q := by
      intro j q s hj hq hs hls hqb
      rw [Nm.put_ne β y hj] at hq
      obtain ⟨x', h1, _⟩ := h.blk j q hq
      rw [List.getElem?_append_left (List.getElem?_eq_some_iff.1 h1).1] at hs
      exact ⟨(h.lt hq hs hls hqb).2.1, hs, hq⟩
    by_cases h1 : k = n
    · have h2 : k' ≠ n := by omega
      obtain ⟨h3, _, _⟩ := old h2 hk' hu' hl' hz'
      rw [h1, Nm.put_same] at hk; cases hk
      have := hy b hz; omega
    · obtain ⟨h3, h4, h5⟩ := old h1 hk hu hl hz
      by_cases h2 : k' = n
      · rw [h2, Nm.put_same] at hk'; cases hk'
        have := hy b hz'; omega
      · obtain ⟨_, h6, h7⟩ := old h2 hk' hu' hl' hz'
        exact h.inj k k' z z' u u' b hne h5 h7 h4 h6 hl hl' hz hz'
theorem HR.alloc (h : HR w0 G0 β hp G w) {t : TypeId} {l : List AV} {c : Array Value} (hc : AV.rels β l c.toList) {n : Nat} (hn : n = hp.length) :
    HR w0 G0 (β.put n (.pointer (some ⟨w.heap.size, 0, none⟩))) (hp ++ [.cells t l]) G (w.alloc (.cells c t)) := by
  have hN : β n = none := h.fresh (by omega)
  have hG : G w.heap.size = none := by
    cases hg : G w.heap.size with
    | none => rfl
    | some o =>
      have := (Array.getElem?_eq_some_iff.1 (h.hold _ _ hg)).1
      omega
  refine h.name ((Below.refl _ _).alloc (Nat.le_refl _) _) ?_ hn (fun b hb => by simp [blkOf] at hb; omega)
  exact ⟨_, c, rfl, h.below.size, hG, heap_alloc_new w _, AV.rels_mono (Nm.le_put _ hN) _ _ hc⟩
/-- A block is written. -/
theorem HR.setBlk (h : HR w0 G0 β hp G w) {k : Nat} {y : Value} {x x' : Blk} {b : Nat} (hk : β k = some y) (hx : hp[k]? = some x) (hl : x.live = true) (hb : blkOf y = some b) {w' : World}
    (hg : w.grownBy w' (some b)) (hr : x'.rel w0.heap.size β G w' y) : HR w0 G0 β (hp.set k x') G w' where
  below := h.below.trans ⟨hg.os, hg.tape, hg.output, hg.size, fun j hj => by
    have h1 := (h.lt hk hx hl hb).1
    exact hg.block j (Nat.lt_of_lt_of_le hj h.below.size) (fun e => by cases e; omega)⟩
  hold := fun c o hc => by
    have h1 := (h.lt hk hx hl hb).2.2
    have h2 := h.hold c o hc
    rw [hg.block c (Array.getElem?_eq_some_iff.1 h2).1 (fun e => by cases e; rw [h1] at hc; cases hc)]
    exact h2
  sub := h.sub
  grow := h.grow
  blk := fun j z hj => by
    obtain ⟨u, h1, h2⟩ := h.blk j z hj
    have hjl := (List.getElem?_eq_some_iff.1 h1).1
    by_cases hjk : k = j
    · subst hjk
      rw [hk] at hj; cases hj
      exact ⟨x', by simp [List.getElem?_set, hjl], hr⟩
    · refine ⟨u, by rw [List.getElem?_set, if_neg hjk]; exact h1, ?_⟩
      by_cases hul : u.live = true
      · refine Blk.rel_of (Nm.le_refl _) h2 (fun c hc => ⟨hg.block c (h.lt hj h1 hul hc).2.1 (fun e => ?_), id⟩)
        cases e
        exact h.inj k j y z x u b hjk hk hj hx h1 hl hul hb hc
      · cases u <;> simp [Blk.live] at hul; trivial
  inj := fun j j' z z' u u' c hne hj hj' hu hu' hul hul' hz hz' => by
    have key : ∀ (i : Nat) (q : Blk), (hp.set k x')[i]? = some q → q.live = true → ∃ q', hp[i]? = some q' ∧ q'.live = true := fun i q hq hql => by
      by_cases hi : k = i
      · subst hi; exact ⟨x, hx, hl⟩
      · rw [List.getElem?_set, if_neg hi] at hq; exact ⟨q, hq, hql⟩
    obtain ⟨q, hq, hql⟩ := key j u hu hul
    obtain ⟨q', hq', hql'⟩ := key j' u' hu' hul'
    exact h.inj j j' z z' q q' c hne hj hj' hq hq' hql hql' hz hz'
/-- A block is forgotten. -/
theorem HR.forget (h : HR w0 G0 β hp G w) (k : Nat) : HR w0 G0 β (hp.set k .gone) G w where
  below := h.below
  hold := h.hold
  sub := h.sub
  grow := h.grow
  blk := fun j z hj => by
    obtain ⟨u, h1, h2⟩ := h.blk j z hj
    by_cases hjk : k = j
    · subst hjk; exact ⟨.gone, by simp [List.getElem?_set, (List.getElem?_eq_some_iff.1 h1).1], trivial⟩
    · exact ⟨u, by rw [List.getElem?_set, if_neg hjk]; exact h1, h2⟩
  inj := fun j j' z z' u u' c hne hj hj' hu hu' hul hul' hz hz' => by
    have key : ∀ (i : Nat) (q : Blk), (hp.set k .gone)[i]? = some q → q.live = true → hp[i]? = some q := fun i q hq hql => by
      by_cases hi : k = i
      · subst hi
        rw [List.getElem?_set] at hq
        simp at hq
        obtain ⟨_, rfl⟩ := hq
        simp [Blk.live] at hql
      · rw [List.getElem?_set, if_neg hi] at hq; exact hq
    exact h.inj j j' z z' u u' c hne hj hj' (key j u hu hul) (key j' u' hu' hul') hul hul' hz hz'
end

/-! ### Weakening -/
mutual
def AV.under (n : Nat) : AV → Bool
  | .val _ => true
  | .ptr k _ => Nat.blt k n
  | .sli k _ _ _ => Nat.blt k n
  | .own k => Nat.blt k n
  | .agg l => AV.unders n l
  | .tup l => AV.unders n l
  | .fn _ a b => AV.unders n a && AV.unders n b
  | .any => true
def AV.unders (n : Nat) : List AV → Bool
  | [] => true
  | a :: l => AV.under n a && AV.unders n l
end
def Nm.cut (β : Nm) (n : Nat) : Nm := fun k => if k < n then β k else none
theorem Nm.cut_lt {β : Nm} {n k : Nat} (h : k < n) : β.cut n k = β k := by simp [Nm.cut, h]
theorem Nm.cut_some {β : Nm} {n k : Nat} {y : Value} (h : β.cut n k = some y) : k < n ∧ β k = some y := by
  unfold Nm.cut at h; split at h
  · exact ⟨by assumption, h⟩
  · cases h
theorem lt_of_blt {k n : Nat} (h : Nat.blt k n = true) : k < n := by
  simpa [Nat.blt_eq] using h
mutual
theorem AV.rel_cut {β : Nm} {n : Nat} : ∀ (a : AV) (y : Value), a.under n = true → AV.rel β a y → AV.rel (β.cut n) a y
  | .val _, _, _, e => by simpa [AV.rel] using e
  | .ptr k _, _, u, e => by simp only [AV.rel, AV.under] at e u ⊢; rw [Nm.cut_lt (lt_of_blt u)]; exact e
  | .sli k _ _ _, _, u, e => by simp only [AV.rel, AV.under] at e u ⊢; rw [Nm.cut_lt (lt_of_blt u)]; exact e
  | .own k, _, u, e => by simp only [AV.rel, AV.under] at e u ⊢; rw [Nm.cut_lt (lt_of_blt u)]; exact e
  | .agg l, _, u, e => by simp only [AV.rel, AV.under] at e u ⊢; obtain ⟨cs, h1, h2⟩ := e; exact ⟨cs, h1, AV.rels_cut l _ u h2⟩
  | .tup l, _, u, e => by simp only [AV.rel, AV.under] at e u ⊢; obtain ⟨cs, h1, h2⟩ := e; exact ⟨cs, h1, AV.rels_cut l _ u h2⟩
  | .fn _ a b, _, u, e => by
    simp only [AV.rel, AV.under, Bool.and_eq_true] at e u ⊢
    obtain ⟨xs, ys, h1, h2, h3⟩ := e
    exact ⟨xs, ys, h1, AV.rels_cut a _ u.1 h2, AV.rels_cut b _ u.2 h3⟩
  | .any, _, _, _ => by simp only [AV.rel]
theorem AV.rels_cut {β : Nm} {n : Nat} : ∀ (l : List AV) (ys : List Value), AV.unders n l = true → AV.rels β l ys → AV.rels (β.cut n) l ys
  | [], _, _, e => by simpa [AV.rels] using e
  | a :: l, _, u, e => by
    simp only [AV.rels, AV.unders, Bool.and_eq_true] at e u ⊢
    obtain ⟨y, zs, h1, h2, h3⟩ := e
    exact ⟨y, zs, h1, AV.rel_cut a _ u.1 h2, AV.rels_cut l _ u.2 h3⟩
end
/-- The second list says less, and names less. -/
def frLe (n : Nat) : List AV → List AV → Prop
  | [], [] => True
  | _ :: l, .any :: m => frLe n l m
  | a :: l, b :: m => (a = b ∧ a.under n = true) ∧ frLe n l m
  | _, _ => False
theorem frLe_rels {β : Nm} {n : Nat} : ∀ {l m : List AV} {ys : List Value}, frLe n l m → AV.rels β l ys → AV.rels (β.cut n) m ys
  | [], [], _, _, e => by simpa [AV.rels] using e
  | [], _ :: _, _, h, _ => h.elim
  | a :: l, [], _, h, _ => by simp [frLe] at h
  | a :: l, b :: m, ys, h, e => by
    simp only [AV.rels] at e ⊢
    obtain ⟨y, zs, h1, h2, h3⟩ := e
    by_cases hb : b = .any
    · subst hb
      exact ⟨y, zs, h1, by simp only [AV.rel], frLe_rels (by simpa [frLe] using h) h3⟩
    · have h' : (a = b ∧ a.under n = true) ∧ frLe n l m := by
        unfold frLe at h
        split at h
        · rename_i h4 h5; cases h4
        · rename_i h4 h5; cases h5; exact absurd rfl hb
        · rename_i h4 h5; cases h4; cases h5; exact h
        · exact h.elim
      obtain ⟨⟨rfl, hu⟩, h6⟩ := h'
      exact ⟨y, zs, h1, AV.rel_cut _ _ hu h2, frLe_rels h6 h3⟩
def Blk.wk (n : Nat) : Blk → Blk → Prop
  | _, .gone => True
  | .cells t l, .cells t' l' => t = t' ∧ frLe n l l'
  | .own e sz k xs, .own e' sz' k' xs' => e = e' ∧ sz = sz' ∧ k = k' ∧ xs = xs'
  | _, _ => False
def hpLe (n : Nat) : List Blk → List Blk → Prop
  | _, [] => True
  | x :: l, y :: m => x.wk n y ∧ hpLe n l m
  | _, _ => False
theorem hpLe_get {n : Nat} : ∀ {l m : List Blk} {k : Nat} {y : Blk}, hpLe n l m → m[k]? = some y → ∃ x, l[k]? = some x ∧ x.wk n y
  | _, [], _, _, _, h => by simp at h
  | [], y :: m, _, _, h, _ => by simp [hpLe] at h
  | x :: l, y :: m, 0, z, h, e => by simp at e; subst e; exact ⟨x, by simp, h.1⟩
  | x :: l, y :: m, k + 1, z, h, e => by
    obtain ⟨x', h1, h2⟩ := hpLe_get h.2 (k := k) (by simpa using e)
    exact ⟨x', by simpa using h1, h2⟩
theorem Blk.wk_rel {base n : Nat} {β : Nm} {G : Mem} {w : World} {x x' : Blk} {y : Value} (h : x.wk n x') (e : x.rel base β G w y) : x'.rel base (β.cut n) G w y := by
  cases x' with
  | gone => trivial
  | cells t' l' =>
    cases x with
    | cells t l =>
      obtain ⟨rfl, h2⟩ := h
      obtain ⟨b, c, h3, h4, h5, h6, h7⟩ := e
      exact ⟨b, c, h3, h4, h5, h6, frLe_rels h2 h7⟩
    | _ => exact h.elim
  | own e' sz' k' xs' =>
    cases x with
    | own e sz k xs =>
      obtain ⟨rfl, rfl, rfl, rfl⟩ := h
      exact e
    | _ => exact h.elim
theorem HR.weaken {w0 : World} {G0 : Mem} {β : Nm} {hp hp' : List Blk} {G : Mem} {w : World} (h : HR w0 G0 β hp G w) {n : Nat} (hn : hp'.length = n) (hl : hpLe n hp hp') : HR w0 G0 (β.cut n) hp' G w where
  below := h.below
  hold := h.hold
  sub := h.sub
  grow := h.grow
  blk := fun k y hk => by
    obtain ⟨h1, h2⟩ := Nm.cut_some hk
    obtain ⟨x, h3, h4⟩ := h.blk k y h2
    have h5 : hp'[k]? = some hp'[k] := List.getElem?_eq_getElem (by omega)
    obtain ⟨x', h6, h7⟩ := hpLe_get hl h5
    rw [h3] at h6; cases h6
    exact ⟨_, h5, Blk.wk_rel h7 h4⟩
  inj := fun j j' z z' u u' c hne hj hj' hu hu' hul hul' hz hz' => by
    obtain ⟨x, h1, h2⟩ := hpLe_get hl hu
    obtain ⟨x', h1', h2'⟩ := hpLe_get hl hu'
    have live : ∀ {a b : Blk}, a.wk n b → b.live = true → a.live = true := fun {a b} hw hb => by
      cases b <;> cases a <;> simp_all [Blk.wk, Blk.live]
    exact h.inj j j' z z' x x' c hne (Nm.cut_some hj).2 (Nm.cut_some hj').2 h1 h1' (live h2 hul) (live h2' hul') hz hz'
end Go.Proofs.Ytampdegpfndggaa
