/-
  The engine: tables of types, and list functions that pass their result on written out. No program in sight.
-/
import Derived.Test.YtampdegpfndggaaEa
namespace Go.Proofs.Ytampdegpfndggaa
open Go.RowKit
set_option linter.unusedVariables false
set_option linter.unusedSimpArgs false
set_option linter.unnecessarySimpa false

/-! ### List functions that pass their result on -/
def setF {α : Type} : List α → Nat → α → (List α → Prop) → Prop
  | [], _, _, K => K []
  | _ :: l, 0, x, K => K (x :: l)
  | y :: l, n + 1, x, K => setF l n x fun m => K (y :: m)
theorem setF_eq {α : Type} : ∀ (l : List α) (n : Nat) (x : α) (K : List α → Prop), setF l n x K = K (l.set n x)
  | [], _, _, _ => rfl
  | _ :: _, 0, _, _ => rfl
  | y :: l, n + 1, x, K => by simp [setF, setF_eq l n x]
def catF {α : Type} : List α → List α → (List α → Prop) → Prop
  | [], m, K => K m
  | x :: l, m, K => catF l m fun r => K (x :: r)
theorem catF_eq {α : Type} : ∀ (l m : List α) (K : List α → Prop), catF l m K = K (l ++ m)
  | [], _, _ => rfl
  | x :: l, m, K => by simp [catF, catF_eq l m]
def takeF {α : Type} : List α → Nat → (List α → Prop) → Prop
  | _, 0, K => K []
  | [], _ + 1, _ => False
  | x :: l, n + 1, K => takeF l n fun r => K (x :: r)
theorem takeF_eq {α : Type} : ∀ (l : List α) (n : Nat) (K : List α → Prop), takeF l n K → n ≤ l.length ∧ K (l.take n)
  | _, 0, _, h => ⟨Nat.zero_le _, by simpa [takeF] using h⟩
  | [], n + 1, _, h => by simp [takeF] at h
  | x :: l, n + 1, K, h => by
    have := takeF_eq l n _ h
    exact ⟨by simp; exact this.1, by simpa using this.2⟩
def dropF {α : Type} : List α → Nat → (List α → Prop) → Prop
  | l, 0, K => K l
  | [], _ + 1, _ => False
  | _ :: l, n + 1, K => dropF l n K
theorem dropF_eq {α : Type} : ∀ (l : List α) (n : Nat) (K : List α → Prop), dropF l n K → n ≤ l.length ∧ K (l.drop n)
  | l, 0, _, h => by
    cases l <;> exact ⟨Nat.zero_le _, by simpa [dropF] using h⟩
  | [], n + 1, _, h => by simp [dropF] at h
  | x :: l, n + 1, K, h => by
    have := dropF_eq l n _ h
    exact ⟨by simp; exact this.1, by simpa using this.2⟩
def subF {α : Type} (l : List α) (off n : Nat) (K : List α → Prop) : Prop := dropF l off fun m => takeF m n K
theorem subF_eq {α : Type} {l : List α} {off n : Nat} {K : List α → Prop} (h : subF l off n K) : off + n ≤ l.length ∧ K ((l.drop off).take n) := by
  obtain ⟨h1, h2⟩ := dropF_eq _ _ _ h
  obtain ⟨h3, h4⟩ := takeF_eq _ _ _ h2
  rw [List.length_drop] at h3
  exact ⟨by omega, h4⟩
def overF {α : Type} : List α → List α → (List α → Prop) → Prop
  | l, [], K => K l
  | [], _ :: _, _ => False
  | _ :: l, y :: m, K => overF l m fun r => K (y :: r)
theorem overF_eq {α : Type} : ∀ (l m : List α) (K : List α → Prop), overF l m K → m.length ≤ l.length ∧ K (m ++ l.drop m.length)
  | l, [], _, h => by
    cases l <;> exact ⟨Nat.zero_le _, by simpa [overF] using h⟩
  | [], _ :: _, _, h => by simp [overF] at h
  | x :: l, y :: m, K, h => by
    have := overF_eq l m _ h
    exact ⟨by simp; exact this.1, by simpa using this.2⟩
def spliceF {α : Type} : List α → Nat → List α → (List α → Prop) → Prop
  | l, 0, m, K => overF l m K
  | [], _ + 1, _, _ => False
  | x :: l, n + 1, m, K => spliceF l n m fun r => K (x :: r)
theorem spliceF_eq {α : Type} : ∀ (l : List α) (n : Nat) (m : List α) (K : List α → Prop), spliceF l n m K → n + m.length ≤ l.length ∧ K (l.take n ++ m ++ l.drop (n + m.length))
  | l, 0, m, K, h => by
    have h' : overF l m K := by cases l <;> exact h
    have := overF_eq _ _ _ h'
    exact ⟨by omega, by simpa using this.2⟩
  | [], n + 1, _, _, h => by simp [spliceF] at h
  | x :: l, n + 1, m, K, h => by
    have := spliceF_eq l n m _ h
    refine ⟨by simp; omega, ?_⟩
    have e : n + 1 + m.length = (n + m.length) + 1 := by omega
    rw [e]
    simpa using this.2
def lits : List Nat := [0, 1, 2, 3, 4, 5, 6, 7, 8, 9, 10, 11, 12, 13, 14, 15, 16, 17, 18, 19, 20, 21, 22, 23, 24, 25, 26, 27, 28, 29, 30, 31, 32, 33, 34, 35, 36, 37, 38, 39, 40, 41, 42, 43, 44, 45, 46, 47, 48, 49, 50, 51, 52, 53, 54, 55, 56, 57, 58, 59, 60, 61, 62, 63, 64, 65, 66, 67, 68, 69, 70, 71, 72, 73, 74, 75, 76, 77, 78, 79, 80, 81, 82, 83, 84, 85, 86, 87, 88, 89, 90, 91, 92, 93, 94, 95, 96, 97, 98, 99, 100, 101, 102, 103, 104, 105, 106, 107, 108, 109, 110, 111, 112, 113, 114, 115, 116, 117, 118, 119, 120, 121, 122, 123, 124, 125, 126, 127, 128]
def lenFrom {α : Type} : List α → List Nat → (Nat → Prop) → Prop
  | [], n :: _, K => K n
  | _ :: l, _ :: ns, K => lenFrom l ns K
  | _, [], _ => False
theorem lenFrom_eq {α : Type} : ∀ (l : List α) (ns : List Nat) (i : Nat) (K : Nat → Prop), (∀ j n, ns[j]? = some n → n = i + j) → lenFrom l ns K → K (i + l.length)
  | [], n :: _, i, K, hn, h => by have := hn 0 n (by simp); simp only [lenFrom] at h; rw [List.length_nil, ← this]; exact h
  | _ :: l, _ :: ns, i, K, hn, h => by
    have := lenFrom_eq l ns (i + 1) K (fun j n hj => by have := hn (j + 1) n (by simpa using hj); omega) h
    rw [List.length_cons, Nat.add_comm l.length 1, ← Nat.add_assoc]; exact this
  | [], [], _, _, _, h => by simp [lenFrom] at h
  | _ :: _, [], _, _, _, h => by simp [lenFrom] at h
def lenF {α : Type} (l : List α) (K : Nat → Prop) : Prop := lenFrom l lits K
theorem lits_get : ∀ j n, lits[j]? = some n → n = 0 + j := by
  intro j n h
  have hl : j < 129 := (List.getElem?_eq_some_iff.1 h).1
  have : ∀ j, j < 129 → lits[j]? = some j := by decide
  rw [this j hl] at h; cases h; omega
theorem lenF_eq {α : Type} {l : List α} {K : Nat → Prop} (h : lenF l K) : K l.length := by
  simpa using lenFrom_eq l lits 0 K lits_get h
/-- A test that is reckoned out. -/
def testP (b : Bool) (A : Prop) : Prop :=
  match b with
  | true => A
  | false => False
theorem testP_eq {b : Bool} {A : Prop} (h : testP b A) : b = true ∧ A := by cases b <;> first | exact h.elim | exact ⟨rfl, h⟩
def elemN (i : Nat) : List Nat → Bool
  | [] => false
  | w :: ws => match Nat.beq i w with
    | true => true
    | false => elemN i ws
def allOne : List Value → Bool
  | [] => true
  | v :: l => v.oneCell' && allOne l
theorem allOne_eq : ∀ {l : List Value}, allOne l = true → ∀ v ∈ l, v.oneCell' = true
  | [], _, v, h => by cases h
  | u :: l, h, v, hv => by
    simp only [allOne, Bool.and_eq_true] at h
    rcases List.mem_cons.1 hv with rfl | hv
    · exact h.1
    · exact allOne_eq h.2 v hv
def nthV : List Value → Nat → (Value → Prop) → Prop
  | [], _, _ => False
  | x :: _, 0, K => K x
  | _ :: l, n + 1, K => nthV l n K
theorem nthV_eq : ∀ {l : List Value} {n : Nat} {K : Value → Prop}, nthV l n K → ∃ v, l[n]? = some v ∧ K v
  | [], _, _, h => h.elim
  | x :: _, 0, _, h => ⟨x, by simp, h⟩
  | _ :: l, n + 1, _, h => by
    obtain ⟨v, h1, h2⟩ := nthV_eq (l := l) (n := n) h
    exact ⟨v, by simpa using h1, h2⟩
def nthA : List AV → Nat → AV
  | [], _ => .any
  | x :: _, 0 => x
  | _ :: l, n + 1 => nthA l n
theorem nthA_eq : ∀ (l : List AV) (n : Nat), nthA l n = (l[n]?).getD .any
  | [], _ => rfl
  | _ :: _, 0 => rfl
  | _ :: l, n + 1 => by simpa [nthA] using nthA_eq l n
/-- A value is reckoned out. -/
def forceA (a : AV) (K : AV → Prop) : Prop :=
  match a with
  | .val x => K (.val x)
  | .ptr k o => K (.ptr k o)
  | .sli k o l c => K (.sli k o l c)
  | .own k => K (.own k)
  | .agg l => K (.agg l)
  | .tup l => K (.tup l)
  | .fn f a b => K (.fn f a b)
  | .any => K .any
theorem forceA_eq (a : AV) (K : AV → Prop) : forceA a K = K a := by cases a <;> rfl
def nthB : List Blk → Nat → Blk
  | [], _ => .gone
  | x :: _, 0 => x
  | _ :: l, n + 1 => nthB l n
theorem nthB_eq : ∀ (l : List Blk) (n : Nat), nthB l n = (l[n]?).getD .gone
  | [], _ => rfl
  | _ :: _, 0 => rfl
  | _ :: l, n + 1 => by simpa [nthB] using nthB_eq l n
theorem nthB_live {l : List Blk} {n : Nat} {x : Blk} (h : nthB l n = x) (hl : x.live = true) : l[n]? = some x := by
  rw [nthB_eq] at h
  cases hx : l[n]? with
  | none => rw [hx] at h; subst h; simp [Blk.live] at hl
  | some y => rw [hx] at h; simpa using h
def valsF : List Value → (List AV → Prop) → Prop
  | [], K => K []
  | x :: l, K => valsF l fun m => K (.val x :: m)
theorem valsF_eq : ∀ (l : List Value) (K : List AV → Prop), valsF l K = K (l.map .val)
  | [], _ => rfl
  | x :: l, K => by simp [valsF, valsF_eq l]
/-- All are plain values. -/
def plainF : List AV → (List Value → Prop) → Prop
  | [], K => K []
  | .val x :: l, K => plainF l fun m => K (x :: m)
  | _ :: _, _ => False
theorem plainF_eq : ∀ (l : List AV) (K : List Value → Prop), plainF l K → ∃ m, l = m.map .val ∧ K m
  | [], K, h => ⟨[], rfl, h⟩
  | .val x :: l, K, h => by
    obtain ⟨m, rfl, h2⟩ := plainF_eq l _ h
    exact ⟨x :: m, rfl, h2⟩
  | .ptr _ _ :: _, _, h => h.elim
  | .sli _ _ _ _ :: _, _, h => h.elim
  | .own _ :: _, _, h => h.elim
  | .agg _ :: _, _, h => h.elim
  | .tup _ :: _, _, h => h.elim
  | .fn _ _ _ :: _, _, h => h.elim
  | .any :: _, _, h => h.elim
theorem rels_plain {β : Nm} : ∀ {m ys : List Value}, AV.rels β (m.map .val) ys → ys = m
  | [], ys, h => by simpa [AV.rels] using h
  | x :: m, ys, h => by
    simp only [List.map_cons, AV.rels] at h
    obtain ⟨y, zs, rfl, h2, h3⟩ := h
    simp only [AV.rel] at h2
    rw [h2, rels_plain h3]
/-- A cell can hold it. -/
def AV.cell : AV → Bool
  | .val x => x.oneCell'
  | .ptr _ _ => true
  | .sli _ _ _ _ => true
  | .fn _ _ _ => true
  | .own _ => true
  | _ => false
def AV.cells : List AV → Bool
  | [] => true
  | a :: l => a.cell && AV.cells l
theorem AV.cell_rel {β : Nm} {a : AV} {y : Value} (h : a.cell = true) (e : AV.rel β a y) : y.oneCell' = true := by
  cases a <;> simp only [AV.cell] at h <;> simp only [AV.rel] at e
  · rw [e]; exact h
  · obtain ⟨_, _, _, _, rfl⟩ := e; rfl
  · obtain ⟨_, _, _, _, rfl⟩ := e; rfl
  · obtain ⟨_, e2⟩ := e
    cases y <;> first | rfl | cases e2
  · cases h
  · cases h
  · obtain ⟨_, _, rfl, _⟩ := e; rfl
  · cases h
theorem AV.cells_rel {β : Nm} : ∀ {l : List AV} {ys : List Value}, AV.cells l = true → AV.rels β l ys → ∀ y ∈ ys, y.oneCell' = true
  | [], _, _, e => by simp only [AV.rels] at e; subst e; simp
  | a :: l, _, h, e => by
    simp only [AV.rels] at e
    obtain ⟨y, zs, rfl, h2, h3⟩ := e
    simp only [AV.cells, Bool.and_eq_true] at h
    intro z hz
    rcases List.mem_cons.1 hz with rfl | hz
    · exact AV.cell_rel h.1 h2
    · exact AV.cells_rel h.2 h3 z hz

/-! ### Tables of types -/
inductive TD where
  | int (k : IntKind)
  | bool
  | str
  | ptr
  | slice (e : TypeId)
  | arr (n : Nat) (e : TypeId)
  | strct (fs : List (Nat × TypeId))
  | fn
  | other
  deriving Inhabited
structure TI where
  td : TD
  size : Nat
  bytes : Nat
  zero : List Value
  deriving Inhabited
def tdOf (P : Program) (t : TypeId) : TD :=
  match P.underlying t with
  | some (.int k) => .int k
  | some .bool => .bool
  | some .string => .str
  | some (.pointer _) => .ptr
  | some (.slice e) => .slice e
  | some (.array n e) => .arr n e
  | some (.struct fs) => .strct (fs.toList.map fun f => (f.offset, f.type))
  | some (.func _ _ _) => .fn
  | _ => .other
def tiOf (P : Program) (t : TypeId) : Option TI := (P.info? t).bind fun i => i.zero.map fun z => ⟨tdOf P t, i.size, i.bytes, z.cells.toList⟩
abbrev Tab := List (TypeId × TI)
def look : Tab → TypeId → Option TI
  | [], _ => none
  | (u, i) :: l, t => cond (Nat.beq u t) (some i) (look l t)
/-- The table is the program's. -/
def TOk (P : Program) (T : Tab) : Prop := T.map (fun e => tiOf P e.1) = T.map (fun e => some e.2)
theorem TOk.look {P : Program} : ∀ {T : Tab}, TOk P T → ∀ {t : TypeId} {i : TI}, look T t = some i → tiOf P t = some i
  | [], _, _, _, h => by simp [Go.Proofs.Ytampdegpfndggaa.look] at h
  | (u, j) :: l, hT, t, i, h => by
    simp only [TOk, List.map_cons, List.cons.injEq] at hT
    unfold Go.Proofs.Ytampdegpfndggaa.look at h
    cases he : Nat.beq u t with
    | true =>
      rw [he] at h
      have := Nat.eq_of_beq_eq_true he
      subst this
      cases h
      exact hT.1
    | false =>
      rw [he] at h
      exact TOk.look hT.2 h
structure TIok (P : Program) (t : TypeId) (i : TI) : Prop where
  info : ∃ q z, P.info? t = some q ∧ q.size = i.size ∧ q.bytes = i.bytes ∧ q.zero = some z ∧ z.cells.toList = i.zero
  td : tdOf P t = i.td
theorem tiOk {P : Program} {T : Tab} (hT : TOk P T) {t : TypeId} {i : TI} (h : look T t = some i) : TIok P t i := by
  have h1 := hT.look h
  unfold tiOf at h1
  cases hi : P.info? t with
  | none => rw [hi] at h1; cases h1
  | some q =>
    rw [hi] at h1
    simp only [Option.bind_some] at h1
    cases hz : q.zero with
    | none => rw [hz] at h1; cases h1
    | some z =>
      rw [hz] at h1
      simp only [Option.map_some, Option.some.injEq] at h1
      subst h1
      exact ⟨⟨q, z, hi, rfl, rfl, hz, rfl⟩, rfl⟩
section
variable {P : Program} {t : TypeId} {i : TI} (h : TIok P t i)
include h
theorem TIok.size (w : World) : (sizeOf t).run P w = .ok i.size w := by
  obtain ⟨q, z, h1, h2, _⟩ := h.info
  simp [sizeOf, typeInfo, h1, h2]
theorem TIok.zero (w : World) : ∃ z, (zeroValue t).run P w = .ok z w ∧ z.cells.toList = i.zero := by
  obtain ⟨q, z, h1, _, _, h4, h5⟩ := h.info
  exact ⟨z, by simp [zeroValue, typeInfo, h1, h4], h5⟩
end
/-- The walk asks for a type. -/
def withT (T : Tab) (t : TypeId) (K : TI → Prop) : Prop :=
  match look T t with
  | some i => K i
  | none => False
theorem withT_ok {P : Program} {T : Tab} (hT : TOk P T) {t : TypeId} {K : TI → Prop} (h : withT T t K) : ∃ i, TIok P t i ∧ K i := by
  unfold withT at h
  split at h
  · rename_i i hi; exact ⟨i, tiOk hT hi, h⟩
  · exact h.elim
end Go.Proofs.Ytampdegpfndggaa
