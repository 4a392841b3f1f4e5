/-
  The engine: weakening, step by step. No program in sight.
-/
import Derived.Test.YtampdegpfndggaaEt
namespace Go.Proofs.Ytampdegpfndggaa
open Go.RowKit
set_option linter.unusedVariables false
set_option linter.unusedSimpArgs false
set_option linter.unnecessarySimpa false

theorem frLe_nil {n : Nat} : frLe n [] [] := trivial
theorem frLe_any {n : Nat} {a : AV} {l m : List AV} (h : frLe n l m) : frLe n (a :: l) (.any :: m) := h
theorem frLe_eq {n : Nat} {a b : AV} {l m : List AV} (e : a = b) (u : a.under n = true) (h : frLe n l m) : frLe n (a :: l) (b :: m) := by
  subst e
  cases a <;> first | exact ⟨⟨rfl, u⟩, h⟩ | exact h
theorem frLe_val {n : Nat} {x : Value} {l m : List AV} (h : frLe n l m) : frLe n (.val x :: l) (.val x :: m) := frLe_eq rfl rfl h
theorem frLe_val' {n : Nat} {a b : AV} {l m : List AV} (e : a = b) (hb : b.under n = true) (h : frLe n l m) : frLe n (a :: l) (b :: m) := frLe_eq e (by rw [e]; exact hb) h
theorem hpLe_nil {n : Nat} {l : List Blk} : hpLe n l [] := by cases l <;> trivial
theorem hpLe_gone {n : Nat} {x : Blk} {l m : List Blk} (h : hpLe n l m) : hpLe n (x :: l) (.gone :: m) := ⟨by cases x <;> trivial, h⟩
theorem hpLe_cells {n : Nat} {t : TypeId} {cs ds : List AV} {l m : List Blk} (e : frLe n cs ds) (h : hpLe n l m) : hpLe n (.cells t cs :: l) (.cells t ds :: m) := ⟨⟨rfl, e⟩, h⟩
theorem hpLe_own {n : Nat} {e : TypeId} {sz k k' : Nat} {xs ys : List Value} {l m : List Blk} (hk : k = k') (hx : xs = ys) (h : hpLe n l m) : hpLe n (.own e sz k xs :: l) (.own e sz k' ys :: m) := by
  subst hk; subst hx; exact ⟨⟨rfl, rfl, rfl, rfl⟩, h⟩
theorem int_eq {k : IntKind} {x y : Int} (h : x = y) : AV.val (.int k x) = .val (.int k y) := by rw [h]
theorem bool_eq {x y : Bool} (h : x = y) : AV.val (.bool x) = .val (.bool y) := by rw [h]
theorem slice_eq {A A' : Option Addr} {n n' c c' : Nat} (h : A = A') (h2 : n = n') (h3 : c = c') : AV.val (.slice A n c) = .val (.slice A' n' c') := by rw [h, h2, h3]
/-- The head of a loop, written out. -/
theorem Le_head {n0 : Nat} {fr : List AV} {hp : List Blk} {G : Mem} {b : Code} {fr0 : List AV} {S : List (Nat × AV)} {hp' : List Blk} {G' : Mem} (h : natsF (written b []) fun ws => havocF ws 0 fr0 fun fr1 => setAllF fr1 S fun fr2 => Le n0 fr hp G fr2 hp' G') :
    Le n0 fr hp G (headFr b fr0 S) hp' G' := by
  rw [natsF_eq, havocF_eq, setAllF_eq] at h; exact h
/-- A name moves, written out. -/
def mvsF (q k : Nat) (l : List AV) : (List AV → Prop) → Prop :=
  List.rec (motive := fun _ => (List AV → Prop) → Prop) (fun K => K []) (fun a _ ih K => ih fun m => forceA (AV.mv q k a) fun a' => K (a' :: m)) l
theorem mvsF_eq (q k : Nat) : ∀ (l : List AV) (K : List AV → Prop), mvsF q k l K = K (AV.mvs q k l)
  | [], _ => rfl
  | a :: l, K => by
    show mvsF q k l (fun m => forceA (AV.mv q k a) fun a' => K (a' :: m)) = _
    rw [mvsF_eq q k l, forceA_eq]; rfl
def mvBF (q k : Nat) (l : List Blk) : (List Blk → Prop) → Prop :=
  List.rec (motive := fun _ => (List Blk → Prop) → Prop) (fun K => K []) (fun x _ ih K => ih fun m => match x with
    | .cells t cs => mvsF q k cs fun cs' => K (.cells t cs' :: m)
    | .own e sz n xs => K (.own e sz n xs :: m)
    | .gone => K (.gone :: m)) l
theorem mvBF_eq (q k : Nat) : ∀ (l : List Blk) (K : List Blk → Prop), mvBF q k l K = K (mvB q k l)
  | [], _ => rfl
  | x :: l, K => by
    show mvBF q k l (fun m => match x with
      | .cells t cs => mvsF q k cs fun cs' => K (.cells t cs' :: m)
      | .own e sz n xs => K (.own e sz n xs :: m)
      | .gone => K (.gone :: m)) = _
    rw [mvBF_eq q k l]
    cases x with
    | cells t cs => simp only [mvsF_eq]; rfl
    | own e sz n xs => rfl
    | gone => rfl
def forceB (x : Blk) (K : Blk → Prop) : Prop :=
  match x with
  | .cells t cs => K (.cells t cs)
  | .own e sz n xs => K (.own e sz n xs)
  | .gone => K .gone
theorem forceB_eq (x : Blk) (K : Blk → Prop) : forceB x K = K x := by cases x <;> rfl
theorem Le_move (q k : Nat) {n0 : Nat} {fr fr' : List AV} {hp hp' : List Blk} {G G' : Mem} (h1 : Nat.ble n0 q = true) (h2 : Nat.ble n0 k = true) (h3 : Nat.blt k q = true) (h4 : Nat.blt q hp.length = true)
    (h : mvsF q k fr fun fr1 => mvBF q k hp fun hp1 => forceB (nthB hp1 q) fun x => setF hp1 k x fun hp2 => setF hp2 q .gone fun hp3 => Le n0 fr1 hp3 G fr' hp' G') : Le n0 fr hp G fr' hp' G' := by
  rw [mvsF_eq, mvBF_eq, forceB_eq, setF_eq, setF_eq] at h
  exact Le_mv h1 h2 h3 h4 h
/-- A nil slice gets a name, written out. -/
def zipNilF (k : Nat) (l : List AV) : List AV → (List AV → Prop) → Prop :=
  List.rec (motive := fun _ => List AV → (List AV → Prop) → Prop) (fun _ K => K []) (fun a l ih m K => match m with
    | b :: m => ih m fun r => forceA (match b with
      | .own j => match a with
        | .val (.slice none 0 0) => cond (Nat.beq j k) (.own k) (.val (.slice none 0 0))
        | a => a
      | _ => a) fun a' => K (a' :: r)
    | [] => K (a :: l)) l
theorem zipNilF_eq (k : Nat) : ∀ (l m : List AV) (K : List AV → Prop), zipNilF k l m K = K (zipNil k l m)
  | [], m, _ => by cases m <;> rfl
  | a :: l, [], _ => rfl
  | a :: l, b :: m, K => by
    show zipNilF k l m _ = _
    rw [zipNilF_eq k l m, forceA_eq]
    rfl
def zipNilBF (k : Nat) (l : List Blk) : List Blk → (List Blk → Prop) → Prop :=
  List.rec (motive := fun _ => List Blk → (List Blk → Prop) → Prop) (fun _ K => K []) (fun x l ih m K => match m with
    | y :: m => ih m fun r => match x, y with
      | .cells t cs, .cells _ ds => zipNilF k cs ds fun cs' => K (.cells t cs' :: r)
      | x, _ => K (x :: r)
    | [] => K (x :: l)) l
theorem zipNilBF_eq (k : Nat) : ∀ (l m : List Blk) (K : List Blk → Prop), zipNilBF k l m K = K (zipNilB k l m)
  | [], m, _ => by cases m <;> rfl
  | a :: l, [], _ => rfl
  | x :: l, y :: m, K => by
    show zipNilBF k l m _ = _
    rw [zipNilBF_eq k l m]
    cases x with
    | cells t cs =>
      cases y with
      | cells t' ds => exact zipNilF_eq k cs ds _
      | own e sz n xs => rfl
      | gone => rfl
    | own e sz n xs => cases y <;> rfl
    | gone => cases y <;> rfl
theorem Le_own {n0 : Nat} (E : TypeId) (sz : Nat) {fr fr' : List AV} {hp hp' : List Blk} {G G' : Mem} (h : lenF hp fun k => zipNilBF k hp hp' fun hp1 => catF hp1 [.own E sz 0 []] fun hq => zipNilF k fr fr' fun fr1 => Le n0 fr1 hq G fr' hp' G') : Le n0 fr hp G fr' hp' G' := by
  refine Le_nil E sz ?_
  have h0 := lenF_eq h
  rw [zipNilBF_eq, catF_eq, zipNilF_eq] at h0
  have key : ∀ (l : List Blk) (ns : List Nat) (i : Nat) (K : Nat → Prop), (∀ j, j < l.length + 1 → ns[j]? = some (i + j)) → K (i + l.length) → lenFrom l ns K := by
    intro l
    induction l with
    | nil =>
      intro ns i K hn hK
      cases ns with
      | nil => have h1 := hn 0 (Nat.succ_pos _); cases h1
      | cons n ns =>
        have h1 := hn 0 (Nat.succ_pos _)
        simp only [List.getElem?_cons_zero, Nat.add_zero, Option.some.injEq] at h1
        subst h1; exact hK
    | cons x l ih =>
      intro ns i K hn hK
      cases ns with
      | nil => have h1 := hn 0 (Nat.succ_pos _); cases h1
      | cons n ns =>
        refine ih ns (i + 1) K (fun j hj => ?_) ?_
        · have := hn (j + 1) (by simp only [List.length_cons]; omega)
          simp at this; rw [this]; congr 1; omega
        · rw [List.length_cons] at hK; rw [show i + 1 + l.length = i + (l.length + 1) by omega]; exact hK
  have hl : hp.length < 129 := by
    unfold lenF at h
    have : ∀ (l : List Blk) (ns : List Nat) (K : Nat → Prop), lenFrom l ns K → l.length < ns.length := by
      intro l
      induction l with
      | nil => intro ns K h; cases ns with
        | nil => exact h.elim
        | cons n ns => simp
      | cons x l ih => intro ns K h; cases ns with
        | nil => exact h.elim
        | cons n ns => have := ih ns K h; simp; exact this
    exact this hp lits _ h
  unfold lenF
  refine key hp lits 0 _ (fun j hj => ?_) ?_
  · have : ∀ j, j < 129 → lits[j]? = some j := by decide
    rw [this j (by omega)]; simp
  · rw [Nat.zero_add, catF_eq]; exact h0
theorem OwnCells_one {xs : List Value} {o : Nat} {K : List Value → Prop} (v : Value) (h : xs[o]? = some v) (k : K [v]) : OwnCells xs o 1 K :=
  ⟨[v], ⟨rfl, fun j u hj => by
    cases j with
    | zero => simp at hj; subst hj; simpa using h
    | succ j => simp at hj⟩, k⟩
theorem OwnCells_run {xs : List Value} {o n : Nat} {K : List Value → Prop} (h : subF xs o n K) : OwnCells xs o n K := by
  obtain ⟨h1, h2⟩ := subF_eq h
  refine ⟨_, ⟨by rw [List.length_take, List.length_drop]; omega, fun j v hj => ?_⟩, h2⟩
  rw [List.getElem?_take] at hj
  split at hj
  · simpa using hj
  · cases hj
theorem OwnCells_list {xs : List Value} {o n : Nat} {K : List Value → Prop} (vs : List Value) (hn : vs.length = n) (h : ∀ (j : Nat) v, vs[j]? = some v → xs[o + j]? = some v) (k : K vs) : OwnCells xs o n K := ⟨vs, ⟨hn, h⟩, k⟩
theorem OldCells_one {G : Mem} {a : Addr} {K : List Value → Prop} (v : Value) (h : G.cell? a = some v) (k : K [v]) : OldCells G a 1 K :=
  ⟨[v], ⟨rfl, fun j u hj => by
    cases j with
    | zero => simp at hj; subst hj; simpa [Addr.add] using h
    | succ j => simp at hj⟩, k⟩
theorem OldCells_list {G : Mem} {a : Addr} {n : Nat} {K : List Value → Prop} (vs : List Value) (hn : vs.length = n) (h : G.cellsAt a vs) (k : K vs) : OldCells G a n K := ⟨vs, ⟨hn, h⟩, k⟩
end Go.Proofs.Ytampdegpfndggaa
