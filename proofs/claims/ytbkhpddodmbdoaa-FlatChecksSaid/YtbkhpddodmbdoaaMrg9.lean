/-
  Merged: XJoined, XEw.
-/
import Derived.Test.YtbkhpddodmbdoaaMrg8
import Derived.Test.YtbkhpddodmbdoaaEng2
import Derived.Test.YtbkhpddodmbdoaaMrg6
namespace Go.Proofs.Ytbkhpddodmbdoaa
open Go.RowKit
set_option linter.unusedVariables false
set_option maxRecDepth 20000
def flatR (L : List Run) : List Value := L.flatMap fun r => [.int .i64 r.y, .int .i64 r.x0, .int .i64 r.x1]
theorem flatR_append (K L : List Run) : flatR (K ++ L) = flatR K ++ flatR L := by simp [flatR]
theorem flatR_one (r : Run) : flatR [r] = [.int .i64 r.y, .int .i64 r.x0, .int .i64 r.x1] := by simp [flatR]
theorem flatR_length : ∀ (L : List Run), (flatR L).length = L.length * 3
  | [] => rfl
  | r :: L => by
    have := flatR_length L
    show (flatR ([r] ++ L)).length = _
    rw [flatR_append, List.length_append, this, flatR_one]; simp; omega
theorem flatR_get {L : List Run} {i : Nat} {r : Run} (h : L[i]? = some r) : (flatR L)[i * 3]? = some (.int .i64 r.y) ∧ (flatR L)[i * 3 + 1]? = some (.int .i64 r.x0) ∧ (flatR L)[i * 3 + 2]? = some (.int .i64 r.x1) := by
  obtain ⟨h1, rfl⟩ := List.getElem?_eq_some_iff.1 h
  have e : L = L.take i ++ ([L[i]] ++ L.drop (i + 1)) := by simp
  have hl : (flatR (L.take i)).length = i * 3 := by rw [flatR_length, List.length_take]; congr 1; omega
  have key : ∀ j, j < 3 → (flatR L)[i * 3 + j]? = [Value.int .i64 L[i].y, .int .i64 L[i].x0, .int .i64 L[i].x1][j]? := fun j hj => by
    conv => lhs; rw [e, flatR_append, flatR_append, flatR_one]
    rw [List.getElem?_append_right (by omega), hl, show i * 3 + j - i * 3 = j by omega, List.getElem?_append_left (by simp; omega)]
  exact ⟨key 0 (by omega), key 1 (by omega), key 2 (by omega)⟩
theorem flatR_cell {L : List Run} : ∀ v ∈ flatR L, v.oneCell' = true := fun v hv => by
  simp only [flatR, List.mem_flatMap, List.mem_cons, List.not_mem_nil, or_false] at hv
  obtain ⟨r, _, rfl | rfl | rfl⟩ := hv <;> rfl
def joinR (L : List Run) (y a b : Int) : List Run :=
  match L.getLast? with
  | some r => if r.y = y ∧ r.x1 = a then L.dropLast ++ [⟨y, r.x0, b⟩] else L ++ [⟨y, a, b⟩]
  | none => [⟨y, a, b⟩]
theorem joinR_nil {y a b : Int} : joinR [] y a b = [⟨y, a, b⟩] := by simp [joinR]
theorem joinR_join {L : List Run} {r : Run} {y a b : Int} (h1 : r.y = y) (h2 : r.x1 = a) : joinR (L ++ [r]) y a b = L ++ [⟨y, r.x0, b⟩] := by simp [joinR, h1, h2]
theorem joinR_new {L : List Run} {r : Run} {y a b : Int} (h1 : ¬ (r.y = y ∧ r.x1 = a)) : joinR (L ++ [r]) y a b = L ++ [r] ++ [⟨y, a, b⟩] := by
  unfold joinR
  have e : (L ++ [r]).getLast? = some r := by simp
  rw [e]
  simp only [if_neg h1]
theorem joinR_pos (L : List Run) (y a b : Int) : 0 < (joinR L y a b).length := by
  rcases last_or L with rfl | ⟨K, r, rfl⟩
  · simp [joinR_nil]
  · by_cases h : r.y = y ∧ r.x1 = a
    · rw [joinR_join h.1 h.2]; simp
    · rw [joinR_new h]; simp
theorem joinR_length (L : List Run) (y a b : Int) : (joinR L y a b).length ≤ L.length + 1 := by
  rcases last_or L with rfl | ⟨K, r, rfl⟩
  · simp [joinR_nil]
  · by_cases h : r.y = y ∧ r.x1 = a
    · rw [joinR_join h.1 h.2]; simp
    · rw [joinR_new h]; simp
theorem joinR_add {L : List Run} {y a b : Int} (hu : upTo L y a) (h : a < b) : joinR L y a b = addR L y a b := by
  rcases last_or L with rfl | ⟨K, r, rfl⟩
  · rw [joinR_nil, addR_nil (by omega)]
  · have hr := hu r (by simp)
    by_cases h1 : r.y = y ∧ a ≤ r.x1
    · rw [addR_join (by omega) h1.1 h1.2, joinR_join h1.1 (by omega)]
      have : max r.x1 b = b := by omega
      rw [this]
    · rw [addR_new (by omega) h1, joinR_new (by omega)]
theorem flat_last (K : List Run) (r : Run) : (flatR (K ++ [r]))[K.length * 3]? = some (.int .i64 r.y) ∧ (flatR (K ++ [r]))[K.length * 3 + 1]? = some (.int .i64 r.x0) ∧ (flatR (K ++ [r]))[K.length * 3 + 2]? = some (.int .i64 r.x1) :=
  flatR_get (by simp)
theorem flat_set (K : List Run) (r : Run) (b : Int) : (flatR (K ++ [r])).take (K.length * 3 + 2) ++ [.int .i64 b] ++ (flatR (K ++ [r])).drop (K.length * 3 + 2 + 1) = flatR (K ++ [⟨r.y, r.x0, b⟩]) := by
  have hl := flatR_length K
  rw [flatR_append, flatR_append, flatR_one, flatR_one, List.take_append, List.drop_append, hl]
  rw [List.take_of_length_le (by omega), List.drop_of_length_le (by omega)]
  simp [show K.length * 3 + 2 - K.length * 3 = 2 by omega, show K.length * 3 + 2 + 1 - K.length * 3 = 3 by omega]
theorem last_ix (K : List Run) (r : Run) : (((K ++ [r]).length : Nat) : Int) - 1 = (K.length : Int) := by simp
theorem join_fin {K : List Run} {r : Run} {y a b : Int} (h1 : r.y = y) (h2 : r.x1 = a) :
    Blk.own 54 3 (K ++ [r]).length ((flatR (K ++ [r])).take (((((K ++ [r]).length : Nat) : Int) - 1).toNat * 3 + 2) ++ [.int .i64 b] ++ (flatR (K ++ [r])).drop (((((K ++ [r]).length : Nat) : Int) - 1).toNat * 3 + 2 + [Value.int .i64 b].length)) =
      .own 54 3 (joinR (K ++ [r]) y a b).length (flatR (joinR (K ++ [r]) y a b)) := by
  rw [joinR_join h1 h2, ← h1, last_ix, Int.toNat_natCast, List.length_singleton, flat_set K r b]
  rw [show (K ++ [(⟨r.y, r.x0, b⟩ : Run)]).length = (K ++ [r]).length by simp]
set_option maxHeartbeats 1000000 in
theorem joined_takes (L : List Run) (y a b : Int) (G : Mem) (hl : L.length ≤ 1000000000000) : Takes Try.prog 32 [.val (.int .i64 y), .val (.int .i64 a), .val (.int .i64 b)] G 54 3 L.length (flatR L) (joinR L y a b).length (flatR (joinR L y a b)) := by
  refine Takes_of tab_ok Try.func32 (joinR_pos L y a b) fun G' _ => ?_
  rcases last_or L with rfl | ⟨K, r, rfl⟩
  · simp only [List.length_nil, show flatR [] = [] from rfl]
    (repeat ((try (conv => whnf)); (first | (with_reducible first | refine condP_true ?_ | refine condP_false ?_ | refine condP_not ?_ | refine condP_and ?_) | ((with_reducible refine condP_dt ?_ ?_); (· omega)) | ((with_reducible refine condP_df ?_ ?_); (· omega)) | ((with_reducible refine condP_yes ?_ ?_); (· assumption)) | ((with_reducible refine condP_no ?_ ?_); (· assumption)) | ((with_reducible refine ArP_i64 ?_ ?_); (· omega)) | ((with_reducible refine mustP.mk ?_ ?_); (· first | omega | rfl | (dsimp only; omega))) | (with_reducible first | refine EqP_nil tab_ok ?_ | refine EqP_sli tab_ok ?_ | refine DrawP_auto tab_ok (by kernel_rfl) (by decide +kernel) ?_ | refine DrawP_auto2 tab_ok (by kernel_rfl) (by decide +kernel) ?_ | refine eq27 ?_ | refine eq44 ?_ | refine eq54 ?_ | refine eq76 ?_ | refine eq134 ?_))))
    conv => whnf
    exact ⟨2, rfl, by rw [joinR_nil]; rfl⟩
  · obtain ⟨c0, c1, c2⟩ := flat_last K r
    have hkl : ((K ++ [r]).length : Int) = K.length + 1 := by simp
    have ei : ((((K ++ [r]).length : Nat) : Int) - 1).toNat = K.length := by omega
    by_cases h1 : r.y = y
    · by_cases h2 : r.x1 = a
      · (repeat ((try (conv => whnf)); (first | (with_reducible first | refine condP_true ?_ | refine condP_false ?_ | refine condP_not ?_ | refine condP_and ?_) | ((with_reducible refine condP_dt ?_ ?_); (· omega)) | ((with_reducible refine condP_df ?_ ?_); (· omega)) | ((with_reducible refine condP_yes ?_ ?_); (· assumption)) | ((with_reducible refine condP_no ?_ ?_); (· assumption)) | ((with_reducible refine ArP_i64 ?_ ?_); (· omega)) | ((with_reducible refine mustP.mk ?_ ?_); (· first | omega | rfl | (dsimp only; omega))) | (with_reducible first | refine EqP_nil tab_ok ?_ | refine EqP_sli tab_ok ?_ | refine DrawP_auto tab_ok (by kernel_rfl) (by decide +kernel) ?_ | refine DrawP_auto2 tab_ok (by kernel_rfl) (by decide +kernel) ?_ | refine eq27 ?_ | refine eq44 ?_ | refine eq54 ?_ | refine eq76 ?_ | refine eq134 ?_))))
        conv => whnf
        refine OwnCells_one (.int .i64 r.y) (by rw [ei]; exact c0) ?_
        (repeat ((try (conv => whnf)); (first | (with_reducible first | refine condP_true ?_ | refine condP_false ?_ | refine condP_not ?_ | refine condP_and ?_) | ((with_reducible refine condP_dt ?_ ?_); (· omega)) | ((with_reducible refine condP_df ?_ ?_); (· omega)) | ((with_reducible refine condP_yes ?_ ?_); (· assumption)) | ((with_reducible refine condP_no ?_ ?_); (· assumption)) | ((with_reducible refine ArP_i64 ?_ ?_); (· omega)) | ((with_reducible refine mustP.mk ?_ ?_); (· first | omega | rfl | (dsimp only; omega))) | (with_reducible first | refine EqP_nil tab_ok ?_ | refine EqP_sli tab_ok ?_ | refine DrawP_auto tab_ok (by kernel_rfl) (by decide +kernel) ?_ | refine DrawP_auto2 tab_ok (by kernel_rfl) (by decide +kernel) ?_ | refine eq27 ?_ | refine eq44 ?_ | refine eq54 ?_ | refine eq76 ?_ | refine eq134 ?_))))
        conv => whnf
        refine OwnCells_one (.int .i64 r.x1) (by rw [ei]; exact c2) ?_
        (repeat ((try (conv => whnf)); (first | (with_reducible first | refine condP_true ?_ | refine condP_false ?_ | refine condP_not ?_ | refine condP_and ?_) | ((with_reducible refine condP_dt ?_ ?_); (· omega)) | ((with_reducible refine condP_df ?_ ?_); (· omega)) | ((with_reducible refine condP_yes ?_ ?_); (· assumption)) | ((with_reducible refine condP_no ?_ ?_); (· assumption)) | ((with_reducible refine ArP_i64 ?_ ?_); (· omega)) | ((with_reducible refine mustP.mk ?_ ?_); (· first | omega | rfl | (dsimp only; omega))) | (with_reducible first | refine EqP_nil tab_ok ?_ | refine EqP_sli tab_ok ?_ | refine DrawP_auto tab_ok (by kernel_rfl) (by decide +kernel) ?_ | refine DrawP_auto2 tab_ok (by kernel_rfl) (by decide +kernel) ?_ | refine eq27 ?_ | refine eq44 ?_ | refine eq54 ?_ | refine eq76 ?_ | refine eq134 ?_))))
        conv => whnf
        refine mustP.mk (by rw [ei, flatR_length]; simp; omega) ?_
        (repeat ((try (conv => whnf)); (first | (with_reducible first | refine condP_true ?_ | refine condP_false ?_ | refine condP_not ?_ | refine condP_and ?_) | ((with_reducible refine condP_dt ?_ ?_); (· omega)) | ((with_reducible refine condP_df ?_ ?_); (· omega)) | ((with_reducible refine condP_yes ?_ ?_); (· assumption)) | ((with_reducible refine condP_no ?_ ?_); (· assumption)) | ((with_reducible refine ArP_i64 ?_ ?_); (· omega)) | ((with_reducible refine mustP.mk ?_ ?_); (· first | omega | rfl | (dsimp only; omega))) | (with_reducible first | refine EqP_nil tab_ok ?_ | refine EqP_sli tab_ok ?_ | refine DrawP_auto tab_ok (by kernel_rfl) (by decide +kernel) ?_ | refine DrawP_auto2 tab_ok (by kernel_rfl) (by decide +kernel) ?_ | refine eq27 ?_ | refine eq44 ?_ | refine eq54 ?_ | refine eq76 ?_ | refine eq134 ?_))))
        conv => whnf
        exact ⟨0, rfl, join_fin h1 h2⟩
      · (repeat ((try (conv => whnf)); (first | (with_reducible first | refine condP_true ?_ | refine condP_false ?_ | refine condP_not ?_ | refine condP_and ?_) | ((with_reducible refine condP_dt ?_ ?_); (· omega)) | ((with_reducible refine condP_df ?_ ?_); (· omega)) | ((with_reducible refine condP_yes ?_ ?_); (· assumption)) | ((with_reducible refine condP_no ?_ ?_); (· assumption)) | ((with_reducible refine ArP_i64 ?_ ?_); (· omega)) | ((with_reducible refine mustP.mk ?_ ?_); (· first | omega | rfl | (dsimp only; omega))) | (with_reducible first | refine EqP_nil tab_ok ?_ | refine EqP_sli tab_ok ?_ | refine DrawP_auto tab_ok (by kernel_rfl) (by decide +kernel) ?_ | refine DrawP_auto2 tab_ok (by kernel_rfl) (by decide +kernel) ?_ | refine eq27 ?_ | refine eq44 ?_ | refine eq54 ?_ | refine eq76 ?_ | refine eq134 ?_))))
        conv => whnf
        refine OwnCells_one (.int .i64 r.y) (by rw [ei]; exact c0) ?_
        (repeat ((try (conv => whnf)); (first | (with_reducible first | refine condP_true ?_ | refine condP_false ?_ | refine condP_not ?_ | refine condP_and ?_) | ((with_reducible refine condP_dt ?_ ?_); (· omega)) | ((with_reducible refine condP_df ?_ ?_); (· omega)) | ((with_reducible refine condP_yes ?_ ?_); (· assumption)) | ((with_reducible refine condP_no ?_ ?_); (· assumption)) | ((with_reducible refine ArP_i64 ?_ ?_); (· omega)) | ((with_reducible refine mustP.mk ?_ ?_); (· first | omega | rfl | (dsimp only; omega))) | (with_reducible first | refine EqP_nil tab_ok ?_ | refine EqP_sli tab_ok ?_ | refine DrawP_auto tab_ok (by kernel_rfl) (by decide +kernel) ?_ | refine DrawP_auto2 tab_ok (by kernel_rfl) (by decide +kernel) ?_ | refine eq27 ?_ | refine eq44 ?_ | refine eq54 ?_ | refine eq76 ?_ | refine eq134 ?_))))
        conv => whnf
        refine OwnCells_one (.int .i64 r.x1) (by rw [ei]; exact c2) ?_
        (repeat ((try (conv => whnf)); (first | (with_reducible first | refine condP_true ?_ | refine condP_false ?_ | refine condP_not ?_ | refine condP_and ?_) | ((with_reducible refine condP_dt ?_ ?_); (· omega)) | ((with_reducible refine condP_df ?_ ?_); (· omega)) | ((with_reducible refine condP_yes ?_ ?_); (· assumption)) | ((with_reducible refine condP_no ?_ ?_); (· assumption)) | ((with_reducible refine ArP_i64 ?_ ?_); (· omega)) | ((with_reducible refine mustP.mk ?_ ?_); (· first | omega | rfl | (dsimp only; omega))) | (with_reducible first | refine EqP_nil tab_ok ?_ | refine EqP_sli tab_ok ?_ | refine DrawP_auto tab_ok (by kernel_rfl) (by decide +kernel) ?_ | refine DrawP_auto2 tab_ok (by kernel_rfl) (by decide +kernel) ?_ | refine eq27 ?_ | refine eq44 ?_ | refine eq54 ?_ | refine eq76 ?_ | refine eq134 ?_))))
        conv => whnf
        refine ⟨2, rfl, ?_⟩
        rw [joinR_new (by omega), flatR_append _ [⟨y, a, b⟩], flatR_one]
        rw [show (K ++ [r] ++ [(⟨y, a, b⟩ : Run)]).length = (K ++ [r]).length + 1 by simp]
        rfl
    · (repeat ((try (conv => whnf)); (first | (with_reducible first | refine condP_true ?_ | refine condP_false ?_ | refine condP_not ?_ | refine condP_and ?_) | ((with_reducible refine condP_dt ?_ ?_); (· omega)) | ((with_reducible refine condP_df ?_ ?_); (· omega)) | ((with_reducible refine condP_yes ?_ ?_); (· assumption)) | ((with_reducible refine condP_no ?_ ?_); (· assumption)) | ((with_reducible refine ArP_i64 ?_ ?_); (· omega)) | ((with_reducible refine mustP.mk ?_ ?_); (· first | omega | rfl | (dsimp only; omega))) | (with_reducible first | refine EqP_nil tab_ok ?_ | refine EqP_sli tab_ok ?_ | refine DrawP_auto tab_ok (by kernel_rfl) (by decide +kernel) ?_ | refine DrawP_auto2 tab_ok (by kernel_rfl) (by decide +kernel) ?_ | refine eq27 ?_ | refine eq44 ?_ | refine eq54 ?_ | refine eq76 ?_ | refine eq134 ?_))))
      conv => whnf
      refine OwnCells_one (.int .i64 r.y) (by rw [ei]; exact c0) ?_
      (repeat ((try (conv => whnf)); (first | (with_reducible first | refine condP_true ?_ | refine condP_false ?_ | refine condP_not ?_ | refine condP_and ?_) | ((with_reducible refine condP_dt ?_ ?_); (· omega)) | ((with_reducible refine condP_df ?_ ?_); (· omega)) | ((with_reducible refine condP_yes ?_ ?_); (· assumption)) | ((with_reducible refine condP_no ?_ ?_); (· assumption)) | ((with_reducible refine ArP_i64 ?_ ?_); (· omega)) | ((with_reducible refine mustP.mk ?_ ?_); (· first | omega | rfl | (dsimp only; omega))) | (with_reducible first | refine EqP_nil tab_ok ?_ | refine EqP_sli tab_ok ?_ | refine DrawP_auto tab_ok (by kernel_rfl) (by decide +kernel) ?_ | refine DrawP_auto2 tab_ok (by kernel_rfl) (by decide +kernel) ?_ | refine eq27 ?_ | refine eq44 ?_ | refine eq54 ?_ | refine eq76 ?_ | refine eq134 ?_))))
      conv => whnf
      refine ⟨2, rfl, ?_⟩
      rw [joinR_new (by omega), flatR_append _ [⟨y, a, b⟩], flatR_one]
      rw [show (K ++ [r] ++ [(⟨y, a, b⟩ : Run)]).length = (K ++ [r]).length + 1 by simp]
      rfl
end Go.Proofs.Ytbkhpddodmbdoaa

namespace Go.Proofs.Ytbkhpddodmbdoaa
open Go.RowKit
set_option linter.unusedVariables false
set_option linter.unusedSimpArgs false
set_option linter.unnecessarySimpa false

/-- A world that holds what another one had in memory looks like a later one of a world with the same memory. -/
theorem below_of_holds {w w' : World} (h : (memOf w).holds w') : Below w.heap.size {w' with heap := w.heap} w' := by
  refine ⟨rfl, rfl, rfl, ?_, fun k hk => ?_⟩
  · rcases Nat.eq_zero_or_pos w.heap.size with h0 | h0
    · show w.heap.size ≤ _; omega
    · have hk : w.heap.size - 1 < w.heap.size := by omega
      have h1 := h (w.heap.size - 1) _ (Array.getElem?_eq_getElem hk)
      have h2 := (Array.getElem?_eq_some_iff.1 h1).1
      show w.heap.size ≤ _
      omega
  · have h1 := h k _ (Array.getElem?_eq_getElem hk)
    show w'.heap[k]? = w.heap[k]?
    rw [h1, Array.getElem?_eq_getElem hk]
theorem Sees.heap {P : Program} {w w' : World} (hh : w'.heap = w.heap) : ∀ (n : Nat) (t : TypeId) (cs : List Value), Sees P w n t cs → Sees P w' n t cs
  | 0, _, _, h => h.elim
  | n + 1, t, cs, h => by
    unfold Sees at h ⊢
    split <;> first | (rename_i ht; rw [ht] at h; simp only at h) | skip
    · exact h
    · exact h
    · exact h
    · exact ⟨h.1, fun i f hi => Sees.heap hh n _ _ (h.2 i f hi)⟩
    · exact ⟨h.1, fun i hi => Sees.heap hh n _ _ (h.2 i hi)⟩
    · rcases h with h | ⟨a, len, cap, h1, h2, h3, h4⟩
      · exact .inl h
      · refine .inr ⟨a, len, cap, h1, h2, h3, fun i hi => ?_⟩
        obtain ⟨cs', hl, hc, hs⟩ := h4 i hi
        refine ⟨cs', hl, fun j hj => ?_, Sees.heap hh n _ _ hs⟩
        rw [← hc j hj]
        simp only [World.cell?, hh]
    · trivial
theorem SliceG.holds {P : Program} {w w' : World} {e : TypeId} {A : Option Addr} {n : Nat} {g : Nat → Nat → Value} (h : SliceG P w e A n g) (hb : (memOf w).holds w') : SliceG P w' e A n g := by
  have h1 : SliceG P {w' with heap := w.heap} e A n g := by
    intro hn
    obtain ⟨b, off, hA, hlt, hc⟩ := h hn
    refine ⟨b, off, hA, hlt, fun x hx => ⟨(hc x hx).1, ?_⟩⟩
    obtain ⟨m, hm⟩ := (hc x hx).2
    exact ⟨m, Sees.heap (w := w) (w' := {w' with heap := w.heap}) rfl _ _ _ hm⟩
  exact h1.below (below_of_holds hb)
/-- A contract in the world's words, with the value in the engine's. -/
theorem Gives.of_callsA {P : Program} {f : FuncId} {args : List Value} {avs : List AV} {G : Mem} {y : Value} {v : AV} (ha : ∀ vs, AV.rels noName avs vs → vs = args) (hv : v.rel noName y)
    (h : ∀ w, G.holds w → Calls P f args.toArray w fun e w' => e = .returned y ∧ Below w.heap.size w w') : Gives P f avs G v := by
  intro w vs hG har
  have e : vs = args.toArray := by rw [← ha _ har]
  subst e
  refine (h w hG).mono ?_
  rintro e w' ⟨rfl, h3⟩
  exact ⟨y, rfl, hv, h3⟩
/-- A law's walk. -/
theorem walk_of {P : Program} {T : Tab} (hT : TOk P T) {f : FuncId} {fn : Func} (hfn : P.funcs[f]? = some fn) {avs : List AV} {args : Array Value} {w : World} (ha : AV.rels noName avs args.toList)
    (h : bodyV P T 0 fn avs [] (memOf w) fun v _ _ => v = .val (.bool true)) : Calls P f args w fun e w' => e = .returned (.bool true) ∧ Below w.heap.size w w' := by
  refine (calls_of_body hT hfn ha (memOf_holds w) h (fun _ _ _ _ _ h => h)).mono ?_
  rintro e w' ⟨y, β', v, hp', G', h1, h2, h3, rfl⟩
  simp only [AV.rel] at h3
  subst h3
  exact ⟨h1, h2.below⟩
/-- The row that a callee made becomes memory that does not change any more. -/
theorem CallP_freeze {P : Program} {f : FuncId} (hen : ∀ vs w, (callFunc f vs).run P w = .ok (.enter f vs) w) {args : List AV} {hp : List Blk} {G : Mem} {K : AV → List Blk → Mem → Prop} {wrap : AV → AV} (hwr : Wraps wrap) {E : TypeId} {sz n : Nat} {xs : List Value} (hu : AV.unders 0 args = true)
    (hc : Makes P f args G wrap E sz n xs) (h : ∀ A cap G', G.le G' → n ≤ cap → cap ≤ maxLen → (xs = [] ∨ ∃ b, A = some ⟨b, 0, none⟩ ∧ ∀ (j : Nat) u, xs[j]? = some u → G'.cell? ⟨b, j, none⟩ = some u) → K (wrap (.val (.slice A n cap))) hp G') : CallP P f args hp G K := by
  refine ⟨hen, fun w0 G0 β w vs hr ha => (hc w vs hr.hold (bare_rels hu ha)).mono ?_⟩
  rintro e w' ⟨y, s, rfl, h2, h3, h4⟩
  have hr' := hr.step h4
  have hv : ∀ s' : Value, (AV.val s').rel β s' := fun s' => by simp only [AV.rel]
  rcases h3.2 with ⟨rfl, h5⟩ | ⟨g, cap, cur, rfl, h5, h6, h7, h8, h9, h10⟩
  · have h0 := h none 0 G (Mem.le_refl _) (by omega) (Nat.zero_le _) (.inl (by have := h3.1; rw [h5] at this; simpa using this))
    subst h5
    exact ⟨y, β, _, hp, G, rfl, Nm.le_refl _, hr', hwr.rel (hv _) h2, h0⟩
  · have hcell : ∀ (j : Nat) u, xs[j]? = some u → (G.and w' g).cell? ⟨g, j, none⟩ = some u := fun j u hj => by
      have h11 : (G.and w' g) g = some (.cells cur E (0, 0)) := by simp [Mem.and, h6]
      unfold Mem.cell?
      rw [h11]
      rw [← h10] at hj
      rw [List.getElem?_take] at hj
      split at hj
      · simpa using hj
      · cases hj
    have h0 := h (some ⟨g, 0, none⟩) cap (G.and w' g) (Mem.le_and hr'.hold g) h7 h8 (.inr ⟨g, rfl, hcell⟩)
    refine ⟨y, β, _, hp, G.and w' g, rfl, Nm.le_refl _, ⟨hr'.below, Mem.and_holds hr'.hold g, Mem.le_trans hr'.sub (Mem.le_and hr'.hold g), fun b o hb => ?_, fun k z hk => ?_, hr'.inj, hr'.wrt⟩, hwr.rel (hv _) h2, h0⟩
    · unfold Mem.and at hb
      split at hb
      · rename_i e1; subst e1
        right
        exact Nat.le_trans hr.below.size h5
      · exact hr'.grow b o hb
    · obtain ⟨x, hx1, hx2⟩ := hr.blk k z hk
      obtain ⟨x', hx1', hx2'⟩ := hr'.blk k z hk
      rw [hx1] at hx1'; cases hx1'
      refine ⟨x, hx1, ?_⟩
      have hne : ∀ b, x.live = true → blkOf z = some b → b ≠ g := fun b hl hb => by
        have := (hr.lt hk hx1 hl hb).2.1
        omega
      cases x with
      | gone => trivial
      | muts S => exact hx2'.elim
      | cells t l =>
        obtain ⟨b, c, q1, q2, q3, q4, q5⟩ := hx2'
        refine ⟨b, c, q1, q2, ?_, q4, q5⟩
        have := hne b rfl (by rw [q1]; rfl)
        simp [Mem.and, this, q3]
      | own e' sz' n' xs' =>
        refine ⟨hx2'.1, fun b hb => ?_⟩
        have := hne b rfl hb
        simp [Mem.and, this, hx2'.2 b hb]
      | lp i fr st p =>
        obtain ⟨q1, q2, q3, q4⟩ := hx2'
        refine ⟨q1, q2, ?_, q4⟩
        have := hne i.l rfl (by rw [q1]; rfl)
        simp [Mem.and, this, q3]
      | mp f ks vs =>
        obtain ⟨b, ys, q1, q2, q3, q4⟩ := hx2'
        refine ⟨b, ys, q1, q2, ?_, q4⟩
        have := hne b rfl (by rw [q1]; rfl)
        simp [Mem.and, this, q3]
end Go.Proofs.Ytbkhpddodmbdoaa
