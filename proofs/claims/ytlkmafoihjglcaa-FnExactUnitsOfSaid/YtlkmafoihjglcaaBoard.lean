/- Boards: copies, comparisons, and the program's and the reference's test of a board. -/
import Derived.Test.YtlkmafoihjglcaaBase
import Derived.Test.YtlkmafoihjglcaaPx0
import Derived.Test.YtlkmafoihjglcaaPx1
import Derived.Test.YtlkmafoihjglcaaPx2
import Derived.Test.YtlkmafoihjglcaaPx3
import Derived.Test.YtlkmafoihjglcaaPx4
namespace Go.Proofs.Ytlkmafoihjglcaa.Board
open Go.RowKit Go.Proofs.Ytlkmafoihjglcaa.P Go.Proofs.Ytlkmafoihjglcaa.Base Go.Proofs.YtlkmafoihjglcaaW.PrintWords Go.Proofs.YtlkmafoihjglcaaW.PrintLast Go.Proofs.YtlkmafoihjglcaaW.PrintMore
set_option linter.unusedVariables false
set_option linter.unusedSimpArgs false
abbrev C := S49
abbrev CL := S53
abbrev rdC := rd_T49
theorem rdC_get {xs : List C} {i : Nat} (h : i < xs.length) : rd_T49 xs (i : Int) = xs[i] := by
  simp [rd_T49, List.getD, List.getElem?_eq_getElem h]
theorem rdCL_get {xs : List CL} {i : Nat} (h : i < xs.length) : rd_T53 xs (i : Int) = xs[i] := by
  simp [rd_T53, List.getD, List.getElem?_eq_getElem h]
def convC (x : CL) : C := ⟨x.f0, x.f1⟩
theorem szCells (l : List CL) (a : Int) (hl : l.length ≤ 9223372036854775807) (h0 : -1 ≤ a) (h1 : a ≤ 9223372036854775807) :
    laws_szCellS.f l a = some (if a < l.length then -1 else a - l.length) := by
  unfold laws_szCellS.f
  rw [wrap_id (by omega) (by omega)]
  split <;> split <;> first | rfl | omega
theorem szBoard (r c : Int) (l : List CL) (a : Int) (hl : l.length ≤ 9223372036854775807) (h0 : -1 ≤ a) (h1 : a ≤ 9223372036854775807) :
    laws_szBoard.f r c l a = some (if a < l.length then -1 else a - l.length) := by
  unfold laws_szBoard.f
  rw [szCells l a hl h0 h1]
  simp only [Option.bind_some]
  split <;> split <;> first | rfl | omega
theorem toCells_loop (l : List CL) (hl : l.length ≤ 8796093022208) (d : Nat) : ∀ (i : Nat) (m : List C), i + d = l.length → m.length = l.length → m.take i = (l.map convC).take i →
    Ev (fun k => laws_toCellS.l0 k l m i) (l.map convC) := by
  induction d with
  | zero =>
    intro i m hi hm ht
    refine Ev.succ ?_
    simp only [laws_toCellS.l0]
    refine Ev.neg (by omega) ?_
    refine Ev.val (Ev.now m) ?_
    rw [List.take_of_length_le (by omega), List.take_of_length_le (by simp; omega)] at ht
    exact ht
  | succ d ih =>
    intro i m hi hm ht
    refine Ev.succ ?_
    simp only [laws_toCellS.l0, laws_toCell.f, Option.bind_some]
    refine Ev.pos (by omega) (Ev.pos (by omega) (Ev.pos (by omega) ?_))
    rw [wrap_nat (by omega)]
    refine ih (i + 1) _ (by omega) (by simpa using hm) ?_
    rw [Int.toNat_natCast, rdCL_get (by omega), List.take_succ_eq_append_getElem (by simp; omega), List.take_succ_eq_append_getElem (by simp; omega), List.take_set_of_le (Nat.le_refl _), ht]
    simp [convC]
theorem toCells (l : List CL) (hl : l.length ≤ 1048576) : Ev (fun k => laws_toCellS.f k l) (l.map convC) := by
  unfold laws_toCellS.f
  refine Ev.pos (by omega) (Ev.pos (by omega) ?_)
  exact toCells_loop l (by omega) l.length 0 _ (by omega) (by simp) rfl
theorem toBoard (r c : Int) (l : List CL) (hl : l.length ≤ 1048576) : Ev (fun k => laws_toBoard.f k r c l) (r, c, l.map convC) := by
  unfold laws_toBoard.f
  exact Ev.bind (toCells l hl) (Ev.now _)
theorem eqCells_loop (l : List C) (hb : l.length < 9223372036854775807) (d : Nat) : ∀ (i : Nat), i + d = l.length → Ev (fun k => laws_eqCellS.l0 k l l i) true := by
  induction d with
  | zero =>
    intro i hi
    refine Ev.succ ?_
    simp only [laws_eqCellS.l0]
    exact Ev.neg (by omega) (Ev.now _)
  | succ d ih =>
    intro i hi
    refine Ev.succ ?_
    simp only [laws_eqCellS.l0, laws_eqCell.f, if_true, Option.bind_some]
    refine Ev.pos (by omega) (Ev.pos (by omega) (Ev.pos (by omega) ?_))
    rw [wrap_nat (by omega)]
    exact ih (i + 1) (by omega)
theorem eqCells_self (l : List C) (hb : l.length < 9223372036854775807) : Ev (fun k => laws_eqCellS.f k l l) true := by
  unfold laws_eqCellS.f
  exact Ev.pos rfl (eqCells_loop l hb l.length 0 (by omega))
theorem eqBoard_self (r c : Int) (l : List C) (hb : l.length < 9223372036854775807) : Ev (fun k => laws_eqBoard.f k r c l r c l) true := by
  unfold laws_eqBoard.f
  exact Ev.pos rfl (Ev.pos rfl (Ev.bind (eqCells_self l hb) (Ev.pos rfl (Ev.now _))))

/-- A valid cell, a valid board. -/
def Cell (x : C) : Prop := 0 ≤ x.f0 ∧ x.f0 ≤ 7 ∧ (x.f1 = 0 ∨ x.f1 = 1 ∧ (x.f0 = 3 ∨ x.f0 = 6))
instance (x : C) : Decidable (Cell x) := by unfold Cell; infer_instance
def Cells (l : List C) : Prop := ∀ x, x ∈ l → Cell x
instance (l : List C) : Decidable (Cells l) := by unfold Cells; infer_instance
theorem cells_cons (x : C) (l : List C) : Cells (x :: l) ↔ Cell x ∧ Cells l := by simp [Cells]
def Good (r c : Int) (l : List C) : Prop := (1 ≤ r ∧ r ≤ 10 ∧ 1 ≤ c ∧ c ≤ 9 ∧ (l.length : Int) = r * c) ∧ Cells l
instance (r c : Int) (l : List C) : Decidable (Good r c l) := by unfold Good; infer_instance
theorem area {r c : Int} (h : 1 ≤ r ∧ r ≤ 10 ∧ 1 ≤ c ∧ c ≤ 9) : 1 ≤ r * c ∧ r * c ≤ 90 ∧ wrap64 (r * c) = r * c := by
  have h1 : r * c ≤ 10 * 9 := Int.mul_le_mul h.2.1 h.2.2.2 (by omega) (by omega)
  have h2 : 1 * 1 ≤ r * c := Int.mul_le_mul h.1 h.2.2.1 (by omega) (by omega)
  refine ⟨by omega, by omega, wrap_id (by omega) (by omega)⟩
theorem Good.len {r c : Int} {l : List C} (h : Good r c l) : 1 ≤ l.length ∧ l.length ≤ 90 := by
  have := area ⟨h.1.1, h.1.2.1, h.1.2.2.1, h.1.2.2.2.1⟩
  have := h.1.2.2.2.2
  omega
theorem some_dec {p : Prop} [Decidable p] {b : Bool} (h : b = true ↔ p) : some b = some (decide p) := by
  congr 1
  rw [Bool.eq_iff_iff, decide_eq_true_eq]
  exact h
theorem isCell (x : C) : impl_IsCell.f x.f0 x.f1 = some (decide (Cell x)) := by
  obtain ⟨a, b⟩ := x
  simp only [impl_IsCell.f]
  repeat' split
  all_goals
    refine some_dec ?_
    simp only [Cell, beq_iff_eq, Bool.false_eq_true, true_iff, false_iff]
    omega
theorem paGood (x : C) : spec_paGood.f x.f0 x.f1 = some (decide (Cell x)) := by
  obtain ⟨a, b⟩ := x
  simp only [spec_paGood.f, spec_l1In.f, spec_paTurning.f]
  by_cases h0 : a ≥ 0
  · simp only [if_pos h0, Option.bind_some, decide_eq_true_eq]
    by_cases a3 : a = 3
    · simp only [if_pos a3, Option.bind_some]
      repeat' split
      all_goals
        refine some_dec ?_
        simp only [Cell, beq_iff_eq, Bool.false_eq_true, true_iff, false_iff]
        omega
    · simp only [if_neg a3, Option.bind_some]
      repeat' split
      all_goals
        refine some_dec ?_
        simp only [Cell, beq_iff_eq, Bool.false_eq_true, true_iff, false_iff]
        omega
  · simp only [if_neg h0, Option.bind_some, Bool.false_eq_true, if_false]
    refine some_dec ?_
    simp only [Cell, Bool.false_eq_true, false_iff]
    omega
theorem validCells_loop (l : List C) (hb : l.length < 9223372036854775807) (d : Nat) : ∀ (i : Nat), i + d = l.length → Ev (fun k => impl_validCells.l0 k l l.length i) (decide (Cells (l.drop i))) := by
  induction d with
  | zero =>
    intro i hi
    refine Ev.succ ?_
    simp only [impl_validCells.l0]
    refine Ev.neg (by omega) (Ev.val (Ev.now _) ?_)
    rw [List.drop_of_length_le (by omega)]; simp [Cells]
  | succ d ih =>
    intro i hi
    refine Ev.succ ?_
    simp only [impl_validCells.l0]
    refine Ev.pos (by omega) (Ev.pos (by omega) (Ev.pos (by omega) ?_))
    rw [wrap_nat (by omega), rdC_get (by omega), isCell, drop_cons (xs := l) (by omega)]
    simp only [Option.bind_some, decide_eq_true_eq, cells_cons]
    refine Ev.split (fun h => Ev.val (ih (i + 1) (by omega)) (by simp only [h, true_and])) (fun h => Ev.val (Ev.now _) (by simp only [h, false_and, decide_false]))
theorem isBoard (r c : Int) (l : List C) (hb : l.length < 9223372036854775807) : Ev (fun k => impl_IsBoard.f k r c l) (decide (Good r c l)) := by
  unfold impl_IsBoard.f
  have out : ¬ (1 ≤ r ∧ r ≤ 10 ∧ 1 ≤ c ∧ c ≤ 9 ∧ (l.length : Int) = r * c) → false = decide (Good r c l) := fun h => by simp only [Good, h, false_and, decide_false]
  refine Ev.split (fun h1 => ?_) (fun h => Ev.val (Ev.now _) (out fun g => h g.1))
  refine Ev.split (fun h2 => ?_) (fun h => Ev.val (Ev.now _) (out fun g => h g.2.1))
  refine Ev.split (fun h3 => ?_) (fun h => Ev.val (Ev.now _) (out fun g => h g.2.2.1))
  refine Ev.split (fun h4 => ?_) (fun h => Ev.val (Ev.now _) (out fun g => h g.2.2.2.1))
  obtain ⟨a1, a2, a3⟩ := area ⟨h1, h2, h3, h4⟩
  rw [a3]
  refine Ev.split (fun h5 => ?_) (fun h => Ev.val (Ev.now _) (out fun g => h g.2.2.2.2))
  refine Ev.bind (a := decide (Cells l)) ?_ (Ev.val (Ev.now _) ?_)
  · unfold impl_validCells.f
    refine Ev.neg (by omega) ?_
    exact Ev.val (validCells_loop l hb l.length 0 (by omega)) (by simp)
  · have : 1 ≤ r ∧ r ≤ 10 ∧ 1 ≤ c ∧ c ≤ 9 ∧ (l.length : Int) = r * c := ⟨h1, h2, h3, h4, h5⟩
    simp only [Good, this, true_and, and_self]
theorem good_loop (l : List C) (hb : l.length < 9223372036854775807) (d : Nat) : ∀ (i : Nat), i + d = l.length → Ev (fun k => spec_boGood.l0 k l l.length i) (decide (Cells (l.drop i))) := by
  induction d with
  | zero =>
    intro i hi
    refine Ev.succ ?_
    simp only [spec_boGood.l0]
    refine Ev.neg (by omega) (Ev.val (Ev.now _) ?_)
    rw [List.drop_of_length_le (by omega)]; simp [Cells]
  | succ d ih =>
    intro i hi
    refine Ev.succ ?_
    simp only [spec_boGood.l0]
    refine Ev.pos (by omega) (Ev.pos (by omega) (Ev.pos (by omega) ?_))
    rw [wrap_nat (by omega), rdC_get (by omega), paGood, drop_cons (xs := l) (by omega)]
    simp only [Option.bind_some, decide_eq_true_eq, cells_cons]
    refine Ev.split (fun h => Ev.val (ih (i + 1) (by omega)) (by simp only [h, true_and])) (fun h => Ev.val (Ev.now _) (by simp only [h, false_and, decide_false]))
theorem boGood (r c : Int) (l : List C) (hb : l.length < 9223372036854775807) : Ev (fun k => spec_boGood.f k r c l) (decide (Good r c l)) := by
  unfold spec_boGood.f
  have out : ¬ (1 ≤ r ∧ r ≤ 10 ∧ 1 ≤ c ∧ c ≤ 9 ∧ (l.length : Int) = r * c) → false = decide (Good r c l) := fun h => by simp only [Good, h, false_and, decide_false]
  have bad : ∀ r' c' l', ¬ (1 ≤ r ∧ r ≤ 10 ∧ 1 ≤ c ∧ c ≤ 9 ∧ (l.length : Int) = r * c) → Ev (fun k => spec_boGood.j0 k true r' c' l') (decide (Good r c l)) := fun r' c' l' h => by
    refine Ev.succ ?_
    simp only [spec_boGood.j0]
    exact Ev.val (Ev.now _) (out h)
  simp only [spec_l1In.f]
  by_cases h1 : r ≥ 1
  · simp only [if_pos h1, Option.bind_some, decide_eq_true_eq]
    refine Ev.split (fun h2 => ?_) (fun h => bad _ _ _ fun g => h g.2.1)
    by_cases h3 : c ≥ 1
    · simp only [if_pos h3, Option.bind_some, decide_eq_true_eq]
      refine Ev.split (fun h4 => ?_) (fun h => bad _ _ _ fun g => h g.2.2.2.1)
      obtain ⟨a1, a2, a3⟩ := area ⟨h1, h2, h3, h4⟩
      rw [a3]
      by_cases h5 : (l.length : Int) = r * c
      · refine Ev.succ ?_
        simp only [spec_boGood.j0]
        refine Ev.neg (by simp [h5]) ?_
        have : 1 ≤ r ∧ r ≤ 10 ∧ 1 ≤ c ∧ c ≤ 9 ∧ (l.length : Int) = r * c := ⟨h1, h2, h3, h4, h5⟩
        exact Ev.val (good_loop l hb l.length 0 (by omega)) (by simp only [Good, this, true_and, and_self, List.drop_zero])
      · have : ((l.length : Int) != r * c) = true := by simp [h5]
        rw [this]
        exact bad _ _ _ fun g => h5 g.2.2.2.2
    · simp only [if_neg h3, Option.bind_some]
      exact Ev.neg (by simp) (bad _ _ _ fun g => h3 g.2.2.1)
  · simp only [if_neg h1, Option.bind_some]
    exact Ev.neg (by simp) (bad _ _ _ fun g => h1 g.1)
theorem spec_yes {r c : Int} {l : List C} (h : Good r c l) : Ev (fun k => spec_boGood.f k r c l) true := Ev.val (boGood r c l (by have := h.len; omega)) (decide_eq_true h)
theorem impl_yes {r c : Int} {l : List C} (h : Good r c l) : Ev (fun k => impl_IsBoard.f k r c l) true := Ev.val (isBoard r c l (by have := h.len; omega)) (decide_eq_true h)
theorem spec_no {r c : Int} {l : List C} (h : ¬ Good r c l) (hb : l.length ≤ 1048576) : Ev (fun k => spec_boGood.f k r c l) false := Ev.val (boGood r c l (by omega)) (decide_eq_false h)
theorem impl_no {r c : Int} {l : List C} (h : ¬ Good r c l) (hb : l.length ≤ 1048576) : Ev (fun k => impl_IsBoard.f k r c l) false := Ev.val (isBoard r c l (by omega)) (decide_eq_false h)
end Go.Proofs.Ytlkmafoihjglcaa.Board
