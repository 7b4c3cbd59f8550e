--MINI
/- Boards: copies, comparisons, and the program's and the reference's test of a board. -/
import Derived.Test.YtbpfdbjnnlmdjaaBase
import Derived.Test.YtbpfdbjnnlmdjaaPx0
import Derived.Test.YtbpfdbjnnlmdjaaPx1
import Derived.Test.YtbpfdbjnnlmdjaaPx2
import Derived.Test.YtbpfdbjnnlmdjaaPx7
namespace Go.Proofs.Ytbpfdbjnnlmdjaa.Board
open Go.RowKit Go.Proofs.Ytbpfdbjnnlmdjaa.P Go.Proofs.Ytbpfdbjnnlmdjaa.Base Go.Proofs.YtbpfdbjnnlmdjaaW.PrintWords Go.Proofs.YtbpfdbjnnlmdjaaW.PrintLast Go.Proofs.YtbpfdbjnnlmdjaaW.PrintMore
set_option linter.unusedVariables false
set_option linter.unusedSimpArgs false
abbrev C := fq
abbrev CL := Ei
abbrev rdC := aj
theorem jI {xs : List C} {i : Nat} (h : i < xs.length) : aj xs (i : Int) = xs[i] := by
  simp [aj, List.getD, List.getElem?_eq_getElem h]
theorem adM {xs : List CL} {i : Nat} (h : i < xs.length) : yE xs (i : Int) = xs[i] := by
  simp [yE, List.getD, List.getElem?_eq_getElem h]
def Hg (x : CL) : C := ⟨x.f0, x.f1⟩
theorem ahD (l : List CL) (a : Int) (hl : l.length ≤ 9223372036854775807) (h0 : -1 ≤ a) (h1 : a ≤ 9223372036854775807) :
    mZ.f l a = some (if a < l.length then -1 else a - l.length) := by
  unfold mZ.f
  rw [gH (by omega) (by omega)]
  split <;> split <;> first | rfl | omega
theorem XP (r c : Int) (l : List CL) (a : Int) (hl : l.length ≤ 9223372036854775807) (h0 : -1 ≤ a) (h1 : a ≤ 9223372036854775807) :
    kL.f r c l a = some (if a < l.length then -1 else a - l.length) := by
  unfold kL.f
  rw [ahD l a hl h0 h1]
  simp only [Option.bind_some]
  split <;> split <;> first | rfl | omega
theorem P9 (l : List CL) (hl : l.length ≤ 8796093022208) (d : Nat) : ∀ (i : Nat) (m : List C), i + d = l.length → m.length = l.length → m.take i = (l.map Hg).take i →
    Ev (fun k => dZ.l0 k l m i) (l.map Hg) := by
  induction d with
  | zero =>
    intro i m hi hm ht
    refine Ev.succ ?_
    simp only [dZ.l0]
    refine Ev.neg (by omega) ?_
    refine Ev.val (Ev.now m) ?_
    rw [List.take_of_length_le (by omega), List.take_of_length_le (by simp; omega)] at ht
    exact ht
  | succ d ih =>
    intro i m hi hm ht
    refine Ev.succ ?_
    simp only [dZ.l0, qY.f, Option.bind_some]
    refine Ev.pos (by omega) (Ev.pos (by omega) (Ev.pos (by omega) ?_))
    rw [bI (by omega)]
    refine ih (i + 1) _ (by omega) (by simpa using hm) ?_
    rw [Int.toNat_natCast, adM (by omega), List.take_succ_eq_append_getElem (by simp; omega), List.take_succ_eq_append_getElem (by simp; omega), List.take_set_of_le (Nat.le_refl _), ht]
    simp [Hg]
theorem ahE (l : List CL) (hl : l.length ≤ 1048576) : Ev (fun k => dZ.f k l) (l.map Hg) := by
  unfold dZ.f
  refine Ev.pos (by omega) (Ev.pos (by omega) ?_)
  exact P9 l (by omega) l.length 0 _ (by omega) (by simp) rfl
theorem XQ (r c : Int) (l : List CL) (hl : l.length ≤ 1048576) : Ev (fun k => eP.f k r c l) (r, c, l.map Hg) := by
  unfold eP.f
  exact Ev.bind (ahE l hl) (Ev.now _)
theorem Qa (l : List C) (hb : l.length < 9223372036854775807) (d : Nat) : ∀ (i : Nat), i + d = l.length → Ev (fun k => bQ.l0 k l l i) true := by
  induction d with
  | zero =>
    intro i hi
    refine Ev.succ ?_
    simp only [bQ.l0]
    exact Ev.neg (by omega) (Ev.now _)
  | succ d ih =>
    intro i hi
    refine Ev.succ ?_
    simp only [bQ.l0, pG.f, if_true, Option.bind_some]
    refine Ev.pos (by omega) (Ev.pos (by omega) (Ev.pos (by omega) ?_))
    rw [bI (by omega)]
    exact ih (i + 1) (by omega)
theorem Qb (l : List C) (hb : l.length < 9223372036854775807) : Ev (fun k => bQ.f k l l) true := by
  unfold bQ.f
  exact Ev.pos rfl (Qa l hb l.length 0 (by omega))
theorem Hl (r c : Int) (l : List C) (hb : l.length < 9223372036854775807) : Ev (fun k => iO.f k r c l r c l) true := by
  unfold iO.f
  exact Ev.pos rfl (Ev.pos rfl (Ev.bind (Qb l hb) (Ev.pos rfl (Ev.now _))))

/-- A valid cell, a valid board. -/
def Cell (x : C) : Prop := 0 ≤ x.f0 ∧ x.f0 ≤ 7 ∧ (x.f1 = 0 ∨ x.f1 = 1 ∧ (x.f0 = 3 ∨ x.f0 = 6))
instance (x : C) : Decidable (Cell x) := by unfold Cell; infer_instance
def Cells (l : List C) : Prop := ∀ x, x ∈ l → Cell x
instance (l : List C) : Decidable (Cells l) := by unfold Cells; infer_instance
theorem LW (x : C) (l : List C) : Cells (x :: l) ↔ Cell x ∧ Cells l := by simp [Cells]
def Good (r c : Int) (l : List C) : Prop := (1 ≤ r ∧ r ≤ 10 ∧ 1 ≤ c ∧ c ≤ 9 ∧ (l.length : Int) = r * c) ∧ Cells l
instance (r c : Int) (l : List C) : Decidable (Good r c l) := by unfold Good; infer_instance
theorem Zr {r c : Int} (h : 1 ≤ r ∧ r ≤ 10 ∧ 1 ≤ c ∧ c ≤ 9) : 1 ≤ r * c ∧ r * c ≤ 90 ∧ wrap64 (r * c) = r * c := by
  have h1 : r * c ≤ 10 * 9 := Int.mul_le_mul h.2.1 h.2.2.2 (by omega) (by omega)
  have h2 : 1 * 1 ≤ r * c := Int.mul_le_mul h.1 h.2.2.1 (by omega) (by omega)
  refine ⟨by omega, by omega, gH (by omega) (by omega)⟩
theorem Good.len {r c : Int} {l : List C} (h : Good r c l) : 1 ≤ l.length ∧ l.length ≤ 90 := by
  have := Zr ⟨h.1.1, h.1.2.1, h.1.2.2.1, h.1.2.2.2.1⟩
  have := h.1.2.2.2.2
  omega
theorem Hm {p : Prop} [Decidable p] {b : Bool} (h : b = true ↔ p) : some b = some (decide p) := by
  congr 1
  rw [Bool.eq_iff_iff, decide_eq_true_eq]
  exact h
theorem adN (x : C) : kD.f x.f0 x.f1 = some (decide (Cell x)) := by
  obtain ⟨a, b⟩ := x
  simp only [kD.f]
  repeat' split
  all_goals
    refine Hm ?_
    simp only [Cell, beq_iff_eq, Bool.false_eq_true, true_iff, false_iff]
    omega
theorem aqD (x : C) : nS.f x.f0 x.f1 = some (decide (Cell x)) := by
  obtain ⟨a, b⟩ := x
  simp only [nS.f, iw.f, nI.f]
  by_cases h0 : a ≥ 0
  · simp only [if_pos h0, Option.bind_some, decide_eq_true_eq]
    by_cases a3 : a = 3
    · simp only [if_pos a3, Option.bind_some]
      repeat' split
      all_goals
        refine Hm ?_
        simp only [Cell, beq_iff_eq, Bool.false_eq_true, true_iff, false_iff]
        omega
    · simp only [if_neg a3, Option.bind_some]
      repeat' split
      all_goals
        refine Hm ?_
        simp only [Cell, beq_iff_eq, Bool.false_eq_true, true_iff, false_iff]
        omega
  · simp only [if_neg h0, Option.bind_some, Bool.false_eq_true, if_false]
    refine Hm ?_
    simp only [Cell, Bool.false_eq_true, false_iff]
    omega
theorem Jl (l : List C) (hb : l.length < 9223372036854775807) (d : Nat) : ∀ (i : Nat), i + d = l.length → Ev (fun k => df.l0 k l l.length i) (decide (Cells (l.drop i))) := by
  induction d with
  | zero =>
    intro i hi
    refine Ev.succ ?_
    simp only [df.l0]
    refine Ev.neg (by omega) (Ev.val (Ev.now _) ?_)
    rw [List.drop_of_length_le (by omega)]; simp [Cells]
  | succ d ih =>
    intro i hi
    refine Ev.succ ?_
    simp only [df.l0]
    refine Ev.pos (by omega) (Ev.pos (by omega) (Ev.pos (by omega) ?_))
    rw [bI (by omega), jI (by omega), adN, oK (xs := l) (by omega)]
    simp only [Option.bind_some, decide_eq_true_eq, LW]
    refine Ev.split (fun h => Ev.val (ih (i + 1) (by omega)) (by simp only [h, true_and])) (fun h => Ev.val (Ev.now _) (by simp only [h, false_and, decide_false]))
theorem XR (r c : Int) (l : List C) (hb : l.length < 9223372036854775807) : Ev (fun k => iZ.f k r c l) (decide (Good r c l)) := by
  unfold iZ.f
  have out : ¬ (1 ≤ r ∧ r ≤ 10 ∧ 1 ≤ c ∧ c ≤ 9 ∧ (l.length : Int) = r * c) → false = decide (Good r c l) := fun h => by simp only [Good, h, false_and, decide_false]
  refine Ev.split (fun h1 => ?_) (fun h => Ev.val (Ev.now _) (out fun g => h g.1))
  refine Ev.split (fun h2 => ?_) (fun h => Ev.val (Ev.now _) (out fun g => h g.2.1))
  refine Ev.split (fun h3 => ?_) (fun h => Ev.val (Ev.now _) (out fun g => h g.2.2.1))
  refine Ev.split (fun h4 => ?_) (fun h => Ev.val (Ev.now _) (out fun g => h g.2.2.2.1))
  obtain ⟨a1, a2, a3⟩ := Zr ⟨h1, h2, h3, h4⟩
  rw [a3]
  refine Ev.split (fun h5 => ?_) (fun h => Ev.val (Ev.now _) (out fun g => h g.2.2.2.2))
  refine Ev.bind (a := decide (Cells l)) ?_ (Ev.val (Ev.now _) ?_)
  · unfold df.f
    refine Ev.neg (by omega) ?_
    exact Ev.val (Jl l hb l.length 0 (by omega)) (by simp)
  · have : 1 ≤ r ∧ r ≤ 10 ∧ 1 ≤ c ∧ c ≤ 9 ∧ (l.length : Int) = r * c := ⟨h1, h2, h3, h4, h5⟩
    simp only [Good, this, true_and, and_self]
theorem Zt (l : List C) (hb : l.length < 9223372036854775807) (d : Nat) : ∀ (i : Nat), i + d = l.length → Ev (fun k => bO.l0 k l l.length i) (decide (Cells (l.drop i))) := by
  induction d with
  | zero =>
    intro i hi
    refine Ev.succ ?_
    simp only [bO.l0]
    refine Ev.neg (by omega) (Ev.val (Ev.now _) ?_)
    rw [List.drop_of_length_le (by omega)]; simp [Cells]
  | succ d ih =>
    intro i hi
    refine Ev.succ ?_
    simp only [bO.l0]
    refine Ev.pos (by omega) (Ev.pos (by omega) (Ev.pos (by omega) ?_))
    rw [bI (by omega), jI (by omega), aqD, oK (xs := l) (by omega)]
    simp only [Option.bind_some, decide_eq_true_eq, LW]
    refine Ev.split (fun h => Ev.val (ih (i + 1) (by omega)) (by simp only [h, true_and])) (fun h => Ev.val (Ev.now _) (by simp only [h, false_and, decide_false]))
theorem adO (r c : Int) (l : List C) (hb : l.length < 9223372036854775807) : Ev (fun k => bO.f k r c l) (decide (Good r c l)) := by
  unfold bO.f
  have out : ¬ (1 ≤ r ∧ r ≤ 10 ∧ 1 ≤ c ∧ c ≤ 9 ∧ (l.length : Int) = r * c) → false = decide (Good r c l) := fun h => by simp only [Good, h, false_and, decide_false]
  have bad : ∀ r' c' l', ¬ (1 ≤ r ∧ r ≤ 10 ∧ 1 ≤ c ∧ c ≤ 9 ∧ (l.length : Int) = r * c) → Ev (fun k => bO.j0 k true r' c' l') (decide (Good r c l)) := fun r' c' l' h => by
    refine Ev.succ ?_
    simp only [bO.j0]
    exact Ev.val (Ev.now _) (out h)
  simp only [iw.f]
  by_cases h1 : r ≥ 1
  · simp only [if_pos h1, Option.bind_some, decide_eq_true_eq]
    refine Ev.split (fun h2 => ?_) (fun h => bad _ _ _ fun g => h g.2.1)
    by_cases h3 : c ≥ 1
    · simp only [if_pos h3, Option.bind_some, decide_eq_true_eq]
      refine Ev.split (fun h4 => ?_) (fun h => bad _ _ _ fun g => h g.2.2.2.1)
      obtain ⟨a1, a2, a3⟩ := Zr ⟨h1, h2, h3, h4⟩
      rw [a3]
      by_cases h5 : (l.length : Int) = r * c
      · refine Ev.succ ?_
        simp only [bO.j0]
        refine Ev.neg (by simp [h5]) ?_
        have : 1 ≤ r ∧ r ≤ 10 ∧ 1 ≤ c ∧ c ≤ 9 ∧ (l.length : Int) = r * c := ⟨h1, h2, h3, h4, h5⟩
        exact Ev.val (Zt l hb l.length 0 (by omega)) (by simp only [Good, this, true_and, and_self, List.drop_zero])
      · have : ((l.length : Int) != r * c) = true := by simp [h5]
        rw [this]
        exact bad _ _ _ fun g => h5 g.2.2.2.2
    · simp only [if_neg h3, Option.bind_some]
      exact Ev.neg (by simp) (bad _ _ _ fun g => h3 g.2.2.1)
  · simp only [if_neg h1, Option.bind_some]
    exact Ev.neg (by simp) (bad _ _ _ fun g => h1 g.1)
theorem adP {r c : Int} {l : List C} (h : Good r c l) : Ev (fun k => bO.f k r c l) true := Ev.val (adO r c l (by have := h.len; omega)) (decide_eq_true h)
theorem adQ {r c : Int} {l : List C} (h : Good r c l) : Ev (fun k => iZ.f k r c l) true := Ev.val (XR r c l (by have := h.len; omega)) (decide_eq_true h)
theorem ahF {r c : Int} {l : List C} (h : ¬ Good r c l) (hb : l.length ≤ 1048576) : Ev (fun k => bO.f k r c l) false := Ev.val (adO r c l (by omega)) (decide_eq_false h)
theorem ahG {r c : Int} {l : List C} (h : ¬ Good r c l) (hb : l.length ≤ 1048576) : Ev (fun k => iZ.f k r c l) false := Ev.val (XR r c l (by omega)) (decide_eq_false h)
end Go.Proofs.Ytbpfdbjnnlmdjaa.Board
