/- Machines: sizes, copies, comparisons, marks; the program's and the reference's test of a machine. No condition beyond the lengths named. -/
import Derived.Test.YthnehlphifegaaaBoard
import Derived.Test.YthnehlphifegaaaFall
import Derived.Test.YthnehlphifegaaaPx2
import Derived.Test.YthnehlphifegaaaPx6
import Derived.Test.YthnehlphifegaaaPx7
import Derived.Test.YthnehlphifegaaaPx9
namespace Go.Proofs.Ythnehlphifegaaa.Board
open Go.RowKit Go.Proofs.Ythnehlphifegaaa.P Go.Proofs.Ythnehlphifegaaa.Base Go.Proofs.YthnehlphifegaaaW.PrintWords Go.Proofs.YthnehlphifegaaaW.PrintLast Go.Proofs.YthnehlphifegaaaW.PrintMore
set_option linter.unusedVariables false
set_option linter.unusedSimpArgs false
theorem szMachine (r c : Int) (l : List CL) (x3 x4 x5 x6 x7 a : Int) (hl : l.length ≤ 9223372036854775807) (h0 : -1 ≤ a) (h1 : a ≤ 9223372036854775807) :
    laws_szMachine.f r c l x3 x4 x5 x6 x7 a = some (if a < l.length then -1 else a - l.length) := by
  unfold laws_szMachine.f
  rw [szBoard r c l a hl h0 h1]
  simp only [Option.bind_some]
  split <;> split <;> first | rfl | omega
theorem toMachine (r c : Int) (l : List CL) (x3 x4 x5 x6 x7 : Int) (hl : l.length ≤ 1048576) : Ev (fun k => laws_toMachine.f k r c l x3 x4 x5 x6 x7) (r, c, l.map convC, x3, x4, x5, x6, x7) := by
  unfold laws_toMachine.f
  exact Ev.bind (toBoard r c l hl) (Ev.now _)
theorem eqMachine_self (r c : Int) (l : List C) (x3 x4 x5 x6 x7 : Int) (hb : l.length < 9223372036854775807) : Ev (fun k => laws_eqMachine.f k r c l x3 x4 x5 x6 x7 r c l x3 x4 x5 x6 x7) true := by
  unfold laws_eqMachine.f
  refine Ev.bind (eqBoard_self r c l hb) (Ev.pos rfl (Ev.pos rfl (Ev.pos rfl (Ev.pos rfl (Ev.pos rfl (Ev.pos rfl (Ev.now _)))))))
theorem boOwn {r c : Int} {cs : List C} (hb : cs.length ≤ 1048576) : spec_boOwn.f r c cs = some (r, c, cs) := by
  unfold spec_boOwn.f
  simp only [Option.bind_some]
  rw [if_pos (by simp; omega)]; rfl
theorem copyBoard {r c : Int} {cs : List C} (hb : cs.length ≤ 1048576) : impl_copyBoard.f r c cs = some (r, c, cs) := by
  unfold impl_copyBoard.f
  simp only [Option.bind_some]
  rw [if_pos (by simp; omega)]; rfl
theorem copyMachine {r c : Int} {cs : List C} {x3 x4 x5 x6 x7 : Int} (hb : cs.length ≤ 1048576) : impl_copyMachine.f r c cs x3 x4 x5 x6 x7 = some (r, c, cs, x3, x4, x5, x6, x7) := by
  unfold impl_copyMachine.f
  rw [copyBoard hb]; rfl
/-- A board and a column of it. -/
def Has (r c : Int) (cs : List C) (col : Int) : Prop := Good r c cs ∧ 0 ≤ col ∧ col < c
instance (r c : Int) (cs : List C) (col : Int) : Decidable (Has r c cs col) := by unfold Has; infer_instance
theorem flHas (r c : Int) (cs : List C) (col : Int) (hb : cs.length ≤ 1048576) : Ev (fun k => spec_flHas.f k r c cs col) (decide (Has r c cs col)) := by
  unfold spec_flHas.f
  by_cases h : Good r c cs
  · refine Ev.bind (spec_yes h) (Ev.pos rfl ?_)
    have hg := h.1
    rw [wrap_id (x := c - 1) (by omega) (by omega), Fall.l1In]
    refine Ev.val (Ev.now _) ?_
    rw [decide_eq_decide]
    unfold Has
    exact ⟨fun q => ⟨h, q.1, by omega⟩, fun q => ⟨q.2.1, by omega⟩⟩
  · exact Ev.bind (spec_no h hb) (Ev.neg (by simp) (Ev.val (Ev.now _) (by symm; rw [decide_eq_false_iff_not]; exact fun q => h q.1)))
theorem validEntry (r c : Int) (cs : List C) (col : Int) (hb : cs.length ≤ 1048576) : Ev (fun k => impl_validEntry.f k r c cs col) (decide (Has r c cs col)) := by
  unfold impl_validEntry.f
  by_cases h : Good r c cs
  · refine Ev.bind (impl_yes h) (Ev.pos rfl (Ev.split (fun h0 => Ev.val (Ev.now _) ?_) (fun h0 => Ev.val (Ev.now _) ?_)))
    · rw [decide_eq_decide]
      exact ⟨fun q => ⟨h, by omega, q⟩, fun q => q.2.2⟩
    · symm; rw [decide_eq_false_iff_not]; exact fun q => h0 q.2.1
  · exact Ev.bind (impl_no h hb) (Ev.neg (by simp) (Ev.val (Ev.now _) (by symm; rw [decide_eq_false_iff_not]; exact fun q => h q.1)))
/-- A valid machine. -/
def MGood (r c : Int) (cs : List C) (left right blue red next : Int) : Prop := Has r c cs left ∧ Has r c cs right ∧ 0 ≤ blue ∧ blue ≤ 30 ∧ 0 ≤ red ∧ red ≤ 30 ∧ 0 ≤ next ∧ next ≤ 2
instance (r c : Int) (cs : List C) (x3 x4 x5 x6 x7 : Int) : Decidable (MGood r c cs x3 x4 x5 x6 x7) := by unfold MGood; infer_instance
theorem maGood (r c : Int) (cs : List C) (x3 x4 x5 x6 x7 : Int) (hb : cs.length ≤ 1048576) : Ev (fun k => spec_maGood.f k r c cs x3 x4 x5 x6 x7) (decide (MGood r c cs x3 x4 x5 x6 x7)) := by
  unfold spec_maGood.f
  have no : ∀ {p : Prop} [Decidable p], ¬ p → false = decide p := fun h => (decide_eq_false h).symm
  refine Ev.bind (flHas r c cs x3 hb) (Ev.split (fun h => ?_) (fun h => Ev.val (Ev.now _) (no fun q => h (decide_eq_true q.1))))
  refine Ev.bind (flHas r c cs x4 hb) (Ev.split (fun h' => ?_) (fun h' => Ev.val (Ev.now _) (no fun q => h' (decide_eq_true q.2.1))))
  have h1 := of_decide_eq_true h
  have h2 := of_decide_eq_true h'
  simp only [Fall.l1In, Option.bind_some]
  refine Ev.split (fun a => ?_) (fun a => Ev.val (Ev.now _) (no fun q => a (decide_eq_true ⟨q.2.2.1, q.2.2.2.1⟩)))
  refine Ev.split (fun b => ?_) (fun b => Ev.val (Ev.now _) (no fun q => b (decide_eq_true ⟨q.2.2.2.2.1, q.2.2.2.2.2.1⟩)))
  have a := of_decide_eq_true a
  have b := of_decide_eq_true b
  refine Ev.val (Ev.now _) ?_
  rw [decide_eq_decide]
  exact ⟨fun q => ⟨h1, h2, a.1, a.2, b.1, b.2, q.1, q.2⟩, fun q => q.2.2.2.2.2.2⟩
theorem isMachine (r c : Int) (cs : List C) (x3 x4 x5 x6 x7 : Int) (hb : cs.length ≤ 1048576) : Ev (fun k => impl_IsMachine.f k r c cs x3 x4 x5 x6 x7) (decide (MGood r c cs x3 x4 x5 x6 x7)) := by
  unfold impl_IsMachine.f
  have no : ∀ {p : Prop} [Decidable p], ¬ p → false = decide p := fun h => (decide_eq_false h).symm
  refine Ev.bind (validEntry r c cs x3 hb) (Ev.split (fun h => ?_) (fun h => Ev.val (Ev.now _) (no fun q => h (decide_eq_true q.1))))
  refine Ev.bind (validEntry r c cs x4 hb) (Ev.split (fun h' => ?_) (fun h' => Ev.val (Ev.now _) (no fun q => h' (decide_eq_true q.2.1))))
  have h1 := of_decide_eq_true h
  have h2 := of_decide_eq_true h'
  refine Ev.split (fun a1 => ?_) (fun a => Ev.val (Ev.now _) (no fun q => a q.2.2.1))
  refine Ev.split (fun a2 => ?_) (fun a => Ev.val (Ev.now _) (no fun q => a q.2.2.2.1))
  refine Ev.split (fun a3 => ?_) (fun a => Ev.val (Ev.now _) (no fun q => a q.2.2.2.2.1))
  refine Ev.split (fun a4 => ?_) (fun a => Ev.val (Ev.now _) (no fun q => a q.2.2.2.2.2.1))
  refine Ev.split (fun a5 => ?_) (fun a => Ev.val (Ev.now _) (no fun q => a q.2.2.2.2.2.2.1))
  refine Ev.val (Ev.now _) ?_
  rw [decide_eq_decide]
  exact ⟨fun q => ⟨h1, h2, a1, a2, a3, a4, a5, q⟩, fun q => q.2.2.2.2.2.2.2⟩
end Go.Proofs.Ythnehlphifegaaa.Board
