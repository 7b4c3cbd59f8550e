/- Marks of boards: that they are held. -/
import Derived.Test.YthnehlphifegaaaMarkC
import Derived.Test.YthnehlphifegaaaPx0
import Derived.Test.YthnehlphifegaaaPx17
namespace Go.Proofs.Ythnehlphifegaaa.Board
open Go.RowKit Go.Proofs.Ythnehlphifegaaa.P Go.Proofs.Ythnehlphifegaaa.Base Go.Proofs.YthnehlphifegaaaW.PrintWords Go.Proofs.YthnehlphifegaaaW.PrintLast Go.Proofs.YthnehlphifegaaaW.PrintMore
set_option linter.unusedVariables false
set_option linter.unusedSimpArgs false
theorem heldC_loop (n : Nat) (a : Int) (ha : 0 ≤ a) (hb : a + 2 * n < 9223372036854775807) (d : Nat) : ∀ (i : Nat), i + d = n →
    Ev (fun k => laws_heldCellS.l0 k (marksC a n) (a + 2 * i) i) (a + 2 * n) := by
  induction d with
  | zero =>
    intro i hi
    refine Ev.succ ?_
    simp only [laws_heldCellS.l0, marksC_length]
    refine Ev.neg (by omega) ?_
    obtain rfl : i = n := by omega
    exact Ev.now _
  | succ d ih =>
    intro i hi
    refine Ev.succ ?_
    have hr : rd_T98 (marksC a n) (i : Int) = ⟨a + 2 * (i : Int), a + 2 * (i : Int) + 1⟩ := by rw [rdC_get (by rw [marksC_length]; omega)]; simp [marksC]
    have e1 : wrap64 (a + 2 * (i : Int) + 1) = a + 2 * (i : Int) + 1 := wrap_id (by omega) (by omega)
    have e2 : wrap64 (a + 2 * (i : Int) + 1 + 1) = a + 2 * ((i + 1 : Nat) : Int) := by rw [wrap_id (by omega) (by omega)]; omega
    simp only [laws_heldCellS.l0, marksC_length, hr, e1, e2, if_true]
    refine Ev.pos (by omega) (Ev.pos (by omega) ?_)
    rw [wrap_nat (by omega)]
    exact ih (i + 1) (by omega)
theorem heldBoard (r c : Int) (n : Nat) (a : Int) (ha : 0 ≤ a) (hb : a + 2 * n < 9223372036854775807) : Ev (fun k => laws_heldBoard.f k r c (marksC a n) a) (a + 2 * n) := by
  unfold laws_heldBoard.f laws_heldCellS.f
  refine Ev.bind (a := a + 2 * n) ?_ (Ev.neg (by omega) (Ev.now _))
  have := heldC_loop n a ha hb n 0 (by omega)
  simpa using this
theorem heldMachine (r c : Int) (n : Nat) (x3 x4 x5 x6 x7 a : Int) (ha : 0 ≤ a) (hb : a + 2 * n < 9223372036854775807) : Ev (fun k => laws_heldMachine.f k r c (marksC a n) x3 x4 x5 x6 x7 a) (a + 2 * n) := by
  unfold laws_heldMachine.f
  exact Ev.bind (heldBoard r c n a ha hb) (Ev.neg (by omega) (Ev.now _))
end Go.Proofs.Ythnehlphifegaaa.Board
