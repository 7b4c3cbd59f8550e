/- Marks of boards. -/
import Derived.Test.YtlkmafoihjglcaaBoard
import Derived.Test.YtlkmafoihjglcaaPx4
namespace Go.Proofs.Ytlkmafoihjglcaa.Board
open Go.RowKit Go.Proofs.Ytlkmafoihjglcaa.P Go.Proofs.Ytlkmafoihjglcaa.Base Go.Proofs.YtlkmafoihjglcaaW.PrintWords Go.Proofs.YtlkmafoihjglcaaW.PrintLast Go.Proofs.YtlkmafoihjglcaaW.PrintMore
set_option linter.unusedVariables false
set_option linter.unusedSimpArgs false
def marksC (a : Int) (n : Nat) : List C := (List.range n).map fun (j : Nat) => (⟨a + 2 * (j : Int), a + 2 * (j : Int) + 1⟩ : C)
theorem marksC_length (a : Int) (n : Nat) : (marksC a n).length = n := by simp [marksC]
theorem markC_loop (n : Nat) (a : Int) (ha : 0 ≤ a) (hb : a + 2 * n < 9223372036854775807) (d : Nat) : ∀ (i : Nat) (m : List C), i + d = n → m.length = n → m.take i = marksC a i →
    Ev (fun k => laws_markCellS.l0 k m (a + 2 * i) i) (a + 2 * n, marksC a n) := by
  induction d with
  | zero =>
    intro i m hi hm ht
    refine Ev.succ ?_
    simp only [laws_markCellS.l0]
    refine Ev.neg (by omega) ?_
    obtain rfl : i = n := by omega
    rw [List.take_of_length_le (by omega)] at ht
    rw [ht]
    exact Ev.now _
  | succ d ih =>
    intro i m hi hm ht
    refine Ev.succ ?_
    simp only [laws_markCellS.l0]
    refine Ev.pos (by omega) (Ev.pos (by omega) ?_)
    simp only [Option.bind_some]
    have e1 : wrap64 (a + 2 * (i : Int) + 1) = a + 2 * (i : Int) + 1 := wrap_id (by omega) (by omega)
    have e2 : wrap64 (a + 2 * (i : Int) + 1 + 1) = a + 2 * ((i + 1 : Nat) : Int) := by rw [wrap_id (by omega) (by omega)]; omega
    rw [wrap_nat (by omega), e1, e2]
    refine ih (i + 1) _ (by omega) (by simpa using hm) ?_
    rw [Int.toNat_natCast, rdC_get (by omega), rdC_get (by simp; omega), List.take_succ_eq_append_getElem (by simp; omega), List.take_set_of_le (Nat.le_refl _), List.take_set_of_le (Nat.le_refl _), ht]
    simp [marksC, List.range_succ]
theorem markBoard (r c : Int) (l : List C) (a : Int) (ha : 0 ≤ a) (hb : a + 2 * l.length < 9223372036854775807) : Ev (fun k => laws_markBoard.f k r c l a) (a + 2 * l.length, marksC a l.length) := by
  unfold laws_markBoard.f laws_markCellS.f
  have := markC_loop l.length a ha hb l.length 0 l (by omega) rfl (by simp [marksC])
  refine Ev.bind (a := (a + 2 * l.length, marksC a l.length)) (by simpa using this) (Ev.now _)
end Go.Proofs.Ytlkmafoihjglcaa.Board
