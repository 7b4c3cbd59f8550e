--MINI
/- The copies of a list of whole numbers that came in. -/
import Derived.Test.YtbpfdbjnnlmdjaaBase
import Derived.Test.YtbpfdbjnnlmdjaaPx7
namespace Go.Proofs.Ytbpfdbjnnlmdjaa.Base
open Go.RowKit Go.Proofs.Ytbpfdbjnnlmdjaa.P Go.Proofs.YtbpfdbjnnlmdjaaW.PrintWords Go.Proofs.YtbpfdbjnnlmdjaaW.PrintLast Go.Proofs.YtbpfdbjnnlmdjaaW.PrintMore
set_option linter.unusedVariables false
set_option linter.unusedSimpArgs false

theorem U5 (l : List Int) (hl : l.length ≤ 35184372088832) (d : Nat) : ∀ (i : Nat) (m : List Int), i + d = l.length → m.length = l.length → m.take i = l.take i →
    Ev (fun k => bX.l0 k l m i) l := by
  induction d with
  | zero =>
    intro i m hi hm ht
    refine Ev.succ ?_
    simp only [bX.l0]
    refine Ev.neg (by omega) ?_
    refine Ev.val (Ev.now m) ?_
    rw [List.take_of_length_le (by omega), List.take_of_length_le (by omega)] at ht
    exact ht
  | succ d ih =>
    intro i m hi hm ht
    refine Ev.succ ?_
    simp only [bX.l0]
    refine Ev.pos (by omega) ?_
    refine Ev.pos (by omega) ?_
    refine Ev.pos (by omega) ?_
    rw [bI (by omega)]
    refine ih (i + 1) _ (by omega) (by simpa using hm) ?_
    rw [Int.toNat_natCast, lh (by omega), List.take_succ_eq_append_getElem (by simp; omega), List.take_succ_eq_append_getElem (by omega), List.take_set_of_le (Nat.le_refl _), ht]
    simp
theorem toInt (l : List Int) (hl : l.length ≤ 1048576) : Ev (fun k => bX.f k l) l := by
  unfold bX.f
  refine Ev.pos (by omega) ?_
  refine Ev.pos (by omega) ?_
  exact U5 l (by omega) l.length 0 _ (by omega) (by simp) rfl
end Go.Proofs.Ytbpfdbjnnlmdjaa.Base
