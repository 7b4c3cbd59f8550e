/- The pure statement of the law FnExactIsSymmetric: its printed function comes to true, whatever the table. -/
import Derived.Test.YtegbbmnlfijbbaaSymIn
import Derived.Test.YtegbbmnlfijbbaaPx37
namespace Go.Proofs.Ytegbbmnlfijbbaa.PureFnExactIsSymmetric
open Go.RowKit Go.Proofs.Ytegbbmnlfijbbaa.P Go.Proofs.Ytegbbmnlfijbbaa.Base Go.Proofs.Ytegbbmnlfijbbaa.Tab Go.Proofs.Ytegbbmnlfijbbaa.Sym Go.Proofs.YtegbbmnlfijbbaaW.PrintWords Go.Proofs.YtegbbmnlfijbbaaW.PrintLast Go.Proofs.YtegbbmnlfijbbaaW.PrintMore
set_option linter.unusedVariables false
set_option linter.unusedSimpArgs false
theorem law : ∀ (a0_0 : Int) (l0_1 : List Int), l0_1.length ≤ 9223372036854775807 → ∃ k, laws_FnExactIsSymmetric.f k a0_0 l0_1 = some true := by
  intro n l hl
  apply Ev.rounds
  unfold laws_FnExactIsSymmetric.f
  rw [szTab n l 1048576 hl (by omega) (by omega)]
  simp only [Option.bind_some]
  refine Ev.split (fun _ => Ev.now _) (fun c => ?_)
  have hb : l.length ≤ 1048576 := by split at c <;> omega
  obtain ⟨a, ok, hs, hi⟩ := both n l hb
  repeat' first
    | exact Ev.now true
    | dsimp only
    | with_reducible refine Ev.bind hs ?_
    | with_reducible refine Ev.bind hi ?_
    | with_reducible refine Ev.bind (toTab _ _ (by omega)) ?_
    | with_reducible refine Ev.bind (eqTab_self _ _ (by omega)) ?_
    | refine Ev.pos rfl ?_
    | (refine Ev.neg ?_ ?_; focus (first | omega | (simp; done)))
    | (with_reducible refine Ev.succ (g := fun k => laws_FnExactIsSymmetric.j0 k _ _ _ _ _) ?_; simp only [laws_FnExactIsSymmetric.j0])
end Go.Proofs.Ytegbbmnlfijbbaa.PureFnExactIsSymmetric
