/- The pure statement of the law FnExactIsTable: its printed function comes to true, whatever the table. -/
import Derived.Test.YtlccgamaplaacaaTab
import Derived.Test.YtlccgamaplaacaaPx2
import Derived.Test.YtlccgamaplaacaaPx5
namespace Go.Proofs.Ytlccgamaplaacaa.PureFnExactIsTable
open Go.RowKit Go.Proofs.Ytlccgamaplaacaa.P Go.Proofs.Ytlccgamaplaacaa.Base Go.Proofs.Ytlccgamaplaacaa.Tab Go.Proofs.YtlccgamaplaacaaW.PrintWords Go.Proofs.YtlccgamaplaacaaW.PrintLast Go.Proofs.YtlccgamaplaacaaW.PrintMore
set_option linter.unusedVariables false
theorem spec_ev (n : Int) (l : List Int) (hb : l.length < 9223372036854775807) : Ev (fun k => spec_IsTable.f k n l) (decide (TGood n l)) := by
  unfold spec_IsTable.f
  exact Ev.bind (ttGood n l hb) (Ev.now _)
theorem law : ∀ (a0_0 : Int) (l0_1 : List Int), l0_1.length ≤ 9223372036854775807 → ∃ k, laws_FnExactIsTable.f k a0_0 l0_1 = some true := by
  intro n l hl
  apply Ev.rounds
  unfold laws_FnExactIsTable.f
  rw [szTab n l 1048576 hl (by omega) (by omega)]
  simp only [Option.bind_some]
  refine Ev.split (fun _ => Ev.now _) (fun c => ?_)
  have hb : l.length ≤ 1048576 := by split at c <;> omega
  refine Ev.bind (toTab n l hb) ?_
  refine Ev.bind (spec_ev n l (by omega)) ?_
  refine Ev.bind (toTab n l hb) ?_
  refine Ev.bind (implIsTable n l (by omega)) ?_
  refine Ev.neg (by simp) ?_
  refine Ev.bind (toTab n l hb) ?_
  refine Ev.bind (eqTab_self n l (by omega)) ?_
  exact Ev.pos rfl (Ev.now _)
end Go.Proofs.Ytlccgamaplaacaa.PureFnExactIsTable
