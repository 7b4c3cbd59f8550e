/- The pure statement of the law FnExactIsLog: its printed function comes to true, whatever the entries. -/
import Derived.Test.YtlccgamaplaacaaLog
import Derived.Test.YtlccgamaplaacaaPx0
import Derived.Test.YtlccgamaplaacaaPx6
import Derived.Test.YtlccgamaplaacaaPx8
import Derived.Test.YtlccgamaplaacaaPx10
namespace Go.Proofs.Ytlccgamaplaacaa.PureFnExactIsLog
open Go.RowKit Go.Proofs.Ytlccgamaplaacaa.P Go.Proofs.Ytlccgamaplaacaa.Base Go.Proofs.Ytlccgamaplaacaa.Log Go.Proofs.YtlccgamaplaacaaW.PrintWords Go.Proofs.YtlccgamaplaacaaW.PrintLast Go.Proofs.YtlccgamaplaacaaW.PrintMore
set_option linter.unusedVariables false
theorem both (l : List LE) (hb : l.length ≤ 1048576) : ∃ a, Ev (fun k => spec_IsLog.f k l) a ∧ Ev (fun k => impl_IsLog.f k l) a := by
  refine ⟨decide (LGood l), ?_, implIsLog l (by omega)⟩
  unfold spec_IsLog.f
  exact Ev.bind (loGood l (by omega)) (Ev.now _)
theorem law : ∀ (l0 : List (S66)), l0.length ≤ 9223372036854775807 → ∃ k, laws_FnExactIsLog.f k l0 = some true := by
  intro l hl
  apply Ev.rounds
  unfold laws_FnExactIsLog.f
  rw [szLog l 1048576 hl (by omega) (by omega)]
  simp only [Option.bind_some]
  refine Ev.split (fun _ => Ev.now _) (fun c => ?_)
  have hb : l.length ≤ 1048576 := by split at c <;> omega
  have hc : (l.map conv).length ≤ 1048576 := by simpa using hb
  obtain ⟨a, hs, hi⟩ := both (l.map conv) hc
  repeat' first
    | exact Ev.now true
    | dsimp only
    | with_reducible refine Ev.bind hs ?_
    | with_reducible refine Ev.bind hi ?_
    | with_reducible refine Ev.bind (toLog _ (by omega)) ?_
    | with_reducible refine Ev.bind (eqLog_self _ (by omega)) ?_
    | with_reducible refine Ev.bind (markLog _ 1 (by omega) (by omega)) ?_
    | with_reducible refine Ev.bind (heldLog _ 1 (by omega) (by omega)) ?_
    | refine Ev.pos rfl ?_
    | (refine Ev.neg ?_ ?_; focus (first | omega | (simp; done)))
end Go.Proofs.Ytlccgamaplaacaa.PureFnExactIsLog
