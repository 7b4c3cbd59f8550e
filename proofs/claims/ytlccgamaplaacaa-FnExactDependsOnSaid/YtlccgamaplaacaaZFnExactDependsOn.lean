/- The pure statement of the law FnExactDependsOn: its printed function comes to true, whatever the table. -/
import Derived.Test.YtlccgamaplaacaaTabMark
import Derived.Test.YtlccgamaplaacaaDepends
import Derived.Test.YtlccgamaplaacaaPx39
namespace Go.Proofs.Ytlccgamaplaacaa.PureFnExactDependsOn
open Go.RowKit Go.Proofs.Ytlccgamaplaacaa.P Go.Proofs.Ytlccgamaplaacaa.Base Go.Proofs.Ytlccgamaplaacaa.Tab Go.Proofs.Ytlccgamaplaacaa.Depends Go.Proofs.YtlccgamaplaacaaW.PrintWords Go.Proofs.YtlccgamaplaacaaW.PrintLast Go.Proofs.YtlccgamaplaacaaW.PrintMore
set_option linter.unusedVariables false
theorem law : ∀ (a0_0 : Int) (l0_1 : List Int), l0_1.length ≤ 9223372036854775807 → ∃ k, laws_FnExactDependsOn.f k a0_0 l0_1 = some true := by
  intro n l hl
  apply Ev.rounds
  unfold laws_FnExactDependsOn.f
  rw [szTab n l 1048576 hl (by omega) (by omega)]
  simp only [Option.bind_some]
  refine Ev.split (fun _ => Ev.now _) (fun c => ?_)
  have hb : l.length ≤ 1048576 := by split at c <;> omega
  obtain ⟨L, ok, hL, hs, hi⟩ := both n l hb
  repeat' first
    | exact Ev.now true
    | dsimp only
    | with_reducible refine Ev.bind hs ?_
    | with_reducible refine Ev.bind hi ?_
    | with_reducible refine Ev.bind (toTab _ _ (by omega)) ?_
    | with_reducible refine Ev.bind (eqTab_self _ _ (by omega)) ?_
    | with_reducible refine Ev.bind (markTab _ _ 1 (by omega) (by omega)) ?_
    | with_reducible refine Ev.bind (heldTab _ _ 1 (by omega) (by omega)) ?_
    | with_reducible refine Ev.bind (toInt _ (by omega)) ?_
    | with_reducible refine Ev.bind (eqInt_self _ (by omega)) ?_
    | with_reducible refine Ev.bind (markI _ 1 (by omega) (by omega)) ?_
    | with_reducible refine Ev.bind (heldI _ 1 (by omega) (by omega)) ?_
    | refine Ev.pos rfl ?_
    | (refine Ev.neg ?_ ?_; focus (first | omega | (simp; done)))
    | (with_reducible refine Ev.succ (g := fun k => laws_FnExactDependsOn.j0 k _ _ _ _ _ _ _ _ _) ?_; simp only [laws_FnExactDependsOn.j0])
    | (with_reducible refine Ev.succ (g := fun k => laws_FnExactDependsOn.j1 k _ _ _ _ _ _) ?_; simp only [laws_FnExactDependsOn.j1])
    | (with_reducible refine Ev.succ (g := fun k => laws_FnExactDependsOn.j2 k _ _ _) ?_; simp only [laws_FnExactDependsOn.j2])
end Go.Proofs.Ytlccgamaplaacaa.PureFnExactDependsOn
