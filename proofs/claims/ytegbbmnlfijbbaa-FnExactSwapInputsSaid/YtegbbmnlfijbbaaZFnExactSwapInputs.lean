/- The pure statement of the law FnExactSwapInputs: its printed function comes to true, whatever the table, the two inputs. -/
import Derived.Test.YtegbbmnlfijbbaaTabMark
import Derived.Test.YtegbbmnlfijbbaaSwapIn
import Derived.Test.YtegbbmnlfijbbaaPx39
namespace Go.Proofs.Ytegbbmnlfijbbaa.PureFnExactSwapInputs
open Go.RowKit Go.Proofs.Ytegbbmnlfijbbaa.P Go.Proofs.Ytegbbmnlfijbbaa.Base Go.Proofs.Ytegbbmnlfijbbaa.Bit Go.Proofs.Ytegbbmnlfijbbaa.Tab Go.Proofs.Ytegbbmnlfijbbaa.Swap Go.Proofs.YtegbbmnlfijbbaaW.PrintWords Go.Proofs.YtegbbmnlfijbbaaW.PrintLast Go.Proofs.YtegbbmnlfijbbaaW.PrintMore
set_option linter.unusedVariables false
set_option linter.unusedSimpArgs false
theorem law : ∀ (a0_0 : Int) (l0_1 : List Int) (a1 : Int) (a2 : Int), l0_1.length ≤ 9223372036854775807 → (Lit.int .i64 a1).wf = true → (Lit.int .i64 a2).wf = true → ∃ k, laws_FnExactSwapInputs.f k a0_0 l0_1 a1 a2 = some true := by
  intro n l x v hl _ _
  apply Ev.rounds
  unfold laws_FnExactSwapInputs.f
  rw [szTab n l 1048576 hl (by omega) (by omega)]
  simp only [Option.bind_some]
  refine Ev.split (fun _ => Ev.now _) (fun c => ?_)
  have hb : l.length ≤ 1048576 := by split at c <;> omega
  obtain ⟨a, L, ok, hL, hs, hi⟩ := both n l x v hb
  repeat' first
    | exact Ev.now true
    | dsimp only
    | with_reducible refine Ev.bind hs ?_
    | with_reducible refine Ev.bind hi ?_
    | with_reducible refine Ev.bind (toTab _ _ (by omega)) ?_
    | with_reducible refine Ev.bind (eqTab_self _ _ (by omega)) ?_
    | with_reducible refine Ev.bind (markTab _ _ 1 (by omega) (by omega)) ?_
    | with_reducible refine Ev.bind (heldTab _ _ 1 (by omega) (by omega)) ?_
    | refine Ev.pos rfl ?_
    | (refine Ev.neg ?_ ?_; focus (first | omega | (simp; done)))
    | (with_reducible refine Ev.succ (g := fun k => laws_FnExactSwapInputs.j0 k _ _ _ _ _ _ _ _ _ _ _ _ _) ?_; simp only [laws_FnExactSwapInputs.j0])
    | (with_reducible refine Ev.succ (g := fun k => laws_FnExactSwapInputs.j1 k _ _ _ _ _ _ _ _ _ _) ?_; simp only [laws_FnExactSwapInputs.j1])
    | (with_reducible refine Ev.succ (g := fun k => laws_FnExactSwapInputs.j2 k _ _ _ _) ?_; simp only [laws_FnExactSwapInputs.j2])
end Go.Proofs.Ytegbbmnlfijbbaa.PureFnExactSwapInputs
