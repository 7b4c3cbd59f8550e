/- The pure statement of the law FnExactParseTable: its printed function comes to true, whatever the string. -/
import Derived.Test.YtegbbmnlfijbbaaParseT
import Derived.Test.YtegbbmnlfijbbaaTabMark
import Derived.Test.YtegbbmnlfijbbaaPx34
namespace Go.Proofs.Ytegbbmnlfijbbaa.Pure
open Go.RowKit Go.Proofs.Ytegbbmnlfijbbaa.P Go.Proofs.Ytegbbmnlfijbbaa.Base Go.Proofs.Ytegbbmnlfijbbaa.Tab Go.Proofs.Ytegbbmnlfijbbaa.Bytes Go.Proofs.YtegbbmnlfijbbaaW.PrintWords Go.Proofs.YtegbbmnlfijbbaaW.PrintLast Go.Proofs.YtegbbmnlfijbbaaW.PrintMore
set_option linter.unusedVariables false
set_option linter.unusedSimpArgs false
theorem FnExactParseTable : laws_FnExactParseTable.Pure := by
  intro s _
  apply Ev.rounds
  unfold laws_FnExactParseTable.f
  refine Ev.split (fun _ => Ev.now _) (fun c0 => ?_)
  obtain ⟨a, L, ok, hL, hs, hi⟩ := both s (by omega)
  repeat' first
    | exact Ev.now true
    | dsimp only
    | with_reducible refine Ev.bind hs ?_
    | with_reducible refine Ev.bind hi ?_
    | with_reducible refine Ev.bind (eqTab_self _ _ (by omega)) ?_
    | with_reducible refine Ev.bind (markTab _ _ 1 (by omega) (by omega)) ?_
    | with_reducible refine Ev.bind (heldTab _ _ 1 (by omega) (by omega)) ?_
    | refine Ev.pos rfl ?_
    | (refine Ev.neg ?_ ?_; focus (first | omega | (simp; done)))
    | (with_reducible refine Ev.succ (g := fun k => laws_FnExactParseTable.j0 k _ _ _ _ _ _ _) ?_; simp only [laws_FnExactParseTable.j0])
    | (with_reducible refine Ev.succ (g := fun k => laws_FnExactParseTable.j1 k _ _ _ _) ?_; simp only [laws_FnExactParseTable.j1])
end Go.Proofs.Ytegbbmnlfijbbaa.Pure
