/- The pure statement of the law FnExactReorderTable: its printed function comes to true, whatever the table and the order. -/
import Derived.Test.YtegbbmnlfijbbaaTabMark
import Derived.Test.YtegbbmnlfijbbaaOrder
import Derived.Test.YtegbbmnlfijbbaaPx45
namespace Go.Proofs.Ytegbbmnlfijbbaa.PureFnExactReorderTable
open Go.RowKit Go.Proofs.Ytegbbmnlfijbbaa.P Go.Proofs.Ytegbbmnlfijbbaa.Base Go.Proofs.Ytegbbmnlfijbbaa.Bit Go.Proofs.Ytegbbmnlfijbbaa.Tab Go.Proofs.Ytegbbmnlfijbbaa.Order Go.Proofs.YtegbbmnlfijbbaaW.PrintWords Go.Proofs.YtegbbmnlfijbbaaW.PrintLast Go.Proofs.YtegbbmnlfijbbaaW.PrintMore
set_option linter.unusedVariables false
set_option linter.unusedSimpArgs false
theorem law : ∀ (a0_0 : Int) (l0_1 : List Int) (l1 : List Int), l0_1.length ≤ 9223372036854775807 → l1.length ≤ 9223372036854775807 → ∃ k, laws_FnExactReorderTable.f k a0_0 l0_1 l1 = some true := by
  intro n l m hl hm
  apply Ev.rounds
  unfold laws_FnExactReorderTable.f
  refine Ev.split (fun _ => Ev.now _) (fun c0 => ?_)
  rw [szTab n l 1048576 hl (by omega) (by omega)]
  simp only [Option.bind_some]
  refine Ev.split (fun _ => Ev.now _) (fun c => ?_)
  have hb : l.length ≤ 1048576 := by split at c <;> omega
  have hbm : m.length ≤ 1048576 := by omega
  obtain ⟨a, L, ok, hL, hs, hi⟩ := both n l m hb hbm
  repeat' first
    | exact Ev.now true
    | dsimp only
    | with_reducible refine Ev.bind hs ?_
    | with_reducible refine Ev.bind hi ?_
    | with_reducible refine Ev.bind (toTab _ _ (by omega)) ?_
    | with_reducible refine Ev.bind (eqTab_self _ _ (by omega)) ?_
    | with_reducible refine Ev.bind (markTab _ _ _ (by omega) (by omega)) ?_
    | with_reducible refine Ev.bind (heldTab _ _ _ (by omega) (by omega)) ?_
    | with_reducible refine Ev.bind (toInt _ (by omega)) ?_
    | with_reducible refine Ev.bind (eqInt_self _ (by omega)) ?_
    | with_reducible refine Ev.bind (markI _ _ (by omega) (by omega)) ?_
    | refine Ev.pos rfl ?_
    | (refine Ev.neg ?_ ?_; focus (first | omega | (simp; done)))
    | (with_reducible refine Ev.succ (g := fun k => laws_FnExactReorderTable.j0 k _ _ _ _ _ _ _ _ _ _ _ _ _) ?_; simp only [laws_FnExactReorderTable.j0])
    | (with_reducible refine Ev.succ (g := fun k => laws_FnExactReorderTable.j1 k _ _ _ _ _ _ _ _ _) ?_; simp only [laws_FnExactReorderTable.j1])
    | (with_reducible refine Ev.succ (g := fun k => laws_FnExactReorderTable.j2 k _ _ _ _) ?_; simp only [laws_FnExactReorderTable.j2])
end Go.Proofs.Ytegbbmnlfijbbaa.PureFnExactReorderTable
