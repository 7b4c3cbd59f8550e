/- The pure statement of the law FnExactBestOrder: its printed function comes to true, whatever the table. -/
import Derived.Test.YthfnceilapgloaaBest
import Derived.Test.YthfnceilapgloaaPx5
namespace Go.Proofs.Ythfnceilapgloaa.PureFnExactBestOrder
open Go.RowKit Go.Proofs.Ythfnceilapgloaa.P Go.Proofs.Ythfnceilapgloaa.Base Go.Proofs.Ythfnceilapgloaa.Tab Go.Proofs.Ythfnceilapgloaa.Best Go.Proofs.YthfnceilapgloaaW.PrintWords Go.Proofs.YthfnceilapgloaaW.PrintLast Go.Proofs.YthfnceilapgloaaW.PrintMore
set_option linter.unusedVariables false
set_option linter.unusedSimpArgs false
theorem markTab (n : Int) (l : List Int) (a : Int) (ha : 0 ≤ a) (hb : a + l.length < 9223372036854775807) : Ev (fun k => laws_markTable.f k n l a) (a + l.length, marks a l.length) := by
  unfold laws_markTable.f
  exact Ev.bind (markI l a ha hb) (Ev.now _)
theorem law : ∀ (a0_0 : Int) (l0_1 : List Int), l0_1.length ≤ 9223372036854775807 → ∃ k, laws_FnExactBestOrder.f k a0_0 l0_1 = some true := by
  intro n l hl
  apply Ev.rounds
  unfold laws_FnExactBestOrder.f
  rw [szTab n l 1048576 hl (by omega) (by omega)]
  simp only [Option.bind_some]
  refine Ev.split (fun _ => Ev.now _) (fun c => ?_)
  have hb : l.length ≤ 1048576 := by split at c <;> omega
  obtain ⟨a, m, ok, hL, hs, hi⟩ := both n l hb
  repeat' first
    | exact Ev.now true
    | dsimp only
    | with_reducible refine Ev.bind hs ?_
    | with_reducible refine Ev.bind hi ?_
    | with_reducible refine Ev.bind (toTab _ _ (by omega)) ?_
    | with_reducible refine Ev.bind (eqTab_self _ _ (by omega)) ?_
    | with_reducible refine Ev.bind (markTab _ _ _ (by omega) (by omega)) ?_
    | with_reducible refine Ev.bind (eqInt_self _ (by omega)) ?_
    | with_reducible refine Ev.bind (markI _ _ (by omega) (by omega)) ?_
    | with_reducible refine Ev.bind (heldI _ _ (by omega) (by omega)) ?_
    | refine Ev.pos rfl ?_
    | refine Ev.pos trivial ?_
    | (refine Ev.neg ?_ ?_; focus (first | omega | (simp; done)))
    | (with_reducible refine Ev.succ (g := fun k => laws_FnExactBestOrder.j0 k _ _ _ _ _ _ _ _ _ _ _) ?_; simp only [laws_FnExactBestOrder.j0])
    | (with_reducible refine Ev.succ (g := fun k => laws_FnExactBestOrder.j1 k _ _ _ _ _ _ _) ?_; simp only [laws_FnExactBestOrder.j1])
    | (with_reducible refine Ev.succ (g := fun k => laws_FnExactBestOrder.j2 k _ _ _) ?_; simp only [laws_FnExactBestOrder.j2])
end Go.Proofs.Ythfnceilapgloaa.PureFnExactBestOrder
