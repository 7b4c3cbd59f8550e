/- The pure statement of the law FnExactIsDiagram: its printed function comes to true, whatever the arguments. -/
import Derived.Test.YtdkfgomjfigmbaaNodes
import Derived.Test.YtdkfgomjfigmbaaDiagI
import Derived.Test.YtdkfgomjfigmbaaPx6
import Derived.Test.YtdkfgomjfigmbaaPx19
namespace Go.Proofs.Ytdkfgomjfigmbaa.PureFnExactIsDiagram
open Go.RowKit Go.Proofs.Ytdkfgomjfigmbaa.P Go.Proofs.Ytdkfgomjfigmbaa.Base Go.Proofs.Ytdkfgomjfigmbaa.Nodes Go.Proofs.Ytdkfgomjfigmbaa.Dd Go.Proofs.Ytdkfgomjfigmbaa.Diag Go.Proofs.YtdkfgomjfigmbaaW.PrintWords Go.Proofs.YtdkfgomjfigmbaaW.PrintLast Go.Proofs.YtdkfgomjfigmbaaW.PrintMore
set_option linter.unusedVariables false
set_option linter.unusedSimpArgs false
theorem both (n root : Int) (ns : List Nd) (hb : ns.length ≤ 1048576) : ∃ b, Ev (fun k => spec_IsDiagram.f k n ns root) b ∧ Ev (fun k => impl_IsDiagram.f k n ns root) b := by
  unfold spec_IsDiagram.f
  rcases test (n := n) (root := root) hb with ⟨m, f, hI, hf, hS, hs, hi⟩ | ⟨hs, hi⟩
  · exact ⟨true, Ev.bind hs (Ev.now _), hi⟩
  · exact ⟨false, Ev.bind hs (Ev.now _), hi⟩
theorem law : ∀ (a0_0 : Int) (l0_1 : List NdL) (a0_2 : Int), l0_1.length ≤ 9223372036854775807 → ∃ k, laws_FnExactIsDiagram.f k a0_0 l0_1 a0_2 = some true := by
  intro n l root hl
  apply Ev.rounds
  unfold laws_FnExactIsDiagram.f
  rw [szDiagram n root l 1048576 hl (by omega) (by omega)]
  simp only [Option.bind_some]
  refine Ev.split (fun _ => Ev.now _) (fun c0 => ?_)
  have hb : l.length ≤ 1048576 := by split at c0 <;> omega
  have hm : (l.map convN).length ≤ 1048576 := by simpa using hb
  obtain ⟨b, hs, hi⟩ := both n root (l.map convN) hm
  repeat' first
    | exact Ev.now true
    | dsimp only
    | with_reducible refine Ev.bind hs ?_
    | with_reducible refine Ev.bind hi ?_
    | with_reducible refine Ev.bind (toDiagram _ _ _ (by omega)) ?_
    | with_reducible refine Ev.bind (eqDiagram_self _ _ _ (by omega)) ?_
    | refine Ev.pos rfl ?_
    | (refine Ev.neg ?_ ?_; focus (first | omega | (simp; done)))
end Go.Proofs.Ytdkfgomjfigmbaa.PureFnExactIsDiagram
