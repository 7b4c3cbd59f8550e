/- The pure statement of the law FnExactTableOf: its printed function comes to true, whatever the arguments. -/
import Derived.Test.YtdkfgomjfigmbaaTabMark
import Derived.Test.YtdkfgomjfigmbaaNodesMark
import Derived.Test.YtdkfgomjfigmbaaDiagT
import Derived.Test.YtdkfgomjfigmbaaPx26
namespace Go.Proofs.Ytdkfgomjfigmbaa.PureFnExactTableOf
open Go.RowKit Go.Proofs.Ytdkfgomjfigmbaa.P Go.Proofs.Ytdkfgomjfigmbaa.Base Go.Proofs.Ytdkfgomjfigmbaa.Tab Go.Proofs.Ytdkfgomjfigmbaa.Nodes Go.Proofs.Ytdkfgomjfigmbaa.Dd Go.Proofs.Ytdkfgomjfigmbaa.Diag Go.Proofs.YtdkfgomjfigmbaaW.PrintWords Go.Proofs.YtdkfgomjfigmbaaW.PrintLast Go.Proofs.YtdkfgomjfigmbaaW.PrintMore
set_option linter.unusedVariables false
set_option linter.unusedSimpArgs false
theorem both (n root : Int) (ns : List Nd) (hb : ns.length ≤ 1048576) : ∃ a L ok, (L : List Int).length ≤ 1048576 ∧ Ev (fun k => spec_TableOf.f k n ns root) (a, L, ok) ∧ Ev (fun k => impl_TableOf.f k n ns root) (a, L, ok) := by
  unfold spec_TableOf.f impl_TableOf.f
  rcases test (n := n) (root := root) hb with ⟨m, f, hI, hf, hS, hs, hi⟩ | ⟨hs, hi⟩
  · have hp := pow16 hI.four
    exact ⟨n, tab f m, true, by rw [tab_len]; omega, Ev.bind hs (Ev.pos rfl (Ev.bind (ddTable hI hf) (Ev.now _))), Ev.bind hi (Ev.pos rfl (Ev.bind (implTable hI hf) (Ev.now _)))⟩
  · exact ⟨0, [], false, by simp, Ev.bind hs (Ev.neg (by simp) (Ev.now _)), Ev.bind hi (Ev.neg (by simp) (Ev.now _))⟩
theorem law : ∀ (a0_0 : Int) (l0_1 : List NdL) (a0_2 : Int), l0_1.length ≤ 9223372036854775807 → ∃ k, laws_FnExactTableOf.f k a0_0 l0_1 a0_2 = some true := by
  intro n l root hl
  apply Ev.rounds
  unfold laws_FnExactTableOf.f
  rw [szDiagram n root l 1048576 hl (by omega) (by omega)]
  simp only [Option.bind_some]
  refine Ev.split (fun _ => Ev.now _) (fun c0 => ?_)
  have hb : l.length ≤ 1048576 := by split at c0 <;> omega
  have hm : (l.map convN).length ≤ 1048576 := by simpa using hb
  obtain ⟨a, L, ok, hL, hs, hi⟩ := both n root (l.map convN) hm
  repeat' first
    | exact Ev.now true
    | dsimp only
    | with_reducible refine Ev.bind hs ?_
    | with_reducible refine Ev.bind hi ?_
    | with_reducible refine Ev.bind (toDiagram _ _ _ (by omega)) ?_
    | with_reducible refine Ev.bind (eqDiagram_self _ _ _ (by omega)) ?_
    | with_reducible refine Ev.bind (markDiagram _ _ _ _ (by omega) (by omega)) ?_
    | with_reducible refine Ev.bind (eqTab_self _ _ (by omega)) ?_
    | with_reducible refine Ev.bind (markTab _ _ _ (by omega) (by omega)) ?_
    | with_reducible refine Ev.bind (heldTab _ _ _ (by omega) (by omega)) ?_
    | refine Ev.pos rfl ?_
    | (refine Ev.neg ?_ ?_; focus (first | omega | (simp; done)))
    | (with_reducible refine Ev.succ (g := fun k => laws_FnExactTableOf.j0 k _ _ _ _ _ _ _ _ _ _ _ _ _) ?_; simp only [laws_FnExactTableOf.j0])
    | (with_reducible refine Ev.succ (g := fun k => laws_FnExactTableOf.j1 k _ _ _ _ _ _ _ _ _) ?_; simp only [laws_FnExactTableOf.j1])
    | (with_reducible refine Ev.succ (g := fun k => laws_FnExactTableOf.j2 k _ _ _ _) ?_; simp only [laws_FnExactTableOf.j2])
end Go.Proofs.Ytdkfgomjfigmbaa.PureFnExactTableOf
