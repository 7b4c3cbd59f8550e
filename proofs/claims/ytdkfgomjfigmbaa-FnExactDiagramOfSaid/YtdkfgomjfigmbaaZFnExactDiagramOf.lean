/- The pure statement of the law FnExactDiagramOf: its printed function comes to true, whatever the table. -/
import Derived.Test.YtdkfgomjfigmbaaTabMark
import Derived.Test.YtdkfgomjfigmbaaNodesMark
import Derived.Test.YtdkfgomjfigmbaaPx2
import Derived.Test.YtdkfgomjfigmbaaPx12
import Derived.Test.YtdkfgomjfigmbaaPx21
namespace Go.Proofs.Ytdkfgomjfigmbaa.PureFnExactDiagramOf
open Go.RowKit Go.Proofs.Ytdkfgomjfigmbaa.P Go.Proofs.Ytdkfgomjfigmbaa.Base Go.Proofs.Ytdkfgomjfigmbaa.Tab Go.Proofs.Ytdkfgomjfigmbaa.Nodes Go.Proofs.YtdkfgomjfigmbaaW.PrintWords Go.Proofs.YtdkfgomjfigmbaaW.PrintLast Go.Proofs.YtdkfgomjfigmbaaW.PrintMore
set_option linter.unusedVariables false
set_option linter.unusedSimpArgs false
theorem both (n : Int) (l : List Int) (hb : l.length ≤ 1048576) : ∃ a L r ok, (L : List Nd).length ≤ 1048576 ∧ Ev (fun k => spec_DiagramOf.f k n l) (a, L, r, ok) ∧ Ev (fun k => impl_DiagramOf.f k n l) (a, L, r, ok) := by
  unfold spec_DiagramOf.f impl_DiagramOf.f
  by_cases h : TGood n l
  · have hmk : spec_ddMake.f n l = some (n, (dbld l n.toNat 0 0 []).1, (dbld l n.toNat 0 0 []).2) := by
      unfold spec_ddMake.f
      rw [if_pos ⟨h.1, h.2.1, h.2.2.1⟩]
    have hl : (dbld l n.toNat 0 0 []).1.length ≤ 1048576 := by
      have h1 := dbld_len l n.toNat 0 0 []
      have h2 := h.len
      rw [h.2.2.1] at h2
      simp only [List.length_nil] at h1; omega
    refine ⟨n, (dbld l n.toNat 0 0 []).1, (dbld l n.toNat 0 0 []).2, true, hl, Ev.bind (Ev.val (ttGood n l (by omega)) (decide_eq_true h)) (Ev.pos rfl ?_), Ev.bind (Ev.val (implIsTable n l (by omega)) (decide_eq_true h)) (Ev.pos rfl ?_)⟩
    · simp only [hmk, Option.bind_some]; exact Ev.now _
    · simp only [impl_diagramOf.f, hmk, Option.bind_some]; exact Ev.now _
  · exact ⟨0, [], 0, false, by simp, Ev.bind (Ev.val (ttGood n l (by omega)) (decide_eq_false h)) (Ev.neg (by simp) (Ev.now _)), Ev.bind (Ev.val (implIsTable n l (by omega)) (decide_eq_false h)) (Ev.neg (by simp) (Ev.now _))⟩
theorem law : ∀ (a0_0 : Int) (l0_1 : List Int), l0_1.length ≤ 9223372036854775807 → ∃ k, laws_FnExactDiagramOf.f k a0_0 l0_1 = some true := by
  intro n l hl
  apply Ev.rounds
  unfold laws_FnExactDiagramOf.f
  rw [szTab n l 1048576 hl (by omega) (by omega)]
  simp only [Option.bind_some]
  refine Ev.split (fun _ => Ev.now _) (fun c => ?_)
  have hb : l.length ≤ 1048576 := by split at c <;> omega
  obtain ⟨a, L, r, ok, hL, hs, hi⟩ := both n l hb
  repeat' first
    | exact Ev.now true
    | dsimp only
    | with_reducible refine Ev.bind hs ?_
    | with_reducible refine Ev.bind hi ?_
    | with_reducible refine Ev.bind (toTab _ _ (by omega)) ?_
    | with_reducible refine Ev.bind (eqTab_self _ _ (by omega)) ?_
    | with_reducible refine Ev.bind (markTab _ _ _ (by omega) (by omega)) ?_
    | with_reducible refine Ev.bind (eqDiagram_self _ _ _ (by omega)) ?_
    | with_reducible refine Ev.bind (markDiagram _ _ _ _ (by omega) (by omega)) ?_
    | with_reducible refine Ev.bind (heldDiagram _ _ _ _ (by omega) (by omega)) ?_
    | refine Ev.pos rfl ?_
    | (refine Ev.neg ?_ ?_; focus (first | omega | (simp; done)))
    | (with_reducible refine Ev.succ (g := fun k => laws_FnExactDiagramOf.j0 k _ _ _ _ _ _ _ _ _ _ _ _ _) ?_; simp only [laws_FnExactDiagramOf.j0])
    | (with_reducible refine Ev.succ (g := fun k => laws_FnExactDiagramOf.j1 k _ _ _ _ _ _ _ _ _ _) ?_; simp only [laws_FnExactDiagramOf.j1])
    | (with_reducible refine Ev.succ (g := fun k => laws_FnExactDiagramOf.j2 k _ _ _ _ _) ?_; simp only [laws_FnExactDiagramOf.j2])
end Go.Proofs.Ytdkfgomjfigmbaa.PureFnExactDiagramOf
