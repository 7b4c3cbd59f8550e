/- The pure statement of the law FnExactBitsOf. -/
import Derived.Test.YtakihdabbpconaaBoardMark
import Derived.Test.YtakihdabbpconaaBits
import Derived.Test.YtakihdabbpconaaPx23
namespace Go.Proofs.Ytakihdabbpconaa.PureFnExactBitsOf
open Go.RowKit Go.Proofs.Ytakihdabbpconaa.P Go.Proofs.Ytakihdabbpconaa.Base Go.Proofs.Ytakihdabbpconaa.Board Go.Proofs.Ytakihdabbpconaa.Units Go.Proofs.YtakihdabbpconaaW.PrintWords Go.Proofs.YtakihdabbpconaaW.PrintLast Go.Proofs.YtakihdabbpconaaW.PrintMore
set_option linter.unusedVariables false
set_option linter.unusedSimpArgs false
theorem both (r c : Int) (cs : List C) (hb : cs.length ≤ 1048576) : ∃ (B : List Int) (ok : Bool), B.length ≤ 1048576 ∧ Ev (fun k => spec_BitsOf.f k r c cs) (B, ok) ∧ Ev (fun k => impl_BitsOf.f k r c cs) (B, ok) := by
  by_cases h : Board.Good r c cs
  · obtain ⟨U, hU, _, _, s, i, _⟩ := bitsOK h
    have := hU.few
    refine ⟨U.map (bitAt cs), true, by simp; omega, ?_, ?_⟩
    · unfold spec_BitsOf.f
      exact Ev.bind (spec_yes h) (Ev.pos rfl (Ev.bind s (Ev.now _)))
    · unfold impl_BitsOf.f
      exact Ev.bind (impl_yes h) (Ev.pos rfl (Ev.bind i (Ev.now _)))
  · refine ⟨[], false, by simp, ?_, ?_⟩
    · unfold spec_BitsOf.f
      exact Ev.bind (spec_no h hb) (Ev.neg (by simp) (Ev.now _))
    · unfold impl_BitsOf.f
      exact Ev.bind (impl_no h hb) (Ev.neg (by simp) (Ev.now _))
theorem law : ∀ (a0_0 : Int) (a0_1 : Int) (l0_2 : List CL), l0_2.length ≤ 9223372036854775807 → ∃ k, laws_FnExactBitsOf.f k a0_0 a0_1 l0_2 = some true := by
  intro r c l hl
  apply Ev.rounds
  unfold laws_FnExactBitsOf.f
  rw [szBoard r c l 1048576 hl (by omega) (by omega)]
  simp only [Option.bind_some]
  refine Ev.split (fun _ => Ev.now _) (fun c0 => ?_)
  have hb : l.length ≤ 1048576 := by split at c0 <;> omega
  have hm : (l.map convC).length ≤ 1048576 := by simpa using hb
  obtain ⟨B, ok, hL, hs, hi⟩ := both r c (l.map convC) hm
  repeat' first
    | exact Ev.now true
    | dsimp only
    | with_reducible refine Ev.bind hs ?_
    | with_reducible refine Ev.bind hi ?_
    | with_reducible refine Ev.bind (toBoard _ _ _ (by omega)) ?_
    | with_reducible refine Ev.bind (eqBoard_self _ _ _ (by omega)) ?_
    | with_reducible refine Ev.bind (markBoard _ _ _ _ (by omega) (by omega)) ?_
    | with_reducible refine Ev.bind (eqInt_self _ (by omega)) ?_
    | with_reducible refine Ev.bind (markI _ _ (by omega) (by omega)) ?_
    | with_reducible refine Ev.bind (heldI _ _ (by omega) (by omega)) ?_
    | refine Ev.pos rfl ?_
    | (refine Ev.neg ?_ ?_; focus (first | omega | (simp; done)))
    | (with_reducible refine Ev.succ (g := fun k => laws_FnExactBitsOf.j0 k _ _ _ _ _ _ _ _ _ _ _) ?_; simp only [laws_FnExactBitsOf.j0])
    | (with_reducible refine Ev.succ (g := fun k => laws_FnExactBitsOf.j1 k _ _ _ _ _ _ _) ?_; simp only [laws_FnExactBitsOf.j1])
    | (with_reducible refine Ev.succ (g := fun k => laws_FnExactBitsOf.j2 k _ _ _) ?_; simp only [laws_FnExactBitsOf.j2])
end Go.Proofs.Ytakihdabbpconaa.PureFnExactBitsOf
