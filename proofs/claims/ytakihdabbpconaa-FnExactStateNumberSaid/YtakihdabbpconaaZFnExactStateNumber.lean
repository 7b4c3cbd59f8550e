/- The pure statement of the law FnExactStateNumber. -/
import Derived.Test.YtakihdabbpconaaBoardMark
import Derived.Test.YtakihdabbpconaaBitNum
import Derived.Test.YtakihdabbpconaaPx16
import Derived.Test.YtakihdabbpconaaPx22
namespace Go.Proofs.Ytakihdabbpconaa.PureFnExactStateNumber
open Go.RowKit Go.Proofs.Ytakihdabbpconaa.P Go.Proofs.Ytakihdabbpconaa.Base Go.Proofs.Ytakihdabbpconaa.Board Go.Proofs.Ytakihdabbpconaa.Units Go.Proofs.YtakihdabbpconaaW.PrintWords Go.Proofs.YtakihdabbpconaaW.PrintLast Go.Proofs.YtakihdabbpconaaW.PrintMore
set_option linter.unusedVariables false
set_option linter.unusedSimpArgs false
theorem both (r c : Int) (cs : List C) (hb : cs.length ≤ 1048576) : ∃ (B : Int) (ok : Bool), Ev (fun k => spec_StateNumber.f k r c cs) (B, ok) ∧ Ev (fun k => impl_StateNumber.f k r c cs) (B, ok) := by
  by_cases h : Board.Good r c cs
  · obtain ⟨U, hU, u1, u2, s, i, h01⟩ := bitsOK h
    have := hU.few
    by_cases h16 : U.length ≤ 16
    · obtain ⟨N, n1, n2⟩ := number (U.map (bitAt cs)) (by simpa using h16) h01
      refine ⟨N, true, ?_, ?_⟩
      · unfold spec_StateNumber.f spec_saSmall.f spec_saNumber.f
        refine Ev.bind (Ev.bind (spec_yes h) (Ev.pos rfl (Ev.bind u1 (Ev.now _)))) (Ev.pos (by simp; omega) (Ev.bind (Ev.bind s n1) (Ev.now _)))
      · unfold impl_StateNumber.f
        exact Ev.bind (impl_yes h) (Ev.pos rfl (Ev.bind i (Ev.neg (by simp; omega) (Ev.bind n2 (Ev.now _)))))
    · refine ⟨0, false, ?_, ?_⟩
      · unfold spec_StateNumber.f spec_saSmall.f
        refine Ev.bind (Ev.bind (spec_yes h) (Ev.pos rfl (Ev.bind u1 (Ev.now _)))) (Ev.neg (by simp; omega) (Ev.now _))
      · unfold impl_StateNumber.f
        exact Ev.bind (impl_yes h) (Ev.pos rfl (Ev.bind i (Ev.pos (by simp; omega) (Ev.now _))))
  · refine ⟨0, false, ?_, ?_⟩
    · unfold spec_StateNumber.f spec_saSmall.f
      exact Ev.bind (Ev.bind (spec_no h hb) (Ev.neg (by simp) (Ev.now _))) (Ev.neg (by simp) (Ev.now _))
    · unfold impl_StateNumber.f
      exact Ev.bind (impl_no h hb) (Ev.neg (by simp) (Ev.now _))
theorem law : ∀ (a0_0 : Int) (a0_1 : Int) (l0_2 : List CL), l0_2.length ≤ 9223372036854775807 → ∃ k, laws_FnExactStateNumber.f k a0_0 a0_1 l0_2 = some true := by
  intro r c l hl
  apply Ev.rounds
  unfold laws_FnExactStateNumber.f
  rw [szBoard r c l 1048576 hl (by omega) (by omega)]
  simp only [Option.bind_some]
  refine Ev.split (fun _ => Ev.now _) (fun c0 => ?_)
  have hb : l.length ≤ 1048576 := by split at c0 <;> omega
  have hm : (l.map convC).length ≤ 1048576 := by simpa using hb
  obtain ⟨B, ok, hs, hi⟩ := both r c (l.map convC) hm
  repeat' first
    | exact Ev.now true
    | dsimp only
    | with_reducible refine Ev.bind hs ?_
    | with_reducible refine Ev.bind hi ?_
    | with_reducible refine Ev.bind (toBoard _ _ _ (by omega)) ?_
    | with_reducible refine Ev.bind (eqBoard_self _ _ _ (by omega)) ?_
    | refine Ev.pos rfl ?_
    | (refine Ev.neg ?_ ?_; focus (first | omega | (simp; done)))
    | (with_reducible refine Ev.succ (g := fun k => laws_FnExactStateNumber.j0 k _ _ _ _ _ _ _) ?_; simp only [laws_FnExactStateNumber.j0])
end Go.Proofs.Ytakihdabbpconaa.PureFnExactStateNumber
