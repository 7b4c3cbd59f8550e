/- The pure statement of the law FnExactZeroState. -/
import Derived.Test.YtakihdabbpconaaBoardMark
import Derived.Test.YtakihdabbpconaaTurn
import Derived.Test.YtakihdabbpconaaPx22
namespace Go.Proofs.Ytakihdabbpconaa.PureFnExactZeroState
open Go.RowKit Go.Proofs.Ytakihdabbpconaa.P Go.Proofs.Ytakihdabbpconaa.Base Go.Proofs.Ytakihdabbpconaa.Board Go.Proofs.Ytakihdabbpconaa.Units Go.Proofs.YtakihdabbpconaaW.PrintWords Go.Proofs.YtakihdabbpconaaW.PrintLast Go.Proofs.YtakihdabbpconaaW.PrintMore
set_option linter.unusedVariables false
set_option linter.unusedSimpArgs false
theorem both (r c : Int) (cs : List C) (hb : cs.length ≤ 1048576) : ∃ (r' c' : Int) (R : List C) (ok : Bool), R.length ≤ 1048576 ∧ Ev (fun k => spec_ZeroState.f k r c cs) (r', c', R, ok) ∧ Ev (fun k => impl_ZeroState.f k r c cs) (r', c', R, ok) := by
  by_cases h : Board.Good r c cs
  · obtain ⟨U, u1, u2, hU⟩ := units h
    have := hU.few
    have hl := h.len
    obtain ⟨R, w1, w2, hR⟩ := withBits h hU u1 (B := List.replicate U.length 0) (by simp)
    refine ⟨r, c, R, true, by omega, ?_, ?_⟩
    · unfold spec_ZeroState.f
      refine Ev.bind (spec_yes h) (Ev.pos rfl (Ev.bind u1 (Ev.pos (by omega) (Ev.pos (by omega) ?_))))
      rw [Int.toNat_natCast]
      exact Ev.bind w1 (Ev.now _)
    · unfold impl_ZeroState.f
      refine Ev.bind (impl_yes h) (Ev.pos rfl ?_)
      rw [copyBoard hb]
      simp only [Option.bind_some]
      refine Ev.bind u2 (Ev.pos (by omega) (Ev.pos (by omega) ?_))
      rw [Int.toNat_natCast]
      exact Ev.bind w2 (Ev.now _)
  · refine ⟨0, 0, [], false, by simp, ?_, ?_⟩
    · unfold spec_ZeroState.f
      exact Ev.bind (spec_no h hb) (Ev.neg (by simp) (Ev.now _))
    · unfold impl_ZeroState.f
      exact Ev.bind (impl_no h hb) (Ev.neg (by simp) (Ev.now _))
theorem law : ∀ (a0_0 : Int) (a0_1 : Int) (l0_2 : List CL), l0_2.length ≤ 9223372036854775807 → ∃ k, laws_FnExactZeroState.f k a0_0 a0_1 l0_2 = some true := by
  intro r c l hl
  apply Ev.rounds
  unfold laws_FnExactZeroState.f
  rw [szBoard r c l 1048576 hl (by omega) (by omega)]
  simp only [Option.bind_some]
  refine Ev.split (fun _ => Ev.now _) (fun c0 => ?_)
  have hb : l.length ≤ 1048576 := by split at c0 <;> omega
  have hm : (l.map convC).length ≤ 1048576 := by simpa using hb
  obtain ⟨r', c', R, ok, hL, hs, hi⟩ := both r c (l.map convC) hm
  repeat' first
    | exact Ev.now true
    | dsimp only
    | with_reducible refine Ev.bind hs ?_
    | with_reducible refine Ev.bind hi ?_
    | with_reducible refine Ev.bind (toBoard _ _ _ (by omega)) ?_
    | with_reducible refine Ev.bind (eqBoard_self _ _ _ (by omega)) ?_
    | with_reducible refine Ev.bind (markBoard _ _ _ _ (by omega) (by omega)) ?_
    | with_reducible refine Ev.bind (heldBoard _ _ _ _ (by omega) (by omega)) ?_
    | refine Ev.pos rfl ?_
    | (refine Ev.neg ?_ ?_; focus (first | omega | (simp; done)))
    | (with_reducible refine Ev.succ (g := fun k => laws_FnExactZeroState.j0 k _ _ _ _ _ _ _ _ _ _ _ _ _ _ _) ?_; simp only [laws_FnExactZeroState.j0])
    | (with_reducible refine Ev.succ (g := fun k => laws_FnExactZeroState.j1 k _ _ _ _ _ _ _ _ _ _ _) ?_; simp only [laws_FnExactZeroState.j1])
    | (with_reducible refine Ev.succ (g := fun k => laws_FnExactZeroState.j2 k _ _ _ _ _) ?_; simp only [laws_FnExactZeroState.j2])
end Go.Proofs.Ytakihdabbpconaa.PureFnExactZeroState
