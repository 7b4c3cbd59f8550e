/- The pure statement of the law FnExactBoardInState. -/
import Derived.Test.YtakihdabbpconaaBoardMark
import Derived.Test.YtakihdabbpconaaInState
import Derived.Test.YtakihdabbpconaaBitNum
import Derived.Test.YtakihdabbpconaaPx2
import Derived.Test.YtakihdabbpconaaPx13
import Derived.Test.YtakihdabbpconaaPx23
namespace Go.Proofs.Ytakihdabbpconaa.PureFnExactBoardInState
open Go.RowKit Go.Proofs.Ytakihdabbpconaa.P Go.Proofs.Ytakihdabbpconaa.Base Go.Proofs.Ytakihdabbpconaa.Board Go.Proofs.Ytakihdabbpconaa.Units Go.Proofs.YtakihdabbpconaaW.PrintWords Go.Proofs.YtakihdabbpconaaW.PrintLast Go.Proofs.YtakihdabbpconaaW.PrintMore
set_option linter.unusedVariables false
set_option linter.unusedSimpArgs false
theorem shl_pow {i : Nat} (hi : i ≤ 16) : shl .i64 1 (i : Int) = 2 ^ i := by
  have := pow16 hi
  unfold shl
  rw [show min (Int.toNat (i : Int)) IntKind.i64.bits = i by simp [IntKind.bits]; omega, Int.one_mul, i64_w]
  exact wrap_id (by omega) (by omega)
theorem l1In (a b c : Int) : spec_l1In.f a b c = some (decide (b ≤ a ∧ a ≤ c)) := by
  unfold spec_l1In.f
  by_cases h : a ≥ b <;> simp [h]
theorem both (r c n : Int) (cs : List C) (hb : cs.length ≤ 1048576) : ∃ (r' c' : Int) (R : List C) (ok : Bool), R.length ≤ 1048576 ∧ Ev (fun k => spec_BoardInState.f k r c cs n) (r', c', R, ok) ∧ Ev (fun k => impl_BoardInState.f k r c cs n) (r', c', R, ok) := by
  by_cases h : Board.Good r c cs
  · obtain ⟨U, u1, u2, hU⟩ := units h
    have hf := hU.few
    have hl := h.len
    have small : Ev (fun k => spec_saSmall.f k r c cs) (decide ((U.length : Int) ≤ 16)) := by
      unfold spec_saSmall.f
      exact Ev.bind (spec_yes h) (Ev.pos rfl (Ev.bind u1 (Ev.now _)))
    have no : ∀ b : Bool, b = true → Ev (fun k => impl_BoardInState.j0 k n U b r c cs) (0, 0, ([] : List C), false) := by
      rintro b rfl
      refine Ev.succ ?_
      simp only [impl_BoardInState.j0]
      exact Ev.pos rfl (Ev.now _)
    by_cases h16 : U.length ≤ 16
    · have hp := pow16 h16
      have hs := shl_pow h16
      have hw : IntKind.u64.wrap (U.length : Int) = (U.length : Int) := wrapU (by omega) (by omega)
      have hw' : wrap64 ((2 : Int) ^ U.length - 1) = 2 ^ U.length - 1 := wrap_id (by omega) (by omega)
      by_cases hn : 0 ≤ n ∧ n < 2 ^ U.length
      · obtain ⟨R, i1, i2, hR⟩ := inState h hU u1 n
        refine ⟨r, c, R, true, by omega, ?_, ?_⟩
        · unfold spec_BoardInState.f
          refine Ev.bind small (Ev.pos (by simp; omega) (Ev.bind u1 ?_))
          rw [hw, hs, hw', l1In]
          simp only [Option.bind_some, decide_eq_true_eq]
          exact Ev.pos (by omega) (Ev.pos (by omega) (Ev.bind i1 (Ev.now _)))
        · unfold impl_BoardInState.f
          refine Ev.bind (impl_yes h) (Ev.pos rfl (Ev.bind u2 ?_))
          rw [hs]
          refine Ev.neg (by omega) (Ev.neg (by omega) (Ev.succ ?_))
          simp only [impl_BoardInState.j0]
          refine Ev.neg (by simp; omega) ?_
          rw [copyBoard hb]
          simp only [Option.bind_some]
          exact Ev.bind (bitList (by omega)) (Ev.bind i2 (Ev.now _))
      · refine ⟨0, 0, [], false, by simp, ?_, ?_⟩
        · unfold spec_BoardInState.f
          refine Ev.bind small (Ev.pos (by simp; omega) (Ev.bind u1 ?_))
          rw [hw, hs, hw', l1In]
          simp only [Option.bind_some, decide_eq_true_eq]
          exact Ev.pos (by omega) (Ev.neg (by omega) (Ev.now _))
        · unfold impl_BoardInState.f
          refine Ev.bind (impl_yes h) (Ev.pos rfl (Ev.bind u2 ?_))
          rw [hs]
          refine Ev.neg (by omega) (Ev.split (fun _ => no _ rfl) (fun _ => no _ ?_))
          rw [decide_eq_true_eq]; omega
    · refine ⟨0, 0, [], false, by simp, ?_, ?_⟩
      · unfold spec_BoardInState.f
        exact Ev.bind small (Ev.neg (by simp; omega) (Ev.now _))
      · unfold impl_BoardInState.f
        exact Ev.bind (impl_yes h) (Ev.pos rfl (Ev.bind u2 (Ev.pos (by omega) (no _ rfl))))
  · refine ⟨0, 0, [], false, by simp, ?_, ?_⟩
    · unfold spec_BoardInState.f spec_saSmall.f
      exact Ev.bind (Ev.bind (spec_no h hb) (Ev.neg (by simp) (Ev.now _))) (Ev.neg (by simp) (Ev.now _))
    · unfold impl_BoardInState.f
      exact Ev.bind (impl_no h hb) (Ev.neg (by simp) (Ev.now _))
theorem law : ∀ (a0_0 : Int) (a0_1 : Int) (l0_2 : List CL) (a1 : Int), l0_2.length ≤ 9223372036854775807 → (Lit.int .i64 a1).wf = true → ∃ k, laws_FnExactBoardInState.f k a0_0 a0_1 l0_2 a1 = some true := by
  intro r c l n hl hn
  apply Ev.rounds
  unfold laws_FnExactBoardInState.f
  rw [szBoard r c l 1048576 hl (by omega) (by omega)]
  simp only [Option.bind_some]
  refine Ev.split (fun _ => Ev.now _) (fun c0 => ?_)
  have hb : l.length ≤ 1048576 := by split at c0 <;> omega
  have hm : (l.map convC).length ≤ 1048576 := by simpa using hb
  obtain ⟨r', c', R, ok, hL, hs, hi⟩ := both r c n (l.map convC) hm
  repeat' first
    | exact Ev.now true
    | dsimp only
    | with_reducible refine Ev.bind hs ?_
    | with_reducible refine Ev.bind hi ?_
    | with_reducible refine Ev.bind (toBoard _ _ _ (by omega)) ?_
    | with_reducible refine Ev.bind (eqBoard_self _ _ _ (by omega)) ?_
    | with_reducible refine Ev.bind (markBoard _ _ _ _ (by omega) (by omega)) ?_
    | with_reducible refine Ev.bind (heldBoard _ _ _ _ (by omega) (by omega)) ?_
    | refine Ev.pos rfl ?_
    | (refine Ev.neg ?_ ?_; focus (first | omega | (simp; done)))
    | (with_reducible refine Ev.succ (g := fun k => laws_FnExactBoardInState.j0 k _ _ _ _ _ _ _ _ _ _ _ _ _ _ _ _) ?_; simp only [laws_FnExactBoardInState.j0])
    | (with_reducible refine Ev.succ (g := fun k => laws_FnExactBoardInState.j1 k _ _ _ _ _ _ _ _ _ _ _ _) ?_; simp only [laws_FnExactBoardInState.j1])
    | (with_reducible refine Ev.succ (g := fun k => laws_FnExactBoardInState.j2 k _ _ _ _ _) ?_; simp only [laws_FnExactBoardInState.j2])
end Go.Proofs.Ytakihdabbpconaa.PureFnExactBoardInState
