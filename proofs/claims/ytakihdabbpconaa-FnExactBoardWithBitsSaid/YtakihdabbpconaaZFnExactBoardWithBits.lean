/- The pure statement of the law FnExactBoardWithBits. -/
import Derived.Test.YtakihdabbpconaaBoardMark
import Derived.Test.YtakihdabbpconaaTurn
import Derived.Test.YtakihdabbpconaaIntArg
import Derived.Test.YtakihdabbpconaaAreBits
import Derived.Test.YtakihdabbpconaaPx25
namespace Go.Proofs.Ytakihdabbpconaa.PureFnExactBoardWithBits
open Go.RowKit Go.Proofs.Ytakihdabbpconaa.P Go.Proofs.Ytakihdabbpconaa.Base Go.Proofs.Ytakihdabbpconaa.Board Go.Proofs.Ytakihdabbpconaa.Units Go.Proofs.YtakihdabbpconaaW.PrintWords Go.Proofs.YtakihdabbpconaaW.PrintLast Go.Proofs.YtakihdabbpconaaW.PrintMore
open Go.Proofs.Ytakihdabbpconaa.Tab (Bits areBits l1All_bits)
set_option linter.unusedVariables false
set_option linter.unusedSimpArgs false
theorem both (r c : Int) (cs : List C) (B : List Int) (hb : cs.length ≤ 1048576) (hB : B.length ≤ 1048576) : ∃ (r' c' : Int) (R : List C) (ok : Bool), R.length ≤ 1048576 ∧ Ev (fun k => spec_BoardWithBits.f k r c cs B) (r', c', R, ok) ∧ Ev (fun k => impl_BoardWithBits.f k r c cs B) (r', c', R, ok) := by
  by_cases h : Board.Good r c cs
  · obtain ⟨U, u1, u2, hU⟩ := units h
    have hf := hU.few
    have hl := h.len
    have no : ∀ b : Bool, b = true → Ev (fun k => impl_BoardWithBits.j0 k B U b r c cs) (0, 0, ([] : List C), false) := by
      rintro b rfl
      refine Ev.succ ?_
      simp only [impl_BoardWithBits.j0]
      exact Ev.pos (by simp) (Ev.now _)
    by_cases hn : B.length = U.length
    · by_cases hbits : Bits B
      · obtain ⟨R, w1, w2, hR⟩ := withBits h hU u1 (B := B) (by omega)
        refine ⟨r, c, R, true, by omega, ?_, ?_⟩
        · unfold spec_BoardWithBits.f
          exact Ev.bind (spec_yes h) (Ev.pos rfl (Ev.bind u1 (Ev.pos (by omega) (Ev.bind (Ev.val (l1All_bits B (by omega)) (decide_eq_true hbits)) (Ev.pos rfl (Ev.bind w1 (Ev.now _)))))))
        · unfold impl_BoardWithBits.f
          refine Ev.bind (impl_yes h) (Ev.pos rfl (Ev.bind u2 (Ev.pos (by omega) (Ev.bind (Ev.val (areBits B (by omega)) (decide_eq_true hbits)) (Ev.succ ?_)))))
          simp only [impl_BoardWithBits.j0]
          refine Ev.neg (by simp) ?_
          rw [copyBoard hb]
          simp only [Option.bind_some]
          exact Ev.bind w2 (Ev.now _)
      · refine ⟨0, 0, [], false, by simp, ?_, ?_⟩
        · unfold spec_BoardWithBits.f
          exact Ev.bind (spec_yes h) (Ev.pos rfl (Ev.bind u1 (Ev.pos (by omega) (Ev.bind (Ev.val (l1All_bits B (by omega)) (decide_eq_false hbits)) (Ev.neg (by simp) (Ev.now _))))))
        · unfold impl_BoardWithBits.f
          exact Ev.bind (impl_yes h) (Ev.pos rfl (Ev.bind u2 (Ev.pos (by omega) (Ev.bind (Ev.val (areBits B (by omega)) (decide_eq_false hbits)) (no _ rfl)))))
    · refine ⟨0, 0, [], false, by simp, ?_, ?_⟩
      · unfold spec_BoardWithBits.f
        exact Ev.bind (spec_yes h) (Ev.pos rfl (Ev.bind u1 (Ev.neg (by omega) (Ev.now _))))
      · unfold impl_BoardWithBits.f
        exact Ev.bind (impl_yes h) (Ev.pos rfl (Ev.bind u2 (Ev.neg (by omega) (no _ rfl))))
  · refine ⟨0, 0, [], false, by simp, ?_, ?_⟩
    · unfold spec_BoardWithBits.f
      exact Ev.bind (spec_no h hb) (Ev.neg (by simp) (Ev.now _))
    · unfold impl_BoardWithBits.f
      exact Ev.bind (impl_no h hb) (Ev.neg (by simp) (Ev.now _))
theorem law : ∀ (a0_0 : Int) (a0_1 : Int) (l0_2 : List CL) (l1 : List Int), l0_2.length ≤ 9223372036854775807 → l1.length ≤ 9223372036854775807 → ∃ k, laws_FnExactBoardWithBits.f k a0_0 a0_1 l0_2 l1 = some true := by
  intro r c l B hl hB0
  apply Ev.rounds
  unfold laws_FnExactBoardWithBits.f
  refine Ev.split (fun _ => Ev.now _) (fun cB => ?_)
  have hB : B.length ≤ 1048576 := by omega
  rw [szBoard r c l 1048576 hl (by omega) (by omega)]
  simp only [Option.bind_some]
  refine Ev.split (fun _ => Ev.now _) (fun c0 => ?_)
  have hb : l.length ≤ 1048576 := by split at c0 <;> omega
  have hm : (l.map convC).length ≤ 1048576 := by simpa using hb
  obtain ⟨r', c', R, ok, hL, hs, hi⟩ := both r c (l.map convC) B hm hB
  repeat' first
    | exact Ev.now true
    | dsimp only
    | with_reducible refine Ev.bind hs ?_
    | with_reducible refine Ev.bind hi ?_
    | with_reducible refine Ev.bind (toBoard _ _ _ (by omega)) ?_
    | with_reducible refine Ev.bind (eqBoard_self _ _ _ (by omega)) ?_
    | with_reducible refine Ev.bind (markBoard _ _ _ _ (by omega) (by omega)) ?_
    | with_reducible refine Ev.bind (heldBoard _ _ _ _ (by omega) (by omega)) ?_
    | with_reducible refine Ev.bind (toInt _ (by omega)) ?_
    | with_reducible refine Ev.bind (eqInt_self _ (by omega)) ?_
    | with_reducible refine Ev.bind (markI _ _ (by omega) (by omega)) ?_
    | refine Ev.pos rfl ?_
    | (refine Ev.neg ?_ ?_; focus (first | omega | (simp; done)))
    | (with_reducible refine Ev.succ (g := fun k => laws_FnExactBoardWithBits.j0 k _ _ _ _ _ _ _ _ _ _ _ _ _ _ _ _ _) ?_; simp only [laws_FnExactBoardWithBits.j0])
    | (with_reducible refine Ev.succ (g := fun k => laws_FnExactBoardWithBits.j1 k _ _ _ _ _ _ _ _ _ _ _ _) ?_; simp only [laws_FnExactBoardWithBits.j1])
    | (with_reducible refine Ev.succ (g := fun k => laws_FnExactBoardWithBits.j2 k _ _ _ _ _) ?_; simp only [laws_FnExactBoardWithBits.j2])
end Go.Proofs.Ytakihdabbpconaa.PureFnExactBoardWithBits
