/- The pure statement of the law FnExactTurnedUnits. -/
import Derived.Test.YtakihdabbpconaaBoardMark
import Derived.Test.YtakihdabbpconaaTurned
import Derived.Test.YtakihdabbpconaaPx24
namespace Go.Proofs.Ytakihdabbpconaa.PureFnExactTurnedUnits
open Go.RowKit Go.Proofs.Ytakihdabbpconaa.P Go.Proofs.Ytakihdabbpconaa.Base Go.Proofs.Ytakihdabbpconaa.Board Go.Proofs.Ytakihdabbpconaa.Units Go.Proofs.YtakihdabbpconaaW.PrintWords Go.Proofs.YtakihdabbpconaaW.PrintLast Go.Proofs.YtakihdabbpconaaW.PrintMore
set_option linter.unusedVariables false
set_option linter.unusedSimpArgs false
theorem both (r c : Int) (cs : List C) (r' c' : Int) (b : List C) (hb : cs.length ≤ 1048576) (hb' : b.length ≤ 1048576) : ∃ (X : List Int) (ok : Bool), X.length ≤ 1048576 ∧ Ev (fun k => spec_TurnedUnits.f k r c cs r' c' b) (X, ok) ∧ Ev (fun k => impl_TurnedUnits.f k r c cs r' c' b) (X, ok) := by
  rcases turnedOK r c cs r' c' b hb hb' with ⟨g, g', er, ec, hs, Y, s, hY, h1, h2⟩ | ⟨hs, hn⟩
  · have hl := g.len
    refine ⟨if s = true then Y else [], s, ?_, ?_, ?_⟩
    · split
      · omega
      · simp
    · unfold spec_TurnedUnits.f
      refine Ev.bind hs (Ev.pos rfl (Ev.bind h1 ?_))
      cases s
      · exact Ev.neg (by simp) (Ev.now _)
      · exact Ev.pos rfl (Ev.now _)
    · unfold impl_TurnedUnits.f
      refine Ev.bind (impl_yes g) (Ev.pos rfl (Ev.bind (impl_yes g') (Ev.pos rfl (Ev.pos er (Ev.pos ec (Ev.bind h2 (Ev.val (Ev.now _) ?_)))))))
      cases s <;> rfl
  · refine ⟨[], false, by simp, ?_, ?_⟩
    · unfold spec_TurnedUnits.f
      exact Ev.bind hs (Ev.neg (by simp) (Ev.now _))
    · unfold impl_TurnedUnits.f
      by_cases h : Board.Good r c cs
      · refine Ev.bind (impl_yes h) (Ev.pos rfl ?_)
        by_cases h' : Board.Good r' c' b
        · refine Ev.bind (impl_yes h') (Ev.pos rfl ?_)
          refine Ev.split (fun er => ?_) (fun _ => Ev.now _)
          refine Ev.split (fun ec => absurd ⟨h, h', er, ec⟩ hn) (fun _ => Ev.now _)
        · exact Ev.bind (impl_no h' hb') (Ev.neg (by simp) (Ev.now _))
      · exact Ev.bind (impl_no h hb) (Ev.neg (by simp) (Ev.now _))
theorem law : ∀ (a0_0 : Int) (a0_1 : Int) (l0_2 : List CL) (a1_0 : Int) (a1_1 : Int) (l1_2 : List CL), l0_2.length ≤ 9223372036854775807 → l1_2.length ≤ 9223372036854775807 → ∃ k, laws_FnExactTurnedUnits.f k a0_0 a0_1 l0_2 a1_0 a1_1 l1_2 = some true := by
  intro r c l r2 c2 l2 hl hl2
  apply Ev.rounds
  unfold laws_FnExactTurnedUnits.f
  rw [szBoard r c l 1048576 hl (by omega) (by omega)]
  simp only [Option.bind_some]
  refine Ev.split (fun _ => Ev.now _) (fun c0 => ?_)
  have hb : l.length ≤ 1048576 := by split at c0 <;> omega
  rw [if_neg (by omega)]
  rw [szBoard r2 c2 l2 _ hl2 (by omega) (by omega)]
  simp only [Option.bind_some]
  refine Ev.split (fun _ => Ev.now _) (fun c1 => ?_)
  have hb2 : l2.length ≤ 1048576 := by split at c1 <;> omega
  have hm : (l.map convC).length ≤ 1048576 := by simpa using hb
  have hm2 : (l2.map convC).length ≤ 1048576 := by simpa using hb2
  obtain ⟨X, ok, hL, hs, hi⟩ := both r c (l.map convC) r2 c2 (l2.map convC) hm hm2
  repeat' first
    | exact Ev.now true
    | dsimp only
    | with_reducible refine Ev.bind hs ?_
    | with_reducible refine Ev.bind hi ?_
    | with_reducible refine Ev.bind (toBoard _ _ _ (by omega)) ?_
    | with_reducible refine Ev.bind (eqBoard_self _ _ _ (by omega)) ?_
    | with_reducible refine Ev.bind (markBoard _ _ _ _ (by omega) (by omega)) ?_
    | with_reducible refine Ev.bind (eqInt_self _ (by omega)) ?_
    | with_reducible refine Ev.bind (markI _ _ (by omega) (by omega)) ?_
    | with_reducible refine Ev.bind (heldI _ _ (by omega) (by omega)) ?_
    | refine Ev.pos rfl ?_
    | (refine Ev.neg ?_ ?_; focus (first | omega | (simp; done)))
    | (with_reducible refine Ev.succ (g := fun k => laws_FnExactTurnedUnits.j0 k _ _ _ _ _ _ _ _ _ _ _ _ _ _ _ _ _) ?_; simp only [laws_FnExactTurnedUnits.j0])
    | (with_reducible refine Ev.succ (g := fun k => laws_FnExactTurnedUnits.j1 k _ _ _ _ _ _ _ _ _ _) ?_; simp only [laws_FnExactTurnedUnits.j1])
    | (with_reducible refine Ev.succ (g := fun k => laws_FnExactTurnedUnits.j2 k _ _ _) ?_; simp only [laws_FnExactTurnedUnits.j2])
end Go.Proofs.Ytakihdabbpconaa.PureFnExactTurnedUnits
