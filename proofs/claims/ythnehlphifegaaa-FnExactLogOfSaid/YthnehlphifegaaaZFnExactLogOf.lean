/- The pure statement of the law FnExactLogOf. -/
import Derived.Test.YthnehlphifegaaaMachs
import Derived.Test.YthnehlphifegaaaLogHeld
import Derived.Test.YthnehlphifegaaaMarkC
import Derived.Test.YthnehlphifegaaaPx15
namespace Go.Proofs.Ythnehlphifegaaa.PureFnExactLogOf
open Go.RowKit Go.Proofs.Ythnehlphifegaaa.P Go.Proofs.Ythnehlphifegaaa.Base Go.Proofs.Ythnehlphifegaaa.Board Go.Proofs.Ythnehlphifegaaa.Log Go.Proofs.Ythnehlphifegaaa.Run Go.Proofs.YthnehlphifegaaaW.PrintWords Go.Proofs.YthnehlphifegaaaW.PrintLast Go.Proofs.YthnehlphifegaaaW.PrintMore
set_option linter.unusedVariables false
set_option linter.unusedSimpArgs false
theorem both (r c : Int) (cs : List C) (x3 x4 x5 x6 x7 : Int) (hb : cs.length ≤ 1048576) : ∃ (L : List LE) (ok : Bool), L.length ≤ 60 ∧ Ev (fun k => spec_LogOf.f k r c cs x3 x4 x5 x6 x7) (L, ok) ∧ Ev (fun k => impl_LogOf.f k r c cs x3 x4 x5 x6 x7) (L, ok) := by
  by_cases h : MGood r c cs x3 x4 x5 x6 x7
  · obtain ⟨F, hF⟩ := runs h
    obtain ⟨_, s, i⟩ := hF 60 (by omega)
    have hl := run_len F c x3 x4 60 (cs, x5, x6, x7)
    refine ⟨_, true, hl, ?_, ?_⟩
    · unfold spec_LogOf.f
      exact Ev.bind (Ev.val (maGood r c cs x3 x4 x5 x6 x7 hb) (decide_eq_true h)) (Ev.pos rfl (Ev.bind (loOf hl s) (Ev.now _)))
    · unfold impl_LogOf.f
      exact Ev.bind (Ev.val (isMachine r c cs x3 x4 x5 x6 x7 hb) (decide_eq_true h)) (Ev.pos rfl (Ev.bind i (Ev.now _)))
  · refine ⟨[], false, by simp, ?_, ?_⟩
    · unfold spec_LogOf.f
      exact Ev.bind (Ev.val (maGood r c cs x3 x4 x5 x6 x7 hb) (decide_eq_false h)) (Ev.neg (by simp) (Ev.now _))
    · unfold impl_LogOf.f
      exact Ev.bind (Ev.val (isMachine r c cs x3 x4 x5 x6 x7 hb) (decide_eq_false h)) (Ev.neg (by simp) (Ev.now _))
theorem law : ∀ (a0_0 : Int) (a0_1 : Int) (l0_2 : List CL) (a0_3 a0_4 a0_5 a0_6 a0_7 : Int), l0_2.length ≤ 9223372036854775807 → ∃ k, laws_FnExactLogOf.f k a0_0 a0_1 l0_2 a0_3 a0_4 a0_5 a0_6 a0_7 = some true := by
  intro r c l x3 x4 x5 x6 x7 hl
  apply Ev.rounds
  unfold laws_FnExactLogOf.f
  rw [szMachine r c l x3 x4 x5 x6 x7 1048576 hl (by omega) (by omega)]
  simp only [Option.bind_some]
  refine Ev.split (fun _ => Ev.now _) (fun c0 => ?_)
  have hb : l.length ≤ 1048576 := by split at c0 <;> omega
  have hm : (l.map convC).length ≤ 1048576 := by simpa using hb
  obtain ⟨L, ok, hL, hs, hi⟩ := both r c (l.map convC) x3 x4 x5 x6 x7 hm
  repeat' first
    | exact Ev.now true
    | dsimp only
    | with_reducible refine Ev.bind hs ?_
    | with_reducible refine Ev.bind hi ?_
    | with_reducible refine Ev.bind (toMachine _ _ _ _ _ _ _ _ (by omega)) ?_
    | with_reducible refine Ev.bind (eqMachine_self _ _ _ _ _ _ _ _ (by omega)) ?_
    | with_reducible refine Ev.bind (markMachine _ _ _ _ _ _ _ _ _ (by omega) (by omega)) ?_
    | with_reducible refine Ev.bind (eqLog_self _ (by omega)) ?_
    | with_reducible refine Ev.bind (markLog _ _ (by omega) (by omega)) ?_
    | with_reducible refine Ev.bind (heldLog _ _ (by omega) (by omega)) ?_
    | refine Ev.pos rfl ?_
    | (refine Ev.neg ?_ ?_; focus (first | omega | (simp; done)))
    | (with_reducible refine Ev.succ (g := fun k => laws_FnExactLogOf.j0 k _ _ _ _ _ _ _ _ _ _ _ _ _ _ _ _ _ _ _ _ _) ?_; simp only [laws_FnExactLogOf.j0])
    | (with_reducible refine Ev.succ (g := fun k => laws_FnExactLogOf.j1 k _ _ _ _ _ _ _ _ _ _ _ _) ?_; simp only [laws_FnExactLogOf.j1])
    | (with_reducible refine Ev.succ (g := fun k => laws_FnExactLogOf.j2 k _ _ _) ?_; simp only [laws_FnExactLogOf.j2])
end Go.Proofs.Ythnehlphifegaaa.PureFnExactLogOf
