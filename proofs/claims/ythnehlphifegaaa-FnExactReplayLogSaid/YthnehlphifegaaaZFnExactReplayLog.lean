/- The pure statement of the law FnExactReplayLog. -/
import Derived.Test.YthnehlphifegaaaMachs
import Derived.Test.YthnehlphifegaaaAgree
import Derived.Test.YthnehlphifegaaaLogMark
import Derived.Test.YthnehlphifegaaaHeldC
import Derived.Test.YthnehlphifegaaaPx2
import Derived.Test.YthnehlphifegaaaPx6
import Derived.Test.YthnehlphifegaaaPx13
import Derived.Test.YthnehlphifegaaaPx17
namespace Go.Proofs.Ythnehlphifegaaa.PureFnExactReplayLog
open Go.RowKit Go.Proofs.Ythnehlphifegaaa.P Go.Proofs.Ythnehlphifegaaa.Base Go.Proofs.Ythnehlphifegaaa.Board Go.Proofs.Ythnehlphifegaaa.Log Go.Proofs.Ythnehlphifegaaa.Run Go.Proofs.YthnehlphifegaaaW.PrintWords Go.Proofs.YthnehlphifegaaaW.PrintLast Go.Proofs.YthnehlphifegaaaW.PrintMore
set_option linter.unusedVariables false
set_option linter.unusedSimpArgs false
theorem both (r c : Int) (cs : List C) (x3 x4 x5 x6 x7 : Int) (l : List LE) (hb : cs.length ≤ 1048576) (hl : l.length ≤ 1048576) : ∃ (r' c' : Int) (R : List C) (y3 y4 y5 y6 y7 : Int) (ok : Bool), R.length ≤ 90 ∧ Ev (fun k => spec_ReplayLog.f k r c cs x3 x4 x5 x6 x7 l) (r', c', R, y3, y4, y5, y6, y7, ok) ∧ Ev (fun k => impl_ReplayLog.f k r c cs x3 x4 x5 x6 x7 l) (r', c', R, y3, y4, y5, y6, y7, ok) := by
  have sno : ∀ b : Bool, b = true → Ev (fun k => spec_ReplayLog.j0 k l b r c cs x3 x4 x5 x6 x7) (0, 0, ([] : List C), 0, 0, 0, 0, 0, false) := by
    rintro b rfl
    refine Ev.succ ?_
    simp only [spec_ReplayLog.j0]
    exact Ev.pos (by simp) (Ev.now _)
  have ino : ∀ b : Bool, b = true → Ev (fun k => impl_ReplayLog.j0 k l b r c cs x3 x4 x5 x6 x7) (0, 0, ([] : List C), 0, 0, 0, 0, 0, false) := by
    rintro b rfl
    refine Ev.succ ?_
    simp only [impl_ReplayLog.j0]
    exact Ev.pos (by simp) (Ev.now _)
  unfold spec_ReplayLog.f impl_ReplayLog.f
  by_cases h : MGood r c cs x3 x4 x5 x6 x7
  · by_cases g : LGood l
    · obtain ⟨F, hF⟩ := runs h
      have hg := g.1
      obtain ⟨h90, s, i⟩ := hF l.length hg
      have l1 := run_len F c x3 x4 l.length (cs, x5, x6, x7)
      generalize run F c x3 x4 l.length (cs, x5, x6, x7) = Q at h90 s i l1
      have ha := (agree_le Q.1 l).2
      have sp : ∀ R, Ev (fun _ => if ((agree Q.1 l : Nat) : Int) < (l.length : Int) then some (0, 0, ([] : List C), 0, 0, 0, 0, 0, false) else some (r, c, Q.2.1, x3, x4, Q.2.2.1, Q.2.2.2.1, Q.2.2.2.2, true)) R → Ev (fun k => (spec_maGood.f k r c cs x3 x4 x5 x6 x7).bind fun t => if t = true then (spec_loGood.f k l).bind fun t' => spec_ReplayLog.j0 k l (!t') r c cs x3 x4 x5 x6 x7 else spec_ReplayLog.j0 k l true r c cs x3 x4 x5 x6 x7) R := fun R hR => by
        refine Ev.bind (Ev.val (maGood r c cs x3 x4 x5 x6 x7 hb) (decide_eq_true h)) (Ev.pos rfl (Ev.bind (Ev.val (loGood l (by omega)) (decide_eq_true g)) (Ev.succ ?_)))
        simp only [spec_ReplayLog.j0]
        exact Ev.neg (by simp) (Ev.bind (loOf (by omega) s) (Ev.bind (loAgree Q.1 l (by omega)) hR))
      have im : ∀ R, Ev (fun _ => if ((agree Q.1 l : Nat) : Int) = (l.length : Int) then some (r, c, Q.2.1, x3, x4, Q.2.2.1, Q.2.2.2.1, Q.2.2.2.2, true) else some (0, 0, ([] : List C), 0, 0, 0, 0, 0, false)) R → Ev (fun k => (impl_IsMachine.f k r c cs x3 x4 x5 x6 x7).bind fun t => if t = true then (impl_IsLog.f k l).bind fun t' => impl_ReplayLog.j0 k l (!t') r c cs x3 x4 x5 x6 x7 else impl_ReplayLog.j0 k l true r c cs x3 x4 x5 x6 x7) R := fun R hR => by
        refine Ev.bind (Ev.val (isMachine r c cs x3 x4 x5 x6 x7 hb) (decide_eq_true h)) (Ev.pos rfl (Ev.bind (Ev.val (implIsLog l (by omega)) (decide_eq_true g)) (Ev.succ ?_)))
        simp only [impl_ReplayLog.j0]
        exact Ev.neg (by simp) (Ev.bind i (Ev.bind (implAgree Q.1 l (by omega)) hR))
      by_cases ht : agree Q.1 l < l.length
      · exact ⟨0, 0, [], 0, 0, 0, 0, 0, false, by simp, sp _ (Ev.pos (by omega) (Ev.now _)), im _ (Ev.neg (by omega) (Ev.now _))⟩
      · exact ⟨r, c, Q.2.1, x3, x4, Q.2.2.1, Q.2.2.2.1, Q.2.2.2.2, true, h90, sp _ (Ev.neg (by omega) (Ev.now _)), im _ (Ev.pos (by omega) (Ev.now _))⟩
    · refine ⟨0, 0, [], 0, 0, 0, 0, 0, false, by simp, ?_, ?_⟩
      · exact Ev.bind (Ev.val (maGood r c cs x3 x4 x5 x6 x7 hb) (decide_eq_true h)) (Ev.pos rfl (Ev.bind (Ev.val (loGood l (by omega)) (decide_eq_false g)) (sno _ rfl)))
      · exact Ev.bind (Ev.val (isMachine r c cs x3 x4 x5 x6 x7 hb) (decide_eq_true h)) (Ev.pos rfl (Ev.bind (Ev.val (implIsLog l (by omega)) (decide_eq_false g)) (ino _ rfl)))
  · refine ⟨0, 0, [], 0, 0, 0, 0, 0, false, by simp, ?_, ?_⟩
    · exact Ev.bind (Ev.val (maGood r c cs x3 x4 x5 x6 x7 hb) (decide_eq_false h)) (Ev.neg (by simp) (sno _ rfl))
    · exact Ev.bind (Ev.val (isMachine r c cs x3 x4 x5 x6 x7 hb) (decide_eq_false h)) (Ev.neg (by simp) (ino _ rfl))
theorem law : ∀ (a0_0 : Int) (a0_1 : Int) (l0_2 : List CL) (a0_3 a0_4 a0_5 a0_6 a0_7 : Int) (l1 : List LL), l0_2.length ≤ 9223372036854775807 → l1.length ≤ 9223372036854775807 → ∃ k, laws_FnExactReplayLog.f k a0_0 a0_1 l0_2 a0_3 a0_4 a0_5 a0_6 a0_7 l1 = some true := by
  intro r c l x3 x4 x5 x6 x7 q hl hq0
  apply Ev.rounds
  unfold laws_FnExactReplayLog.f
  rw [szMachine r c l x3 x4 x5 x6 x7 1048576 hl (by omega) (by omega)]
  simp only [Option.bind_some]
  refine Ev.split (fun _ => Ev.now _) (fun c0 => ?_)
  have hb : l.length ≤ 1048576 := by split at c0 <;> omega
  rw [if_neg (by omega), szLog q _ hq0 (by omega) (by omega)]
  simp only [Option.bind_some]
  refine Ev.split (fun _ => Ev.now _) (fun c1 => ?_)
  have hq : q.length ≤ 1048576 := by split at c1 <;> omega
  have hm : (l.map convC).length ≤ 1048576 := by simpa using hb
  have hm' : (q.map conv).length ≤ 1048576 := by simpa using hq
  obtain ⟨r', c', R, y3, y4, y5, y6, y7, ok, hR, hs, hi⟩ := both r c (l.map convC) x3 x4 x5 x6 x7 (q.map conv) hm hm'
  repeat' first
    | exact Ev.now true
    | dsimp only
    | with_reducible refine Ev.bind hs ?_
    | with_reducible refine Ev.bind hi ?_
    | with_reducible refine Ev.bind (toMachine _ _ _ _ _ _ _ _ (by omega)) ?_
    | with_reducible refine Ev.bind (eqMachine_self _ _ _ _ _ _ _ _ (by omega)) ?_
    | with_reducible refine Ev.bind (markMachine _ _ _ _ _ _ _ _ _ (by omega) (by omega)) ?_
    | with_reducible refine Ev.bind (heldMachine _ _ _ _ _ _ _ _ _ (by omega) (by omega)) ?_
    | with_reducible refine Ev.bind (toLog _ (by omega)) ?_
    | with_reducible refine Ev.bind (eqLog_self _ (by omega)) ?_
    | with_reducible refine Ev.bind (markLog _ _ (by omega) (by omega)) ?_
    | refine Ev.pos rfl ?_
    | (refine Ev.neg ?_ ?_; focus (first | omega | (simp; done)))
    | (with_reducible refine Ev.succ (g := fun k => laws_FnExactReplayLog.j0 k _ _ _ _ _ _ _ _ _ _ _ _ _ _ _ _ _ _ _ _ _ _ _ _ _ _ _ _ _ _ _ _ _ _ _ _ _) ?_; simp only [laws_FnExactReplayLog.j0])
    | (with_reducible refine Ev.succ (g := fun k => laws_FnExactReplayLog.j1 k _ _ _ _ _ _ _ _ _ _ _ _ _ _ _ _ _ _ _ _ _ _ _ _ _ _ _) ?_; simp only [laws_FnExactReplayLog.j1])
    | (with_reducible refine Ev.succ (g := fun k => laws_FnExactReplayLog.j2 k _ _ _ _ _ _ _ _ _ _) ?_; simp only [laws_FnExactReplayLog.j2])
end Go.Proofs.Ythnehlphifegaaa.PureFnExactReplayLog
