/- The pure statement of the law FnExactExplainsLog. -/
import Derived.Test.YthnehlphifegaaaMachs
import Derived.Test.YthnehlphifegaaaAgree
import Derived.Test.YthnehlphifegaaaPx16
namespace Go.Proofs.Ythnehlphifegaaa.PureFnExactExplainsLog
open Go.RowKit Go.Proofs.Ythnehlphifegaaa.P Go.Proofs.Ythnehlphifegaaa.Base Go.Proofs.Ythnehlphifegaaa.Board Go.Proofs.Ythnehlphifegaaa.Log Go.Proofs.Ythnehlphifegaaa.Run Go.Proofs.YthnehlphifegaaaW.PrintWords Go.Proofs.YthnehlphifegaaaW.PrintLast Go.Proofs.YthnehlphifegaaaW.PrintMore
set_option linter.unusedVariables false
set_option linter.unusedSimpArgs false
theorem agree_take : ∀ (L l : List LE), agree (L.take l.length) l = agree L l
  | [], l => by simp
  | a :: L, [] => by simp [agree]
  | a :: L, b :: l => by simp only [List.length_cons, List.take_succ_cons, agree, agree_take L l]
theorem both (r c : Int) (cs : List C) (x3 x4 x5 x6 x7 : Int) (l : List LE) (hb : cs.length ≤ 1048576) (hl : l.length ≤ 1048576) : ∃ (a ok : Bool), Ev (fun k => spec_ExplainsLog.f k r c cs x3 x4 x5 x6 x7 l) (a, ok) ∧ Ev (fun k => impl_ExplainsLog.f k r c cs x3 x4 x5 x6 x7 l) (a, ok) := by
  have sno : ∀ b : Bool, b = true → Ev (fun k => spec_ExplainsLog.j0 k l b r c cs x3 x4 x5 x6 x7) (false, false) := by
    rintro b rfl
    refine Ev.succ ?_
    simp only [spec_ExplainsLog.j0]
    exact Ev.pos (by simp) (Ev.now _)
  have ino : ∀ b : Bool, b = true → Ev (fun k => impl_ExplainsLog.j0 k l b r c cs x3 x4 x5 x6 x7) (false, false) := by
    rintro b rfl
    refine Ev.succ ?_
    simp only [impl_ExplainsLog.j0]
    exact Ev.pos (by simp) (Ev.now _)
  unfold spec_ExplainsLog.f impl_ExplainsLog.f
  by_cases h : MGood r c cs x3 x4 x5 x6 x7
  · by_cases g : LGood l
    · obtain ⟨F, hF⟩ := runs h
      obtain ⟨_, s, _⟩ := hF l.length g.1
      obtain ⟨_, _, i⟩ := hF 60 (by omega)
      have l1 := run_len F c x3 x4 l.length (cs, x5, x6, x7)
      have l2 := run_len F c x3 x4 60 (cs, x5, x6, x7)
      have hg := g.1
      refine ⟨((agree (run F c x3 x4 60 (cs, x5, x6, x7)).1 l : Nat) : Int) == (l.length : Int), true, ?_, ?_⟩
      · refine Ev.bind (Ev.val (maGood r c cs x3 x4 x5 x6 x7 hb) (decide_eq_true h)) (Ev.pos rfl (Ev.bind (Ev.val (loGood l (by omega)) (decide_eq_true g)) (Ev.succ ?_)))
        simp only [spec_ExplainsLog.j0]
        refine Ev.neg (by simp) (Ev.bind (loOf (by omega) s) (Ev.bind (loAgree (run F c x3 x4 l.length (cs, x5, x6, x7)).1 l (by omega)) (Ev.val (Ev.now _) ?_)))
        rw [run_take F c x3 x4 l.length 60 _ hg, agree_take]
      · refine Ev.bind (Ev.val (isMachine r c cs x3 x4 x5 x6 x7 hb) (decide_eq_true h)) (Ev.pos rfl (Ev.bind (Ev.val (implIsLog l (by omega)) (decide_eq_true g)) (Ev.succ ?_)))
        simp only [impl_ExplainsLog.j0]
        exact Ev.neg (by simp) (Ev.bind i (Ev.bind (implAgree (run F c x3 x4 60 (cs, x5, x6, x7)).1 l (by omega)) (Ev.now _)))
    · refine ⟨false, false, ?_, ?_⟩
      · exact Ev.bind (Ev.val (maGood r c cs x3 x4 x5 x6 x7 hb) (decide_eq_true h)) (Ev.pos rfl (Ev.bind (Ev.val (loGood l (by omega)) (decide_eq_false g)) (sno _ rfl)))
      · exact Ev.bind (Ev.val (isMachine r c cs x3 x4 x5 x6 x7 hb) (decide_eq_true h)) (Ev.pos rfl (Ev.bind (Ev.val (implIsLog l (by omega)) (decide_eq_false g)) (ino _ rfl)))
  · refine ⟨false, false, ?_, ?_⟩
    · exact Ev.bind (Ev.val (maGood r c cs x3 x4 x5 x6 x7 hb) (decide_eq_false h)) (Ev.neg (by simp) (sno _ rfl))
    · exact Ev.bind (Ev.val (isMachine r c cs x3 x4 x5 x6 x7 hb) (decide_eq_false h)) (Ev.neg (by simp) (ino _ rfl))
theorem law : ∀ (a0_0 : Int) (a0_1 : Int) (l0_2 : List CL) (a0_3 a0_4 a0_5 a0_6 a0_7 : Int) (l1 : List LL), l0_2.length ≤ 9223372036854775807 → l1.length ≤ 9223372036854775807 → ∃ k, laws_FnExactExplainsLog.f k a0_0 a0_1 l0_2 a0_3 a0_4 a0_5 a0_6 a0_7 l1 = some true := by
  intro r c l x3 x4 x5 x6 x7 q hl hq0
  apply Ev.rounds
  unfold laws_FnExactExplainsLog.f
  rw [szMachine r c l x3 x4 x5 x6 x7 1048576 hl (by omega) (by omega)]
  simp only [Option.bind_some]
  refine Ev.split (fun _ => Ev.now _) (fun c0 => ?_)
  have hb : l.length ≤ 1048576 := by split at c0 <;> omega
  rw [if_neg (by omega), szLog q _ hq0 (by omega) (by omega)]
  simp only [Option.bind_some]
  refine Ev.split (fun _ => Ev.now _) (fun c1 => ?_)
  have hq : q.length ≤ 1048576 := by split at c1 <;> omega
  have hm : (l.map convC).length ≤ 1048576 := by simpa using hb
  have hm' : (q.map conv).length ≤ 1048576 := by simpa using hq
  obtain ⟨a, ok, hs, hi⟩ := both r c (l.map convC) x3 x4 x5 x6 x7 (q.map conv) hm hm'
  repeat' first
    | exact Ev.now true
    | dsimp only
    | with_reducible refine Ev.bind hs ?_
    | with_reducible refine Ev.bind hi ?_
    | with_reducible refine Ev.bind (toMachine _ _ _ _ _ _ _ _ (by omega)) ?_
    | with_reducible refine Ev.bind (eqMachine_self _ _ _ _ _ _ _ _ (by omega)) ?_
    | with_reducible refine Ev.bind (toLog _ (by omega)) ?_
    | with_reducible refine Ev.bind (eqLog_self _ (by omega)) ?_
    | refine Ev.pos rfl ?_
    | (refine Ev.neg ?_ ?_; focus (first | omega | (simp; done)))
    | (with_reducible refine Ev.succ (g := fun k => laws_FnExactExplainsLog.j0 k _ _ _ _ _ _ _ _ _ _ _ _ _ _ _ _ _ _ _) ?_; simp only [laws_FnExactExplainsLog.j0])
end Go.Proofs.Ythnehlphifegaaa.PureFnExactExplainsLog
