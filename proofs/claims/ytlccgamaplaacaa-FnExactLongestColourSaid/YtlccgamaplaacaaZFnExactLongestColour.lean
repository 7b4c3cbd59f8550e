/- The pure statement of the law FnExactLongestColour: its printed function comes to true, whatever the entries. -/
import Derived.Test.YtlccgamaplaacaaLog
import Derived.Test.YtlccgamaplaacaaPx0
import Derived.Test.YtlccgamaplaacaaPx19
import Derived.Test.YtlccgamaplaacaaPx20
import Derived.Test.YtlccgamaplaacaaPx21
namespace Go.Proofs.Ytlccgamaplaacaa.PureFnExactLongestColour
open Go.RowKit Go.Proofs.Ytlccgamaplaacaa.P Go.Proofs.Ytlccgamaplaacaa.Base Go.Proofs.Ytlccgamaplaacaa.Log Go.Proofs.YtlccgamaplaacaaW.PrintWords Go.Proofs.YtlccgamaplaacaaW.PrintLast Go.Proofs.YtlccgamaplaacaaW.PrintMore
set_option linter.unusedVariables false
set_option linter.unusedSimpArgs false
/-- Inside a stretch: the program stands at k in the stretch that begins at i; the reference, at k, has counted the stretch already. -/
theorem loops (l : List LE) (hb : l.length ≤ 60) (d : Nat) : ∀ (i k : Nat) (best most best' most' : Int), i < k → k + d = l.length → 0 ≤ most → most ≤ 60 →
    (best', most') = (if (k : Int) - i > most then ((i : Int), (k : Int) - i) else (best, most)) →
    ∃ r, Ev (fun z => impl_LongestColour.l1 z l best most i k) r ∧ Ev (fun z => spec_LongestColour.l0 z l best' most' i l l.length k) r := by
  induction d with
  | zero =>
    intro i k best most best' most' hik hk h0 h60 he
    refine ⟨(best', most', true), Ev.succ ?_, Ev.succ ?_⟩
    · simp only [impl_LongestColour.l1]
      refine Ev.neg (by omega) ?_
      rw [wrap_id (by omega) (by omega)]
      refine Ev.split (fun c => Ev.succ ?_) (fun c => Ev.succ ?_)
      · rw [if_pos c] at he
        simp only [Prod.mk.injEq] at he
        obtain ⟨rfl, rfl⟩ := he
        simp only [impl_LongestColour.l0]
        exact Ev.neg (by omega) (Ev.now _)
      · rw [if_neg c] at he
        simp only [Prod.mk.injEq] at he
        obtain ⟨rfl, rfl⟩ := he
        simp only [impl_LongestColour.l0]
        exact Ev.neg (by omega) (Ev.now _)
    · simp only [spec_LongestColour.l0]
      exact Ev.neg (by omega) (Ev.now _)
  | succ d ih =>
    intro i k best most best' most' hik hk h0 h60 he
    have hm' : most' = (if (k : Int) - i > most then (k : Int) - i else most) := by
      have h : most' = (if (k : Int) - i > most then ((i : Int), (k : Int) - i) else (best, most)).2 := congrArg Prod.snd he
      rw [h]; split <;> rfl
    have hb' : best' = (if (k : Int) - i > most then (i : Int) else best) := by
      have h : best' = (if (k : Int) - i > most then ((i : Int), (k : Int) - i) else (best, most)).1 := congrArg Prod.fst he
      rw [h]; split <;> rfl
    clear he
    have w1 : wrap64 ((k : Int) + 1) = ((k + 1 : Nat) : Int) := wrap_nat (by omega)
    have w2 : wrap64 (((k + 1 : Nat) : Int) - (i : Int)) = ((k + 1 : Nat) : Int) - i := wrap_id (by omega) (by omega)
    have w3 : wrap64 (((k + 1 : Nat) : Int) - (k : Int)) = 1 := by rw [wrap_id (by omega) (by omega)]; omega
    have w4 : wrap64 ((k : Int) - (i : Int)) = (k : Int) - i := wrap_id (by omega) (by omega)
    by_cases c : l[k].f0 = l[i].f0
    · obtain ⟨r, h1, h2⟩ := ih i (k + 1) best most (if ((k + 1 : Nat) : Int) - i > most then (i : Int) else best) (if ((k + 1 : Nat) : Int) - i > most then ((k + 1 : Nat) : Int) - i else most) (by omega) (by omega) h0 h60 (by split <;> rfl)
      refine ⟨r, Ev.succ ?_, Ev.succ ?_⟩
      · simp only [impl_LongestColour.l1]
        refine Ev.pos (by omega) (Ev.pos (by omega) (Ev.pos (by omega) (Ev.pos (by omega) ?_)))
        rw [rdE_get (by omega), rdE_get (by omega), w1]
        exact Ev.pos c h1
      · simp only [spec_LongestColour.l0]
        refine Ev.pos (by omega) (Ev.pos (by omega) (Ev.pos (by omega) (Ev.pos (by omega) (Ev.pos (by omega) ?_))))
        rw [rdE_get (by omega), rdE_get (by omega), w1, w2]
        refine Ev.pos c ?_
        by_cases c2 : ((k + 1 : Nat) : Int) - i > most'
        · refine Ev.pos c2 ?_
          rw [if_pos (by split at hm' <;> omega), if_pos (by split at hm' <;> omega)] at h2
          exact h2
        · refine Ev.neg c2 ?_
          have c3 : ¬ ((k + 1 : Nat) : Int) - i > most := by split at hm' <;> omega
          have c4 : ¬ (k : Int) - i > most := by omega
          rw [if_neg c3, if_neg c3] at h2
          rw [if_neg c4] at hm' hb'
          rw [hm', hb']
          exact h2
    · have hbig : 1 ≤ most' := by split at hm' <;> omega
      have hle : most' ≤ 60 := by split at hm' <;> omega
      obtain ⟨r, h1, h2⟩ := ih k (k + 1) best' most' best' most' (by omega) (by omega) (by omega) hle (by rw [if_neg (by omega)])
      refine ⟨r, Ev.succ ?_, Ev.succ ?_⟩
      · simp only [impl_LongestColour.l1]
        refine Ev.pos (by omega) (Ev.pos (by omega) (Ev.pos (by omega) (Ev.pos (by omega) ?_)))
        rw [rdE_get (by omega), rdE_get (by omega), w4]
        have fin : Ev (fun z => impl_LongestColour.l0 z l best' most' k) r := by
          refine Ev.succ ?_
          simp only [impl_LongestColour.l0]
          refine Ev.pos (by omega) (Ev.succ ?_)
          simp only [impl_LongestColour.l1]
          refine Ev.pos (by omega) (Ev.pos (by omega) (Ev.pos (by omega) (Ev.pos (by omega) (Ev.pos trivial ?_))))
          rw [w1]; exact h1
        refine Ev.neg c (Ev.split (fun c2 => ?_) (fun c2 => ?_))
        · rw [if_pos c2] at hm' hb'
          rw [← hm', ← hb']; exact fin
        · rw [if_neg c2] at hm' hb'
          rw [← hm', ← hb']; exact fin
      · simp only [spec_LongestColour.l0]
        refine Ev.pos (by omega) (Ev.pos (by omega) (Ev.pos (by omega) (Ev.pos (by omega) (Ev.pos (by omega) ?_))))
        rw [rdE_get (by omega), rdE_get (by omega), w1, w3]
        exact Ev.neg c (Ev.neg (by omega) h2)
theorem both (l : List LE) (hb : l.length ≤ 1048576) : ∃ a b ok, Ev (fun k => spec_LongestColour.f k l) (a, b, ok) ∧ Ev (fun k => impl_LongestColour.f k l) (a, b, ok) := by
  unfold spec_LongestColour.f impl_LongestColour.f
  by_cases h : LGood l
  · have h60 := h.1
    have core : ∃ r, Ev (fun z => spec_LongestColour.l0 z l 0 0 0 l l.length 0) r ∧ Ev (fun z => impl_LongestColour.l0 z l 0 0 0) r := by
      by_cases e : l.length = 0
      · refine ⟨(0, 0, true), Ev.succ ?_, Ev.succ ?_⟩
        · simp only [spec_LongestColour.l0]
          exact Ev.neg (by omega) (Ev.now _)
        · simp only [impl_LongestColour.l0]
          exact Ev.neg (by omega) (Ev.now _)
      · obtain ⟨r, h1, h2⟩ := loops l h60 (l.length - 1) 0 1 0 0 0 1 (by omega) (by omega) (by omega) (by omega) (by simp)
        refine ⟨r, Ev.succ ?_, Ev.succ ?_⟩
        · simp only [spec_LongestColour.l0]
          refine Ev.pos (by omega) (Ev.pos (by omega) (Ev.pos (by omega) (Ev.pos (by omega) (Ev.pos (by omega) (Ev.pos trivial ?_)))))
          rw [show wrap64 (0 + 1) = 1 from wrap_id (by omega) (by omega), show wrap64 (1 - 0) = 1 from wrap_id (by omega) (by omega)]
          exact Ev.pos (by omega) h2
        · simp only [impl_LongestColour.l0]
          refine Ev.pos (by omega) (Ev.succ ?_)
          simp only [impl_LongestColour.l1]
          refine Ev.pos (by omega) (Ev.pos (by omega) (Ev.pos (by omega) (Ev.pos (by omega) (Ev.pos trivial ?_))))
          rw [show wrap64 (0 + 1) = 1 from wrap_id (by omega) (by omega)]
          exact h1
    obtain ⟨⟨a, b, ok⟩, h1, h2⟩ := core
    refine ⟨a, b, ok, ?_, ?_⟩
    · exact Ev.bind (Ev.val (loGood l (by omega)) (decide_eq_true h)) (Ev.pos rfl h1)
    · exact Ev.bind (Ev.val (implIsLog l (by omega)) (decide_eq_true h)) (Ev.pos rfl h2)
  · refine ⟨0, 0, false, ?_, ?_⟩
    · exact Ev.bind (Ev.val (loGood l (by omega)) (decide_eq_false h)) (Ev.neg (by simp) (Ev.now _))
    · exact Ev.bind (Ev.val (implIsLog l (by omega)) (decide_eq_false h)) (Ev.neg (by simp) (Ev.now _))
theorem law : ∀ (l0 : List (S66)), l0.length ≤ 9223372036854775807 → ∃ k, laws_FnExactLongestColour.f k l0 = some true := by
  intro l hl
  apply Ev.rounds
  unfold laws_FnExactLongestColour.f
  rw [szLog l 1048576 hl (by omega) (by omega)]
  simp only [Option.bind_some]
  refine Ev.split (fun _ => Ev.now _) (fun c => ?_)
  have hb : l.length ≤ 1048576 := by split at c <;> omega
  have hc : (l.map conv).length ≤ 1048576 := by simpa using hb
  obtain ⟨a, b, ok, hs, hi⟩ := both (l.map conv) hc
  repeat' first
    | exact Ev.now true
    | dsimp only
    | with_reducible refine Ev.bind hs ?_
    | with_reducible refine Ev.bind hi ?_
    | with_reducible refine Ev.bind (toLog _ (by omega)) ?_
    | with_reducible refine Ev.bind (eqLog_self _ (by omega)) ?_
    | with_reducible refine Ev.bind (markLog _ 1 (by omega) (by omega)) ?_
    | with_reducible refine Ev.bind (heldLog _ 1 (by omega) (by omega)) ?_
    | refine Ev.pos rfl ?_
    | (refine Ev.neg ?_ ?_; focus (first | omega | (simp; done)))
    | (with_reducible refine Ev.succ (g := fun k => laws_FnExactLongestColour.j0 k _ _ _) ?_; simp only [laws_FnExactLongestColour.j0])
end Go.Proofs.Ytlccgamaplaacaa.PureFnExactLongestColour
