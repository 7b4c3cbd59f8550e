/- The pure statement of the law FnExactPeriodOf: its printed function comes to true, whatever the entries. -/
import Derived.Test.YtlccgamaplaacaaAgree
import Derived.Test.YtlccgamaplaacaaPx0
import Derived.Test.YtlccgamaplaacaaPx30
import Derived.Test.YtlccgamaplaacaaPx31
namespace Go.Proofs.Ytlccgamaplaacaa.PureFnExactPeriodOf
open Go.RowKit Go.Proofs.Ytlccgamaplaacaa.P Go.Proofs.Ytlccgamaplaacaa.Base Go.Proofs.Ytlccgamaplaacaa.Log Go.Proofs.YtlccgamaplaacaaW.PrintWords Go.Proofs.YtlccgamaplaacaaW.PrintLast Go.Proofs.YtlccgamaplaacaaW.PrintMore
set_option linter.unusedVariables false
set_option linter.unusedSimpArgs false
theorem loops (l : List LE) (hb : l.length ≤ 60) (d : Nat) : ∀ (p : Nat), p + d = l.length → 1 ≤ p →
    ∃ a, Ev (fun k => spec_PeriodOf.l0 k l p) (a, true) ∧ Ev (fun k => impl_PeriodOf.l0 k l p) (a, true) := by
  induction d with
  | zero =>
    intro p hp h1
    refine ⟨(l.length : Int), Ev.succ ?_, Ev.succ ?_⟩
    · simp only [spec_PeriodOf.l0]
      exact Ev.neg (by omega) (Ev.now _)
    · simp only [impl_PeriodOf.l0]
      refine Ev.pos (by omega) (Ev.pos (by omega) ?_)
      simp only [Int.toNat_natCast]
      have := agree_le (l.drop p) l
      simp only [List.length_drop] at this
      refine Ev.bind (implAgree (l.drop p) l (by simp; omega)) (Ev.pos ?_ (Ev.val (Ev.now _) ?_))
      · rw [wrap_id (by omega) (by omega)]; omega
      · rw [show p = l.length by omega]
  | succ d ih =>
    intro p hp h1
    obtain ⟨a, ha, ha'⟩ := ih (p + 1) (by omega) (by omega)
    have hw : wrap64 ((l.length : Int) - (p : Int)) = (l.length : Int) - p := wrap_id (by omega) (by omega)
    by_cases c : ((agree (l.drop p) l : Nat) : Int) = (l.length : Int) - p
    · refine ⟨(p : Int), Ev.succ ?_, Ev.succ ?_⟩
      · simp only [spec_PeriodOf.l0]
        refine Ev.pos (by omega) (Ev.pos (by omega) (Ev.pos (by omega) ?_))
        simp only [Int.toNat_natCast]
        exact Ev.bind (loAgree (l.drop p) l (by simp; omega)) (Ev.pos (by rw [hw]; exact c) (Ev.now _))
      · simp only [impl_PeriodOf.l0]
        refine Ev.pos (by omega) (Ev.pos (by omega) ?_)
        simp only [Int.toNat_natCast]
        exact Ev.bind (implAgree (l.drop p) l (by simp; omega)) (Ev.pos (by rw [hw]; exact c) (Ev.now _))
    · refine ⟨a, Ev.succ ?_, Ev.succ ?_⟩
      · simp only [spec_PeriodOf.l0]
        refine Ev.pos (by omega) (Ev.pos (by omega) (Ev.pos (by omega) ?_))
        simp only [Int.toNat_natCast]
        refine Ev.bind (loAgree (l.drop p) l (by simp; omega)) (Ev.neg (by rw [hw]; exact c) ?_)
        rw [wrap_nat (by omega)]; exact ha
      · simp only [impl_PeriodOf.l0]
        refine Ev.pos (by omega) (Ev.pos (by omega) ?_)
        simp only [Int.toNat_natCast]
        refine Ev.bind (implAgree (l.drop p) l (by simp; omega)) (Ev.neg (by rw [hw]; exact c) ?_)
        rw [wrap_nat (by omega)]; exact ha'
theorem both (l : List LE) (hb : l.length ≤ 1048576) : ∃ a ok, Ev (fun k => spec_PeriodOf.f k l) (a, ok) ∧ Ev (fun k => impl_PeriodOf.f k l) (a, ok) := by
  unfold spec_PeriodOf.f impl_PeriodOf.f
  by_cases h : LGood l
  · by_cases e : l.length = 0
    · refine ⟨0, false, ?_, ?_⟩
      · exact Ev.bind (Ev.val (loGood l (by omega)) (decide_eq_true h)) (Ev.pos rfl (Ev.succ (by simp only [spec_PeriodOf.j0]; exact Ev.pos (by rw [e]; rfl) (Ev.now _))))
      · refine Ev.bind (Ev.val (implIsLog l (by omega)) (decide_eq_true h)) (Ev.pos rfl (Ev.succ ?_))
        simp only [impl_PeriodOf.l0]
        exact Ev.neg (by omega) (Ev.now _)
    · obtain ⟨a, h1, h2⟩ := loops l h.1 (l.length - 1) 1 (by omega) (by omega)
      refine ⟨a, true, ?_, ?_⟩
      · exact Ev.bind (Ev.val (loGood l (by omega)) (decide_eq_true h)) (Ev.pos rfl (Ev.succ (by simp only [spec_PeriodOf.j0]; exact Ev.neg (by simp only [beq_iff_eq]; omega) h1)))
      · exact Ev.bind (Ev.val (implIsLog l (by omega)) (decide_eq_true h)) (Ev.pos rfl h2)
  · refine ⟨0, false, ?_, ?_⟩
    · exact Ev.bind (Ev.val (loGood l (by omega)) (decide_eq_false h)) (Ev.neg (by simp) (Ev.succ (by simp only [spec_PeriodOf.j0]; exact Ev.pos trivial (Ev.now _))))
    · exact Ev.bind (Ev.val (implIsLog l (by omega)) (decide_eq_false h)) (Ev.neg (by simp) (Ev.now _))
theorem law : ∀ (l0 : List (S66)), l0.length ≤ 9223372036854775807 → ∃ k, laws_FnExactPeriodOf.f k l0 = some true := by
  intro l hl
  apply Ev.rounds
  unfold laws_FnExactPeriodOf.f
  rw [szLog l 1048576 hl (by omega) (by omega)]
  simp only [Option.bind_some]
  refine Ev.split (fun _ => Ev.now _) (fun c => ?_)
  have hb : l.length ≤ 1048576 := by split at c <;> omega
  have hc : (l.map conv).length ≤ 1048576 := by simpa using hb
  obtain ⟨a, ok, hs, hi⟩ := both (l.map conv) hc
  repeat' first
    | exact Ev.now true
    | dsimp only
    | with_reducible refine Ev.bind hs ?_
    | with_reducible refine Ev.bind hi ?_
    | with_reducible refine Ev.bind (toLog _ (by omega)) ?_
    | with_reducible refine Ev.bind (eqLog_self _ (by omega)) ?_
    | with_reducible refine Ev.bind (markLog _ 1 (by omega) (by omega)) ?_
    | with_reducible refine Ev.bind (heldLog _ 1 (by omega) (by omega)) ?_
    | refine Ev.pos rfl ?_
    | (refine Ev.neg ?_ ?_; focus (first | omega | (simp; done)))
    | (with_reducible refine Ev.succ (g := fun k => laws_FnExactPeriodOf.j0 k _ _ _) ?_; simp only [laws_FnExactPeriodOf.j0])
end Go.Proofs.Ytlccgamaplaacaa.PureFnExactPeriodOf
