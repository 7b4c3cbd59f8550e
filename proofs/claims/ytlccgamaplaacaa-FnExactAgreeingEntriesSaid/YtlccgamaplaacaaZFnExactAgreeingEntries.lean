/- The pure statement of the law FnExactAgreeingEntries: its printed function comes to true, whatever the entries. -/
import Derived.Test.YtlccgamaplaacaaAgree
import Derived.Test.YtlccgamaplaacaaPx0
import Derived.Test.YtlccgamaplaacaaPx17
import Derived.Test.YtlccgamaplaacaaPx18
namespace Go.Proofs.Ytlccgamaplaacaa.PureFnExactAgreeingEntries
open Go.RowKit Go.Proofs.Ytlccgamaplaacaa.P Go.Proofs.Ytlccgamaplaacaa.Base Go.Proofs.Ytlccgamaplaacaa.Log Go.Proofs.YtlccgamaplaacaaW.PrintWords Go.Proofs.YtlccgamaplaacaaW.PrintLast Go.Proofs.YtlccgamaplaacaaW.PrintMore
set_option linter.unusedVariables false
theorem both (l m : List LE) (hb : l.length ≤ 1048576) (hm : m.length ≤ 1048576) : ∃ a ok, Ev (fun k => spec_AgreeingEntries.f k l m) (a, ok) ∧ Ev (fun k => impl_AgreeingEntries.f k l m) (a, ok) := by
  unfold spec_AgreeingEntries.f impl_AgreeingEntries.f
  by_cases h : LGood l
  · by_cases h' : LGood m
    · refine ⟨(agree l m : Nat), true, ?_, ?_⟩
      · refine Ev.bind (Ev.val (loGood l (by omega)) (decide_eq_true h)) (Ev.pos rfl ?_)
        refine Ev.bind (Ev.val (loGood m (by omega)) (decide_eq_true h')) (Ev.pos rfl ?_)
        exact Ev.bind (loAgree l m (by omega)) (Ev.now _)
      · refine Ev.bind (Ev.val (implIsLog l (by omega)) (decide_eq_true h)) (Ev.pos rfl ?_)
        refine Ev.bind (Ev.val (implIsLog m (by omega)) (decide_eq_true h')) (Ev.pos rfl ?_)
        exact Ev.bind (implAgree l m (by omega)) (Ev.now _)
    · refine ⟨0, false, ?_, ?_⟩
      · refine Ev.bind (Ev.val (loGood l (by omega)) (decide_eq_true h)) (Ev.pos rfl ?_)
        exact Ev.bind (Ev.val (loGood m (by omega)) (decide_eq_false h')) (Ev.neg (by simp) (Ev.now _))
      · refine Ev.bind (Ev.val (implIsLog l (by omega)) (decide_eq_true h)) (Ev.pos rfl ?_)
        exact Ev.bind (Ev.val (implIsLog m (by omega)) (decide_eq_false h')) (Ev.neg (by simp) (Ev.now _))
  · refine ⟨0, false, ?_, ?_⟩
    · exact Ev.bind (Ev.val (loGood l (by omega)) (decide_eq_false h)) (Ev.neg (by simp) (Ev.now _))
    · exact Ev.bind (Ev.val (implIsLog l (by omega)) (decide_eq_false h)) (Ev.neg (by simp) (Ev.now _))
theorem law : ∀ (l0 : List (S66)) (l1 : List (S66)), l0.length ≤ 9223372036854775807 → l1.length ≤ 9223372036854775807 → ∃ k, laws_FnExactAgreeingEntries.f k l0 l1 = some true := by
  intro l m hl hm
  apply Ev.rounds
  unfold laws_FnExactAgreeingEntries.f
  rw [szLog l 1048576 hl (by omega) (by omega)]
  simp only [Option.bind_some]
  refine Ev.split (fun _ => Ev.now _) (fun c => ?_)
  have hb : l.length ≤ 1048576 := by split at c <;> omega
  rw [if_neg (by omega), szLog m _ hm (by omega) (by omega)]
  simp only [Option.bind_some]
  refine Ev.split (fun _ => Ev.now _) (fun c' => ?_)
  have hb' : m.length ≤ 1048576 := by split at c' <;> omega
  have hc : (l.map conv).length ≤ 1048576 := by simpa using hb
  have hc' : (m.map conv).length ≤ 1048576 := by simpa using hb'
  obtain ⟨a, ok, hs, hi⟩ := both (l.map conv) (m.map conv) hc hc'
  repeat' first
    | exact Ev.now true
    | dsimp only
    | with_reducible refine Ev.bind hs ?_
    | with_reducible refine Ev.bind hi ?_
    | with_reducible refine Ev.bind (toLog _ (by omega)) ?_
    | with_reducible refine Ev.bind (eqLog_self _ (by omega)) ?_
    | with_reducible refine Ev.bind (markLog _ 1 (by omega) (by omega)) ?_
    | with_reducible refine Ev.bind (heldLog _ 1 (by omega) (by omega)) ?_
    | refine Ev.pos rfl ?_
    | (refine Ev.neg ?_ ?_; focus (first | omega | (simp; done)))
    | (with_reducible refine Ev.succ (g := fun k => laws_FnExactAgreeingEntries.j0 k _ _ _ _ _) ?_; simp only [laws_FnExactAgreeingEntries.j0])
end Go.Proofs.Ytlccgamaplaacaa.PureFnExactAgreeingEntries
