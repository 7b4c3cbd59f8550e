/- The pure statement of the law FnExactValueAt: its printed function comes to true, whatever the table and the inputs. -/
import Derived.Test.YtlccgamaplaacaaTtIndex
import Derived.Test.YtlccgamaplaacaaPx14
import Derived.Test.YtlccgamaplaacaaPx15
import Derived.Test.YtlccgamaplaacaaPx16
namespace Go.Proofs.Ytlccgamaplaacaa.PureFnExactValueAt
open Go.RowKit Go.Proofs.Ytlccgamaplaacaa.P Go.Proofs.Ytlccgamaplaacaa.Base Go.Proofs.Ytlccgamaplaacaa.Tab Go.Proofs.Ytlccgamaplaacaa.Num Go.Proofs.YtlccgamaplaacaaW.PrintWords Go.Proofs.YtlccgamaplaacaaW.PrintLast Go.Proofs.YtlccgamaplaacaaW.PrintMore
set_option linter.unusedVariables false
theorem both (n : Int) (l m : List Int) (hb : l.length ≤ 1048576) (hm : m.length ≤ 1048576) : ∃ a ok, Ev (fun k => spec_ValueAt.f k n l m) (a, ok) ∧ Ev (fun k => impl_ValueAt.f k n l m) (a, ok) := by
  by_cases h : TGood n l
  · by_cases e : (m.length : Int) = n
    · by_cases b : Bits m
      · have hl : m.length ≤ 4 := by have := h.2.1; omega
        have hn : num m < l.length := by
          have := num_lt m b
          rw [h.2.2.1, ← e]; simpa using this
        refine ⟨rd l (num m : Nat), true, ?_, ?_⟩
        · unfold spec_ValueAt.f
          refine Ev.bind (Ev.val (ttGood n l (by omega)) (decide_eq_true h)) (Ev.pos rfl (Ev.pos e ?_))
          refine Ev.bind (Ev.val (l1All_bits m (by omega)) (decide_eq_true b)) (Ev.pos rfl ?_)
          exact Ev.bind (ttIndex m b (by omega)) (Ev.pos (by omega) (Ev.pos (by omega) (Ev.now _)))
        · unfold impl_ValueAt.f
          refine Ev.bind (Ev.val (implIsTable n l (by omega)) (decide_eq_true h)) (Ev.pos rfl (Ev.pos e ?_))
          refine Ev.bind (Ev.val (areBits m (by omega)) (decide_eq_true b)) (Ev.pos rfl ?_)
          exact Ev.bind (numberOf m b (by omega)) (Ev.pos (by omega) (Ev.pos (by omega) (Ev.now _)))
      · refine ⟨0, false, ?_, ?_⟩
        · unfold spec_ValueAt.f
          refine Ev.bind (Ev.val (ttGood n l (by omega)) (decide_eq_true h)) (Ev.pos rfl (Ev.pos e ?_))
          exact Ev.bind (Ev.val (l1All_bits m (by omega)) (decide_eq_false b)) (Ev.neg (by simp) (Ev.now _))
        · unfold impl_ValueAt.f
          refine Ev.bind (Ev.val (implIsTable n l (by omega)) (decide_eq_true h)) (Ev.pos rfl (Ev.pos e ?_))
          exact Ev.bind (Ev.val (areBits m (by omega)) (decide_eq_false b)) (Ev.neg (by simp) (Ev.now _))
    · refine ⟨0, false, ?_, ?_⟩
      · unfold spec_ValueAt.f
        exact Ev.bind (Ev.val (ttGood n l (by omega)) (decide_eq_true h)) (Ev.pos rfl (Ev.neg e (Ev.now _)))
      · unfold impl_ValueAt.f
        exact Ev.bind (Ev.val (implIsTable n l (by omega)) (decide_eq_true h)) (Ev.pos rfl (Ev.neg e (Ev.now _)))
  · refine ⟨0, false, ?_, ?_⟩
    · unfold spec_ValueAt.f
      exact Ev.bind (Ev.val (ttGood n l (by omega)) (decide_eq_false h)) (Ev.neg (by simp) (Ev.now _))
    · unfold impl_ValueAt.f
      exact Ev.bind (Ev.val (implIsTable n l (by omega)) (decide_eq_false h)) (Ev.neg (by simp) (Ev.now _))
theorem law : ∀ (a0_0 : Int) (l0_1 : List Int) (l1 : List Int), l0_1.length ≤ 9223372036854775807 → l1.length ≤ 9223372036854775807 → ∃ k, laws_FnExactValueAt.f k a0_0 l0_1 l1 = some true := by
  intro n l m hl hm
  apply Ev.rounds
  unfold laws_FnExactValueAt.f
  refine Ev.split (fun _ => Ev.now _) (fun c0 => ?_)
  rw [szTab n l 1048576 hl (by omega) (by omega)]
  simp only [Option.bind_some]
  refine Ev.split (fun _ => Ev.now _) (fun c => ?_)
  have hb : l.length ≤ 1048576 := by split at c <;> omega
  obtain ⟨a, ok, hs, hi⟩ := both n l m hb (by omega)
  repeat' first
    | exact Ev.now true
    | dsimp only
    | with_reducible refine Ev.bind hs ?_
    | with_reducible refine Ev.bind hi ?_
    | with_reducible refine Ev.bind (toTab _ _ (by omega)) ?_
    | with_reducible refine Ev.bind (eqTab_self _ _ (by omega)) ?_
    | with_reducible refine Ev.bind (markTab _ _ 1 (by omega) (by omega)) ?_
    | with_reducible refine Ev.bind (heldTab _ _ 1 (by omega) (by omega)) ?_
    | with_reducible refine Ev.bind (toInt _ (by omega)) ?_
    | with_reducible refine Ev.bind (eqInt_self _ (by omega)) ?_
    | with_reducible refine Ev.bind (markI _ 1 (by omega) (by omega)) ?_
    | with_reducible refine Ev.bind (heldI _ 1 (by omega) (by omega)) ?_
    | refine Ev.pos rfl ?_
    | (refine Ev.neg ?_ ?_; focus (first | omega | (simp; done)))
    | (with_reducible refine Ev.succ (g := fun k => laws_FnExactValueAt.j0 k _ _ _ _ _ _ _) ?_; simp only [laws_FnExactValueAt.j0])
end Go.Proofs.Ytlccgamaplaacaa.PureFnExactValueAt
