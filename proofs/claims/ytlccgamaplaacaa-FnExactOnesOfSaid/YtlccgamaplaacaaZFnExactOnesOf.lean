/- The pure statement of the law FnExactOnesOf: its printed function comes to true, whatever the table. -/
import Derived.Test.YtlccgamaplaacaaTabMark
import Derived.Test.YtlccgamaplaacaaPx28
import Derived.Test.YtlccgamaplaacaaPx29
namespace Go.Proofs.Ytlccgamaplaacaa.PureFnExactOnesOf
open Go.RowKit Go.Proofs.Ytlccgamaplaacaa.P Go.Proofs.Ytlccgamaplaacaa.Base Go.Proofs.Ytlccgamaplaacaa.Tab Go.Proofs.YtlccgamaplaacaaW.PrintWords Go.Proofs.YtlccgamaplaacaaW.PrintLast Go.Proofs.YtlccgamaplaacaaW.PrintMore
set_option linter.unusedVariables false
theorem impl_loop (l : List Int) (hb : l.length ≤ 16) (d : Nat) : ∀ (i : Nat) (acc : List Int), i + d = l.length → acc.length ≤ i →
    ∃ L : List Int, L.length ≤ 16 ∧ Ev (fun k => spec_ttOnes.l0 k acc l l.length i) L ∧ Ev (fun k => impl_OnesOf.l0 k acc l l.length i) (L, true) := by
  induction d with
  | zero =>
    intro i acc hi ha
    refine ⟨acc, by omega, Ev.succ ?_, Ev.succ ?_⟩
    · simp only [spec_ttOnes.l0]
      exact Ev.neg (by omega) (Ev.now _)
    · simp only [impl_OnesOf.l0]
      exact Ev.neg (by omega) (Ev.now _)
  | succ d ih =>
    intro i acc hi ha
    by_cases c : rd l (i : Int) = 1
    · obtain ⟨L, hL, h1, h2⟩ := ih (i + 1) (acc ++ [(i : Int)]) (by omega) (by simp; omega)
      refine ⟨L, hL, Ev.succ ?_, Ev.succ ?_⟩
      · simp only [spec_ttOnes.l0]
        refine Ev.pos (by omega) (Ev.pos (by omega) (Ev.pos (by omega) (Ev.pos c (Ev.pos (by omega) ?_))))
        rw [wrap_nat (by omega)]; exact h1
      · simp only [impl_OnesOf.l0]
        refine Ev.pos (by omega) (Ev.pos (by omega) (Ev.pos (by omega) (Ev.pos c (Ev.pos (by omega) ?_))))
        rw [wrap_nat (by omega)]; exact h2
    · obtain ⟨L, hL, h1, h2⟩ := ih (i + 1) acc (by omega) (by omega)
      refine ⟨L, hL, Ev.succ ?_, Ev.succ ?_⟩
      · simp only [spec_ttOnes.l0]
        refine Ev.pos (by omega) (Ev.pos (by omega) (Ev.pos (by omega) (Ev.neg c ?_)))
        rw [wrap_nat (by omega)]; exact h1
      · simp only [impl_OnesOf.l0]
        refine Ev.pos (by omega) (Ev.pos (by omega) (Ev.pos (by omega) (Ev.neg c ?_)))
        rw [wrap_nat (by omega)]; exact h2
theorem both (n : Int) (l : List Int) (hb : l.length ≤ 1048576) : ∃ L ok, (L : List Int).length ≤ 1048576 ∧ Ev (fun k => spec_OnesOf.f k n l) (L, ok) ∧ Ev (fun k => impl_OnesOf.f k n l) (L, ok) := by
  by_cases h : TGood n l
  · have hl := h.len
    obtain ⟨L, hL, h1, h2⟩ := impl_loop l (by omega) l.length 0 [] (by omega) (by simp)
    refine ⟨L, true, by omega, ?_, ?_⟩
    · unfold spec_OnesOf.f spec_ttOnes.f
      exact Ev.bind (Ev.val (ttGood n l (by omega)) (decide_eq_true h)) (Ev.pos rfl (Ev.bind h1 (Ev.now _)))
    · unfold impl_OnesOf.f
      exact Ev.bind (Ev.val (implIsTable n l (by omega)) (decide_eq_true h)) (Ev.pos rfl h2)
  · refine ⟨[], false, by simp, ?_, ?_⟩
    · unfold spec_OnesOf.f
      exact Ev.bind (Ev.val (ttGood n l (by omega)) (decide_eq_false h)) (Ev.neg (by simp) (Ev.now _))
    · unfold impl_OnesOf.f
      exact Ev.bind (Ev.val (implIsTable n l (by omega)) (decide_eq_false h)) (Ev.neg (by simp) (Ev.now _))
theorem law : ∀ (a0_0 : Int) (l0_1 : List Int), l0_1.length ≤ 9223372036854775807 → ∃ k, laws_FnExactOnesOf.f k a0_0 l0_1 = some true := by
  intro n l hl
  apply Ev.rounds
  unfold laws_FnExactOnesOf.f
  rw [szTab n l 1048576 hl (by omega) (by omega)]
  simp only [Option.bind_some]
  refine Ev.split (fun _ => Ev.now _) (fun c => ?_)
  have hb : l.length ≤ 1048576 := by split at c <;> omega
  obtain ⟨L, ok, hL, hs, hi⟩ := both n l hb
  repeat' first
    | exact Ev.now true
    | dsimp only
    | with_reducible refine Ev.bind hs ?_
    | with_reducible refine Ev.bind hi ?_
    | with_reducible refine Ev.bind (toTab _ _ (by omega)) ?_
    | with_reducible refine Ev.bind (eqTab_self _ _ (by omega)) ?_
    | with_reducible refine Ev.bind (markTab _ _ 1 (by omega) (by omega)) ?_
    | with_reducible refine Ev.bind (heldTab _ _ 1 (by omega) (by omega)) ?_
    | with_reducible refine Ev.bind (toInt _ (by omega)) ?_
    | with_reducible refine Ev.bind (eqInt_self _ (by omega)) ?_
    | with_reducible refine Ev.bind (markI _ 1 (by omega) (by omega)) ?_
    | with_reducible refine Ev.bind (heldI _ 1 (by omega) (by omega)) ?_
    | refine Ev.pos rfl ?_
    | (refine Ev.neg ?_ ?_; focus (first | omega | (simp; done)))
    | (with_reducible refine Ev.succ (g := fun k => laws_FnExactOnesOf.j0 k _ _ _ _ _ _ _ _ _) ?_; simp only [laws_FnExactOnesOf.j0])
    | (with_reducible refine Ev.succ (g := fun k => laws_FnExactOnesOf.j1 k _ _ _ _ _ _) ?_; simp only [laws_FnExactOnesOf.j1])
    | (with_reducible refine Ev.succ (g := fun k => laws_FnExactOnesOf.j2 k _ _ _) ?_; simp only [laws_FnExactOnesOf.j2])
end Go.Proofs.Ytlccgamaplaacaa.PureFnExactOnesOf
