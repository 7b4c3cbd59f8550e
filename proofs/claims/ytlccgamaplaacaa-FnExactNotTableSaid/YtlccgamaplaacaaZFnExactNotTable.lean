/- The pure statement of the law FnExactNotTable: its printed function comes to true, whatever the table. -/
import Derived.Test.YtlccgamaplaacaaTab
import Derived.Test.YtlccgamaplaacaaTabMark
import Derived.Test.YtlccgamaplaacaaPx26
import Derived.Test.YtlccgamaplaacaaPx27
namespace Go.Proofs.Ytlccgamaplaacaa.PureFnExactNotTable
open Go.RowKit Go.Proofs.Ytlccgamaplaacaa.P Go.Proofs.Ytlccgamaplaacaa.Base Go.Proofs.Ytlccgamaplaacaa.Tab Go.Proofs.YtlccgamaplaacaaW.PrintWords Go.Proofs.YtlccgamaplaacaaW.PrintLast Go.Proofs.YtlccgamaplaacaaW.PrintMore
set_option linter.unusedVariables false
theorem impl_loop (n : Int) (l : List Int) (m : Int) (hb : l.length ≤ 16) (d : Nat) : ∀ (i : Nat) (acc : List Int), i + d = l.length → acc.length = i →
    Ev (fun k => impl_NotTable.l0 k l l.length i m acc) (m, acc ++ (l.drop i).map (fun x => wrap64 (1 - x)), true) := by
  induction d with
  | zero =>
    intro i acc hi ha
    refine Ev.succ ?_
    simp only [impl_NotTable.l0]
    refine Ev.neg (by omega) (Ev.val (Ev.now _) ?_)
    rw [List.drop_of_length_le (by omega)]; simp
  | succ d ih =>
    intro i acc hi ha
    refine Ev.succ ?_
    simp only [impl_NotTable.l0]
    refine Ev.pos (by omega) (Ev.pos (by omega) (Ev.pos (by omega) (Ev.pos (by omega) ?_)))
    rw [wrap_nat (by omega), rd_get (by omega)]
    refine Ev.val (ih (i + 1) _ (by omega) (by simp [ha])) ?_
    rw [drop_cons (xs := l) (i := i) (by omega), List.map_cons, List.append_assoc]; rfl
theorem same : ∀ (k : Nat) a b c d e, spec_NotTable.l0 k a b c d e = impl_NotTable.l0 k a b c d e
  | 0, _, _, _, _, _ => rfl
  | k + 1, _, _, _, _, _ => by simp only [spec_NotTable.l0, impl_NotTable.l0, same k]
theorem both (n : Int) (l : List Int) (hb : l.length ≤ 1048576) : ∃ a L ok, (L : List Int).length ≤ 1048576 ∧ Ev (fun k => spec_NotTable.f k n l) (a, L, ok) ∧ Ev (fun k => impl_NotTable.f k n l) (a, L, ok) := by
  by_cases h : TGood n l
  · have hl := h.len
    refine ⟨n, l.map (fun x => wrap64 (1 - x)), true, by simp; omega, ?_, ?_⟩
    · unfold spec_NotTable.f
      refine Ev.bind (Ev.val (ttGood n l (by omega)) (decide_eq_true h)) (Ev.pos rfl ?_)
      simp only [same]
      exact Ev.val (impl_loop n l n (by omega) l.length 0 [] (by omega) rfl) (by simp)
    · unfold impl_NotTable.f
      refine Ev.bind (Ev.val (implIsTable n l (by omega)) (decide_eq_true h)) (Ev.pos rfl ?_)
      exact Ev.val (impl_loop n l n (by omega) l.length 0 [] (by omega) rfl) (by simp)
  · refine ⟨0, [], false, by simp, ?_, ?_⟩
    · unfold spec_NotTable.f
      exact Ev.bind (Ev.val (ttGood n l (by omega)) (decide_eq_false h)) (Ev.neg (by simp) (Ev.now _))
    · unfold impl_NotTable.f
      exact Ev.bind (Ev.val (implIsTable n l (by omega)) (decide_eq_false h)) (Ev.neg (by simp) (Ev.now _))
theorem law : ∀ (a0_0 : Int) (l0_1 : List Int), l0_1.length ≤ 9223372036854775807 → ∃ k, laws_FnExactNotTable.f k a0_0 l0_1 = some true := by
  intro n l hl
  apply Ev.rounds
  unfold laws_FnExactNotTable.f
  rw [szTab n l 1048576 hl (by omega) (by omega)]
  simp only [Option.bind_some]
  refine Ev.split (fun _ => Ev.now _) (fun c => ?_)
  have hb : l.length ≤ 1048576 := by split at c <;> omega
  obtain ⟨a, L, ok, hL, hs, hi⟩ := both n l hb
  repeat' first
    | exact Ev.now true
    | dsimp only
    | with_reducible refine Ev.bind hs ?_
    | with_reducible refine Ev.bind hi ?_
    | with_reducible refine Ev.bind (toTab _ _ (by omega)) ?_
    | with_reducible refine Ev.bind (eqTab_self _ _ (by omega)) ?_
    | with_reducible refine Ev.bind (markTab _ _ 1 (by omega) (by omega)) ?_
    | with_reducible refine Ev.bind (heldTab _ _ 1 (by omega) (by omega)) ?_
    | with_reducible refine Ev.bind (toInt _ (by omega)) ?_
    | with_reducible refine Ev.bind (eqInt_self _ (by omega)) ?_
    | with_reducible refine Ev.bind (markI _ 1 (by omega) (by omega)) ?_
    | with_reducible refine Ev.bind (heldI _ 1 (by omega) (by omega)) ?_
    | refine Ev.pos rfl ?_
    | (refine Ev.neg ?_ ?_; focus (first | omega | (simp; done)))
    | (with_reducible refine Ev.succ (g := fun k => laws_FnExactNotTable.j0 k _ _ _ _ _ _ _ _ _ _ _) ?_; simp only [laws_FnExactNotTable.j0])
    | (with_reducible refine Ev.succ (g := fun k => laws_FnExactNotTable.j1 k _ _ _ _ _ _ _ _) ?_; simp only [laws_FnExactNotTable.j1])
    | (with_reducible refine Ev.succ (g := fun k => laws_FnExactNotTable.j2 k _ _ _ _) ?_; simp only [laws_FnExactNotTable.j2])
end Go.Proofs.Ytlccgamaplaacaa.PureFnExactNotTable
