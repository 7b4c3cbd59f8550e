/- The pure statement of the law FnExactColoursChange: its printed function comes to true, whatever the entries. -/
import Derived.Test.YtegbbmnlfijbbaaLogMark
import Derived.Test.YtegbbmnlfijbbaaPx0
import Derived.Test.YtegbbmnlfijbbaaPx40
namespace Go.Proofs.Ytegbbmnlfijbbaa.PureFnExactColoursChange
open Go.RowKit Go.Proofs.Ytegbbmnlfijbbaa.P Go.Proofs.Ytegbbmnlfijbbaa.Base Go.Proofs.Ytegbbmnlfijbbaa.Log Go.Proofs.YtegbbmnlfijbbaaW.PrintWords Go.Proofs.YtegbbmnlfijbbaaW.PrintLast Go.Proofs.YtegbbmnlfijbbaaW.PrintMore
set_option linter.unusedVariables false
set_option linter.unusedSimpArgs false
theorem same : ∀ (k : Nat) a b c, spec_ColoursChange.l0 k a b c = impl_ColoursChange.l0 k a b c
  | 0, _, _, _ => rfl
  | k + 1, _, _, _ => by simp only [spec_ColoursChange.l0, impl_ColoursChange.l0, same k]
theorem loop (l : List LE) (h60 : l.length ≤ 60) (d : Nat) : ∀ (i : Nat) (z : List Int), l.length ≤ i + d → 1 ≤ i → z.length ≤ i → i ≤ 61 → ∃ L : List Int, L.length ≤ 61 ∧ Ev (fun k => impl_ColoursChange.l0 k l z i) (L, true) := by
  induction d with
  | zero =>
    intro i z hi h1 hz h2
    refine ⟨z, by omega, Ev.succ ?_⟩
    simp only [impl_ColoursChange.l0]
    exact Ev.neg (by omega) (Ev.now _)
  | succ d ih =>
    intro i z hi h1 hz h2
    by_cases hlt : i < l.length
    · have hw : wrap64 ((i : Int) - 1) = (i : Int) - 1 := wrap_id (by omega) (by omega)
      by_cases c : (rd_T81 l (i : Int)).f0 = (rd_T81 l (wrap64 ((i : Int) - 1))).f0
      · obtain ⟨L, hL, h⟩ := ih (i + 1) z (by omega) (by omega) (by omega) (by omega)
        refine ⟨L, hL, Ev.succ ?_⟩
        simp only [impl_ColoursChange.l0]
        rw [wrap_nat (by omega)]
        exact Ev.pos (by omega) (Ev.pos (by omega) (Ev.pos (by omega) (Ev.pos (by omega) (Ev.pos c h))))
      · obtain ⟨L, hL, h⟩ := ih (i + 1) (z ++ [(i : Int)]) (by omega) (by omega) (by simp; omega) (by omega)
        refine ⟨L, hL, Ev.succ ?_⟩
        simp only [impl_ColoursChange.l0]
        rw [wrap_nat (by omega)]
        exact Ev.pos (by omega) (Ev.pos (by omega) (Ev.pos (by omega) (Ev.pos (by omega) (Ev.neg c (Ev.pos (by omega) h)))))
    · refine ⟨z, by omega, Ev.succ ?_⟩
      simp only [impl_ColoursChange.l0]
      exact Ev.neg (by omega) (Ev.now _)
theorem both (l : List LE) (hb : l.length ≤ 1048576) : ∃ L ok, (L : List Int).length ≤ 1048576 ∧ Ev (fun k => spec_ColoursChange.f k l) (L, ok) ∧ Ev (fun k => impl_ColoursChange.f k l) (L, ok) := by
  unfold spec_ColoursChange.f impl_ColoursChange.f
  simp only [same]
  by_cases h : LGood l
  · obtain ⟨L, hL, h1⟩ := loop l h.1 l.length 1 [] (by omega) (by omega) (by simp) (by omega)
    refine ⟨L, true, by omega, ?_, ?_⟩
    · exact Ev.bind (Ev.val (loGood l (by omega)) (decide_eq_true h)) (Ev.pos rfl h1)
    · exact Ev.bind (Ev.val (implIsLog l (by omega)) (decide_eq_true h)) (Ev.pos rfl h1)
  · refine ⟨[], false, by simp, ?_, ?_⟩
    · exact Ev.bind (Ev.val (loGood l (by omega)) (decide_eq_false h)) (Ev.neg (by simp) (Ev.now _))
    · exact Ev.bind (Ev.val (implIsLog l (by omega)) (decide_eq_false h)) (Ev.neg (by simp) (Ev.now _))
theorem law : ∀ (l0 : List (S85)), l0.length ≤ 9223372036854775807 → ∃ k, laws_FnExactColoursChange.f k l0 = some true := by
  intro l hl
  apply Ev.rounds
  unfold laws_FnExactColoursChange.f
  rw [szLog l 1048576 hl (by omega) (by omega)]
  simp only [Option.bind_some]
  refine Ev.split (fun _ => Ev.now _) (fun c => ?_)
  have hb : l.length ≤ 1048576 := by split at c <;> omega
  have hc : (l.map conv).length ≤ 1048576 := by simpa using hb
  obtain ⟨L, ok, hL, hs, hi⟩ := both (l.map conv) hc
  repeat' first
    | exact Ev.now true
    | dsimp only
    | with_reducible refine Ev.bind hs ?_
    | with_reducible refine Ev.bind hi ?_
    | with_reducible refine Ev.bind (toLog _ (by omega)) ?_
    | with_reducible refine Ev.bind (eqLog_self _ (by omega)) ?_
    | with_reducible refine Ev.bind (markLog _ 1 (by omega) (by omega)) ?_
    | with_reducible refine Ev.bind (eqInt_self _ (by omega)) ?_
    | with_reducible refine Ev.bind (markI _ 1 (by omega) (by omega)) ?_
    | with_reducible refine Ev.bind (heldI _ 1 (by omega) (by omega)) ?_
    | refine Ev.pos rfl ?_
    | (refine Ev.neg ?_ ?_; focus (first | omega | (simp; done)))
    | (with_reducible refine Ev.succ (g := fun k => laws_FnExactColoursChange.j0 k _ _ _ _ _ _ _) ?_; simp only [laws_FnExactColoursChange.j0])
    | (with_reducible refine Ev.succ (g := fun k => laws_FnExactColoursChange.j1 k _ _ _ _ _) ?_; simp only [laws_FnExactColoursChange.j1])
    | (with_reducible refine Ev.succ (g := fun k => laws_FnExactColoursChange.j2 k _ _ _) ?_; simp only [laws_FnExactColoursChange.j2])
end Go.Proofs.Ytegbbmnlfijbbaa.PureFnExactColoursChange
