/- The pure statement of the law FnExactCountEnds: its printed function comes to true, whatever the entries. -/
import Derived.Test.YtegbbmnlfijbbaaLogMark
import Derived.Test.YtegbbmnlfijbbaaPx0
import Derived.Test.YtegbbmnlfijbbaaPx9
import Derived.Test.YtegbbmnlfijbbaaPx10
import Derived.Test.YtegbbmnlfijbbaaPx12
namespace Go.Proofs.Ytegbbmnlfijbbaa.PureFnExactCountEnds
open Go.RowKit Go.Proofs.Ytegbbmnlfijbbaa.P Go.Proofs.Ytegbbmnlfijbbaa.Base Go.Proofs.Ytegbbmnlfijbbaa.Log Go.Proofs.YtegbbmnlfijbbaaW.PrintWords Go.Proofs.YtegbbmnlfijbbaaW.PrintLast Go.Proofs.YtegbbmnlfijbbaaW.PrintMore
set_option linter.unusedVariables false
set_option linter.unusedSimpArgs false
theorem same : ∀ (k : Nat) a b c d, spec_CountEnds.l0 k a b c d = impl_CountEnds.l0 k a b c d
  | 0, _, _, _, _ => rfl
  | k + 1, _, _, _, _ => by simp only [spec_CountEnds.l0, impl_CountEnds.l0, same k]
theorem loop (l : List LE) (hl : LGood l) (d : Nat) : ∀ (i : Nat) (z : List Int), i + d = l.length → z.length = 3 → ∃ L : List Int, L.length = 3 ∧ Ev (fun k => impl_CountEnds.l0 k z l l.length i) (L, true) := by
  have h60 := hl.1
  induction d with
  | zero =>
    intro i z hi hz
    refine ⟨z, hz, Ev.succ ?_⟩
    simp only [impl_CountEnds.l0]
    exact Ev.neg (by omega) (Ev.now _)
  | succ d ih =>
    intro i z hi hz
    have he : Entry l[i] := hl.2 _ (List.getElem_mem (by omega))
    unfold Entry at he
    obtain ⟨L, hL, h⟩ := ih (i + 1) (z.set (wrap64 (l[i].f1.f0 - 1)).toNat (wrap64 (rd z (wrap64 (l[i].f1.f0 - 1)) + 1))) (by omega) (by simpa using hz)
    refine ⟨L, hL, Ev.succ ?_⟩
    simp only [impl_CountEnds.l0]
    rw [rdE_get (by omega), wrap_nat (by omega)]
    have hw : wrap64 (l[i].f1.f0 - 1) = l[i].f1.f0 - 1 := wrap_id (by omega) (by omega)
    refine Ev.pos (by omega) (Ev.pos (by omega) (Ev.pos (by omega) (Ev.pos (by omega) (Ev.pos (by omega) ?_))))
    exact h
theorem both (l : List LE) (hb : l.length ≤ 1048576) : ∃ L ok, (L : List Int).length ≤ 1048576 ∧ Ev (fun k => spec_CountEnds.f k l) (L, ok) ∧ Ev (fun k => impl_CountEnds.f k l) (L, ok) := by
  unfold spec_CountEnds.f impl_CountEnds.f
  simp only [same]
  by_cases h : LGood l
  · obtain ⟨L, hL, h1⟩ := loop l h l.length 0 (List.replicate 3 0) (by omega) rfl
    refine ⟨L, true, by omega, ?_, ?_⟩
    · exact Ev.bind (Ev.val (loGood l (by omega)) (decide_eq_true h)) (Ev.pos rfl (Ev.pos (by omega) h1))
    · exact Ev.bind (Ev.val (implIsLog l (by omega)) (decide_eq_true h)) (Ev.pos rfl (Ev.pos (by omega) h1))
  · refine ⟨[], false, by simp, ?_, ?_⟩
    · exact Ev.bind (Ev.val (loGood l (by omega)) (decide_eq_false h)) (Ev.neg (by simp) (Ev.now _))
    · exact Ev.bind (Ev.val (implIsLog l (by omega)) (decide_eq_false h)) (Ev.neg (by simp) (Ev.now _))
theorem law : ∀ (l0 : List (S85)), l0.length ≤ 9223372036854775807 → ∃ k, laws_FnExactCountEnds.f k l0 = some true := by
  intro l hl
  apply Ev.rounds
  unfold laws_FnExactCountEnds.f
  rw [szLog l 1048576 hl (by omega) (by omega)]
  simp only [Option.bind_some]
  refine Ev.split (fun _ => Ev.now _) (fun c => ?_)
  have hb : l.length ≤ 1048576 := by split at c <;> omega
  have hc : (l.map conv).length ≤ 1048576 := by simpa using hb
  obtain ⟨L, ok, hL, hs, hi⟩ := both (l.map conv) hc
  repeat' first
    | exact Ev.now true
    | dsimp only
    | with_reducible refine Ev.bind hs ?_
    | with_reducible refine Ev.bind hi ?_
    | with_reducible refine Ev.bind (toLog _ (by omega)) ?_
    | with_reducible refine Ev.bind (eqLog_self _ (by omega)) ?_
    | with_reducible refine Ev.bind (markLog _ 1 (by omega) (by omega)) ?_
    | with_reducible refine Ev.bind (eqInt_self _ (by omega)) ?_
    | with_reducible refine Ev.bind (markI _ 1 (by omega) (by omega)) ?_
    | with_reducible refine Ev.bind (heldI _ 1 (by omega) (by omega)) ?_
    | refine Ev.pos rfl ?_
    | (refine Ev.neg ?_ ?_; focus (first | omega | (simp; done)))
    | (with_reducible refine Ev.succ (g := fun k => laws_FnExactCountEnds.j0 k _ _ _ _ _ _ _) ?_; simp only [laws_FnExactCountEnds.j0])
    | (with_reducible refine Ev.succ (g := fun k => laws_FnExactCountEnds.j1 k _ _ _ _ _) ?_; simp only [laws_FnExactCountEnds.j1])
    | (with_reducible refine Ev.succ (g := fun k => laws_FnExactCountEnds.j2 k _ _ _) ?_; simp only [laws_FnExactCountEnds.j2])
end Go.Proofs.Ytegbbmnlfijbbaa.PureFnExactCountEnds
