/- The pure statement of the law FnExactTurnUnit: its printed function comes to true, whatever the board and the unit's number. -/
import Derived.Test.YteenahjnpeegpaaBoardMark
import Derived.Test.YteenahjnpeegpaaTurn
import Derived.Test.YteenahjnpeegpaaPx1
import Derived.Test.YteenahjnpeegpaaPx3
import Derived.Test.YteenahjnpeegpaaPx4
import Derived.Test.YteenahjnpeegpaaPx5
namespace Go.Proofs.Yteenahjnpeegpaa.PureFnExactTurnUnit
open Go.RowKit Go.Proofs.Yteenahjnpeegpaa.P Go.Proofs.Yteenahjnpeegpaa.Base Go.Proofs.Yteenahjnpeegpaa.Board Go.Proofs.Yteenahjnpeegpaa.Units Go.Proofs.YteenahjnpeegpaaW.PrintWords Go.Proofs.YteenahjnpeegpaaW.PrintLast Go.Proofs.YteenahjnpeegpaaW.PrintMore
set_option linter.unusedVariables false
set_option linter.unusedSimpArgs false
theorem l1In (a b c : Int) : spec_l1In.f a b c = some (decide (b ≤ a ∧ a ≤ c)) := by
  unfold spec_l1In.f
  by_cases h : a ≥ b <;> simp [h]
theorem impl_loop {r c : Int} {u : List Int} (hul : u.length < 9223372036854775807) {n : Nat} (hu : ∀ x ∈ u, 0 ≤ x ∧ x < n) (d : Nat) : ∀ (j : Nat) (cs : List C), j + d = u.length → cs.length = n →
    Ev (fun k => impl_TurnUnit.l0 k u u.length j r c cs) (r, c, turns cs (u.drop j), true) := by
  induction d with
  | zero =>
    intro j cs hj hc
    refine Ev.succ ?_
    simp only [impl_TurnUnit.l0]
    refine Ev.neg (by omega) (Ev.val (Ev.now _) ?_)
    rw [List.drop_of_length_le (by omega)]; rfl
  | succ d ih =>
    intro j cs hj hc
    have hx := hu u[j] (List.getElem_mem (by omega))
    refine Ev.succ ?_
    simp only [impl_TurnUnit.l0]
    refine Ev.pos (by omega) (Ev.pos (by omega) (Ev.pos (by omega) ?_))
    rw [rd_get (by omega), wrap_nat (by omega), drop_cons (xs := u) (by omega)]
    refine Ev.pos (by omega) (Ev.pos (by omega) ?_)
    exact ih (j + 1) (turn cs u[j]) (by omega) (by rw [turn_len]; exact hc)
theorem both (r c : Int) (cs : List C) (x : Int) (hb : cs.length ≤ 1048576) : ∃ (r' c' : Int) (R : List C) (ok : Bool), R.length ≤ 1048576 ∧ Ev (fun k => spec_TurnUnit.f k r c cs x) (r', c', R, ok) ∧ Ev (fun k => impl_TurnUnit.f k r c cs x) (r', c', R, ok) := by
  by_cases h : Board.Good r c cs
  · obtain ⟨U, u1, u2, hU⟩ := units h
    have hf := hU.few
    have hl := h.len
    by_cases hx : 0 ≤ x ∧ x < U.length
    · obtain ⟨i, rfl⟩ := Int.eq_ofNat_of_zero_le hx.1
      have hi : i < U.length := by omega
      have hw := hU.within hi
      have hsm := hU.small i hi
      refine ⟨r, c, turns cs U[i], true, by rw [turns_len]; exact hb, ?_, ?_⟩
      · unfold spec_TurnUnit.f
        refine Ev.bind (spec_yes h) (Ev.pos rfl (Ev.bind u1 ?_))
        rw [l1In, wrap_id (by omega) (by omega), decide_eq_true (show 0 ≤ (i : Int) ∧ (i : Int) ≤ (U.length : Int) - 1 by omega)]
        simp only [Option.bind_some]
        refine Ev.succ ?_
        simp only [spec_TurnUnit.j0]
        refine Ev.neg (by simp) ?_
        rw [boOwn hb]
        simp only [Option.bind_some]
        refine Ev.bind u1 (Ev.pos (by omega) (Ev.pos (by omega) ?_))
        rw [rdL_get hi]
        exact Ev.bind (saTurn (by omega) hw) (Ev.now _)
      · unfold impl_TurnUnit.f
        refine Ev.bind (impl_yes h) (Ev.pos rfl (Ev.bind u2 (Ev.neg (by omega) (Ev.succ ?_))))
        simp only [impl_TurnUnit.j0]
        refine Ev.neg (by simp; omega) ?_
        rw [copyBoard hb]
        simp only [Option.bind_some]
        refine Ev.pos (by omega) (Ev.pos (by omega) ?_)
        rw [rdL_get hi]
        exact Ev.val (impl_loop (by omega) hw U[i].length 0 cs (by omega) rfl) (by simp)
    · refine ⟨0, 0, [], false, by simp, ?_, ?_⟩
      · unfold spec_TurnUnit.f
        refine Ev.bind (spec_yes h) (Ev.pos rfl (Ev.bind u1 ?_))
        rw [l1In, wrap_id (by omega) (by omega), decide_eq_false (show ¬ (0 ≤ x ∧ x ≤ (U.length : Int) - 1) by omega)]
        simp only [Option.bind_some]
        refine Ev.succ ?_
        simp only [spec_TurnUnit.j0]
        exact Ev.pos (by simp) (Ev.now _)
      · unfold impl_TurnUnit.f
        refine Ev.bind (impl_yes h) (Ev.pos rfl (Ev.bind u2 ?_))
        refine Ev.split (fun _ => Ev.succ ?_) (fun _ => Ev.succ ?_) <;> simp only [impl_TurnUnit.j0]
        · exact Ev.pos (by simp) (Ev.now _)
        · exact Ev.pos (by simp; omega) (Ev.now _)
  · refine ⟨0, 0, [], false, by simp, ?_, ?_⟩
    · unfold spec_TurnUnit.f
      refine Ev.bind (spec_no h hb) (Ev.neg (by simp) (Ev.succ ?_))
      simp only [spec_TurnUnit.j0]
      exact Ev.pos (by simp) (Ev.now _)
    · unfold impl_TurnUnit.f
      exact Ev.bind (impl_no h hb) (Ev.neg (by simp) (Ev.now _))
theorem law : ∀ (a0_0 : Int) (a0_1 : Int) (l0_2 : List CL) (a1 : Int), l0_2.length ≤ 9223372036854775807 → (Lit.int .i64 a1).wf = true → ∃ k, laws_FnExactTurnUnit.f k a0_0 a0_1 l0_2 a1 = some true := by
  intro r c l x hl _
  apply Ev.rounds
  unfold laws_FnExactTurnUnit.f
  rw [szBoard r c l 1048576 hl (by omega) (by omega)]
  simp only [Option.bind_some]
  refine Ev.split (fun _ => Ev.now _) (fun c0 => ?_)
  have hb : l.length ≤ 1048576 := by split at c0 <;> omega
  have hm : (l.map convC).length ≤ 1048576 := by simpa using hb
  obtain ⟨r', c', R, ok, hL, hs, hi⟩ := both r c (l.map convC) x hm
  repeat' first
    | exact Ev.now true
    | dsimp only
    | with_reducible refine Ev.bind hs ?_
    | with_reducible refine Ev.bind hi ?_
    | with_reducible refine Ev.bind (toBoard _ _ _ (by omega)) ?_
    | with_reducible refine Ev.bind (eqBoard_self _ _ _ (by omega)) ?_
    | with_reducible refine Ev.bind (markBoard _ _ _ _ (by omega) (by omega)) ?_
    | with_reducible refine Ev.bind (heldBoard _ _ _ _ (by omega) (by omega)) ?_
    | refine Ev.pos rfl ?_
    | (refine Ev.neg ?_ ?_; focus (first | omega | (simp; done)))
    | (with_reducible refine Ev.succ (g := fun k => laws_FnExactTurnUnit.j0 k _ _ _ _ _ _ _ _ _ _ _ _ _ _ _ _) ?_; simp only [laws_FnExactTurnUnit.j0])
    | (with_reducible refine Ev.succ (g := fun k => laws_FnExactTurnUnit.j1 k _ _ _ _ _ _ _ _ _ _ _ _) ?_; simp only [laws_FnExactTurnUnit.j1])
    | (with_reducible refine Ev.succ (g := fun k => laws_FnExactTurnUnit.j2 k _ _ _ _ _) ?_; simp only [laws_FnExactTurnUnit.j2])
end Go.Proofs.Yteenahjnpeegpaa.PureFnExactTurnUnit
