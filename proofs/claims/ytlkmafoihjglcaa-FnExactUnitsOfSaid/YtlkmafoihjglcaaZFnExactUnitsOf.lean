/- The pure statement of the law FnExactUnitsOf: its printed function comes to true, whatever the board. -/
import Derived.Test.YtlkmafoihjglcaaBoardMark
import Derived.Test.YtlkmafoihjglcaaUnits
import Derived.Test.YtlkmafoihjglcaaPx2
import Derived.Test.YtlkmafoihjglcaaPx3
import Derived.Test.YtlkmafoihjglcaaPx4
namespace Go.Proofs.Ytlkmafoihjglcaa.PureFnExactUnitsOf
open Go.RowKit Go.Proofs.Ytlkmafoihjglcaa.P Go.Proofs.Ytlkmafoihjglcaa.Base Go.Proofs.Ytlkmafoihjglcaa.Board Go.Proofs.Ytlkmafoihjglcaa.Units Go.Proofs.YtlkmafoihjglcaaW.PrintWords Go.Proofs.YtlkmafoihjglcaaW.PrintLast Go.Proofs.YtlkmafoihjglcaaW.PrintMore
set_option linter.unusedVariables false
set_option linter.unusedSimpArgs false
def tot : List (List Int) → Nat
  | [] => 0
  | u :: R => u.length + tot R
def marksL (a : Int) : List (List Int) → List (List Int)
  | [] => []
  | u :: R => marks a u.length :: marksL (a + u.length) R
theorem marksL_length : ∀ (R : List (List Int)) (a : Int), (marksL a R).length = R.length
  | [], _ => rfl
  | u :: R, a => by simp only [marksL, List.length_cons, marksL_length R]
theorem rdL_mid (D : List (List Int)) (u : List Int) (R : List (List Int)) : rd_L3 (D ++ u :: R) (D.length : Int) = u := by
  rw [rdL_get (by simp)]; simp
theorem set_mid (D : List (List Int)) (u v : List Int) (R : List (List Int)) : (D ++ u :: R).set (D.length : Int).toNat v = (D ++ [v]) ++ R := by
  rw [Int.toNat_natCast]; simp
theorem mark_go : ∀ (R D : List (List Int)) (a : Int), 0 ≤ a → a + tot R < 9223372036854775807 → D.length + R.length < 9223372036854775807 →
    Ev (fun k => laws_markIntSS.l0 k (D ++ R) a D.length) (a + tot R, D ++ marksL a R)
  | [], D, a, _, _, _ => by
    refine Ev.succ ?_
    simp only [laws_markIntSS.l0]
    exact Ev.neg (by simp) (Ev.val (Ev.now _) (by simp [tot, marksL]))
  | u :: R, D, a, h0, h1, h2 => by
    have ht : tot (u :: R) = u.length + tot R := rfl
    have hc : (u :: R).length = R.length + 1 := rfl
    refine Ev.succ ?_
    simp only [laws_markIntSS.l0]
    refine Ev.pos (by rw [List.length_append]; omega) (Ev.pos (by omega) ?_)
    rw [rdL_mid]
    refine Ev.bind (markI u a h0 (by omega)) ?_
    rw [set_mid, wrap_nat (by omega)]
    have := mark_go R (D ++ [marks a u.length]) (a + u.length) (by omega) (by omega) (by rw [List.length_append, List.length_singleton]; omega)
    rw [List.length_append, List.length_singleton] at this
    refine Ev.val this ?_
    rw [ht]
    simp only [marksL, List.append_assoc, List.singleton_append, Prod.mk.injEq, and_true]
    omega
theorem markSS (U : List (List Int)) (a : Int) (h0 : 0 ≤ a) (h1 : a + tot U < 9223372036854775807) (h2 : U.length < 9223372036854775807) : Ev (fun k => laws_markIntSS.f k U a) (a + tot U, marksL a U) := by
  unfold laws_markIntSS.f
  exact mark_go U [] a h0 h1 (by simpa using h2)
theorem held_go : ∀ (R D : List (List Int)) (a : Int), 0 ≤ a → a + tot R < 9223372036854775807 → D.length + R.length < 9223372036854775807 →
    Ev (fun k => laws_heldIntSS.l0 k (D ++ marksL a R) a D.length) (a + tot R)
  | [], D, a, _, _, _ => by
    refine Ev.succ ?_
    simp only [laws_heldIntSS.l0, marksL]
    exact Ev.neg (by simp) (Ev.val (Ev.now _) (by simp [tot]))
  | u :: R, D, a, h0, h1, h2 => by
    have ht : tot (u :: R) = u.length + tot R := rfl
    have hc : (u :: R).length = R.length + 1 := rfl
    refine Ev.succ ?_
    simp only [laws_heldIntSS.l0, marksL]
    refine Ev.pos (by rw [List.length_append, List.length_cons]; omega) (Ev.pos (by omega) ?_)
    rw [rdL_mid]
    refine Ev.bind (heldI u.length a h0 (by omega)) (Ev.neg (by omega) ?_)
    rw [wrap_nat (by omega)]
    have := held_go R (D ++ [marks a u.length]) (a + u.length) (by omega) (by omega) (by rw [List.length_append, List.length_singleton]; omega)
    rw [List.length_append, List.length_singleton, List.append_assoc, List.singleton_append] at this
    exact Ev.val this (by rw [ht]; omega)
theorem heldSS (U : List (List Int)) (a : Int) (h0 : 0 ≤ a) (h1 : a + tot U < 9223372036854775807) (h2 : U.length < 9223372036854775807) : Ev (fun k => laws_heldIntSS.f k (marksL a U) a) (a + tot U) := by
  unfold laws_heldIntSS.f
  exact held_go U [] a h0 h1 (by simpa using h2)
theorem eq_go (U : List (List Int)) (hs : ∀ u ∈ U, u.length < 9223372036854775807) (hn : U.length < 9223372036854775807) (d : Nat) : ∀ (i : Nat), i + d = U.length → Ev (fun k => laws_eqIntSS.l0 k U U i) true := by
  induction d with
  | zero =>
    intro i hi
    refine Ev.succ ?_
    simp only [laws_eqIntSS.l0]
    exact Ev.neg (by omega) (Ev.now _)
  | succ d ih =>
    intro i hi
    refine Ev.succ ?_
    simp only [laws_eqIntSS.l0]
    refine Ev.pos (by omega) (Ev.pos (by omega) (Ev.pos (by omega) ?_))
    rw [rdL_get (by omega), wrap_nat (by omega)]
    exact Ev.bind (eqInt_self _ (hs _ (List.getElem_mem (by omega)))) (Ev.pos rfl (ih (i + 1) (by omega)))
theorem eqSS (U : List (List Int)) (hs : ∀ u ∈ U, u.length < 9223372036854775807) (hn : U.length < 9223372036854775807) : Ev (fun k => laws_eqIntSS.f k U U) true := by
  unfold laws_eqIntSS.f
  exact Ev.pos rfl (eq_go U hs hn U.length 0 (by omega))
theorem tot_le (n : Nat) : ∀ (U : List (List Int)), (∀ u ∈ U, u.length ≤ n) → tot U ≤ U.length * n
  | [], _ => by simp [tot]
  | u :: R, h => by
    have h1 := h u (by simp)
    have h2 := tot_le n R fun v hv => h v (by simp [hv])
    simp only [tot, List.length_cons, Nat.add_mul]
    omega
theorem both (r c : Int) (cs : List C) (hb : cs.length ≤ 1048576) : ∃ (U : List (List Int)) (ok : Bool), U.length ≤ 90 ∧ (∀ u ∈ U, u.length ≤ 90) ∧ Ev (fun k => spec_UnitsOf.f k r c cs) (U, ok) ∧ Ev (fun k => impl_UnitsOf.f k r c cs) (U, ok) := by
  by_cases h : Board.Good r c cs
  · obtain ⟨U, u1, u2, hU⟩ := units h
    have hf := hU.few
    have hl := h.len
    refine ⟨U, true, by omega, fun u hu => ?_, ?_, ?_⟩
    · obtain ⟨k, hk, rfl⟩ := List.getElem_of_mem hu
      have := hU.small k hk
      omega
    · unfold spec_UnitsOf.f
      exact Ev.bind (spec_yes h) (Ev.pos rfl (Ev.bind u1 (Ev.now _)))
    · unfold impl_UnitsOf.f
      exact Ev.bind (impl_yes h) (Ev.pos rfl (Ev.bind u2 (Ev.now _)))
  · refine ⟨[], false, by simp, by simp, ?_, ?_⟩
    · unfold spec_UnitsOf.f
      exact Ev.bind (spec_no h hb) (Ev.neg (by simp) (Ev.now _))
    · unfold impl_UnitsOf.f
      exact Ev.bind (impl_no h hb) (Ev.neg (by simp) (Ev.now _))
theorem law : ∀ (a0_0 : Int) (a0_1 : Int) (l0_2 : List CL), l0_2.length ≤ 9223372036854775807 → ∃ k, laws_FnExactUnitsOf.f k a0_0 a0_1 l0_2 = some true := by
  intro r c l hl
  apply Ev.rounds
  unfold laws_FnExactUnitsOf.f
  rw [szBoard r c l 1048576 hl (by omega) (by omega)]
  simp only [Option.bind_some]
  refine Ev.split (fun _ => Ev.now _) (fun c0 => ?_)
  have hb : l.length ≤ 1048576 := by split at c0 <;> omega
  have hm : (l.map convC).length ≤ 1048576 := by simpa using hb
  obtain ⟨U, ok, hL, hs, e1, e2⟩ := both r c (l.map convC) hm
  have ht : tot U ≤ 8100 := by
    have := tot_le 90 U hs
    have : U.length * 90 ≤ 90 * 90 := Nat.mul_le_mul_right 90 hL
    omega
  have eq := eqSS U (fun u hu => by have := hs u hu; omega) (by omega)
  have tb := toBoard r c l hb
  refine Ev.bind tb (Ev.bind e1 (Ev.bind tb (Ev.bind e2 (Ev.bind eq (Ev.pos rfl (Ev.succ ?_))))))
  simp only [laws_FnExactUnitsOf.j0]
  refine Ev.neg (by simp) (Ev.bind tb (Ev.bind (eqBoard_self _ _ _ (by omega)) (Ev.pos rfl (Ev.bind (markBoard _ _ _ _ (by omega) (by omega)) (Ev.neg (by omega) (Ev.bind eq (Ev.pos rfl (Ev.succ ?_))))))))
  simp only [laws_FnExactUnitsOf.j1]
  refine Ev.neg (by simp) (Ev.bind (markSS U 1 (by omega) (by omega) (by omega)) (Ev.bind (heldSS U 1 (by omega) (by omega) (by omega)) (Ev.neg (by omega) (Ev.pos rfl (Ev.bind tb (Ev.bind e2 (Ev.bind eq (Ev.pos rfl (Ev.succ ?_)))))))))
  simp only [laws_FnExactUnitsOf.j2]
  exact Ev.neg (by simp) (Ev.bind (heldSS U 1 (by omega) (by omega) (by omega)) (Ev.neg (by omega) (Ev.pos rfl (Ev.now _))))
end Go.Proofs.Ytlkmafoihjglcaa.PureFnExactUnitsOf
