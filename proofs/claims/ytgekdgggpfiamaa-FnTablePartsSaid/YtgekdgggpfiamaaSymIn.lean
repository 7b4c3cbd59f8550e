/- IsSymmetric: the program's and the reference's function come to the same. No condition beyond the length named. -/
import Derived.Test.YtgekdgggpfiamaaSwap
import Derived.Test.YtgekdgggpfiamaaPx5
namespace Go.Proofs.Ytgekdgggpfiamaa.Sym
open Go.RowKit Go.Proofs.Ytgekdgggpfiamaa.P Go.Proofs.Ytgekdgggpfiamaa.Base Go.Proofs.Ytgekdgggpfiamaa.Bit Go.Proofs.Ytgekdgggpfiamaa.Tab Go.Proofs.Ytgekdgggpfiamaa.Reord Go.Proofs.Ytgekdgggpfiamaa.Swap Go.Proofs.YtgekdgggpfiamaaW.PrintWords Go.Proofs.YtgekdgggpfiamaaW.PrintLast Go.Proofs.YtgekdgggpfiamaaW.PrintMore
set_option linter.unusedVariables false
set_option linter.unusedSimpArgs false
theorem l1Same_loop (l m : List Int) (hl : l.length = m.length) (hb : l.length < 9223372036854775807) (d : Nat) : ∀ (i : Nat), i + d = l.length →
    Ev (fun k => spec_l1Same.l0 k l m l.length i) (decide (l.drop i = m.drop i)) := by
  induction d with
  | zero =>
    intro i hi
    refine Ev.succ ?_
    simp only [spec_l1Same.l0]
    refine Ev.neg (by omega) (Ev.val (Ev.now _) ?_)
    rw [List.drop_of_length_le (by omega), List.drop_of_length_le (by omega)]; simp
  | succ d ih =>
    intro i hi
    refine Ev.succ ?_
    simp only [spec_l1Same.l0]
    refine Ev.pos (by omega) (Ev.pos (by omega) (Ev.pos (by omega) (Ev.pos (by omega) ?_)))
    rw [wrap_nat (by omega), rd_get (by omega), rd_get (by omega), drop_cons (xs := l) (by omega), drop_cons (xs := m) (by omega)]
    refine Ev.split (fun c => Ev.val (ih (i + 1) (by omega)) (by simp only [List.cons.injEq, c, true_and])) (fun c => Ev.val (Ev.now _) (by simp only [List.cons.injEq, c, false_and, decide_false]))
theorem l1Same (l m : List Int) (hb : l.length < 9223372036854775807) : Ev (fun k => spec_l1Same.f k l m) (decide (l = m)) := by
  unfold spec_l1Same.f
  refine Ev.split (fun c => Ev.val (l1Same_loop l m (by omega) hb l.length 0 (by omega)) (by simp)) (fun c => Ev.val (Ev.now _) ?_)
  symm; rw [decide_eq_false_iff_not]; rintro rfl; exact c rfl
theorem equal_same : ∀ (k : Nat) a b c d, slices_Equal_int_int.l0 k a b c d = spec_l1Same.l0 k a b c d
  | 0, _, _, _, _ => rfl
  | k + 1, _, _, _, _ => by simp only [slices_Equal_int_int.l0, spec_l1Same.l0, equal_same k]
theorem slicesEqual (l m : List Int) (hb : l.length < 9223372036854775807) : Ev (fun k => slices_Equal_int_int.f k l m) (decide (l = m)) := by
  have h := l1Same l m hb
  unfold spec_l1Same.f at h
  unfold slices_Equal_int_int.f
  simp only [equal_same]
  exact h
theorem loops (n : Nat) (hn : n ≤ 4) (l : List Int) (hl : l.length = 2 ^ n) (d : Nat) : ∀ (i : Nat), n ≤ i + d → 1 ≤ i → i ≤ 5 →
    ∃ r, Ev (fun z => spec_IsSymmetric.l0 z i n l) r ∧ Ev (fun z => impl_IsSymmetric.l0 z i n l) r := by
  have hp : (2 : Nat) ^ n ≤ 2 ^ 4 := Nat.pow_le_pow_right (by decide) hn
  have fin : ∀ (i : Nat), n ≤ i → ∃ r, Ev (fun z => spec_IsSymmetric.l0 z i n l) r ∧ Ev (fun z => impl_IsSymmetric.l0 z i n l) r := by
    intro i hi
    refine ⟨(true, true), Ev.succ ?_, Ev.succ ?_⟩
    · simp only [spec_IsSymmetric.l0]
      exact Ev.neg (by omega) (Ev.now _)
    · simp only [impl_IsSymmetric.l0]
      exact Ev.neg (by omega) (Ev.now _)
  induction d with
  | zero =>
    intro i hi h1 h5
    exact fin i (by omega)
  | succ d ih =>
    intro i hi h1 h5
    by_cases hlt : i < n
    · have hw : wrap64 ((i : Int) - 1) = ((i - 1 : Nat) : Int) := by rw [wrap_id (by omega) (by omega)]; omega
      have e1 := specSwapped n hn l hl (i - 1) i (by omega) hlt (by omega)
      have e2 := implSwapped n hn l hl (i - 1) i (by omega) hlt
      obtain ⟨r, h1', h2'⟩ := ih (i + 1) (by omega) (by omega) (by omega)
      by_cases c : reVals l (order n (i - 1) i) l.length = l
      · refine ⟨r, Ev.succ ?_, Ev.succ ?_⟩
        · simp only [spec_IsSymmetric.l0, hw]
          refine Ev.pos (by omega) (Ev.bind e1 (Ev.bind (Ev.val (l1Same _ _ (by rw [reVals_length]; omega)) (decide_eq_true c)) (Ev.pos rfl ?_)))
          rw [wrap_nat (by omega)]; exact h1'
        · simp only [impl_IsSymmetric.l0, hw]
          refine Ev.pos (by omega) (Ev.bind e2 (Ev.bind (Ev.val (slicesEqual _ _ (by rw [reVals_length]; omega)) (decide_eq_true c)) (Ev.pos rfl ?_)))
          rw [wrap_nat (by omega)]; exact h2'
      · refine ⟨(false, true), Ev.succ ?_, Ev.succ ?_⟩
        · simp only [spec_IsSymmetric.l0, hw]
          exact Ev.pos (by omega) (Ev.bind e1 (Ev.bind (Ev.val (l1Same _ _ (by rw [reVals_length]; omega)) (decide_eq_false c)) (Ev.neg (by simp) (Ev.now _))))
        · simp only [impl_IsSymmetric.l0, hw]
          exact Ev.pos (by omega) (Ev.bind e2 (Ev.bind (Ev.val (slicesEqual _ _ (by rw [reVals_length]; omega)) (decide_eq_false c)) (Ev.neg (by simp) (Ev.now _))))
    · exact fin i (by omega)
theorem both (n : Int) (l : List Int) (hb : l.length ≤ 1048576) : ∃ a ok, Ev (fun k => spec_IsSymmetric.f k n l) (a, ok) ∧ Ev (fun k => impl_IsSymmetric.f k n l) (a, ok) := by
  unfold spec_IsSymmetric.f impl_IsSymmetric.f
  by_cases h : TGood n l
  · obtain ⟨h0, h1, h2, h3⟩ := id h
    obtain ⟨z, rfl⟩ := Int.eq_ofNat_of_zero_le h0
    rw [Int.toNat_natCast] at h2
    obtain ⟨⟨a, ok⟩, e1, e2⟩ := loops z (by omega) l h2 4 1 (by omega) (by omega) (by omega)
    refine ⟨a, ok, ?_, ?_⟩
    · exact Ev.bind (Ev.val (ttGood z l (by omega)) (decide_eq_true h)) (Ev.pos rfl e1)
    · exact Ev.bind (Ev.val (implIsTable z l (by omega)) (decide_eq_true h)) (Ev.pos rfl e2)
  · refine ⟨false, false, ?_, ?_⟩
    · exact Ev.bind (Ev.val (ttGood n l (by omega)) (decide_eq_false h)) (Ev.neg (by simp) (Ev.now _))
    · exact Ev.bind (Ev.val (implIsTable n l (by omega)) (decide_eq_false h)) (Ev.neg (by simp) (Ev.now _))
theorem loops2 (n : Nat) (hn : n ≤ 4) (l : List Int) (hl : l.length = 2 ^ n) (d : Nat) : ∀ (i : Nat), n ≤ i + d → 1 ≤ i → i ≤ 5 →
    ∃ r : Bool × Bool, Ev (fun z => spec_IsSymmetric.l0 z i n l) r ∧ Ev (fun z => impl_IsSymmetric.l0 z i n l) r ∧ r.2 = true ∧ (r.1 = true → ∀ j, i ≤ j → j < n → reVals l (order n (j - 1) j) l.length = l) := by
  have hp : (2 : Nat) ^ n ≤ 2 ^ 4 := Nat.pow_le_pow_right (by decide) hn
  have fin : ∀ (i : Nat), n ≤ i → ∃ r : Bool × Bool, Ev (fun z => spec_IsSymmetric.l0 z i n l) r ∧ Ev (fun z => impl_IsSymmetric.l0 z i n l) r ∧ r.2 = true ∧ (r.1 = true → ∀ j, i ≤ j → j < n → reVals l (order n (j - 1) j) l.length = l) := by
    intro i hi
    refine ⟨(true, true), Ev.succ ?_, Ev.succ ?_, rfl, fun _ j h1 h2 => by omega⟩
    · simp only [spec_IsSymmetric.l0]
      exact Ev.neg (by omega) (Ev.now _)
    · simp only [impl_IsSymmetric.l0]
      exact Ev.neg (by omega) (Ev.now _)
  induction d with
  | zero =>
    intro i hi h1 h5
    exact fin i (by omega)
  | succ d ih =>
    intro i hi h1 h5
    by_cases hlt : i < n
    · have hw : wrap64 ((i : Int) - 1) = ((i - 1 : Nat) : Int) := by rw [wrap_id (by omega) (by omega)]; omega
      have e1 := specSwapped n hn l hl (i - 1) i (by omega) hlt (by omega)
      have e2 := implSwapped n hn l hl (i - 1) i (by omega) hlt
      obtain ⟨r, h1', h2', h3', h4'⟩ := ih (i + 1) (by omega) (by omega) (by omega)
      by_cases c : reVals l (order n (i - 1) i) l.length = l
      · refine ⟨r, Ev.succ ?_, Ev.succ ?_, h3', fun hr j q1 q2 => by
          by_cases hj : j = i
          · rw [hj]; exact c
          · exact h4' hr j (by omega) q2⟩
        · simp only [spec_IsSymmetric.l0, hw]
          refine Ev.pos (by omega) (Ev.bind e1 (Ev.bind (Ev.val (l1Same _ _ (by rw [reVals_length]; omega)) (decide_eq_true c)) (Ev.pos rfl ?_)))
          rw [wrap_nat (by omega)]; exact h1'
        · simp only [impl_IsSymmetric.l0, hw]
          refine Ev.pos (by omega) (Ev.bind e2 (Ev.bind (Ev.val (slicesEqual _ _ (by rw [reVals_length]; omega)) (decide_eq_true c)) (Ev.pos rfl ?_)))
          rw [wrap_nat (by omega)]; exact h2'
      · refine ⟨(false, true), Ev.succ ?_, Ev.succ ?_, rfl, fun hr => absurd hr (by simp)⟩
        · simp only [spec_IsSymmetric.l0, hw]
          exact Ev.pos (by omega) (Ev.bind e1 (Ev.bind (Ev.val (l1Same _ _ (by rw [reVals_length]; omega)) (decide_eq_false c)) (Ev.neg (by simp) (Ev.now _))))
        · simp only [impl_IsSymmetric.l0, hw]
          exact Ev.pos (by omega) (Ev.bind e2 (Ev.bind (Ev.val (slicesEqual _ _ (by rw [reVals_length]; omega)) (decide_eq_false c)) (Ev.neg (by simp) (Ev.now _))))
    · exact fin i (by omega)
theorem value (z : Nat) (l : List Int) (h : TGood z l) : ∃ a : Bool, Ev (fun k => spec_IsSymmetric.f k z l) (a, true) ∧ Ev (fun k => impl_IsSymmetric.f k z l) (a, true) ∧ (a = true → ∀ j, 1 ≤ j → j < z → reVals l (order z (j - 1) j) l.length = l) := by
  unfold spec_IsSymmetric.f impl_IsSymmetric.f
  obtain ⟨h0, h1, h2, h3⟩ := id h
  have hl := h.len
  rw [Int.toNat_natCast] at h2
  obtain ⟨⟨a, ok⟩, e1, e2, e3, e4⟩ := loops2 z (by omega) l h2 4 1 (by omega) (by omega) (by omega)
  simp only at e3 e4
  subst e3
  refine ⟨a, ?_, ?_, e4⟩
  · exact Ev.bind (Ev.val (ttGood z l (by omega)) (decide_eq_true h)) (Ev.pos rfl e1)
  · exact Ev.bind (Ev.val (implIsTable z l (by omega)) (decide_eq_true h)) (Ev.pos rfl e2)
end Go.Proofs.Ytgekdgggpfiamaa.Sym
