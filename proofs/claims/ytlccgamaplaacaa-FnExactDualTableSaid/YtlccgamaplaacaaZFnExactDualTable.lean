/- The pure statement of the law FnExactDualTable: its printed function comes to true, whatever the table. -/
import Derived.Test.YtlccgamaplaacaaTabMark
import Derived.Test.YtlccgamaplaacaaPx22
import Derived.Test.YtlccgamaplaacaaPx23
import Derived.Test.YtlccgamaplaacaaPx25
namespace Go.Proofs.Ytlccgamaplaacaa.PureFnExactDualTable
open Go.RowKit Go.Proofs.Ytlccgamaplaacaa.P Go.Proofs.Ytlccgamaplaacaa.Base Go.Proofs.Ytlccgamaplaacaa.Tab Go.Proofs.YtlccgamaplaacaaW.PrintWords Go.Proofs.YtlccgamaplaacaaW.PrintLast Go.Proofs.YtlccgamaplaacaaW.PrintMore
set_option linter.unusedVariables false
/-- The values from the end, exchanged: i of them. -/
def part (l : List Int) (i : Nat) : List Int := (List.range i).map fun (j : Nat) => wrap64 (1 - rd l ((l.length - 1 - j : Nat) : Int))
theorem part_succ (l : List Int) (i : Nat) : part l (i + 1) = part l i ++ [wrap64 (1 - rd l ((l.length - 1 - i : Nat) : Int))] := by simp [part, List.range_succ]
theorem part_length (l : List Int) (i : Nat) : (part l i).length = i := by simp [part]
theorem spec_loop (n m : Int) (l : List Int) (hb : l.length ≤ 16) (d : Nat) : ∀ (i : Nat) (x : Int), i + d = l.length → x = (l.length : Int) - 1 - i → Ev (fun k => spec_DualTable.l0 k x n l m (part l i)) (m, part l l.length, true) := by
  induction d with
  | zero =>
    intro i x hi hx
    refine Ev.succ ?_
    simp only [spec_DualTable.l0]
    obtain rfl : i = l.length := by omega
    exact Ev.neg (by omega) (Ev.now _)
  | succ d ih =>
    intro i x hi hx
    refine Ev.succ ?_
    simp only [spec_DualTable.l0]
    refine Ev.pos (by omega) (Ev.pos (by omega) (Ev.pos (by omega) (Ev.pos (by rw [part_length]; omega) ?_)))
    obtain rfl : x = ((l.length - 1 - i : Nat) : Int) := by omega
    rw [← part_succ, wrap_id (by omega) (by omega)]
    exact ih (i + 1) _ (by omega) (by omega)
theorem impl_loop (n m : Int) (l : List Int) (hb : l.length ≤ 16) (d : Nat) : ∀ (i : Nat) (z : List Int), i + d = l.length → z.length = l.length → z.take i = part l i →
    Ev (fun k => impl_DualTable.l0 k l.length i n l m z) (m, part l l.length, true) := by
  induction d with
  | zero =>
    intro i z hi hz ht
    refine Ev.succ ?_
    simp only [impl_DualTable.l0]
    obtain rfl : i = l.length := by omega
    rw [List.take_of_length_le (by omega)] at ht
    exact Ev.neg (by omega) (Ev.val (Ev.now _) (by rw [ht]))
  | succ d ih =>
    intro i z hi hz ht
    refine Ev.succ ?_
    simp only [impl_DualTable.l0]
    have e : wrap64 (wrap64 ((l.length : Int) - 1) - (i : Int)) = ((l.length - 1 - i : Nat) : Int) := by
      rw [wrap_id (x := (l.length : Int) - 1) (by omega) (by omega), wrap_id (by omega) (by omega)]; omega
    rw [e]
    refine Ev.pos (by omega) (Ev.pos (by omega) (Ev.pos (by omega) (Ev.pos (by omega) (Ev.pos (by omega) ?_))))
    rw [wrap_nat (by omega)]
    refine ih (i + 1) _ (by omega) (by simpa using hz) ?_
    rw [part_succ, Int.toNat_natCast, List.take_succ_eq_append_getElem (by simp; omega), List.take_set_of_le (Nat.le_refl _), ht]
    simp
theorem both (n : Int) (l : List Int) (hb : l.length ≤ 1048576) : ∃ a L ok, (L : List Int).length ≤ 1048576 ∧ Ev (fun k => spec_DualTable.f k n l) (a, L, ok) ∧ Ev (fun k => impl_DualTable.f k n l) (a, L, ok) := by
  by_cases h : TGood n l
  · have hl := h.len
    refine ⟨n, part l l.length, true, by rw [part_length]; omega, ?_, ?_⟩
    · unfold spec_DualTable.f
      refine Ev.bind (Ev.val (ttGood n l (by omega)) (decide_eq_true h)) (Ev.pos rfl ?_)
      exact spec_loop n n l (by omega) l.length 0 _ (by omega) (by rw [wrap_id (by omega) (by omega)]; omega)
    · unfold impl_DualTable.f
      refine Ev.bind (Ev.val (implIsTable n l (by omega)) (decide_eq_true h)) (Ev.pos rfl ?_)
      refine Ev.pos (by omega) (Ev.pos (by omega) ?_)
      simp only [Option.bind_some, List.length_replicate, Int.toNat_natCast]
      exact impl_loop n n l (by omega) l.length 0 (List.replicate l.length 0) (by omega) (by simp) (by simp [part])
  · refine ⟨0, [], false, by simp, ?_, ?_⟩
    · unfold spec_DualTable.f
      exact Ev.bind (Ev.val (ttGood n l (by omega)) (decide_eq_false h)) (Ev.neg (by simp) (Ev.now _))
    · unfold impl_DualTable.f
      exact Ev.bind (Ev.val (implIsTable n l (by omega)) (decide_eq_false h)) (Ev.neg (by simp) (Ev.now _))
theorem law : ∀ (a0_0 : Int) (l0_1 : List Int), l0_1.length ≤ 9223372036854775807 → ∃ k, laws_FnExactDualTable.f k a0_0 l0_1 = some true := by
  intro n l hl
  apply Ev.rounds
  unfold laws_FnExactDualTable.f
  rw [szTab n l 1048576 hl (by omega) (by omega)]
  simp only [Option.bind_some]
  refine Ev.split (fun _ => Ev.now _) (fun c => ?_)
  have hb : l.length ≤ 1048576 := by split at c <;> omega
  obtain ⟨a, L, ok, hL, hs, hi⟩ := both n l hb
  repeat' first
    | exact Ev.now true
    | dsimp only
    | with_reducible refine Ev.bind hs ?_
    | with_reducible refine Ev.bind hi ?_
    | with_reducible refine Ev.bind (toTab _ _ (by omega)) ?_
    | with_reducible refine Ev.bind (eqTab_self _ _ (by omega)) ?_
    | with_reducible refine Ev.bind (markTab _ _ 1 (by omega) (by omega)) ?_
    | with_reducible refine Ev.bind (heldTab _ _ 1 (by omega) (by omega)) ?_
    | with_reducible refine Ev.bind (toInt _ (by omega)) ?_
    | with_reducible refine Ev.bind (eqInt_self _ (by omega)) ?_
    | with_reducible refine Ev.bind (markI _ 1 (by omega) (by omega)) ?_
    | with_reducible refine Ev.bind (heldI _ 1 (by omega) (by omega)) ?_
    | refine Ev.pos rfl ?_
    | (refine Ev.neg ?_ ?_; focus (first | omega | (simp; done)))
    | (with_reducible refine Ev.succ (g := fun k => laws_FnExactDualTable.j0 k _ _ _ _ _ _ _ _ _ _ _) ?_; simp only [laws_FnExactDualTable.j0])
    | (with_reducible refine Ev.succ (g := fun k => laws_FnExactDualTable.j1 k _ _ _ _ _ _ _ _) ?_; simp only [laws_FnExactDualTable.j1])
    | (with_reducible refine Ev.succ (g := fun k => laws_FnExactDualTable.j2 k _ _ _ _) ?_; simp only [laws_FnExactDualTable.j2])
end Go.Proofs.Ytlccgamaplaacaa.PureFnExactDualTable
