/- The pure statement of the law FnExactCombineTables: its printed function comes to true, whatever the kind and the two tables. -/
import Derived.Test.YtifojdcnhlofkaaTabMark
import Derived.Test.YtifojdcnhlofkaaPx1
import Derived.Test.YtifojdcnhlofkaaPx2
import Derived.Test.YtifojdcnhlofkaaPx3
namespace Go.Proofs.Ytifojdcnhlofkaa.PureFnExactCombineTables
open Go.RowKit Go.Proofs.Ytifojdcnhlofkaa.P Go.Proofs.Ytifojdcnhlofkaa.Base Go.Proofs.Ytifojdcnhlofkaa.Bit Go.Proofs.Ytifojdcnhlofkaa.Tab Go.Proofs.YtifojdcnhlofkaaW.PrintWords Go.Proofs.YtifojdcnhlofkaaW.PrintLast Go.Proofs.YtifojdcnhlofkaaW.PrintMore
set_option linter.unusedVariables false
set_option linter.unusedSimpArgs false
/-- The value of a kind. -/
def comb (k x y : Int) : Int := if k = 1 then Go.bits .and .i64 x y else if k = 2 then Go.bits .or .i64 x y else if k = 3 then Go.bits .xor .i64 x y else Go.bits .or .i64 (wrap64 (1 - x)) y
theorem comb_spec (k x y : Int) (hx : x = 0 ∨ x = 1) (hy : y = 0 ∨ y = 1) : spec_ttCombine.f k x y = some (comb k x y) := by
  unfold spec_ttCombine.f comb spec_l1Most.f
  by_cases c1 : k = 1
  · simp only [if_pos c1]
    rcases hx with rfl | rfl <;> rcases hy with rfl | rfl <;> decide +kernel
  · by_cases c2 : k = 2
    · simp only [if_neg c1, if_pos c2]
      rcases hx with rfl | rfl <;> rcases hy with rfl | rfl <;> decide +kernel
    · by_cases c3 : k = 3
      · simp only [if_neg c1, if_neg c2, if_pos c3]
        rcases hx with rfl | rfl <;> rcases hy with rfl | rfl <;> decide +kernel
      · simp only [if_neg c1, if_neg c2, if_neg c3]
        rcases hx with rfl | rfl <;> rcases hy with rfl | rfl <;> decide +kernel
def combs (k : Int) (l m : List Int) (i d : Nat) : List Int := (List.range' i d).map fun (j : Nat) => comb k (rd l j) (rd m j)
theorem combs_cons (k : Int) (l m : List Int) (i d : Nat) : combs k l m i (d + 1) = comb k (rd l i) (rd m i) :: combs k l m (i + 1) d := rfl
theorem spec_loop (k : Int) (l m : List Int) (n n' : Int) (hl : l.length ≤ 16) (hm : m.length = l.length) (bl : Bits l) (bm : Bits m) (d : Nat) : ∀ (i : Nat) (acc : List Int), i + d = l.length → acc.length = i →
    Ev (fun z => spec_CombineTables.l0 z k l l.length i n m n' acc) (n', acc ++ combs k l m i d, true) := by
  induction d with
  | zero =>
    intro i acc hi ha
    refine Ev.succ ?_
    simp only [spec_CombineTables.l0]
    exact Ev.neg (by omega) (Ev.val (Ev.now _) (by simp [combs]))
  | succ d ih =>
    intro i acc hi ha
    refine Ev.succ ?_
    simp only [spec_CombineTables.l0]
    refine Ev.pos (by omega) (Ev.pos (by omega) (Ev.pos (by omega) (Ev.pos (by omega) ?_)))
    rw [comb_spec _ _ _ (by rw [rd_get (by omega)]; exact bl.get (by omega)) (by rw [rd_get (by omega)]; exact bm.get (by omega)), wrap_nat (by omega)]
    simp only [Option.bind_some]
    refine Ev.pos (by omega) (Ev.val (ih (i + 1) _ (by omega) (by simp [ha])) ?_)
    rw [combs_cons, List.append_assoc]; rfl
theorem impl_loop (k : Int) (l m : List Int) (n n' n2 : Int) (hl : l.length ≤ 16) (hm : m.length = l.length) (d : Nat) : ∀ (i : Nat) (acc : List Int), i + d = l.length → acc.length = i →
    Ev (fun z => impl_CombineTables.l0 z k l.length i n l n' m n2 acc) (n2, acc ++ combs k l m i d, true) := by
  induction d with
  | zero =>
    intro i acc hi ha
    refine Ev.succ ?_
    simp only [impl_CombineTables.l0]
    exact Ev.neg (by omega) (Ev.val (Ev.now _) (by simp [combs]))
  | succ d ih =>
    intro i acc hi ha
    have ih' := fun v => ih (i + 1) (acc ++ [v]) (by omega) (by simp [ha])
    have e : ∀ v, v = comb k (rd l i) (rd m i) → (n2, acc ++ [v] ++ combs k l m (i + 1) d, true) = (n2, acc ++ combs k l m i (d + 1), true) := by
      rintro v rfl
      rw [combs_cons, List.append_assoc]; rfl
    refine Ev.succ ?_
    simp only [impl_CombineTables.l0]
    refine Ev.pos (by omega) (Ev.pos (by omega) (Ev.pos (by omega) (Ev.pos (by omega) ?_)))
    rw [wrap_nat (by omega)]
    refine Ev.split (fun c => Ev.pos (by omega) (Ev.val (ih' _) (e _ (by simp only [comb, if_pos c])))) (fun c => ?_)
    refine Ev.split (fun c2 => Ev.pos (by omega) (Ev.val (ih' _) (e _ (by simp only [comb, if_neg c, if_pos c2])))) (fun c2 => ?_)
    refine Ev.split (fun c3 => Ev.pos (by omega) (Ev.val (ih' _) (e _ (by simp only [comb, if_neg c, if_neg c2, if_pos c3])))) (fun c3 => ?_)
    exact Ev.pos (by omega) (Ev.val (ih' _) (e _ (by simp only [comb, if_neg c, if_neg c2, if_neg c3])))
def Fine (k n n' : Int) (l m : List Int) : Prop := (1 ≤ k ∧ k ≤ 4) ∧ TGood n l ∧ TGood n' m ∧ n = n'
instance (k n n' : Int) (l m : List Int) : Decidable (Fine k n n' l m) := by unfold Fine; infer_instance
def combined (k n : Int) (l : List Int) (n' : Int) (m : List Int) : Int × List Int × Bool := if Fine k n n' l m then (n, combs k l m 0 l.length, true) else (0, [], false)
theorem Fine.len {k n n' : Int} {l m : List Int} (h : Fine k n n' l m) : l.length ≤ 16 ∧ m.length = l.length := by
  obtain ⟨_, h1, h2, rfl⟩ := h
  exact ⟨h1.len.2, by rw [h1.2.2.1, h2.2.2.1]⟩
theorem specC (k n : Int) (l : List Int) (n' : Int) (m : List Int) (hl : l.length ≤ 1048576) (hm : m.length ≤ 1048576) : Ev (fun z => spec_CombineTables.f z k n l n' m) (combined k n l n' m) := by
  unfold spec_CombineTables.f
  have out : ∀ b : Bool, b = true → ¬ Fine k n n' l m → Ev (fun z => spec_CombineTables.j0 z k b n l n' m) (combined k n l n' m) := by
    intro b hb h
    refine Ev.succ ?_
    simp only [spec_CombineTables.j0]
    exact Ev.pos hb (Ev.val (Ev.now _) (by rw [combined, if_neg h]))
  rw [l1In]
  simp only [Option.bind_some]
  refine Ev.split (fun c0 => ?_) (fun c0 => out _ rfl (fun h => c0 (decide_eq_true h.1)))
  refine Ev.bind (ttGood n l (by omega)) (Ev.split (fun c1 => ?_) (fun c1 => out _ rfl (fun h => c1 (decide_eq_true h.2.1))))
  refine Ev.bind (ttGood n' m (by omega)) (Ev.split (fun c2 => ?_) (fun c2 => out _ rfl (fun h => c2 (decide_eq_true h.2.2.1))))
  by_cases e : n = n'
  · have h : Fine k n n' l m := ⟨of_decide_eq_true c0, of_decide_eq_true c1, of_decide_eq_true c2, e⟩
    refine Ev.succ ?_
    simp only [spec_CombineTables.j0]
    refine Ev.neg (by simp [e]) (Ev.val (spec_loop k l m n' n h.len.1 h.len.2 h.2.1.2.2.2 h.2.2.1.2.2.2 l.length 0 [] (by omega) rfl) ?_)
    rw [combined, if_pos h]; rfl
  · exact out _ (by simp [e]) (fun h => e h.2.2.2)
theorem implC (k n : Int) (l : List Int) (n' : Int) (m : List Int) (hl : l.length ≤ 1048576) (hm : m.length ≤ 1048576) : Ev (fun z => impl_CombineTables.f z k n l n' m) (combined k n l n' m) := by
  unfold impl_CombineTables.f
  have out : ∀ b : Bool, b = true → ¬ Fine k n n' l m → Ev (fun z => impl_CombineTables.j0 z k b n l n' m) (combined k n l n' m) := by
    intro b hb h
    refine Ev.succ ?_
    simp only [impl_CombineTables.j0]
    exact Ev.pos hb (Ev.val (Ev.now _) (by rw [combined, if_neg h]))
  refine Ev.bind (implIsTable n l (by omega)) (Ev.split (fun c1 => ?_) (fun c1 => out _ rfl (fun h => c1 (decide_eq_true h.2.1))))
  refine Ev.bind (implIsTable n' m (by omega)) (Ev.split (fun c2 => ?_) (fun c2 => out _ rfl (fun h => c2 (decide_eq_true h.2.2.1))))
  refine Ev.split (fun e => ?_) (fun e => out _ rfl (fun h => e h.2.2.2))
  refine Ev.split (fun c3 => out _ rfl (fun h => by have := h.1.1; omega)) (fun c3 => ?_)
  by_cases c4 : k > 4
  · exact out _ (by simp [c4]) (fun h => by have := h.1.2; omega)
  · have h : Fine k n n' l m := ⟨⟨by omega, by omega⟩, of_decide_eq_true c1, of_decide_eq_true c2, e⟩
    refine Ev.succ ?_
    simp only [impl_CombineTables.j0]
    refine Ev.neg (by simp; omega) (Ev.val (impl_loop k l m n n' n h.len.1 h.len.2 l.length 0 [] (by omega) rfl) ?_)
    rw [combined, if_pos h]; rfl
theorem combined_length (k n : Int) (l : List Int) (n' : Int) (m : List Int) (hl : l.length ≤ 1048576) : (combined k n l n' m).2.1.length ≤ 1048576 := by
  unfold combined
  split
  · simpa [combs] using hl
  · simp
theorem both (k n : Int) (l : List Int) (n' : Int) (m : List Int) (hl : l.length ≤ 1048576) (hm : m.length ≤ 1048576) : ∃ a L ok, (L : List Int).length ≤ 1048576 ∧ Ev (fun z => spec_CombineTables.f z k n l n' m) (a, L, ok) ∧ Ev (fun z => impl_CombineTables.f z k n l n' m) (a, L, ok) :=
  ⟨(combined k n l n' m).1, (combined k n l n' m).2.1, (combined k n l n' m).2.2, combined_length k n l n' m hl, specC k n l n' m hl hm, implC k n l n' m hl hm⟩
theorem law : ∀ (a0 : Int) (a1_0 : Int) (l1_1 : List Int) (a2_0 : Int) (l2_1 : List Int), (Lit.int .i64 a0).wf = true → l1_1.length ≤ 9223372036854775807 → l2_1.length ≤ 9223372036854775807 → ∃ k, laws_FnExactCombineTables.f k a0 a1_0 l1_1 a2_0 l2_1 = some true := by
  intro kd n l n' m _ hl hm
  apply Ev.rounds
  unfold laws_FnExactCombineTables.f
  rw [szTab n l 1048576 hl (by omega) (by omega)]
  simp only [Option.bind_some]
  refine Ev.split (fun _ => Ev.now _) (fun c => ?_)
  have hb : l.length ≤ 1048576 := by split at c <;> omega
  rw [if_neg (by omega), szTab n' m _ hm (by omega) (by omega)]
  simp only [Option.bind_some]
  refine Ev.split (fun _ => Ev.now _) (fun c => ?_)
  have hbm : m.length ≤ 1048576 := by split at c <;> omega
  obtain ⟨a, L, ok, hL, hs, hi⟩ := both kd n l n' m hb hbm
  repeat' first
    | exact Ev.now true
    | dsimp only
    | with_reducible refine Ev.bind hs ?_
    | with_reducible refine Ev.bind hi ?_
    | with_reducible refine Ev.bind (toTab _ _ (by omega)) ?_
    | with_reducible refine Ev.bind (eqTab_self _ _ (by omega)) ?_
    | with_reducible refine Ev.bind (markTab _ _ _ (by omega) (by omega)) ?_
    | with_reducible refine Ev.bind (heldTab _ _ _ (by omega) (by omega)) ?_
    | refine Ev.pos rfl ?_
    | (refine Ev.neg ?_ ?_; focus (first | omega | (simp; done)))
    | (with_reducible refine Ev.succ (g := fun k => laws_FnExactCombineTables.j0 k _ _ _ _ _ _ _ _ _ _ _ _ _ _ _ _) ?_; simp only [laws_FnExactCombineTables.j0])
    | (with_reducible refine Ev.succ (g := fun k => laws_FnExactCombineTables.j1 k _ _ _ _ _ _ _ _ _ _ _) ?_; simp only [laws_FnExactCombineTables.j1])
    | (with_reducible refine Ev.succ (g := fun k => laws_FnExactCombineTables.j2 k _ _ _ _) ?_; simp only [laws_FnExactCombineTables.j2])
end Go.Proofs.Ytifojdcnhlofkaa.PureFnExactCombineTables
