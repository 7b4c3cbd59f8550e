/- IsMonotone: the program's and the reference's function come to the same, and to what. No condition beyond the length named. -/
import Derived.Test.YtgekdgggpfiamaaTab
import Derived.Test.YtgekdgggpfiamaaPx5
namespace Go.Proofs.Ytgekdgggpfiamaa.Mono
open Go.RowKit Go.Proofs.Ytgekdgggpfiamaa.P Go.Proofs.Ytgekdgggpfiamaa.Base Go.Proofs.Ytgekdgggpfiamaa.Bit Go.Proofs.Ytgekdgggpfiamaa.Tab Go.Proofs.YtgekdgggpfiamaaW.PrintWords Go.Proofs.YtgekdgggpfiamaaW.PrintLast Go.Proofs.YtgekdgggpfiamaaW.PrintMore
set_option linter.unusedVariables false
set_option linter.unusedSimpArgs false
/-- Nothing falls at index x if input i is set. -/
def okS (l : List Int) (x i : Nat) : Bool := !(decide (rd l x = 1) && decide (rd l ((x ||| 2 ^ i : Nat) : Int) = 0))
def okI (l : List Int) (x i : Nat) : Bool := !(decide (bit x i = 0) && decide (rd l x > rd l ((x ||| 2 ^ i : Nat) : Int)))
theorem spec_inner (n : Nat) (l m : List Int) (hn : n ≤ 4) (hl : m.length = 2 ^ n) (x : Nat) (hx : x < 2 ^ n) (R : Bool) (a : List Int) (b c : Int) (h : Ev (fun k => spec_IsMonotone.l0 k a b (wrap64 (c + 1)) n m) (R, true)) (d : Nat) :
    ∀ (i : Nat), i + d = n → (∀ y, rd l y = rd m y) → Ev (fun k => spec_IsMonotone.l1 k x (rd l x) i a b c n m) (allB (okS m x) i d && R, true) := by
  induction d with
  | zero =>
    intro i hi he
    refine Ev.succ ?_
    simp only [spec_IsMonotone.l1]
    refine Ev.neg (by omega) (Ev.val h ?_)
    simp [allB]
  | succ d ih =>
    intro i hi he
    refine Ev.succ ?_
    simp only [spec_IsMonotone.l1]
    have hp : (2 : Nat) ^ i < 2 ^ n := Nat.pow_lt_pow_right (by decide) (by omega)
    have hp' : (2 : Nat) ^ n ≤ 2 ^ 4 := Nat.pow_le_pow_right (by decide) hn
    have ho : x ||| 2 ^ i < 2 ^ n := Nat.or_lt_two_pow hx hp
    have e : Go.bits .or .i64 (x : Int) (shl .i64 1 (IntKind.u64.wrap (i : Int))) = ((x ||| 2 ^ i : Nat) : Int) := by
      rw [wrapU (by omega) (by omega), shl_one_nat i (by omega), or_nat _ _ (by omega) (by omega)]
    refine Ev.pos (by omega) ?_
    simp only [e]
    rw [wrapU (by omega) (by omega), wrap_nat (by omega)]
    refine Ev.split (fun c1 => ?_) (fun c1 => ?_)
    · refine Ev.pos (by omega) (Ev.pos (by omega) (Ev.pos (by omega) ?_))
      refine Ev.split (fun c2 => ?_) (fun c2 => ?_)
      · refine Ev.val (Ev.now _) ?_
        have : okS m x i = false := by rw [he] at c1; unfold okS; rw [c1, c2]; rfl
        simp [allB, this]
      · refine Ev.val (ih (i + 1) (by omega) he) ?_
        have : okS m x i = true := by unfold okS; simp [c2]
        simp [allB, this]
    · refine Ev.val (ih (i + 1) (by omega) he) ?_
      have : okS m x i = true := by rw [he] at c1; unfold okS; simp [c1]
      simp [allB, this]
theorem spec_outer (n : Nat) (m : List Int) (hn : n ≤ 4) (hl : m.length = 2 ^ n) (d : Nat) : ∀ (x : Nat), x + d = m.length →
    Ev (fun k => spec_IsMonotone.l0 k m m.length x n m) (allB (fun y => allB (okS m y) 0 n) x d, true) := by
  have hp' : (2 : Nat) ^ n ≤ 2 ^ 4 := Nat.pow_le_pow_right (by decide) hn
  induction d with
  | zero =>
    intro x hx
    refine Ev.succ ?_
    simp only [spec_IsMonotone.l0]
    exact Ev.neg (by omega) (Ev.now _)
  | succ d ih =>
    intro x hx
    refine Ev.succ ?_
    simp only [spec_IsMonotone.l0]
    refine Ev.pos (by omega) (Ev.pos (by omega) (Ev.pos (by omega) ?_))
    refine Ev.val (spec_inner n m m hn hl x (by omega) _ m m.length x (by rw [wrap_nat (by omega)]; exact ih (x + 1) (by omega)) n 0 (by omega) (fun _ => rfl)) ?_
    simp [allB]
theorem impl_inner (n : Nat) (m : List Int) (hn : n ≤ 4) (hl : m.length = 2 ^ n) (i : Nat) (hi : i < n) (R : Bool) (h : Ev (fun k => impl_IsMonotone.l0 k (wrap64 ((i : Int) + 1)) n m) (R, true)) (d : Nat) :
    ∀ (x : Nat), x + d = m.length → Ev (fun k => impl_IsMonotone.l1 k i m m.length x n m) (allB (fun x => okI m x i) x d && R, true) := by
  have hp' : (2 : Nat) ^ n ≤ 2 ^ 4 := Nat.pow_le_pow_right (by decide) hn
  induction d with
  | zero =>
    intro x hx
    refine Ev.succ ?_
    simp only [impl_IsMonotone.l1]
    refine Ev.neg (by omega) (Ev.val h ?_)
    simp [allB]
  | succ d ih =>
    intro x hx
    refine Ev.succ ?_
    simp only [impl_IsMonotone.l1]
    have hp : (2 : Nat) ^ i < 2 ^ n := Nat.pow_lt_pow_right (by decide) (by omega)
    have ho : x ||| 2 ^ i < 2 ^ n := Nat.or_lt_two_pow (by omega) hp
    have e : Go.bits .or .i64 (x : Int) (shl .i64 1 (i : Int)) = ((x ||| 2 ^ i : Nat) : Int) := by
      rw [shl_one_nat i (by omega), or_nat _ _ (by omega) (by omega)]
    refine Ev.pos (by omega) (Ev.pos (by omega) (Ev.pos (by omega) (Ev.pos (by omega) ?_)))
    simp only [e]
    rw [wrap_nat (by omega), bit_printed x i (by omega) (by omega)]
    refine Ev.split (fun c1 => ?_) (fun c1 => ?_)
    · refine Ev.pos (by omega) (Ev.pos (by omega) ?_)
      have c1' : bit x i = 0 := by omega
      refine Ev.split (fun c2 => ?_) (fun c2 => ?_)
      · refine Ev.val (Ev.now _) ?_
        have : okI m x i = false := by unfold okI; rw [decide_eq_true c1', decide_eq_true c2]; rfl
        simp [allB, this]
      · refine Ev.val (ih (x + 1) (by omega)) ?_
        have : okI m x i = true := by unfold okI; rw [decide_eq_false c2]; simp
        simp [allB, this]
    · refine Ev.val (ih (x + 1) (by omega)) ?_
      have c1' : ¬ bit x i = 0 := by omega
      have : okI m x i = true := by unfold okI; rw [decide_eq_false c1']; rfl
      simp [allB, this]
theorem impl_outer (n : Nat) (m : List Int) (hn : n ≤ 4) (hl : m.length = 2 ^ n) (d : Nat) : ∀ (i : Nat), i + d = n →
    Ev (fun k => impl_IsMonotone.l0 k i n m) (allB (fun i => allB (fun x => okI m x i) 0 m.length) i d, true) := by
  induction d with
  | zero =>
    intro i hi
    refine Ev.succ ?_
    simp only [impl_IsMonotone.l0]
    exact Ev.neg (by omega) (Ev.now _)
  | succ d ih =>
    intro i hi
    refine Ev.succ ?_
    simp only [impl_IsMonotone.l0]
    refine Ev.pos (by omega) ?_
    refine Ev.val (impl_inner n m hn hl i (by omega) _ (by rw [wrap_nat (by omega)]; exact ih (i + 1) (by omega)) m.length 0 (by omega)) ?_
    simp [allB]
theorem or_self_of_bit {x i : Nat} (h : bit x i ≠ 0) : x ||| 2 ^ i = x := by
  apply Nat.eq_of_testBit_eq
  intro j
  rw [Nat.testBit_or, Nat.testBit_two_pow]
  by_cases e : i = j
  · subst e
    rw [bit_test] at h
    cases hb : x.testBit i with
    | true => simp
    | false => simp [hb] at h
  · simp [e]
theorem same (n : Nat) (m : List Int) (hb : Bits m) (hl : m.length = 2 ^ n) : allB (fun y => allB (okS m y) 0 n) 0 m.length = allB (fun i => allB (fun x => okI m x i) 0 m.length) 0 n := by
  rw [Bool.eq_iff_iff, allB_iff, allB_iff]
  simp only [allB_iff]
  have key : ∀ x i, x < m.length → i < n → (okS m x i = true ↔ okI m x i = true) := by
    intro x i hx hi
    have hp : (2 : Nat) ^ i < 2 ^ n := Nat.pow_lt_pow_right (by decide) (by omega)
    have ho : x ||| 2 ^ i < 2 ^ n := Nat.or_lt_two_pow (by omega) hp
    have b1 := hb.get hx
    have b2 := hb.get (i := x ||| 2 ^ i) (by omega)
    unfold okS okI
    by_cases h : bit x i = 0
    · rw [rd_get hx, rd_get (i := x ||| 2 ^ i) (by omega)]
      simp only [h, decide_true, Bool.true_and]
      rcases b1 with b1 | b1 <;> rcases b2 with b2 | b2 <;> simp [b1, b2]
    · rw [or_self_of_bit h]
      simp only [h, decide_false, Bool.false_and, Bool.not_false, iff_true]
      rw [rd_get hx]
      rcases b1 with b1 | b1 <;> simp [b1]
  exact ⟨fun h i _ h2 x _ h4 => (key x i (by omega) (by omega)).1 (h x (by omega) (by omega) i (by omega) (by omega)), fun h x _ h2 i _ h4 => (key x i (by omega) (by omega)).2 (h i (by omega) (by omega) x (by omega) (by omega))⟩
theorem both (n : Int) (l : List Int) (hb : l.length ≤ 1048576) : ∃ a ok, Ev (fun k => spec_IsMonotone.f k n l) (a, ok) ∧ Ev (fun k => impl_IsMonotone.f k n l) (a, ok) := by
  by_cases h : TGood n l
  · obtain ⟨h0, h1, h2, h3⟩ := id h
    obtain ⟨z, rfl⟩ := Int.eq_ofNat_of_zero_le h0
    rw [Int.toNat_natCast] at h2
    refine ⟨allB (fun y => allB (okS l y) 0 z) 0 l.length, true, ?_, ?_⟩
    · unfold spec_IsMonotone.f
      refine Ev.bind (Ev.val (ttGood z l (by omega)) (decide_eq_true h)) (Ev.pos rfl ?_)
      exact spec_outer z l (by omega) h2 l.length 0 (by omega)
    · unfold impl_IsMonotone.f
      refine Ev.bind (Ev.val (implIsTable z l (by omega)) (decide_eq_true h)) (Ev.pos rfl ?_)
      rw [same z l h3 h2]
      exact impl_outer z l (by omega) h2 z 0 (by omega)
  · refine ⟨false, false, ?_, ?_⟩
    · unfold spec_IsMonotone.f
      exact Ev.bind (Ev.val (ttGood n l (by omega)) (decide_eq_false h)) (Ev.neg (by simp) (Ev.now _))
    · unfold impl_IsMonotone.f
      exact Ev.bind (Ev.val (implIsTable n l (by omega)) (decide_eq_false h)) (Ev.neg (by simp) (Ev.now _))
theorem value (z : Nat) (l : List Int) (h : TGood z l) : Ev (fun k => spec_IsMonotone.f k z l) (allB (fun y => allB (okS l y) 0 z) 0 l.length, true) ∧ Ev (fun k => impl_IsMonotone.f k z l) (allB (fun y => allB (okS l y) 0 z) 0 l.length, true) := by
  obtain ⟨h0, h1, h2, h3⟩ := id h
  have hl := h.len
  rw [Int.toNat_natCast] at h2
  refine ⟨?_, ?_⟩
  · unfold spec_IsMonotone.f
    refine Ev.bind (Ev.val (ttGood z l (by omega)) (decide_eq_true h)) (Ev.pos rfl ?_)
    exact spec_outer z l (by omega) h2 l.length 0 (by omega)
  · unfold impl_IsMonotone.f
    refine Ev.bind (Ev.val (implIsTable z l (by omega)) (decide_eq_true h)) (Ev.pos rfl ?_)
    rw [same z l h3 h2]
    exact impl_outer z l (by omega) h2 z 0 (by omega)
end Go.Proofs.Ytgekdgggpfiamaa.Mono
