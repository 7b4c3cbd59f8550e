/- The inputs on which a table depends: the program's and the reference's function come to the same list. No condition beyond the length named. -/
import Derived.Test.YtgekdgggpfiamaaTab
import Derived.Test.YtgekdgggpfiamaaPut
import Derived.Test.YtgekdgggpfiamaaPx4
namespace Go.Proofs.Ytgekdgggpfiamaa.Depends
open Go.RowKit Go.Proofs.Ytgekdgggpfiamaa.P Go.Proofs.Ytgekdgggpfiamaa.Base Go.Proofs.Ytgekdgggpfiamaa.Bit Go.Proofs.Ytgekdgggpfiamaa.Tab Go.Proofs.Ytgekdgggpfiamaa.Put Go.Proofs.YtgekdgggpfiamaaW.PrintWords Go.Proofs.YtgekdgggpfiamaaW.PrintLast Go.Proofs.YtgekdgggpfiamaaW.PrintMore
set_option linter.unusedVariables false
set_option linter.unusedSimpArgs false
/-- The values at x and at x with input i changed are the same. -/
def eqv (l : List Int) (x i : Nat) : Bool := decide (rd l x = rd l ((x ^^^ 2 ^ i : Nat) : Int))
theorem xor_lt {x i n : Nat} (hx : x < 2 ^ n) (hi : i < n) : x ^^^ 2 ^ i < 2 ^ n := Nat.xor_lt_two_pow hx (Nat.pow_lt_pow_right (by decide) hi)
theorem those_empty (a m : Nat) : those (fun _ => false) a m = [] := by simp [those]
theorem those_length (p : Nat → Bool) (a m : Nat) : (those p a m).length ≤ m := by
  have := List.length_filter_le p (List.range' a m)
  simp only [those, List.length_map]
  simpa using this
theorem those_congr {p q : Nat → Bool} {a m : Nat} (h : ∀ j, a ≤ j → j < a + m → p j = q j) : those p a m = those q a m := by
  simp only [those]
  congr 1
  apply List.filter_congr
  intro j hj
  have := List.mem_range'_1.1 hj
  exact h j (by omega) (by omega)
theorem those_snoc (p : Nat → Bool) (m : Nat) : those p 0 (m + 1) = if p m then those p 0 m ++ [(m : Int)] else those p 0 m := by
  simp only [those, List.range'_concat]
  simp only [Nat.zero_add, Nat.one_mul, List.filter_append, List.map_append]
  cases h : p m <;> simp [h]
/-- Behind index x and input i: which inputs have been seen to matter. -/
def seen (l : List Int) (x i : Nat) (j : Nat) : Bool := !(allB (fun y => eqv l y j) 0 x) || (decide (j < i) && !(eqv l x j))
theorem spec_inner (n : Nat) (m : List Int) (hn : n ≤ 4) (hl : m.length = 2 ^ n) (x : Nat) (hx : x < 2 ^ n) (R : List Int) (a : List Int) (b c : Int)
    (h : Ev (fun k => spec_DependsOn.l0 k (those (seen m x n) 0 n) a b (wrap64 (c + 1)) n m) (R, true)) (d : Nat) :
    ∀ (i : Nat), i + d = n → Ev (fun k => spec_DependsOn.l1 k (those (seen m x i) 0 n) x (rd m x) i a b c n m) (R, true) := by
  induction d with
  | zero =>
    intro i hi
    refine Ev.succ ?_
    simp only [spec_DependsOn.l1]
    obtain rfl : i = n := by omega
    exact Ev.neg (by omega) h
  | succ d ih =>
    intro i hi
    refine Ev.succ ?_
    simp only [spec_DependsOn.l1]
    have hp : (2 : Nat) ^ i < 2 ^ n := Nat.pow_lt_pow_right (by decide) (by omega)
    have hp' : (2 : Nat) ^ n ≤ 2 ^ 4 := Nat.pow_le_pow_right (by decide) hn
    have ho : x ^^^ 2 ^ i < 2 ^ n := xor_lt hx (by omega)
    have e : Go.bits .xor .i64 (x : Int) (shl .i64 1 (IntKind.u64.wrap (i : Int))) = ((x ^^^ 2 ^ i : Nat) : Int) := by
      rw [wrapU (by omega) (by omega), shl_one_nat i (by omega), xor_nat _ _ (by omega) (by omega)]
    refine Ev.pos (by omega) ?_
    simp only [e]
    rw [wrapU (by omega) (by omega), wrap_nat (by omega)]
    refine Ev.pos (by omega) (Ev.pos (by omega) (Ev.pos (by omega) ?_))
    refine Ev.split (fun c1 => ?_) (fun c1 => ?_)
    · have : those (seen m x i) 0 n = those (seen m x (i + 1)) 0 n := by
        apply those_congr
        intro j _ _
        unfold seen
        by_cases hj : j = i
        · subst hj
          have : eqv m x j = true := decide_eq_true c1
          simp [this]
        · have : decide (j < i) = decide (j < i + 1) := by simp; omega
          rw [this]
      rw [this]
      exact ih (i + 1) (by omega)
    · refine Ev.bind (put_ev _ _ (by have := those_length (seen m x i) 0 n; omega)) ?_
      rw [put_those (seen m x i) i n 0 (by omega) (by omega)]
      have : those (fun j => seen m x i j || j == i) 0 n = those (seen m x (i + 1)) 0 n := by
        apply those_congr
        intro j _ _
        unfold seen
        by_cases hj : j = i
        · subst hj
          have : eqv m x j = false := decide_eq_false c1
          simp [this]
        · have h1 : decide (j < i) = decide (j < i + 1) := by simp; omega
          have h2 : (j == i) = false := by simpa using hj
          rw [h1, h2, Bool.or_false]
      rw [this]
      exact ih (i + 1) (by omega)
theorem seen_next (l : List Int) (n x : Nat) : those (seen l x n) 0 n = those (seen l (x + 1) 0) 0 n := by
  apply those_congr
  intro j _ hj
  unfold seen
  have h1 : decide (j < n) = true := decide_eq_true (by omega)
  have h2 : allB (fun y => eqv l y j) 0 (x + 1) = (allB (fun y => eqv l y j) 0 x && eqv l x j) := by
    rw [Bool.eq_iff_iff, Bool.and_eq_true, allB_iff, allB_iff]
    refine ⟨fun h => ⟨fun y h1 h2 => h y h1 (by omega), h x (by omega) (by omega)⟩, fun ⟨h, h'⟩ y h1 h2 => ?_⟩
    by_cases e : y = x
    · rw [e]; exact h'
    · exact h y h1 (by omega)
  rw [h1, h2]
  simp
theorem spec_outer (n : Nat) (m : List Int) (hn : n ≤ 4) (hl : m.length = 2 ^ n) (d : Nat) : ∀ (x : Nat), x + d = m.length →
    Ev (fun k => spec_DependsOn.l0 k (those (seen m x 0) 0 n) m m.length x n m) (those (seen m m.length 0) 0 n, true) := by
  have hp' : (2 : Nat) ^ n ≤ 2 ^ 4 := Nat.pow_le_pow_right (by decide) hn
  induction d with
  | zero =>
    intro x hx
    refine Ev.succ ?_
    simp only [spec_DependsOn.l0]
    obtain rfl : x = m.length := by omega
    exact Ev.neg (by omega) (Ev.now _)
  | succ d ih =>
    intro x hx
    refine Ev.succ ?_
    simp only [spec_DependsOn.l0]
    refine Ev.pos (by omega) (Ev.pos (by omega) (Ev.pos (by omega) ?_))
    refine spec_inner n m hn hl x (by omega) _ m m.length x ?_ n 0 (by omega)
    rw [wrap_nat (by omega), seen_next]
    exact ih (x + 1) (by omega)
theorem impl_inner (n : Nat) (m : List Int) (hn : n ≤ 4) (hl : m.length = 2 ^ n) (i : Nat) (hi : i < n) (R : List Int × Bool) (acc : List Int) (ha : acc.length ≤ i) (q : Bool)
    (h : Ev (fun k => impl_DependsOn.l0 k (if q then acc ++ [(i : Int)] else acc) (wrap64 ((i : Int) + 1)) n m) R) (d : Nat) :
    ∀ (x : Nat), x + d = m.length → q = !(allB (fun y => eqv m y i) x d) → Ev (fun k => impl_DependsOn.l1 k acc i m m.length x n m) R := by
  have hp' : (2 : Nat) ^ n ≤ 2 ^ 4 := Nat.pow_le_pow_right (by decide) hn
  induction d with
  | zero =>
    intro x hx hq
    refine Ev.succ ?_
    simp only [impl_DependsOn.l1]
    refine Ev.neg (by omega) ?_
    simp [allB] at hq
    simpa [hq] using h
  | succ d ih =>
    intro x hx hq
    refine Ev.succ ?_
    simp only [impl_DependsOn.l1]
    have hp : (2 : Nat) ^ i < 2 ^ n := Nat.pow_lt_pow_right (by decide) (by omega)
    have ho : x ^^^ 2 ^ i < 2 ^ n := xor_lt (by omega) hi
    have e : Go.bits .xor .i64 (x : Int) (shl .i64 1 (i : Int)) = ((x ^^^ 2 ^ i : Nat) : Int) := by
      rw [shl_one_nat i (by omega), xor_nat _ _ (by omega) (by omega)]
    simp only [e]
    refine Ev.pos (by omega) (Ev.pos (by omega) (Ev.pos (by omega) (Ev.pos (by omega) (Ev.pos (by omega) (Ev.pos (by omega) ?_)))))
    refine Ev.split (fun c1 => ?_) (fun c1 => ?_)
    · rw [wrap_nat (i := x) (by omega)]
      refine ih (x + 1) (by omega) ?_
      have : eqv m x i = true := decide_eq_true c1
      simpa [allB, this] using hq
    · have : eqv m x i = false := decide_eq_false c1
      have hq' : q = true := by simpa [allB, this] using hq
      refine Ev.pos (by omega) ?_
      simpa [hq'] using h
theorem impl_outer (n : Nat) (m : List Int) (hn : n ≤ 4) (hl : m.length = 2 ^ n) (d : Nat) : ∀ (i : Nat), i + d = n →
    Ev (fun k => impl_DependsOn.l0 k (those (fun j => !(allB (fun y => eqv m y j) 0 m.length)) 0 i) i n m) (those (fun j => !(allB (fun y => eqv m y j) 0 m.length)) 0 n, true) := by
  induction d with
  | zero =>
    intro i hi
    refine Ev.succ ?_
    simp only [impl_DependsOn.l0]
    obtain rfl : i = n := by omega
    exact Ev.neg (by omega) (Ev.now _)
  | succ d ih =>
    intro i hi
    refine Ev.succ ?_
    simp only [impl_DependsOn.l0]
    refine Ev.pos (by omega) ?_
    refine impl_inner n m hn hl i (by omega) _ _ (those_length _ _ _) (!(allB (fun y => eqv m y i) 0 m.length)) ?_ m.length 0 (by omega) rfl
    rw [wrap_nat (by omega)]
    have := ih (i + 1) (by omega)
    rw [those_snoc] at this
    exact this
theorem both (n : Int) (l : List Int) (hb : l.length ≤ 1048576) : ∃ L ok, (L : List Int).length ≤ 1048576 ∧ Ev (fun k => spec_DependsOn.f k n l) (L, ok) ∧ Ev (fun k => impl_DependsOn.f k n l) (L, ok) := by
  by_cases h : TGood n l
  · obtain ⟨h0, h1, h2, h3⟩ := id h
    obtain ⟨z, rfl⟩ := Int.eq_ofNat_of_zero_le h0
    rw [Int.toNat_natCast] at h2
    refine ⟨those (fun j => !(allB (fun y => eqv l y j) 0 l.length)) 0 z, true, by have := those_length (fun j => !(allB (fun y => eqv l y j) 0 l.length)) 0 z; omega, ?_, ?_⟩
    · unfold spec_DependsOn.f
      refine Ev.bind (Ev.val (ttGood z l (by omega)) (decide_eq_true h)) (Ev.pos rfl ?_)
      have e1 : those (seen l 0 0) 0 z = [] := by
        rw [← those_empty 0 z]
        apply those_congr
        intro j _ _
        simp [seen, allB]
      have e2 : those (seen l l.length 0) 0 z = those (fun j => !(allB (fun y => eqv l y j) 0 l.length)) 0 z := by
        apply those_congr
        intro j _ _
        simp [seen]
      have := spec_outer z l (by omega) h2 l.length 0 (by omega)
      rw [e1, e2] at this
      exact this
    · unfold impl_DependsOn.f
      refine Ev.bind (Ev.val (implIsTable z l (by omega)) (decide_eq_true h)) (Ev.pos rfl ?_)
      exact impl_outer z l (by omega) h2 z 0 (by omega)
  · refine ⟨[], false, by simp, ?_, ?_⟩
    · unfold spec_DependsOn.f
      exact Ev.bind (Ev.val (ttGood n l (by omega)) (decide_eq_false h)) (Ev.neg (by simp) (Ev.now _))
    · unfold impl_DependsOn.f
      exact Ev.bind (Ev.val (implIsTable n l (by omega)) (decide_eq_false h)) (Ev.neg (by simp) (Ev.now _))
end Go.Proofs.Ytgekdgggpfiamaa.Depends
