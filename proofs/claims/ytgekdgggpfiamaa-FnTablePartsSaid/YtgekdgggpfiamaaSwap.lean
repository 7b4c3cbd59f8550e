/- A table with two inputs exchanged: the program's way (a new order) and the reference's (bits moved) come to the same. Condition: a valid table, two of its inputs. -/
import Derived.Test.YtgekdgggpfiamaaReord
import Derived.Test.YtgekdgggpfiamaaPx1
import Derived.Test.YtgekdgggpfiamaaPx3
namespace Go.Proofs.Ytgekdgggpfiamaa.Swap
open Go.RowKit Go.Proofs.Ytgekdgggpfiamaa.P Go.Proofs.Ytgekdgggpfiamaa.Base Go.Proofs.Ytgekdgggpfiamaa.Bit Go.Proofs.Ytgekdgggpfiamaa.Tab Go.Proofs.Ytgekdgggpfiamaa.Reord Go.Proofs.YtgekdgggpfiamaaW.PrintWords Go.Proofs.YtgekdgggpfiamaaW.PrintLast Go.Proofs.YtgekdgggpfiamaaW.PrintMore
set_option linter.unusedVariables false
set_option linter.unusedSimpArgs false
def upto (n : Nat) : List Int := (List.range n).map fun (j : Nat) => (j : Int)
def order (n i k : Nat) : List Int := ((upto n).set i k).set k i
theorem upto_length (n : Nat) : (upto n).length = n := by simp [upto]
theorem order_length (n i k : Nat) : (order n i k).length = n := by simp [order, upto]
theorem order_inputs {n i k : Nat} (hi : i < n) (hk : k < n) : Inputs n (order n i k) := by
  intro x hx
  unfold order at hx
  rcases List.mem_or_eq_of_mem_set hx with hx | rfl
  · rcases List.mem_or_eq_of_mem_set hx with hx | rfl
    · simp only [upto, List.mem_map, List.mem_range] at hx
      obtain ⟨j, hj, rfl⟩ := hx
      omega
    · omega
  · omega
theorem swapped_loop (n : Nat) (hn : n ≤ 4) (l : List Int) (hl : l.length = 2 ^ n) (i k : Nat) (hi : i < n) (hk : k < n) (d : Nat) : ∀ (j : Nat), j + d = n → Ev (fun z => impl_swapped.l0 z i k (upto j) j n l) ((n : Int), reVals l (order n i k) l.length) := by
  induction d with
  | zero =>
    intro j hj
    refine Ev.succ ?_
    simp only [impl_swapped.l0, upto_length, Int.toNat_natCast]
    obtain rfl : j = n := by omega
    refine Ev.neg (by omega) (Ev.pos (by omega) (Ev.pos (by omega) (Ev.pos (by omega) (Ev.pos (by omega) ?_))))
    exact Ev.bind (implReord j hn l hl (order j i k) (order_inputs hi hk) (by rw [order_length]; omega)) (Ev.now _)
  | succ d ih =>
    intro j hj
    refine Ev.succ ?_
    simp only [impl_swapped.l0, upto_length]
    refine Ev.pos (by omega) (Ev.pos (by omega) ?_)
    rw [wrap_nat (by omega), show upto j ++ [(j : Int)] = upto (j + 1) by simp [upto, List.range_succ]]
    exact ih (j + 1) (by omega)
theorem implSwapped (n : Nat) (hn : n ≤ 4) (l : List Int) (hl : l.length = 2 ^ n) (i k : Nat) (hi : i < n) (hk : k < n) : Ev (fun z => impl_swapped.f z n l i k) ((n : Int), reVals l (order n i k) l.length) := by
  unfold impl_swapped.f
  exact swapped_loop n hn l hl i k hi hk n 0 (by omega)
/-- The old index, by the reference's sum. -/
def swapN (x i k : Nat) : Int := (x : Int) - (bit x i * 2 ^ i : Nat) - (bit x k * 2 ^ k : Nat) + (bit x k * 2 ^ i : Nat) + (bit x i * 2 ^ k : Nat)
def chkAll : Bool := (List.range 5).all fun n => (List.range n).all fun i => (List.range n).all fun k => (List.range (2 ^ n)).all fun x =>
  (i == k || swapN x i k == ((reOr (order n i k) 0 x 0 : Nat) : Int)) && (i != k || reOr (order n i k) 0 x 0 == x)
theorem chkAll_true : chkAll = true := by decide +kernel
theorem swap_all (n : Nat) (hn : n < 5) (i : Nat) (hi : i < n) (k : Nat) (hk : k < n) (x : Nat) (hx : x < 2 ^ n) : (i ≠ k → swapN x i k = ((reOr (order n i k) 0 x 0 : Nat) : Int)) ∧ (i = k → reOr (order n i k) 0 x 0 = x) := by
  have h := chkAll_true
  unfold chkAll at h
  have h1 := List.all_eq_true.1 h n (List.mem_range.2 hn)
  have h2 := List.all_eq_true.1 h1 i (List.mem_range.2 hi)
  have h3 := List.all_eq_true.1 h2 k (List.mem_range.2 hk)
  have h4 := List.all_eq_true.1 h3 x (List.mem_range.2 hx)
  simp only [Bool.and_eq_true, Bool.or_eq_true, beq_iff_eq, bne_iff_ne, ne_eq] at h4
  exact ⟨fun hne => h4.1.resolve_left hne, fun he => h4.2.resolve_left (fun hh => hh he)⟩
theorem ttBit_ev (x i : Nat) (hx : x < 2 ^ 61) (hi : i ≤ 64) : spec_ttBit.f x i = some ((bit x i : Nat) : Int) := by
  unfold spec_ttBit.f
  rw [wrapU (by omega) (by omega), if_pos (by omega), bit_printed x i (by omega) hi]
theorem ttSwap (x i k : Nat) (hx : x < 16) (hi : i < 4) (hk : k < 4) : spec_ttSwap.f x i k = some (swapN x i k) := by
  unfold spec_ttSwap.f
  rw [ttBit_ev x i (by omega) (by omega), ttBit_ev x k (by omega) (by omega)]
  simp only [Option.bind_some]
  have b1 : bit x i * 2 ^ i < 2 ^ 4 := mul_bit_lt hi
  have b2 : bit x k * 2 ^ k < 2 ^ 4 := mul_bit_lt hk
  have b3 : bit x k * 2 ^ i < 2 ^ 4 := mul_bit_lt hi
  have b4 : bit x i * 2 ^ k < 2 ^ 4 := mul_bit_lt hk
  rw [wrapU (n := (i : Int)) (by omega) (by omega), wrapU (n := (k : Int)) (by omega) (by omega), if_pos (by omega), if_pos (by omega)]
  rw [shl_nat _ _ (by omega) (by omega), shl_nat _ _ (by omega) (by omega), shl_nat _ _ (by omega) (by omega), shl_nat _ _ (by omega) (by omega)]
  unfold swapN
  generalize bit x i * 2 ^ i = e1 at *
  generalize bit x k * 2 ^ k = e2 at *
  generalize bit x k * 2 ^ i = e3 at *
  generalize bit x i * 2 ^ k = e4 at *
  rw [wrap_id (x := (x : Int) - (e1 : Int)) (by omega) (by omega), wrap_id (x := (x : Int) - (e1 : Int) - (e2 : Int)) (by omega) (by omega), wrap_id (x := (x : Int) - (e1 : Int) - (e2 : Int) + (e3 : Int)) (by omega) (by omega), wrap_id (by omega) (by omega)]
theorem ttSwapped_loop (n : Nat) (hn : n ≤ 4) (l : List Int) (hl : l.length = 2 ^ n) (i k : Nat) (hi : i < n) (hk : k < n) (hne : i ≠ k) (m : Int) (d : Nat) : ∀ (x : Nat), x + d = l.length →
    Ev (fun z => spec_ttSwapped.l0 z i k l.length x n l m (reVals l (order n i k) x)) (m, reVals l (order n i k) l.length) := by
  have hp : (2 : Nat) ^ n ≤ 2 ^ 4 := Nat.pow_le_pow_right (by decide) hn
  induction d with
  | zero =>
    intro x hx
    refine Ev.succ ?_
    simp only [spec_ttSwapped.l0]
    obtain rfl : x = l.length := by omega
    exact Ev.neg (by omega) (Ev.now _)
  | succ d ih =>
    intro x hx
    refine Ev.succ ?_
    simp only [spec_ttSwapped.l0]
    have hlt := reOr_lt n (order n i k) 0 x 0 (order_inputs hi hk) (Nat.two_pow_pos n)
    rw [ttSwap x i k (by omega) (by omega) (by omega), (swap_all n (by omega) i hi k hk x (by omega)).1 hne]
    simp only [Option.bind_some]
    refine Ev.pos (by omega) (Ev.pos (by omega) (Ev.pos (by omega) (Ev.pos (by rw [reVals_length]; omega) ?_)))
    rw [wrap_nat (by omega), show reVals l (order n i k) x ++ [rd l ((reOr (order n i k) 0 x 0 : Nat) : Int)] = reVals l (order n i k) (x + 1) by simp [reVals, List.range_succ]]
    exact ih (x + 1) (by omega)
theorem specSwapped (n : Nat) (hn : n ≤ 4) (l : List Int) (hl : l.length = 2 ^ n) (i k : Nat) (hi : i < n) (hk : k < n) (hne : i ≠ k) : Ev (fun z => spec_ttSwapped.f z n l i k) ((n : Int), reVals l (order n i k) l.length) := by
  unfold spec_ttSwapped.f
  exact ttSwapped_loop n hn l hl i k hi hk hne n l.length 0 (by omega)
theorem reVals_same (n : Nat) (hn : n ≤ 4) (l : List Int) (hl : l.length = 2 ^ n) (i : Nat) (hi : i < n) : reVals l (order n i i) l.length = l := by
  apply List.ext_getElem (by rw [reVals_length])
  intro x h1 h2
  have := (swap_all n (by omega) i hi i hi x (by omega)).2 rfl
  simp only [reVals, List.getElem_map, List.getElem_range, this]
  exact rd_get h2
end Go.Proofs.Ytgekdgggpfiamaa.Swap
