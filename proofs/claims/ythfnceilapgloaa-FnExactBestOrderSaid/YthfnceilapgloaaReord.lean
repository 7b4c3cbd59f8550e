/- A table in another order of its inputs, as the program makes it. Condition: at most four inputs, the order's numbers are inputs. -/
import Derived.Test.YthfnceilapgloaaTab
import Derived.Test.YthfnceilapgloaaPx5
namespace Go.Proofs.Ythfnceilapgloaa.Reord
open Go.RowKit Go.Proofs.Ythfnceilapgloaa.P Go.Proofs.Ythfnceilapgloaa.Base Go.Proofs.Ythfnceilapgloaa.Bit Go.Proofs.Ythfnceilapgloaa.Tab Go.Proofs.YthfnceilapgloaaW.PrintWords Go.Proofs.YthfnceilapgloaaW.PrintLast Go.Proofs.YthfnceilapgloaaW.PrintMore
set_option linter.unusedVariables false
set_option linter.unusedSimpArgs false
/-- The old index: bit k of x goes to place (order k). -/
def reOr : List Int → Nat → Nat → Nat → Nat
  | [], _, _, acc => acc
  | i :: t, k, x, acc => reOr t (k + 1) x (acc ||| bit x k * 2 ^ i.toNat)
def Inputs (n : Nat) (o : List Int) : Prop := ∀ i, i ∈ o → 0 ≤ i ∧ i < n
theorem mul_bit_lt {x k i n : Nat} (h : i < n) : bit x k * 2 ^ i < 2 ^ n := by
  have h1 := bit_lt x k
  have h2 : (2 : Nat) ^ i < 2 ^ n := Nat.pow_lt_pow_right (by decide) h
  have h3 := Nat.two_pow_pos n
  rcases (by omega : bit x k = 0 ∨ bit x k = 1) with e | e <;> rw [e] <;> omega
theorem reOr_lt (n : Nat) : ∀ (o : List Int) (k x acc : Nat), Inputs n o → acc < 2 ^ n → reOr o k x acc < 2 ^ n
  | [], _, _, _, _, h => h
  | i :: t, k, x, acc, ho, h => by
    have hi := ho i List.mem_cons_self
    exact reOr_lt n t _ _ _ (fun j hj => ho j (List.mem_cons_of_mem _ hj)) (Nat.or_lt_two_pow h (mul_bit_lt (by omega)))
theorem inner (n : Nat) (hn : n ≤ 4) (l z : List Int) (hl : l.length = 2 ^ n) (hz : z.length = 2 ^ n) (o : List Int) (ho : Inputs n o) (hol : o.length ≤ 4) (x : Nat) (hx : x < 2 ^ n) (m : Int) (R : Int × List Int)
    (h : Ev (fun k => impl_reordered.l0 k o l.length ((x + 1 : Nat) : Int) n l m (z.set x (rd l (reOr o 0 x 0 : Nat)))) R) (d : Nat) :
    ∀ (j acc : Nat), j + d = o.length → acc < 2 ^ n → reOr (o.drop j) j x acc = reOr o 0 x 0 → Ev (fun k => impl_reordered.l1 k o x acc l.length x o o.length j n l m z) R := by
  have hp : (2 : Nat) ^ n ≤ 2 ^ 4 := Nat.pow_le_pow_right (by decide) hn
  induction d with
  | zero =>
    intro j acc hj ha he
    refine Ev.succ ?_
    simp only [impl_reordered.l1]
    rw [List.drop_of_length_le (by omega)] at he
    simp only [reOr] at he
    refine Ev.neg (by omega) (Ev.pos (by omega) (Ev.pos (by omega) (Ev.pos (by omega) (Ev.pos (by omega) ?_))))
    rw [wrap_nat (by omega), Int.toNat_natCast, he]
    exact h
  | succ d ih =>
    intro j acc hj ha he
    refine Ev.succ ?_
    simp only [impl_reordered.l1]
    have hi := ho o[j] (List.getElem_mem (by omega))
    obtain ⟨p, hp'⟩ := Int.eq_ofNat_of_zero_le hi.1
    have hlt : bit x j * 2 ^ p < 2 ^ n := mul_bit_lt (by omega)
    rw [drop_cons (xs := o) (i := j) (by omega)] at he
    simp only [reOr, hp', Int.toNat_natCast] at he
    refine Ev.pos (by omega) (Ev.pos (by omega) (Ev.pos (by omega) ?_))
    rw [rd_get (by omega), hp']
    refine Ev.pos (by omega) ?_
    rw [bit_printed x j (by omega) (by omega), shl_nat _ _ (by omega) (by omega), or_nat _ _ (by omega) (by omega), wrap_nat (by omega)]
    exact ih (j + 1) _ (by omega) (Nat.or_lt_two_pow ha hlt) he
/-- The values in the new order. -/
def reVals (l o : List Int) (i : Nat) : List Int := (List.range i).map fun (x : Nat) => rd l (reOr o 0 x 0 : Nat)
theorem reVals_length (l o : List Int) (i : Nat) : (reVals l o i).length = i := by simp [reVals]
theorem outer (n : Nat) (hn : n ≤ 4) (l : List Int) (hl : l.length = 2 ^ n) (o : List Int) (ho : Inputs n o) (hol : o.length ≤ 4) (m : Int) (d : Nat) :
    ∀ (x : Nat) (z : List Int), x + d = l.length → z.length = l.length → z.take x = reVals l o x → Ev (fun k => impl_reordered.l0 k o l.length x n l m z) (m, reVals l o l.length) := by
  induction d with
  | zero =>
    intro x z hx hz ht
    refine Ev.succ ?_
    simp only [impl_reordered.l0]
    obtain rfl : x = l.length := by omega
    rw [List.take_of_length_le (by omega)] at ht
    exact Ev.neg (by omega) (Ev.val (Ev.now _) (by rw [ht]))
  | succ d ih =>
    intro x z hx hz ht
    refine Ev.succ ?_
    simp only [impl_reordered.l0]
    refine Ev.pos (by omega) ?_
    refine inner n hn l z hl (by omega) o ho hol x (by omega) m _ ?_ o.length 0 0 (by omega) (Nat.two_pow_pos n) rfl
    refine ih (x + 1) _ (by omega) (by simpa using hz) ?_
    rw [List.take_succ_eq_append_getElem (by simp; omega), List.take_set_of_le (Nat.le_refl _), ht]
    simp [reVals, List.range_succ]
theorem implReord (n : Nat) (hn : n ≤ 4) (l : List Int) (hl : l.length = 2 ^ n) (o : List Int) (ho : Inputs n o) (hol : o.length ≤ 4) : Ev (fun k => impl_reordered.f k n l o) ((n : Int), reVals l o l.length) := by
  have hp : (2 : Nat) ^ n ≤ 2 ^ 4 := Nat.pow_le_pow_right (by decide) hn
  unfold impl_reordered.f
  refine Ev.pos (by omega) (Ev.pos (by omega) ?_)
  simp only [Option.bind_some, List.length_replicate, Int.toNat_natCast]
  exact outer n hn l hl o ho hol n l.length 0 _ (by omega) (by simp) (by simp [reVals])
end Go.Proofs.Ythfnceilapgloaa.Reord
