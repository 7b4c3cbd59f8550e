/- The number with given bits: the program's and the reference's loops come to the same sum. Condition: at most 60 bits, each 0 or 1. -/
import Derived.Test.YtlccgamaplaacaaBit
import Derived.Test.YtlccgamaplaacaaTab
import Derived.Test.YtlccgamaplaacaaPx14
namespace Go.Proofs.Ytlccgamaplaacaa.Num
open Go.RowKit Go.Proofs.Ytlccgamaplaacaa.P Go.Proofs.Ytlccgamaplaacaa.Base Go.Proofs.Ytlccgamaplaacaa.Bit Go.Proofs.Ytlccgamaplaacaa.Tab Go.Proofs.YtlccgamaplaacaaW.PrintWords Go.Proofs.YtlccgamaplaacaaW.PrintLast Go.Proofs.YtlccgamaplaacaaW.PrintMore
set_option linter.unusedVariables false
/-- The number with these bits, the least one first. -/
def num : List Int → Nat
  | [] => 0
  | b :: t => b.toNat + 2 * num t
theorem num_lt : ∀ (l : List Int), Bits l → num l < 2 ^ l.length
  | [], _ => by simp [num]
  | b :: t, h => by
    have h1 := num_lt t (fun x hx => h x (List.mem_cons_of_mem _ hx))
    have h2 : b = 0 ∨ b = 1 := h b List.mem_cons_self
    simp only [num, List.length_cons, Nat.pow_succ]
    rcases h2 with rfl | rfl <;> simp <;> omega
theorem num_snoc (b : Int) : ∀ (l : List Int), num (l ++ [b]) = num l + b.toNat * 2 ^ l.length
  | [] => by simp [num]
  | c :: t => by
    simp only [List.cons_append, num, num_snoc b t, List.length_cons, Nat.pow_succ]
    rw [Nat.mul_add, ← Nat.mul_assoc, Nat.mul_comm 2 (b.toNat), Nat.mul_assoc, Nat.mul_comm 2 (2 ^ _)]
    omega
theorem bits_take {l : List Int} (h : Bits l) (i : Nat) : Bits (l.take i) := fun x hx => h x (List.mem_of_mem_take hx)
theorem num_step {l : List Int} (hb : Bits l) {i : Nat} (hi : i < l.length) (hl : l.length ≤ 60) :
    num (l.take i) < 2 ^ i ∧ num (l.take (i + 1)) = num (l.take i) + l[i].toNat * 2 ^ i ∧ (l[i] = ((l[i].toNat : Nat) : Int)) ∧ l[i].toNat ≤ 1 ∧ (2 : Nat) ^ i < 2 ^ 60 := by
  have h1 := num_lt (l.take i) (bits_take hb i)
  rw [List.length_take, Nat.min_eq_left (by omega)] at h1
  refine ⟨h1, ?_, ?_, ?_, Nat.pow_lt_pow_right (by decide) (by omega)⟩
  · rw [List.take_succ_eq_append_getElem hi, num_snoc, List.length_take, Nat.min_eq_left (by omega)]
  · rcases hb.get hi with h | h <;> rw [h] <;> rfl
  · rcases hb.get hi with h | h <;> rw [h] <;> decide
theorem numberOf_loop (l : List Int) (hb : Bits l) (hl : l.length ≤ 60) (d : Nat) : ∀ (i : Nat), i + d = l.length → Ev (fun k => impl_numberOf.l0 k (num (l.take i) : Nat) l l.length i) (num l : Nat) := by
  induction d with
  | zero =>
    intro i hi
    refine Ev.succ ?_
    simp only [impl_numberOf.l0]
    refine Ev.neg (by omega) (Ev.val (Ev.now _) ?_)
    rw [List.take_of_length_le (by omega)]
  | succ d ih =>
    intro i hi
    refine Ev.succ ?_
    simp only [impl_numberOf.l0]
    refine Ev.pos (by omega) (Ev.pos (by omega) (Ev.pos (by omega) ?_))
    obtain ⟨h1, h2, h3, h4, h5⟩ := num_step hb (i := i) (by omega) hl
    have h6 : l[i].toNat * 2 ^ i < 2 ^ 61 := by
      have := Nat.mul_le_mul_right (2 ^ i) h4
      omega
    rw [wrap_nat (by omega), rd_get (by omega), h3, shl_nat _ _ (by omega) (by omega), or_nat _ _ (by omega) (by omega), or_pow h1, ← h2]
    exact ih (i + 1) (by omega)
theorem numberOf (l : List Int) (hb : Bits l) (hl : l.length ≤ 60) : Ev (fun k => impl_numberOf.f k l) (num l : Nat) := by
  unfold impl_numberOf.f
  exact numberOf_loop l hb hl l.length 0 (by omega)
end Go.Proofs.Ytlccgamaplaacaa.Num
