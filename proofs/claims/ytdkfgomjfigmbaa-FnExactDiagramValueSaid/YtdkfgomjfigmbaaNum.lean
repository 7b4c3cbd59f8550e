/- The number with given bits: the program's and the reference's loops come to the same sum. Condition: at most 60 bits, each 0 or 1. -/
import Derived.Test.YtdkfgomjfigmbaaBit
import Derived.Test.YtdkfgomjfigmbaaTab

namespace Go.Proofs.Ytdkfgomjfigmbaa.Num
open Go.RowKit Go.Proofs.Ytdkfgomjfigmbaa.P Go.Proofs.Ytdkfgomjfigmbaa.Base Go.Proofs.Ytdkfgomjfigmbaa.Bit Go.Proofs.Ytdkfgomjfigmbaa.Tab Go.Proofs.YtdkfgomjfigmbaaW.PrintWords Go.Proofs.YtdkfgomjfigmbaaW.PrintLast Go.Proofs.YtdkfgomjfigmbaaW.PrintMore
set_option linter.unusedVariables false
set_option linter.unusedSimpArgs false
/-- The number with these bits, the least one first. -/
def num : List Int → Nat
  | [] => 0
  | b :: t => b.toNat + 2 * num t
theorem num_lt : ∀ (l : List Int), Bits l → num l < 2 ^ l.length
  | [], _ => by simp [num]
  | b :: t, h => by
    have h1 := num_lt t (fun x hx => h x (List.mem_cons_of_mem _ hx))
    have h2 : b = 0 ∨ b = 1 := h b List.mem_cons_self
    simp only [num, List.length_cons, Nat.pow_succ]
    rcases h2 with rfl | rfl <;> simp <;> omega
theorem num_snoc (b : Int) : ∀ (l : List Int), num (l ++ [b]) = num l + b.toNat * 2 ^ l.length
  | [] => by simp [num]
  | c :: t => by
    simp only [List.cons_append, num, num_snoc b t, List.length_cons, Nat.pow_succ]
    rw [Nat.mul_add, ← Nat.mul_assoc, Nat.mul_comm 2 (b.toNat), Nat.mul_assoc, Nat.mul_comm 2 (2 ^ _)]
    omega
theorem bits_take {l : List Int} (h : Bits l) (i : Nat) : Bits (l.take i) := fun x hx => h x (List.mem_of_mem_take hx)
theorem num_step {l : List Int} (hb : Bits l) {i : Nat} (hi : i < l.length) (hl : l.length ≤ 60) :
    num (l.take i) < 2 ^ i ∧ num (l.take (i + 1)) = num (l.take i) + l[i].toNat * 2 ^ i ∧ (l[i] = ((l[i].toNat : Nat) : Int)) ∧ l[i].toNat ≤ 1 ∧ (2 : Nat) ^ i < 2 ^ 60 := by
  have h1 := num_lt (l.take i) (bits_take hb i)
  rw [List.length_take, Nat.min_eq_left (by omega)] at h1
  refine ⟨h1, ?_, ?_, ?_, Nat.pow_lt_pow_right (by decide) (by omega)⟩
  · rw [List.take_succ_eq_append_getElem hi, num_snoc, List.length_take, Nat.min_eq_left (by omega)]
  · rcases hb.get hi with h | h <;> rw [h] <;> rfl
  · rcases hb.get hi with h | h <;> rw [h] <;> decide
end Go.Proofs.Ytdkfgomjfigmbaa.Num
