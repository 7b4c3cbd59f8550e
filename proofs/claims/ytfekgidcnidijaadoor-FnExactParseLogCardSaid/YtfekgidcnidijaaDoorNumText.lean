/- Decimal texts of natural numbers, as the reference writes them. Condition: numbers below 10^15. -/
import Derived.Test.YtfekgidcnidijaaDoorBytes
import Derived.Laws.BytesArg
import Derived.Test.YtfekgidcnidijaaDoorPx1
namespace Go.Proofs.YtfekgidcnidijaaDoor.Bytes
open Go.RowKit Go.Proofs.YtfekgidcnidijaaDoor.P Go.Proofs.YtfekgidcnidijaaDoor.Base Go.Proofs.YtfekgidcnidijaaDoorW.PrintWords Go.Proofs.YtfekgidcnidijaaDoorW.PrintLast Go.Proofs.YtfekgidcnidijaaDoorW.PrintMore
set_option linter.unusedVariables false
set_option linter.unusedSimpArgs false
theorem bytesOf_nums (xs : List Int) (h : ∀ x, x ∈ xs → 0 ≤ x ∧ x ≤ 255) : bytesOf (strOfNums xs) = xs := by
  unfold bytesOf strOfNums
  simp only [List.map_map]
  conv => rhs; rw [← List.map_id xs]
  apply List.map_congr_left
  intro x hx
  have := h x hx
  simp only [Function.comp, id, UInt8.toNat_ofNat']
  omega
/-- The digits of a number, as bytes. -/
def digits : Nat → List Int
  | n => if h : n < 10 then [48 + (n : Int)] else digits (n / 10) ++ [48 + ((n % 10 : Nat) : Int)]
termination_by n => n
decreasing_by omega
theorem digits_small {n : Nat} (h : n < 10) : digits n = [48 + (n : Int)] := by rw [digits, dif_pos h]
theorem digits_big {n : Nat} (h : ¬ n < 10) : digits n = digits (n / 10) ++ [48 + ((n % 10 : Nat) : Int)] := by rw [digits, dif_neg h]
theorem digits_length (n : Nat) : (digits n).length ≤ n + 1 := by
  induction n using Nat.strongRecOn with
  | _ n ih =>
    by_cases h : n < 10
    · rw [digits_small h]; simp
    · rw [digits_big h]
      have := ih (n / 10) (by omega)
      simp only [List.length_append, List.length_singleton]; omega
theorem l1Num (n : Nat) (hn : n < 1000000000000000) : ∃ t : ByteArray, Ev (fun k => spec_l1Num.f k (n : Int)) t ∧ bytesOf t = digits n := by
  induction n using Nat.strongRecOn with
  | _ n ih =>
    by_cases h : n < 10
    · refine ⟨strOfNums [(wrap64 (48 + (n : Int))) % 256], Ev.succ ?_, ?_⟩
      · simp only [spec_l1Num.f]
        exact Ev.pos (by omega) (Ev.now _)
      · rw [wrap_id (by omega) (by omega), bytesOf_nums _ (by intro x hx; simp at hx; omega), digits_small h]
        simp only [List.cons.injEq, and_true]; omega
    · obtain ⟨t, ht, hd⟩ := ih (n / 10) (by omega) (by omega)
      have hl := digits_length (n / 10)
      have hq : wrap64 (Int.tdiv (n : Int) 10) = ((n / 10 : Nat) : Int) := by
        have : Int.tdiv (n : Int) 10 = ((n / 10 : Nat) : Int) := by rw [show (10 : Int) = ((10 : Nat) : Int) from rfl, ← Int.ofNat_tdiv]
        rw [this, wrap_id (by omega) (by omega)]
      have hm : Int.tmod (n : Int) 10 = ((n % 10 : Nat) : Int) := by rw [show (10 : Int) = ((10 : Nat) : Int) from rfl, ← Int.ofNat_tmod]
      have hv : (wrap64 (48 + Int.tmod (n : Int) 10)) % 256 = 48 + ((n % 10 : Nat) : Int) := by
        rw [hm, wrap_id (by omega) (by omega)]; omega
      have hb : bytesOf (strOfNums [48 + ((n % 10 : Nat) : Int)]) = [48 + ((n % 10 : Nat) : Int)] := bytesOf_nums _ (by intro x hx; simp at hx; omega)
      refine ⟨t ++ strOfNums [48 + ((n % 10 : Nat) : Int)], Ev.succ ?_, ?_⟩
      · simp only [spec_l1Num.f]
        refine Ev.neg (by omega) ?_
        rw [hq, hv]
        refine Ev.bind ht ?_
        simp only [Option.bind_some]
        refine Ev.pos ?_ (Ev.now _)
        rw [size_of t, size_of (strOfNums _), hb, hd]
        simp only [List.length_singleton]; omega
      · rw [bytesOf_append, hd, hb, digits_big h]
end Go.Proofs.YtfekgidcnidijaaDoor.Bytes
