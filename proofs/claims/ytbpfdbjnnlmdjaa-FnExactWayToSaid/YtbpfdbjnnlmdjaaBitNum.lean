--MINI
/- Bits as a number. -/
import Derived.Test.YtbpfdbjnnlmdjaaBits
import Derived.Test.YtbpfdbjnnlmdjaaPx3
import Derived.Test.YtbpfdbjnnlmdjaaPx8
namespace Go.Proofs.Ytbpfdbjnnlmdjaa.Units
open Go.RowKit Go.Proofs.Ytbpfdbjnnlmdjaa.P Go.Proofs.Ytbpfdbjnnlmdjaa.Base Go.Proofs.Ytbpfdbjnnlmdjaa.Board Go.Proofs.Ytbpfdbjnnlmdjaa.Groups Go.Proofs.YtbpfdbjnnlmdjaaW.PrintWords Go.Proofs.YtbpfdbjnnlmdjaaW.PrintLast Go.Proofs.YtbpfdbjnnlmdjaaW.PrintMore
set_option linter.unusedVariables false
set_option linter.unusedSimpArgs false
/-- The first i bits as a number. -/
def value (B : List Int) : Nat → Int
  | 0 => 0
  | i + 1 => value B i + rd B (i : Nat) * 2 ^ i
theorem zL (B : List Int) (h : ∀ x ∈ B, x = 0 ∨ x = 1) : ∀ (i : Nat), i ≤ B.length → 0 ≤ value B i ∧ value B i < 2 ^ i
  | 0, _ => by simp [value]
  | i + 1, hi => by
    have ih := zL B h i (by omega)
    have hx := h _ (List.getElem_mem (show i < B.length by omega))
    rw [value, lh (by omega), Int.pow_succ]
    rcases hx with hx | hx <;> rw [hx] <;> omega
theorem Sv {i : Nat} (h : i ≤ 16) : (1 : Int) ≤ 2 ^ i ∧ (2 : Int) ^ i ≤ 65536 := by
  have : i = 0 ∨ i = 1 ∨ i = 2 ∨ i = 3 ∨ i = 4 ∨ i = 5 ∨ i = 6 ∨ i = 7 ∨ i = 8 ∨ i = 9 ∨ i = 10 ∨ i = 11 ∨ i = 12 ∨ i = 13 ∨ i = 14 ∨ i = 15 ∨ i = 16 := by omega
  rcases this with rfl | rfl | rfl | rfl | rfl | rfl | rfl | rfl | rfl | rfl | rfl | rfl | rfl | rfl | rfl | rfl | rfl <;> decide
theorem XV {x : Int} {i : Nat} (h : x = 0 ∨ x = 1) (hi : i < 16) : shl .i64 x (i : Int) = x * 2 ^ i := by
  have := Sv (show i ≤ 16 by omega)
  unfold shl
  rw [show min (Int.toNat (i : Int)) IntKind.i64.bits = i by simp [IntKind.bits]; omega]
  rw [cz]
  apply gH
  · rcases h with rfl | rfl <;> omega
  · rcases h with rfl | rfl <;> omega
theorem Bv {B : List Int} (hB : B.length ≤ 16) (h : ∀ x ∈ B, x = 0 ∨ x = 1) (d : Nat) : ∀ (i : Nat), i + d = B.length → Ev (fun k => bR.l0 k (value B i) B B.length i) (value B B.length) := by
  induction d with
  | zero =>
    intro i hi
    obtain rfl : i = B.length := by omega
    refine Ev.succ ?_
    simp only [bR.l0]
    exact Ev.neg (by omega) (Ev.now _)
  | succ d ih =>
    intro i hi
    have hv := zL B h i (by omega)
    have hv' := zL B h (i + 1) (by omega)
    have hp := Sv (show i ≤ 16 by omega)
    have hp' := Sv (show i + 1 ≤ 16 by omega)
    have hx := h _ (List.getElem_mem (show i < B.length by omega))
    have hu : IntKind.u64.wrap (i : Int) = (i : Int) := by simp [IntKind.wrap, IntKind.bits, IntKind.signed]; omega
    refine Ev.succ ?_
    simp only [bR.l0, hu]
    refine Ev.pos (by omega) (Ev.pos (by omega) (Ev.pos (by omega) (Ev.pos (by omega) ?_)))
    have e : wrap64 (value B i + shl .i64 (rd B (i : Int)) (i : Int)) = value B (i + 1) := by
      rw [XV (by rw [lh (by omega)]; exact hx) (by omega)]
      show wrap64 (value B (i + 1)) = _
      exact gH (by omega) (by omega)
    rw [e, bI (by omega)]
    exact ih (i + 1) (by omega)
theorem or_bit {a x : Int} {i : Nat} (ha : 0 ≤ a) (ha' : a < 2 ^ i) (hx : x = 0 ∨ x = 1) (hi : i < 16) : Go.bits .or .i64 a (x * 2 ^ i) = a + x * 2 ^ i := by
  have hp := Sv (show i ≤ 16 by omega)
  have hpn : ((2 ^ i : Nat) : Int) = 2 ^ i := by simp
  obtain ⟨n, rfl⟩ : ∃ n : Nat, a = n := ⟨a.toNat, by omega⟩
  have hn : n < 2 ^ i := by omega
  have key : ∀ m : Nat, m < 2 ^ 63 → n < 2 ^ 63 → (n ||| m) < 2 ^ 63 → Go.bits .or .i64 (n : Int) (m : Int) = ((n ||| m : Nat) : Int) := by
    intro m hm hn' ho
    have e1 : (BitVec.ofInt IntKind.i64.bits (n : Int)).toNat = n := by rw [BitVec.toNat_ofInt]; show (((n : Int) % ((2 ^ 64 : Nat) : Int))).toNat = n; omega
    have e2 : (BitVec.ofInt IntKind.i64.bits (m : Int)).toNat = m := by rw [BitVec.toNat_ofInt]; show (((m : Int) % ((2 ^ 64 : Nat) : Int))).toNat = m; omega
    show IntKind.i64.wrap ((BitVec.ofInt IntKind.i64.bits (n : Int) ||| BitVec.ofInt IntKind.i64.bits (m : Int)).toNat : Int) = _
    rw [BitVec.toNat_or, e1, e2, cz]
    exact gH (by omega) (by omega)
  rcases hx with rfl | rfl
  · rw [Int.zero_mul, Int.add_zero]
    have := key 0 (by omega) (by omega) (by simp; omega)
    simpa using this
  · rw [Int.one_mul]
    have ho : (n ||| 2 ^ i) = n + 2 ^ i := by
      have := Nat.two_pow_add_eq_or_of_lt hn 1
      rw [Nat.mul_one] at this
      rw [Nat.or_comm, ← this, Nat.add_comm]
    have := key (2 ^ i) (by omega) (by omega) (by rw [ho]; omega)
    rw [ho] at this
    rw [hpn] at this
    rw [this]
    omega
theorem Bw {B : List Int} (hB : B.length ≤ 16) (h : ∀ x ∈ B, x = 0 ∨ x = 1) (d : Nat) : ∀ (i : Nat), i + d = B.length → Ev (fun k => bC.l0 k (value B i) B B.length i) (value B B.length) := by
  induction d with
  | zero =>
    intro i hi
    obtain rfl : i = B.length := by omega
    refine Ev.succ ?_
    simp only [bC.l0]
    exact Ev.neg (by omega) (Ev.now _)
  | succ d ih =>
    intro i hi
    have hv := zL B h i (by omega)
    have hx := h _ (List.getElem_mem (show i < B.length by omega))
    have hr : rd B (i : Int) = 0 ∨ rd B (i : Int) = 1 := by rw [lh (by omega)]; exact hx
    refine Ev.succ ?_
    simp only [bC.l0]
    refine Ev.pos (by omega) (Ev.pos (by omega) (Ev.pos (by omega) ?_))
    rw [XV hr (by omega), or_bit hv.1 hv.2 hr (by omega), bI (by omega)]
    exact ih (i + 1) (by omega)
theorem number (B : List Int) (hB : B.length ≤ 16) (h : ∀ x ∈ B, x = 0 ∨ x = 1) : ∃ N, Ev (fun k => bR.l0 k 0 B B.length 0) N ∧ Ev (fun k => bC.f k B) N :=
  ⟨value B B.length, Bv hB h B.length 0 (by omega), by unfold bC.f; exact Bw hB h B.length 0 (by omega)⟩
end Go.Proofs.Ytbpfdbjnnlmdjaa.Units
