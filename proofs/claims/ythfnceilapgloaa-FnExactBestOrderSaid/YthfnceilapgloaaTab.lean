/- Tables: what the program's and the reference's tests of a table answer; a table's copy, comparison and marks. No condition beyond the lengths named. -/
import Derived.Test.YthfnceilapgloaaBit
import Derived.Test.YthfnceilapgloaaPx2
import Derived.Test.YthfnceilapgloaaPx3
import Derived.Test.YthfnceilapgloaaPx5
namespace Go.Proofs.Ythfnceilapgloaa.Tab
open Go.RowKit Go.Proofs.Ythfnceilapgloaa.P Go.Proofs.Ythfnceilapgloaa.Base Go.Proofs.Ythfnceilapgloaa.Bit Go.Proofs.YthfnceilapgloaaW.PrintWords Go.Proofs.YthfnceilapgloaaW.PrintLast Go.Proofs.YthfnceilapgloaaW.PrintMore
set_option linter.unusedVariables false
set_option linter.unusedSimpArgs false

def Bits (l : List Int) : Prop := ∀ x, x ∈ l → x = 0 ∨ x = 1
instance (l : List Int) : Decidable (Bits l) := by unfold Bits; infer_instance
theorem Bits.nil : Bits [] := by simp [Bits]
theorem bits_cons (x : Int) (l : List Int) : Bits (x :: l) ↔ (x = 0 ∨ x = 1) ∧ Bits l := by simp [Bits]
theorem Bits.get {l : List Int} (h : Bits l) {i : Nat} (hi : i < l.length) : l[i] = 0 ∨ l[i] = 1 := h _ (List.getElem_mem hi)
theorem areBits_loop (l : List Int) (hb : l.length < 9223372036854775807) (d : Nat) : ∀ (i : Nat), i + d = l.length → Ev (fun k => impl_areBits.l0 k l l.length i) (decide (Bits (l.drop i))) := by
  induction d with
  | zero =>
    intro i hi
    refine Ev.succ ?_
    simp only [impl_areBits.l0]
    refine Ev.neg (by omega) ?_
    refine Ev.val (Ev.now _) ?_
    rw [List.drop_of_length_le (by omega)]; simp [Bits.nil]
  | succ d ih =>
    intro i hi
    refine Ev.succ ?_
    simp only [impl_areBits.l0]
    refine Ev.pos (by omega) ?_
    refine Ev.pos (by omega) ?_
    refine Ev.pos (by omega) ?_
    rw [wrap_nat (by omega), rd_get (by omega), drop_cons (xs := l) (by omega)]
    simp only [bits_cons]
    refine Ev.split (fun c => Ev.val (ih (i + 1) (by omega)) (by simp only [c, true_or, true_and])) (fun c => ?_)
    refine Ev.split (fun c' => Ev.val (ih (i + 1) (by omega)) (by simp only [c', or_true, true_and])) (fun c' => ?_)
    exact Ev.val (Ev.now _) (by simp only [c, c', or_false, false_and, decide_false])
theorem areBits (l : List Int) (hb : l.length < 9223372036854775807) : Ev (fun k => impl_areBits.f k l) (decide (Bits l)) := areBits_loop l hb l.length 0 (by omega)
theorem l1In (a b c : Int) : spec_l1In.f a b c = some (decide (b ≤ a ∧ a ≤ c)) := by
  unfold spec_l1In.f
  by_cases h : a ≥ b <;> simp [h]
def Within (lo hi : Int) (l : List Int) : Prop := ∀ x, x ∈ l → lo ≤ x ∧ x ≤ hi
instance (lo hi : Int) (l : List Int) : Decidable (Within lo hi l) := by unfold Within; infer_instance
theorem within_cons (lo hi x : Int) (l : List Int) : Within lo hi (x :: l) ↔ (lo ≤ x ∧ x ≤ hi) ∧ Within lo hi l := by simp [Within]
theorem l1All_loop (l : List Int) (lo up : Int) (hb : l.length < 9223372036854775807) (d : Nat) : ∀ (i : Nat), i + d = l.length → Ev (fun k => spec_l1All.l0 k lo up l l.length i) (decide (Within lo up (l.drop i))) := by
  induction d with
  | zero =>
    intro i hi
    refine Ev.succ ?_
    simp only [spec_l1All.l0]
    refine Ev.neg (by omega) ?_
    refine Ev.val (Ev.now _) ?_
    rw [List.drop_of_length_le (by omega)]; simp [Within]
  | succ d ih =>
    intro i hi
    refine Ev.succ ?_
    simp only [spec_l1All.l0]
    refine Ev.pos (by omega) ?_
    refine Ev.pos (by omega) ?_
    refine Ev.pos (by omega) ?_
    rw [wrap_nat (by omega), rd_get (by omega), drop_cons (xs := l) (by omega)]
    simp only [within_cons, l1In, Option.bind_some]
    refine Ev.split (fun c => Ev.val (ih (i + 1) (by omega)) ?_) (fun c => Ev.val (Ev.now _) ?_)
    · simp only [of_decide_eq_true c, and_self, true_and]
    · have c' := of_decide_eq_false (by simpa using c : decide (lo ≤ l[i] ∧ l[i] ≤ up) = false)
      simp only [c', false_and, decide_false]
theorem l1All (l : List Int) (lo hi : Int) (hb : l.length < 9223372036854775807) : Ev (fun k => spec_l1All.f k l lo hi) (decide (Within lo hi l)) := l1All_loop l lo hi hb l.length 0 (by omega)
theorem within_bits (l : List Int) : Within 0 1 l ↔ Bits l := by
  unfold Within Bits
  refine ⟨fun h x hx => ?_, fun h x hx => ?_⟩ <;> have := h x hx <;> omega
theorem l1All_bits (l : List Int) (hb : l.length < 9223372036854775807) : Ev (fun k => spec_l1All.f k l 0 1) (decide (Bits l)) := Ev.val (l1All l 0 1 hb) (by simp only [within_bits])

/-- A valid table. -/
def TGood (n : Int) (l : List Int) : Prop := 0 ≤ n ∧ n ≤ 4 ∧ l.length = 2 ^ n.toNat ∧ Bits l
instance (n : Int) (l : List Int) : Decidable (TGood n l) := by unfold TGood; infer_instance
theorem TGood.len {n : Int} {l : List Int} (h : TGood n l) : 1 ≤ l.length ∧ l.length ≤ 16 := by
  obtain ⟨h0, h1, h2, _⟩ := h
  rw [h2]
  obtain ⟨m, rfl⟩ := Int.eq_ofNat_of_zero_le h0
  simp only [Int.toNat_natCast]
  have : m ≤ 4 := by omega
  rcases (by omega : m = 0 ∨ m = 1 ∨ m = 2 ∨ m = 3 ∨ m = 4) with rfl | rfl | rfl | rfl | rfl <;> decide
theorem shl_one {n : Int} (h0 : 0 ≤ n) (h1 : n ≤ 62) : shl .i64 1 n = ((2 ^ n.toNat : Nat) : Int) := by
  obtain ⟨m, rfl⟩ := Int.eq_ofNat_of_zero_le h0
  unfold shl
  rw [Nat.min_eq_left (by simp [IntKind.bits]; omega)]
  simp only [Int.toNat_natCast, Int.one_mul]
  have h2 : (2 : Nat) ^ m ≤ 2 ^ 62 := Nat.pow_le_pow_right (by decide) (by omega)
  have h3 : ((2 : Int) ^ m) = ((2 ^ m : Nat) : Int) := by simp
  rw [h3]
  generalize (2 : Nat) ^ m = z at *
  have h4 : z ≤ 4611686018427387904 := by simpa using h2
  unfold IntKind.wrap
  simp [IntKind.bits, IntKind.signed]
  omega
theorem ttGood (n : Int) (l : List Int) (hb : l.length < 9223372036854775807) : Ev (fun k => spec_ttGood.f k n l) (decide (TGood n l)) := by
  unfold spec_ttGood.f spec_ttInputs.f
  simp only [l1In, Option.bind_some]
  refine Ev.split (fun c => ?_) (fun c => Ev.val (Ev.now _) ?_)
  · have c' := of_decide_eq_true c
    rw [wrapU (by omega) (by omega), shl_one (by omega) (by omega)]
    refine Ev.pos (by omega) ?_
    refine Ev.split (fun e => ?_) (fun e => Ev.val (Ev.now _) ?_)
    · refine Ev.bind (l1All_bits l hb) ?_
      refine Ev.val (Ev.now _) ?_
      have e' : l.length = 2 ^ n.toNat := by exact_mod_cast e
      simp only [TGood, c', e', true_and]
    · symm
      rw [decide_eq_false_iff_not]
      rintro ⟨_, _, h, _⟩
      exact e (by exact_mod_cast h)
  · symm
    rw [decide_eq_false_iff_not]
    rintro ⟨h1, h2, _⟩
    exact c (by simp [h1, h2])
theorem implIsTable (n : Int) (l : List Int) (hb : l.length < 9223372036854775807) : Ev (fun k => impl_IsTable.f k n l) (decide (TGood n l)) := by
  unfold impl_IsTable.f
  refine Ev.split (fun c => ?_) (fun c => Ev.val (Ev.now _) ?_)
  · refine Ev.split (fun c' => ?_) (fun c' => Ev.val (Ev.now _) ?_)
    · rw [shl_one (by omega) (by omega)]
      refine Ev.pos (by omega) ?_
      refine Ev.split (fun e => ?_) (fun e => Ev.val (Ev.now _) ?_)
      · refine Ev.bind (areBits l hb) ?_
        refine Ev.val (Ev.now _) ?_
        have e' : l.length = 2 ^ n.toNat := by exact_mod_cast e
        have c0 : 0 ≤ n := c
        simp only [TGood, c0, c', e', true_and]
      · symm
        rw [decide_eq_false_iff_not]
        rintro ⟨_, _, h, _⟩
        exact e (by exact_mod_cast h)
    · symm
      rw [decide_eq_false_iff_not]
      rintro ⟨h1, h2, _⟩
      exact c' h2
  · symm
    rw [decide_eq_false_iff_not]
    rintro ⟨h1, h2, _⟩
    exact c h1

theorem szTab (n : Int) (l : List Int) (a : Int) (hl : l.length ≤ 9223372036854775807) (h0 : 0 ≤ a) (h1 : a ≤ 9223372036854775807) :
    laws_szTable.f n l a = some (if a < l.length then -1 else a - l.length) := by
  unfold laws_szTable.f
  rw [szInt l a hl (by omega) h1]
  simp only [Option.bind_some]
  split <;> split <;> first | rfl | omega
theorem toTab (n : Int) (l : List Int) (hl : l.length ≤ 1048576) : Ev (fun k => laws_toTable.f k n l) (n, l) := by
  unfold laws_toTable.f
  exact Ev.bind (toInt l hl) (Ev.now _)
theorem eqTab (n : Int) (l : List Int) (m : Int) (l' : List Int) (hb : l.length < 9223372036854775807) : Ev (fun k => laws_eqTable.f k n l m l') (decide (n = m ∧ l = l')) := by
  unfold laws_eqTable.f
  refine Ev.split (fun c => ?_) (fun c => Ev.val (Ev.now _) (by simp only [c, false_and, decide_false]))
  refine Ev.bind (eqInt l l' hb) ?_
  refine Ev.split (fun e => ?_) (fun e => ?_) <;> refine Ev.val (Ev.now _) ?_
  · simp only [c, of_decide_eq_true e, and_self, decide_true]
  · have e' := of_decide_eq_false (by simpa using e : decide (l = l') = false)
    simp only [e', and_false, decide_false]
theorem eqTab_self (n : Int) (l : List Int) (hb : l.length < 9223372036854775807) : Ev (fun k => laws_eqTable.f k n l n l) true := Ev.val (eqTab n l n l hb) (by simp)
end Go.Proofs.Ythfnceilapgloaa.Tab
