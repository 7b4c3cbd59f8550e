/- Small facts that the other texts share: rounds, indexes, the copies, comparisons and marks of lists of whole numbers. No condition beyond the lengths named. -/
import Derived.Test.YthfnceilapgloaaPx2
import Derived.Test.YthfnceilapgloaaPx3
import Derived.Test.YthfnceilapgloaaPx5
namespace Go.Proofs.Ythfnceilapgloaa.Base
open Go.RowKit Go.Proofs.Ythfnceilapgloaa.P Go.Proofs.YthfnceilapgloaaW.PrintWords Go.Proofs.YthfnceilapgloaaW.PrintLast Go.Proofs.YthfnceilapgloaaW.PrintMore
set_option linter.unusedVariables false
set_option linter.unusedSimpArgs false

theorem Ev.succ {α : Type} {g : Nat → Option α} {r : α} (h : Ev (fun k => g (k + 1)) r) : Ev g r := Ev.step (fun _ => rfl) h
theorem Ev.pos {α : Type} {c : Prop} [Decidable c] {a b : Nat → Option α} {r : α} (hc : c) (h : Ev a r) : Ev (fun k => if c then a k else b k) r := by
  simp only [if_pos hc]; exact h
theorem Ev.neg {α : Type} {c : Prop} [Decidable c] {a b : Nat → Option α} {r : α} (hc : ¬ c) (h : Ev b r) : Ev (fun k => if c then a k else b k) r := by
  simp only [if_neg hc]; exact h
theorem Ev.split {α : Type} {c : Prop} [Decidable c] {a b : Nat → Option α} {r : α} (h : c → Ev a r) (h' : ¬ c → Ev b r) : Ev (fun k => if c then a k else b k) r := by
  by_cases hc : c
  · exact Ev.pos hc (h hc)
  · exact Ev.neg hc (h' hc)
theorem Ev.val {α : Type} {g : Nat → Option α} {r s : α} (h : Ev g r) (e : r = s) : Ev g s := e ▸ h
theorem wrap_id {x : Int} (h : -9223372036854775808 ≤ x) (h' : x ≤ 9223372036854775807) : wrap64 x = x := by unfold wrap64; omega
theorem wrap_nat {i : Nat} (h : i < 9223372036854775807) : wrap64 ((i : Int) + 1) = ((i + 1 : Nat) : Int) := by unfold wrap64; omega
theorem rd_get {xs : List Int} {i : Nat} (h : i < xs.length) : rd xs (i : Int) = xs[i] := by
  simp [rd, List.getD, List.getElem?_eq_getElem h]
theorem rd_neg_at (xs : List Int) (i : Int) : rd xs i = xs.getD i.toNat 0 := rfl
theorem drop_cons {α : Type} {xs : List α} {i : Nat} (h : i < xs.length) : xs.drop i = xs[i] :: xs.drop (i + 1) := List.drop_eq_getElem_cons h
theorem lt_cast {i n : Nat} (h : i < n) : (i : Int) < (n : Int) := by omega
theorem not_lt_cast {i n : Nat} (h : ¬ i < n) : ¬ (i : Int) < (n : Int) := by omega

/-! lists of whole numbers -/
theorem szInt (l : List Int) (a : Int) (hl : l.length ≤ 9223372036854775807) (h0 : -1 ≤ a) (h1 : a ≤ 9223372036854775807) :
    laws_szIntS.f l a = some (if a < l.length then -1 else a - l.length) := by
  unfold laws_szIntS.f
  rw [wrap_id (by omega) (by omega)]
  split <;> split <;> first | rfl | omega
theorem toInt_loop (l : List Int) (hl : l.length ≤ 35184372088832) (d : Nat) : ∀ (i : Nat) (m : List Int), i + d = l.length → m.length = l.length → m.take i = l.take i →
    Ev (fun k => laws_toIntS.l0 k l m i) l := by
  induction d with
  | zero =>
    intro i m hi hm ht
    refine Ev.succ ?_
    simp only [laws_toIntS.l0]
    refine Ev.neg (by omega) ?_
    refine Ev.val (Ev.now m) ?_
    rw [List.take_of_length_le (by omega), List.take_of_length_le (by omega)] at ht
    exact ht
  | succ d ih =>
    intro i m hi hm ht
    refine Ev.succ ?_
    simp only [laws_toIntS.l0]
    refine Ev.pos (by omega) ?_
    refine Ev.pos (by omega) ?_
    refine Ev.pos (by omega) ?_
    rw [wrap_nat (by omega)]
    refine ih (i + 1) _ (by omega) (by simpa using hm) ?_
    rw [Int.toNat_natCast, rd_get (by omega), List.take_succ_eq_append_getElem (by simp; omega), List.take_succ_eq_append_getElem (by omega), List.take_set_of_le (Nat.le_refl _), ht]
    simp
theorem toInt (l : List Int) (hl : l.length ≤ 1048576) : Ev (fun k => laws_toIntS.f k l) l := by
  unfold laws_toIntS.f
  refine Ev.pos (by omega) ?_
  refine Ev.pos (by omega) ?_
  exact toInt_loop l (by omega) l.length 0 _ (by omega) (by simp) rfl
theorem eqInt_loop (l m : List Int) (hl : l.length = m.length) (hb : l.length < 9223372036854775807) (d : Nat) : ∀ (i : Nat), i + d = l.length →
    Ev (fun k => laws_eqIntS.l0 k l m i) (decide (l.drop i = m.drop i)) := by
  induction d with
  | zero =>
    intro i hi
    refine Ev.succ ?_
    simp only [laws_eqIntS.l0]
    refine Ev.neg (by omega) ?_
    refine Ev.val (Ev.now _) ?_
    rw [List.drop_of_length_le (by omega), List.drop_of_length_le (by omega)]; simp
  | succ d ih =>
    intro i hi
    refine Ev.succ ?_
    simp only [laws_eqIntS.l0]
    refine Ev.pos (by omega) ?_
    refine Ev.pos (by omega) ?_
    refine Ev.pos (by omega) ?_
    rw [wrap_nat (by omega), rd_get (by omega), rd_get (by omega), drop_cons (xs := l) (by omega), drop_cons (xs := m) (by omega)]
    by_cases c : l[i] = m[i]
    · refine Ev.pos c ?_
      exact Ev.val (ih (i + 1) (by omega)) (by simp only [List.cons.injEq, c, true_and])
    · refine Ev.neg c ?_
      exact Ev.val (Ev.now _) (by simp only [List.cons.injEq, c, false_and, decide_false])
theorem eqInt (l m : List Int) (hb : l.length < 9223372036854775807) : Ev (fun k => laws_eqIntS.f k l m) (decide (l = m)) := by
  unfold laws_eqIntS.f
  by_cases c : l.length = m.length
  · refine Ev.pos (by omega) ?_
    exact Ev.val (eqInt_loop l m c hb l.length 0 (by omega)) (by simp)
  · refine Ev.neg (by omega) ?_
    exact Ev.val (Ev.now _) (by symm; rw [decide_eq_false_iff_not]; rintro rfl; exact c rfl)
theorem eqInt_self (l : List Int) (hb : l.length < 9223372036854775807) : Ev (fun k => laws_eqIntS.f k l l) true := Ev.val (eqInt l l hb) (by simp)

/-- What marking leaves: a, a + 1, .. -/
def marks (a : Int) (n : Nat) : List Int := (List.range n).map fun (j : Nat) => a + (j : Int)
theorem marks_length (a : Int) (n : Nat) : (marks a n).length = n := by simp [marks]
theorem mark_loop (n : Nat) (a : Int) (ha : 0 ≤ a) (hb : a + n < 9223372036854775807) (d : Nat) : ∀ (i : Nat) (m : List Int), i + d = n → m.length = n → m.take i = marks a i →
    Ev (fun k => laws_markIntS.l0 k m (a + i) i) (a + n, marks a n) := by
  induction d with
  | zero =>
    intro i m hi hm ht
    refine Ev.succ ?_
    simp only [laws_markIntS.l0]
    refine Ev.neg (by omega) ?_
    obtain rfl : i = n := by omega
    rw [List.take_of_length_le (by omega)] at ht
    rw [ht]
    exact Ev.now _
  | succ d ih =>
    intro i m hi hm ht
    refine Ev.succ ?_
    simp only [laws_markIntS.l0]
    refine Ev.pos (by omega) ?_
    refine Ev.pos (by omega) ?_
    rw [wrap_nat (by omega), wrap_id (by omega) (by omega), show a + (i : Int) + 1 = a + ((i + 1 : Nat) : Int) by omega]
    refine ih (i + 1) _ (by omega) (by simpa using hm) ?_
    rw [Int.toNat_natCast, List.take_succ_eq_append_getElem (by simp; omega), List.take_set_of_le (Nat.le_refl _), ht]
    simp [marks, List.range_succ]
theorem markI (l : List Int) (a : Int) (ha : 0 ≤ a) (hb : a + l.length < 9223372036854775807) : Ev (fun k => laws_markIntS.f k l a) (a + l.length, marks a l.length) := by
  unfold laws_markIntS.f
  have := mark_loop l.length a ha hb l.length 0 l (by omega) rfl (by simp [marks])
  simpa using this
theorem held_loop (n : Nat) (a : Int) (ha : 0 ≤ a) (hb : a + n < 9223372036854775807) (d : Nat) : ∀ (i : Nat), i + d = n →
    Ev (fun k => laws_heldIntS.l0 k (marks a n) (a + i) i) (a + n) := by
  induction d with
  | zero =>
    intro i hi
    refine Ev.succ ?_
    simp only [laws_heldIntS.l0, marks_length]
    refine Ev.neg (by omega) ?_
    obtain rfl : i = n := by omega
    exact Ev.now _
  | succ d ih =>
    intro i hi
    refine Ev.succ ?_
    have hr : rd (marks a n) (i : Int) = a + i := by rw [rd_get (by rw [marks_length]; omega)]; simp [marks]
    simp only [laws_heldIntS.l0, marks_length]
    refine Ev.pos (by omega) ?_
    refine Ev.pos (by omega) ?_
    refine Ev.pos hr ?_
    rw [wrap_nat (by omega), wrap_id (by omega) (by omega), show a + (i : Int) + 1 = a + ((i + 1 : Nat) : Int) by omega]
    exact ih (i + 1) (by omega)
theorem heldI (n : Nat) (a : Int) (ha : 0 ≤ a) (hb : a + n < 9223372036854775807) : Ev (fun k => laws_heldIntS.f k (marks a n) a) (a + n) := by
  unfold laws_heldIntS.f
  have := held_loop n a ha hb n 0 (by omega)
  simpa using this
/-! a test at each index -/
def allB (p : Nat → Bool) : Nat → Nat → Bool
  | _, 0 => true
  | i, d + 1 => p i && allB p (i + 1) d
theorem allB_iff (p : Nat → Bool) : ∀ (d i : Nat), allB p i d = true ↔ ∀ j, i ≤ j → j < i + d → p j = true
  | 0, i => by simp only [allB, true_iff]; intro j h1 h2; omega
  | d + 1, i => by
    simp only [allB, Bool.and_eq_true, allB_iff p d (i + 1)]
    refine ⟨fun ⟨h, h'⟩ j h1 h2 => ?_, fun h => ⟨h i (by omega) (by omega), fun j h1 h2 => h j (by omega) (by omega)⟩⟩
    by_cases e : j = i
    · rw [e]; exact h
    · exact h' j (by omega) (by omega)
theorem allB_congr {p q : Nat → Bool} {i d : Nat} (h : ∀ j, i ≤ j → j < i + d → p j = q j) : allB p i d = allB q i d := by
  rw [Bool.eq_iff_iff, allB_iff, allB_iff]
  exact ⟨fun hp j h1 h2 => by rw [← h j h1 h2]; exact hp j h1 h2, fun hp j h1 h2 => by rw [h j h1 h2]; exact hp j h1 h2⟩
end Go.Proofs.Ythfnceilapgloaa.Base
