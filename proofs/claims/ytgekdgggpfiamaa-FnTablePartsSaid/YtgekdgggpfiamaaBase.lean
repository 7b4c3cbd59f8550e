/- Small facts that the other texts share: rounds, indexes, the copies, comparisons and marks of lists of whole numbers. No condition beyond the lengths named. -/
import Derived.Test.YtgekdgggpfiamaaPx0
namespace Go.Proofs.Ytgekdgggpfiamaa.Base
open Go.RowKit Go.Proofs.Ytgekdgggpfiamaa.P Go.Proofs.YtgekdgggpfiamaaW.PrintWords Go.Proofs.YtgekdgggpfiamaaW.PrintLast Go.Proofs.YtgekdgggpfiamaaW.PrintMore
set_option linter.unusedVariables false
set_option linter.unusedSimpArgs false

theorem Ev.succ {α : Type} {g : Nat → Option α} {r : α} (h : Ev (fun k => g (k + 1)) r) : Ev g r := Ev.step (fun _ => rfl) h
theorem Ev.pos {α : Type} {c : Prop} [Decidable c] {a b : Nat → Option α} {r : α} (hc : c) (h : Ev a r) : Ev (fun k => if c then a k else b k) r := by
  simp only [if_pos hc]; exact h
theorem Ev.neg {α : Type} {c : Prop} [Decidable c] {a b : Nat → Option α} {r : α} (hc : ¬ c) (h : Ev b r) : Ev (fun k => if c then a k else b k) r := by
  simp only [if_neg hc]; exact h
theorem Ev.split {α : Type} {c : Prop} [Decidable c] {a b : Nat → Option α} {r : α} (h : c → Ev a r) (h' : ¬ c → Ev b r) : Ev (fun k => if c then a k else b k) r := by
  by_cases hc : c
  · exact Ev.pos hc (h hc)
  · exact Ev.neg hc (h' hc)
theorem Ev.val {α : Type} {g : Nat → Option α} {r s : α} (h : Ev g r) (e : r = s) : Ev g s := e ▸ h
theorem wrap_id {x : Int} (h : -9223372036854775808 ≤ x) (h' : x ≤ 9223372036854775807) : wrap64 x = x := by unfold wrap64; omega
theorem wrap_nat {i : Nat} (h : i < 9223372036854775807) : wrap64 ((i : Int) + 1) = ((i + 1 : Nat) : Int) := by unfold wrap64; omega
theorem rd_get {xs : List Int} {i : Nat} (h : i < xs.length) : rd xs (i : Int) = xs[i] := by
  simp [rd, List.getD, List.getElem?_eq_getElem h]
theorem rd_neg_at (xs : List Int) (i : Int) : rd xs i = xs.getD i.toNat 0 := rfl
theorem drop_cons {α : Type} {xs : List α} {i : Nat} (h : i < xs.length) : xs.drop i = xs[i] :: xs.drop (i + 1) := List.drop_eq_getElem_cons h
theorem lt_cast {i n : Nat} (h : i < n) : (i : Int) < (n : Int) := by omega
theorem not_lt_cast {i n : Nat} (h : ¬ i < n) : ¬ (i : Int) < (n : Int) := by omega

/-! lists of whole numbers -/

/-- What marking leaves: a, a + 1, .. -/
def marks (a : Int) (n : Nat) : List Int := (List.range n).map fun (j : Nat) => a + (j : Int)
theorem marks_length (a : Int) (n : Nat) : (marks a n).length = n := by simp [marks]
/-! a test at each index -/
def allB (p : Nat → Bool) : Nat → Nat → Bool
  | _, 0 => true
  | i, d + 1 => p i && allB p (i + 1) d
theorem allB_iff (p : Nat → Bool) : ∀ (d i : Nat), allB p i d = true ↔ ∀ j, i ≤ j → j < i + d → p j = true
  | 0, i => by simp only [allB, true_iff]; intro j h1 h2; omega
  | d + 1, i => by
    simp only [allB, Bool.and_eq_true, allB_iff p d (i + 1)]
    refine ⟨fun ⟨h, h'⟩ j h1 h2 => ?_, fun h => ⟨h i (by omega) (by omega), fun j h1 h2 => h j (by omega) (by omega)⟩⟩
    by_cases e : j = i
    · rw [e]; exact h
    · exact h' j (by omega) (by omega)
theorem allB_congr {p q : Nat → Bool} {i d : Nat} (h : ∀ j, i ≤ j → j < i + d → p j = q j) : allB p i d = allB q i d := by
  rw [Bool.eq_iff_iff, allB_iff, allB_iff]
  exact ⟨fun hp j h1 h2 => by rw [← h j h1 h2]; exact hp j h1 h2, fun hp j h1 h2 => by rw [h j h1 h2]; exact hp j h1 h2⟩
end Go.Proofs.Ytgekdgggpfiamaa.Base
