/- Lists of bits: what the program's and the reference's tests of one answer. No condition beyond the length named. -/
import Derived.Test.YtakihdabbpconaaBase
import Derived.Test.YtakihdabbpconaaPx2
import Derived.Test.YtakihdabbpconaaPx25
namespace Go.Proofs.Ytakihdabbpconaa.Tab
open Go.RowKit Go.Proofs.Ytakihdabbpconaa.P Go.Proofs.Ytakihdabbpconaa.Base Go.Proofs.YtakihdabbpconaaW.PrintWords Go.Proofs.YtakihdabbpconaaW.PrintLast Go.Proofs.YtakihdabbpconaaW.PrintMore
set_option linter.unusedVariables false
set_option linter.unusedSimpArgs false

def Bits (l : List Int) : Prop := ∀ x, x ∈ l → x = 0 ∨ x = 1
instance (l : List Int) : Decidable (Bits l) := by unfold Bits; infer_instance
theorem Bits.nil : Bits [] := by simp [Bits]
theorem bits_cons (x : Int) (l : List Int) : Bits (x :: l) ↔ (x = 0 ∨ x = 1) ∧ Bits l := by simp [Bits]
theorem Bits.get {l : List Int} (h : Bits l) {i : Nat} (hi : i < l.length) : l[i] = 0 ∨ l[i] = 1 := h _ (List.getElem_mem hi)
theorem areBits_loop (l : List Int) (hb : l.length < 9223372036854775807) (d : Nat) : ∀ (i : Nat), i + d = l.length → Ev (fun k => impl_areBits.l0 k l l.length i) (decide (Bits (l.drop i))) := by
  induction d with
  | zero =>
    intro i hi
    refine Ev.succ ?_
    simp only [impl_areBits.l0]
    refine Ev.neg (by omega) ?_
    refine Ev.val (Ev.now _) ?_
    rw [List.drop_of_length_le (by omega)]; simp [Bits.nil]
  | succ d ih =>
    intro i hi
    refine Ev.succ ?_
    simp only [impl_areBits.l0]
    refine Ev.pos (by omega) ?_
    refine Ev.pos (by omega) ?_
    refine Ev.pos (by omega) ?_
    rw [wrap_nat (by omega), rd_get (by omega), drop_cons (xs := l) (by omega)]
    simp only [bits_cons]
    refine Ev.split (fun c => Ev.val (ih (i + 1) (by omega)) (by simp only [c, true_or, true_and])) (fun c => ?_)
    refine Ev.split (fun c' => Ev.val (ih (i + 1) (by omega)) (by simp only [c', or_true, true_and])) (fun c' => ?_)
    exact Ev.val (Ev.now _) (by simp only [c, c', or_false, false_and, decide_false])
theorem areBits (l : List Int) (hb : l.length < 9223372036854775807) : Ev (fun k => impl_areBits.f k l) (decide (Bits l)) := areBits_loop l hb l.length 0 (by omega)
theorem l1In (a b c : Int) : spec_l1In.f a b c = some (decide (b ≤ a ∧ a ≤ c)) := by
  unfold spec_l1In.f
  by_cases h : a ≥ b <;> simp [h]
def Within (lo hi : Int) (l : List Int) : Prop := ∀ x, x ∈ l → lo ≤ x ∧ x ≤ hi
instance (lo hi : Int) (l : List Int) : Decidable (Within lo hi l) := by unfold Within; infer_instance
theorem within_cons (lo hi x : Int) (l : List Int) : Within lo hi (x :: l) ↔ (lo ≤ x ∧ x ≤ hi) ∧ Within lo hi l := by simp [Within]
theorem l1All_loop (l : List Int) (lo up : Int) (hb : l.length < 9223372036854775807) (d : Nat) : ∀ (i : Nat), i + d = l.length → Ev (fun k => spec_l1All.l0 k lo up l l.length i) (decide (Within lo up (l.drop i))) := by
  induction d with
  | zero =>
    intro i hi
    refine Ev.succ ?_
    simp only [spec_l1All.l0]
    refine Ev.neg (by omega) ?_
    refine Ev.val (Ev.now _) ?_
    rw [List.drop_of_length_le (by omega)]; simp [Within]
  | succ d ih =>
    intro i hi
    refine Ev.succ ?_
    simp only [spec_l1All.l0]
    refine Ev.pos (by omega) ?_
    refine Ev.pos (by omega) ?_
    refine Ev.pos (by omega) ?_
    rw [wrap_nat (by omega), rd_get (by omega), drop_cons (xs := l) (by omega)]
    simp only [within_cons, l1In, Option.bind_some]
    refine Ev.split (fun c => Ev.val (ih (i + 1) (by omega)) ?_) (fun c => Ev.val (Ev.now _) ?_)
    · simp only [of_decide_eq_true c, and_self, true_and]
    · have c' := of_decide_eq_false (by simpa using c : decide (lo ≤ l[i] ∧ l[i] ≤ up) = false)
      simp only [c', false_and, decide_false]
theorem l1All (l : List Int) (lo hi : Int) (hb : l.length < 9223372036854775807) : Ev (fun k => spec_l1All.f k l lo hi) (decide (Within lo hi l)) := l1All_loop l lo hi hb l.length 0 (by omega)
theorem within_bits (l : List Int) : Within 0 1 l ↔ Bits l := by
  unfold Within Bits
  refine ⟨fun h x hx => ?_, fun h x hx => ?_⟩ <;> have := h x hx <;> omega
theorem l1All_bits (l : List Int) (hb : l.length < 9223372036854775807) : Ev (fun k => spec_l1All.f k l 0 1) (decide (Bits l)) := Ev.val (l1All l 0 1 hb) (by simp only [within_bits])
end Go.Proofs.Ytakihdabbpconaa.Tab
