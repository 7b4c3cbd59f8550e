/- How many entries two logs have in common at their begin: the program's and the reference's loop. No condition beyond the lengths named. -/
import Derived.Test.YthnehlphifegaaaLog
import Derived.Test.YthnehlphifegaaaPx13
namespace Go.Proofs.Ythnehlphifegaaa.Log
open Go.RowKit Go.Proofs.Ythnehlphifegaaa.P Go.Proofs.Ythnehlphifegaaa.Base Go.Proofs.YthnehlphifegaaaW.PrintWords Go.Proofs.YthnehlphifegaaaW.PrintLast Go.Proofs.YthnehlphifegaaaW.PrintMore
set_option linter.unusedVariables false
set_option linter.unusedSimpArgs false
def eqE (a b : LE) : Bool := (a.f0 == b.f0 && (a.f1.f0 == b.f1.f0 && (a.f1.f1 == b.f1.f1 && a.f1.f2 == b.f1.f2)))
def agree : List LE → List LE → Nat
  | a :: l, b :: m => if eqE a b = true then agree l m + 1 else 0
  | _, _ => 0
theorem agree_le : ∀ (l m : List LE), agree l m ≤ l.length ∧ agree l m ≤ m.length
  | [], m => by simp [agree]
  | a :: l, [] => by simp [agree]
  | a :: l, b :: m => by
    have := agree_le l m
    simp only [agree]
    split <;> simp <;> omega
theorem agree_loop (l m : List LE) (hb : l.length < 9223372036854775807) (d : Nat) : ∀ (i : Nat), i ≤ l.length → i ≤ m.length → l.length - i = d →
    Ev (fun k => impl_agreeing.l0 k l m i) ((i + agree (l.drop i) (m.drop i) : Nat) : Int) := by
  induction d with
  | zero =>
    intro i h1 h2 hd
    refine Ev.succ ?_
    simp only [impl_agreeing.l0]
    refine Ev.neg (by omega) (Ev.val (Ev.now _) ?_)
    rw [List.drop_of_length_le (l := l) (by omega)]; simp [agree]
  | succ d ih =>
    intro i h1 h2 hd
    refine Ev.succ ?_
    simp only [impl_agreeing.l0]
    refine Ev.pos (by omega) ?_
    refine Ev.split (fun c => ?_) (fun c => Ev.val (Ev.now _) ?_)
    · have hm : i < m.length := by omega
      refine Ev.pos (by omega) ?_
      rw [wrap_nat (by omega), rdE_get (by omega), rdE_get hm, drop_cons (xs := l) (by omega), drop_cons hm]
      refine Ev.split (fun c => Ev.val (ih (i + 1) (by omega) (by omega) (by omega)) ?_) (fun c => Ev.val (Ev.now _) ?_)
      · have : eqE l[i] m[i] = true := c
        simp only [agree, this, if_true]; omega
      · have : ¬ eqE l[i] m[i] = true := c
        simp only [agree, if_neg this]; rfl
    · rw [List.drop_of_length_le (l := m) (by omega), drop_cons (xs := l) (by omega)]; simp [agree]
theorem implAgree (l m : List LE) (hb : l.length < 9223372036854775807) : Ev (fun k => impl_agreeing.f k l m) (agree l m : Nat) := by
  unfold impl_agreeing.f
  exact Ev.val (agree_loop l m hb l.length 0 (by omega) (by omega) (by omega)) (by simp)
theorem agree_same : ∀ (k : Nat) a b c, spec_loAgree.l0 k a b c = impl_agreeing.l0 k a b c
  | 0, _, _, _ => rfl
  | k + 1, _, _, _ => by simp only [spec_loAgree.l0, impl_agreeing.l0, agree_same k]
theorem loAgree (l m : List LE) (hb : l.length < 9223372036854775807) : Ev (fun k => spec_loAgree.f k l m) (agree l m : Nat) := by
  unfold spec_loAgree.f
  simp only [agree_same]
  exact implAgree l m hb
end Go.Proofs.Ythnehlphifegaaa.Log
