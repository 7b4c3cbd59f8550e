--MINI
/- Marks of boards. -/
import Derived.Test.YtbpfdbjnnlmdjaaBoard
import Derived.Test.YtbpfdbjnnlmdjaaPx1
namespace Go.Proofs.Ytbpfdbjnnlmdjaa.Board
open Go.RowKit Go.Proofs.Ytbpfdbjnnlmdjaa.P Go.Proofs.Ytbpfdbjnnlmdjaa.Base Go.Proofs.YtbpfdbjnnlmdjaaW.PrintWords Go.Proofs.YtbpfdbjnnlmdjaaW.PrintLast Go.Proofs.YtbpfdbjnnlmdjaaW.PrintMore
set_option linter.unusedVariables false
set_option linter.unusedSimpArgs false
def Ck (a : Int) (n : Nat) : List C := (List.range n).map fun (j : Nat) => (⟨a + 2 * (j : Int), a + 2 * (j : Int) + 1⟩ : C)
theorem aej (a : Int) (n : Nat) : (Ck a n).length = n := by simp [Ck]
theorem U3 (n : Nat) (a : Int) (ha : 0 ≤ a) (hb : a + 2 * n < 9223372036854775807) (d : Nat) : ∀ (i : Nat) (m : List C), i + d = n → m.length = n → m.take i = Ck a i →
    Ev (fun k => dE.l0 k m (a + 2 * i) i) (a + 2 * n, Ck a n) := by
  induction d with
  | zero =>
    intro i m hi hm ht
    refine Ev.succ ?_
    simp only [dE.l0]
    refine Ev.neg (by omega) ?_
    obtain rfl : i = n := by omega
    rw [List.take_of_length_le (by omega)] at ht
    rw [ht]
    exact Ev.now _
  | succ d ih =>
    intro i m hi hm ht
    refine Ev.succ ?_
    simp only [dE.l0]
    refine Ev.pos (by omega) (Ev.pos (by omega) ?_)
    simp only [Option.bind_some]
    have e1 : wrap64 (a + 2 * (i : Int) + 1) = a + 2 * (i : Int) + 1 := gH (by omega) (by omega)
    have e2 : wrap64 (a + 2 * (i : Int) + 1 + 1) = a + 2 * ((i + 1 : Nat) : Int) := by rw [gH (by omega) (by omega)]; omega
    rw [bI (by omega), e1, e2]
    refine ih (i + 1) _ (by omega) (by simpa using hm) ?_
    rw [Int.toNat_natCast, jI (by omega), jI (by simp; omega), List.take_succ_eq_append_getElem (by simp; omega), List.take_set_of_le (Nat.le_refl _), List.take_set_of_le (Nat.le_refl _), ht]
    simp [Ck, List.range_succ]
theorem Zq (r c : Int) (l : List C) (a : Int) (ha : 0 ≤ a) (hb : a + 2 * l.length < 9223372036854775807) : Ev (fun k => jb.f k r c l a) (a + 2 * l.length, Ck a l.length) := by
  unfold jb.f dE.f
  have := U3 l.length a ha hb l.length 0 l (by omega) rfl (by simp [Ck])
  refine Ev.bind (a := (a + 2 * l.length, Ck a l.length)) (by simpa using this) (Ev.now _)
end Go.Proofs.Ytbpfdbjnnlmdjaa.Board
