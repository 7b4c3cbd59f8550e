--MINI
/- The board in the state with a number: the bits of a number, and the units that turn. -/
import Derived.Test.YtbpfdbjnnlmdjaaTurn
import Derived.Test.YtbpfdbjnnlmdjaaPx2
import Derived.Test.YtbpfdbjnnlmdjaaPx6
import Derived.Test.YtbpfdbjnnlmdjaaPx8
namespace Go.Proofs.Ytbpfdbjnnlmdjaa.Units
open Go.RowKit Go.Proofs.Ytbpfdbjnnlmdjaa.P Go.Proofs.Ytbpfdbjnnlmdjaa.Base Go.Proofs.Ytbpfdbjnnlmdjaa.Board Go.Proofs.Ytbpfdbjnnlmdjaa.Groups Go.Proofs.YtbpfdbjnnlmdjaaW.PrintWords Go.Proofs.YtbpfdbjnnlmdjaaW.PrintLast Go.Proofs.YtbpfdbjnnlmdjaaW.PrintMore
set_option linter.unusedVariables false
set_option linter.unusedSimpArgs false
theorem ay5 {n : Int} (h0 : 0 ≤ n) (h1 : n ≤ 9223372036854775807) : IntKind.u64.wrap n = n := by
  unfold IntKind.wrap
  simp [IntKind.bits, IntKind.signed]
  omega
def aqI (n : Int) (i : Nat) : Int := Go.bits .and .i64 (shr .i64 n (i : Int)) 1
/-- The m least bits of a number. -/
def yA (n : Int) (m : Nat) : List Int := (List.range m).map (aqI n)
theorem NL (n : Int) (m : Nat) : (yA n m).length = m := by simp [yA]
theorem L6 (n : Int) (m : Nat) : yA n (m + 1) = yA n m ++ [aqI n m] := by simp [yA, List.range_succ]
theorem Qd {n : Int} {m : Nat} (hm : m < 9223372036854775807) (d : Nat) : ∀ (i : Nat) (x : List Int), i + d = m → x.length = m → x.take i = yA n i →
    Ev (fun k => dA.l0 k n x m i) (yA n m) := by
  induction d with
  | zero =>
    intro i x hi hx ht
    obtain rfl : i = m := by omega
    refine Ev.succ ?_
    simp only [dA.l0]
    refine Ev.neg (by omega) (Ev.val (Ev.now _) ?_)
    rw [← ht, List.take_of_length_le (by omega)]
  | succ d ih =>
    intro i x hi hx ht
    refine Ev.succ ?_
    simp only [dA.l0]
    refine Ev.pos (by omega) (Ev.pos (by omega) (Ev.pos (by omega) ?_))
    rw [bI (by omega), Int.toNat_natCast]
    refine ih (i + 1) _ (by omega) (by simpa using hx) ?_
    rw [L6, List.take_succ_eq_append_getElem (by simp; omega), List.take_set_of_le (Nat.le_refl _), ht]
    simp [aqI]
theorem XT {n : Int} {m : Nat} (hm : m ≤ 1048576) : Ev (fun k => dA.f k n m) (yA n m) := by
  unfold dA.f
  refine Ev.pos (by omega) (Ev.pos (by omega) ?_)
  simp only [Option.bind_some, Int.toNat_natCast, List.length_replicate]
  exact Qd (by omega) m 0 _ (by omega) (by simp) (by simp [yA])
theorem ZB {r c : Int} {cs : List C} {n : Int} {m : Nat} (hm : m ≤ 90) {R : List C} (hR : Ev (fun k => ed.f k r c cs (yA n m)) (r, c, R)) (d : Nat) : ∀ (i : Nat), i + d = m →
    Ev (fun k => fQ.l0 k n (yA n i) m i r c cs) (r, c, R) := by
  induction d with
  | zero =>
    intro i hi
    obtain rfl : i = m := by omega
    refine Ev.succ ?_
    simp only [fQ.l0]
    exact Ev.neg (by omega) (Ev.bind hR (Ev.now _))
  | succ d ih =>
    intro i hi
    refine Ev.succ ?_
    simp only [fQ.l0, ay5 (show (0 : Int) ≤ (i : Int) by omega) (show (i : Int) ≤ 9223372036854775807 by omega)]
    refine Ev.pos (by omega) (Ev.pos (by omega) (Ev.pos (by rw [NL]; omega) ?_))
    rw [bI (by omega)]
    have := ih (i + 1) (by omega)
    rw [L6] at this
    exact this
/-- The board in a state. -/
theorem ahN {r c : Int} {cs : List C} (h : Board.Good r c cs) {U : List (List Int)} (hU : Us cs cs.length U) (u1 : Ev (fun k => aD.f k r c cs) U) (n : Int) :
    ∃ R, Ev (fun k => fQ.f k r c cs n) (r, c, R) ∧ Ev (fun k => aM.f k r c cs U (yA n U.length)) R ∧ R.length = cs.length ∧ uD R cs ∧ Board.Good r c R := by
  have hl := h.len
  have hf := hU.few
  obtain ⟨R, w1, w2, hR⟩ := adU h hU u1 (B := yA n U.length) (by rw [NL]; exact Nat.le_refl _)
  refine ⟨R, ?_, w2, hR⟩
  unfold fQ.f
  exact Ev.bind u1 (ZB (by omega) w1 U.length 0 (by omega))
end Go.Proofs.Ytbpfdbjnnlmdjaa.Units
