import Derived.Test.YtbpfdbjnnlmdjaaTurn
import Derived.Test.YtbpfdbjnnlmdjaaPx1
import Derived.Test.YtbpfdbjnnlmdjaaPx3
import Derived.Test.YtbpfdbjnnlmdjaaPx4
namespace Go.Proofs.Ytbpfdbjnnlmdjaa.Units
open Go.RowKit P Base Board Groups YtbpfdbjnnlmdjaaW.PrintWords
set_option linter.all false
theorem wrapU {n : Int} (h0 : 0 ≤ n) (h1 : n ≤ 9223372036854775807) : IntKind.u64.wrap n = n := by
  unfold IntKind.wrap
  simp [IntKind.bits, IntKind.signed]
  omega
def bitN (n : Int) (i : Nat) : Int := Go.bits .and .i64 (shr .i64 n (i : Int)) 1
def bitsN (n : Int) (m : Nat) : List Int := (List.range m).map (bitN n)
theorem bitsN_len (n : Int) (m : Nat) : (bitsN n m).length = m := by simp [bitsN]
theorem bitsN_succ (n : Int) (m : Nat) : bitsN n (m + 1) = bitsN n m ++ [bitN n m] := by simp [bitsN, List.range_succ]
theorem bitList_loop {n : Int} {m : Nat} (hm : m < 9223372036854775807) (d : Nat) : ∀ (i : Nat) (x : List Int), i + d = m → x.length = m → x.take i = bitsN n i →
    Ev (fun k => impl_bitList.l0 k n x m i) (bitsN n m) := by
  induction d with
  | zero =>
    intro i x hi hx ht
    obtain rfl : i = m := by omega
    refine Ev.succ ?_
    simp only [impl_bitList.l0]
    refine Ev.neg (by omega) (Ev.val (Ev.now _) ?_)
    rw [← ht, List.take_of_length_le (by omega)]
  | succ d ih =>
    intro i x hi hx ht
    refine Ev.succ ?_
    simp only [impl_bitList.l0]
    refine Ev.pos (by omega) (Ev.pos (by omega) (Ev.pos (by omega) ?_))
    rw [wrap_nat (by omega), Int.toNat_natCast]
    refine ih (i + 1) _ (by omega) (by simpa using hx) ?_
    rw [bitsN_succ, List.take_succ_eq_append_getElem (by simp; omega), List.take_set_of_le (Nat.le_refl _), ht]
    simp [bitN]
theorem bitList {n : Int} {m : Nat} (hm : m ≤ 1048576) : Ev (fun k => impl_bitList.f k n m) (bitsN n m) := by
  unfold impl_bitList.f
  refine Ev.pos (by omega) (Ev.pos (by omega) ?_)
  simp only [Option.bind_some, Int.toNat_natCast, List.length_replicate]
  exact bitList_loop (by omega) m 0 _ (by omega) (by simp) (by simp [bitsN])
theorem saIn_loop {r c : Int} {cs : List C} {n : Int} {m : Nat} (hm : m ≤ 90) {R : List C} (hR : Ev (fun k => spec_saWith.f k r c cs (bitsN n m)) (r, c, R)) (d : Nat) : ∀ (i : Nat), i + d = m →
    Ev (fun k => spec_saIn.l0 k n (bitsN n i) m i r c cs) (r, c, R) := by
  induction d with
  | zero =>
    intro i hi
    obtain rfl : i = m := by omega
    refine Ev.succ ?_
    simp only [spec_saIn.l0]
    exact Ev.neg (by omega) (Ev.bind hR (Ev.now _))
  | succ d ih =>
    intro i hi
    refine Ev.succ ?_
    simp only [spec_saIn.l0, wrapU (show (0 : Int) ≤ (i : Int) by omega) (show (i : Int) ≤ 9223372036854775807 by omega)]
    refine Ev.pos (by omega) (Ev.pos (by omega) (Ev.pos (by rw [bitsN_len]; omega) ?_))
    rw [wrap_nat (by omega)]
    have := ih (i + 1) (by omega)
    rw [bitsN_succ] at this
    exact this
theorem inState {r c : Int} {cs : List C} (h : Board.Good r c cs) {U : List (List Int)} (hU : Us cs cs.length U) (u1 : Ev (fun k => spec_saUnits.f k r c cs) U) (n : Int) :
    ∃ R, Ev (fun k => spec_saIn.f k r c cs n) (r, c, R) ∧ Ev (fun k => impl_setBits.f k r c cs U (bitsN n U.length)) R ∧ R.length = cs.length ∧ Like R cs ∧ Board.Good r c R := by
  have hl := h.len
  have hf := hU.few
  obtain ⟨R, w1, w2, hR⟩ := withBits h hU u1 (B := bitsN n U.length) (by rw [bitsN_len]; exact Nat.le_refl _)
  refine ⟨R, ?_, w2, hR⟩
  unfold spec_saIn.f
  exact Ev.bind u1 (saIn_loop (by omega) w1 U.length 0 (by omega))
end Go.Proofs.Ytbpfdbjnnlmdjaa.Units
