/- The reference's split of a string at a byte: what it answers. Condition: at most 2^20 bytes. -/
import Derived.Test.YtfekgidcnidijaaDoorBytes
import Derived.Test.YtfekgidcnidijaaDoorPx2
namespace Go.Proofs.YtfekgidcnidijaaDoor.Bytes
open Go.RowKit Go.Proofs.YtfekgidcnidijaaDoor.P Go.Proofs.YtfekgidcnidijaaDoor.Base Go.Proofs.YtfekgidcnidijaaDoorW.PrintWords Go.Proofs.YtfekgidcnidijaaDoorW.PrintLast Go.Proofs.YtfekgidcnidijaaDoorW.PrintMore
set_option linter.unusedVariables false
set_option linter.unusedSimpArgs false
/-- The pieces of s from byte 'from' on, where the bytes from i on are still to be looked at. -/
def pieces (s : ByteArray) (c : Int) : Nat → Nat → Nat → List ByteArray
  | a, _, 0 => [s.extract a s.size]
  | a, i, d + 1 => if bt s i = c then s.extract a i :: pieces s c (i + 1) (i + 1) d else pieces s c a (i + 1) d
theorem pieces_length (s : ByteArray) (c : Int) : ∀ (d a i : Nat), (pieces s c a i d).length ≤ d + 1
  | 0, a, i => by simp [pieces]
  | d + 1, a, i => by
    have h1 := pieces_length s c d (i + 1) (i + 1)
    have h2 := pieces_length s c d a (i + 1)
    simp only [pieces]
    split <;> simp <;> omega
theorem pieces_none (s : ByteArray) (c : Int) : ∀ (d a i : Nat), (∀ j : Nat, i ≤ j → j < i + d → bt s (j : Int) ≠ c) → pieces s c a i d = [s.extract a s.size]
  | 0, a, i, _ => rfl
  | d + 1, a, i, h => by
    simp only [pieces]
    rw [if_neg (h i (by omega) (by omega))]
    exact pieces_none s c d a (i + 1) (fun j h1 h2 => h j (by omega) (by omega))
theorem split_loop (s : ByteArray) (c : Int) (hs : s.size ≤ 1048576) (d : Nat) : ∀ (a i : Nat) (acc : List ByteArray), i + d = s.size → a ≤ i → acc.length ≤ i →
    Ev (fun k => spec_l1Split.l0 k s c acc a i) (acc ++ pieces s c a i d) := by
  induction d with
  | zero =>
    intro a i acc hi ha hacc
    refine Ev.succ ?_
    simp only [spec_l1Split.l0]
    exact Ev.neg (by omega) (Ev.pos (by omega) (Ev.pos (by omega) (Ev.pos (by omega) (Ev.val (Ev.now _) (by simp [pieces])))))
  | succ d ih =>
    intro a i acc hi ha hacc
    refine Ev.succ ?_
    simp only [spec_l1Split.l0]
    refine Ev.pos (by omega) (Ev.pos (by omega) ?_)
    rw [wrap_nat (by omega)]
    refine Ev.split (fun e => ?_) (fun e => ?_)
    · refine Ev.pos (by omega) (Ev.pos (by omega) (Ev.pos (by omega) (Ev.pos (by omega) ?_)))
      refine Ev.val (ih (i + 1) (i + 1) _ (by omega) (by omega) (by simp; omega)) ?_
      simp only [pieces, if_pos e, Int.toNat_natCast, List.append_assoc, List.singleton_append]
    · refine Ev.val (ih a (i + 1) acc (by omega) (by omega) (by omega)) ?_
      simp only [pieces, if_neg e]
theorem l1Split (s : ByteArray) (c : Int) (hs : s.size ≤ 1048576) : Ev (fun k => spec_l1Split.f k s c) (pieces s c 0 0 s.size) := by
  unfold spec_l1Split.f
  exact Ev.val (split_loop s c hs s.size 0 0 [] (by omega) (by omega) (by simp)) (by simp)
end Go.Proofs.YtfekgidcnidijaaDoor.Bytes
