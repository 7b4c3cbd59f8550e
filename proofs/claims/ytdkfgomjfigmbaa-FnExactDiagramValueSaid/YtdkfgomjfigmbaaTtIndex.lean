/- The index of inputs, as the reference's loop tells it: the number with these bits. Condition: at most 60 bits, each 0 or 1. -/
import Derived.Test.YtdkfgomjfigmbaaNum
import Derived.Test.YtdkfgomjfigmbaaPx24
namespace Go.Proofs.Ytdkfgomjfigmbaa.Num
open Go.RowKit Go.Proofs.Ytdkfgomjfigmbaa.P Go.Proofs.Ytdkfgomjfigmbaa.Base Go.Proofs.Ytdkfgomjfigmbaa.Bit Go.Proofs.Ytdkfgomjfigmbaa.Tab Go.Proofs.YtdkfgomjfigmbaaW.PrintWords Go.Proofs.YtdkfgomjfigmbaaW.PrintLast Go.Proofs.YtdkfgomjfigmbaaW.PrintMore
set_option linter.unusedVariables false
set_option linter.unusedSimpArgs false
theorem ttIndex_loop (l : List Int) (hb : Bits l) (hl : l.length ≤ 60) (d : Nat) : ∀ (i : Nat), i + d = l.length → Ev (fun k => spec_ttIndex.l0 k (num (l.take i) : Nat) l l.length i) (num l : Nat) := by
  induction d with
  | zero =>
    intro i hi
    refine Ev.succ ?_
    simp only [spec_ttIndex.l0]
    refine Ev.neg (by omega) (Ev.val (Ev.now _) ?_)
    rw [List.take_of_length_le (by omega)]
  | succ d ih =>
    intro i hi
    refine Ev.succ ?_
    simp only [spec_ttIndex.l0]
    refine Ev.pos (by omega) (Ev.pos (by omega) (Ev.pos (by omega) ?_))
    obtain ⟨h1, h2, h3, h4, h5⟩ := num_step hb (i := i) (by omega) hl
    have h6 : l[i].toNat * 2 ^ i < 2 ^ 61 := by
      have := Nat.mul_le_mul_right (2 ^ i) h4
      omega
    rw [wrapU (by omega) (by omega)]
    refine Ev.pos (by omega) ?_
    rw [wrap_nat (by omega), rd_get (by omega), h3, shl_nat _ _ (by omega) (by omega), wrap_id (by omega) (by omega), ← Int.natCast_add, ← h2]
    exact ih (i + 1) (by omega)
theorem ttIndex (l : List Int) (hb : Bits l) (hl : l.length ≤ 60) : Ev (fun k => spec_ttIndex.f k l) (num l : Nat) := by
  unfold spec_ttIndex.f
  exact ttIndex_loop l hb hl l.length 0 (by omega)
end Go.Proofs.Ytdkfgomjfigmbaa.Num
