/- strconv.Itoa's text of a number below 100, as bytes. -/
import Derived.Test.YtfekgidcnidijaaDoorNumText

namespace Go.Proofs.YtfekgidcnidijaaDoor.Bytes
open Go.RowKit Go.Proofs.YtfekgidcnidijaaDoor.P Go.Proofs.YtfekgidcnidijaaDoor.Base Go.Proofs.YtfekgidcnidijaaDoorW.PrintWords Go.Proofs.YtfekgidcnidijaaDoorW.PrintLast Go.Proofs.YtfekgidcnidijaaDoorW.PrintMore
set_option linter.unusedVariables false
set_option linter.unusedSimpArgs false
theorem bytesOf_list (l : List UInt8) : bytesOf (⟨l.toArray⟩ : ByteArray) = l.map fun b => ((b.toNat : Nat) : Int) := rfl
theorem itoa (n : Nat) (h : n < 100) : ∃ t : ByteArray, strconv_Itoa_31.f (n : Int) = some t ∧ bytesOf t = digits n := by
  refine ⟨⟨(Lib.decDigits n).toArray⟩, ?_, ?_⟩
  · unfold strconv_Itoa_31.f
    rw [if_pos (by omega), if_pos (by omega), Int.toNat_natCast]
  · rw [bytesOf_list]
    by_cases h1 : n < 10
    · rw [Lib.decDigits_one h1, digits_small h1]
      simp only [List.map_cons, List.map_nil, UInt8.toNat_ofNat', List.cons.injEq, and_true]
      omega
    · rw [Lib.decDigits_two h1 h, digits_big h1, digits_small (by omega)]
      simp only [List.map_cons, List.map_nil, UInt8.toNat_ofNat', List.cons_append, List.nil_append, List.cons.injEq, and_true]
      omega
end Go.Proofs.YtfekgidcnidijaaDoor.Bytes
