/- A table's marks: what marking leaves, and that it is held. No condition beyond the lengths named. -/
import Derived.Test.YtifojdcnhlofkaaTab
import Derived.Test.YtifojdcnhlofkaaPx2
namespace Go.Proofs.Ytifojdcnhlofkaa.Tab
open Go.RowKit Go.Proofs.Ytifojdcnhlofkaa.P Go.Proofs.Ytifojdcnhlofkaa.Base Go.Proofs.YtifojdcnhlofkaaW.PrintWords Go.Proofs.YtifojdcnhlofkaaW.PrintLast Go.Proofs.YtifojdcnhlofkaaW.PrintMore
set_option linter.unusedVariables false
set_option linter.unusedSimpArgs false
theorem markTab (n : Int) (l : List Int) (a : Int) (ha : 0 ≤ a) (hb : a + l.length < 9223372036854775807) : Ev (fun k => laws_markTable.f k n l a) (a + l.length, marks a l.length) := by
  unfold laws_markTable.f
  exact Ev.bind (markI l a ha hb) (Ev.now _)
theorem heldTab (n : Int) (m : Nat) (a : Int) (ha : 0 ≤ a) (hb : a + m < 9223372036854775807) : Ev (fun k => laws_heldTable.f k n (marks a m) a) (a + m) := by
  unfold laws_heldTable.f
  exact Ev.bind (heldI m a ha hb) (Ev.neg (by omega) (Ev.now _))
end Go.Proofs.Ytifojdcnhlofkaa.Tab
