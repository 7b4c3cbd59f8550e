/- A log's marks are held. No condition beyond the lengths named. -/
import Derived.Test.YtfekgidcnidijaaDoorLogMark
import Derived.Test.YtfekgidcnidijaaDoorPx0
import Derived.Test.YtfekgidcnidijaaDoorPx3
namespace Go.Proofs.YtfekgidcnidijaaDoor.Log
open Go.RowKit Go.Proofs.YtfekgidcnidijaaDoor.P Go.Proofs.YtfekgidcnidijaaDoor.Base Go.Proofs.YtfekgidcnidijaaDoorW.PrintWords Go.Proofs.YtfekgidcnidijaaDoorW.PrintLast Go.Proofs.YtfekgidcnidijaaDoorW.PrintMore
set_option linter.unusedVariables false
set_option linter.unusedSimpArgs false
theorem heldLog_loop (n : Nat) (a : Int) (ha : 0 ≤ a) (hb : a + 4 * n < 9223372036854775807) (d : Nat) : ∀ (i : Nat), i + d = n →
    Ev (fun k => laws_heldLogEntryS.l0 k (marksL a n) (a + 4 * i) i) (a + 4 * n) := by
  induction d with
  | zero =>
    intro i hi
    refine Ev.succ ?_
    simp only [laws_heldLogEntryS.l0, marksL_length]
    refine Ev.neg (by omega) ?_
    obtain rfl : i = n := by omega
    exact Ev.now _
  | succ d ih =>
    intro i hi
    refine Ev.succ ?_
    have hr : rd_T66 (marksL a n) (i : Int) = entryAt (a + 4 * i) := by rw [rdE_get (by rw [marksL_length]; omega)]; simp [marksL]
    simp only [laws_heldLogEntryS.l0, marksL_length, hr]
    rw [wrap_nat (by omega), wrap_id (x := a + 4 * (i : Int) + 1) (by omega) (by omega), wrap_id (x := a + 4 * (i : Int) + 1 + 1) (by omega) (by omega), wrap_id (x := a + 4 * (i : Int) + 1 + 1 + 1) (by omega) (by omega), wrap_id (x := a + 4 * (i : Int) + 1 + 1 + 1 + 1) (by omega) (by omega)]
    refine Ev.pos (by omega) (Ev.pos (by omega) (Ev.pos rfl (Ev.pos rfl (Ev.pos ?_ (Ev.pos ?_ ?_)))))
    · show a + 4 * (i : Int) + 2 = _; omega
    · show a + 4 * (i : Int) + 3 = _; omega
    · rw [show a + 4 * (i : Int) + 1 + 1 + 1 + 1 = a + 4 * ((i + 1 : Nat) : Int) by omega]
      exact ih (i + 1) (by omega)
theorem heldLog (n : Nat) (a : Int) (ha : 0 ≤ a) (hb : a + 4 * n < 9223372036854775807) : Ev (fun k => laws_heldLogEntryS.f k (marksL a n) a) (a + 4 * n) := by
  unfold laws_heldLogEntryS.f
  have := heldLog_loop n a ha hb n 0 (by omega)
  simpa using this
end Go.Proofs.YtfekgidcnidijaaDoor.Log
