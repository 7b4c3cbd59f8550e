/- A log's marks: what marking leaves, and that it is held. No condition beyond the lengths named. -/
import Derived.Test.YtfekgidcnidijaaDoorLog
import Derived.Test.YtfekgidcnidijaaDoorPx0
import Derived.Test.YtfekgidcnidijaaDoorPx3
namespace Go.Proofs.YtfekgidcnidijaaDoor.Log
open Go.RowKit Go.Proofs.YtfekgidcnidijaaDoor.P Go.Proofs.YtfekgidcnidijaaDoor.Base Go.Proofs.YtfekgidcnidijaaDoorW.PrintWords Go.Proofs.YtfekgidcnidijaaDoorW.PrintLast Go.Proofs.YtfekgidcnidijaaDoorW.PrintMore
set_option linter.unusedVariables false
set_option linter.unusedSimpArgs false
def entryAt (a : Int) : LE := ⟨a, ⟨a + 1, a + 2, a + 3⟩⟩
def marksL (a : Int) (n : Nat) : List LE := (List.range n).map fun (j : Nat) => entryAt (a + 4 * (j : Int))
theorem marksL_length (a : Int) (n : Nat) : (marksL a n).length = n := by simp [marksL]
theorem rdE_set {m : List LE} {i : Nat} (h : i < m.length) (v : LE) : rd_T66 (m.set i v) (i : Int) = v := by
  rw [rdE_get (by simpa using h)]; simp
theorem markLog_loop (n : Nat) (a : Int) (ha : 0 ≤ a) (hb : a + 4 * n < 9223372036854775807) (d : Nat) : ∀ (i : Nat) (m : List LE), i + d = n → m.length = n → m.take i = marksL a i →
    Ev (fun k => laws_markLogEntryS.l0 k m (a + 4 * i) i) (a + 4 * n, marksL a n) := by
  induction d with
  | zero =>
    intro i m hi hm ht
    refine Ev.succ ?_
    simp only [laws_markLogEntryS.l0]
    refine Ev.neg (by omega) ?_
    obtain rfl : i = n := by omega
    rw [List.take_of_length_le (by omega)] at ht
    rw [ht]
    exact Ev.now _
  | succ d ih =>
    intro i m hi hm ht
    refine Ev.succ ?_
    simp only [laws_markLogEntryS.l0, Option.bind_some, Int.toNat_natCast]
    refine Ev.pos (by omega) (Ev.pos (by omega) ?_)
    rw [wrap_nat (by omega), wrap_id (x := a + 4 * (i : Int) + 1) (by omega) (by omega), wrap_id (x := a + 4 * (i : Int) + 1 + 1) (by omega) (by omega), wrap_id (x := a + 4 * (i : Int) + 1 + 1 + 1) (by omega) (by omega), wrap_id (x := a + 4 * (i : Int) + 1 + 1 + 1 + 1) (by omega) (by omega)]
    rw [rdE_set (by first | omega | (simp only [List.length_set]; omega)), List.set_set, rdE_set (by first | omega | (simp only [List.length_set]; omega)), List.set_set, rdE_set (by first | omega | (simp only [List.length_set]; omega)), List.set_set]
    rw [show a + 4 * (i : Int) + 1 + 1 + 1 + 1 = a + 4 * ((i + 1 : Nat) : Int) by omega]
    refine ih (i + 1) _ (by omega) (by simpa using hm) ?_
    rw [List.take_succ_eq_append_getElem (by simp; omega), List.take_set_of_le (Nat.le_refl _), ht]
    simp only [marksL, List.range_succ, List.map_append, List.map_cons, List.map_nil, List.getElem_set_self, entryAt]
    simp only [List.append_cancel_left_eq, List.cons.injEq, and_true]
    congr 2 <;> omega
theorem markLog (l : List LE) (a : Int) (ha : 0 ≤ a) (hb : a + 4 * l.length < 9223372036854775807) : Ev (fun k => laws_markLogEntryS.f k l a) (a + 4 * l.length, marksL a l.length) := by
  unfold laws_markLogEntryS.f
  have := markLog_loop l.length a ha hb l.length 0 l (by omega) rfl (by simp [marksL])
  simpa using this
end Go.Proofs.YtfekgidcnidijaaDoor.Log
