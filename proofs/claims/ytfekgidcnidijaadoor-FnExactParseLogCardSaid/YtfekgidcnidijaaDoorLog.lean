/- Logs: copies, comparisons, the program's and the reference's test of a log, and how far two logs agree. No condition beyond the lengths named. -/
import Derived.Test.YtfekgidcnidijaaDoorBase
import Derived.Test.YtfekgidcnidijaaDoorPx0
import Derived.Test.YtfekgidcnidijaaDoorPx1
import Derived.Test.YtfekgidcnidijaaDoorPx2
namespace Go.Proofs.YtfekgidcnidijaaDoor.Log
open Go.RowKit Go.Proofs.YtfekgidcnidijaaDoor.P Go.Proofs.YtfekgidcnidijaaDoor.Base Go.Proofs.YtfekgidcnidijaaDoorW.PrintWords Go.Proofs.YtfekgidcnidijaaDoorW.PrintLast Go.Proofs.YtfekgidcnidijaaDoorW.PrintMore
set_option linter.unusedVariables false
set_option linter.unusedSimpArgs false
abbrev LE := S66
abbrev rdE := rd_T66
abbrev zE := z66
theorem rdE_get {xs : List LE} {i : Nat} (h : i < xs.length) : rd_T66 xs (i : Int) = xs[i] := by
  simp [rd_T66, List.getD, List.getElem?_eq_getElem h]
theorem eqLog_loop (l : List LE) (hb : l.length < 9223372036854775807) (d : Nat) : ∀ (i : Nat), i + d = l.length → Ev (fun k => laws_eqLogEntryS.l0 k l l i) true := by
  induction d with
  | zero =>
    intro i hi
    refine Ev.succ ?_
    simp only [laws_eqLogEntryS.l0]
    exact Ev.neg (by omega) (Ev.now _)
  | succ d ih =>
    intro i hi
    refine Ev.succ ?_
    simp only [laws_eqLogEntryS.l0, laws_eqLogEntry.f, laws_eqFall.f, if_true, Option.bind_some]
    refine Ev.pos (by omega) (Ev.pos (by omega) (Ev.pos (by omega) ?_))
    rw [wrap_nat (by omega)]
    exact ih (i + 1) (by omega)
theorem eqLog_self (l : List LE) (hb : l.length < 9223372036854775807) : Ev (fun k => laws_eqLogEntryS.f k l l) true := by
  unfold laws_eqLogEntryS.f
  exact Ev.pos rfl (eqLog_loop l hb l.length 0 (by omega))

/-- A valid entry. -/
def Entry (x : LE) : Prop := 0 ≤ x.f0 ∧ x.f0 ≤ 1 ∧ 1 ≤ x.f1.f0 ∧ x.f1.f0 ≤ 3 ∧ 0 ≤ x.f1.f1 ∧ x.f1.f1 ≤ 10 ∧ -1 ≤ x.f1.f2 ∧ x.f1.f2 ≤ 9
instance (x : LE) : Decidable (Entry x) := by unfold Entry; infer_instance
def Entries (l : List LE) : Prop := ∀ x, x ∈ l → Entry x
instance (l : List LE) : Decidable (Entries l) := by unfold Entries; infer_instance
theorem entries_cons (x : LE) (l : List LE) : Entries (x :: l) ↔ Entry x ∧ Entries l := by simp [Entries]
def LGood (l : List LE) : Prop := l.length ≤ 60 ∧ Entries l
instance (l : List LE) : Decidable (LGood l) := by unfold LGood; infer_instance
theorem implIsLog_loop (l : List LE) (hb : l.length < 9223372036854775807) (d : Nat) : ∀ (i : Nat), i + d = l.length → Ev (fun k => impl_IsLog.l0 k l l.length i) (decide (Entries (l.drop i))) := by
  induction d with
  | zero =>
    intro i hi
    refine Ev.succ ?_
    simp only [impl_IsLog.l0]
    refine Ev.neg (by omega) (Ev.val (Ev.now _) ?_)
    rw [List.drop_of_length_le (by omega)]; simp [Entries]
  | succ d ih =>
    intro i hi
    refine Ev.succ ?_
    simp only [impl_IsLog.l0]
    refine Ev.pos (by omega) (Ev.pos (by omega) (Ev.pos (by omega) ?_))
    rw [wrap_nat (by omega), rdE_get (by omega), drop_cons (xs := l) (by omega)]
    simp only [entries_cons]
    have out : ¬ Entry l[i] → false = decide (Entry l[i] ∧ Entries (l.drop (i + 1))) := fun h => by simp only [h, false_and, decide_false]
    refine Ev.split (fun c => Ev.val (Ev.now _) (out fun h => by have := h; unfold Entry at this; omega)) (fun c1 => ?_)
    refine Ev.split (fun c => Ev.val (Ev.now _) (out fun h => by have := h; unfold Entry at this; omega)) (fun c2 => ?_)
    refine Ev.split (fun c => Ev.val (Ev.now _) (out fun h => by have := h; unfold Entry at this; omega)) (fun c3 => ?_)
    refine Ev.split (fun c => Ev.val (Ev.now _) (out fun h => by have := h; unfold Entry at this; omega)) (fun c4 => ?_)
    refine Ev.split (fun c => Ev.val (Ev.now _) (out fun h => by have := h; unfold Entry at this; omega)) (fun c5 => ?_)
    refine Ev.split (fun c => Ev.val (Ev.now _) (out fun h => by have := h; unfold Entry at this; omega)) (fun c6 => ?_)
    refine Ev.split (fun c => Ev.val (Ev.now _) (out fun h => by have := h; unfold Entry at this; omega)) (fun c7 => ?_)
    refine Ev.split (fun c => Ev.val (Ev.now _) (out fun h => by have := h; unfold Entry at this; omega)) (fun c8 => ?_)
    refine Ev.val (ih (i + 1) (by omega)) ?_
    have : Entry l[i] := by unfold Entry; omega
    simp only [this, true_and]
theorem implIsLog (l : List LE) (hb : l.length < 9223372036854775807) : Ev (fun k => impl_IsLog.f k l) (decide (LGood l)) := by
  unfold impl_IsLog.f
  refine Ev.split (fun c => Ev.val (Ev.now _) ?_) (fun c => Ev.val (implIsLog_loop l hb l.length 0 (by omega)) ?_)
  · symm; rw [decide_eq_false_iff_not]; rintro ⟨h, _⟩; omega
  · have : l.length ≤ 60 := by omega
    simp only [LGood, this, true_and, List.drop_zero]
theorem loEntry (x : LE) : spec_loEntry.f x.f0 x.f1.f0 x.f1.f1 x.f1.f2 = some (decide (Entry x)) := by
  unfold spec_loEntry.f spec_l1In.f Entry
  by_cases h1 : x.f0 ≥ 0 <;> by_cases h2 : x.f0 ≤ 1 <;> by_cases h3 : x.f1.f0 ≥ 1 <;> by_cases h4 : x.f1.f0 ≤ 3 <;> by_cases h5 : x.f1.f1 ≥ 0 <;> by_cases h6 : x.f1.f1 ≤ 10 <;> by_cases h7 : x.f1.f2 ≥ -1 <;> by_cases h8 : x.f1.f2 ≤ 9 <;> simp [h1, h2, h3, h4, h5, h6, h7, h8]
theorem loGood_loop (l : List LE) (hb : l.length < 9223372036854775807) (d : Nat) : ∀ (i : Nat), i + d = l.length → Ev (fun k => spec_loGood.l0 k l l l.length i) (decide (l.length ≤ 60 ∧ Entries (l.drop i))) := by
  induction d with
  | zero =>
    intro i hi
    refine Ev.succ ?_
    simp only [spec_loGood.l0]
    refine Ev.neg (by omega) (Ev.val (Ev.now _) ?_)
    rw [List.drop_of_length_le (by omega)]; simp [Entries]; omega
  | succ d ih =>
    intro i hi
    refine Ev.succ ?_
    simp only [spec_loGood.l0]
    refine Ev.pos (by omega) (Ev.pos (by omega) (Ev.pos (by omega) ?_))
    rw [wrap_nat (by omega), rdE_get (by omega), drop_cons (xs := l) (by omega), loEntry]
    simp only [entries_cons, Option.bind_some]
    refine Ev.split (fun c => Ev.val (ih (i + 1) (by omega)) ?_) (fun c => Ev.val (Ev.now _) ?_)
    · simp only [of_decide_eq_true c, true_and]
    · have c' := of_decide_eq_false (by simpa using c : decide (Entry l[i]) = false)
      simp only [c', false_and, and_false, decide_false]
theorem loGood (l : List LE) (hb : l.length < 9223372036854775807) : Ev (fun k => spec_loGood.f k l) (decide (LGood l)) := by
  unfold spec_loGood.f
  exact Ev.val (loGood_loop l hb l.length 0 (by omega)) (by simp only [List.drop_zero]; rfl)
end Go.Proofs.YtfekgidcnidijaaDoor.Log
