/- Marks of diagrams. -/
import Derived.Test.YtdkfgomjfigmbaaNodes
import Derived.Test.YtdkfgomjfigmbaaPx0
import Derived.Test.YtdkfgomjfigmbaaPx10
import Derived.Test.YtdkfgomjfigmbaaPx18
namespace Go.Proofs.Ytdkfgomjfigmbaa.Nodes
open Go.RowKit Go.Proofs.Ytdkfgomjfigmbaa.P Go.Proofs.Ytdkfgomjfigmbaa.Base Go.Proofs.YtdkfgomjfigmbaaW.PrintWords Go.Proofs.YtdkfgomjfigmbaaW.PrintLast Go.Proofs.YtdkfgomjfigmbaaW.PrintMore
set_option linter.unusedVariables false
set_option linter.unusedSimpArgs false
def mk3 (a : Int) (j : Nat) : Nd := ⟨a + 3 * (j : Int), a + 3 * (j : Int) + 1, a + 3 * (j : Int) + 2⟩
def marksN (a : Int) (n : Nat) : List Nd := (List.range n).map fun (j : Nat) => mk3 a j
theorem marksN_length (a : Int) (n : Nat) : (marksN a n).length = n := by simp [marksN]
theorem steps3 {a : Int} {i n : Nat} (ha : 0 ≤ a) (hb : a + 3 * n < 9223372036854775807) (h : i < n) : wrap64 (a + 3 * (i : Int) + 1) = a + 3 * (i : Int) + 1 ∧ wrap64 (a + 3 * (i : Int) + 1 + 1) = a + 3 * (i : Int) + 2 ∧ wrap64 (a + 3 * (i : Int) + 2 + 1) = a + 3 * ((i + 1 : Nat) : Int) :=
  ⟨wrap_id (by omega) (by omega), by rw [wrap_id (by omega) (by omega)]; omega, by rw [wrap_id (by omega) (by omega)]; omega⟩
theorem markN_loop (n : Nat) (a : Int) (ha : 0 ≤ a) (hb : a + 3 * n < 9223372036854775807) (d : Nat) : ∀ (i : Nat) (m : List Nd), i + d = n → m.length = n → m.take i = marksN a i →
    Ev (fun k => laws_markNodeS.l0 k m (a + 3 * i) i) (a + 3 * n, marksN a n) := by
  induction d with
  | zero =>
    intro i m hi hm ht
    refine Ev.succ ?_
    simp only [laws_markNodeS.l0]
    refine Ev.neg (by omega) ?_
    obtain rfl : i = n := by omega
    rw [List.take_of_length_le (by omega)] at ht
    rw [ht]
    exact Ev.now _
  | succ d ih =>
    intro i m hi hm ht
    refine Ev.succ ?_
    simp only [laws_markNodeS.l0]
    refine Ev.pos (by omega) (Ev.pos (by omega) ?_)
    simp only [Option.bind_some]
    obtain ⟨e1, e2, e3⟩ := steps3 (i := i) ha hb (by omega)
    rw [wrap_nat (by omega), e1, e2, e3]
    refine ih (i + 1) _ (by omega) (by simpa using hm) ?_
    rw [Int.toNat_natCast, rdN_get (by omega), rdN_get (by simp; omega), rdN_get (by simp; omega), List.take_succ_eq_append_getElem (by simp; omega), List.take_set_of_le (Nat.le_refl _), List.take_set_of_le (Nat.le_refl _), List.take_set_of_le (Nat.le_refl _), ht]
    simp [marksN, mk3, List.range_succ]
theorem markDiagram (n r : Int) (l : List Nd) (a : Int) (ha : 0 ≤ a) (hb : a + 3 * l.length < 9223372036854775807) : Ev (fun k => laws_markDiagram.f k n l r a) (a + 3 * l.length, marksN a l.length) := by
  unfold laws_markDiagram.f laws_markNodeS.f
  have := markN_loop l.length a ha hb l.length 0 l (by omega) rfl (by simp [marksN])
  exact Ev.bind (a := (a + 3 * l.length, marksN a l.length)) (by simpa using this) (Ev.now _)
theorem heldN_loop (n : Nat) (a : Int) (ha : 0 ≤ a) (hb : a + 3 * n < 9223372036854775807) (d : Nat) : ∀ (i : Nat), i + d = n →
    Ev (fun k => laws_heldNodeS.l0 k (marksN a n) (a + 3 * i) i) (a + 3 * n) := by
  induction d with
  | zero =>
    intro i hi
    refine Ev.succ ?_
    simp only [laws_heldNodeS.l0, marksN_length]
    refine Ev.neg (by omega) ?_
    obtain rfl : i = n := by omega
    exact Ev.now _
  | succ d ih =>
    intro i hi
    refine Ev.succ ?_
    have hr : rd_T63 (marksN a n) (i : Int) = mk3 a i := by rw [rdN_get (by rw [marksN_length]; omega)]; simp [marksN]
    obtain ⟨e1, e2, e3⟩ := steps3 (i := i) ha hb (by omega)
    simp only [laws_heldNodeS.l0, marksN_length, hr, mk3, e1, e2, e3, if_true]
    refine Ev.pos (by omega) (Ev.pos (by omega) ?_)
    rw [wrap_nat (by omega)]
    exact ih (i + 1) (by omega)
theorem heldDiagram (c r : Int) (n : Nat) (a : Int) (ha : 0 ≤ a) (hb : a + 3 * n < 9223372036854775807) : Ev (fun k => laws_heldDiagram.f k c (marksN a n) r a) (a + 3 * n) := by
  unfold laws_heldDiagram.f laws_heldNodeS.f
  refine Ev.bind (a := a + 3 * n) ?_ (Ev.neg (by omega) (Ev.now _))
  have := heldN_loop n a ha hb n 0 (by omega)
  simpa using this
end Go.Proofs.Ytdkfgomjfigmbaa.Nodes
