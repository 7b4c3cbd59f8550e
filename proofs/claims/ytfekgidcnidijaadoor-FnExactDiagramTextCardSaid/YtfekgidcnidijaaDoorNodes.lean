/- Diagrams: copies and comparisons of nodes. No condition beyond the lengths named. -/
import Derived.Test.YtfekgidcnidijaaDoorBase
import Derived.Test.YtfekgidcnidijaaDoorPx0
import Derived.Test.YtfekgidcnidijaaDoorPx2
import Derived.Test.YtfekgidcnidijaaDoorPx3
import Derived.Test.YtfekgidcnidijaaDoorPx4
import Derived.Test.YtfekgidcnidijaaDoorPx5
namespace Go.Proofs.YtfekgidcnidijaaDoor.Nodes
open Go.RowKit Go.Proofs.YtfekgidcnidijaaDoor.P Go.Proofs.YtfekgidcnidijaaDoor.Base Go.Proofs.YtfekgidcnidijaaDoorW.PrintWords Go.Proofs.YtfekgidcnidijaaDoorW.PrintLast Go.Proofs.YtfekgidcnidijaaDoorW.PrintMore
set_option linter.unusedVariables false
set_option linter.unusedSimpArgs false
abbrev Nd := S86
abbrev NdL := S105
theorem rdN_get {xs : List Nd} {i : Nat} (h : i < xs.length) : rd_T86 xs (i : Int) = xs[i] := by
  simp [rd_T86, List.getD, List.getElem?_eq_getElem h]
theorem rdNL_get {xs : List NdL} {i : Nat} (h : i < xs.length) : rd_T105 xs (i : Int) = xs[i] := by
  simp [rd_T105, List.getD, List.getElem?_eq_getElem h]
def convN (x : NdL) : Nd := ⟨x.f0, x.f1, x.f2⟩
theorem szDiagram (n r : Int) (l : List NdL) (a : Int) (hl : l.length ≤ 9223372036854775807) (h0 : -1 ≤ a) (h1 : a ≤ 9223372036854775807) :
    laws_szDiagram.f n l r a = some (if a < l.length then -1 else a - l.length) := by
  unfold laws_szDiagram.f laws_szNodeS.f
  rw [wrap_id (by omega) (by omega)]
  by_cases c : a < l.length
  · rw [if_pos (show a - (l.length : Int) < 0 by omega), if_pos c]; rfl
  · rw [if_neg (show ¬ a - (l.length : Int) < 0 by omega), if_neg c]
    simp only [Option.bind_some]
    rw [if_neg (by omega)]
theorem toNodes_loop (l : List NdL) (hl : l.length ≤ 8796093022208) (d : Nat) : ∀ (i : Nat) (m : List Nd), i + d = l.length → m.length = l.length → m.take i = (l.map convN).take i →
    Ev (fun k => laws_toNodeS.l0 k l m i) (l.map convN) := by
  induction d with
  | zero =>
    intro i m hi hm ht
    refine Ev.succ ?_
    simp only [laws_toNodeS.l0]
    refine Ev.neg (by omega) ?_
    refine Ev.val (Ev.now m) ?_
    rw [List.take_of_length_le (by omega), List.take_of_length_le (by simp; omega)] at ht
    exact ht
  | succ d ih =>
    intro i m hi hm ht
    refine Ev.succ ?_
    simp only [laws_toNodeS.l0, laws_toNode.f, Option.bind_some]
    refine Ev.pos (by omega) (Ev.pos (by omega) (Ev.pos (by omega) ?_))
    rw [wrap_nat (by omega)]
    refine ih (i + 1) _ (by omega) (by simpa using hm) ?_
    rw [Int.toNat_natCast, rdNL_get (by omega), List.take_succ_eq_append_getElem (by simp; omega), List.take_succ_eq_append_getElem (by simp; omega), List.take_set_of_le (Nat.le_refl _), ht]
    simp [convN]
theorem toDiagram (n r : Int) (l : List NdL) (hl : l.length ≤ 1048576) : Ev (fun k => laws_toDiagram.f k n l r) (n, l.map convN, r) := by
  unfold laws_toDiagram.f laws_toNodeS.f
  refine Ev.bind (a := l.map convN) ?_ (Ev.now _)
  refine Ev.pos (by omega) (Ev.pos (by omega) ?_)
  exact toNodes_loop l (by omega) l.length 0 _ (by omega) (by simp) rfl
theorem eqNodes_loop (l : List Nd) (hb : l.length < 9223372036854775807) (d : Nat) : ∀ (i : Nat), i + d = l.length → Ev (fun k => laws_eqNodeS.l0 k l l i) true := by
  induction d with
  | zero =>
    intro i hi
    refine Ev.succ ?_
    simp only [laws_eqNodeS.l0]
    exact Ev.neg (by omega) (Ev.now _)
  | succ d ih =>
    intro i hi
    refine Ev.succ ?_
    simp only [laws_eqNodeS.l0, laws_eqNode.f, if_true, Option.bind_some]
    refine Ev.pos (by omega) (Ev.pos (by omega) (Ev.pos (by omega) ?_))
    rw [wrap_nat (by omega)]
    exact ih (i + 1) (by omega)
theorem eqDiagram_self (n r : Int) (l : List Nd) (hb : l.length < 9223372036854775807) : Ev (fun k => laws_eqDiagram.f k n l r n l r) true := by
  unfold laws_eqDiagram.f laws_eqNodeS.f
  exact Ev.pos rfl (Ev.bind (a := true) (Ev.pos rfl (eqNodes_loop l hb l.length 0 (by omega))) (Ev.pos rfl (Ev.pos rfl (Ev.now _))))
end Go.Proofs.YtfekgidcnidijaaDoor.Nodes
