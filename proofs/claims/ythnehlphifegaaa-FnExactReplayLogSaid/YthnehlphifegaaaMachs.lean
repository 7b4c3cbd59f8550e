/- The logs of a machine: the program's and the reference's. -/
import Derived.Test.YthnehlphifegaaaRun
import Derived.Test.YthnehlphifegaaaPx0
import Derived.Test.YthnehlphifegaaaPx6
import Derived.Test.YthnehlphifegaaaPx11
namespace Go.Proofs.Ythnehlphifegaaa.Run
open Go.RowKit Go.Proofs.Ythnehlphifegaaa.P Go.Proofs.Ythnehlphifegaaa.Base Go.Proofs.Ythnehlphifegaaa.Board Go.Proofs.YthnehlphifegaaaW.PrintWords Go.Proofs.YthnehlphifegaaaW.PrintLast Go.Proofs.YthnehlphifegaaaW.PrintMore
set_option linter.unusedVariables false
set_option linter.unusedSimpArgs false
theorem rdF_get {xs : List FS} {i : Nat} (h : i < xs.length) : rd_T61 xs (i : Int) = xs[i] := by
  simp [rd_T61, List.getD, List.getElem?_eq_getElem h]
theorem loOf_loop (es : List E) (he : es.length ≤ 60) {r c : Int} {cs : List C} {x3 x4 x5 x6 x7 : Int} (d : Nat) : ∀ i : Nat, i + d = es.length →
    Ev (fun k => spec_loOf.l0 k (es.map (·.f0)) (es.take i) (es.map (·.f1)) es.length i r c cs x3 x4 x5 x6 x7) (es, r, c, cs, x3, x4, x5, x6, x7) := by
  induction d with
  | zero =>
    intro i hi
    refine Ev.succ ?_
    simp only [spec_loOf.l0]
    refine Ev.neg (by omega) (Ev.val (Ev.now _) ?_)
    rw [List.take_of_length_le (by omega)]
  | succ d ih =>
    intro i hi
    refine Ev.succ ?_
    simp only [spec_loOf.l0]
    refine Ev.pos (by omega) (Ev.pos (by omega) (Ev.pos (by simp; omega) (Ev.pos (by simp; omega) (Ev.pos (by simp; omega) ?_))))
    rw [wrap_nat (by omega), rd_get (by simp; omega), rdF_get (by simp; omega)]
    have := ih (i + 1) (by omega)
    rw [List.take_succ_eq_append_getElem (by omega)] at this
    simp only [List.getElem_map]
    exact this
theorem loOf {es : List E} (he : es.length ≤ 60) {r c r' c' : Int} {cs cs' : List C} {x3 x4 x5 x6 x7 y3 y4 y5 y6 y7 n : Int}
    (h : Ev (fun k => spec_maRun.f k r c cs x3 x4 x5 x6 x7 n) (r', c', cs', y3, y4, y5, y6, y7, es.map (·.f0), es.map (·.f1))) :
    Ev (fun k => spec_loOf.f k r c cs x3 x4 x5 x6 x7 n) (es, r', c', cs', y3, y4, y5, y6, y7) := by
  unfold spec_loOf.f
  refine Ev.bind h ?_
  have := loOf_loop es he (r := r') (c := c') (cs := cs') (x3 := y3) (x4 := y4) (x5 := y5) (x6 := y6) (x7 := y7) es.length 0 (by omega)
  simpa using this
end Go.Proofs.Ythnehlphifegaaa.Run
