--MINI
/- The units of a board hang on the kinds of its cells alone. No condition. -/
import Derived.Test.YtbpfdbjnnlmdjaaSameG
import Derived.Test.YtbpfdbjnnlmdjaaPx0
import Derived.Test.YtbpfdbjnnlmdjaaPx2
namespace Go.Proofs.Ytbpfdbjnnlmdjaa.Board
open Go.RowKit Go.Proofs.Ytbpfdbjnnlmdjaa.P Go.Proofs.Ytbpfdbjnnlmdjaa.Base Go.Proofs.YtbpfdbjnnlmdjaaW.PrintWords Go.Proofs.YtbpfdbjnnlmdjaaW.PrintLast Go.Proofs.YtbpfdbjnnlmdjaaW.PrintMore
set_option linter.unusedVariables false
set_option linter.unusedSimpArgs false
theorem Ma {r c : Int} {a b : List C} (hl : a.length = b.length) (hk : ∀ i : Int, (aj a i).f0 = (aj b i).f0) : ∀ k,
    (∀ x3 x4 HZ xC, aD.l0 k x3 x4 HZ xC r c a = aD.l0 k x3 x4 HZ xC r c b) ∧
    (∀ x3 x4 x6 qx x27, aD.l1 k x3 x4 x6 a qx x27 = aD.l1 k x3 x4 x6 b qx x27) ∧
    (∀ x3 x4 x6 x7 qx x27 x41 f0 f1 f1', aD.j2 k x3 x4 x6 x7 a qx x27 x41 f0 f1 = aD.j2 k x3 x4 x6 x7 b qx x27 x41 f0 f1')
  | 0 => by
    refine ⟨?_, ?_, ?_⟩ <;> intros
    · simp only [aD.l0]
    · simp only [aD.l1]
    · simp only [aD.j2]
  | k + 1 => by
    obtain ⟨i0, i1, i2⟩ := Ma (r := r) (c := c) hl hk k
    refine ⟨?_, ?_, ?_⟩
    · intros; simp only [aD.l0, hl, i0, i1]
    · intro x3 x4 x6 qx x27
      have e : ∀ x7 x41 (i : Int), aD.j2 k x3 x4 x6 x7 a qx x27 x41 (aj b i).f0 (aj a i).f1 = aD.j2 k x3 x4 x6 x7 b qx x27 x41 (aj b i).f0 (aj b i).f1 := fun x7 x41 i => i2 _ _ _ _ _ _ _ _ _ _
      simp only [aD.l1, hl, hk, i1, e]
    · intros; simp only [aD.j2, i1]
theorem U8 {r c : Int} {a b : List C} (h : uD a b) : (fun k => aD.f k r c a) = fun k => aD.f k r c b := by
  funext k
  have hg : ax.f k r c a = ax.f k r c b := congrFun (IY h) k
  simp only [aD.f, h.1, hg, (Ma (r := r) (c := c) h.1 h.2 k).1]
end Go.Proofs.Ytbpfdbjnnlmdjaa.Board
