import Derived.Test.YtbpfdbjnnlmdjaaSameG
import Derived.Test.YtbpfdbjnnlmdjaaPx0
import Derived.Test.YtbpfdbjnnlmdjaaPx1
namespace Go.Proofs.Ytbpfdbjnnlmdjaa.Board
open Go.RowKit P Base YtbpfdbjnnlmdjaaW.PrintWords
set_option linter.all false
theorem units_same {r c : Int} {a b : List C} (hl : a.length = b.length) (hk : ∀ i : Int, (rd_T83 a i).f0 = (rd_T83 b i).f0) : ∀ k,
    (∀ x3 x4 x16 x17, spec_saUnits.l0 k x3 x4 x16 x17 r c a = spec_saUnits.l0 k x3 x4 x16 x17 r c b) ∧
    (∀ x3 x4 x6 x26 x27, spec_saUnits.l1 k x3 x4 x6 a x26 x27 = spec_saUnits.l1 k x3 x4 x6 b x26 x27) ∧
    (∀ x3 x4 x6 x7 x26 x27 x41 f0 f1 f1', spec_saUnits.j2 k x3 x4 x6 x7 a x26 x27 x41 f0 f1 = spec_saUnits.j2 k x3 x4 x6 x7 b x26 x27 x41 f0 f1')
  | 0 => by
    refine ⟨?_, ?_, ?_⟩ <;> intros
    · simp only [spec_saUnits.l0]
    · simp only [spec_saUnits.l1]
    · simp only [spec_saUnits.j2]
  | k + 1 => by
    obtain ⟨i0, i1, i2⟩ := units_same (r := r) (c := c) hl hk k
    refine ⟨?_, ?_, ?_⟩
    · intros; simp only [spec_saUnits.l0, hl, i0, i1]
    · intro x3 x4 x6 x26 x27
      have e : ∀ x7 x41 (i : Int), spec_saUnits.j2 k x3 x4 x6 x7 a x26 x27 x41 (rd_T83 b i).f0 (rd_T83 a i).f1 = spec_saUnits.j2 k x3 x4 x6 x7 b x26 x27 x41 (rd_T83 b i).f0 (rd_T83 b i).f1 := fun x7 x41 i => i2 _ _ _ _ _ _ _ _ _ _
      simp only [spec_saUnits.l1, hl, hk, i1, e]
    · intros; simp only [spec_saUnits.j2, i1]
theorem units_like {r c : Int} {a b : List C} (h : Like a b) : (fun k => spec_saUnits.f k r c a) = fun k => spec_saUnits.f k r c b := by
  funext k
  have hg : spec_ggGroups.f k r c a = spec_ggGroups.f k r c b := congrFun (groups_like h) k
  simp only [spec_saUnits.f, h.1, hg, (units_same (r := r) (c := c) h.1 h.2 k).1]
end Go.Proofs.Ytbpfdbjnnlmdjaa.Board
