/- The gear groups of a board hang on the kinds of its cells alone. No condition. -/
import Derived.Test.YthnehlphifegaaaLike
import Derived.Test.YthnehlphifegaaaPx0
import Derived.Test.YthnehlphifegaaaPx3
import Derived.Test.YthnehlphifegaaaPx4
namespace Go.Proofs.Ythnehlphifegaaa.Board
open Go.RowKit Go.Proofs.Ythnehlphifegaaa.P Go.Proofs.Ythnehlphifegaaa.Base Go.Proofs.YthnehlphifegaaaW.PrintWords Go.Proofs.YthnehlphifegaaaW.PrintLast Go.Proofs.YthnehlphifegaaaW.PrintMore
set_option linter.unusedVariables false
set_option linter.unusedSimpArgs false
theorem near_j1 (k : Nat) (x1 x5 x6 : Int) (x7 : List Int) (r c : Int) (a b : List C) : spec_ggNear.j1 k x1 x5 x6 x7 r c a = spec_ggNear.j1 k x1 x5 x6 x7 r c b := by
  cases k <;> simp only [spec_ggNear.j1]
theorem near_j0 (k : Nat) (x1 x5 x6 : Int) (x7 : List Int) (r c : Int) (a b : List C) : spec_ggNear.j0 k x1 x5 x6 x7 r c a = spec_ggNear.j0 k x1 x5 x6 x7 r c b := by
  cases k <;> simp only [spec_ggNear.j0, near_j1 _ _ _ _ _ _ _ a b]
theorem near_same (k : Nat) (r c : Int) (a b : List C) (i : Int) : spec_ggNear.f k r c a i = spec_ggNear.f k r c b i := by
  simp only [spec_ggNear.f, near_j0 _ _ _ _ _ _ _ a b]
theorem groups_same {r c : Int} {a b : List C} (hl : a.length = b.length) (hk : ∀ i : Int, (rd_T98 a i).f0 = (rd_T98 b i).f0) : ∀ k,
    (∀ x3 x17 x18, spec_ggGroups.l0 k x3 x17 x18 r c a = spec_ggGroups.l0 k x3 x17 x18 r c b) ∧
    (∀ x3 x5 x27 x28, spec_ggGroups.l1 k x3 x5 a x27 x28 r c a = spec_ggGroups.l1 k x3 x5 b x27 x28 r c b) ∧
    (∀ x3 x5 x6 x27 x28 x42, spec_ggGroups.j2 k x3 x5 x6 a x27 x28 x42 r c a = spec_ggGroups.j2 k x3 x5 x6 b x27 x28 x42 r c b) ∧
    (∀ x3 x5 x8 x9 x27 x28, spec_ggGroups.l2 k x3 x5 x8 x9 a x27 x28 r c a = spec_ggGroups.l2 k x3 x5 x8 x9 b x27 x28 r c b) ∧
    (∀ x3 x5 x8 x9 x27 x28 x60 x61 x62, spec_ggGroups.l3 k x3 x5 x8 x9 a x27 x28 x60 x61 x62 r c a = spec_ggGroups.l3 k x3 x5 x8 x9 b x27 x28 x60 x61 x62 r c b)
  | 0 => by
    refine ⟨?_, ?_, ?_, ?_, ?_⟩ <;> intros
    · simp only [spec_ggGroups.l0]
    · simp only [spec_ggGroups.l1]
    · simp only [spec_ggGroups.j2]
    · simp only [spec_ggGroups.l2]
    · simp only [spec_ggGroups.l3]
  | k + 1 => by
    obtain ⟨i0, i1, i2, i3, i4⟩ := groups_same (r := r) (c := c) hl hk k
    refine ⟨?_, ?_, ?_, ?_, ?_⟩ <;> intros
    · simp only [spec_ggGroups.l0, hl, i0, i1]
    · simp only [spec_ggGroups.l1, hl, spec_ggGear.f, hk, i2]
    · simp only [spec_ggGroups.j2, i1, i3]
    · simp only [spec_ggGroups.l2, near_same _ _ _ a b, i1, i4]
    · simp only [spec_ggGroups.l3, hl, spec_ggGear.f, hk, i3, i4]
theorem groups_like {r c : Int} {a b : List C} (h : Like a b) : (fun k => spec_ggGroups.f k r c a) = fun k => spec_ggGroups.f k r c b := by
  funext k
  simp only [spec_ggGroups.f, h.1, (groups_same (r := r) (c := c) h.1 h.2 k).1]
end Go.Proofs.Ythnehlphifegaaa.Board
