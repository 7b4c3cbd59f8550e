--MINI
/- The gear groups of a board hang on the kinds of its cells alone. No condition. -/
import Derived.Test.YtbpfdbjnnlmdjaaLike
import Derived.Test.YtbpfdbjnnlmdjaaPx0
import Derived.Test.YtbpfdbjnnlmdjaaPx1
import Derived.Test.YtbpfdbjnnlmdjaaPx2
namespace Go.Proofs.Ytbpfdbjnnlmdjaa.Board
open Go.RowKit Go.Proofs.Ytbpfdbjnnlmdjaa.P Go.Proofs.Ytbpfdbjnnlmdjaa.Base Go.Proofs.YtbpfdbjnnlmdjaaW.PrintWords Go.Proofs.YtbpfdbjnnlmdjaaW.PrintLast Go.Proofs.YtbpfdbjnnlmdjaaW.PrintMore
set_option linter.unusedVariables false
set_option linter.unusedSimpArgs false
theorem ahX (k : Nat) (x1 x5 x6 : Int) (x7 : List Int) (r c : Int) (a b : List C) : bH.j1 k x1 x5 x6 x7 r c a = bH.j1 k x1 x5 x6 x7 r c b := by
  cases k <;> simp only [bH.j1]
theorem ahY (k : Nat) (x1 x5 x6 : Int) (x7 : List Int) (r c : Int) (a b : List C) : bH.j0 k x1 x5 x6 x7 r c a = bH.j0 k x1 x5 x6 x7 r c b := by
  cases k <;> simp only [bH.j0, ahX _ _ _ _ _ _ _ a b]
theorem ZF (k : Nat) (r c : Int) (a b : List C) (i : Int) : bH.f k r c a i = bH.f k r c b i := by
  simp only [bH.f, ahY _ _ _ _ _ _ _ a b]
theorem IZ {r c : Int} {a b : List C} (hl : a.length = b.length) (hk : ∀ i : Int, (aj a i).f0 = (aj b i).f0) : ∀ k,
    (∀ x3 xC Qk, ax.l0 k x3 xC Qk r c a = ax.l0 k x3 xC Qk r c b) ∧
    (∀ x3 x5 x27 x28, ax.l1 k x3 x5 a x27 x28 r c a = ax.l1 k x3 x5 b x27 x28 r c b) ∧
    (∀ x3 x5 x6 x27 x28 x42, ax.j2 k x3 x5 x6 a x27 x28 x42 r c a = ax.j2 k x3 x5 x6 b x27 x28 x42 r c b) ∧
    (∀ x3 x5 x8 x9 x27 x28, ax.l2 k x3 x5 x8 x9 a x27 x28 r c a = ax.l2 k x3 x5 x8 x9 b x27 x28 r c b) ∧
    (∀ x3 x5 x8 x9 x27 x28 KU DN QQ, ax.l3 k x3 x5 x8 x9 a x27 x28 KU DN QQ r c a = ax.l3 k x3 x5 x8 x9 b x27 x28 KU DN QQ r c b)
  | 0 => by
    refine ⟨?_, ?_, ?_, ?_, ?_⟩ <;> intros
    · simp only [ax.l0]
    · simp only [ax.l1]
    · simp only [ax.j2]
    · simp only [ax.l2]
    · simp only [ax.l3]
  | k + 1 => by
    obtain ⟨i0, i1, i2, i3, i4⟩ := IZ (r := r) (c := c) hl hk k
    refine ⟨?_, ?_, ?_, ?_, ?_⟩ <;> intros
    · simp only [ax.l0, hl, i0, i1]
    · simp only [ax.l1, hl, jX.f, hk, i2]
    · simp only [ax.j2, i1, i3]
    · simp only [ax.l2, ZF _ _ _ a b, i1, i4]
    · simp only [ax.l3, hl, jX.f, hk, i3, i4]
theorem IY {r c : Int} {a b : List C} (h : uD a b) : (fun k => ax.f k r c a) = fun k => ax.f k r c b := by
  funext k
  simp only [ax.f, h.1, (IZ (r := r) (c := c) h.1 h.2 k).1]
end Go.Proofs.Ytbpfdbjnnlmdjaa.Board
