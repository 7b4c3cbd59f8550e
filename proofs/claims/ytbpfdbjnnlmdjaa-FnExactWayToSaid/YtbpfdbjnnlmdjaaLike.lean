--MINI
/- Boards of the same kinds of cells; a flip or a gear that turns. -/
import Derived.Test.YtbpfdbjnnlmdjaaBoard
import Derived.Test.YtbpfdbjnnlmdjaaPx0
namespace Go.Proofs.Ytbpfdbjnnlmdjaa.Board
open Go.RowKit Go.Proofs.Ytbpfdbjnnlmdjaa.P Go.Proofs.Ytbpfdbjnnlmdjaa.Base Go.Proofs.YtbpfdbjnnlmdjaaW.PrintWords Go.Proofs.YtbpfdbjnnlmdjaaW.PrintLast Go.Proofs.YtbpfdbjnnlmdjaaW.PrintMore
set_option linter.unusedVariables false
set_option linter.unusedSimpArgs false
/-- As many cells, of the same kinds. -/
def uD (a b : List C) : Prop := a.length = b.length ∧ ∀ i : Int, (aj a i).f0 = (aj b i).f0
theorem uD.refl (a : List C) : uD a a := ⟨rfl, fun _ => rfl⟩
theorem uD.trans {a b c : List C} (h : uD a b) (h' : uD b c) : uD a c := ⟨h.1.trans h'.1, fun i => (h.2 i).trans (h'.2 i)⟩
theorem Ou {cs : List C} (h : Cells cs) {i : Int} (h0 : 0 ≤ i) (h1 : i < cs.length) : Cell (aj cs i) := by
  obtain ⟨n, rfl⟩ := Int.eq_ofNat_of_zero_le h0
  have hn : n < cs.length := by omega
  rw [jI hn]
  exact h _ (List.getElem_mem hn)
def vJ (cs : List C) (i : Int) : List C := cs.set i.toNat ⟨(aj cs i).f0, wrap64 (1 - (aj cs i).f1)⟩
theorem wV (cs : List C) (i : Int) : uD (vJ cs i) cs := by
  refine ⟨by simp [vJ], fun j => ?_⟩
  simp only [aj, vJ, List.getD, List.getElem?_set]
  by_cases h : i.toNat = j.toNat
  · rw [if_pos h]
    by_cases h' : i.toNat < cs.length
    · rw [if_pos h', h, List.getElem?_eq_getElem (by omega)]; rfl
    · rw [if_neg h', List.getElem?_eq_none (by omega)]
  · rw [if_neg h]
theorem EP {cs : List C} (h : Cells cs) {i : Int} (h0 : 0 ≤ i) (h1 : i < cs.length) (hk : (aj cs i).f0 = 3 ∨ (aj cs i).f0 = 6) : Cells (vJ cs i) := by
  intro x hx
  rcases List.mem_or_eq_of_mem_set hx with hx | rfl
  · exact h x hx
  · have hc := Ou h h0 h1
    unfold Cell at hc ⊢
    have e : wrap64 (1 - (aj cs i).f1) = 1 - (aj cs i).f1 := gH (by omega) (by omega)
    simp only [e]
    omega
end Go.Proofs.Ytbpfdbjnnlmdjaa.Board
