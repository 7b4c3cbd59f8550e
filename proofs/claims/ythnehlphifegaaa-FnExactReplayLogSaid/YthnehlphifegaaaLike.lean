/- Boards of the same kinds of cells; a flip or a gear that turns. -/
import Derived.Test.YthnehlphifegaaaBoard
import Derived.Test.YthnehlphifegaaaPx0
namespace Go.Proofs.Ythnehlphifegaaa.Board
open Go.RowKit Go.Proofs.Ythnehlphifegaaa.P Go.Proofs.Ythnehlphifegaaa.Base Go.Proofs.YthnehlphifegaaaW.PrintWords Go.Proofs.YthnehlphifegaaaW.PrintLast Go.Proofs.YthnehlphifegaaaW.PrintMore
set_option linter.unusedVariables false
set_option linter.unusedSimpArgs false
/-- As many cells, of the same kinds. -/
def Like (a b : List C) : Prop := a.length = b.length ∧ ∀ i : Int, (rd_T98 a i).f0 = (rd_T98 b i).f0
theorem Like.refl (a : List C) : Like a a := ⟨rfl, fun _ => rfl⟩
theorem Like.trans {a b c : List C} (h : Like a b) (h' : Like b c) : Like a c := ⟨h.1.trans h'.1, fun i => (h.2 i).trans (h'.2 i)⟩
theorem cell_at {cs : List C} (h : Cells cs) {i : Int} (h0 : 0 ≤ i) (h1 : i < cs.length) : Cell (rd_T98 cs i) := by
  obtain ⟨n, rfl⟩ := Int.eq_ofNat_of_zero_le h0
  have hn : n < cs.length := by omega
  rw [rdC_get hn]
  exact h _ (List.getElem_mem hn)
def flipAt (cs : List C) (i : Int) : List C := cs.set i.toNat ⟨(rd_T98 cs i).f0, wrap64 (1 - (rd_T98 cs i).f1)⟩
theorem flip_like (cs : List C) (i : Int) : Like (flipAt cs i) cs := by
  refine ⟨by simp [flipAt], fun j => ?_⟩
  simp only [rd_T98, flipAt, List.getD, List.getElem?_set]
  by_cases h : i.toNat = j.toNat
  · rw [if_pos h]
    by_cases h' : i.toNat < cs.length
    · rw [if_pos h', h, List.getElem?_eq_getElem (by omega)]; rfl
    · rw [if_neg h', List.getElem?_eq_none (by omega)]
  · rw [if_neg h]
theorem flip_cells {cs : List C} (h : Cells cs) {i : Int} (h0 : 0 ≤ i) (h1 : i < cs.length) (hk : (rd_T98 cs i).f0 = 3 ∨ (rd_T98 cs i).f0 = 6) : Cells (flipAt cs i) := by
  intro x hx
  rcases List.mem_or_eq_of_mem_set hx with hx | rfl
  · exact h x hx
  · have hc := cell_at h h0 h1
    unfold Cell at hc ⊢
    have e : wrap64 (1 - (rd_T98 cs i).f1) = 1 - (rd_T98 cs i).f1 := wrap_id (by omega) (by omega)
    simp only [e]
    omega
end Go.Proofs.Ythnehlphifegaaa.Board
