/- The pure statement of the law FnExactBitsText. -/
import Derived.Test.YtakihdabbpconaaBoardMark
import Derived.Test.YtakihdabbpconaaBits
import Derived.Test.YtakihdabbpconaaPx20
import Derived.Test.YtakihdabbpconaaPx21
namespace Go.Proofs.Ytakihdabbpconaa.PureFnExactBitsText
open Go.RowKit Go.Proofs.Ytakihdabbpconaa.P Go.Proofs.Ytakihdabbpconaa.Base Go.Proofs.Ytakihdabbpconaa.Board Go.Proofs.Ytakihdabbpconaa.Units Go.Proofs.YtakihdabbpconaaW.PrintWords Go.Proofs.YtakihdabbpconaaW.PrintLast Go.Proofs.YtakihdabbpconaaW.PrintMore
set_option linter.unusedVariables false
set_option linter.unusedSimpArgs false
theorem nums_append (x y : List Int) : strOfNums (x ++ y) = strOfNums x ++ strOfNums y := by
  unfold strOfNums
  apply ByteArray.ext
  simp [ByteArray.data_append]
def dig (x : Int) : Int := (wrap64 (48 + x)) % 256
theorem spec_loop {B : List Int} (hB : B.length ≤ 90) (h : ∀ x ∈ B, x = 0 ∨ x = 1) (d : Nat) : ∀ (i : Nat), i + d = B.length →
    Ev (fun k => spec_BitsText.l0 k (strOfNums ((B.take i).map dig)) B B.length i) (strOfNums (B.map dig), true) := by
  induction d with
  | zero =>
    intro i hi
    refine Ev.succ ?_
    simp only [spec_BitsText.l0]
    refine Ev.neg (by omega) (Ev.val (Ev.now _) ?_)
    rw [List.take_of_length_le (by omega)]
  | succ d ih =>
    intro i hi
    have hx := h _ (List.getElem_mem (show i < B.length by omega))
    refine Ev.succ ?_
    simp only [spec_BitsText.l0]
    refine Ev.pos (by omega) (Ev.pos (by omega) (Ev.pos (by omega) ?_))
    rw [rd_get (by omega)]
    refine Ev.bind (a := strOfNums [dig B[i]]) (Ev.succ ?_) ?_
    · simp only [spec_l1Num.f]
      exact Ev.pos (by omega) (Ev.now _)
    · have hs : ∀ l : List Int, (strOfNums l).size = l.length := fun l => by unfold strOfNums; simp [ByteArray.size]
      refine Ev.pos (by rw [hs, hs]; simp; omega) ?_
      rw [← nums_append, wrap_nat (by omega)]
      have := ih (i + 1) (by omega)
      rw [List.take_succ_eq_append_getElem (by omega), List.map_append] at this
      exact this
theorem impl_loop {B : List Int} (hB : B.length ≤ 90) (d : Nat) : ∀ (i : Nat), i + d = B.length →
    Ev (fun k => impl_digitsOf.l0 k ((B.take i).map dig) B B.length i) (strOfNums (B.map dig)) := by
  induction d with
  | zero =>
    intro i hi
    refine Ev.succ ?_
    simp only [impl_digitsOf.l0]
    refine Ev.neg (by omega) (Ev.val (Ev.now _) ?_)
    rw [List.take_of_length_le (by omega)]
  | succ d ih =>
    intro i hi
    refine Ev.succ ?_
    simp only [impl_digitsOf.l0]
    refine Ev.pos (by omega) (Ev.pos (by omega) (Ev.pos (by omega) (Ev.pos (by simp; omega) ?_)))
    rw [rd_get (by omega), wrap_nat (by omega)]
    have := ih (i + 1) (by omega)
    rw [List.take_succ_eq_append_getElem (by omega), List.map_append] at this
    exact this
theorem both (r c : Int) (cs : List C) (hb : cs.length ≤ 1048576) : ∃ (B : ByteArray) (ok : Bool), Ev (fun k => spec_BitsText.f k r c cs) (B, ok) ∧ Ev (fun k => impl_BitsText.f k r c cs) (B, ok) := by
  by_cases h : Board.Good r c cs
  · obtain ⟨U, hU, _, _, s, i, h01⟩ := bitsOK h
    have := hU.few
    have hl := h.len
    have hB : (U.map (bitAt cs)).length ≤ 90 := by simp; omega
    refine ⟨strOfNums ((U.map (bitAt cs)).map dig), true, ?_, ?_⟩
    · unfold spec_BitsText.f
      exact Ev.bind (spec_yes h) (Ev.pos rfl (Ev.bind s (spec_loop hB h01 _ 0 (Nat.zero_add _))))
    · unfold impl_BitsText.f impl_digitsOf.f
      exact Ev.bind (impl_yes h) (Ev.pos rfl (Ev.bind i (Ev.bind (impl_loop hB _ 0 (Nat.zero_add _)) (Ev.now _))))
  · refine ⟨(⟨#[]⟩ : ByteArray), false, ?_, ?_⟩
    · unfold spec_BitsText.f
      exact Ev.bind (spec_no h hb) (Ev.neg (by simp) (Ev.now _))
    · unfold impl_BitsText.f
      exact Ev.bind (impl_no h hb) (Ev.neg (by simp) (Ev.now _))
theorem law : ∀ (a0_0 : Int) (a0_1 : Int) (l0_2 : List CL), l0_2.length ≤ 9223372036854775807 → ∃ k, laws_FnExactBitsText.f k a0_0 a0_1 l0_2 = some true := by
  intro r c l hl
  apply Ev.rounds
  unfold laws_FnExactBitsText.f
  rw [szBoard r c l 1048576 hl (by omega) (by omega)]
  simp only [Option.bind_some]
  refine Ev.split (fun _ => Ev.now _) (fun c0 => ?_)
  have hb : l.length ≤ 1048576 := by split at c0 <;> omega
  have hm : (l.map convC).length ≤ 1048576 := by simpa using hb
  obtain ⟨B, ok, hs, hi⟩ := both r c (l.map convC) hm
  repeat' first
    | exact Ev.now true
    | dsimp only
    | with_reducible refine Ev.bind hs ?_
    | with_reducible refine Ev.bind hi ?_
    | with_reducible refine Ev.bind (toBoard _ _ _ (by omega)) ?_
    | with_reducible refine Ev.bind (eqBoard_self _ _ _ (by omega)) ?_
    | refine Ev.pos rfl ?_
    | (refine Ev.neg ?_ ?_; focus (first | omega | (simp; done)))
    | (with_reducible refine Ev.succ (g := fun k => laws_FnExactBitsText.j0 k _ _ _ _ _ _ _) ?_; simp only [laws_FnExactBitsText.j0])
end Go.Proofs.Ytakihdabbpconaa.PureFnExactBitsText
