/- The pure statement of the law FnExactTableText: its printed function comes to true, whatever the table. -/
import Derived.Test.YtfekgidcnidijaaDoorTtText
import Derived.Test.YtfekgidcnidijaaDoorItoaText
import Derived.Test.YtfekgidcnidijaaDoorPx1
import Derived.Test.YtfekgidcnidijaaDoorPx2
namespace Go.Proofs.YtfekgidcnidijaaDoor.PureFnExactTableText
open Go.RowKit Go.Proofs.YtfekgidcnidijaaDoor.P Go.Proofs.YtfekgidcnidijaaDoor.Base Go.Proofs.YtfekgidcnidijaaDoor.Tab Go.Proofs.YtfekgidcnidijaaDoor.Bytes Go.Proofs.YtfekgidcnidijaaDoorW.PrintWords Go.Proofs.YtfekgidcnidijaaDoorW.PrintLast Go.Proofs.YtfekgidcnidijaaDoorW.PrintMore
set_option linter.unusedVariables false
set_option linter.unusedSimpArgs false
def dig (x : Int) : Int := (wrap64 (48 + x)) % 256
theorem digits_loop {B : List Int} (hB : B.length ≤ 90) (d : Nat) : ∀ (i : Nat), i + d = B.length →
    Ev (fun k => impl_digitsOf.l0 k ((B.take i).map dig) B B.length i) (strOfNums (B.map dig)) := by
  induction d with
  | zero =>
    intro i hi
    refine Ev.succ ?_
    simp only [impl_digitsOf.l0]
    refine Ev.neg (by omega) (Ev.val (Ev.now _) ?_)
    rw [List.take_of_length_le (by omega)]
  | succ d ih =>
    intro i hi
    refine Ev.succ ?_
    simp only [impl_digitsOf.l0]
    refine Ev.pos (by omega) (Ev.pos (by omega) (Ev.pos (by omega) (Ev.pos (by simp; omega) ?_)))
    rw [rd_get (by omega), wrap_nat (by omega)]
    have := ih (i + 1) (by omega)
    rw [List.take_succ_eq_append_getElem (by omega), List.map_append] at this
    exact this
theorem digitsOf {l : List Int} (hl : l.length ≤ 16) (h : Bits l) : ∃ t : ByteArray, Ev (fun k => impl_digitsOf.f k l) t ∧ bytesOf t = l.map (fun x => 48 + x) := by
  refine ⟨strOfNums (l.map dig), ?_, ?_⟩
  · unfold impl_digitsOf.f
    exact digits_loop (B := l) (by omega) l.length 0 (Nat.zero_add _)
  · have e : l.map dig = l.map (fun x => 48 + x) := by
      apply List.map_congr_left
      intro x hx
      rcases h x hx with rfl | rfl <;> (unfold dig; rw [wrap_id (by omega) (by omega)]; omega)
    rw [e]
    refine bytesOf_nums _ fun x hx => ?_
    obtain ⟨y, hy, rfl⟩ := List.mem_map.1 hx
    rcases h y hy with rfl | rfl <;> decide
theorem both (n : Int) (l : List Int) (hb : l.length ≤ 1048576) : ∃ (a b : ByteArray) (ok : Bool), a.toList = b.toList ∧ Ev (fun k => spec_TableText.f k n l) (a, ok) ∧ Ev (fun k => impl_TableText.f k n l) (b, ok) := by
  by_cases h : TGood n l
  · have hl := h.len
    obtain ⟨s, e1, b1⟩ := ttText n l h
    obtain ⟨t, e2, b2⟩ := digitsOf (by omega) h.2.2.2
    have h0 := h.1
    have h4 := h.2.1
    obtain ⟨z, rfl⟩ := Int.eq_ofNat_of_zero_le h0
    obtain ⟨u, e3, b3⟩ := itoa z (by omega)
    rw [digits_small (by omega)] at b3
    have hc : bytesOf (⟨#[58]⟩ : ByteArray) = [58] := rfl
    have hu : u.size = 1 := by rw [size_of, b3]; rfl
    have hu2 : (u ++ (⟨#[58]⟩ : ByteArray)).size = 2 := by rw [size_of, bytesOf_append, b3, hc]; rfl
    have ht : t.size = l.length := by rw [size_of, b2]; simp
    refine ⟨s, (u ++ ⟨#[58]⟩) ++ t, true, ?_, ?_, ?_⟩
    · rw [toList_iff, b1, bytesOf_append, bytesOf_append, b2, b3, hc]; rfl
    · unfold spec_TableText.f
      exact Ev.bind (Ev.val (ttGood _ l (by omega)) (decide_eq_true h)) (Ev.pos rfl (Ev.bind e1 (Ev.now _)))
    · unfold impl_TableText.f
      refine Ev.bind (Ev.val (implIsTable _ l (by omega)) (decide_eq_true h)) (Ev.pos rfl ?_)
      rw [e3]
      simp only [Option.bind_some]
      exact Ev.pos (by omega) (Ev.bind e2 (Ev.pos (by omega) (Ev.now _)))
  · refine ⟨⟨#[]⟩, ⟨#[]⟩, false, rfl, ?_, ?_⟩
    · unfold spec_TableText.f
      exact Ev.bind (Ev.val (ttGood n l (by omega)) (decide_eq_false h)) (Ev.neg (by simp) (Ev.now _))
    · unfold impl_TableText.f
      exact Ev.bind (Ev.val (implIsTable n l (by omega)) (decide_eq_false h)) (Ev.neg (by simp) (Ev.now _))
theorem law : ∀ (a0_0 : Int) (l0_1 : List Int), l0_1.length ≤ 9223372036854775807 → ∃ k, laws_FnExactTableText.f k a0_0 l0_1 = some true := by
  intro n l hl
  apply Ev.rounds
  unfold laws_FnExactTableText.f
  rw [szTab n l 1048576 hl (by omega) (by omega)]
  simp only [Option.bind_some]
  refine Ev.split (fun _ => Ev.now _) (fun c => ?_)
  have hb : l.length ≤ 1048576 := by split at c <;> omega
  obtain ⟨a, b, ok, he, e1, e2⟩ := both n l hb
  refine Ev.bind (toTab n l hb) (Ev.bind e1 (Ev.bind (toTab n l hb) (Ev.bind e2 (Ev.pos he.symm (Ev.succ ?_)))))
  simp only [laws_FnExactTableText.j0]
  exact Ev.neg (by simp) (Ev.bind (toTab n l hb) (Ev.bind (eqTab_self n l (by omega)) (Ev.pos rfl (Ev.now _))))
end Go.Proofs.YtfekgidcnidijaaDoor.PureFnExactTableText
