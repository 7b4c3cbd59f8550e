/- The pure statement of the law FnExactArrivalColumns. -/
import Derived.Test.YthnehlphifegaaaRun
import Derived.Test.YthnehlphifegaaaMarkC
import Derived.Test.YthnehlphifegaaaPx0
import Derived.Test.YthnehlphifegaaaPx14
namespace Go.Proofs.Ythnehlphifegaaa.PureFnExactArrivalColumns
open Go.RowKit Go.Proofs.Ythnehlphifegaaa.P Go.Proofs.Ythnehlphifegaaa.Base Go.Proofs.Ythnehlphifegaaa.Board Go.Proofs.Ythnehlphifegaaa.Run Go.Proofs.YthnehlphifegaaaW.PrintWords Go.Proofs.YthnehlphifegaaaW.PrintLast Go.Proofs.YthnehlphifegaaaW.PrintMore
set_option linter.unusedVariables false
set_option linter.unusedSimpArgs false
def cols (es : List E) : List Int := (es.filter (fun x => x.f1.f0 == 1)).map (·.f1.f2)
theorem cols_len (es : List E) : (cols es).length ≤ es.length := by
  simp only [cols, List.length_map]
  exact List.length_filter_le _ _
theorem cols_take {es : List E} {i : Nat} (h : i < es.length) : cols (es.take (i + 1)) = if es[i].f1.f0 = 1 then cols (es.take i) ++ [es[i].f1.f2] else cols (es.take i) := by
  rw [List.take_succ_eq_append_getElem h]
  simp only [cols, List.filter_append, List.map_append]
  split
  · next e => simp [e]
  · next e => simp [e]
theorem take_len (es : List E) (i : Nat) : (cols (es.take i)).length ≤ es.length := Nat.le_trans (cols_len _) (by simp; omega)
theorem spec_loop (es : List E) (he : es.length ≤ 60) (d : Nat) : ∀ i : Nat, i + d = es.length → Ev (fun k => spec_ArrivalColumns.l0 k (cols (es.take i)) (es.map (·.f1)) es.length i) (cols es, true) := by
  induction d with
  | zero =>
    intro i hi
    refine Ev.succ ?_
    simp only [spec_ArrivalColumns.l0]
    refine Ev.neg (by omega) (Ev.val (Ev.now _) ?_)
    rw [List.take_of_length_le (by omega)]
  | succ d ih =>
    intro i hi
    have hl := take_len es i
    have hr : rd_T61 (es.map (·.f1)) (i : Int) = es[i].f1 := by
      simp [rd_T61, List.getD, List.getElem?_eq_getElem (show i < es.length by omega)]
    have h := ih (i + 1) (by omega)
    rw [cols_take (by omega)] at h
    refine Ev.succ ?_
    simp only [spec_ArrivalColumns.l0, hr]
    refine Ev.pos (by omega) (Ev.pos (by omega) (Ev.pos (by simp; omega) ?_))
    rw [wrap_nat (by omega)]
    refine Ev.split (fun e => Ev.pos (by omega) ?_) (fun e => ?_)
    · rw [if_pos e] at h; exact h
    · rw [if_neg e] at h; exact h
theorem impl_loop (es : List E) (he : es.length ≤ 60) (d : Nat) : ∀ i : Nat, i + d = es.length → Ev (fun k => impl_ArrivalColumns.l0 k (cols (es.take i)) es es.length i) (cols es, true) := by
  induction d with
  | zero =>
    intro i hi
    refine Ev.succ ?_
    simp only [impl_ArrivalColumns.l0]
    refine Ev.neg (by omega) (Ev.val (Ev.now _) ?_)
    rw [List.take_of_length_le (by omega)]
  | succ d ih =>
    intro i hi
    have hl := take_len es i
    have hr : rd_T66 es (i : Int) = es[i] := by
      simp [rd_T66, List.getD, List.getElem?_eq_getElem (show i < es.length by omega)]
    have h := ih (i + 1) (by omega)
    rw [cols_take (by omega)] at h
    refine Ev.succ ?_
    simp only [impl_ArrivalColumns.l0, hr]
    refine Ev.pos (by omega) (Ev.pos (by omega) (Ev.pos (by omega) ?_))
    rw [wrap_nat (by omega)]
    refine Ev.split (fun e => Ev.pos (by omega) ?_) (fun e => ?_)
    · rw [if_pos e] at h; exact h
    · rw [if_neg e] at h; exact h
theorem both (r c : Int) (cs : List C) (x3 x4 x5 x6 x7 : Int) (hb : cs.length ≤ 1048576) : ∃ (L : List Int) (ok : Bool), L.length ≤ 60 ∧ Ev (fun k => spec_ArrivalColumns.f k r c cs x3 x4 x5 x6 x7) (L, ok) ∧ Ev (fun k => impl_ArrivalColumns.f k r c cs x3 x4 x5 x6 x7) (L, ok) := by
  by_cases h : MGood r c cs x3 x4 x5 x6 x7
  · obtain ⟨F, hF⟩ := runs h
    obtain ⟨_, s, i⟩ := hF 60 (by omega)
    have hl := run_len F c x3 x4 60 (cs, x5, x6, x7)
    refine ⟨cols (run F c x3 x4 60 (cs, x5, x6, x7)).1, true, Nat.le_trans (cols_len _) hl, ?_, ?_⟩
    · unfold spec_ArrivalColumns.f
      refine Ev.bind (Ev.val (maGood r c cs x3 x4 x5 x6 x7 hb) (decide_eq_true h)) (Ev.pos rfl (Ev.bind s ?_))
      have := spec_loop _ hl _ 0 (Nat.zero_add _)
      simpa [cols] using this
    · unfold impl_ArrivalColumns.f
      refine Ev.bind (Ev.val (isMachine r c cs x3 x4 x5 x6 x7 hb) (decide_eq_true h)) (Ev.pos rfl (Ev.bind i ?_))
      have := impl_loop _ hl _ 0 (Nat.zero_add _)
      simpa [cols] using this
  · refine ⟨[], false, by simp, ?_, ?_⟩
    · unfold spec_ArrivalColumns.f
      exact Ev.bind (Ev.val (maGood r c cs x3 x4 x5 x6 x7 hb) (decide_eq_false h)) (Ev.neg (by simp) (Ev.now _))
    · unfold impl_ArrivalColumns.f
      exact Ev.bind (Ev.val (isMachine r c cs x3 x4 x5 x6 x7 hb) (decide_eq_false h)) (Ev.neg (by simp) (Ev.now _))
theorem law : ∀ (a0_0 : Int) (a0_1 : Int) (l0_2 : List CL) (a0_3 a0_4 a0_5 a0_6 a0_7 : Int), l0_2.length ≤ 9223372036854775807 → ∃ k, laws_FnExactArrivalColumns.f k a0_0 a0_1 l0_2 a0_3 a0_4 a0_5 a0_6 a0_7 = some true := by
  intro r c l x3 x4 x5 x6 x7 hl
  apply Ev.rounds
  unfold laws_FnExactArrivalColumns.f
  rw [szMachine r c l x3 x4 x5 x6 x7 1048576 hl (by omega) (by omega)]
  simp only [Option.bind_some]
  refine Ev.split (fun _ => Ev.now _) (fun c0 => ?_)
  have hb : l.length ≤ 1048576 := by split at c0 <;> omega
  have hm : (l.map convC).length ≤ 1048576 := by simpa using hb
  obtain ⟨L, ok, hL, hs, hi⟩ := both r c (l.map convC) x3 x4 x5 x6 x7 hm
  repeat' first
    | exact Ev.now true
    | dsimp only
    | with_reducible refine Ev.bind hs ?_
    | with_reducible refine Ev.bind hi ?_
    | with_reducible refine Ev.bind (toMachine _ _ _ _ _ _ _ _ (by omega)) ?_
    | with_reducible refine Ev.bind (eqMachine_self _ _ _ _ _ _ _ _ (by omega)) ?_
    | with_reducible refine Ev.bind (markMachine _ _ _ _ _ _ _ _ _ (by omega) (by omega)) ?_
    | with_reducible refine Ev.bind (eqInt_self _ (by omega)) ?_
    | with_reducible refine Ev.bind (markI _ _ (by omega) (by omega)) ?_
    | with_reducible refine Ev.bind (heldI _ _ (by omega) (by omega)) ?_
    | refine Ev.pos rfl ?_
    | (refine Ev.neg ?_ ?_; focus (first | omega | (simp; done)))
    | (with_reducible refine Ev.succ (g := fun k => laws_FnExactArrivalColumns.j0 k _ _ _ _ _ _ _ _ _ _ _ _ _ _ _ _ _ _ _ _ _) ?_; simp only [laws_FnExactArrivalColumns.j0])
    | (with_reducible refine Ev.succ (g := fun k => laws_FnExactArrivalColumns.j1 k _ _ _ _ _ _ _ _ _ _ _ _) ?_; simp only [laws_FnExactArrivalColumns.j1])
    | (with_reducible refine Ev.succ (g := fun k => laws_FnExactArrivalColumns.j2 k _ _ _) ?_; simp only [laws_FnExactArrivalColumns.j2])
end Go.Proofs.Ythnehlphifegaaa.PureFnExactArrivalColumns
