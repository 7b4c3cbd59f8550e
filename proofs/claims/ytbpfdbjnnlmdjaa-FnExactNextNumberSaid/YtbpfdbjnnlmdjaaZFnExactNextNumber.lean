/- The pure statement of the law FnExactNextNumber. -/
import Derived.Test.YtbpfdbjnnlmdjaaBoardMark
import Derived.Test.YtbpfdbjnnlmdjaaFew
import Derived.Test.YtbpfdbjnnlmdjaaPx16
namespace Go.Proofs.Ytbpfdbjnnlmdjaa.PureFnExactNextNumber
open Go.RowKit Go.Proofs.Ytbpfdbjnnlmdjaa.P Go.Proofs.Ytbpfdbjnnlmdjaa.Base Go.Proofs.Ytbpfdbjnnlmdjaa.Board Go.Proofs.Ytbpfdbjnnlmdjaa.Units Go.Proofs.YtbpfdbjnnlmdjaaW.PrintWords Go.Proofs.YtbpfdbjnnlmdjaaW.PrintLast Go.Proofs.YtbpfdbjnnlmdjaaW.PrintMore
set_option linter.unusedVariables false
set_option linter.unusedSimpArgs false
theorem both (r c col : Int) (cs : List C) (hb : cs.length ≤ 1048576) : ∃ (N : Int) (ok : Bool), Ev (fun k => spec_NextNumber.f k r c cs col) (N, ok) ∧ Ev (fun k => impl_NextNumber.f k r c cs col) (N, ok) := by
  have no : ∀ b : Bool, b = true → Ev (fun k => impl_NextNumber.j0 k col b r c cs) (0, false) := by
    rintro b rfl
    refine Ev.succ ?_
    simp only [impl_NextNumber.j0]
    exact Ev.pos (by simp) (Ev.now _)
  rcases hasTest r c col cs hb with ⟨U, NX, EX, G, B, N0, hF, c0, c1, s, i, v⟩ | ⟨s, hn⟩
  · obtain ⟨rw', cl, st⟩ := (hF.step N0 col c0 c1).spec
    have h16 : U.length ≤ 16 := by have := hF.few; omega
    have hlo := hF.lo
    have hhi := hF.hi
    have hN : N0 = ((N0.toNat : Nat) : Int) := by omega
    refine ⟨NX N0 col, true, ?_, ?_⟩
    · unfold spec_NextNumber.f
      exact Ev.bind s (Ev.pos rfl (Ev.bind hF.s0 (Ev.bind st (Ev.now _))))
    · unfold impl_NextNumber.f
      refine Ev.bind i (Ev.pos rfl (Ev.bind v (Ev.succ ?_)))
      simp only [impl_NextNumber.j0]
      refine Ev.neg (by simp) (Ev.bind (numbersAfter hF.good hF.us hF.u2 h16 hF.g2 hF.step (cols := [col]) (by simp) (by simp; exact ⟨c0, c1⟩)) (Ev.pos (by simp) (Ev.bind hF.b0 (Ev.bind hF.n0 ?_))))
      have e : rd_L3 ([col].map (rowN NX U.length)) 0 = rowN NX U.length col := rfl
      rw [e, rowN_len]
      refine Ev.pos hlo (Ev.pos hhi (Ev.val (Ev.now _) ?_))
      rw [hN, rowN_rd NX U.length col (by omega)]
  · refine ⟨0, false, ?_, ?_⟩
    · unfold spec_NextNumber.f
      exact Ev.bind s (Ev.neg (by simp) (Ev.now _))
    · unfold impl_NextNumber.f
      rcases hn with i | ⟨i, v⟩
      · exact Ev.bind i (Ev.neg (by simp) (no _ rfl))
      · exact Ev.bind i (Ev.pos rfl (Ev.bind v (no _ rfl)))
theorem law : ∀ (a0_0 : Int) (a0_1 : Int) (l0_2 : List CL) (a1 : Int), l0_2.length ≤ 9223372036854775807 → (Lit.int .i64 a1).wf = true → ∃ k, laws_FnExactNextNumber.f k a0_0 a0_1 l0_2 a1 = some true := by
  intro r c l col hl hc
  apply Ev.rounds
  unfold laws_FnExactNextNumber.f
  rw [szBoard r c l 1048576 hl (by omega) (by omega)]
  simp only [Option.bind_some]
  refine Ev.split (fun _ => Ev.now _) (fun c0 => ?_)
  have hb : l.length ≤ 1048576 := by split at c0 <;> omega
  have hm : (l.map convC).length ≤ 1048576 := by simpa using hb
  obtain ⟨N, ok, hs, hi⟩ := both r c col (l.map convC) hm
  repeat' first
    | exact Ev.now true
    | dsimp only
    | with_reducible refine Ev.bind hs ?_
    | with_reducible refine Ev.bind hi ?_
    | with_reducible refine Ev.bind (toBoard _ _ _ (by omega)) ?_
    | with_reducible refine Ev.bind (eqBoard_self _ _ _ (by omega)) ?_
    | refine Ev.pos rfl ?_
    | (refine Ev.neg ?_ ?_; focus (first | omega | (simp; done)))
    | (with_reducible refine Ev.succ (g := fun k => laws_FnExactNextNumber.j0 k _ _ _ _ _ _ _) ?_; simp only [laws_FnExactNextNumber.j0])
end Go.Proofs.Ytbpfdbjnnlmdjaa.PureFnExactNextNumber
