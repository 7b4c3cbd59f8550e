/- The pure statement of the law FnExactOrbitOf. -/
import Derived.Test.YtbpfdbjnnlmdjaaBoardMark
import Derived.Test.YtbpfdbjnnlmdjaaIntArg
import Derived.Test.YtbpfdbjnnlmdjaaOrbit
import Derived.Test.YtbpfdbjnnlmdjaaPx20
namespace Go.Proofs.Ytbpfdbjnnlmdjaa.PureFnExactOrbitOf
open Go.RowKit Go.Proofs.Ytbpfdbjnnlmdjaa.P Go.Proofs.Ytbpfdbjnnlmdjaa.Base Go.Proofs.Ytbpfdbjnnlmdjaa.Board Go.Proofs.Ytbpfdbjnnlmdjaa.Units Go.Proofs.Ytbpfdbjnnlmdjaa.Orbit Go.Proofs.YtbpfdbjnnlmdjaaW.PrintWords Go.Proofs.YtbpfdbjnnlmdjaaW.PrintLast Go.Proofs.YtbpfdbjnnlmdjaaW.PrintMore
set_option linter.unusedVariables false
set_option linter.unusedSimpArgs false
theorem both (r c col : Int) (cs : List C) (hb : cs.length ≤ 1048576) : ∃ (L : List Int) (k : Int) (ok : Bool), L.length ≤ 1048576 ∧ Ev (fun q => spec_OrbitOf.f q r c cs col) (L, k, ok) ∧ Ev (fun q => impl_OrbitOf.f q r c cs col) (L, k, ok) := by
  unfold spec_OrbitOf.f impl_OrbitOf.f
  rcases hasTest r c col cs hb with ⟨U, NX, EX, G, B, N0, hF, c0, c1, s, i, v⟩ | ⟨s, hn⟩
  · obtain ⟨L, k, q1, q2, q3, q4⟩ := orbit hF c0 c1
    exact ⟨L, k, true, by omega, Ev.bind s (Ev.pos rfl (Ev.bind q3 (Ev.now _))), Ev.bind i (Ev.pos rfl (Ev.bind v (Ev.pos rfl (Ev.bind q4 (Ev.now _)))))⟩
  · refine ⟨[], 0, false, by simp, Ev.bind s (Ev.neg (by simp) (Ev.now _)), ?_⟩
    rcases hn with i | ⟨i, v⟩
    · exact Ev.bind i (Ev.neg (by simp) (Ev.now _))
    · exact Ev.bind i (Ev.pos rfl (Ev.bind v (Ev.neg (by simp) (Ev.now _))))
theorem law : ∀ (a0_0 : Int) (a0_1 : Int) (l0_2 : List CL) (a1 : Int), l0_2.length ≤ 9223372036854775807 → (Lit.int .i64 a1).wf = true → ∃ k, laws_FnExactOrbitOf.f k a0_0 a0_1 l0_2 a1 = some true := by
  intro r c l col hl _
  apply Ev.rounds
  unfold laws_FnExactOrbitOf.f
  rw [szBoard r c l 1048576 hl (by omega) (by omega)]
  simp only [Option.bind_some]
  refine Ev.split (fun _ => Ev.now _) (fun c0 => ?_)
  have hb : l.length ≤ 1048576 := by split at c0 <;> omega
  have hm : (l.map convC).length ≤ 1048576 := by simpa using hb
  obtain ⟨L, k, ok, hL, hs, hi⟩ := both r c col (l.map convC) hm
  repeat' first
    | exact Ev.now true
    | dsimp only
    | with_reducible refine Ev.bind hs ?_
    | with_reducible refine Ev.bind hi ?_
    | with_reducible refine Ev.bind (toBoard _ _ _ (by omega)) ?_
    | with_reducible refine Ev.bind (eqBoard_self _ _ _ (by omega)) ?_
    | with_reducible refine Ev.bind (markBoard _ _ _ _ (by omega) (by omega)) ?_
    | with_reducible refine Ev.bind (eqInt_self _ (by omega)) ?_
    | with_reducible refine Ev.bind (markI _ _ (by omega) (by omega)) ?_
    | with_reducible refine Ev.bind (heldI _ _ (by omega) (by omega)) ?_
    | refine Ev.pos rfl ?_
    | refine Ev.pos trivial ?_
    | (refine Ev.neg ?_ ?_; focus (first | omega | (simp; done)))
    | (with_reducible refine Ev.succ (g := fun k => laws_FnExactOrbitOf.j0 k _ _ _ _ _ _ _ _ _ _ _ _ _ _) ?_; simp only [laws_FnExactOrbitOf.j0])
    | (with_reducible refine Ev.succ (g := fun k => laws_FnExactOrbitOf.j1 k _ _ _ _ _ _ _ _ _) ?_; simp only [laws_FnExactOrbitOf.j1])
    | (with_reducible refine Ev.succ (g := fun k => laws_FnExactOrbitOf.j2 k _ _ _) ?_; simp only [laws_FnExactOrbitOf.j2])
end Go.Proofs.Ytbpfdbjnnlmdjaa.PureFnExactOrbitOf
