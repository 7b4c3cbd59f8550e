/- The pure statement of the law FnExactNumberAfter. -/
import Derived.Test.YtbpfdbjnnlmdjaaBoardMark
import Derived.Test.YtbpfdbjnnlmdjaaOrbit
import Derived.Test.YtbpfdbjnnlmdjaaPx19
namespace Go.Proofs.Ytbpfdbjnnlmdjaa.PureFnExactNumberAfter
open Go.RowKit Go.Proofs.Ytbpfdbjnnlmdjaa.P Go.Proofs.Ytbpfdbjnnlmdjaa.Base Go.Proofs.Ytbpfdbjnnlmdjaa.Board Go.Proofs.Ytbpfdbjnnlmdjaa.Units Go.Proofs.Ytbpfdbjnnlmdjaa.Orbit Go.Proofs.YtbpfdbjnnlmdjaaW.PrintWords Go.Proofs.YtbpfdbjnnlmdjaaW.PrintLast Go.Proofs.YtbpfdbjnnlmdjaaW.PrintMore
set_option linter.unusedVariables false
set_option linter.unusedSimpArgs false
theorem both (r c col x : Int) (cs : List C) (hb : cs.length ≤ 1048576) : ∃ (k : Int) (ok : Bool), Ev (fun q => spec_NumberAfter.f q r c cs col x) (k, ok) ∧ Ev (fun q => impl_NumberAfter.f q r c cs col x) (k, ok) := by
  have no1 : ∀ b : Bool, b = true → Ev (fun q => spec_NumberAfter.j0 q col x b r c cs) (0, false) := by
    rintro b rfl
    refine Ev.succ ?_
    simp only [spec_NumberAfter.j0]
    exact Ev.pos trivial (Ev.now _)
  have no2 : ∀ b : Bool, b = true → Ev (fun q => impl_NumberAfter.j0 q col x b r c cs) (0, false) := by
    rintro b rfl
    refine Ev.succ ?_
    simp only [impl_NumberAfter.j0]
    exact Ev.pos trivial (Ev.now _)
  unfold spec_NumberAfter.f impl_NumberAfter.f
  rcases hasTest r c col cs hb with ⟨U, NX, EX, G, B, N0, hF, c0, c1, s, i, v⟩ | ⟨s, hn⟩
  · by_cases hx : 0 ≤ x ∧ x ≤ 1000000000
    · obtain ⟨L, k, q1, q2, q3, q4⟩ := orbit hF c0 c1
      have w1 : wrap64 ((L.length : Int) - (k : Int)) = (L.length : Int) - (k : Int) := wrap_id (by omega) (by omega)
      have w2 : wrap64 (x - (k : Int)) = x - (k : Int) := wrap_id (by omega) (by omega)
      by_cases hlt : x < (L.length : Int)
      · refine ⟨rd L x, true, Ev.bind s (Ev.pos rfl ?_), Ev.bind i (Ev.pos rfl (Ev.bind v (Ev.pos rfl (Ev.neg (by omega) (Ev.succ ?_)))))⟩
        · simp only [Fall.l1In, Option.bind_some]
          refine Ev.succ ?_
          simp only [spec_NumberAfter.j0]
          exact Ev.neg (by simp; omega) (Ev.bind q3 (Ev.pos hlt (Ev.pos hx.1 (Ev.now _))))
        · simp only [impl_NumberAfter.j0]
          exact Ev.neg (by simp; omega) (Ev.bind q4 (Ev.neg (show ¬ x ≥ (L.length : Int) by omega) (Ev.pos hx.1 (Ev.pos hlt (Ev.now _)))))
      · have t0 : 0 ≤ Int.tmod (x - (k : Int)) ((L.length : Int) - (k : Int)) := Int.tmod_nonneg _ (by omega)
        have t1 : Int.tmod (x - (k : Int)) ((L.length : Int) - (k : Int)) < (L.length : Int) - (k : Int) := Int.tmod_lt_of_pos _ (by omega)
        have w3 : wrap64 ((k : Int) + Int.tmod (x - (k : Int)) ((L.length : Int) - (k : Int))) = (k : Int) + Int.tmod (x - (k : Int)) ((L.length : Int) - (k : Int)) := wrap_id (by omega) (by omega)
        refine ⟨rd L ((k : Int) + Int.tmod (x - (k : Int)) ((L.length : Int) - (k : Int))), true, Ev.bind s (Ev.pos rfl ?_), Ev.bind i (Ev.pos rfl (Ev.bind v (Ev.pos rfl (Ev.neg (by omega) (Ev.succ ?_)))))⟩
        · simp only [Fall.l1In, Option.bind_some]
          refine Ev.succ ?_
          simp only [spec_NumberAfter.j0]
          refine Ev.neg (by simp; omega) (Ev.bind q3 (Ev.neg hlt ?_))
          simp only [w1, w2, w3]
          exact Ev.neg (by omega) (Ev.pos (by omega) (Ev.pos (by omega) (Ev.now _)))
        · simp only [impl_NumberAfter.j0]
          refine Ev.neg (by simp; omega) (Ev.bind q4 (Ev.pos (show x ≥ (L.length : Int) by omega) ?_))
          simp only [w1, w2, w3]
          exact Ev.neg (by omega) (Ev.pos (by omega) (Ev.pos (by omega) (Ev.now _)))
    · refine ⟨0, false, Ev.bind s (Ev.pos rfl ?_), Ev.bind i (Ev.pos rfl (Ev.bind v (Ev.pos rfl (Ev.split (fun _ => no2 _ rfl) (fun h => no2 _ (decide_eq_true (by omega)))))))⟩
      simp only [Fall.l1In, Option.bind_some]
      exact no1 _ (by rw [decide_eq_false hx]; rfl)
  · refine ⟨0, false, Ev.bind s (Ev.neg (by simp) (no1 _ rfl)), ?_⟩
    rcases hn with i | ⟨i, v⟩
    · exact Ev.bind i (Ev.neg (by simp) (no2 _ rfl))
    · exact Ev.bind i (Ev.pos rfl (Ev.bind v (Ev.neg (by simp) (no2 _ rfl))))
theorem law : ∀ (a0_0 : Int) (a0_1 : Int) (l0_2 : List CL) (a1 : Int) (a2 : Int), l0_2.length ≤ 9223372036854775807 → (Lit.int .i64 a1).wf = true → (Lit.int .i64 a2).wf = true → ∃ k, laws_FnExactNumberAfter.f k a0_0 a0_1 l0_2 a1 a2 = some true := by
  intro r c l col x hl _ _
  apply Ev.rounds
  unfold laws_FnExactNumberAfter.f
  rw [szBoard r c l 1048576 hl (by omega) (by omega)]
  simp only [Option.bind_some]
  refine Ev.split (fun _ => Ev.now _) (fun c0 => ?_)
  have hb : l.length ≤ 1048576 := by split at c0 <;> omega
  have hm : (l.map convC).length ≤ 1048576 := by simpa using hb
  obtain ⟨k, ok, hs, hi⟩ := both r c col x (l.map convC) hm
  repeat' first
    | exact Ev.now true
    | dsimp only
    | with_reducible refine Ev.bind hs ?_
    | with_reducible refine Ev.bind hi ?_
    | with_reducible refine Ev.bind (toBoard _ _ _ (by omega)) ?_
    | with_reducible refine Ev.bind (eqBoard_self _ _ _ (by omega)) ?_
    | refine Ev.pos rfl ?_
    | (refine Ev.neg ?_ ?_; focus (first | omega | (simp; done)))
    | (with_reducible refine Ev.succ (g := fun k => laws_FnExactNumberAfter.j0 k _ _ _ _ _ _ _) ?_; simp only [laws_FnExactNumberAfter.j0])
end Go.Proofs.Ytbpfdbjnnlmdjaa.PureFnExactNumberAfter
