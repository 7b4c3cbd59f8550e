--MINI
/- The pure statement of the law FnExactEndsIn. -/
import Derived.Test.YtbpfdbjnnlmdjaaBoardMark
import Derived.Test.YtbpfdbjnnlmdjaaIntArg
import Derived.Test.YtbpfdbjnnlmdjaaEnds
import Derived.Test.YtbpfdbjnnlmdjaaPx7
namespace Go.Proofs.Ytbpfdbjnnlmdjaa.PureFnExactEndsIn
open Go.RowKit Go.Proofs.Ytbpfdbjnnlmdjaa.P Go.Proofs.Ytbpfdbjnnlmdjaa.Base Go.Proofs.Ytbpfdbjnnlmdjaa.Board Go.Proofs.Ytbpfdbjnnlmdjaa.Units Go.Proofs.Ytbpfdbjnnlmdjaa.Reach Go.Proofs.Ytbpfdbjnnlmdjaa.Ends Go.Proofs.YtbpfdbjnnlmdjaaW.PrintWords Go.Proofs.YtbpfdbjnnlmdjaaW.PrintLast Go.Proofs.YtbpfdbjnnlmdjaaW.PrintMore
set_option linter.unusedVariables false
set_option linter.unusedSimpArgs false
theorem both (r c : Int) (cs : List C) (l : List Int) (hb : cs.length ≤ 1048576) (hl : l.length ≤ 1048576) : ∃ (L : List Int) (ok : Bool), L.length ≤ 3 ∧ Ev (fun k => kw.f k r c cs l) (L, ok) ∧ Ev (fun k => jM.f k r c cs l) (L, ok) := by
  unfold kw.f jM.f
  rcases XO r c cs l hb hl with ⟨U, NX, EX, G, B, N0, hF, hc, s, i, v⟩ | ⟨s, hn⟩
  · obtain ⟨L, h3, e1, e2⟩ := ends hF hl hc
    exact ⟨L, true, h3, Ev.bind s (Ev.pos rfl (Ev.bind e1 (Ev.now _))), Ev.bind i (Ev.pos rfl (Ev.bind v (Ev.pos rfl (Ev.bind e2 (Ev.now _)))))⟩
  · refine ⟨[], false, by simp, Ev.bind s (Ev.neg (by simp) (Ev.now _)), ?_⟩
    rcases hn with i | ⟨i, v⟩
    · exact Ev.bind i (Ev.neg (by simp) (Ev.now _))
    · exact Ev.bind i (Ev.pos rfl (Ev.bind v (Ev.neg (by simp) (Ev.now _))))
theorem law : ∀ (ah : Int) (af : Int) (ae : List CL) (l1 : List Int), ae.length ≤ 9223372036854775807 → l1.length ≤ 9223372036854775807 → ∃ k, aH.f k ah af ae l1 = some true := by
  intro r c l q hl hq0
  apply Ev.rounds
  unfold aH.f
  refine Ev.split (fun _ => Ev.now _) (fun cB => ?_)
  have hq : q.length ≤ 1048576 := by omega
  rw [XP r c l 1048576 hl (by omega) (by omega)]
  simp only [Option.bind_some]
  refine Ev.split (fun _ => Ev.now _) (fun c0 => ?_)
  have hb : l.length ≤ 1048576 := by split at c0 <;> omega
  have hm : (l.map Hg).length ≤ 1048576 := by simpa using hb
  obtain ⟨N, ok, hN, hs, hi⟩ := both r c (l.map Hg) q hm hq
  repeat' first
    | exact Ev.now true
    | dsimp only
    | with_reducible refine Ev.bind hs ?_
    | with_reducible refine Ev.bind hi ?_
    | with_reducible refine Ev.bind (XQ _ _ _ (by omega)) ?_
    | with_reducible refine Ev.bind (Hl _ _ _ (by omega)) ?_
    | with_reducible refine Ev.bind (Zq _ _ _ _ (by omega) (by omega)) ?_
    | with_reducible refine Ev.bind (toInt _ (by omega)) ?_
    | with_reducible refine Ev.bind (LV _ (by omega)) ?_
    | with_reducible refine Ev.bind (ay0 _ _ (by omega) (by omega)) ?_
    | with_reducible refine Ev.bind (ay1 _ _ (by omega) (by omega)) ?_
    | refine Ev.pos rfl ?_
    | (refine Ev.neg ?_ ?_; focus (first | omega | (simp; done)))
    | (with_reducible refine Ev.succ (g := fun k => aH.j0 k _ _ _ _ _ _ _ _ _ _ _ _ _) ?_; simp only [aH.j0])
    | (with_reducible refine Ev.succ (g := fun k => aH.j1 k _ _ _ _ _ _ _ _) ?_; simp only [aH.j1])
    | (with_reducible refine Ev.succ (g := fun k => aH.j2 k _ _ _) ?_; simp only [aH.j2])
end Go.Proofs.Ytbpfdbjnnlmdjaa.PureFnExactEndsIn
