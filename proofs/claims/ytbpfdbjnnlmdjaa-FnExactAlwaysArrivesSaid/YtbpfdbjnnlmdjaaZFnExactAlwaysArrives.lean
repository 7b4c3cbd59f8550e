--MINI
/- The pure statement of the law FnExactAlwaysArrives. -/
import Derived.Test.YtbpfdbjnnlmdjaaIntArg
import Derived.Test.YtbpfdbjnnlmdjaaEnds
import Derived.Test.YtbpfdbjnnlmdjaaPx8
namespace Go.Proofs.Ytbpfdbjnnlmdjaa.PureFnExactAlwaysArrives
open Go.RowKit Go.Proofs.Ytbpfdbjnnlmdjaa.P Go.Proofs.Ytbpfdbjnnlmdjaa.Base Go.Proofs.Ytbpfdbjnnlmdjaa.Board Go.Proofs.Ytbpfdbjnnlmdjaa.Units Go.Proofs.Ytbpfdbjnnlmdjaa.Reach Go.Proofs.Ytbpfdbjnnlmdjaa.Ends Go.Proofs.YtbpfdbjnnlmdjaaW.PrintWords Go.Proofs.YtbpfdbjnnlmdjaaW.PrintLast Go.Proofs.YtbpfdbjnnlmdjaaW.PrintMore
set_option linter.unusedVariables false
set_option linter.unusedSimpArgs false
theorem azj (l : List Int) : Ev (fun k => fA.f k l [1]) (decide (l = [1])) := by
  unfold fA.f
  refine Ev.split (fun h => ?_) (fun h => Ev.val (Ev.now _) ?_)
  · obtain ⟨x, rfl⟩ : ∃ x, l = [x] := by
      match l, h with
      | [x], _ => exact ⟨x, rfl⟩
      | [], h => simp at h
      | _ :: _ :: _, h => simp at h; omega
    refine Ev.succ ?_
    simp only [fA.l0]
    refine Ev.pos (by simp) (Ev.pos (by omega) (Ev.pos (by simp) (Ev.pos (by simp) (Ev.split (fun e => ?_) (fun e => Ev.val (Ev.now _) ?_)))))
    · refine Ev.succ ?_
      simp only [fA.l0]
      refine Ev.neg (by rw [gH (x := 0 + 1) (by omega) (by omega)]; simp) (Ev.val (Ev.now _) ?_)
      have e' : x = 1 := e
      simp [e']
    · have e' : ¬ x = 1 := e
      simp [e']
  · symm; rw [decide_eq_false_iff_not]; rintro rfl; exact h rfl
theorem both (r c : Int) (cs : List C) (l : List Int) (hb : cs.length ≤ 1048576) (hl : l.length ≤ 1048576) : ∃ (a ok : Bool), Ev (fun k => fZ.f k r c cs l) (a, ok) ∧ Ev (fun k => gm.f k r c cs l) (a, ok) := by
  unfold fZ.f gm.f
  rcases XO r c cs l hb hl with ⟨U, NX, EX, G, B, N0, hF, hc, s, i, v⟩ | ⟨s, hn⟩
  · obtain ⟨L, h3, e1, e2⟩ := ends hF hl hc
    refine ⟨decide (L = [1]), true, Ev.bind s (Ev.pos rfl (Ev.bind e1 (Ev.bind (azj L) (Ev.now _)))), Ev.bind i (Ev.pos rfl (Ev.bind v (Ev.pos rfl (Ev.bind e2 ?_))))⟩
    refine Ev.split (fun h => Ev.pos (by omega) (Ev.val (Ev.now _) ?_)) (fun h => Ev.val (Ev.now _) ?_)
    · obtain ⟨x, rfl⟩ : ∃ x, L = [x] := by
        match L, h with
        | [x], _ => exact ⟨x, rfl⟩
        | [], h => simp at h
        | _ :: _ :: _, h => simp at h; omega
      by_cases e : x = 1
      · subst e; rfl
      · simp [rd, e]
    · have : ¬ L = [1] := by rintro rfl; exact h rfl
      simp [this]
  · refine ⟨false, false, Ev.bind s (Ev.neg (by simp) (Ev.now _)), ?_⟩
    rcases hn with i | ⟨i, v⟩
    · exact Ev.bind i (Ev.neg (by simp) (Ev.now _))
    · exact Ev.bind i (Ev.pos rfl (Ev.bind v (Ev.neg (by simp) (Ev.now _))))
theorem law : ∀ (ah : Int) (af : Int) (ae : List CL) (l1 : List Int), ae.length ≤ 9223372036854775807 → l1.length ≤ 9223372036854775807 → ∃ k, bg.f k ah af ae l1 = some true := by
  intro r c l q hl hq0
  apply Ev.rounds
  unfold bg.f
  refine Ev.split (fun _ => Ev.now _) (fun cB => ?_)
  have hq : q.length ≤ 1048576 := by omega
  rw [XP r c l 1048576 hl (by omega) (by omega)]
  simp only [Option.bind_some]
  refine Ev.split (fun _ => Ev.now _) (fun c0 => ?_)
  have hb : l.length ≤ 1048576 := by split at c0 <;> omega
  have hm : (l.map Hg).length ≤ 1048576 := by simpa using hb
  obtain ⟨a, ok, hs, hi⟩ := both r c (l.map Hg) q hm hq
  repeat' first
    | exact Ev.now true
    | dsimp only
    | with_reducible refine Ev.bind hs ?_
    | with_reducible refine Ev.bind hi ?_
    | with_reducible refine Ev.bind (XQ _ _ _ (by omega)) ?_
    | with_reducible refine Ev.bind (Hl _ _ _ (by omega)) ?_
    | with_reducible refine Ev.bind (toInt _ (by omega)) ?_
    | with_reducible refine Ev.bind (LV _ (by omega)) ?_
    | refine Ev.pos rfl ?_
    | (refine Ev.neg ?_ ?_; focus (first | omega | (simp; done)))
    | (with_reducible refine Ev.succ (g := fun k => bg.j0 k _ _ _ _ _ _ _ _ _) ?_; simp only [bg.j0])
end Go.Proofs.Ytbpfdbjnnlmdjaa.PureFnExactAlwaysArrives
