--MINI
/- The pure statement of the law FnExactWayTo. -/
import Derived.Test.YtbpfdbjnnlmdjaaBoardMark
import Derived.Test.YtbpfdbjnnlmdjaaIntArg
import Derived.Test.YtbpfdbjnnlmdjaaWay
import Derived.Test.YtbpfdbjnnlmdjaaPx6
import Derived.Test.YtbpfdbjnnlmdjaaPx10
import Derived.Test.YtbpfdbjnnlmdjaaPx11
namespace Go.Proofs.Ytbpfdbjnnlmdjaa.PureFnExactWayTo
open Go.RowKit Go.Proofs.Ytbpfdbjnnlmdjaa.P Go.Proofs.Ytbpfdbjnnlmdjaa.Base Go.Proofs.Ytbpfdbjnnlmdjaa.Board Go.Proofs.Ytbpfdbjnnlmdjaa.Units Go.Proofs.Ytbpfdbjnnlmdjaa.Reach Go.Proofs.Ytbpfdbjnnlmdjaa.Way Go.Proofs.YtbpfdbjnnlmdjaaW.PrintWords Go.Proofs.YtbpfdbjnnlmdjaaW.PrintLast Go.Proofs.YtbpfdbjnnlmdjaaW.PrintMore
set_option linter.unusedVariables false
set_option linter.unusedSimpArgs false
theorem both (r c : Int) (cs : List C) (l : List Int) (t : Int) (hb : cs.length ≤ 1048576) (hl : l.length ≤ 1048576) : ∃ (L : List Int) (ok : Bool), L.length ≤ 65536 ∧ Ev (fun k => aeg.f k r c cs l t) (L, ok) ∧ Ev (fun k => aad.f k r c cs l t) (L, ok) := by
  have sno : ∀ b : Bool, b = true → Ev (fun k => aeg.j0 k l t b r c cs) (([] : List Int), false) := by
    rintro b rfl
    refine Ev.succ ?_
    simp only [aeg.j0]
    exact Ev.pos (by simp) (Ev.now _)
  have ino : ∀ b : Bool, b = true → Ev (fun k => aad.j0 k l t b r c cs) (([] : List Int), false) := by
    rintro b rfl
    refine Ev.succ ?_
    simp only [aad.j0]
    exact Ev.pos (by simp) (Ev.now _)
  rcases XO r c cs l hb hl with ⟨U, NX, EX, G, B, N0, hF, hc, s, i, v⟩ | ⟨s, hn⟩
  · have h16 : U.length ≤ 16 := by have := hF.few; omega
    have hp := DD h16
    have hs := XU h16
    have hw : IntKind.u64.wrap (U.length : Int) = (U.length : Int) := ay5 (by omega) (by omega)
    have hw' : wrap64 (((2 ^ U.length : Nat) : Int) - 1) = ((2 ^ U.length : Nat) : Int) - 1 := gH (by omega) (by omega)
    have sp : ∀ R : List Int × Bool, Ev (fun k => aeg.j0 k l t (!decide (0 ≤ t ∧ t ≤ ((2 ^ U.length : Nat) : Int) - 1)) r c cs) R → Ev (fun k => aeg.f k r c cs l t) R := fun R h => by
      unfold aeg.f
      refine Ev.bind s (Ev.pos rfl (Ev.bind hF.u1 ?_))
      rw [hw, hs, hw', Fall.ay3]
      simp only [Option.bind_some]
      exact Ev.pos (by omega) h
    by_cases ht : 0 ≤ t ∧ t < ((2 ^ U.length : Nat) : Int)
    · obtain ⟨⟨L, ok⟩, h3, e1, e2⟩ := aZ3 hF hl hc t
      refine ⟨L, ok, h3, sp _ ?_, ?_⟩
      · rw [decide_eq_true (show 0 ≤ t ∧ t ≤ ((2 ^ U.length : Nat) : Int) - 1 by omega)]
        exact e1
      · unfold aad.f
        refine Ev.bind i (Ev.pos rfl (Ev.bind v (Ev.pos rfl (Ev.neg (by omega) (Ev.bind hF.u2 ?_)))))
        rw [hs, decide_eq_false (show ¬ t ≥ ((2 ^ U.length : Nat) : Int) by omega)]
        exact e2
    · refine ⟨[], false, by simp, sp _ (sno _ ?_), ?_⟩
      · rw [decide_eq_false (by omega)]; rfl
      · unfold aad.f
        refine Ev.bind i (Ev.pos rfl (Ev.bind v (Ev.pos rfl (Ev.split (fun _ => ino _ rfl) (fun h0 => Ev.bind hF.u2 (ino _ ?_))))))
        rw [hs, decide_eq_true_eq]; omega
  · refine ⟨[], false, by simp, ?_, ?_⟩
    · unfold aeg.f
      exact Ev.bind s (Ev.neg (by simp) (sno _ rfl))
    · unfold aad.f
      rcases hn with i | ⟨i, v⟩
      · exact Ev.bind i (Ev.neg (by simp) (ino _ rfl))
      · exact Ev.bind i (Ev.pos rfl (Ev.bind v (Ev.neg (by simp) (ino _ rfl))))
theorem law : ∀ (ah : Int) (af : Int) (ae : List CL) (l1 : List Int) (a2 : Int), ae.length ≤ 9223372036854775807 → l1.length ≤ 9223372036854775807 → (Lit.int .i64 a2).wf = true → ∃ k, A9.f k ah af ae l1 a2 = some true := by
  intro r c l q t hl hq0 ht
  apply Ev.rounds
  unfold A9.f
  refine Ev.split (fun _ => Ev.now _) (fun cB => ?_)
  have hq : q.length ≤ 1048576 := by omega
  rw [XP r c l 1048576 hl (by omega) (by omega)]
  simp only [Option.bind_some]
  refine Ev.split (fun _ => Ev.now _) (fun c0 => ?_)
  have hb : l.length ≤ 1048576 := by split at c0 <;> omega
  have hm : (l.map Hg).length ≤ 1048576 := by simpa using hb
  obtain ⟨N, ok, hN, hs, hi⟩ := both r c (l.map Hg) q t hm hq
  repeat' first
    | exact Ev.now true
    | dsimp only
    | with_reducible refine Ev.bind hs ?_
    | with_reducible refine Ev.bind hi ?_
    | with_reducible refine Ev.bind (XQ _ _ _ (by omega)) ?_
    | with_reducible refine Ev.bind (Hl _ _ _ (by omega)) ?_
    | with_reducible refine Ev.bind (Zq _ _ _ _ (by omega) (by omega)) ?_
    | with_reducible refine Ev.bind (toInt _ (by omega)) ?_
    | with_reducible refine Ev.bind (LV _ (by omega)) ?_
    | with_reducible refine Ev.bind (ay0 _ _ (by omega) (by omega)) ?_
    | with_reducible refine Ev.bind (ay1 _ _ (by omega) (by omega)) ?_
    | refine Ev.pos rfl ?_
    | (refine Ev.neg ?_ ?_; focus (first | omega | (simp; done)))
    | (with_reducible refine Ev.succ (g := fun k => A9.j0 k _ _ _ _ _ _ _ _ _ _ _ _ _ _) ?_; simp only [A9.j0])
    | (with_reducible refine Ev.succ (g := fun k => A9.j1 k _ _ _ _ _ _ _ _ _) ?_; simp only [A9.j1])
    | (with_reducible refine Ev.succ (g := fun k => A9.j2 k _ _ _) ?_; simp only [A9.j2])
end Go.Proofs.Ytbpfdbjnnlmdjaa.PureFnExactWayTo
