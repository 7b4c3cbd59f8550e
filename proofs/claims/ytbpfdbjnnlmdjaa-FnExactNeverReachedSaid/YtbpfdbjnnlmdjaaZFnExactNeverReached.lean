/- The pure statement of the law FnExactNeverReached. -/
import Derived.Test.YtbpfdbjnnlmdjaaBoardMark
import Derived.Test.YtbpfdbjnnlmdjaaIntArg
import Derived.Test.YtbpfdbjnnlmdjaaReach
import Derived.Test.YtbpfdbjnnlmdjaaPx1
import Derived.Test.YtbpfdbjnnlmdjaaPx7
import Derived.Test.YtbpfdbjnnlmdjaaPx22
namespace Go.Proofs.Ytbpfdbjnnlmdjaa.PureFnExactNeverReached
open Go.RowKit Go.Proofs.Ytbpfdbjnnlmdjaa.P Go.Proofs.Ytbpfdbjnnlmdjaa.Base Go.Proofs.Ytbpfdbjnnlmdjaa.Board Go.Proofs.Ytbpfdbjnnlmdjaa.Units Go.Proofs.Ytbpfdbjnnlmdjaa.Reach Go.Proofs.YtbpfdbjnnlmdjaaW.PrintWords Go.Proofs.YtbpfdbjnnlmdjaaW.PrintLast Go.Proofs.YtbpfdbjnnlmdjaaW.PrintMore
set_option linter.unusedVariables false
set_option linter.unusedSimpArgs false
/-- The numbers below m of which p holds, increasing. -/
def those (p : Nat → Bool) (a m : Nat) : List Int := ((List.range' a m).filter p).map fun (j : Nat) => (j : Int)
theorem those_len (p : Nat → Bool) (a m : Nat) : (those p a m).length ≤ m := by
  have := List.length_filter_le p (List.range' a m)
  simpa [those] using this
theorem those_next (p : Nat → Bool) (m : Nat) : those p 0 (m + 1) = if p m then those p 0 m ++ [(m : Int)] else those p 0 m := by
  simp only [those, List.range'_1_concat, List.filter_append, List.map_append, Nat.zero_add]
  cases h : p m <;> simp [h]
theorem spec_loop {r c : Int} {cs : List C} {U : List (List Int)} (u1 : Ev (fun k => spec_saUnits.f k r c cs) U) (h16 : U.length ≤ 16) {N : List Int} (hN : N.length ≤ 65536) (d : Nat) : ∀ i : Nat, i + d = 2 ^ U.length → Ev (fun k => spec_NeverReached.l0 k N (those (fun j => !decide ((j : Int) ∈ N)) 0 i) i r c cs) (those (fun j => !decide ((j : Int) ∈ N)) 0 (2 ^ U.length), true) := by
  have hp := pow_nat h16
  have test : ∀ (i : Nat) (R : List Int × Bool), Ev (fun k => if (i : Int) < ((2 ^ U.length : Nat) : Int) then ((spec_l1Has.f k N i).bind fun t => (if t = true then (spec_NeverReached.l0 k N (those (fun j => !decide ((j : Int) ∈ N)) 0 i) (wrap64 ((i : Int) + 1)) r c cs) else (if (those (fun j => !decide ((j : Int) ∈ N)) 0 i).length < 17592186044416 then (spec_NeverReached.l0 k N (those (fun j => !decide ((j : Int) ∈ N)) 0 i ++ [(i : Int)]) (wrap64 ((i : Int) + 1)) r c cs) else (none)))) else (some (those (fun j => !decide ((j : Int) ∈ N)) 0 i, true))) R → Ev (fun k => spec_NeverReached.l0 k N (those (fun j => !decide ((j : Int) ∈ N)) 0 i) i r c cs) R := fun i R h => by
    refine Ev.succ ?_
    simp only [spec_NeverReached.l0]
    refine Ev.bind u1 ?_
    rw [wrapU (show (0 : Int) ≤ (U.length : Int) by omega) (by omega), shl_nat h16]
    exact Ev.pos (by omega) h
  induction d with
  | zero =>
    intro i hi
    refine test i _ (Ev.neg (by omega) (Ev.val (Ev.now _) ?_))
    obtain rfl : i = 2 ^ U.length := by omega
    rfl
  | succ d ih =>
    intro i hi
    have hl := those_len (fun j => !decide ((j : Int) ∈ N)) 0 i
    have e := those_next (fun j => !decide ((j : Int) ∈ N)) i
    have ih' := ih (i + 1) (by omega)
    refine test i _ (Ev.pos (by omega) (Ev.bind (l1Has _ (by omega)) ?_))
    rw [wrap_nat (by omega)]
    by_cases hm : (i : Int) ∈ N
    · rw [if_neg (by simp [hm])] at e
      rw [e] at ih'
      exact Ev.pos (decide_eq_true hm) ih'
    · rw [if_pos (by simp [hm])] at e
      rw [e] at ih'
      exact Ev.neg (by simp [hm]) (Ev.pos (by omega) ih')
theorem list_loop {M : Nat} {N : List Int} {W : List (List Int)} {S : List Bool} (hI : Inv M N W S) (hM : M ≤ 65536) (d : Nat) : ∀ i : Nat, i + d = M → Ev (fun k => impl_NeverReached.l0 k (those (fun j => !decide ((j : Int) ∈ N)) 0 i) S M i) (those (fun j => !decide ((j : Int) ∈ N)) 0 M, true) := by
  induction d with
  | zero =>
    intro i hi
    refine Ev.succ ?_
    simp only [impl_NeverReached.l0]
    refine Ev.neg (by omega) (Ev.val (Ev.now _) ?_)
    obtain rfl : i = M := by omega
    rfl
  | succ d ih =>
    intro i hi
    have hs := hI.seen i (by omega)
    have hl := those_len (fun j => !decide ((j : Int) ∈ N)) 0 i
    have e := those_next (fun j => !decide ((j : Int) ∈ N)) i
    have e2 : rdOf false S (i : Int) = decide ((i : Int) ∈ N) := by rw [rdS (by omega), Int.toNat_natCast, hs]
    have ih' := ih (i + 1) (by omega)
    refine Ev.succ ?_
    simp only [impl_NeverReached.l0]
    refine Ev.pos (by omega) (Ev.pos (by omega) (Ev.pos (by rw [hI.sl]; omega) ?_))
    rw [wrap_nat (by omega), e2]
    by_cases hm : (i : Int) ∈ N
    · rw [if_neg (by simp [hm])] at e
      rw [e] at ih'
      exact Ev.pos (decide_eq_true hm) ih'
    · rw [if_pos (by simp [hm])] at e
      rw [e] at ih'
      exact Ev.neg (by simp [hm]) (Ev.pos (by omega) ih')
theorem both (r c : Int) (cs : List C) (l : List Int) (hb : cs.length ≤ 1048576) (hl : l.length ≤ 1048576) : ∃ (N : List Int) (ok : Bool), N.length ≤ 65536 ∧ Ev (fun k => spec_NeverReached.f k r c cs l) (N, ok) ∧ Ev (fun k => impl_NeverReached.f k r c cs l) (N, ok) := by
  have no : ∀ b : Bool, b = true → Ev (fun k => impl_NeverReached.j0 k l b r c cs) (([] : List Int), false) := by
    rintro b rfl
    refine Ev.succ ?_
    simp only [impl_NeverReached.j0]
    exact Ev.pos (by simp) (Ev.now _)
  rcases askTest r c cs l hb hl with ⟨U, NX, EX, G, B, N0, hF, hc, s, i, v⟩ | ⟨s, hn⟩
  · have hp := pow_nat (show U.length ≤ 16 by have := hF.few; omega)
    obtain ⟨N, W, S, hI, q1, q2⟩ := reached hF hl hc
    have hfit := hI.fit
    refine ⟨those (fun j => !decide ((j : Int) ∈ N)) 0 (2 ^ U.length), true, by have := those_len (fun j => !decide ((j : Int) ∈ N)) 0 (2 ^ U.length); omega, ?_, ?_⟩
    · unfold spec_NeverReached.f
      refine Ev.bind s (Ev.pos rfl (Ev.bind q1 ?_))
      exact spec_loop hF.u1 (by have := hF.few; omega) (by show N.length ≤ 65536; omega) (2 ^ U.length) 0 (by omega)
    · unfold impl_NeverReached.f
      refine Ev.bind i (Ev.pos rfl (Ev.bind v (Ev.succ ?_)))
      simp only [impl_NeverReached.j0]
      refine Ev.neg (by simp) (Ev.bind q2 ?_)
      rw [hI.sl]
      exact list_loop hI hp.2 (2 ^ U.length) 0 (by omega)
  · refine ⟨[], false, by simp, ?_, ?_⟩
    · unfold spec_NeverReached.f
      exact Ev.bind s (Ev.neg (by simp) (Ev.now _))
    · unfold impl_NeverReached.f
      rcases hn with i | ⟨i, v⟩
      · exact Ev.bind i (Ev.neg (by simp) (no _ rfl))
      · exact Ev.bind i (Ev.pos rfl (Ev.bind v (no _ rfl)))
theorem law : ∀ (a0_0 : Int) (a0_1 : Int) (l0_2 : List CL) (l1 : List Int), l0_2.length ≤ 9223372036854775807 → l1.length ≤ 9223372036854775807 → ∃ k, laws_FnExactNeverReached.f k a0_0 a0_1 l0_2 l1 = some true := by
  intro r c l q hl hq0
  apply Ev.rounds
  unfold laws_FnExactNeverReached.f
  refine Ev.split (fun _ => Ev.now _) (fun cB => ?_)
  have hq : q.length ≤ 1048576 := by omega
  rw [szBoard r c l 1048576 hl (by omega) (by omega)]
  simp only [Option.bind_some]
  refine Ev.split (fun _ => Ev.now _) (fun c0 => ?_)
  have hb : l.length ≤ 1048576 := by split at c0 <;> omega
  have hm : (l.map convC).length ≤ 1048576 := by simpa using hb
  obtain ⟨N, ok, hN, hs, hi⟩ := both r c (l.map convC) q hm hq
  repeat' first
    | exact Ev.now true
    | dsimp only
    | with_reducible refine Ev.bind hs ?_
    | with_reducible refine Ev.bind hi ?_
    | with_reducible refine Ev.bind (toBoard _ _ _ (by omega)) ?_
    | with_reducible refine Ev.bind (eqBoard_self _ _ _ (by omega)) ?_
    | with_reducible refine Ev.bind (markBoard _ _ _ _ (by omega) (by omega)) ?_
    | with_reducible refine Ev.bind (toInt _ (by omega)) ?_
    | with_reducible refine Ev.bind (eqInt_self _ (by omega)) ?_
    | with_reducible refine Ev.bind (markI _ _ (by omega) (by omega)) ?_
    | with_reducible refine Ev.bind (heldI _ _ (by omega) (by omega)) ?_
    | refine Ev.pos rfl ?_
    | (refine Ev.neg ?_ ?_; focus (first | omega | (simp; done)))
    | (with_reducible refine Ev.succ (g := fun k => laws_FnExactNeverReached.j0 k _ _ _ _ _ _ _ _ _ _ _ _ _) ?_; simp only [laws_FnExactNeverReached.j0])
    | (with_reducible refine Ev.succ (g := fun k => laws_FnExactNeverReached.j1 k _ _ _ _ _ _ _ _) ?_; simp only [laws_FnExactNeverReached.j1])
    | (with_reducible refine Ev.succ (g := fun k => laws_FnExactNeverReached.j2 k _ _ _) ?_; simp only [laws_FnExactNeverReached.j2])
end Go.Proofs.Ytbpfdbjnnlmdjaa.PureFnExactNeverReached
