--MINI
/- The bits of a valid board. -/
import Derived.Test.YtbpfdbjnnlmdjaaUnits
import Derived.Test.YtbpfdbjnnlmdjaaPx0
import Derived.Test.YtbpfdbjnnlmdjaaPx2
import Derived.Test.YtbpfdbjnnlmdjaaPx3
import Derived.Test.YtbpfdbjnnlmdjaaPx7
import Derived.Test.YtbpfdbjnnlmdjaaPx10
namespace Go.Proofs.Ytbpfdbjnnlmdjaa.Units
open Go.RowKit Go.Proofs.Ytbpfdbjnnlmdjaa.P Go.Proofs.Ytbpfdbjnnlmdjaa.Base Go.Proofs.Ytbpfdbjnnlmdjaa.Board Go.Proofs.Ytbpfdbjnnlmdjaa.Groups Go.Proofs.YtbpfdbjnnlmdjaaW.PrintWords Go.Proofs.YtbpfdbjnnlmdjaaW.PrintLast Go.Proofs.YtbpfdbjnnlmdjaaW.PrintMore
set_option linter.unusedVariables false
set_option linter.unusedSimpArgs false
def nE (cs : List C) (u : List Int) : Int := (aj cs (rd u 0)).f1
theorem Us.first {cs : List C} {n : Nat} {U : List (List Int)} (h : Us cs n U) {k : Nat} (hk : k < U.length) :
    ∃ (j : Nat) (hj : j < cs.length), rd U[k] 0 = j ∧ j < n ∧ (cs[j].f0 = 3 ∨ cs[j].f0 = 6) ∧ rd U[k] 0 ∈ U[k] := by
  have h0 := h.some k hk
  have e : rd U[k] 0 = U[k][0] := by rw [show (0 : Int) = ((0 : Nat) : Int) from rfl, lh h0]
  have hm : U[k][0] ∈ U[k] := List.getElem_mem h0
  obtain ⟨j, hj, e', hi, r⟩ := h.at_ k hk _ hm
  exact ⟨j, hj, e.trans e', hi, r, by rw [e]; exact hm⟩
theorem MM {r c : Int} {cs : List C} (hb : cs.length ≤ 90) {U : List (List Int)} (hU : Us cs cs.length U) (d : Nat) : ∀ (i : Nat) (x : List Int), i + d = U.length → x.length = i →
    Ev (fun k => dD.l0 k x U U.length i r c cs) (x ++ (U.drop i).map (nE cs)) := by
  induction d with
  | zero =>
    intro i x hi hx
    refine Ev.succ ?_
    simp only [dD.l0]
    refine Ev.neg (by omega) (Ev.val (Ev.now _) ?_)
    rw [List.drop_of_length_le (by omega)]; simp
  | succ d ih =>
    intro i x hi hx
    have hk : i < U.length := by omega
    obtain ⟨j, hj, e, _, _, _⟩ := hU.first hk
    have hf := hU.few
    have h0 := hU.some i hk
    refine Ev.succ ?_
    simp only [dD.l0]
    refine Ev.pos (by omega) (Ev.pos (by omega) (Ev.pos (by omega) ?_))
    rw [oz hk]
    refine Ev.pos (by omega) (Ev.pos (by omega) (Ev.pos (by omega) (Ev.pos (by omega) ?_)))
    rw [bI (by omega)]
    refine Ev.val (ih (i + 1) _ (by omega) (by simp; omega)) ?_
    rw [oK hk]; simp only [List.map_cons, nE, List.append_assoc, List.singleton_append]
theorem MN {r c : Int} {cs : List C} (hb : cs.length ≤ 90) {U : List (List Int)} (hU : Us cs cs.length U) (d : Nat) : ∀ (i : Nat) (x : List Int), i + d = U.length → x.length = i →
    Ev (fun k => dw.l0 k x U U.length i r c cs) (x ++ (U.drop i).map (nE cs)) := by
  induction d with
  | zero =>
    intro i x hi hx
    refine Ev.succ ?_
    simp only [dw.l0]
    refine Ev.neg (by omega) (Ev.val (Ev.now _) ?_)
    rw [List.drop_of_length_le (by omega)]; simp
  | succ d ih =>
    intro i x hi hx
    have hk : i < U.length := by omega
    obtain ⟨j, hj, e, _, _, _⟩ := hU.first hk
    have hf := hU.few
    have h0 := hU.some i hk
    refine Ev.succ ?_
    simp only [dw.l0]
    refine Ev.pos (by omega) (Ev.pos (by omega) (Ev.pos (by omega) ?_))
    rw [oz hk]
    refine Ev.pos (by omega) (Ev.pos (by omega) (Ev.pos (by omega) (Ev.pos (by omega) ?_)))
    rw [bI (by omega)]
    refine Ev.val (ih (i + 1) _ (by omega) (by simp; omega)) ?_
    rw [oK hk]; simp only [List.map_cons, nE, List.append_assoc, List.singleton_append]
/-- The bits. -/
theorem adT {r c : Int} {cs : List C} (h : Board.Good r c cs) : ∃ U, Us cs cs.length U ∧ Ev (fun k => aD.f k r c cs) U ∧ Ev (fun k => bn.f k r c cs) U ∧
    Ev (fun k => dD.f k r c cs) (U.map (nE cs)) ∧ Ev (fun k => dw.f k r c cs) (U.map (nE cs)) ∧ ∀ x ∈ U.map (nE cs), x = 0 ∨ x = 1 := by
  obtain ⟨U, u1, u2, hU⟩ := units h
  have hl := h.len
  refine ⟨U, hU, u1, u2, ?_, ?_, ?_⟩
  · unfold dD.f
    exact Ev.bind u1 (Ev.val (MM hl.2 hU U.length 0 [] (by omega) rfl) (by simp))
  · unfold dw.f
    exact Ev.bind u2 (Ev.val (MN hl.2 hU U.length 0 [] (by omega) rfl) (by simp))
  · intro x hx
    obtain ⟨u, hu, rfl⟩ := List.mem_map.1 hx
    obtain ⟨k, hk, rfl⟩ := List.getElem_of_mem hu
    obtain ⟨j, hj, e, _, _, _⟩ := hU.first hk
    have hc := h.2 cs[j] (List.getElem_mem hj)
    unfold nE
    rw [e, jI hj]
    unfold Cell at hc
    omega
end Go.Proofs.Ytbpfdbjnnlmdjaa.Units
