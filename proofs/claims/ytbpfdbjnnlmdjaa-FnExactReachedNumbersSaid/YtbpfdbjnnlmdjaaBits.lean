import Derived.Test.YtbpfdbjnnlmdjaaUnits
import Derived.Test.YtbpfdbjnnlmdjaaPx0
import Derived.Test.YtbpfdbjnnlmdjaaPx1
import Derived.Test.YtbpfdbjnnlmdjaaPx3
import Derived.Test.YtbpfdbjnnlmdjaaPx6
namespace Go.Proofs.Ytbpfdbjnnlmdjaa.Units
open Go.RowKit P Base Board Groups YtbpfdbjnnlmdjaaW.PrintWords
set_option linter.all false
def bitAt (cs : List C) (u : List Int) : Int := (rd_T83 cs (rd u 0)).f1
theorem Us.first {cs : List C} {n : Nat} {U : List (List Int)} (h : Us cs n U) {k : Nat} (hk : k < U.length) :
    ∃ (j : Nat) (hj : j < cs.length), rd U[k] 0 = j ∧ j < n ∧ (cs[j].f0 = 3 ∨ cs[j].f0 = 6) ∧ rd U[k] 0 ∈ U[k] := by
  have h0 := h.some k hk
  have e : rd U[k] 0 = U[k][0] := by rw [show (0 : Int) = ((0 : Nat) : Int) from rfl, rd_get h0]
  have hm : U[k][0] ∈ U[k] := List.getElem_mem h0
  obtain ⟨j, hj, e', hi, r⟩ := h.at_ k hk _ hm
  exact ⟨j, hj, e.trans e', hi, r, by rw [e]; exact hm⟩
theorem specBits_loop {r c : Int} {cs : List C} (hb : cs.length ≤ 90) {U : List (List Int)} (hU : Us cs cs.length U) (d : Nat) : ∀ (i : Nat) (x : List Int), i + d = U.length → x.length = i →
    Ev (fun k => spec_saBits.l0 k x U U.length i r c cs) (x ++ (U.drop i).map (bitAt cs)) := by
  induction d with
  | zero =>
    intro i x hi hx
    refine Ev.succ ?_
    simp only [spec_saBits.l0]
    refine Ev.neg (by omega) (Ev.val (Ev.now _) ?_)
    rw [List.drop_of_length_le (by omega)]; simp
  | succ d ih =>
    intro i x hi hx
    have hk : i < U.length := by omega
    obtain ⟨j, hj, e, _, _, _⟩ := hU.first hk
    have hf := hU.few
    have h0 := hU.some i hk
    refine Ev.succ ?_
    simp only [spec_saBits.l0]
    refine Ev.pos (by omega) (Ev.pos (by omega) (Ev.pos (by omega) ?_))
    rw [rdL_get hk]
    refine Ev.pos (by omega) (Ev.pos (by omega) (Ev.pos (by omega) (Ev.pos (by omega) ?_)))
    rw [wrap_nat (by omega)]
    refine Ev.val (ih (i + 1) _ (by omega) (by simp; omega)) ?_
    rw [drop_cons hk]; simp only [List.map_cons, bitAt, List.append_assoc, List.singleton_append]
theorem implBits_loop {r c : Int} {cs : List C} (hb : cs.length ≤ 90) {U : List (List Int)} (hU : Us cs cs.length U) (d : Nat) : ∀ (i : Nat) (x : List Int), i + d = U.length → x.length = i →
    Ev (fun k => impl_bitsOf.l0 k x U U.length i r c cs) (x ++ (U.drop i).map (bitAt cs)) := by
  induction d with
  | zero =>
    intro i x hi hx
    refine Ev.succ ?_
    simp only [impl_bitsOf.l0]
    refine Ev.neg (by omega) (Ev.val (Ev.now _) ?_)
    rw [List.drop_of_length_le (by omega)]; simp
  | succ d ih =>
    intro i x hi hx
    have hk : i < U.length := by omega
    obtain ⟨j, hj, e, _, _, _⟩ := hU.first hk
    have hf := hU.few
    have h0 := hU.some i hk
    refine Ev.succ ?_
    simp only [impl_bitsOf.l0]
    refine Ev.pos (by omega) (Ev.pos (by omega) (Ev.pos (by omega) ?_))
    rw [rdL_get hk]
    refine Ev.pos (by omega) (Ev.pos (by omega) (Ev.pos (by omega) (Ev.pos (by omega) ?_)))
    rw [wrap_nat (by omega)]
    refine Ev.val (ih (i + 1) _ (by omega) (by simp; omega)) ?_
    rw [drop_cons hk]; simp only [List.map_cons, bitAt, List.append_assoc, List.singleton_append]
theorem bitsOK {r c : Int} {cs : List C} (h : Board.Good r c cs) : ∃ U, Us cs cs.length U ∧ Ev (fun k => spec_saUnits.f k r c cs) U ∧ Ev (fun k => impl_unitsOf.f k r c cs) U ∧
    Ev (fun k => spec_saBits.f k r c cs) (U.map (bitAt cs)) ∧ Ev (fun k => impl_bitsOf.f k r c cs) (U.map (bitAt cs)) ∧ ∀ x ∈ U.map (bitAt cs), x = 0 ∨ x = 1 := by
  obtain ⟨U, u1, u2, hU⟩ := units h
  have hl := h.len
  refine ⟨U, hU, u1, u2, ?_, ?_, ?_⟩
  · unfold spec_saBits.f
    exact Ev.bind u1 (Ev.val (specBits_loop hl.2 hU U.length 0 [] (by omega) rfl) (by simp))
  · unfold impl_bitsOf.f
    exact Ev.bind u2 (Ev.val (implBits_loop hl.2 hU U.length 0 [] (by omega) rfl) (by simp))
  · intro x hx
    obtain ⟨u, hu, rfl⟩ := List.mem_map.1 hx
    obtain ⟨k, hk, rfl⟩ := List.getElem_of_mem hu
    obtain ⟨j, hj, e, _, _, _⟩ := hU.first hk
    have hc := h.2 cs[j] (List.getElem_mem hj)
    unfold bitAt
    rw [e, rdC_get hj]
    unfold Cell at hc
    omega
end Go.Proofs.Ytbpfdbjnnlmdjaa.Units
