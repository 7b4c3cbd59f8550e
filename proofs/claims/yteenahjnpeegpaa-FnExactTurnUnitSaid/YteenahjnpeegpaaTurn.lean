/- Units that turn. -/
import Derived.Test.YteenahjnpeegpaaUnits
import Derived.Test.YteenahjnpeegpaaLike
import Derived.Test.YteenahjnpeegpaaPx0
import Derived.Test.YteenahjnpeegpaaPx2
import Derived.Test.YteenahjnpeegpaaPx4
namespace Go.Proofs.Yteenahjnpeegpaa.Units
open Go.RowKit Go.Proofs.Yteenahjnpeegpaa.P Go.Proofs.Yteenahjnpeegpaa.Base Go.Proofs.Yteenahjnpeegpaa.Board Go.Proofs.Yteenahjnpeegpaa.Groups Go.Proofs.YteenahjnpeegpaaW.PrintWords Go.Proofs.YteenahjnpeegpaaW.PrintLast Go.Proofs.YteenahjnpeegpaaW.PrintMore
set_option linter.unusedVariables false
set_option linter.unusedSimpArgs false
def turn (cs : List C) (i : Int) : List C := cs.set i.toNat ⟨(rd_T45 cs i).f0, wrap64 (1 - (rd_T45 cs i).f1)⟩
theorem turn_len (cs : List C) (i : Int) : (turn cs i).length = cs.length := by simp [turn]
theorem turn_other (cs : List C) (i j : Int) (hi : 0 ≤ i) (hj : 0 ≤ j) (h : j ≠ i) : rd_T45 (turn cs i) j = rd_T45 cs j := by
  have : i.toNat ≠ j.toNat := by omega
  simp only [rd_T45, turn, List.getD, List.getElem?_set, if_neg this]
def turns (cs : List C) (u : List Int) : List C := u.foldl turn cs
theorem turns_len (u : List Int) : ∀ (cs : List C), (turns cs u).length = cs.length := by
  induction u with
  | nil => intro cs; rfl
  | cons x u ih => intro cs; show (turns (turn cs x) u).length = _; rw [ih, turn_len]
theorem turns_other (u : List Int) (hu : ∀ x ∈ u, 0 ≤ x) (j : Int) (hj : 0 ≤ j) (h : j ∉ u) : ∀ (cs : List C), rd_T45 (turns cs u) j = rd_T45 cs j := by
  induction u with
  | nil => intro cs; rfl
  | cons x u ih =>
    intro cs
    simp only [List.mem_cons, not_or] at h
    show rd_T45 (turns (turn cs x) u) j = _
    rw [ih (fun y hy => hu y (List.mem_cons_of_mem _ hy)) h.2, turn_other _ _ _ (hu x List.mem_cons_self) hj h.1]
theorem turns_ok {cs : List C} (u : List Int) (hu : ∀ x ∈ u, 0 ≤ x ∧ x < cs.length ∧ ((rd_T45 cs x).f0 = 3 ∨ (rd_T45 cs x).f0 = 6)) : ∀ (now : List C), Like now cs → Cells now → Like (turns now u) cs ∧ Cells (turns now u) := by
  induction u with
  | nil => intro now hL hC; exact ⟨hL, hC⟩
  | cons x u ih =>
    intro now hL hC
    obtain ⟨h0, h1, hk⟩ := hu x List.mem_cons_self
    have e : turn now x = flipAt now x := rfl
    refine ih (fun y hy => hu y (List.mem_cons_of_mem _ hy)) (turn now x) ?_ ?_
    · rw [e]; exact (flip_like now x).trans hL
    · rw [e]; exact flip_cells hC h0 (by rw [hL.1]; exact h1) (by rw [hL.2]; exact hk)
theorem saTurn_loop {r c : Int} {u : List Int} (hul : u.length < 9223372036854775807) {n : Nat} (hu : ∀ x ∈ u, 0 ≤ x ∧ x < n) (d : Nat) : ∀ (j : Nat) (cs : List C), j + d = u.length → cs.length = n →
    Ev (fun k => spec_saTurn.l0 k u u.length j r c cs) (turns cs (u.drop j)) := by
  induction d with
  | zero =>
    intro j cs hj hc
    refine Ev.succ ?_
    simp only [spec_saTurn.l0]
    refine Ev.neg (by omega) (Ev.val (Ev.now _) ?_)
    rw [List.drop_of_length_le (by omega)]; rfl
  | succ d ih =>
    intro j cs hj hc
    have hx := hu u[j] (List.getElem_mem (by omega))
    refine Ev.succ ?_
    simp only [spec_saTurn.l0, spec_paTurn.f, Option.bind_some]
    refine Ev.pos (by omega) (Ev.pos (by omega) (Ev.pos (by omega) ?_))
    rw [rd_get (by omega), wrap_nat (by omega), drop_cons (xs := u) (by omega)]
    refine Ev.pos (by omega) (Ev.pos (by omega) ?_)
    exact ih (j + 1) (turn cs u[j]) (by omega) (by rw [turn_len]; exact hc)
theorem saTurn {r c : Int} {u : List Int} (hul : u.length < 9223372036854775807) {cs : List C} (hu : ∀ x ∈ u, 0 ≤ x ∧ x < cs.length) : Ev (fun k => spec_saTurn.f k r c cs u) (turns cs u) := by
  unfold spec_saTurn.f
  exact Ev.val (saTurn_loop hul hu u.length 0 cs (by omega) rfl) (by simp)
theorem Us.within {cs : List C} {n : Nat} {U : List (List Int)} (h : Us cs n U) {k : Nat} (hk : k < U.length) : ∀ x ∈ U[k], 0 ≤ x ∧ x < cs.length := fun x hx => by
  obtain ⟨j, hj, e, _, _⟩ := h.at_ k hk x hx
  omega
theorem Us.kinds {cs : List C} {n : Nat} {U : List (List Int)} (h : Us cs n U) {k : Nat} (hk : k < U.length) : ∀ x ∈ U[k], 0 ≤ x ∧ x < cs.length ∧ ((rd_T45 cs x).f0 = 3 ∨ (rd_T45 cs x).f0 = 6) := fun x hx => by
  obtain ⟨j, hj, e, _, kd⟩ := h.at_ k hk x hx
  refine ⟨by omega, by omega, ?_⟩
  rw [e, rdC_get hj]; exact kd
theorem Us.apart {cs : List C} {n : Nat} {U : List (List Int)} (h : Us cs n U) {k k' : Nat} (hk : k < U.length) (hk' : k' < U.length) (hne : k ≠ k') {x : Int} (hx : x ∈ U[k']) : x ∉ U[k] := fun hx' => by
  obtain ⟨ow, ho⟩ := h.own
  exact hne ((ho k hk x hx').symm.trans (ho k' hk' x hx))
theorem boOwn {r c : Int} {cs : List C} (hb : cs.length ≤ 1048576) : spec_boOwn.f r c cs = some (r, c, cs) := by
  unfold spec_boOwn.f
  simp only [Option.bind_some]
  rw [if_pos (by simp; omega)]; rfl
theorem copyBoard {r c : Int} {cs : List C} (hb : cs.length ≤ 1048576) : impl_copyBoard.f r c cs = some (r, c, cs) := by
  unfold impl_copyBoard.f
  simp only [Option.bind_some]
  rw [if_pos (by simp; omega)]; rfl
end Go.Proofs.Yteenahjnpeegpaa.Units
