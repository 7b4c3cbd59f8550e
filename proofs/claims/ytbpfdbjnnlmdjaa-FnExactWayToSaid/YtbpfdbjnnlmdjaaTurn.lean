--MINI
/- Units that turn. -/
import Derived.Test.YtbpfdbjnnlmdjaaBits
import Derived.Test.YtbpfdbjnnlmdjaaUnits
import Derived.Test.YtbpfdbjnnlmdjaaLike
import Derived.Test.YtbpfdbjnnlmdjaaPx0
import Derived.Test.YtbpfdbjnnlmdjaaPx2
import Derived.Test.YtbpfdbjnnlmdjaaPx3
import Derived.Test.YtbpfdbjnnlmdjaaPx5
import Derived.Test.YtbpfdbjnnlmdjaaPx6
import Derived.Test.YtbpfdbjnnlmdjaaPx8
namespace Go.Proofs.Ytbpfdbjnnlmdjaa.Units
open Go.RowKit Go.Proofs.Ytbpfdbjnnlmdjaa.P Go.Proofs.Ytbpfdbjnnlmdjaa.Base Go.Proofs.Ytbpfdbjnnlmdjaa.Board Go.Proofs.Ytbpfdbjnnlmdjaa.Groups Go.Proofs.YtbpfdbjnnlmdjaaW.PrintWords Go.Proofs.YtbpfdbjnnlmdjaaW.PrintLast Go.Proofs.YtbpfdbjnnlmdjaaW.PrintMore
set_option linter.unusedVariables false
set_option linter.unusedSimpArgs false
def turn (cs : List C) (i : Int) : List C := cs.set i.toNat ⟨(aj cs i).f0, wrap64 (1 - (aj cs i).f1)⟩
theorem L8 (cs : List C) (i : Int) : (turn cs i).length = cs.length := by simp [turn]
theorem U9 (cs : List C) (i j : Int) (hi : 0 ≤ i) (hj : 0 ≤ j) (h : j ≠ i) : aj (turn cs i) j = aj cs j := by
  have : i.toNat ≠ j.toNat := by omega
  simp only [aj, turn, List.getD, List.getElem?_set, if_neg this]
def turns (cs : List C) (u : List Int) : List C := u.foldl turn cs
theorem ari (u : List Int) : ∀ (cs : List C), (turns cs u).length = cs.length := by
  induction u with
  | nil => intro cs; rfl
  | cons x u ih => intro cs; show (turns (turn cs x) u).length = _; rw [ih, L8]
theorem Sw (u : List Int) (hu : ∀ x ∈ u, 0 ≤ x) (j : Int) (hj : 0 ≤ j) (h : j ∉ u) : ∀ (cs : List C), aj (turns cs u) j = aj cs j := by
  induction u with
  | nil => intro cs; rfl
  | cons x u ih =>
    intro cs
    simp only [List.mem_cons, not_or] at h
    show aj (turns (turn cs x) u) j = _
    rw [ih (fun y hy => hu y (List.mem_cons_of_mem _ hy)) h.2, U9 _ _ _ (hu x List.mem_cons_self) hj h.1]
theorem Sy {cs : List C} (u : List Int) (hu : ∀ x ∈ u, 0 ≤ x ∧ x < cs.length ∧ ((aj cs x).f0 = 3 ∨ (aj cs x).f0 = 6)) : ∀ (now : List C), uD now cs → Cells now → uD (turns now u) cs ∧ Cells (turns now u) := by
  induction u with
  | nil => intro now hL hC; exact ⟨hL, hC⟩
  | cons x u ih =>
    intro now hL hC
    obtain ⟨h0, h1, hk⟩ := hu x List.mem_cons_self
    have e : turn now x = vJ now x := rfl
    refine ih (fun y hy => hu y (List.mem_cons_of_mem _ hy)) (turn now x) ?_ ?_
    · rw [e]; exact (wV now x).trans hL
    · rw [e]; exact EP hC h0 (by rw [hL.1]; exact h1) (by rw [hL.2]; exact hk)
theorem Sz {r c : Int} {u : List Int} (hul : u.length < 9223372036854775807) {n : Nat} (hu : ∀ x ∈ u, 0 ≤ x ∧ x < n) (d : Nat) : ∀ (j : Nat) (cs : List C), j + d = u.length → cs.length = n →
    Ev (fun k => dn.l0 k u u.length j r c cs) (turns cs (u.drop j)) := by
  induction d with
  | zero =>
    intro j cs hj hc
    refine Ev.succ ?_
    simp only [dn.l0]
    refine Ev.neg (by omega) (Ev.val (Ev.now _) ?_)
    rw [List.drop_of_length_le (by omega)]; rfl
  | succ d ih =>
    intro j cs hj hc
    have hx := hu u[j] (List.getElem_mem (by omega))
    refine Ev.succ ?_
    simp only [dn.l0, kR.f, Option.bind_some]
    refine Ev.pos (by omega) (Ev.pos (by omega) (Ev.pos (by omega) ?_))
    rw [lh (by omega), bI (by omega), oK (xs := u) (by omega)]
    refine Ev.pos (by omega) (Ev.pos (by omega) ?_)
    exact ih (j + 1) (turn cs u[j]) (by omega) (by rw [L8]; exact hc)
theorem aqJ {r c : Int} {u : List Int} (hul : u.length < 9223372036854775807) {cs : List C} (hu : ∀ x ∈ u, 0 ≤ x ∧ x < cs.length) : Ev (fun k => dn.f k r c cs u) (turns cs u) := by
  unfold dn.f
  exact Ev.val (Sz hul hu u.length 0 cs (by omega) rfl) (by simp)
theorem SA {r c : Int} {B : List Int} {U : List (List Int)} {i : Nat} (hi : i < 9223372036854775807) {u : List Int} (hul : u.length < 9223372036854775807) {n : Nat} (hu : ∀ x ∈ u, 0 ≤ x ∧ x < n) {R : List C} (d : Nat) : ∀ (j : Nat) (cs : List C), j + d = u.length → cs.length = n →
    Ev (fun k => aM.l0 k B U U.length ((i + 1 : Nat) : Int) r c (turns cs (u.drop j))) R →
    Ev (fun k => aM.l1 k B U U.length i u u.length j r c cs) R := by
  induction d with
  | zero =>
    intro j cs hj hc h
    refine Ev.succ ?_
    simp only [aM.l1]
    refine Ev.neg (by omega) ?_
    rw [List.drop_of_length_le (by omega)] at h
    rw [bI hi]; exact h
  | succ d ih =>
    intro j cs hj hc h
    have hx := hu u[j] (List.getElem_mem (by omega))
    refine Ev.succ ?_
    simp only [aM.l1]
    refine Ev.pos (by omega) (Ev.pos (by omega) (Ev.pos (by omega) ?_))
    rw [lh (by omega), bI (by omega)]
    refine Ev.pos (by omega) (Ev.pos (by omega) ?_)
    refine ih (j + 1) (turn cs u[j]) (by omega) (by rw [L8]; exact hc) ?_
    rw [oK (xs := u) (by omega)] at h
    exact h
theorem Us.within {cs : List C} {n : Nat} {U : List (List Int)} (h : Us cs n U) {k : Nat} (hk : k < U.length) : ∀ x ∈ U[k], 0 ≤ x ∧ x < cs.length := fun x hx => by
  obtain ⟨j, hj, e, _, _⟩ := h.at_ k hk x hx
  omega
theorem Us.kinds {cs : List C} {n : Nat} {U : List (List Int)} (h : Us cs n U) {k : Nat} (hk : k < U.length) : ∀ x ∈ U[k], 0 ≤ x ∧ x < cs.length ∧ ((aj cs x).f0 = 3 ∨ (aj cs x).f0 = 6) := fun x hx => by
  obtain ⟨j, hj, e, _, kd⟩ := h.at_ k hk x hx
  refine ⟨by omega, by omega, ?_⟩
  rw [e, jI hj]; exact kd
theorem Us.apart {cs : List C} {n : Nat} {U : List (List Int)} (h : Us cs n U) {k k' : Nat} (hk : k < U.length) (hk' : k' < U.length) (hne : k ≠ k') {x : Int} (hx : x ∈ U[k']) : x ∉ U[k] := fun hx' => by
  obtain ⟨ow, ho⟩ := h.own
  exact hne ((ho k hk x hx').symm.trans (ho k' hk' x hx))
theorem ZC {r c : Int} {cs : List C} (hb : cs.length ≤ 90) {U : List (List Int)} (hU : Us cs cs.length U) {B : List Int} (hB : U.length ≤ B.length) (d : Nat) : ∀ (i : Nat) (now : List C), i + d = U.length → uD now cs → Cells now →
    (∀ (k : Nat) (hk : k < U.length), i ≤ k → ∀ x ∈ U[k], aj now x = aj cs x) →
    ∃ R, Ev (fun k => ed.l0 k B U U.length i r c cs r c now) (r, c, R) ∧ Ev (fun k => aM.l0 k B U U.length i r c now) R ∧ uD R cs ∧ Cells R := by
  induction d with
  | zero =>
    intro i now hi hL hC h
    refine ⟨now, Ev.succ ?_, Ev.succ ?_, hL, hC⟩
    · simp only [ed.l0]; exact Ev.neg (by omega) (Ev.now _)
    · simp only [aM.l0]; exact Ev.neg (by omega) (Ev.now _)
  | succ d ih =>
    intro i now hi hL hC h
    have hl := hL.1
    have hk : i < U.length := by omega
    have hf := hU.few
    have h0 := hU.some i hk
    have hsm := hU.small i hk
    obtain ⟨j, hj, e, _, _, hmem⟩ := hU.first hk
    have hsame := h i hk (Nat.le_refl _) _ hmem
    have hw := hU.within hk
    by_cases hbit : (aj cs (rd U[i] 0)).f1 = rd B (i : Int)
    · obtain ⟨R, h1, h2, h3⟩ := ih (i + 1) now (by omega) hL hC (fun k hk' hki x hx => h k hk' (by omega) x hx)
      refine ⟨R, Ev.succ ?_, Ev.succ ?_, h3⟩
      · simp only [ed.l0]
        refine Ev.pos (by omega) (Ev.pos (by omega) (Ev.pos (by omega) ?_))
        rw [oz hk]
        refine Ev.pos (by omega) (Ev.pos (by omega) (Ev.pos (by omega) (Ev.pos (by omega) (Ev.pos hbit ?_))))
        rw [bI (by omega)]; exact h1
      · simp only [aM.l0]
        refine Ev.pos (by omega) (Ev.pos (by omega) (Ev.pos (by omega) ?_))
        rw [oz hk]
        refine Ev.pos (by omega) (Ev.pos (by omega) (Ev.pos (by omega) (Ev.pos (by omega) (Ev.pos (by rw [hsame]; exact hbit) ?_))))
        rw [bI (by omega)]; exact h2
    · obtain ⟨R, h1, h2, h3⟩ := ih (i + 1) (turns now U[i]) (by omega) (Sy _ (hU.kinds hk) now hL hC).1 (Sy _ (hU.kinds hk) now hL hC).2 (fun k hk' hki x hx => by
        rw [Sw _ (fun y hy => (hw y hy).1) x ((hU.within hk' x hx).1) (hU.apart hk hk' (by omega) hx)]
        exact h k hk' (by omega) x hx)
      refine ⟨R, Ev.succ ?_, Ev.succ ?_, h3⟩
      · simp only [ed.l0]
        refine Ev.pos (by omega) (Ev.pos (by omega) (Ev.pos (by omega) ?_))
        rw [oz hk]
        refine Ev.pos (by omega) (Ev.pos (by omega) (Ev.pos (by omega) (Ev.pos (by omega) (Ev.neg hbit ?_))))
        refine Ev.bind (aqJ (by omega) (fun x hx => by rw [hl]; exact hw x hx)) ?_
        rw [bI (by omega)]; exact h1
      · simp only [aM.l0]
        refine Ev.pos (by omega) (Ev.pos (by omega) (Ev.pos (by omega) ?_))
        rw [oz hk]
        refine Ev.pos (by omega) (Ev.pos (by omega) (Ev.pos (by omega) (Ev.pos (by omega) (Ev.neg (by rw [hsame]; exact hbit) ?_))))
        exact SA (by omega) (by omega) hw U[i].length 0 now (by omega) hl h2
theorem al8 {r c : Int} {cs : List C} (hb : cs.length ≤ 1048576) : je.f r c cs = some (r, c, cs) := by
  unfold je.f
  simp only [Option.bind_some]
  rw [if_pos (by simp; omega)]; rfl
theorem NK {r c : Int} {cs : List C} (hb : cs.length ≤ 1048576) : fM.f r c cs = some (r, c, cs) := by
  unfold fM.f
  simp only [Option.bind_some]
  rw [if_pos (by simp; omega)]; rfl
/-- The board with bits. -/
theorem adU {r c : Int} {cs : List C} (h : Board.Good r c cs) {U : List (List Int)} (hU : Us cs cs.length U) (u1 : Ev (fun k => aD.f k r c cs) U) {B : List Int} (hB : U.length ≤ B.length) :
    ∃ R, Ev (fun k => ed.f k r c cs B) (r, c, R) ∧ Ev (fun k => aM.f k r c cs U B) R ∧ R.length = cs.length ∧ uD R cs ∧ Board.Good r c R := by
  have hl := h.len
  obtain ⟨R, h1, h2, h3, h4⟩ := ZC (r := r) (c := c) hl.2 hU hB U.length 0 cs (by omega) (uD.refl _) h.2 (fun _ _ _ _ _ => rfl)
  refine ⟨R, ?_, ?_, h3.1, h3, ⟨by rw [h3.1]; exact h.1, h4⟩⟩
  · unfold ed.f
    rw [al8 (by omega)]
    simp only [Option.bind_some]
    exact Ev.bind u1 h1
  · unfold aM.f
    exact h2
end Go.Proofs.Ytbpfdbjnnlmdjaa.Units
