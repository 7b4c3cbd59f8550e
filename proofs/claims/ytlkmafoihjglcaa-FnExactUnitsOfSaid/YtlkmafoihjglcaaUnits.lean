/- The units of a valid board: the program's list and the reference's are one; what is known of it. -/
import Derived.Test.YtlkmafoihjglcaaGroups
import Derived.Test.YtlkmafoihjglcaaMapW
import Derived.Test.YtlkmafoihjglcaaPx2
import Derived.Test.YtlkmafoihjglcaaPx3
namespace Go.Proofs.Ytlkmafoihjglcaa.Units
open Go.RowKit Go.Proofs.Ytlkmafoihjglcaa.P Go.Proofs.Ytlkmafoihjglcaa.Base Go.Proofs.Ytlkmafoihjglcaa.Board Go.Proofs.Ytlkmafoihjglcaa.Groups Go.Proofs.YtlkmafoihjglcaaW.PrintWords Go.Proofs.YtlkmafoihjglcaaW.PrintLast Go.Proofs.YtlkmafoihjglcaaW.PrintMore
set_option linter.unusedVariables false
set_option linter.unusedSimpArgs false
theorem rdL_get {xs : List (List Int)} {i : Nat} (h : i < xs.length) : rd_L3 xs (i : Int) = xs[i] := by
  simp [rd_L3, List.getD, List.getElem?_eq_getElem h]
/-- Units of the cells ahead of i. -/
structure Us (cs : List C) (i : Nat) (U : List (List Int)) : Prop where
  some : ∀ (k : Nat) (h : k < U.length), 0 < U[k].length
  small : ∀ (k : Nat) (h : k < U.length), U[k].length ≤ i
  at_ : ∀ (k : Nat) (h : k < U.length) (x : Int), x ∈ U[k] → ∃ (j : Nat) (hj : j < cs.length), x = j ∧ j < i ∧ (cs[j].f0 = 3 ∨ cs[j].f0 = 6)
  own : ∃ ow : Int → Nat, ∀ (k : Nat) (h : k < U.length) (x : Int), x ∈ U[k] → ow x = k
  few : U.length ≤ i
theorem Us.next {cs : List C} {i : Nat} {U : List (List Int)} (h : Us cs i U) : Us cs (i + 1) U :=
  ⟨h.some, fun k hk => by have := h.small k hk; omega, fun k hk x hx => by
    obtain ⟨j, hj, e, hi, r⟩ := h.at_ k hk x hx
    exact ⟨j, hj, e, by omega, r⟩, h.own, by have := h.few; omega⟩
theorem Us.add {cs : List C} {i : Nat} {U : List (List Int)} (h : Us cs i U) (hi : i < cs.length) (hk : cs[i].f0 = 3 ∨ cs[i].f0 = 6) : Us cs (i + 1) (U ++ [[(i : Int)]]) := by
  have hl := h.few
  refine ⟨fun k hk' => ?_, fun k hk' => ?_, fun k hk' x hx => ?_, ?_, by simp; omega⟩
  · by_cases e : k < U.length
    · rw [List.getElem_append_left e]; exact h.some k e
    · rw [List.getElem_append_right (by omega)]; simp
  · by_cases e : k < U.length
    · rw [List.getElem_append_left e]; have := h.small k e; omega
    · rw [List.getElem_append_right (by omega)]; simp
  · by_cases e : k < U.length
    · rw [List.getElem_append_left e] at hx
      obtain ⟨j, hj, e', hi', r⟩ := h.at_ k e x hx
      exact ⟨j, hj, e', by omega, r⟩
    · rw [List.getElem_append_right (by omega)] at hx
      simp only [List.getElem_singleton, List.mem_singleton] at hx
      exact ⟨i, hi, hx, by omega, hk⟩
  · obtain ⟨ow, ho⟩ := h.own
    refine ⟨fun x => if x = (i : Int) then U.length else ow x, fun k hk' x hx => ?_⟩
    by_cases e : k < U.length
    · rw [List.getElem_append_left e] at hx
      obtain ⟨j, hj, e', hi', r⟩ := h.at_ k e x hx
      simp only [show x ≠ (i : Int) by omega, if_false]
      exact ho k e x hx
    · rw [List.getElem_append_right (by omega)] at hx
      simp only [List.getElem_singleton, List.mem_singleton] at hx
      simp only [hx, if_true]
      simp at hk'; omega
theorem Us.put {cs : List C} {i : Nat} {U : List (List Int)} (h : Us cs i U) (hi : i < cs.length) (hk : cs[i].f0 = 3 ∨ cs[i].f0 = 6) {m : Nat} (hm : m < U.length) : Us cs (i + 1) (U.set m (U[m] ++ [(i : Int)])) := by
  have hl := h.few
  refine ⟨fun k hk' => ?_, fun k hk' => ?_, fun k hk' x hx => ?_, ?_, by simp; omega⟩
  · rw [List.getElem_set]; split
    · simp
    · exact h.some k (by simpa using hk')
  · rw [List.getElem_set]; split
    · have := h.small m hm; simp; omega
    · have := h.small k (by simpa using hk'); omega
  · rw [List.getElem_set] at hx
    split at hx
    · rcases List.mem_append.1 hx with hx | hx
      · obtain ⟨j, hj, e', hi', r⟩ := h.at_ m hm x hx
        exact ⟨j, hj, e', by omega, r⟩
      · simp only [List.mem_singleton] at hx
        exact ⟨i, hi, hx, by omega, hk⟩
    · obtain ⟨j, hj, e', hi', r⟩ := h.at_ k (by simpa using hk') x hx
      exact ⟨j, hj, e', by omega, r⟩
  · obtain ⟨ow, ho⟩ := h.own
    refine ⟨fun x => if x = (i : Int) then m else ow x, fun k hk' x hx => ?_⟩
    rw [List.getElem_set] at hx
    split at hx
    · rcases List.mem_append.1 hx with hx | hx
      · obtain ⟨j, hj, e', hi', r⟩ := h.at_ m hm x hx
        simp only [show x ≠ (i : Int) by omega, if_false]
        rw [ho m hm x hx]; omega
      · simp only [List.mem_singleton] at hx
        simp only [hx, if_true]; omega
    · obtain ⟨j, hj, e', hi', r⟩ := h.at_ k (by simpa using hk') x hx
      simp only [show x ≠ (i : Int) by omega, if_false]
      exact ho k (by simpa using hk') x hx
/-- The reference's list of numbers and the program's map tell the same. -/
def Sim (n m : Nat) (num : List Int) (xm : List (Int × Int)) : Prop :=
  num.length = n ∧ xm.length ≤ m ∧ ∀ g : Nat, g < n → (rd num g < 0 ∧ mhas xm g = false) ∨ (mhas xm g = true ∧ mget xm g = rd num g ∧ 0 ≤ rd num g ∧ rd num g < m)
theorem Sim.more {n m m' : Nat} {num : List Int} {xm : List (Int × Int)} (h : Sim n m num xm) (hm : m ≤ m') : Sim n m' num xm :=
  ⟨h.1, by have := h.2.1; omega, fun g hg => by rcases h.2.2 g hg with h | h; · exact .inl h
                                                exact .inr ⟨h.1, h.2.1, h.2.2.1, by have := h.2.2.2; omega⟩⟩
theorem Sim.put {n m : Nat} {num : List Int} {xm : List (Int × Int)} (h : Sim n m num xm) {g : Nat} (hg : g < n) : Sim n (m + 1) (num.set g m) (((g : Int), (m : Int)) :: xm) := by
  refine ⟨by simpa using h.1, by have := h.2.1; simp; omega, fun j hj => ?_⟩
  have hl := h.1
  rw [rd_set _ _ _ _ (by omega)]
  by_cases e : j = g
  · subst e
    rw [if_pos rfl]
    exact .inr ⟨by simp [mhas], by simp [mget], by omega, by omega⟩
  · rw [if_neg e]
    have hb : ((j : Int) == (g : Int)) = false := by simp; omega
    rcases h.2.2 j hj with h | h
    · exact .inl ⟨h.1, by simp only [mhas, List.lookup_cons, hb]; exact h.2⟩
    · refine .inr ⟨by simp only [mhas, List.lookup_cons, hb]; exact h.1, by simp only [mget, List.lookup_cons, hb]; exact h.2.1, h.2.2.1, by have := h.2.2.2; omega⟩
def Two {α : Type} (F G : Nat → Option α) (P : α → Prop) : Prop := ∃ r, Ev F r ∧ Ev G r ∧ P r
theorem units_loop {cs : List C} (hb : cs.length ≤ 90) {G : List Int} (hI : Inv cs.length cs cs.length G) (d : Nat) : ∀ (i : Nat) (num : List Int) (xm : List (Int × Int)) (U : List (List Int)),
    i + d = cs.length → Us cs i U → Sim cs.length U.length num xm →
    Two (fun k => spec_saUnits.l1 k G num U cs cs.length i) (fun k => impl_unitsOf.l0 k G U cs cs.length i xm) (Us cs cs.length) := by
  induction d with
  | zero =>
    intro i num xm U hi hU hS
    obtain rfl : i = cs.length := by omega
    refine ⟨U, Ev.succ ?_, Ev.succ ?_, hU⟩
    · simp only [spec_saUnits.l1]; exact Ev.neg (by omega) (Ev.now _)
    · simp only [impl_unitsOf.l0]; exact Ev.neg (by omega) (Ev.now _)
  | succ d ih =>
    intro i num xm U hi hU hS
    have hin : i < cs.length := by omega
    have hf := hU.few
    have hGl := hI.len
    have hnl := hS.1
    have hxl := hS.2.1
    by_cases k3 : cs[i].f0 = 3
    · obtain ⟨R, h1, h2, h3⟩ := ih (i + 1) num xm (U ++ [[(i : Int)]]) (by omega) (hU.add hin (.inl k3)) (hS.more (by simp))
      refine ⟨R, Ev.succ ?_, Ev.succ ?_, h3⟩
      · simp only [spec_saUnits.l1]
        refine Ev.pos (by omega) (Ev.pos (by omega) (Ev.pos (by omega) ?_))
        rw [rdC_get hin]
        refine Ev.pos k3 (Ev.pos (by omega) ?_)
        rw [wrap_nat (by omega)]; exact h1
      · simp only [impl_unitsOf.l0]
        refine Ev.pos (by omega) (Ev.pos (by omega) (Ev.pos (by omega) ?_))
        rw [rdC_get hin]
        refine Ev.pos k3 (Ev.pos (by omega) ?_)
        rw [wrap_nat (by omega)]; exact h2
    · by_cases k6 : cs[i].f0 = 6
      · have hg0 := hI.all i hin hin (by simp [geared, k6])
        have hg1 := hI.hi i hin
        obtain ⟨g, eg⟩ : ∃ g : Nat, rd G (i : Int) = (g : Int) := ⟨(rd G (i : Int)).toNat, by omega⟩
        have hgn : g < cs.length := by omega
        rcases hS.2.2 g hgn with ⟨hneg, hno⟩ | ⟨hyes, hget, hm0, hm1⟩
        · obtain ⟨R, h1, h2, h3⟩ := ih (i + 1) (num.set g U.length) (((g : Int), (U.length : Int)) :: xm) (U ++ [[(i : Int)]]) (by omega) (hU.add hin (.inr k6)) (by simpa using hS.put hgn)
          refine ⟨R, Ev.succ ?_, Ev.succ ?_, h3⟩
          · simp only [spec_saUnits.l1]
            refine Ev.pos (by omega) (Ev.pos (by omega) (Ev.pos (by omega) ?_))
            rw [rdC_get hin]
            refine Ev.neg k3 (Ev.pos k6 (Ev.pos (by omega) ?_))
            rw [eg]
            refine Ev.pos (by omega) (Ev.pos (by omega) (Ev.succ ?_))
            simp only [spec_saUnits.j2, eg]
            refine Ev.pos (by simpa using hneg) (Ev.pos (by omega) (Ev.pos (by omega) (Ev.pos (by omega) (Ev.pos (by omega) (Ev.pos (by omega) ?_)))))
            rw [wrap_nat (by omega), Int.toNat_natCast]; exact h1
          · simp only [impl_unitsOf.l0, eg]
            refine Ev.pos (by omega) (Ev.pos (by omega) (Ev.pos (by omega) ?_))
            rw [rdC_get hin]
            refine Ev.neg k3 (Ev.pos k6 (Ev.pos (by omega) (Ev.pos (wrap_id (by omega) (by omega)) (Ev.neg (by simp [hno]) (Ev.pos (by omega) (Ev.pos (by omega) ?_))))))
            simp only [Option.bind_some]
            have hy : rd_L3 (U ++ [[]]) (U.length : Int) = [] := by rw [rdL_get (by simp)]; simp
            refine Ev.pos (by omega) (Ev.pos (by simp; omega) (Ev.pos (by rw [hy]; simp) ?_))
            rw [hy, wrap_nat (by omega), Int.toNat_natCast]
            have : (U ++ [[]]).set U.length ([] ++ [(i : Int)]) = U ++ [[(i : Int)]] := by simp [List.set_append_right]
            rw [this]; exact h2
        · obtain ⟨m, em⟩ : ∃ m : Nat, rd num (g : Int) = (m : Int) := ⟨(rd num (g : Int)).toNat, by omega⟩
          have hmU : m < U.length := by omega
          obtain ⟨R, h1, h2, h3⟩ := ih (i + 1) num xm (U.set m (U[m] ++ [(i : Int)])) (by omega) (hU.put hin (.inr k6) hmU) (by simpa using hS)
          have hsm := hU.small m hmU
          refine ⟨R, Ev.succ ?_, Ev.succ ?_, h3⟩
          · simp only [spec_saUnits.l1]
            refine Ev.pos (by omega) (Ev.pos (by omega) (Ev.pos (by omega) ?_))
            rw [rdC_get hin]
            refine Ev.neg k3 (Ev.pos k6 (Ev.pos (by omega) ?_))
            rw [eg]
            refine Ev.pos (by omega) (Ev.pos (by omega) (Ev.succ ?_))
            simp only [spec_saUnits.j2, eg, em]
            refine Ev.neg (by simp) (Ev.pos k6 (Ev.pos (by omega) (Ev.pos (by omega) (Ev.pos (by omega) (Ev.pos (by omega) (Ev.pos (by omega) (Ev.pos (by omega) ?_)))))))
            rw [rdL_get hmU]
            refine Ev.pos (by omega) ?_
            rw [wrap_nat (by omega), Int.toNat_natCast]; exact h1
          · simp only [impl_unitsOf.l0, eg]
            refine Ev.pos (by omega) (Ev.pos (by omega) (Ev.pos (by omega) ?_))
            rw [rdC_get hin]
            refine Ev.neg k3 (Ev.pos k6 (Ev.pos (by omega) (Ev.pos (wrap_id (by omega) (by omega)) (Ev.pos hyes ?_))))
            rw [hget, em]
            refine Ev.pos (by omega) (Ev.pos (by omega) ?_)
            rw [rdL_get hmU]
            refine Ev.pos (by omega) ?_
            rw [wrap_nat (by omega), Int.toNat_natCast]; exact h2
      · obtain ⟨R, h1, h2, h3⟩ := ih (i + 1) num xm U (by omega) hU.next hS
        refine ⟨R, Ev.succ ?_, Ev.succ ?_, h3⟩
        · simp only [spec_saUnits.l1]
          refine Ev.pos (by omega) (Ev.pos (by omega) (Ev.pos (by omega) ?_))
          rw [rdC_get hin]
          refine Ev.neg k3 (Ev.neg k6 (Ev.succ ?_))
          simp only [spec_saUnits.j2]
          refine Ev.neg (by simp) (Ev.neg k6 ?_)
          rw [wrap_nat (by omega)]; exact h1
        · simp only [impl_unitsOf.l0]
          refine Ev.pos (by omega) (Ev.pos (by omega) (Ev.pos (by omega) ?_))
          rw [rdC_get hin]
          refine Ev.neg k3 (Ev.neg k6 ?_)
          rw [wrap_nat (by omega)]; exact h2
theorem minus_loop {r c : Int} {cs : List C} (hb : cs.length ≤ 90) {G : List Int} {R : List (List Int)}
    (K : ∀ num : List Int, num.length = cs.length → (∀ j : Nat, j < cs.length → rd num j = -1) → Ev (fun k => spec_saUnits.l1 k G num [] cs cs.length 0) R) (d : Nat) : ∀ (i : Nat) (num : List Int),
    i + d = cs.length → num.length = cs.length → (∀ j : Nat, j < i → rd num j = -1) → Ev (fun k => spec_saUnits.l0 k G num cs.length i r c cs) R := by
  induction d with
  | zero =>
    intro i num hi hl h
    refine Ev.succ ?_
    simp only [spec_saUnits.l0]
    exact Ev.neg (by omega) (K num hl (fun j hj => h j (by omega)))
  | succ d ih =>
    intro i num hi hl h
    refine Ev.succ ?_
    simp only [spec_saUnits.l0]
    refine Ev.pos (by omega) (Ev.pos (by omega) (Ev.pos (by omega) ?_))
    rw [wrap_nat (by omega), Int.toNat_natCast]
    refine ih (i + 1) _ (by omega) (by simpa using hl) (fun j hj => ?_)
    rw [rd_set _ _ _ _ (by omega)]
    split
    · rfl
    · exact h j (by omega)
theorem det {α : Type} {g : Nat → Option α} {a b : α} (h : Ev g a) (h' : Ev g b) : a = b := by
  obtain ⟨K, h⟩ := h
  obtain ⟨K', h'⟩ := h'
  have e1 := h (max K K') (Nat.le_max_left _ _)
  have e2 := h' (max K K') (Nat.le_max_right _ _)
  rw [e1] at e2
  exact Option.some.inj e2
theorem units {r c : Int} {cs : List C} (h : Board.Good r c cs) : ∃ U, Ev (fun k => spec_saUnits.f k r c cs) U ∧ Ev (fun k => impl_unitsOf.f k r c cs) U ∧ Us cs cs.length U := by
  have hl := h.len
  obtain ⟨G, g1, g2, hI⟩ := groups h
  have base : ∀ num : List Int, num.length = cs.length → (∀ j : Nat, j < cs.length → rd num j = -1) → Sim cs.length ([] : List (List Int)).length num [] := fun num hn hm =>
    ⟨hn, by simp, fun g hg => .inl ⟨by rw [hm g hg]; omega, rfl⟩⟩
  have hU0 : Us cs 0 [] := ⟨fun k hk => by simp at hk, fun k hk => by simp at hk, fun k hk => by simp at hk, ⟨fun _ => 0, fun k hk => by simp at hk⟩, by simp⟩
  have h0 : ∀ j : Nat, j < cs.length → rd (List.replicate cs.length (-1)) j = -1 := fun j hj => by rw [rd_get (by simpa using hj)]; simp
  obtain ⟨U, _, h2, h3⟩ := units_loop hl.2 hI cs.length 0 _ [] [] (by omega) hU0 (base _ (by simp) h0)
  refine ⟨U, ?_, ?_, h3⟩
  · unfold spec_saUnits.f
    refine Ev.bind g1 (Ev.pos (by omega) (Ev.pos (by omega) ?_))
    simp only [Option.bind_some, Int.toNat_natCast, List.length_replicate]
    refine minus_loop hl.2 (fun num hn hm => ?_) cs.length 0 _ (by omega) (by simp) (fun j hj => by omega)
    obtain ⟨U', h1', h2', _⟩ := units_loop hl.2 hI cs.length 0 num [] [] (by omega) hU0 (base num hn hm)
    exact Ev.val h1' (det h2' h2)
  · unfold impl_unitsOf.f
    exact Ev.bind g2 h2
end Go.Proofs.Ytlkmafoihjglcaa.Units
