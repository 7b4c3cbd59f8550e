/- The numbers of gear groups: the program's and the reference's searches come to the same list; what is known of it. -/
import Derived.Test.YtlkmafoihjglcaaBoard
import Derived.Test.YtlkmafoihjglcaaPx1
import Derived.Test.YtlkmafoihjglcaaPx2
import Derived.Test.YtlkmafoihjglcaaPx3
namespace Go.Proofs.Ytlkmafoihjglcaa.Groups
open Go.RowKit Go.Proofs.Ytlkmafoihjglcaa.P Go.Proofs.Ytlkmafoihjglcaa.Base Go.Proofs.Ytlkmafoihjglcaa.Board Go.Proofs.YtlkmafoihjglcaaW.PrintWords Go.Proofs.YtlkmafoihjglcaaW.PrintLast Go.Proofs.YtlkmafoihjglcaaW.PrintMore
set_option linter.unusedVariables false
set_option linter.unusedSimpArgs false

def near (r c i : Int) : List Int :=
  (((if Int.tdiv i c > 0 then [i - c] else []) ++ (if Int.tmod i c > 0 then [i - 1] else [])) ++ (if Int.tmod i c + 1 < c then [i + 1] else [])) ++ (if Int.tdiv i c + 1 < r then [i + c] else [])
theorem divs {r c i : Int} (hr : 1 ≤ r ∧ r ≤ 10 ∧ 1 ≤ c ∧ c ≤ 9) (h0 : 0 ≤ i) (h1 : i < r * c) :
    i = c * Int.tdiv i c + Int.tmod i c ∧ 0 ≤ Int.tmod i c ∧ Int.tmod i c < c ∧ 0 ≤ Int.tdiv i c ∧ Int.tdiv i c < r ∧ i < 90 := by
  have ha := area hr
  rw [Int.tdiv_eq_ediv_of_nonneg h0, Int.tmod_eq_emod_of_nonneg h0]
  have hm := Int.emod_nonneg i (show c ≠ 0 by omega)
  have hm' := Int.emod_lt_of_pos i (show 0 < c by omega)
  have hd := Int.mul_ediv_add_emod i c
  refine ⟨hd.symm, hm, hm', Int.ediv_nonneg h0 (by omega), Int.ediv_lt_of_lt_mul (by omega) h1, by omega⟩
theorem near_mem {r c i x : Int} (hr : 1 ≤ r ∧ r ≤ 10 ∧ 1 ≤ c ∧ c ≤ 9) (h0 : 0 ≤ i) (h1 : i < r * c) (hx : x ∈ near r c i) : 0 ≤ x ∧ x < r * c := by
  obtain ⟨e, m0, m1, d0, d1, _⟩ := divs hr h0 h1
  unfold near at hx
  generalize Int.tdiv i c = q at *
  generalize Int.tmod i c = m at *
  have hcr : c * r = r * c := Int.mul_comm _ _
  simp only [List.mem_append] at hx
  rcases hx with ((hx | hx) | hx) | hx
  · split at hx
    · simp only [List.mem_singleton] at hx
      have : c * 1 ≤ c * q := Int.mul_le_mul_of_nonneg_left (by omega) (by omega)
      omega
    · simp at hx
  · split at hx
    · simp only [List.mem_singleton] at hx
      have : 0 ≤ c * q := Int.mul_nonneg (by omega) (by omega)
      omega
    · simp at hx
  · split at hx
    · simp only [List.mem_singleton] at hx
      have : c * (q + 1) ≤ c * r := Int.mul_le_mul_of_nonneg_left (by omega) (by omega)
      have : c * (q + 1) = c * q + c := by rw [Int.mul_add, Int.mul_one]
      omega
    · simp at hx
  · split at hx
    · simp only [List.mem_singleton] at hx
      have : c * (q + 2) ≤ c * r := Int.mul_le_mul_of_nonneg_left (by omega) (by omega)
      have : c * (q + 2) = c * q + c * 2 := Int.mul_add _ _ _
      omega
    · simp at hx
theorem near_len (r c i : Int) : (near r c i).length ≤ 4 := by
  unfold near
  simp only [List.length_append]
  have h : ∀ (p : Prop) [Decidable p] (x : Int), (if p then [x] else []).length ≤ 1 := fun p _ x => by split <;> simp
  have h1 := h (Int.tdiv i c > 0) (i - c)
  have h2 := h (Int.tmod i c > 0) (i - 1)
  have h3 := h (Int.tmod i c + 1 < c) (i + 1)
  have h4 := h (Int.tdiv i c + 1 < r) (i + c)
  omega
theorem specNear {r c i : Int} {l : List C} (hr : 1 ≤ r ∧ r ≤ 10 ∧ 1 ≤ c ∧ c ≤ 9) (h0 : 0 ≤ i) (h1 : i < r * c) : Ev (fun k => spec_ggNear.f k r c l i) (near r c i) := by
  obtain ⟨e, m0, m1, d0, d1, h90⟩ := divs hr h0 h1
  unfold spec_ggNear.f near
  generalize Int.tdiv i c = q at *
  generalize Int.tmod i c = m at *
  rw [wrap_id (by omega) (by omega)]
  have J1 : ∀ x : List Int, x.length ≤ 2 → Ev (fun k => spec_ggNear.j1 k i q m x r c l) ((x ++ (if m + 1 < c then [i + 1] else [])) ++ (if q + 1 < r then [i + c] else [])) := by
    intro x hx
    refine Ev.succ ?_
    simp only [spec_ggNear.j1]
    rw [wrap_id (x := m + 1) (by omega) (by omega), wrap_id (x := q + 1) (by omega) (by omega), wrap_id (x := i + 1) (by omega) (by omega), wrap_id (x := i + c) (by omega) (by omega)]
    refine Ev.split (fun h => ?_) (fun h => ?_)
    · refine Ev.pos (by omega) ?_
      simp only [Option.bind_some, if_pos h]
      refine Ev.split (fun h' => Ev.pos (by simp; omega) (Ev.val (Ev.now _) (by rw [if_pos h']))) (fun h' => Ev.val (Ev.now _) (by rw [if_neg h', List.append_nil]))
    · simp only [if_neg h, List.append_nil]
      refine Ev.split (fun h' => Ev.pos (by omega) (Ev.val (Ev.now _) (by rw [if_pos h']))) (fun h' => Ev.val (Ev.now _) (by rw [if_neg h', List.append_nil]))
  have J0 : ∀ x : List Int, x.length ≤ 1 → Ev (fun k => spec_ggNear.j0 k i q m x r c l) (((x ++ (if m > 0 then [i - 1] else [])) ++ (if m + 1 < c then [i + 1] else [])) ++ (if q + 1 < r then [i + c] else [])) := by
    intro x hx
    refine Ev.succ ?_
    simp only [spec_ggNear.j0]
    rw [wrap_id (x := i - 1) (by omega) (by omega)]
    refine Ev.split (fun h => ?_) (fun h => ?_)
    · refine Ev.pos (by omega) ?_
      simp only [if_pos h]
      exact J1 _ (by simp; omega)
    · simp only [if_neg h, List.append_nil]
      exact J1 _ (by omega)
  refine Ev.neg (by omega) ?_
  rw [wrap_id (x := i - c) (by omega) (by omega)]
  refine Ev.split (fun h => ?_) (fun h => ?_)
  · refine Ev.pos (by simp) ?_
    simp only [if_pos h]
    exact J0 _ (by simp)
  · simp only [if_neg h]
    exact J0 _ (by simp)
theorem implNear {r c i : Int} {l : List C} (hr : 1 ≤ r ∧ r ≤ 10 ∧ 1 ≤ c ∧ c ≤ 9) (h0 : 0 ≤ i) (h1 : i < r * c) : Ev (fun k => impl_besideOf.f k r c l i) (near r c i) := by
  obtain ⟨e, m0, m1, d0, d1, h90⟩ := divs hr h0 h1
  unfold impl_besideOf.f near
  generalize Int.tdiv i c = q at *
  generalize Int.tmod i c = m at *
  rw [wrap_id (by omega) (by omega)]
  simp only [Option.bind_some]
  have J1 : ∀ x : List Int, x.length ≤ 2 → Ev (fun k => impl_besideOf.j1 k i x q m r c l) ((x ++ (if m + 1 < c then [i + 1] else [])) ++ (if q + 1 < r then [i + c] else [])) := by
    intro x hx
    refine Ev.succ ?_
    simp only [impl_besideOf.j1]
    rw [wrap_id (x := m + 1) (by omega) (by omega), wrap_id (x := q + 1) (by omega) (by omega), wrap_id (x := i + 1) (by omega) (by omega), wrap_id (x := i + c) (by omega) (by omega)]
    refine Ev.split (fun h => ?_) (fun h => ?_)
    · refine Ev.pos (by omega) ?_
      simp only [Option.bind_some, if_pos h]
      refine Ev.split (fun h' => Ev.pos (by simp; omega) (Ev.val (Ev.now _) (by rw [if_pos h']))) (fun h' => Ev.val (Ev.now _) (by rw [if_neg h', List.append_nil]))
    · simp only [if_neg h, List.append_nil]
      refine Ev.split (fun h' => Ev.pos (by omega) (Ev.val (Ev.now _) (by rw [if_pos h']))) (fun h' => Ev.val (Ev.now _) (by rw [if_neg h', List.append_nil]))
  have J0 : ∀ x : List Int, x.length ≤ 1 → Ev (fun k => impl_besideOf.j0 k i x q m r c l) (((x ++ (if m > 0 then [i - 1] else [])) ++ (if m + 1 < c then [i + 1] else [])) ++ (if q + 1 < r then [i + c] else [])) := by
    intro x hx
    refine Ev.succ ?_
    simp only [impl_besideOf.j0]
    rw [wrap_id (x := i - 1) (by omega) (by omega)]
    refine Ev.split (fun h => ?_) (fun h => ?_)
    · refine Ev.pos (by omega) ?_
      simp only [if_pos h]
      exact J1 _ (by simp; omega)
    · simp only [if_neg h, List.append_nil]
      exact J1 _ (by omega)
  refine Ev.neg (by omega) ?_
  rw [wrap_id (x := i - c) (by omega) (by omega)]
  refine Ev.split (fun h => ?_) (fun h => ?_)
  · refine Ev.pos (by simp) ?_
    simp only [if_pos h]
    exact J0 _ (by simp)
  · simp only [if_neg h]
    exact J0 _ (by simp)

/-! the search -/
def geared (x : C) : Bool := decide (x.f0 = 6) || decide (x.f0 = 7)
theorem specGear (x : C) : spec_ggGear.f x.f0 x.f1 = some (geared x) := by
  unfold spec_ggGear.f geared
  split
  · simp [*]
  · congr 1; rw [Bool.eq_iff_iff]; simp only [beq_iff_eq, Bool.or_eq_true, decide_eq_true_eq]; omega
theorem implGear (x : C) : impl_isGeared.f x.f0 x.f1 = some (geared x) := by
  unfold impl_isGeared.f geared
  split
  · simp [*]
  · congr 1; rw [Bool.eq_iff_iff]; simp only [beq_iff_eq, Bool.or_eq_true, decide_eq_true_eq]; omega
def neg (out : List Int) : Nat := out.countP (fun x => decide (x < 0))
theorem neg_set : ∀ (out : List Int) (m : Nat) (v : Int), m < out.length → rd out m < 0 → 0 ≤ v → neg (out.set m v) + 1 = neg out
  | [], m, v, h, _, _ => by simp at h
  | x :: xs, 0, v, _, h, hv => by
    have hx : x < 0 := by simpa [rd] using h
    simp [neg, List.countP_cons, hx, show ¬ v < 0 by omega]
  | x :: xs, m + 1, v, h, h', hv => by
    have := neg_set xs m v (by simpa using h) (by have e := h'; simp only [rd, Int.toNat_natCast] at e ⊢; simpa using e) hv
    simp only [neg, List.set_cons_succ, List.countP_cons] at this ⊢
    omega
theorem neg_le (out : List Int) : neg out ≤ out.length := List.countP_le_length
theorem rd_set (out : List Int) (m : Nat) (v : Int) (j : Nat) (hm : m < out.length) : rd (out.set m v) j = if j = m then v else rd out j := by
  by_cases e : j = m
  · subst e
    rw [if_pos rfl, rd_get (by simpa using hm)]; simp
  · rw [if_neg e]
    simp only [rd, Int.toNat_natCast, List.getD, List.getElem?_set, if_neg (Ne.symm e)]
structure Inv (n : Nat) (cs : List C) (i : Nat) (out : List Int) : Prop where
  len : out.length = n
  lo : ∀ j, j < n → -1 ≤ rd out (j : Nat)
  hi : ∀ j, j < n → rd out (j : Nat) < n
  all : ∀ j (h : j < cs.length), j < i → geared cs[j] = true → 0 ≤ rd out (j : Nat)
theorem Inv.set {n : Nat} {cs : List C} {i : Nat} {out : List Int} (h : Inv n cs i out) {m : Nat} (hm : m < n) {v : Int} (h0 : 0 ≤ v) (h1 : v < n) : Inv n cs i (out.set m v) := by
  have hl := h.len
  refine ⟨by simpa using h.len, fun j hj => ?_, fun j hj => ?_, fun j hj hi hg => ?_⟩
  · rw [rd_set _ _ _ _ (by omega)]; split; · omega
    exact h.lo j hj
  · rw [rd_set _ _ _ _ (by omega)]; split; · omega
    exact h.hi j hj
  · rw [rd_set _ _ _ _ (by omega)]; split; · omega
    exact h.all j hj hi hg
def Both (F G : Nat → Option (List Int)) (P : List Int → Prop) : Prop := ∃ r, Ev F r ∧ Ev G r ∧ P r
theorem l3_both {r c : Int} {cs : List C} {n : Nat} (hn : cs.length = n) (hb : n ≤ 90) {P : List Int → Prop} {q i cnt : Nat} (hc : cnt < n) (nb : List Int) (hnb : ∀ x : Int, x ∈ nb → 0 ≤ x ∧ x < n) (hnl : nb.length ≤ 4) (pos S : Nat) (hS : S ≤ n)
    (K : ∀ out lst, Inv n cs q out → neg out + lst.length = S → pos + 1 ≤ lst.length → (∀ x : Int, x ∈ lst → 0 ≤ x ∧ x < n) →
      Both (fun k => spec_ggGroups.l2 k out cnt lst ((pos + 1 : Nat) : Int) cs n i r c cs) (fun k => impl_groupNumbers.l2 k out cnt (lst.drop (pos + 1)) cs n i r c cs) P) (d : Nat) :
    ∀ (j : Nat) (out lst : List Int), j + d = nb.length → Inv n cs q out → neg out + lst.length = S → pos + 1 ≤ lst.length → (∀ x : Int, x ∈ lst → 0 ≤ x ∧ x < n) →
      Both (fun k => spec_ggGroups.l3 k out cnt lst pos cs n i nb nb.length j r c cs) (fun k => impl_groupNumbers.l3 k out cnt (lst.drop (pos + 1)) cs n i nb nb.length j r c cs) P := by
  induction d with
  | zero =>
    intro j out lst hj hI hs hp hm
    obtain ⟨G, h1, h2, h3⟩ := K out lst hI hs hp hm
    refine ⟨G, Ev.succ ?_, Ev.succ ?_, h3⟩
    · simp only [spec_ggGroups.l3]
      refine Ev.neg (by omega) ?_
      have : pos < 9223372036854775807 := by have := neg_le out; omega
      rw [wrap_nat this]; exact h1
    · simp only [impl_groupNumbers.l3]
      exact Ev.neg (by omega) h2
  | succ d ih =>
    intro j out lst hj hI hs hp hm
    have hjl : j < nb.length := by omega
    have hx := hnb nb[j] (List.getElem_mem hjl)
    obtain ⟨x, ex⟩ : ∃ x : Nat, nb[j] = (x : Int) := ⟨nb[j].toNat, by omega⟩
    have hxn : x < n := by omega
    have skip := ih (j + 1) out lst (by omega) hI hs hp hm
    have hrd : rd nb (j : Int) = (x : Int) := by rw [rd_get hjl, ex]
    by_cases hg : geared (cs[x]'(by omega)) = true
    · by_cases hneg : rd out (x : Int) < 0
      · have hset := hI.set hxn (v := (cnt : Int)) (by omega) (by omega)
        have hcount := neg_set out x (cnt : Int) (by have := hI.len; omega) hneg (by omega)
        obtain ⟨G, h1, h2, h3⟩ := ih (j + 1) (out.set x cnt) (lst ++ [(x : Int)]) (by omega) hset (by simp; omega) (by simp; omega) (by
          intro y hy
          rcases List.mem_append.1 hy with hy | hy
          · exact hm y hy
          · simp only [List.mem_singleton] at hy; omega)
        refine ⟨G, Ev.succ ?_, Ev.succ ?_, h3⟩
        · simp only [spec_ggGroups.l3, hrd]
          refine Ev.pos (by omega) (Ev.pos (by omega) (Ev.pos (by omega) (Ev.pos (by omega) (Ev.pos (by omega) ?_))))
          rw [rdC_get (by omega), specGear, hg]
          simp only [Option.bind_some]
          refine Ev.pos trivial (Ev.pos (by have := hI.len; omega) (Ev.pos hneg (Ev.pos (by omega) ?_)))
          rw [wrap_nat (by omega), Int.toNat_natCast]; exact h1
        · simp only [impl_groupNumbers.l3, hrd]
          refine Ev.pos (by omega) (Ev.pos (by omega) (Ev.pos (by omega) (Ev.pos (by omega) (Ev.pos (by omega) ?_))))
          rw [rdC_get (by omega), implGear, hg]
          simp only [Option.bind_some]
          refine Ev.pos trivial (Ev.pos (by have := hI.len; omega) (Ev.pos hneg (Ev.pos (by simp; omega) ?_)))
          rw [wrap_nat (by omega), Int.toNat_natCast]
          rw [List.drop_append_of_le_length hp] at h2
          exact h2
      · obtain ⟨G, h1, h2, h3⟩ := skip
        refine ⟨G, Ev.succ ?_, Ev.succ ?_, h3⟩
        · simp only [spec_ggGroups.l3, hrd]
          refine Ev.pos (by omega) (Ev.pos (by omega) (Ev.pos (by omega) (Ev.pos (by omega) (Ev.pos (by omega) ?_))))
          rw [rdC_get (by omega), specGear, hg]
          simp only [Option.bind_some]
          refine Ev.pos trivial (Ev.pos (by have := hI.len; omega) (Ev.neg hneg ?_))
          rw [wrap_nat (by omega)]; exact h1
        · simp only [impl_groupNumbers.l3, hrd]
          refine Ev.pos (by omega) (Ev.pos (by omega) (Ev.pos (by omega) (Ev.pos (by omega) (Ev.pos (by omega) ?_))))
          rw [rdC_get (by omega), implGear, hg]
          simp only [Option.bind_some]
          refine Ev.pos trivial (Ev.pos (by have := hI.len; omega) (Ev.neg hneg ?_))
          rw [wrap_nat (by omega)]; exact h2
    · obtain ⟨G, h1, h2, h3⟩ := skip
      refine ⟨G, Ev.succ ?_, Ev.succ ?_, h3⟩
      · simp only [spec_ggGroups.l3, hrd]
        refine Ev.pos (by omega) (Ev.pos (by omega) (Ev.pos (by omega) (Ev.pos (by omega) (Ev.pos (by omega) ?_))))
        rw [rdC_get (by omega), specGear]
        simp only [Option.bind_some]
        refine Ev.neg hg ?_
        rw [wrap_nat (by omega)]; exact h1
      · simp only [impl_groupNumbers.l3, hrd]
        refine Ev.pos (by omega) (Ev.pos (by omega) (Ev.pos (by omega) (Ev.pos (by omega) (Ev.pos (by omega) ?_))))
        rw [rdC_get (by omega), implGear]
        simp only [Option.bind_some]
        refine Ev.neg hg ?_
        rw [wrap_nat (by omega)]; exact h2
theorem l2_both {r c : Int} (hr : 1 ≤ r ∧ r ≤ 10 ∧ 1 ≤ c ∧ c ≤ 9) {cs : List C} {n : Nat} (hn : cs.length = n) (hrc : (n : Int) = r * c) (hb : n ≤ 90) {P : List Int → Prop} {q i cnt : Nat} (hi : i < n) (hc : cnt ≤ i)
    (K : ∀ out, Inv n cs q out → (∀ j, j < n → 0 ≤ rd out j → True) → 
      Both (fun k => spec_ggGroups.l1 k out ((cnt + 1 : Nat) : Int) cs n ((i + 1 : Nat) : Int) r c cs) (fun k => impl_groupNumbers.l1 k out ((cnt + 1 : Nat) : Int) cs n ((i + 1 : Nat) : Int) r c cs) P) (M : Nat) :
    ∀ (pos : Nat) (out lst : List Int), neg out + lst.length = M + pos → pos ≤ lst.length → Inv n cs q out → neg out + lst.length ≤ n → (∀ x : Int, x ∈ lst → 0 ≤ x ∧ x < n) →
      Both (fun k => spec_ggGroups.l2 k out cnt lst pos cs n i r c cs) (fun k => impl_groupNumbers.l2 k out cnt (lst.drop pos) cs n i r c cs) P := by
  induction M with
  | zero =>
    intro pos out lst hM hp hI hs hm
    obtain ⟨G, h1, h2, h3⟩ := K out hI (fun _ _ _ => trivial)
    refine ⟨G, Ev.succ ?_, Ev.succ ?_, h3⟩
    · simp only [spec_ggGroups.l2]
      refine Ev.neg (by omega) ?_
      rw [wrap_nat (by omega), wrap_nat (by omega)]; exact h1
    · simp only [impl_groupNumbers.l2]
      refine Ev.neg (by simp; omega) ?_
      rw [wrap_nat (by omega), wrap_nat (by omega)]; exact h2
  | succ M ih =>
    intro pos out lst hM hp hI hs hm
    by_cases hend : pos < lst.length
    · have hx := hm lst[pos] (List.getElem_mem hend)
      have h0 := hx.1
      have h1 : lst[pos] < r * c := by have := hx.2; omega
      have hnb : ∀ x : Int, x ∈ near r c lst[pos] → 0 ≤ x ∧ x < n := fun x h => by rw [hrc]; exact near_mem hr h0 h1 h
      obtain ⟨G, g1, g2, g3⟩ := l3_both (r := r) (c := c) hn hb (P := P) (q := q) (i := i) (cnt := cnt) (by omega) (near r c lst[pos]) hnb (near_len _ _ _) pos (neg out + lst.length) hs
        (fun out' lst' hI' hs' hp' hm' => ih (pos + 1) out' lst' (by omega) hp' hI' (by omega) hm') (near r c lst[pos]).length 0 out lst (by omega) hI rfl (by omega) hm
      refine ⟨G, Ev.succ ?_, Ev.succ ?_, g3⟩
      · simp only [spec_ggGroups.l2]
        refine Ev.pos (by omega) (Ev.pos (by omega) ?_)
        rw [rd_get hend]
        exact Ev.bind (specNear hr h0 h1) g1
      · simp only [impl_groupNumbers.l2]
        have hl : 0 < (lst.drop pos).length := by simp; omega
        refine Ev.pos (by omega) (Ev.pos (by omega) (Ev.pos (by omega) ?_))
        have : rd (lst.drop pos) 0 = lst[pos] := by
          rw [show (0 : Int) = ((0 : Nat) : Int) from rfl, rd_get hl]; simp
        rw [this]
        refine Ev.bind (implNear hr h0 h1) ?_
        rw [show (Int.toNat 1) = 1 from rfl, List.drop_drop]
        exact g2
    · obtain ⟨G, h1, h2, h3⟩ := K out hI (fun _ _ _ => trivial)
      refine ⟨G, Ev.succ ?_, Ev.succ ?_, h3⟩
      · simp only [spec_ggGroups.l2]
        refine Ev.neg (by omega) ?_
        rw [wrap_nat (by omega), wrap_nat (by omega)]; exact h1
      · simp only [impl_groupNumbers.l2]
        refine Ev.neg (by simp; omega) ?_
        rw [wrap_nat (by omega), wrap_nat (by omega)]; exact h2
theorem Inv.next {n : Nat} {cs : List C} {i : Nat} {out : List Int} (h : Inv n cs i out) (hg : ∀ (hi : i < cs.length), geared cs[i] = true → 0 ≤ rd out (i : Nat)) : Inv n cs (i + 1) out :=
  ⟨h.len, h.lo, h.hi, fun j hj hi g => by
    by_cases e : j = i
    · subst e; exact hg hj g
    · exact h.all j hj (by omega) g⟩
theorem l1_both {r c : Int} (hr : 1 ≤ r ∧ r ≤ 10 ∧ 1 ≤ c ∧ c ≤ 9) {cs : List C} {n : Nat} (hn : cs.length = n) (hrc : (n : Int) = r * c) (hb : n ≤ 90) (d : Nat) :
    ∀ (i cnt : Nat) (out : List Int), i + d = n → cnt ≤ i → Inv n cs i out →
      Both (fun k => spec_ggGroups.l1 k out cnt cs n i r c cs) (fun k => impl_groupNumbers.l1 k out cnt cs n i r c cs) (Inv n cs n) := by
  induction d with
  | zero =>
    intro i cnt out hi hc hI
    obtain rfl : i = n := by omega
    refine ⟨out, Ev.succ ?_, Ev.succ ?_, hI⟩
    · simp only [spec_ggGroups.l1]; exact Ev.neg (by omega) (Ev.now _)
    · simp only [impl_groupNumbers.l1]; exact Ev.neg (by omega) (Ev.now _)
  | succ d ih =>
    intro i cnt out hi hc hI
    have hin : i < n := by omega
    have hlen := hI.len
    by_cases hg : geared (cs[i]'(by omega)) = true
    · by_cases h0 : rd out (i : Int) ≥ 0
      · obtain ⟨G, h1, h2, h3⟩ := ih (i + 1) cnt out (by omega) (by omega) (hI.next fun _ _ => h0)
        refine ⟨G, Ev.succ ?_, Ev.succ ?_, h3⟩
        · simp only [spec_ggGroups.l1]
          refine Ev.pos (by omega) (Ev.pos (by omega) (Ev.pos (by omega) ?_))
          rw [rdC_get (by omega), specGear, hg]
          simp only [Option.bind_some]
          refine Ev.pos trivial (Ev.pos (by omega) (Ev.succ ?_))
          simp only [spec_ggGroups.j2]
          refine Ev.pos (by simpa using h0) ?_
          rw [wrap_nat (by omega)]; exact h1
        · simp only [impl_groupNumbers.l1]
          refine Ev.pos (by omega) (Ev.pos (by omega) (Ev.pos (by omega) ?_))
          rw [rdC_get (by omega), implGear, hg]
          simp only [Option.bind_some]
          refine Ev.pos trivial (Ev.pos (by omega) (Ev.succ ?_))
          simp only [impl_groupNumbers.j2]
          refine Ev.pos (by simpa using h0) ?_
          rw [wrap_nat (by omega)]; exact h2
      · have hset : Inv n cs (i + 1) (out.set i cnt) := (hI.set hin (v := (cnt : Int)) (by omega) (by omega)).next fun _ _ => by rw [rd_set _ _ _ _ (by omega), if_pos rfl]; omega
        have hcount := neg_set out i (cnt : Int) (by omega) (by omega) (by omega)
        have hle := neg_le out
        obtain ⟨G, h1, h2, h3⟩ := l2_both hr hn hrc hb (P := Inv n cs n) (q := i + 1) (i := i) (cnt := cnt) hin hc (fun out' hI' _ => ih (i + 1) (cnt + 1) out' (by omega) (by omega) hI') (neg (out.set i cnt) + 1) 0 (out.set i cnt) [(i : Int)] (by simp) (by simp) hset (by simp; omega) (by
          intro x hx; simp only [List.mem_singleton] at hx; omega)
        refine ⟨G, Ev.succ ?_, Ev.succ ?_, h3⟩
        · simp only [spec_ggGroups.l1]
          refine Ev.pos (by omega) (Ev.pos (by omega) (Ev.pos (by omega) ?_))
          rw [rdC_get (by omega), specGear, hg]
          simp only [Option.bind_some]
          refine Ev.pos trivial (Ev.pos (by omega) (Ev.succ ?_))
          simp only [spec_ggGroups.j2]
          refine Ev.neg (by simpa using h0) (Ev.pos (by omega) (Ev.pos (by omega) ?_))
          rw [Int.toNat_natCast]; exact h1
        · simp only [impl_groupNumbers.l1]
          refine Ev.pos (by omega) (Ev.pos (by omega) (Ev.pos (by omega) ?_))
          rw [rdC_get (by omega), implGear, hg]
          simp only [Option.bind_some]
          refine Ev.pos trivial (Ev.pos (by omega) (Ev.succ ?_))
          simp only [impl_groupNumbers.j2]
          refine Ev.neg (by simpa using h0) (Ev.pos (by omega) (Ev.pos (by omega) ?_))
          rw [Int.toNat_natCast]; exact h2
    · obtain ⟨G, h1, h2, h3⟩ := ih (i + 1) cnt out (by omega) (by omega) (hI.next fun _ g => absurd g hg)
      refine ⟨G, Ev.succ ?_, Ev.succ ?_, h3⟩
      · simp only [spec_ggGroups.l1]
        refine Ev.pos (by omega) (Ev.pos (by omega) (Ev.pos (by omega) ?_))
        rw [rdC_get (by omega), specGear]
        simp only [Option.bind_some]
        refine Ev.neg hg (Ev.succ ?_)
        simp only [spec_ggGroups.j2, if_true]
        rw [wrap_nat (by omega)]; exact h1
      · simp only [impl_groupNumbers.l1]
        refine Ev.pos (by omega) (Ev.pos (by omega) (Ev.pos (by omega) ?_))
        rw [rdC_get (by omega), implGear]
        simp only [Option.bind_some]
        refine Ev.neg hg (Ev.succ ?_)
        simp only [impl_groupNumbers.j2, if_true]
        rw [wrap_nat (by omega)]; exact h2
theorem l0_both {r c : Int} {cs : List C} {n : Nat} (hn : cs.length = n) (hb : n ≤ 90) {P : List Int → Prop}
    (K : ∀ out : List Int, out.length = n → (∀ j : Nat, j < n → rd out j = -1) → Both (fun k => spec_ggGroups.l1 k out 0 cs n 0 r c cs) (fun k => impl_groupNumbers.l1 k out 0 cs n 0 r c cs) P) (d : Nat) :
    ∀ (i : Nat) (out : List Int), i + d = n → out.length = n → (∀ j : Nat, j < i → rd out j = -1) →
      Both (fun k => spec_ggGroups.l0 k out n i r c cs) (fun k => impl_groupNumbers.l0 k out n i r c cs) P := by
  induction d with
  | zero =>
    intro i out hi hl h
    obtain ⟨G, h1, h2, h3⟩ := K out hl (fun j hj => h j (by omega))
    refine ⟨G, Ev.succ ?_, Ev.succ ?_, h3⟩
    · simp only [spec_ggGroups.l0, hn]; exact Ev.neg (by omega) h1
    · simp only [impl_groupNumbers.l0, hn]; exact Ev.neg (by omega) h2
  | succ d ih =>
    intro i out hi hl h
    obtain ⟨G, h1, h2, h3⟩ := ih (i + 1) (out.set i (-1)) (by omega) (by simpa using hl) (fun j hj => by
      rw [rd_set _ _ _ _ (by omega)]
      split
      · rfl
      · exact h j (by omega))
    refine ⟨G, Ev.succ ?_, Ev.succ ?_, h3⟩
    · simp only [spec_ggGroups.l0]
      refine Ev.pos (by omega) (Ev.pos (by omega) (Ev.pos (by omega) ?_))
      rw [wrap_nat (by omega), Int.toNat_natCast]; exact h1
    · simp only [impl_groupNumbers.l0]
      refine Ev.pos (by omega) (Ev.pos (by omega) (Ev.pos (by omega) ?_))
      rw [wrap_nat (by omega), Int.toNat_natCast]; exact h2
/-- The program's and the reference's groups of a valid board. -/
theorem groups {r c : Int} {cs : List C} (h : Board.Good r c cs) : ∃ G, Ev (fun k => spec_ggGroups.f k r c cs) G ∧ Ev (fun k => impl_groupNumbers.f k r c cs) G ∧ Inv cs.length cs cs.length G := by
  have hl := h.len
  have hr : 1 ≤ r ∧ r ≤ 10 ∧ 1 ≤ c ∧ c ≤ 9 := ⟨h.1.1, h.1.2.1, h.1.2.2.1, h.1.2.2.2.1⟩
  obtain ⟨G, h1, h2, h3⟩ := l0_both (r := r) (c := c) (cs := cs) (n := cs.length) rfl hl.2 (P := Inv cs.length cs cs.length)
    (fun out ho hm => l1_both hr rfl h.1.2.2.2.2 hl.2 cs.length 0 0 out (by omega) (by omega) ⟨ho, fun j hj => by rw [hm j hj]; omega, fun j hj => by rw [hm j hj]; omega, fun j hj hi => by omega⟩)
    cs.length 0 (List.replicate cs.length 0) (by omega) (by simp) (fun j hj => by omega)
  refine ⟨G, ?_, ?_, h3⟩
  · unfold spec_ggGroups.f
    refine Ev.pos (by omega) (Ev.pos (by omega) ?_)
    simp only [Option.bind_some, Int.toNat_natCast, List.length_replicate]
    exact h1
  · unfold impl_groupNumbers.f
    refine Ev.pos (by omega) (Ev.pos (by omega) ?_)
    simp only [Option.bind_some, Int.toNat_natCast, List.length_replicate]
    exact h2
end Go.Proofs.Ytlkmafoihjglcaa.Groups
