--MINI
/- The numbers of gear groups: the program's and the reference's searches come to the same list; what is known of it. -/
import Derived.Test.YtbpfdbjnnlmdjaaBoard
import Derived.Test.YtbpfdbjnnlmdjaaPx1
import Derived.Test.YtbpfdbjnnlmdjaaPx2
import Derived.Test.YtbpfdbjnnlmdjaaPx7
namespace Go.Proofs.Ytbpfdbjnnlmdjaa.Groups
open Go.RowKit Go.Proofs.Ytbpfdbjnnlmdjaa.P Go.Proofs.Ytbpfdbjnnlmdjaa.Base Go.Proofs.Ytbpfdbjnnlmdjaa.Board Go.Proofs.YtbpfdbjnnlmdjaaW.PrintWords Go.Proofs.YtbpfdbjnnlmdjaaW.PrintLast Go.Proofs.YtbpfdbjnnlmdjaaW.PrintMore
set_option linter.unusedVariables false
set_option linter.unusedSimpArgs false

def near (r c i : Int) : List Int :=
  (((if Int.tdiv i c > 0 then [i - c] else []) ++ (if Int.tmod i c > 0 then [i - 1] else [])) ++ (if Int.tmod i c + 1 < c then [i + 1] else [])) ++ (if Int.tdiv i c + 1 < r then [i + c] else [])
theorem aqK {r c i : Int} (hr : 1 ≤ r ∧ r ≤ 10 ∧ 1 ≤ c ∧ c ≤ 9) (h0 : 0 ≤ i) (h1 : i < r * c) :
    i = c * Int.tdiv i c + Int.tmod i c ∧ 0 ≤ Int.tmod i c ∧ Int.tmod i c < c ∧ 0 ≤ Int.tdiv i c ∧ Int.tdiv i c < r ∧ i < 90 := by
  have ha := Zr hr
  rw [Int.tdiv_eq_ediv_of_nonneg h0, Int.tmod_eq_emod_of_nonneg h0]
  have hm := Int.emod_nonneg i (show c ≠ 0 by omega)
  have hm' := Int.emod_lt_of_pos i (show 0 < c by omega)
  have hd := Int.mul_ediv_add_emod i c
  refine ⟨hd.symm, hm, hm', Int.ediv_nonneg h0 (by omega), Int.ediv_lt_of_lt_mul (by omega) h1, by omega⟩
theorem adV {r c i x : Int} (hr : 1 ≤ r ∧ r ≤ 10 ∧ 1 ≤ c ∧ c ≤ 9) (h0 : 0 ≤ i) (h1 : i < r * c) (hx : x ∈ near r c i) : 0 ≤ x ∧ x < r * c := by
  obtain ⟨e, m0, m1, d0, d1, _⟩ := aqK hr h0 h1
  unfold near at hx
  generalize Int.tdiv i c = q at *
  generalize Int.tmod i c = m at *
  have hcr : c * r = r * c := Int.mul_comm _ _
  simp only [List.mem_append] at hx
  rcases hx with ((hx | hx) | hx) | hx
  · split at hx
    · simp only [List.mem_singleton] at hx
      have : c * 1 ≤ c * q := Int.mul_le_mul_of_nonneg_left (by omega) (by omega)
      omega
    · simp at hx
  · split at hx
    · simp only [List.mem_singleton] at hx
      have : 0 ≤ c * q := Int.mul_nonneg (by omega) (by omega)
      omega
    · simp at hx
  · split at hx
    · simp only [List.mem_singleton] at hx
      have : c * (q + 1) ≤ c * r := Int.mul_le_mul_of_nonneg_left (by omega) (by omega)
      have : c * (q + 1) = c * q + c := by rw [Int.mul_add, Int.mul_one]
      omega
    · simp at hx
  · split at hx
    · simp only [List.mem_singleton] at hx
      have : c * (q + 2) ≤ c * r := Int.mul_le_mul_of_nonneg_left (by omega) (by omega)
      have : c * (q + 2) = c * q + c * 2 := Int.mul_add _ _ _
      omega
    · simp at hx
theorem adW (r c i : Int) : (near r c i).length ≤ 4 := by
  unfold near
  simp only [List.length_append]
  have h : ∀ (p : Prop) [Decidable p] (x : Int), (if p then [x] else []).length ≤ 1 := fun p _ x => by split <;> simp
  have h1 := h (Int.tdiv i c > 0) (i - c)
  have h2 := h (Int.tmod i c > 0) (i - 1)
  have h3 := h (Int.tmod i c + 1 < c) (i + 1)
  have h4 := h (Int.tdiv i c + 1 < r) (i + c)
  omega
theorem adX {r c i : Int} {l : List C} (hr : 1 ≤ r ∧ r ≤ 10 ∧ 1 ≤ c ∧ c ≤ 9) (h0 : 0 ≤ i) (h1 : i < r * c) : Ev (fun k => bH.f k r c l i) (near r c i) := by
  obtain ⟨e, m0, m1, d0, d1, h90⟩ := aqK hr h0 h1
  unfold bH.f near
  generalize Int.tdiv i c = q at *
  generalize Int.tmod i c = m at *
  rw [gH (by omega) (by omega)]
  have J1 : ∀ x : List Int, x.length ≤ 2 → Ev (fun k => bH.j1 k i q m x r c l) ((x ++ (if m + 1 < c then [i + 1] else [])) ++ (if q + 1 < r then [i + c] else [])) := by
    intro x hx
    refine Ev.succ ?_
    simp only [bH.j1]
    rw [gH (x := m + 1) (by omega) (by omega), gH (x := q + 1) (by omega) (by omega), gH (x := i + 1) (by omega) (by omega), gH (x := i + c) (by omega) (by omega)]
    refine Ev.split (fun h => ?_) (fun h => ?_)
    · refine Ev.pos (by omega) ?_
      simp only [Option.bind_some, if_pos h]
      refine Ev.split (fun h' => Ev.pos (by simp; omega) (Ev.val (Ev.now _) (by rw [if_pos h']))) (fun h' => Ev.val (Ev.now _) (by rw [if_neg h', List.append_nil]))
    · simp only [if_neg h, List.append_nil]
      refine Ev.split (fun h' => Ev.pos (by omega) (Ev.val (Ev.now _) (by rw [if_pos h']))) (fun h' => Ev.val (Ev.now _) (by rw [if_neg h', List.append_nil]))
  have J0 : ∀ x : List Int, x.length ≤ 1 → Ev (fun k => bH.j0 k i q m x r c l) (((x ++ (if m > 0 then [i - 1] else [])) ++ (if m + 1 < c then [i + 1] else [])) ++ (if q + 1 < r then [i + c] else [])) := by
    intro x hx
    refine Ev.succ ?_
    simp only [bH.j0]
    rw [gH (x := i - 1) (by omega) (by omega)]
    refine Ev.split (fun h => ?_) (fun h => ?_)
    · refine Ev.pos (by omega) ?_
      simp only [if_pos h]
      exact J1 _ (by simp; omega)
    · simp only [if_neg h, List.append_nil]
      exact J1 _ (by omega)
  refine Ev.neg (by omega) ?_
  rw [gH (x := i - c) (by omega) (by omega)]
  refine Ev.split (fun h => ?_) (fun h => ?_)
  · refine Ev.pos (by simp) ?_
    simp only [if_pos h]
    exact J0 _ (by simp)
  · simp only [if_neg h]
    exact J0 _ (by simp)
theorem adY {r c i : Int} {l : List C} (hr : 1 ≤ r ∧ r ≤ 10 ∧ 1 ≤ c ∧ c ≤ 9) (h0 : 0 ≤ i) (h1 : i < r * c) : Ev (fun k => bF.f k r c l i) (near r c i) := by
  obtain ⟨e, m0, m1, d0, d1, h90⟩ := aqK hr h0 h1
  unfold bF.f near
  generalize Int.tdiv i c = q at *
  generalize Int.tmod i c = m at *
  rw [gH (by omega) (by omega)]
  simp only [Option.bind_some]
  have J1 : ∀ x : List Int, x.length ≤ 2 → Ev (fun k => bF.j1 k i x q m r c l) ((x ++ (if m + 1 < c then [i + 1] else [])) ++ (if q + 1 < r then [i + c] else [])) := by
    intro x hx
    refine Ev.succ ?_
    simp only [bF.j1]
    rw [gH (x := m + 1) (by omega) (by omega), gH (x := q + 1) (by omega) (by omega), gH (x := i + 1) (by omega) (by omega), gH (x := i + c) (by omega) (by omega)]
    refine Ev.split (fun h => ?_) (fun h => ?_)
    · refine Ev.pos (by omega) ?_
      simp only [Option.bind_some, if_pos h]
      refine Ev.split (fun h' => Ev.pos (by simp; omega) (Ev.val (Ev.now _) (by rw [if_pos h']))) (fun h' => Ev.val (Ev.now _) (by rw [if_neg h', List.append_nil]))
    · simp only [if_neg h, List.append_nil]
      refine Ev.split (fun h' => Ev.pos (by omega) (Ev.val (Ev.now _) (by rw [if_pos h']))) (fun h' => Ev.val (Ev.now _) (by rw [if_neg h', List.append_nil]))
  have J0 : ∀ x : List Int, x.length ≤ 1 → Ev (fun k => bF.j0 k i x q m r c l) (((x ++ (if m > 0 then [i - 1] else [])) ++ (if m + 1 < c then [i + 1] else [])) ++ (if q + 1 < r then [i + c] else [])) := by
    intro x hx
    refine Ev.succ ?_
    simp only [bF.j0]
    rw [gH (x := i - 1) (by omega) (by omega)]
    refine Ev.split (fun h => ?_) (fun h => ?_)
    · refine Ev.pos (by omega) ?_
      simp only [if_pos h]
      exact J1 _ (by simp; omega)
    · simp only [if_neg h, List.append_nil]
      exact J1 _ (by omega)
  refine Ev.neg (by omega) ?_
  rw [gH (x := i - c) (by omega) (by omega)]
  refine Ev.split (fun h => ?_) (fun h => ?_)
  · refine Ev.pos (by simp) ?_
    simp only [if_pos h]
    exact J0 _ (by simp)
  · simp only [if_neg h]
    exact J0 _ (by simp)

/-! the search -/
def Bz (x : C) : Bool := decide (x.f0 = 6) || decide (x.f0 = 7)
theorem zM (x : C) : jX.f x.f0 x.f1 = some (Bz x) := by
  unfold jX.f Bz
  split
  · simp [*]
  · congr 1; rw [Bool.eq_iff_iff]; simp only [beq_iff_eq, Bool.or_eq_true, decide_eq_true_eq]; omega
theorem zN (x : C) : jO.f x.f0 x.f1 = some (Bz x) := by
  unfold jO.f Bz
  split
  · simp [*]
  · congr 1; rw [Bool.eq_iff_iff]; simp only [beq_iff_eq, Bool.or_eq_true, decide_eq_true_eq]; omega
def neg (out : List Int) : Nat := out.countP (fun x => decide (x < 0))
theorem Qe : ∀ (out : List Int) (m : Nat) (v : Int), m < out.length → rd out m < 0 → 0 ≤ v → neg (out.set m v) + 1 = neg out
  | [], m, v, h, _, _ => by simp at h
  | x :: xs, 0, v, _, h, hv => by
    have hx : x < 0 := by simpa [rd] using h
    simp [neg, List.countP_cons, hx, show ¬ v < 0 by omega]
  | x :: xs, m + 1, v, h, h', hv => by
    have := Qe xs m v (by simpa using h) (by have e := h'; simp only [rd, Int.toNat_natCast] at e ⊢; simpa using e) hv
    simp only [neg, List.set_cons_succ, List.countP_cons] at this ⊢
    omega
theorem adZ (out : List Int) : neg out ≤ out.length := List.countP_le_length
theorem EQ (out : List Int) (m : Nat) (v : Int) (j : Nat) (hm : m < out.length) : rd (out.set m v) j = if j = m then v else rd out j := by
  by_cases e : j = m
  · subst e
    rw [if_pos rfl, lh (by simpa using hm)]; simp
  · rw [if_neg e]
    simp only [rd, Int.toNat_natCast, List.getD, List.getElem?_set, if_neg (Ne.symm e)]
structure Inv (n : Nat) (cs : List C) (i : Nat) (out : List Int) : Prop where
  len : out.length = n
  lo : ∀ j, j < n → -1 ≤ rd out (j : Nat)
  hi : ∀ j, j < n → rd out (j : Nat) < n
  all : ∀ j (h : j < cs.length), j < i → Bz cs[j] = true → 0 ≤ rd out (j : Nat)
theorem Inv.set {n : Nat} {cs : List C} {i : Nat} {out : List Int} (h : Inv n cs i out) {m : Nat} (hm : m < n) {v : Int} (h0 : 0 ≤ v) (h1 : v < n) : Inv n cs i (out.set m v) := by
  have hl := h.len
  refine ⟨by simpa using h.len, fun j hj => ?_, fun j hj => ?_, fun j hj hi hg => ?_⟩
  · rw [EQ _ _ _ _ (by omega)]; split; · omega
    exact h.lo j hj
  · rw [EQ _ _ _ _ (by omega)]; split; · omega
    exact h.hi j hj
  · rw [EQ _ _ _ _ (by omega)]; split; · omega
    exact h.all j hj hi hg
def Both (F G : Nat → Option (List Int)) (P : List Int → Prop) : Prop := ∃ r, Ev F r ∧ Ev G r ∧ P r
theorem ahQ {r c : Int} {cs : List C} {n : Nat} (hn : cs.length = n) (hb : n ≤ 90) {P : List Int → Prop} {q i cnt : Nat} (hc : cnt < n) (nb : List Int) (hnb : ∀ x : Int, x ∈ nb → 0 ≤ x ∧ x < n) (hnl : nb.length ≤ 4) (pos S : Nat) (hS : S ≤ n)
    (K : ∀ out lst, Inv n cs q out → neg out + lst.length = S → pos + 1 ≤ lst.length → (∀ x : Int, x ∈ lst → 0 ≤ x ∧ x < n) →
      Both (fun k => ax.l2 k out cnt lst ((pos + 1 : Nat) : Int) cs n i r c cs) (fun k => av.l2 k out cnt (lst.drop (pos + 1)) cs n i r c cs) P) (d : Nat) :
    ∀ (j : Nat) (out lst : List Int), j + d = nb.length → Inv n cs q out → neg out + lst.length = S → pos + 1 ≤ lst.length → (∀ x : Int, x ∈ lst → 0 ≤ x ∧ x < n) →
      Both (fun k => ax.l3 k out cnt lst pos cs n i nb nb.length j r c cs) (fun k => av.l3 k out cnt (lst.drop (pos + 1)) cs n i nb nb.length j r c cs) P := by
  induction d with
  | zero =>
    intro j out lst hj hI hs hp hm
    obtain ⟨G, h1, h2, h3⟩ := K out lst hI hs hp hm
    refine ⟨G, Ev.succ ?_, Ev.succ ?_, h3⟩
    · simp only [ax.l3]
      refine Ev.neg (by omega) ?_
      have : pos < 9223372036854775807 := by have := adZ out; omega
      rw [bI this]; exact h1
    · simp only [av.l3]
      exact Ev.neg (by omega) h2
  | succ d ih =>
    intro j out lst hj hI hs hp hm
    have hjl : j < nb.length := by omega
    have hx := hnb nb[j] (List.getElem_mem hjl)
    obtain ⟨x, ex⟩ : ∃ x : Nat, nb[j] = (x : Int) := ⟨nb[j].toNat, by omega⟩
    have hxn : x < n := by omega
    have skip := ih (j + 1) out lst (by omega) hI hs hp hm
    have hrd : rd nb (j : Int) = (x : Int) := by rw [lh hjl, ex]
    by_cases hg : Bz (cs[x]'(by omega)) = true
    · by_cases hneg : rd out (x : Int) < 0
      · have hset := hI.set hxn (v := (cnt : Int)) (by omega) (by omega)
        have hcount := Qe out x (cnt : Int) (by have := hI.len; omega) hneg (by omega)
        obtain ⟨G, h1, h2, h3⟩ := ih (j + 1) (out.set x cnt) (lst ++ [(x : Int)]) (by omega) hset (by simp; omega) (by simp; omega) (by
          intro y hy
          rcases List.mem_append.1 hy with hy | hy
          · exact hm y hy
          · simp only [List.mem_singleton] at hy; omega)
        refine ⟨G, Ev.succ ?_, Ev.succ ?_, h3⟩
        · simp only [ax.l3, hrd]
          refine Ev.pos (by omega) (Ev.pos (by omega) (Ev.pos (by omega) (Ev.pos (by omega) (Ev.pos (by omega) ?_))))
          rw [jI (by omega), zM, hg]
          simp only [Option.bind_some]
          refine Ev.pos trivial (Ev.pos (by have := hI.len; omega) (Ev.pos hneg (Ev.pos (by omega) ?_)))
          rw [bI (by omega), Int.toNat_natCast]; exact h1
        · simp only [av.l3, hrd]
          refine Ev.pos (by omega) (Ev.pos (by omega) (Ev.pos (by omega) (Ev.pos (by omega) (Ev.pos (by omega) ?_))))
          rw [jI (by omega), zN, hg]
          simp only [Option.bind_some]
          refine Ev.pos trivial (Ev.pos (by have := hI.len; omega) (Ev.pos hneg (Ev.pos (by simp; omega) ?_)))
          rw [bI (by omega), Int.toNat_natCast]
          rw [List.drop_append_of_le_length hp] at h2
          exact h2
      · obtain ⟨G, h1, h2, h3⟩ := skip
        refine ⟨G, Ev.succ ?_, Ev.succ ?_, h3⟩
        · simp only [ax.l3, hrd]
          refine Ev.pos (by omega) (Ev.pos (by omega) (Ev.pos (by omega) (Ev.pos (by omega) (Ev.pos (by omega) ?_))))
          rw [jI (by omega), zM, hg]
          simp only [Option.bind_some]
          refine Ev.pos trivial (Ev.pos (by have := hI.len; omega) (Ev.neg hneg ?_))
          rw [bI (by omega)]; exact h1
        · simp only [av.l3, hrd]
          refine Ev.pos (by omega) (Ev.pos (by omega) (Ev.pos (by omega) (Ev.pos (by omega) (Ev.pos (by omega) ?_))))
          rw [jI (by omega), zN, hg]
          simp only [Option.bind_some]
          refine Ev.pos trivial (Ev.pos (by have := hI.len; omega) (Ev.neg hneg ?_))
          rw [bI (by omega)]; exact h2
    · obtain ⟨G, h1, h2, h3⟩ := skip
      refine ⟨G, Ev.succ ?_, Ev.succ ?_, h3⟩
      · simp only [ax.l3, hrd]
        refine Ev.pos (by omega) (Ev.pos (by omega) (Ev.pos (by omega) (Ev.pos (by omega) (Ev.pos (by omega) ?_))))
        rw [jI (by omega), zM]
        simp only [Option.bind_some]
        refine Ev.neg hg ?_
        rw [bI (by omega)]; exact h1
      · simp only [av.l3, hrd]
        refine Ev.pos (by omega) (Ev.pos (by omega) (Ev.pos (by omega) (Ev.pos (by omega) (Ev.pos (by omega) ?_))))
        rw [jI (by omega), zN]
        simp only [Option.bind_some]
        refine Ev.neg hg ?_
        rw [bI (by omega)]; exact h2
theorem ahR {r c : Int} (hr : 1 ≤ r ∧ r ≤ 10 ∧ 1 ≤ c ∧ c ≤ 9) {cs : List C} {n : Nat} (hn : cs.length = n) (hrc : (n : Int) = r * c) (hb : n ≤ 90) {P : List Int → Prop} {q i cnt : Nat} (hi : i < n) (hc : cnt ≤ i)
    (K : ∀ out, Inv n cs q out → (∀ j, j < n → 0 ≤ rd out j → True) → 
      Both (fun k => ax.l1 k out ((cnt + 1 : Nat) : Int) cs n ((i + 1 : Nat) : Int) r c cs) (fun k => av.l1 k out ((cnt + 1 : Nat) : Int) cs n ((i + 1 : Nat) : Int) r c cs) P) (M : Nat) :
    ∀ (pos : Nat) (out lst : List Int), neg out + lst.length = M + pos → pos ≤ lst.length → Inv n cs q out → neg out + lst.length ≤ n → (∀ x : Int, x ∈ lst → 0 ≤ x ∧ x < n) →
      Both (fun k => ax.l2 k out cnt lst pos cs n i r c cs) (fun k => av.l2 k out cnt (lst.drop pos) cs n i r c cs) P := by
  induction M with
  | zero =>
    intro pos out lst hM hp hI hs hm
    obtain ⟨G, h1, h2, h3⟩ := K out hI (fun _ _ _ => trivial)
    refine ⟨G, Ev.succ ?_, Ev.succ ?_, h3⟩
    · simp only [ax.l2]
      refine Ev.neg (by omega) ?_
      rw [bI (by omega), bI (by omega)]; exact h1
    · simp only [av.l2]
      refine Ev.neg (by simp; omega) ?_
      rw [bI (by omega), bI (by omega)]; exact h2
  | succ M ih =>
    intro pos out lst hM hp hI hs hm
    by_cases hend : pos < lst.length
    · have hx := hm lst[pos] (List.getElem_mem hend)
      have h0 := hx.1
      have h1 : lst[pos] < r * c := by have := hx.2; omega
      have hnb : ∀ x : Int, x ∈ near r c lst[pos] → 0 ≤ x ∧ x < n := fun x h => by rw [hrc]; exact adV hr h0 h1 h
      obtain ⟨G, g1, g2, g3⟩ := ahQ (r := r) (c := c) hn hb (P := P) (q := q) (i := i) (cnt := cnt) (by omega) (near r c lst[pos]) hnb (adW _ _ _) pos (neg out + lst.length) hs
        (fun out' lst' hI' hs' hp' hm' => ih (pos + 1) out' lst' (by omega) hp' hI' (by omega) hm') (near r c lst[pos]).length 0 out lst (by omega) hI rfl (by omega) hm
      refine ⟨G, Ev.succ ?_, Ev.succ ?_, g3⟩
      · simp only [ax.l2]
        refine Ev.pos (by omega) (Ev.pos (by omega) ?_)
        rw [lh hend]
        exact Ev.bind (adX hr h0 h1) g1
      · simp only [av.l2]
        have hl : 0 < (lst.drop pos).length := by simp; omega
        refine Ev.pos (by omega) (Ev.pos (by omega) (Ev.pos (by omega) ?_))
        have : rd (lst.drop pos) 0 = lst[pos] := by
          rw [show (0 : Int) = ((0 : Nat) : Int) from rfl, lh hl]; simp
        rw [this]
        refine Ev.bind (adY hr h0 h1) ?_
        rw [show (Int.toNat 1) = 1 from rfl, List.drop_drop]
        exact g2
    · obtain ⟨G, h1, h2, h3⟩ := K out hI (fun _ _ _ => trivial)
      refine ⟨G, Ev.succ ?_, Ev.succ ?_, h3⟩
      · simp only [ax.l2]
        refine Ev.neg (by omega) ?_
        rw [bI (by omega), bI (by omega)]; exact h1
      · simp only [av.l2]
        refine Ev.neg (by simp; omega) ?_
        rw [bI (by omega), bI (by omega)]; exact h2
theorem Inv.next {n : Nat} {cs : List C} {i : Nat} {out : List Int} (h : Inv n cs i out) (hg : ∀ (hi : i < cs.length), Bz cs[i] = true → 0 ≤ rd out (i : Nat)) : Inv n cs (i + 1) out :=
  ⟨h.len, h.lo, h.hi, fun j hj hi g => by
    by_cases e : j = i
    · subst e; exact hg hj g
    · exact h.all j hj (by omega) g⟩
theorem ahS {r c : Int} (hr : 1 ≤ r ∧ r ≤ 10 ∧ 1 ≤ c ∧ c ≤ 9) {cs : List C} {n : Nat} (hn : cs.length = n) (hrc : (n : Int) = r * c) (hb : n ≤ 90) (d : Nat) :
    ∀ (i cnt : Nat) (out : List Int), i + d = n → cnt ≤ i → Inv n cs i out →
      Both (fun k => ax.l1 k out cnt cs n i r c cs) (fun k => av.l1 k out cnt cs n i r c cs) (Inv n cs n) := by
  induction d with
  | zero =>
    intro i cnt out hi hc hI
    obtain rfl : i = n := by omega
    refine ⟨out, Ev.succ ?_, Ev.succ ?_, hI⟩
    · simp only [ax.l1]; exact Ev.neg (by omega) (Ev.now _)
    · simp only [av.l1]; exact Ev.neg (by omega) (Ev.now _)
  | succ d ih =>
    intro i cnt out hi hc hI
    have hin : i < n := by omega
    have hlen := hI.len
    by_cases hg : Bz (cs[i]'(by omega)) = true
    · by_cases h0 : rd out (i : Int) ≥ 0
      · obtain ⟨G, h1, h2, h3⟩ := ih (i + 1) cnt out (by omega) (by omega) (hI.next fun _ _ => h0)
        refine ⟨G, Ev.succ ?_, Ev.succ ?_, h3⟩
        · simp only [ax.l1]
          refine Ev.pos (by omega) (Ev.pos (by omega) (Ev.pos (by omega) ?_))
          rw [jI (by omega), zM, hg]
          simp only [Option.bind_some]
          refine Ev.pos trivial (Ev.pos (by omega) (Ev.succ ?_))
          simp only [ax.j2]
          refine Ev.pos (by simpa using h0) ?_
          rw [bI (by omega)]; exact h1
        · simp only [av.l1]
          refine Ev.pos (by omega) (Ev.pos (by omega) (Ev.pos (by omega) ?_))
          rw [jI (by omega), zN, hg]
          simp only [Option.bind_some]
          refine Ev.pos trivial (Ev.pos (by omega) (Ev.succ ?_))
          simp only [av.j2]
          refine Ev.pos (by simpa using h0) ?_
          rw [bI (by omega)]; exact h2
      · have hset : Inv n cs (i + 1) (out.set i cnt) := (hI.set hin (v := (cnt : Int)) (by omega) (by omega)).next fun _ _ => by rw [EQ _ _ _ _ (by omega), if_pos rfl]; omega
        have hcount := Qe out i (cnt : Int) (by omega) (by omega) (by omega)
        have hle := adZ out
        obtain ⟨G, h1, h2, h3⟩ := ahR hr hn hrc hb (P := Inv n cs n) (q := i + 1) (i := i) (cnt := cnt) hin hc (fun out' hI' _ => ih (i + 1) (cnt + 1) out' (by omega) (by omega) hI') (neg (out.set i cnt) + 1) 0 (out.set i cnt) [(i : Int)] (by simp) (by simp) hset (by simp; omega) (by
          intro x hx; simp only [List.mem_singleton] at hx; omega)
        refine ⟨G, Ev.succ ?_, Ev.succ ?_, h3⟩
        · simp only [ax.l1]
          refine Ev.pos (by omega) (Ev.pos (by omega) (Ev.pos (by omega) ?_))
          rw [jI (by omega), zM, hg]
          simp only [Option.bind_some]
          refine Ev.pos trivial (Ev.pos (by omega) (Ev.succ ?_))
          simp only [ax.j2]
          refine Ev.neg (by simpa using h0) (Ev.pos (by omega) (Ev.pos (by omega) ?_))
          rw [Int.toNat_natCast]; exact h1
        · simp only [av.l1]
          refine Ev.pos (by omega) (Ev.pos (by omega) (Ev.pos (by omega) ?_))
          rw [jI (by omega), zN, hg]
          simp only [Option.bind_some]
          refine Ev.pos trivial (Ev.pos (by omega) (Ev.succ ?_))
          simp only [av.j2]
          refine Ev.neg (by simpa using h0) (Ev.pos (by omega) (Ev.pos (by omega) ?_))
          rw [Int.toNat_natCast]; exact h2
    · obtain ⟨G, h1, h2, h3⟩ := ih (i + 1) cnt out (by omega) (by omega) (hI.next fun _ g => absurd g hg)
      refine ⟨G, Ev.succ ?_, Ev.succ ?_, h3⟩
      · simp only [ax.l1]
        refine Ev.pos (by omega) (Ev.pos (by omega) (Ev.pos (by omega) ?_))
        rw [jI (by omega), zM]
        simp only [Option.bind_some]
        refine Ev.neg hg (Ev.succ ?_)
        simp only [ax.j2, if_true]
        rw [bI (by omega)]; exact h1
      · simp only [av.l1]
        refine Ev.pos (by omega) (Ev.pos (by omega) (Ev.pos (by omega) ?_))
        rw [jI (by omega), zN]
        simp only [Option.bind_some]
        refine Ev.neg hg (Ev.succ ?_)
        simp only [av.j2, if_true]
        rw [bI (by omega)]; exact h2
theorem ahT {r c : Int} {cs : List C} {n : Nat} (hn : cs.length = n) (hb : n ≤ 90) {P : List Int → Prop}
    (K : ∀ out : List Int, out.length = n → (∀ j : Nat, j < n → rd out j = -1) → Both (fun k => ax.l1 k out 0 cs n 0 r c cs) (fun k => av.l1 k out 0 cs n 0 r c cs) P) (d : Nat) :
    ∀ (i : Nat) (out : List Int), i + d = n → out.length = n → (∀ j : Nat, j < i → rd out j = -1) →
      Both (fun k => ax.l0 k out n i r c cs) (fun k => av.l0 k out n i r c cs) P := by
  induction d with
  | zero =>
    intro i out hi hl h
    obtain ⟨G, h1, h2, h3⟩ := K out hl (fun j hj => h j (by omega))
    refine ⟨G, Ev.succ ?_, Ev.succ ?_, h3⟩
    · simp only [ax.l0, hn]; exact Ev.neg (by omega) h1
    · simp only [av.l0, hn]; exact Ev.neg (by omega) h2
  | succ d ih =>
    intro i out hi hl h
    obtain ⟨G, h1, h2, h3⟩ := ih (i + 1) (out.set i (-1)) (by omega) (by simpa using hl) (fun j hj => by
      rw [EQ _ _ _ _ (by omega)]
      split
      · rfl
      · exact h j (by omega))
    refine ⟨G, Ev.succ ?_, Ev.succ ?_, h3⟩
    · simp only [ax.l0]
      refine Ev.pos (by omega) (Ev.pos (by omega) (Ev.pos (by omega) ?_))
      rw [bI (by omega), Int.toNat_natCast]; exact h1
    · simp only [av.l0]
      refine Ev.pos (by omega) (Ev.pos (by omega) (Ev.pos (by omega) ?_))
      rw [bI (by omega), Int.toNat_natCast]; exact h2
/-- The program's and the reference's groups of a valid board. -/
theorem groups {r c : Int} {cs : List C} (h : Board.Good r c cs) : ∃ G, Ev (fun k => ax.f k r c cs) G ∧ Ev (fun k => av.f k r c cs) G ∧ Inv cs.length cs cs.length G := by
  have hl := h.len
  have hr : 1 ≤ r ∧ r ≤ 10 ∧ 1 ≤ c ∧ c ≤ 9 := ⟨h.1.1, h.1.2.1, h.1.2.2.1, h.1.2.2.2.1⟩
  obtain ⟨G, h1, h2, h3⟩ := ahT (r := r) (c := c) (cs := cs) (n := cs.length) rfl hl.2 (P := Inv cs.length cs cs.length)
    (fun out ho hm => ahS hr rfl h.1.2.2.2.2 hl.2 cs.length 0 0 out (by omega) (by omega) ⟨ho, fun j hj => by rw [hm j hj]; omega, fun j hj => by rw [hm j hj]; omega, fun j hj hi => by omega⟩)
    cs.length 0 (List.replicate cs.length 0) (by omega) (by simp) (fun j hj => by omega)
  refine ⟨G, ?_, ?_, h3⟩
  · unfold ax.f
    refine Ev.pos (by omega) (Ev.pos (by omega) ?_)
    simp only [Option.bind_some, Int.toNat_natCast, List.length_replicate]
    exact h1
  · unfold av.f
    refine Ev.pos (by omega) (Ev.pos (by omega) ?_)
    simp only [Option.bind_some, Int.toNat_natCast, List.length_replicate]
    exact h2
end Go.Proofs.Ytbpfdbjnnlmdjaa.Groups
