/- What fixing, exchanging and the rest do to a table's values: facts of indices below sixteen, looked through one by one. Condition: at most four inputs. -/
import Derived.Test.YtgekdgggpfiamaaFixIn
import Derived.Test.YtgekdgggpfiamaaSwapIn
import Derived.Test.YtgekdgggpfiamaaDepends
import Derived.Test.YtgekdgggpfiamaaMono

namespace Go.Proofs.Ytgekdgggpfiamaa.Parts
open Go.RowKit Go.Proofs.Ytgekdgggpfiamaa.P Go.Proofs.Ytgekdgggpfiamaa.Base Go.Proofs.Ytgekdgggpfiamaa.Bit Go.Proofs.Ytgekdgggpfiamaa.Tab Go.Proofs.Ytgekdgggpfiamaa.Reord Go.Proofs.Ytgekdgggpfiamaa.Swap Go.Proofs.Ytgekdgggpfiamaa.FixIn Go.Proofs.Ytgekdgggpfiamaa.Depends Go.Proofs.Ytgekdgggpfiamaa.Put Go.Proofs.YtgekdgggpfiamaaW.PrintWords Go.Proofs.YtgekdgggpfiamaaW.PrintLast Go.Proofs.YtgekdgggpfiamaaW.PrintMore
set_option linter.unusedVariables false
set_option linter.unusedSimpArgs false
/-- The exchanged index. -/
def sg (n i k x : Nat) : Nat := reOr (order n i k) 0 x 0
/-- The index with a bit put in at place i. -/
def ins (i v j : Nat) : Nat := j % 2 ^ i + v * 2 ^ i + (j - j % 2 ^ i) * 2
def chkA : Bool := (List.range 5).all fun n => (List.range n).all fun i => (List.range n).all fun k =>
  ((List.range (2 ^ n)).all fun x => sg n i k (sg n i k x) == x && sg n i k x == sg n k i x && decide (sg n i k x < 2 ^ n) && (!(decide (k + 1 < i)) || sg n i k x == sg n k (k + 1) (sg n i (k + 1) (sg n k (k + 1) x)))) &&
  decide (((List.range (2 ^ n)).map (sg n i k)).Perm (List.range (2 ^ n)))
theorem chkA_true : chkA = true := by decide +kernel
def chkB : Bool := (List.range 5).all fun n => (List.range n).all fun i =>
  ((List.range 2).all fun v => decide ((List.range (2 ^ n)).filter (fun x => bit x i == v) = (List.range (2 ^ (n - 1))).map (ins i v)) && (List.range (2 ^ (n - 1))).all fun j => decide (ins i v j < 2 ^ n)) &&
  ((List.range (2 ^ (n - 1))).all fun j => ins i 0 j ^^^ 2 ^ i == ins i 1 j && ins i 1 j ^^^ 2 ^ i == ins i 0 j && ins i 0 j ||| 2 ^ i == ins i 1 j) &&
  ((List.range (2 ^ n)).all fun y => (List.range (2 ^ (n - 1))).any fun j => y == ins i 0 j || y == ins i 1 j)
theorem chkB_true : chkB = true := by decide +kernel
theorem all_at {p : Nat → Bool} {n : Nat} (h : (List.range n).all p = true) {i : Nat} (hi : i < n) : p i = true := List.all_eq_true.1 h i (List.mem_range.2 hi)
theorem sg_facts {n i k : Nat} (hn : n ≤ 4) (hi : i < n) (hk : k < n) {x : Nat} (hx : x < 2 ^ n) : sg n i k (sg n i k x) = x ∧ sg n i k x = sg n k i x ∧ sg n i k x < 2 ^ n ∧ (k + 1 < i → sg n i k x = sg n k (k + 1) (sg n i (k + 1) (sg n k (k + 1) x))) := by
  have h := all_at (all_at (all_at chkA_true (i := n) (by omega)) hi) hk
  rw [Bool.and_eq_true] at h
  have h1 := all_at h.1 hx
  simp only [Bool.and_eq_true, Bool.or_eq_true, Bool.not_eq_true', decide_eq_true_eq, decide_eq_false_iff_not, beq_iff_eq] at h1
  exact ⟨h1.1.1.1, h1.1.1.2, h1.1.2, fun hlt => h1.2.resolve_left (fun hh => hh hlt)⟩
theorem sg_perm {n i k : Nat} (hn : n ≤ 4) (hi : i < n) (hk : k < n) : ((List.range (2 ^ n)).map (sg n i k)).Perm (List.range (2 ^ n)) := by
  have h := all_at (all_at (all_at chkA_true (i := n) (by omega)) hi) hk
  rw [Bool.and_eq_true] at h
  exact of_decide_eq_true h.2
theorem ins_facts {n i : Nat} (hn : n ≤ 4) (hi : i < n) : (∀ v, v < 2 → (List.range (2 ^ n)).filter (fun x => bit x i == v) = (List.range (2 ^ (n - 1))).map (ins i v) ∧ ∀ j, j < 2 ^ (n - 1) → ins i v j < 2 ^ n) ∧
    (∀ j, j < 2 ^ (n - 1) → ins i 0 j ^^^ 2 ^ i = ins i 1 j ∧ ins i 1 j ^^^ 2 ^ i = ins i 0 j ∧ ins i 0 j ||| 2 ^ i = ins i 1 j) ∧ (∀ y, y < 2 ^ n → ∃ j, j < 2 ^ (n - 1) ∧ (y = ins i 0 j ∨ y = ins i 1 j)) := by
  have h := all_at (all_at chkB_true (i := n) (by omega)) hi
  simp only [Bool.and_eq_true] at h
  refine ⟨fun v hv => ?_, fun j hj => ?_, fun y hy => ?_⟩
  · have h1 := all_at h.1.1 hv
    rw [Bool.and_eq_true] at h1
    exact ⟨of_decide_eq_true h1.1, fun j hj => of_decide_eq_true (all_at h1.2 hj)⟩
  · have h1 := all_at h.1.2 hj
    simp only [Bool.and_eq_true, beq_iff_eq] at h1
    exact ⟨h1.1.1, h1.1.2, h1.2⟩
  · have h1 := all_at h.2 hy
    obtain ⟨j, hj, hh⟩ := List.any_eq_true.1 h1
    simp only [Bool.or_eq_true, beq_iff_eq] at hh
    exact ⟨j, List.mem_range.1 hj, hh⟩
/-! exchanged -/
theorem reVals_sg (l : List Int) (n i k : Nat) (d : Nat) : reVals l (order n i k) d = (List.range d).map fun x => rd l ((sg n i k x : Nat) : Int) := rfl
theorem rd_map {f : Nat → Int} {n x : Nat} (h : x < n) : rd ((List.range n).map f) (x : Int) = f x := by
  rw [rd_get (by simpa using h)]; simp
theorem reVals_twice {n i k : Nat} (hn : n ≤ 4) (hi : i < n) (hk : k < n) (l : List Int) (hl : l.length = 2 ^ n) : reVals (reVals l (order n i k) l.length) (order n i k) l.length = l := by
  apply List.ext_getElem (by simp [reVals_length])
  intro x h1 h2
  have hx : x < 2 ^ n := by omega
  obtain ⟨f1, _, f3, _⟩ := sg_facts hn hi hk hx
  simp only [reVals_sg, List.getElem_map, List.getElem_range]
  rw [rd_map (by omega), f1, rd_get h2]
theorem reVals_get {l : List Int} {n i k : Nat} (h : reVals l (order n i k) l.length = l) {x : Nat} (hx : x < l.length) : rd l ((sg n i k x : Nat) : Int) = rd l (x : Int) := by
  have e : rd (reVals l (order n i k) l.length) (x : Int) = rd l (x : Int) := by rw [h]
  rw [reVals_sg, rd_map hx] at e
  exact e
def sumL : List Int → Int
  | [] => 0
  | x :: l => x + sumL l
theorem sumL_perm {l m : List Int} (h : l.Perm m) : sumL l = sumL m := by
  induction h with
  | nil => rfl
  | cons x _ ih => simp only [sumL, ih]
  | swap x y l => simp only [sumL]; omega
  | trans _ _ h1 h2 => rw [h1, h2]
theorem reVals_sum {n i k : Nat} (hn : n ≤ 4) (hi : i < n) (hk : k < n) (l : List Int) (hl : l.length = 2 ^ n) : sumL (reVals l (order n i k) l.length) = sumL l := by
  have h := (sg_perm hn hi hk).map (fun x => rd l ((x : Nat) : Int))
  have e : (List.range (2 ^ n)).map (fun x => rd l ((x : Nat) : Int)) = l := by
    apply List.ext_getElem (by simp [hl])
    intro x h1 h2
    simp only [List.getElem_map, List.getElem_range]
    exact rd_get h2
  rw [e, List.map_map] at h
  rw [reVals_sg, hl]
  exact sumL_perm h
theorem reVals_bits {n i k : Nat} (hn : n ≤ 4) (hi : i < n) (hk : k < n) (l : List Int) (hl : l.length = 2 ^ n) (hb : Bits l) : Bits (reVals l (order n i k) l.length) := by
  intro y hy
  rw [reVals_sg] at hy
  obtain ⟨x, hx, rfl⟩ := List.mem_map.1 hy
  have hx' : x < 2 ^ n := by have := List.mem_range.1 hx; omega
  obtain ⟨_, _, f3, _⟩ := sg_facts hn hi hk hx'
  rw [rd_get (by omega)]
  exact hb.get (by omega)
/-- Neighbours may be exchanged: so may any two. -/
theorem any_two {n : Nat} (hn : n ≤ 4) (l : List Int) (hl : l.length = 2 ^ n) (h : ∀ j, 1 ≤ j → j < n → reVals l (order n (j - 1) j) l.length = l) (d : Nat) :
    ∀ (i k : Nat), i = k + 1 + d → i < n → ∀ x, x < 2 ^ n → rd l ((sg n i k x : Nat) : Int) = rd l (x : Int) := by
  have near : ∀ k x, k + 1 < n → x < 2 ^ n → rd l ((sg n k (k + 1) x : Nat) : Int) = rd l (x : Int) := by
    intro k x hk hx
    have := h (k + 1) (by omega) hk
    rw [Nat.add_sub_cancel] at this
    exact reVals_get this (by omega)
  induction d with
  | zero =>
    intro i k he hi x hx
    subst he
    obtain ⟨_, f2, _, _⟩ := sg_facts hn hi (show k < n by omega) hx
    rw [f2]
    exact near k x hi hx
  | succ d ih =>
    intro i k he hi x hx
    obtain ⟨_, _, _, f4⟩ := sg_facts hn hi (show k < n by omega) hx
    obtain ⟨_, _, b1, _⟩ := sg_facts hn (show k < n by omega) (show k + 1 < n by omega) hx
    obtain ⟨_, _, b2, _⟩ := sg_facts hn hi (show k + 1 < n by omega) b1
    rw [f4 (by omega), near k _ (by omega) b2, ih i (k + 1) (by omega) hi _ b1, near k x (by omega) hx]
theorem reVals_any {n : Nat} (hn : n ≤ 4) (l : List Int) (hl : l.length = 2 ^ n) (h : ∀ j, 1 ≤ j → j < n → reVals l (order n (j - 1) j) l.length = l) {i k : Nat} (hk : k < i) (hi : i < n) : reVals l (order n i k) l.length = l := by
  apply List.ext_getElem (by simp [reVals_length])
  intro x h1 h2
  rw [reVals_length] at h1
  have := any_two hn l hl h (i - k - 1) i k (by omega) hi x (by omega)
  simp only [reVals_sg, List.getElem_map, List.getElem_range, this]
  exact rd_get h2
/-! fixed -/
theorem kept_filter (l : List Int) (i w : Nat) : ∀ (d x : Nat), kept l i (w : Int) x d = ((List.range' x d).filter fun y => bit y i == w).map fun y => rd l ((y : Nat) : Int)
  | 0, _ => rfl
  | d + 1, x => by
    simp only [kept, List.range'_succ, List.filter_cons, kept_filter l i w d (x + 1)]
    by_cases c : bit x i = w
    · rw [if_pos (by rw [c]), if_pos (by simpa using c), List.map_cons]
    · rw [if_neg (by omega), if_neg (by simpa using c)]
theorem kept_ins {n i : Nat} (hn : n ≤ 4) (hi : i < n) (w : Nat) (hw : w < 2) (l : List Int) (hl : l.length = 2 ^ n) : kept l i (w : Int) 0 l.length = (List.range (2 ^ (n - 1))).map fun j => rd l ((ins i w j : Nat) : Int) := by
  rw [kept_filter, hl, ← List.range_eq_range', ((ins_facts hn hi).1 w hw).1, List.map_map]
  rfl
theorem kept_same {n i : Nat} (hn : n ≤ 4) (hi : i < n) (l : List Int) (hl : l.length = 2 ^ n) : kept l i 0 0 l.length = kept l i 1 0 l.length ↔ ∀ y : Nat, y < 2 ^ n → rd l (y : Int) = rd l ((y ^^^ 2 ^ i : Nat) : Int) := by
  have k0 := kept_ins hn hi 0 (by omega) l hl
  have k1 := kept_ins hn hi 1 (by omega) l hl
  rw [show ((0 : Nat) : Int) = 0 from rfl] at k0
  rw [show ((1 : Nat) : Int) = 1 from rfl] at k1
  obtain ⟨_, g2, g3⟩ := ins_facts hn hi
  rw [k0, k1]
  refine ⟨fun h y hy => ?_, fun h => ?_⟩
  · obtain ⟨j, hj, hy'⟩ := g3 y hy
    have e : rd l ((ins i 0 j : Nat) : Int) = rd l ((ins i 1 j : Nat) : Int) := by
      have := congrArg (fun z => z[j]?) h
      simpa [hj] using this
    obtain ⟨a, b, _⟩ := g2 j hj
    rcases hy' with rfl | rfl
    · rw [a, e]
    · rw [b, e]
  · apply List.map_congr_left
    intro j hj
    have hj' := List.mem_range.1 hj
    rw [h (ins i 0 j) (((ins_facts hn hi).1 0 (by omega)).2 j hj'), (g2 j hj').1]
theorem kept_le {n i : Nat} (hn : n ≤ 4) (hi : i < n) (l : List Int) (hl : l.length = 2 ^ n) (hb : Bits l) (h : ∀ x, x < 2 ^ n → Mono.okS l x i = true) (j : Nat) (hj : j < 2 ^ (n - 1)) : rd (kept l i 0 0 l.length) (j : Int) ≤ rd (kept l i 1 0 l.length) (j : Int) := by
  have k0 := kept_ins hn hi 0 (by omega) l hl
  have k1 := kept_ins hn hi 1 (by omega) l hl
  rw [show ((0 : Nat) : Int) = 0 from rfl] at k0
  rw [show ((1 : Nat) : Int) = 1 from rfl] at k1
  obtain ⟨_, _, g3⟩ := (ins_facts hn hi).2.1 j hj
  have a0 := ((ins_facts hn hi).1 0 (by omega)).2 j hj
  have a1 := ((ins_facts hn hi).1 1 (by omega)).2 j hj
  have ho := h _ a0
  rw [k0, k1, rd_map hj, rd_map hj]
  unfold Mono.okS at ho
  rw [g3] at ho
  rw [rd_get (by omega), rd_get (by omega)] at ho ⊢
  have b0 := hb.get (i := ins i 0 j) (by omega)
  have b1 := hb.get (i := ins i 1 j) (by omega)
  rcases b0 with b0 | b0 <;> rcases b1 with b1 | b1 <;> rw [b0, b1] at ho ⊢ <;> first | omega | simp at ho
theorem those_mem (p : Nat → Bool) (z i : Nat) (hi : i < z) : (i : Int) ∈ those p 0 z ↔ p i = true := by
  simp only [those, List.mem_map, List.mem_filter, List.mem_range'_1]
  refine ⟨?_, fun h => ⟨i, ⟨⟨by omega, by omega⟩, h⟩, rfl⟩⟩
  rintro ⟨j, ⟨_, hp⟩, e⟩
  have : j = i := by omega
  rw [← this]; exact hp
end Go.Proofs.Ytgekdgggpfiamaa.Parts
