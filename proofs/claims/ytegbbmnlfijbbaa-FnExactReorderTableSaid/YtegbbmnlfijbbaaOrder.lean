/- A table in another order: the program's and the reference's tests of an order and their tables come to the same. No condition beyond the lengths named. -/
import Derived.Test.YtegbbmnlfijbbaaReord
import Derived.Test.YtegbbmnlfijbbaaPx26
import Derived.Test.YtegbbmnlfijbbaaPx43
import Derived.Test.YtegbbmnlfijbbaaPx44
namespace Go.Proofs.Ytegbbmnlfijbbaa.Order
open Go.RowKit Go.Proofs.Ytegbbmnlfijbbaa.P Go.Proofs.Ytegbbmnlfijbbaa.Base Go.Proofs.Ytegbbmnlfijbbaa.Bit Go.Proofs.Ytegbbmnlfijbbaa.Tab Go.Proofs.Ytegbbmnlfijbbaa.Reord Go.Proofs.YtegbbmnlfijbbaaW.PrintWords Go.Proofs.YtegbbmnlfijbbaaW.PrintLast Go.Proofs.YtegbbmnlfijbbaaW.PrintMore
set_option linter.unusedVariables false
set_option linter.unusedSimpArgs false
/-- The rest t is in range, without the numbers of s and without a number twice. -/
def chk (n : Int) : List Int → List Int → Bool
  | _, [] => true
  | s, x :: t => (decide (0 ≤ x ∧ x < n) && !decide (x ∈ s)) && chk n (s ++ [x]) t
theorem chk_tells (n : Int) : ∀ (t s : List Int), chk n s t = true → (∀ x, x ∈ t → 0 ≤ x ∧ x < n) ∧ t.Nodup ∧ ∀ x, x ∈ t → x ∉ s
  | [], s, _ => by simp
  | x :: t, s, h => by
    simp only [chk, Bool.and_eq_true, decide_eq_true_eq, Bool.not_eq_true', decide_eq_false_iff_not] at h
    obtain ⟨⟨h1, h2⟩, h3⟩ := h
    obtain ⟨a, b, c⟩ := chk_tells n t (s ++ [x]) h3
    refine ⟨?_, ?_, ?_⟩
    · intro y hy
      rcases List.mem_cons.1 hy with rfl | hy
      · exact h1
      · exact a y hy
    · refine List.nodup_cons.2 ⟨fun hx => ?_, b⟩
      exact c x hx (by simp)
    · intro y hy
      rcases List.mem_cons.1 hy with rfl | hy
      · exact h2
      · exact fun hs => c y hy (by simp [hs])
theorem l1Has_loop (l : List Int) (x : Int) (hb : l.length < 9223372036854775807) (d : Nat) : ∀ (i : Nat), i + d = l.length → Ev (fun k => spec_l1Has.l0 k x l l.length i) (decide (x ∈ l.drop i)) := by
  induction d with
  | zero =>
    intro i hi
    refine Ev.succ ?_
    simp only [spec_l1Has.l0]
    refine Ev.neg (by omega) (Ev.val (Ev.now _) ?_)
    rw [List.drop_of_length_le (by omega)]; simp
  | succ d ih =>
    intro i hi
    refine Ev.succ ?_
    simp only [spec_l1Has.l0]
    refine Ev.pos (by omega) (Ev.pos (by omega) (Ev.pos (by omega) ?_))
    rw [wrap_nat (by omega), rd_get (by omega), drop_cons (xs := l) (i := i) (by omega)]
    refine Ev.split (fun c => Ev.val (Ev.now _) ?_) (fun c => Ev.val (ih (i + 1) (by omega)) ?_)
    · simp only [List.mem_cons, c, true_or, decide_true]
    · have : ¬ x = l[i] := fun h => c h.symm
      simp only [List.mem_cons, this, false_or]
theorem l1Has (l : List Int) (x : Int) (hb : l.length < 9223372036854775807) : Ev (fun k => spec_l1Has.f k l x) (decide (x ∈ l)) := l1Has_loop l x hb l.length 0 (by omega)
theorem ddOrder_loop (o : List Int) (n : Int) (h0 : 0 ≤ n) (h4 : n ≤ 4) (hb : o.length < 9223372036854775807) (d : Nat) : ∀ (i : Nat), i + d = o.length → Ev (fun k => spec_ddOrder.l0 k o n o o.length i) (chk n (o.take i) (o.drop i) && ((o.length : Int) == n)) := by
  induction d with
  | zero =>
    intro i hi
    refine Ev.succ ?_
    simp only [spec_ddOrder.l0]
    refine Ev.neg (by omega) (Ev.val (Ev.now _) ?_)
    rw [List.drop_of_length_le (by omega)]; simp [chk]
  | succ d ih =>
    intro i hi
    refine Ev.succ ?_
    simp only [spec_ddOrder.l0]
    refine Ev.pos (by omega) (Ev.pos (by omega) (Ev.pos (by omega) ?_))
    have ht : o.take i ++ [o[i]] = o.take (i + 1) := by rw [List.take_succ_eq_append_getElem (by omega)]
    rw [wrap_nat (by omega), rd_get (by omega), drop_cons (xs := o) (i := i) (by omega), l1In, wrap_id (by omega) (by omega)]
    simp only [Option.bind_some, chk, ht, Int.toNat_natCast]
    refine Ev.split (fun c => ?_) (fun c => Ev.val (Ev.now _) ?_)
    · have c1 : 0 ≤ o[i] ∧ o[i] < n := by have := of_decide_eq_true c; omega
      refine Ev.pos (by omega) (Ev.bind (l1Has _ _ (by simp; omega)) ?_)
      refine Ev.split (fun c2 => Ev.val (Ev.now _) ?_) (fun c2 => Ev.val (ih (i + 1) (by omega)) ?_)
      · rw [c2]; simp
      · have c3 : decide (o[i] ∈ o.take i) = false := by simpa using c2
        rw [c3, decide_eq_true c1]; simp
    · have c1 : ¬ (0 ≤ o[i] ∧ o[i] < n) := fun hh => c (decide_eq_true ⟨hh.1, by omega⟩)
      rw [decide_eq_false c1]; simp
theorem ddOrder (o : List Int) (n : Int) (h0 : 0 ≤ n) (h4 : n ≤ 4) (hb : o.length < 9223372036854775807) : Ev (fun k => spec_ddOrder.f k o n) (chk n [] o && ((o.length : Int) == n)) := by
  unfold spec_ddOrder.f
  exact Ev.val (ddOrder_loop o n h0 h4 hb o.length 0 (by omega)) (by simp)
theorem isOrder_loop (o : List Int) (n : Nat) (hb : o.length < 9223372036854775807) (d : Nat) : ∀ (i : Nat) (s : List Bool), i + d = o.length → s.length = n → (∀ j : Nat, j < n → rdOf false s (j : Int) = decide ((j : Int) ∈ o.take i)) →
    Ev (fun k => impl_isOrder.l0 k n s o o.length i) (chk n (o.take i) (o.drop i)) := by
  induction d with
  | zero =>
    intro i s hi hs hinv
    refine Ev.succ ?_
    simp only [impl_isOrder.l0]
    refine Ev.neg (by omega) (Ev.val (Ev.now _) ?_)
    rw [List.drop_of_length_le (by omega)]; simp [chk]
  | succ d ih =>
    intro i s hi hs hinv
    refine Ev.succ ?_
    simp only [impl_isOrder.l0]
    have ht : o.take i ++ [o[i]] = o.take (i + 1) := by rw [List.take_succ_eq_append_getElem (by omega)]
    refine Ev.pos (by omega) (Ev.pos (by omega) (Ev.pos (by omega) ?_))
    rw [wrap_nat (by omega), rd_get (by omega), drop_cons (xs := o) (i := i) (by omega)]
    simp only [chk, ht]
    have out : ¬ (0 ≤ o[i] ∧ o[i] < (n : Int)) → false = ((decide (0 ≤ o[i] ∧ o[i] < (n : Int)) && !decide (o[i] ∈ o.take i)) && chk n (o.take (i + 1)) (o.drop (i + 1))) := fun h => by rw [decide_eq_false h]; simp
    refine Ev.split (fun c => Ev.val (Ev.now _) (out (by omega))) (fun c => ?_)
    refine Ev.split (fun c2 => Ev.val (Ev.now _) (out (by omega))) (fun c2 => ?_)
    obtain ⟨j, hj⟩ := Int.eq_ofNat_of_zero_le (show 0 ≤ o[i] by omega)
    have hin : 0 ≤ o[i] ∧ o[i] < (n : Int) := by omega
    rw [decide_eq_true hin]
    have ht2 : o.take i ++ [(j : Int)] = o.take (i + 1) := by rw [← hj]; exact ht
    have hjn : j < n := by omega
    rw [hj]
    refine Ev.pos (by omega) (Ev.pos (by omega) ?_)
    rw [hinv j hjn]
    refine Ev.split (fun c3 => Ev.val (Ev.now _) ?_) (fun c3 => Ev.val (ih (i + 1) _ (by omega) (by simpa using hs) ?_) ?_)
    · rw [c3]; simp
    · intro q hq
      rw [← ht2]
      by_cases e : q = j
      · subst e
        simp [rdOf, show q < s.length by omega]
      · have h1 : rdOf false (s.set ((j : Int)).toNat true) (q : Int) = rdOf false s (q : Int) := by
          simp [rdOf, List.getElem?_set_ne (show j ≠ q from fun h => e h.symm)]
        rw [h1, hinv q hq]
        have h2 : ¬ ((q : Int) = (j : Int)) := by omega
        simp only [List.mem_append, List.mem_singleton, h2, or_false]
    · have c4 : decide ((j : Int) ∈ o.take i) = false := by simpa using c3
      rw [c4]; simp
theorem isOrder (o : List Int) (n : Int) (h0 : 0 ≤ n) (h4 : n ≤ 4) (hb : o.length < 9223372036854775807) : Ev (fun k => impl_isOrder.f k o n) (chk n [] o && ((o.length : Int) == n)) := by
  unfold impl_isOrder.f
  obtain ⟨m, rfl⟩ := Int.eq_ofNat_of_zero_le h0
  refine Ev.split (fun c => ?_) (fun c => Ev.val (Ev.now _) ?_)
  · refine Ev.pos (by omega) (Ev.pos (by omega) ?_)
    refine Ev.val (isOrder_loop o m hb o.length 0 _ (by omega) (by simp) ?_) ?_
    · intro j hj
      simp [rdOf, hj]
    · simp [c]
  · have : ((o.length : Int) == (m : Int)) = false := by simpa using c
    rw [this]; simp
/-- Adding a bit that is not there yet is the same as joining it. -/
def joinAll : Bool := (List.range 16).all fun a => (List.range 4).all fun p => (List.range 2).all fun b => a.testBit p || ((a + b * 2 ^ p == a ||| b * 2 ^ p) && ((List.range 4).all fun q => q == p || (a ||| b * 2 ^ p).testBit q == a.testBit q))
theorem joinAll_true : joinAll = true := by decide +kernel
theorem join_bit {a p b : Nat} (ha : a < 16) (hp : p < 4) (hb : b < 2) (ht : a.testBit p = false) : a + b * 2 ^ p = a ||| b * 2 ^ p ∧ ∀ q, q < 4 → q ≠ p → (a ||| b * 2 ^ p).testBit q = a.testBit q := by
  have h := joinAll_true
  unfold joinAll at h
  have h3 := List.all_eq_true.1 (List.all_eq_true.1 (List.all_eq_true.1 h a (List.mem_range.2 ha)) p (List.mem_range.2 hp)) b (List.mem_range.2 hb)
  simp only [ht, Bool.false_or, Bool.and_eq_true, beq_iff_eq] at h3
  refine ⟨h3.1, fun q hq hne => ?_⟩
  have := List.all_eq_true.1 h3.2 q (List.mem_range.2 hq)
  simp only [Bool.or_eq_true, beq_iff_eq] at this
  exact this.resolve_left hne
theorem ttBit_ev (x i : Nat) (hx : x < 2 ^ 61) (hi : i ≤ 64) : spec_ttBit.f x i = some ((bit x i : Nat) : Int) := by
  unfold spec_ttBit.f
  rw [wrapU (by omega) (by omega), if_pos (by omega), bit_printed x i (by omega) hi]
theorem dd_inner (n : Nat) (hn : n ≤ 4) (l z : List Int) (hl : l.length = 2 ^ n) (hz : z.length ≤ 16) (o : List Int) (ho : Inputs n o) (hol : o.length ≤ 4) (hnd : o.Nodup) (x : Nat) (hx : x < 2 ^ n) (m : Int) (R : Int × List Int)
    (h : Ev (fun k => spec_ddReorder.l0 k o l.length ((x + 1 : Nat) : Int) n l m (z ++ [rd l (reOr o 0 x 0 : Nat)])) R) (d : Nat) :
    ∀ (j acc : Nat), j + d = o.length → acc < 2 ^ n → (∀ i, i ∈ o.drop j → acc.testBit i.toNat = false) → reOr (o.drop j) j x acc = reOr o 0 x 0 → Ev (fun k => spec_ddReorder.l1 k o x acc l.length x o o.length j n l m z) R := by
  have hp : (2 : Nat) ^ n ≤ 2 ^ 4 := Nat.pow_le_pow_right (by decide) hn
  induction d with
  | zero =>
    intro j acc hj ha hb he
    refine Ev.succ ?_
    simp only [spec_ddReorder.l1]
    rw [List.drop_of_length_le (by omega)] at he
    simp only [reOr] at he
    refine Ev.neg (by omega) (Ev.pos (by omega) (Ev.pos (by omega) (Ev.pos (by omega) ?_)))
    rw [wrap_nat (by omega), he]
    exact h
  | succ d ih =>
    intro j acc hj ha hb he
    refine Ev.succ ?_
    simp only [spec_ddReorder.l1]
    have hi := ho o[j] (List.getElem_mem (by omega))
    obtain ⟨p, hp'⟩ := Int.eq_ofNat_of_zero_le hi.1
    have hlt : bit x j * 2 ^ p < 2 ^ n := mul_bit_lt (by omega)
    have hdrop := drop_cons (xs := o) (i := j) (by omega)
    have hb0 : acc.testBit p = false := by
      have := hb o[j] (by rw [hdrop]; exact List.mem_cons_self)
      rwa [hp', Int.toNat_natCast] at this
    obtain ⟨hj1, hj2⟩ := join_bit (a := acc) (p := p) (b := bit x j) (by omega) (by omega) (bit_lt x j) hb0
    rw [hdrop] at he
    simp only [reOr, hp', Int.toNat_natCast] at he
    refine Ev.pos (by omega) (Ev.pos (by omega) (Ev.pos (by omega) ?_))
    rw [rd_get (by omega), hp', ttBit_ev x j (by omega) (by omega), wrapU (by omega) (by omega)]
    simp only [Option.bind_some]
    refine Ev.pos (by omega) ?_
    rw [shl_nat _ _ (by omega) (by omega), wrap_id (by omega) (by omega), ← Int.natCast_add, hj1, wrap_nat (by omega)]
    refine ih (j + 1) _ (by omega) (Nat.or_lt_two_pow ha hlt) ?_ he
    intro i hi'
    have hio := ho i (List.mem_of_mem_drop hi')
    have hne : i.toNat ≠ p := by
      intro e
      have h1 : (o.drop j).Nodup := hnd.sublist (List.drop_sublist _ _)
      rw [hdrop] at h1
      have h2 := (List.nodup_cons.1 h1).1
      apply h2
      have : i = o[j] := by rw [hp']; omega
      rw [← this]; exact hi'
    rw [hj2 i.toNat (by omega) hne]
    exact hb i (by rw [hdrop]; exact List.mem_cons_of_mem _ hi')
theorem dd_outer (n : Nat) (hn : n ≤ 4) (l : List Int) (hl : l.length = 2 ^ n) (o : List Int) (ho : Inputs n o) (hol : o.length ≤ 4) (hnd : o.Nodup) (m : Int) (d : Nat) :
    ∀ (x : Nat), x + d = l.length → Ev (fun k => spec_ddReorder.l0 k o l.length x n l m (reVals l o x)) (m, reVals l o l.length) := by
  have hp : (2 : Nat) ^ n ≤ 2 ^ 4 := Nat.pow_le_pow_right (by decide) hn
  induction d with
  | zero =>
    intro x hx
    refine Ev.succ ?_
    simp only [spec_ddReorder.l0]
    obtain rfl : x = l.length := by omega
    exact Ev.neg (by omega) (Ev.now _)
  | succ d ih =>
    intro x hx
    refine Ev.succ ?_
    simp only [spec_ddReorder.l0]
    refine Ev.pos (by omega) ?_
    refine dd_inner n hn l _ hl (by rw [reVals_length]; omega) o ho hol hnd x (by omega) m _ ?_ o.length 0 0 (by omega) (Nat.two_pow_pos n) (by simp) rfl
    rw [show reVals l o x ++ [rd l ((reOr o 0 x 0 : Nat) : Int)] = reVals l o (x + 1) by simp [reVals, List.range_succ]]
    exact ih (x + 1) (by omega)
theorem specReord (n : Nat) (hn : n ≤ 4) (l : List Int) (hl : l.length = 2 ^ n) (o : List Int) (ho : Inputs n o) (hol : o.length ≤ 4) (hnd : o.Nodup) : Ev (fun k => spec_ddReorder.f k n l o) ((n : Int), reVals l o l.length) := by
  unfold spec_ddReorder.f
  exact dd_outer n hn l hl o ho hol hnd n l.length 0 (by omega)
theorem both (n : Int) (l o : List Int) (hb : l.length ≤ 1048576) (hbo : o.length ≤ 1048576) : ∃ a L ok, (L : List Int).length ≤ 1048576 ∧ Ev (fun k => spec_ReorderTable.f k n l o) (a, L, ok) ∧ Ev (fun k => impl_ReorderTable.f k n l o) (a, L, ok) := by
  unfold spec_ReorderTable.f impl_ReorderTable.f
  by_cases h : TGood n l
  · obtain ⟨h0, h1, h2, h3⟩ := id h
    have hl16 := h.len
    obtain ⟨z, rfl⟩ := Int.eq_ofNat_of_zero_le h0
    rw [Int.toNat_natCast] at h2
    cases hc : (chk z [] o && ((o.length : Int) == (z : Int))) with
    | true =>
      have hc' := hc
      simp only [Bool.and_eq_true, beq_iff_eq] at hc'
      obtain ⟨hr, hnd, _⟩ := chk_tells z o [] hc'.1
      refine ⟨(z : Int), reVals l o l.length, true, by rw [reVals_length]; omega, ?_, ?_⟩
      · refine Ev.bind (Ev.val (ttGood z l (by omega)) (decide_eq_true h)) (Ev.pos rfl ?_)
        refine Ev.bind (Ev.val (ddOrder o z (by omega) (by omega) (by omega)) hc) (Ev.pos rfl ?_)
        exact Ev.bind (specReord z (by omega) l h2 o hr (by omega) hnd) (Ev.now _)
      · refine Ev.bind (Ev.val (implIsTable z l (by omega)) (decide_eq_true h)) (Ev.pos rfl ?_)
        refine Ev.bind (Ev.val (isOrder o z (by omega) (by omega) (by omega)) hc) (Ev.pos rfl ?_)
        exact Ev.bind (implReord z (by omega) l h2 o hr (by omega)) (Ev.now _)
    | false =>
      refine ⟨0, [], false, by simp, ?_, ?_⟩
      · refine Ev.bind (Ev.val (ttGood z l (by omega)) (decide_eq_true h)) (Ev.pos rfl ?_)
        exact Ev.bind (Ev.val (ddOrder o z (by omega) (by omega) (by omega)) hc) (Ev.neg (by simp) (Ev.now _))
      · refine Ev.bind (Ev.val (implIsTable z l (by omega)) (decide_eq_true h)) (Ev.pos rfl ?_)
        exact Ev.bind (Ev.val (isOrder o z (by omega) (by omega) (by omega)) hc) (Ev.neg (by simp) (Ev.now _))
  · refine ⟨0, [], false, by simp, ?_, ?_⟩
    · exact Ev.bind (Ev.val (ttGood n l (by omega)) (decide_eq_false h)) (Ev.neg (by simp) (Ev.now _))
    · exact Ev.bind (Ev.val (implIsTable n l (by omega)) (decide_eq_false h)) (Ev.neg (by simp) (Ev.now _))
end Go.Proofs.Ytegbbmnlfijbbaa.Order
