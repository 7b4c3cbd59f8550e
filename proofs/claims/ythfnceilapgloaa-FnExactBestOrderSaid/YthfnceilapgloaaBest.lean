/- The best order: the program's orders are the reference's, each table in an order comes to the same diagram, the first of the smallest wins on both sides. No condition beyond the lengths named. -/
import Derived.Test.YthfnceilapgloaaReord
import Derived.Test.YthfnceilapgloaaPx2
import Derived.Test.YthfnceilapgloaaPx3
import Derived.Test.YthfnceilapgloaaPx4
import Derived.Test.YthfnceilapgloaaPx5
namespace Go.Proofs.Ythfnceilapgloaa.Best
open Go.RowKit Go.Proofs.Ythfnceilapgloaa.P Go.Proofs.Ythfnceilapgloaa.Base Go.Proofs.Ythfnceilapgloaa.Bit Go.Proofs.Ythfnceilapgloaa.Tab Go.Proofs.Ythfnceilapgloaa.Reord Go.Proofs.YthfnceilapgloaaW.PrintWords Go.Proofs.YthfnceilapgloaaW.PrintLast Go.Proofs.YthfnceilapgloaaW.PrintMore
set_option linter.unusedVariables false
set_option linter.unusedSimpArgs false
theorem l1Has_loop (l : List Int) (x : Int) (hb : l.length < 9223372036854775807) (d : Nat) : ∀ (i : Nat), i + d = l.length → Ev (fun k => spec_l1Has.l0 k x l l.length i) (decide (x ∈ l.drop i)) := by
  induction d with
  | zero =>
    intro i hi
    refine Ev.succ ?_
    simp only [spec_l1Has.l0]
    refine Ev.neg (by omega) (Ev.val (Ev.now _) ?_)
    rw [List.drop_of_length_le (by omega)]; simp
  | succ d ih =>
    intro i hi
    refine Ev.succ ?_
    simp only [spec_l1Has.l0]
    refine Ev.pos (by omega) (Ev.pos (by omega) (Ev.pos (by omega) ?_))
    rw [wrap_nat (by omega), rd_get (by omega), drop_cons (xs := l) (i := i) (by omega)]
    refine Ev.split (fun c => Ev.val (Ev.now _) ?_) (fun c => Ev.val (ih (i + 1) (by omega)) ?_)
    · simp only [List.mem_cons, c, true_or, decide_true]
    · have : ¬ x = l[i] := fun h => c h.symm
      simp only [List.mem_cons, this, false_or]
theorem l1Has (l : List Int) (x : Int) (hb : l.length < 9223372036854775807) : Ev (fun k => spec_l1Has.f k l x) (decide (x ∈ l)) := l1Has_loop l x hb l.length 0 (by omega)
/-- Adding a bit that is not there yet is the same as joining it. -/
def joinAll : Bool := (List.range 16).all fun a => (List.range 4).all fun p => (List.range 2).all fun b => a.testBit p || ((a + b * 2 ^ p == a ||| b * 2 ^ p) && ((List.range 4).all fun q => q == p || (a ||| b * 2 ^ p).testBit q == a.testBit q))
theorem joinAll_true : joinAll = true := by decide +kernel
theorem join_bit {a p b : Nat} (ha : a < 16) (hp : p < 4) (hb : b < 2) (ht : a.testBit p = false) : a + b * 2 ^ p = a ||| b * 2 ^ p ∧ ∀ q, q < 4 → q ≠ p → (a ||| b * 2 ^ p).testBit q = a.testBit q := by
  have h := joinAll_true
  unfold joinAll at h
  have h3 := List.all_eq_true.1 (List.all_eq_true.1 (List.all_eq_true.1 h a (List.mem_range.2 ha)) p (List.mem_range.2 hp)) b (List.mem_range.2 hb)
  simp only [ht, Bool.false_or, Bool.and_eq_true, beq_iff_eq] at h3
  refine ⟨h3.1, fun q hq hne => ?_⟩
  have := List.all_eq_true.1 h3.2 q (List.mem_range.2 hq)
  simp only [Bool.or_eq_true, beq_iff_eq] at this
  exact this.resolve_left hne
theorem ttBit_ev (x i : Nat) (hx : x < 2 ^ 61) (hi : i ≤ 64) : spec_ttBit.f x i = some ((bit x i : Nat) : Int) := by
  unfold spec_ttBit.f
  rw [wrapU (by omega) (by omega), if_pos (by omega), bit_printed x i (by omega) hi]
theorem dd_inner (n : Nat) (hn : n ≤ 4) (l z : List Int) (hl : l.length = 2 ^ n) (hz : z.length ≤ 16) (o : List Int) (ho : Inputs n o) (hol : o.length ≤ 4) (hnd : o.Nodup) (x : Nat) (hx : x < 2 ^ n) (m : Int) (R : Int × List Int)
    (h : Ev (fun k => spec_ddReorder.l0 k o l.length ((x + 1 : Nat) : Int) n l m (z ++ [rd l (reOr o 0 x 0 : Nat)])) R) (d : Nat) :
    ∀ (j acc : Nat), j + d = o.length → acc < 2 ^ n → (∀ i, i ∈ o.drop j → acc.testBit i.toNat = false) → reOr (o.drop j) j x acc = reOr o 0 x 0 → Ev (fun k => spec_ddReorder.l1 k o x acc l.length x o o.length j n l m z) R := by
  have hp : (2 : Nat) ^ n ≤ 2 ^ 4 := Nat.pow_le_pow_right (by decide) hn
  induction d with
  | zero =>
    intro j acc hj ha hb he
    refine Ev.succ ?_
    simp only [spec_ddReorder.l1]
    rw [List.drop_of_length_le (by omega)] at he
    simp only [reOr] at he
    refine Ev.neg (by omega) (Ev.pos (by omega) (Ev.pos (by omega) (Ev.pos (by omega) ?_)))
    rw [wrap_nat (by omega), he]
    exact h
  | succ d ih =>
    intro j acc hj ha hb he
    refine Ev.succ ?_
    simp only [spec_ddReorder.l1]
    have hi := ho o[j] (List.getElem_mem (by omega))
    obtain ⟨p, hp'⟩ := Int.eq_ofNat_of_zero_le hi.1
    have hlt : bit x j * 2 ^ p < 2 ^ n := mul_bit_lt (by omega)
    have hdrop := drop_cons (xs := o) (i := j) (by omega)
    have hb0 : acc.testBit p = false := by
      have := hb o[j] (by rw [hdrop]; exact List.mem_cons_self)
      rwa [hp', Int.toNat_natCast] at this
    obtain ⟨hj1, hj2⟩ := join_bit (a := acc) (p := p) (b := bit x j) (by omega) (by omega) (bit_lt x j) hb0
    rw [hdrop] at he
    simp only [reOr, hp', Int.toNat_natCast] at he
    refine Ev.pos (by omega) (Ev.pos (by omega) (Ev.pos (by omega) ?_))
    rw [rd_get (by omega), hp', ttBit_ev x j (by omega) (by omega), wrapU (by omega) (by omega)]
    simp only [Option.bind_some]
    refine Ev.pos (by omega) ?_
    rw [shl_nat _ _ (by omega) (by omega), wrap_id (by omega) (by omega), ← Int.natCast_add, hj1, wrap_nat (by omega)]
    refine ih (j + 1) _ (by omega) (Nat.or_lt_two_pow ha hlt) ?_ he
    intro i hi'
    have hio := ho i (List.mem_of_mem_drop hi')
    have hne : i.toNat ≠ p := by
      intro e
      have h1 : (o.drop j).Nodup := hnd.sublist (List.drop_sublist _ _)
      rw [hdrop] at h1
      have h2 := (List.nodup_cons.1 h1).1
      apply h2
      have : i = o[j] := by rw [hp']; omega
      rw [← this]; exact hi'
    rw [hj2 i.toNat (by omega) hne]
    exact hb i (by rw [hdrop]; exact List.mem_cons_of_mem _ hi')
theorem dd_outer (n : Nat) (hn : n ≤ 4) (l : List Int) (hl : l.length = 2 ^ n) (o : List Int) (ho : Inputs n o) (hol : o.length ≤ 4) (hnd : o.Nodup) (m : Int) (d : Nat) :
    ∀ (x : Nat), x + d = l.length → Ev (fun k => spec_ddReorder.l0 k o l.length x n l m (reVals l o x)) (m, reVals l o l.length) := by
  have hp : (2 : Nat) ^ n ≤ 2 ^ 4 := Nat.pow_le_pow_right (by decide) hn
  induction d with
  | zero =>
    intro x hx
    refine Ev.succ ?_
    simp only [spec_ddReorder.l0]
    obtain rfl : x = l.length := by omega
    exact Ev.neg (by omega) (Ev.now _)
  | succ d ih =>
    intro x hx
    refine Ev.succ ?_
    simp only [spec_ddReorder.l0]
    refine Ev.pos (by omega) ?_
    refine dd_inner n hn l _ hl (by rw [reVals_length]; omega) o ho hol hnd x (by omega) m _ ?_ o.length 0 0 (by omega) (Nat.two_pow_pos n) (by simp) rfl
    rw [show reVals l o x ++ [rd l ((reOr o 0 x 0 : Nat) : Int)] = reVals l o (x + 1) by simp [reVals, List.range_succ]]
    exact ih (x + 1) (by omega)
theorem specReord (n : Nat) (hn : n ≤ 4) (l : List Int) (hl : l.length = 2 ^ n) (o : List Int) (ho : Inputs n o) (hol : o.length ≤ 4) (hnd : o.Nodup) : Ev (fun k => spec_ddReorder.f k n l o) ((n : Int), reVals l o l.length) := by
  unfold spec_ddReorder.f
  exact dd_outer n hn l hl o ho hol hnd n l.length 0 (by omega)
theorem l1Own (l : List Int) (hb : l.length ≤ 100) : spec_l1Own.f l = some l := by
  unfold spec_l1Own.f
  simp only [Option.bind_some, List.length_nil, List.nil_append]
  rw [if_pos (by omega)]
theorem dd_orders (n : Nat) (hn : n ≤ 4) : ∀ (q : Nat) (o : List Int), o.length ≤ n → n < q + o.length → (exts n q o).length ≤ 1000 → Ev (fun k => spec_ddOrders.f k (n : Int) o) (exts n q o) := by
  intro q
  induction q with
  | zero => intro o h1 h2; omega
  | succ q ih =>
    intro o h1 h2 h3
    refine Ev.succ ?_
    simp only [spec_ddOrders.f]
    by_cases c : o.length = n
    · refine Ev.pos (by omega) (Ev.val (Ev.now _) ?_)
      exact (if_pos c).symm
    · have e : exts n (q + 1) o = extr n q o n := if_neg c
      rw [e] at h3 ⊢
      refine Ev.neg (by omega) ?_
      have loop : ∀ (d i : Nat), i + d = n → Ev (fun k => spec_ddOrders.l0 k (n : Int) o (extr n q o i) (i : Int)) (extr n q o n) := by
        intro d
        induction d with
        | zero =>
          intro i hi
          refine Ev.succ ?_
          simp only [spec_ddOrders.l0]
          obtain rfl : i = n := by omega
          exact Ev.neg (by omega) (Ev.now _)
        | succ d ihd =>
          intro i hi
          have h := ihd (i + 1) (by omega)
          have hx := extr_succ n q o i
          have hm := extr_mono n q o (show i + 1 ≤ n by omega)
          refine Ev.succ ?_
          simp only [spec_ddOrders.l0]
          refine Ev.pos (by omega) (Ev.bind (l1Has o (i : Int) (by omega)) ?_)
          refine Ev.split (fun c1 => ?_) (fun c1 => ?_)
          · rw [if_pos (of_decide_eq_true c1), List.append_nil] at hx
            rw [hx] at h
            rw [wrap_nat (by omega)]
            exact h
          · have c2 : ¬ (i : Int) ∈ o := by simpa using c1
            rw [if_neg c2] at hx
            rw [hx, List.length_append] at hm
            rw [l1Own o (by omega)]
            simp only [Option.bind_some]
            refine Ev.pos (by omega) (Ev.bind (ih (o ++ [(i : Int)]) (by rw [List.length_append, List.length_singleton]; omega) (by rw [List.length_append, List.length_singleton]; omega) (by omega)) ?_)
            refine Ev.pos (by omega) ?_
            rw [← hx, wrap_nat (by omega)]
            exact h
      have h0 := loop n 0 (by omega)
      exact h0
/-- What an order of n inputs is. -/
def okOrder (n : Nat) (p : List Int) : Bool := decide (p.length = n) && p.all (fun i => decide (0 ≤ i ∧ i < (n : Int))) && decide p.Nodup
theorem exts_ok : ∀ n, n ≤ 4 → (exts n 5 []).all (okOrder n) = true
  | 0, _ => by decide +kernel
  | 1, _ => by decide +kernel
  | 2, _ => by decide +kernel
  | 3, _ => by decide +kernel
  | 4, _ => by decide +kernel
  | n + 5, h => by omega
theorem ok_tells {n : Nat} {p : List Int} (h : okOrder n p = true) : p.length = n ∧ Inputs n p ∧ p.Nodup := by
  unfold okOrder at h
  simp only [Bool.and_eq_true, decide_eq_true_eq, List.all_eq_true] at h
  exact ⟨h.1.1, h.1.2, h.2⟩
/-- The best so far, and one more order. -/
def one (n : Nat) (l : List Int) (b : List Int × Int) (o : List Int) : List Int × Int :=
  if b.2 < 0 then (o, ((dbld (reVals l o l.length) n 0 0 []).1.length : Int)) else if ((dbld (reVals l o l.length) n 0 0 []).1.length : Int) < b.2 then (o, ((dbld (reVals l o l.length) n 0 0 []).1.length : Int)) else b
theorem one_len {n : Nat} {l : List Int} {b : List Int × Int} {o : List Int} (hb : b.1.length ≤ 4) (ho : o.length ≤ 4) : (one n l b o).1.length ≤ 4 := by
  unfold one
  split
  · exact ho
  · split
    · exact ho
    · exact hb
theorem fold_len {n : Nat} {l : List Int} : ∀ (os : List (List Int)) (b : List Int × Int), b.1.length ≤ 4 → (∀ o, o ∈ os → o.length ≤ 4) → (os.foldl (one n l) b).1.length ≤ 4
  | [], _, h, _ => h
  | o :: t, b, h, h2 => fold_len t _ (one_len h (h2 o List.mem_cons_self)) (fun p hp => h2 p (List.mem_cons_of_mem _ hp))
theorem make_some (n : Nat) (hn : n ≤ 4) (l o : List Int) (hl : l.length = 2 ^ n) : spec_ddMake.f (n : Int) (reVals l o l.length) = some ((n : Int), (dbld (reVals l o l.length) n 0 0 []).1, (dbld (reVals l o l.length) n 0 0 []).2) := by
  unfold spec_ddMake.f
  rw [if_pos ⟨by omega, by omega, by rw [reVals_length, hl, Int.toNat_natCast]⟩, Int.toNat_natCast]
theorem rdL_get {xs : List (List Int)} {i : Nat} (h : i < xs.length) : rd_L1 xs (i : Int) = xs[i] := by
  simp [rd_L1, List.getD, h]
theorem spec_loop (n : Nat) (hn : n ≤ 4) (l : List Int) (hl : l.length = 2 ^ n) (os : List (List Int)) (hos : ∀ o, o ∈ os → o.length = n ∧ Inputs n o ∧ o.Nodup) (hb : os.length ≤ 1000) (d : Nat) :
    ∀ (i : Nat) (a : List Int) (m : Int), i + d = os.length → Ev (fun k => spec_BestOrder.l0 k a m os os.length i n l) (((os.drop i).foldl (one n l) (a, m)).1, ((os.drop i).foldl (one n l) (a, m)).2, true) := by
  induction d with
  | zero =>
    intro i a m hi
    refine Ev.succ ?_
    simp only [spec_BestOrder.l0]
    refine Ev.neg (by omega) (Ev.val (Ev.now _) ?_)
    rw [List.drop_of_length_le (by omega)]
    rfl
  | succ d ih =>
    intro i a m hi
    refine Ev.succ ?_
    simp only [spec_BestOrder.l0]
    obtain ⟨h1, h2, h3⟩ := hos os[i] (List.getElem_mem (by omega))
    rw [drop_cons (xs := os) (i := i) (by omega), List.foldl_cons, rdL_get (by omega), wrap_nat (by omega)]
    refine Ev.pos (by omega) (Ev.pos (by omega) (Ev.pos (by omega) (Ev.bind (specReord n hn l hl os[i] h2 (by omega) h3) ?_)))
    simp only [make_some n hn l os[i] hl, Option.bind_some]
    refine Ev.split (fun c => ?_) (fun c => ?_)
    · rw [show one n l (a, m) os[i] = (os[i], ((dbld (reVals l os[i] l.length) n 0 0 []).1.length : Int)) from if_pos c]
      exact ih (i + 1) _ _ (by omega)
    · refine Ev.split (fun c2 => ?_) (fun c2 => ?_)
      · rw [show one n l (a, m) os[i] = (os[i], ((dbld (reVals l os[i] l.length) n 0 0 []).1.length : Int)) from (if_neg c).trans (if_pos c2)]
        exact ih (i + 1) _ _ (by omega)
      · rw [show one n l (a, m) os[i] = (a, m) from (if_neg c).trans (if_neg c2)]
        exact ih (i + 1) _ _ (by omega)
theorem impl_loop (n : Nat) (hn : n ≤ 4) (l : List Int) (hl : l.length = 2 ^ n) (os : List (List Int)) (hos : ∀ o, o ∈ os → o.length = n ∧ Inputs n o ∧ o.Nodup) (hb : os.length ≤ 1000) (d : Nat) :
    ∀ (i : Nat) (a : List Int) (m : Int), i + d = os.length → Ev (fun k => impl_BestOrder.l0 k a m os os.length i n l) (((os.drop i).foldl (one n l) (a, m)).1, ((os.drop i).foldl (one n l) (a, m)).2, true) := by
  induction d with
  | zero =>
    intro i a m hi
    refine Ev.succ ?_
    simp only [impl_BestOrder.l0]
    refine Ev.neg (by omega) (Ev.val (Ev.now _) ?_)
    rw [List.drop_of_length_le (by omega)]
    rfl
  | succ d ih =>
    intro i a m hi
    refine Ev.succ ?_
    simp only [impl_BestOrder.l0]
    obtain ⟨h1, h2, h3⟩ := hos os[i] (List.getElem_mem (by omega))
    rw [drop_cons (xs := os) (i := i) (by omega), List.foldl_cons, rdL_get (by omega), wrap_nat (by omega)]
    refine Ev.pos (by omega) (Ev.pos (by omega) (Ev.pos (by omega) (Ev.bind (implReord n hn l hl os[i] h2 (by omega)) ?_)))
    simp only [impl_diagramOf.f, make_some n hn l os[i] hl, Option.bind_some]
    refine Ev.split (fun c => ?_) (fun c => ?_)
    · rw [show one n l (a, m) os[i] = (os[i], ((dbld (reVals l os[i] l.length) n 0 0 []).1.length : Int)) from if_pos c]
      exact ih (i + 1) _ _ (by omega)
    · refine Ev.split (fun c2 => ?_) (fun c2 => ?_)
      · rw [show one n l (a, m) os[i] = (os[i], ((dbld (reVals l os[i] l.length) n 0 0 []).1.length : Int)) from (if_neg c).trans (if_pos c2)]
        exact ih (i + 1) _ _ (by omega)
      · rw [show one n l (a, m) os[i] = (a, m) from (if_neg c).trans (if_neg c2)]
        exact ih (i + 1) _ _ (by omega)
theorem both (n : Int) (l : List Int) (hb : l.length ≤ 1048576) : ∃ a m ok, (a : List Int).length ≤ 1048576 ∧ Ev (fun k => spec_BestOrder.f k n l) (a, m, ok) ∧ Ev (fun k => impl_BestOrder.f k n l) (a, m, ok) := by
  unfold spec_BestOrder.f impl_BestOrder.f
  by_cases h : TGood n l
  · obtain ⟨h0, h1, h2, h3⟩ := id h
    obtain ⟨z, rfl⟩ := Int.eq_ofNat_of_zero_le h0
    rw [Int.toNat_natCast] at h2
    have hz : z ≤ 4 := by omega
    have hf := exts_few z hz
    have hos : ∀ o, o ∈ exts z 5 [] → o.length = z ∧ Inputs z o ∧ o.Nodup := fun o ho => ok_tells (List.all_eq_true.1 (exts_ok z hz) o ho)
    refine ⟨((exts z 5 []).foldl (one z l) ([], -1)).1, ((exts z 5 []).foldl (one z l) ([], -1)).2, true, ?_, ?_, ?_⟩
    · exact Nat.le_trans (fold_len _ _ (by simp) (fun o ho => by have := (hos o ho).1; omega)) (by decide)
    · refine Ev.bind (Ev.val (ttGood z l (by omega)) (decide_eq_true h)) (Ev.pos rfl ?_)
      refine Ev.bind (dd_orders z hz 5 [] (by simp) (by simp; omega) (by omega)) ?_
      exact spec_loop z hz l h2 _ hos (by omega) _ 0 [] (-1) (Nat.zero_add _)
    · refine Ev.bind (Ev.val (implIsTable z l (by omega)) (decide_eq_true h)) (Ev.pos rfl ?_)
      have ho : impl_ordersOf.f (z : Int) = some (exts z 5 []) := by
        unfold impl_ordersOf.f
        rw [if_pos ⟨by omega, by omega⟩, Int.toNat_natCast]
      simp only [ho, Option.bind_some]
      exact impl_loop z hz l h2 _ hos (by omega) _ 0 [] (-1) (Nat.zero_add _)
  · exact ⟨[], 0, false, by simp, Ev.bind (Ev.val (ttGood n l (by omega)) (decide_eq_false h)) (Ev.neg (by simp) (Ev.now _)), Ev.bind (Ev.val (implIsTable n l (by omega)) (decide_eq_false h)) (Ev.neg (by simp) (Ev.now _))⟩
end Go.Proofs.Ythfnceilapgloaa.Best
