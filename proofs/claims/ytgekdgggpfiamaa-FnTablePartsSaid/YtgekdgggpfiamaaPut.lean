/- Inserting a number into an increasing list (the reference's l1Put): what it answers. No condition beyond the length named. -/
import Derived.Test.YtgekdgggpfiamaaBase
import Derived.Test.YtgekdgggpfiamaaPx4
namespace Go.Proofs.Ytgekdgggpfiamaa.Put
open Go.RowKit Go.Proofs.Ytgekdgggpfiamaa.P Go.Proofs.Ytgekdgggpfiamaa.Base Go.Proofs.YtgekdgggpfiamaaW.PrintWords Go.Proofs.YtgekdgggpfiamaaW.PrintLast Go.Proofs.YtgekdgggpfiamaaW.PrintMore
set_option linter.unusedVariables false
set_option linter.unusedSimpArgs false
/-- A number put into an increasing list, unless it is there. -/
def put (x : Int) : List Int → List Int
  | [] => [x]
  | y :: t => if y < x then y :: put x t else if y = x then y :: t else x :: y :: t
theorem put_loop (l : List Int) (x : Int) (hl : l.length ≤ 1000000000000) (d : Nat) : ∀ (i : Nat), i + d = l.length → Ev (fun k => spec_l1Put.l0 k l x i) (l.take i ++ put x (l.drop i)) := by
  induction d with
  | zero =>
    intro i hi
    refine Ev.succ ?_
    simp only [spec_l1Put.l0, Option.bind_some, List.length_nil, List.nil_append, Int.toNat_natCast]
    refine Ev.neg (by omega) (Ev.pos (by omega) (Ev.pos (by omega) (Ev.pos (by simp; omega) (Ev.pos (by simp; omega) (Ev.pos (by simp; omega) (Ev.val (Ev.now _) ?_))))))
    rw [List.drop_of_length_le (by omega)]; simp [put]
  | succ d ih =>
    intro i hi
    refine Ev.succ ?_
    simp only [spec_l1Put.l0, Option.bind_some, List.length_nil, List.nil_append, Int.toNat_natCast]
    have e := drop_cons (xs := l) (i := i) (by omega)
    refine Ev.pos (by omega) (Ev.pos (by omega) ?_)
    rw [rd_get (by omega), wrap_nat (by omega)]
    refine Ev.split (fun c => ?_) (fun c => Ev.split (fun c' => ?_) (fun c' => ?_))
    · refine Ev.val (ih (i + 1) (by omega)) ?_
      rw [e]
      simp only [put, if_pos c]
      rw [List.take_succ_eq_append_getElem (by omega), List.append_assoc]
      rfl
    · refine Ev.val (Ev.now _) ?_
      rw [e]
      simp only [put, if_neg c, if_pos c']
      rw [← e, List.take_append_drop]
    · refine Ev.pos (by omega) (Ev.pos (by simp; omega) (Ev.pos (by simp; omega) (Ev.pos (by simp; omega) (Ev.val (Ev.now _) ?_))))
      rw [e]
      simp only [put, if_neg c, if_neg c']
      simp
theorem put_ev (l : List Int) (x : Int) (hl : l.length ≤ 1000000000000) : Ev (fun k => spec_l1Put.f k l x) (put x l) := by
  unfold spec_l1Put.f
  exact Ev.val (put_loop l x hl l.length 0 (by omega)) (by simp)
theorem put_length (x : Int) : ∀ l, (put x l).length ≤ l.length + 1
  | [] => by simp [put]
  | y :: t => by
    have := put_length x t
    simp only [put]
    split
    · simp; omega
    · split <;> simp
/-- The numbers below m of which p holds, increasing. -/
def those (p : Nat → Bool) (a m : Nat) : List Int := ((List.range' a m).filter p).map fun (j : Nat) => (j : Int)
theorem put_those (p : Nat → Bool) (x : Nat) (m : Nat) : ∀ (a : Nat), a ≤ x → x < a + m → put (x : Int) (those p a m) = those (fun j => p j || j == x) a m := by
  induction m with
  | zero => intro a h1 h2; omega
  | succ m ih =>
    intro a h1 h2
    have hgt : ∀ (q r : Nat → Bool) (b n : Nat), (∀ j, b ≤ j → q j = r j) → those q b n = those r b n := by
      intro q r b n h
      simp only [those]
      congr 1
      apply List.filter_congr
      intro j hj
      exact h j (by have := List.mem_range'_1.1 hj; omega)
    have hfirst : ∀ (q : Nat → Bool) (b n : Nat) (y : Nat), y < b → put (y : Int) (those q b n) = (y : Int) :: those q b n := by
      intro q b n y hy
      cases h : those q b n with
      | nil => rfl
      | cons z t =>
        have hz : z ∈ those q b n := by rw [h]; exact List.mem_cons_self
        simp only [those, List.mem_map, List.mem_filter, List.mem_range'_1] at hz
        obtain ⟨j, ⟨hj, _⟩, rfl⟩ := hz
        simp only [put]
        rw [if_neg (by omega), if_neg (by omega)]
    have hs : ∀ (q : Nat → Bool) (b n : Nat), those q b (n + 1) = if q b then (b : Int) :: those q (b + 1) n else those q (b + 1) n := by
      intro q b n
      simp only [those, List.range'_succ, List.filter_cons]
      split <;> simp
    rw [hs, hs]
    by_cases hx : a = x
    · subst hx
      simp only [beq_self_eq_true, Bool.or_true, if_true]
      rw [hgt (fun j => p j || j == a) p (a + 1) m (by intro j hj; simp; omega)]
      split
      · simp [put]
      · exact hfirst _ _ _ _ (by omega)
    · have hne : (a == x) = false := by simpa using hx
      simp only [hne, Bool.or_false]
      split
      · simp only [put]
        rw [if_pos (by omega), ih (a + 1) (by omega) (by omega)]
      · exact ih (a + 1) (by omega) (by omega)
end Go.Proofs.Ytgekdgggpfiamaa.Put
