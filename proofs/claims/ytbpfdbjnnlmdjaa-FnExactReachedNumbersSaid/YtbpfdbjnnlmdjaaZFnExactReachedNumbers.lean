import Derived.Test.YtbpfdbjnnlmdjaaBoardMark
import Derived.Test.YtbpfdbjnnlmdjaaIntArg
import Derived.Test.YtbpfdbjnnlmdjaaReach
import Derived.Test.YtbpfdbjnnlmdjaaPx23
namespace Go.Proofs.Ytbpfdbjnnlmdjaa.Put
open Go.RowKit P Base YtbpfdbjnnlmdjaaW.PrintWords
set_option linter.all false
def put (x : Int) : List Int → List Int
  | [] => [x]
  | y :: t => if y < x then y :: put x t else if y = x then y :: t else x :: y :: t
theorem put_loop (l : List Int) (x : Int) (hl : l.length ≤ 1000000000000) (d : Nat) : ∀ (i : Nat), i + d = l.length → Ev (fun k => spec_l1Put.l0 k l x i) (l.take i ++ put x (l.drop i)) := by
  induction d with
  | zero =>
    intro i hi
    refine Ev.succ ?_
    simp only [spec_l1Put.l0, Option.bind_some, List.length_nil, List.nil_append, Int.toNat_natCast]
    refine Ev.neg (by omega) (Ev.pos (by omega) (Ev.pos (by omega) (Ev.pos (by simp; omega) (Ev.pos (by simp; omega) (Ev.pos (by simp; omega) (Ev.val (Ev.now _) ?_))))))
    rw [List.drop_of_length_le (by omega)]; simp [put]
  | succ d ih =>
    intro i hi
    refine Ev.succ ?_
    simp only [spec_l1Put.l0, Option.bind_some, List.length_nil, List.nil_append, Int.toNat_natCast]
    have e := drop_cons (xs := l) (i := i) (by omega)
    refine Ev.pos (by omega) (Ev.pos (by omega) ?_)
    rw [rd_get (by omega), wrap_nat (by omega)]
    refine Ev.split (fun c => ?_) (fun c => Ev.split (fun c' => ?_) (fun c' => ?_))
    · refine Ev.val (ih (i + 1) (by omega)) ?_
      rw [e]
      simp only [put, if_pos c]
      rw [List.take_succ_eq_append_getElem (by omega), List.append_assoc]
      rfl
    · refine Ev.val (Ev.now _) ?_
      rw [e]
      simp only [put, if_neg c, if_pos c']
      rw [← e, List.take_append_drop]
    · refine Ev.pos (by omega) (Ev.pos (by simp; omega) (Ev.pos (by simp; omega) (Ev.pos (by simp; omega) (Ev.val (Ev.now _) ?_))))
      rw [e]
      simp only [put, if_neg c, if_neg c']
      simp
theorem put_ev (l : List Int) (x : Int) (hl : l.length ≤ 1000000000000) : Ev (fun k => spec_l1Put.f k l x) (put x l) := by
  unfold spec_l1Put.f
  exact Ev.val (put_loop l x hl l.length 0 (by omega)) (by simp)
theorem put_length (x : Int) : ∀ l, (put x l).length ≤ l.length + 1
  | [] => by simp [put]
  | y :: t => by
    have := put_length x t
    simp only [put]
    split
    · simp; omega
    · split <;> simp
def those (p : Nat → Bool) (a m : Nat) : List Int := ((List.range' a m).filter p).map fun (j : Nat) => (j : Int)
theorem put_those (p : Nat → Bool) (x : Nat) (m : Nat) : ∀ (a : Nat), a ≤ x → x < a + m → put (x : Int) (those p a m) = those (fun j => p j || j == x) a m := by
  induction m with
  | zero => intro a h1 h2; omega
  | succ m ih =>
    intro a h1 h2
    have hgt : ∀ (q r : Nat → Bool) (b n : Nat), (∀ j, b ≤ j → q j = r j) → those q b n = those r b n := by
      intro q r b n h
      simp only [those]
      congr 1
      apply List.filter_congr
      intro j hj
      exact h j (by have := List.mem_range'_1.1 hj; omega)
    have hfirst : ∀ (q : Nat → Bool) (b n : Nat) (y : Nat), y < b → put (y : Int) (those q b n) = (y : Int) :: those q b n := by
      intro q b n y hy
      cases h : those q b n with
      | nil => rfl
      | cons z t =>
        have hz : z ∈ those q b n := by rw [h]; exact List.mem_cons_self
        simp only [those, List.mem_map, List.mem_filter, List.mem_range'_1] at hz
        obtain ⟨j, ⟨hj, _⟩, rfl⟩ := hz
        simp only [put]
        rw [if_neg (by omega), if_neg (by omega)]
    have hs : ∀ (q : Nat → Bool) (b n : Nat), those q b (n + 1) = if q b then (b : Int) :: those q (b + 1) n else those q (b + 1) n := by
      intro q b n
      simp only [those, List.range'_succ, List.filter_cons]
      split <;> simp
    rw [hs, hs]
    by_cases hx : a = x
    · subst hx
      simp only [beq_self_eq_true, Bool.or_true, if_true]
      rw [hgt (fun j => p j || j == a) p (a + 1) m (by intro j hj; simp; omega)]
      split
      · simp [put]
      · exact hfirst _ _ _ _ (by omega)
    · have hne : (a == x) = false := by simpa using hx
      simp only [hne, Bool.or_false]
      split
      · simp only [put]
        rw [if_pos (by omega), ih (a + 1) (by omega) (by omega)]
      · exact ih (a + 1) (by omega) (by omega)
end Go.Proofs.Ytbpfdbjnnlmdjaa.Put
namespace Go.Proofs.Ytbpfdbjnnlmdjaa.PureFnExactReachedNumbers
open Go.RowKit P Base Board Units Put Ytbpfdbjnnlmdjaa.Reach YtbpfdbjnnlmdjaaW.PrintWords
theorem those_len (p : Nat → Bool) (a m : Nat) : (those p a m).length ≤ m := by
  have := List.length_filter_le p (List.range' a m)
  simpa [those] using this
theorem those_next (p : Nat → Bool) (m : Nat) : those p 0 (m + 1) = if p m then those p 0 m ++ [(m : Int)] else those p 0 m := by
  simp only [those, List.range'_1_concat, List.filter_append, List.map_append, Nat.zero_add]
  cases h : p m <;> simp [h]
theorem sorted_loop {N : List Int} {M : Nat} (hlt : ∀ x ∈ N, 0 ≤ x ∧ x < (M : Int)) (hM : M ≤ 65536) (hN : N.length ≤ 65536) (d : Nat) : ∀ i : Nat, i + d = N.length → Ev (fun k => spec_reSorted.l0 k (those (fun j => decide ((j : Int) ∈ N.take i)) 0 M) N N.length i) (those (fun j => decide ((j : Int) ∈ N)) 0 M) := by
  induction d with
  | zero =>
    intro i hi
    refine Ev.succ ?_
    simp only [spec_reSorted.l0]
    refine Ev.neg (by omega) (Ev.val (Ev.now _) ?_)
    rw [List.take_of_length_le (by omega)]
  | succ d ih =>
    intro i hi
    have hx := hlt N[i] (List.getElem_mem (by omega))
    obtain ⟨n, en⟩ := Int.eq_ofNat_of_zero_le hx.1
    have hl := those_len (fun j => decide ((j : Int) ∈ N.take i)) 0 M
    refine Ev.succ ?_
    simp only [spec_reSorted.l0]
    refine Ev.pos (by omega) (Ev.pos (by omega) (Ev.pos (by omega) ?_))
    rw [rd_get (by omega), wrap_nat (by omega)]
    refine Ev.bind (put_ev _ _ (by omega)) ?_
    have e : put N[i] (those (fun j => decide ((j : Int) ∈ N.take i)) 0 M) = those (fun j => decide ((j : Int) ∈ N.take (i + 1))) 0 M := by
      rw [en, put_those _ n M 0 (by omega) (by omega)]
      congr 1
      funext j
      rw [List.take_succ_eq_append_getElem (by omega), en, Bool.eq_iff_iff]
      simp only [Bool.or_eq_true, decide_eq_true_eq, List.mem_append, List.mem_singleton, beq_iff_eq]
      constructor <;> rintro (h | h) <;> first | exact .inl h | exact .inr (by omega)
    rw [e]
    exact ih (i + 1) (by omega)
theorem list_loop {M : Nat} {N : List Int} {W : List (List Int)} {S : List Bool} (hI : Inv M N W S) (hM : M ≤ 65536) (d : Nat) : ∀ i : Nat, i + d = M → Ev (fun k => impl_ReachedNumbers.l0 k (those (fun j => decide ((j : Int) ∈ N)) 0 i) S M i) (those (fun j => decide ((j : Int) ∈ N)) 0 M, true) := by
  induction d with
  | zero =>
    intro i hi
    refine Ev.succ ?_
    simp only [impl_ReachedNumbers.l0]
    refine Ev.neg (by omega) (Ev.val (Ev.now _) ?_)
    obtain rfl : i = M := by omega
    rfl
  | succ d ih =>
    intro i hi
    have hs := hI.seen i (by omega)
    have hl := those_len (fun j => decide ((j : Int) ∈ N)) 0 i
    have e := those_next (fun j => decide ((j : Int) ∈ N)) i
    have e2 : rdOf false S (i : Int) = decide ((i : Int) ∈ N) := by rw [rdS (by omega), Int.toNat_natCast, hs]
    have ih' := ih (i + 1) (by omega)
    refine Ev.succ ?_
    simp only [impl_ReachedNumbers.l0]
    refine Ev.pos (by omega) (Ev.pos (by omega) (Ev.pos (by rw [hI.sl]; omega) ?_))
    rw [wrap_nat (by omega), e2]
    by_cases hm : (i : Int) ∈ N
    · rw [if_pos (decide_eq_true hm)] at e
      rw [e] at ih'
      exact Ev.pos (decide_eq_true hm) (Ev.pos (by omega) ih')
    · rw [if_neg (by simp [hm])] at e
      rw [e] at ih'
      exact Ev.neg (by simp [hm]) ih'
theorem both (r c : Int) (cs : List C) (l : List Int) (hb : cs.length ≤ 1048576) (hl : l.length ≤ 1048576) : ∃ (N : List Int) (ok : Bool), N.length ≤ 65536 ∧ Ev (fun k => spec_ReachedNumbers.f k r c cs l) (N, ok) ∧ Ev (fun k => impl_ReachedNumbers.f k r c cs l) (N, ok) := by
  have no : ∀ b : Bool, b = true → Ev (fun k => impl_ReachedNumbers.j0 k l b r c cs) (([] : List Int), false) := by
    rintro b rfl
    refine Ev.succ ?_
    simp only [impl_ReachedNumbers.j0]
    exact Ev.pos (by simp) (Ev.now _)
  rcases askTest r c cs l hb hl with ⟨U, NX, EX, G, B, N0, hF, hc, s, i, v⟩ | ⟨s, hn⟩
  · have hp := pow_nat (show U.length ≤ 16 by have := hF.few; omega)
    obtain ⟨N, W, S, hI, q1, q2⟩ := reached hF hl hc
    have hfit := hI.fit
    refine ⟨those (fun j => decide ((j : Int) ∈ N)) 0 (2 ^ U.length), true, by have := those_len (fun j => decide ((j : Int) ∈ N)) 0 (2 ^ U.length); omega, ?_, ?_⟩
    · unfold spec_ReachedNumbers.f
      refine Ev.bind s (Ev.pos rfl (Ev.bind q1 (Ev.bind ?_ (Ev.now _))))
      unfold spec_reSorted.f
      have := sorted_loop hI.lt hp.2 (by omega) N.length 0 (by omega)
      have e : those (fun j => decide ((j : Int) ∈ N.take 0)) 0 (2 ^ U.length) = [] := by simp [those]
      rw [e] at this
      exact this
    · unfold impl_ReachedNumbers.f
      refine Ev.bind i (Ev.pos rfl (Ev.bind v (Ev.succ ?_)))
      simp only [impl_ReachedNumbers.j0]
      refine Ev.neg (by simp) (Ev.bind q2 ?_)
      rw [hI.sl]
      exact list_loop hI hp.2 (2 ^ U.length) 0 (by omega)
  · refine ⟨[], false, by simp, ?_, ?_⟩
    · unfold spec_ReachedNumbers.f
      exact Ev.bind s (Ev.neg (by simp) (Ev.now _))
    · unfold impl_ReachedNumbers.f
      rcases hn with i | ⟨i, v⟩
      · exact Ev.bind i (Ev.neg (by simp) (no _ rfl))
      · exact Ev.bind i (Ev.pos rfl (Ev.bind v (no _ rfl)))
theorem law : ∀ (a0_0 : Int) (a0_1 : Int) (l0_2 : List CL) (l1 : List Int), l0_2.length ≤ 9223372036854775807 → l1.length ≤ 9223372036854775807 → ∃ k, laws_FnExactReachedNumbers.f k a0_0 a0_1 l0_2 l1 = some true := by
  intro r c l q hl hq0
  apply Ev.rounds
  unfold laws_FnExactReachedNumbers.f
  refine Ev.split (fun _ => Ev.now _) (fun cB => ?_)
  have hq : q.length ≤ 1048576 := by omega
  rw [szBoard r c l 1048576 hl (by omega) (by omega)]
  simp only [Option.bind_some]
  refine Ev.split (fun _ => Ev.now _) (fun c0 => ?_)
  have hb : l.length ≤ 1048576 := by split at c0 <;> omega
  have hm : (l.map convC).length ≤ 1048576 := by simpa using hb
  obtain ⟨N, ok, hN, hs, hi⟩ := both r c (l.map convC) q hm hq
  repeat' first
    | exact Ev.now true
    | dsimp only
    | with_reducible refine Ev.bind hs ?_
    | with_reducible refine Ev.bind hi ?_
    | with_reducible refine Ev.bind (toBoard _ _ _ (by omega)) ?_
    | with_reducible refine Ev.bind (eqBoard_self _ _ _ (by omega)) ?_
    | with_reducible refine Ev.bind (markBoard _ _ _ _ (by omega) (by omega)) ?_
    | with_reducible refine Ev.bind (toInt _ (by omega)) ?_
    | with_reducible refine Ev.bind (eqInt_self _ (by omega)) ?_
    | with_reducible refine Ev.bind (markI _ _ (by omega) (by omega)) ?_
    | with_reducible refine Ev.bind (heldI _ _ (by omega) (by omega)) ?_
    | refine Ev.pos rfl ?_
    | (refine Ev.neg ?_ ?_; focus (first | omega | (simp; done)))
    | (with_reducible refine Ev.succ (g := fun k => laws_FnExactReachedNumbers.j0 k _ _ _ _ _ _ _ _ _ _ _ _ _) ?_; simp only [laws_FnExactReachedNumbers.j0])
    | (with_reducible refine Ev.succ (g := fun k => laws_FnExactReachedNumbers.j1 k _ _ _ _ _ _ _ _) ?_; simp only [laws_FnExactReachedNumbers.j1])
    | (with_reducible refine Ev.succ (g := fun k => laws_FnExactReachedNumbers.j2 k _ _ _) ?_; simp only [laws_FnExactReachedNumbers.j2])
end Go.Proofs.Ytbpfdbjnnlmdjaa.PureFnExactReachedNumbers
