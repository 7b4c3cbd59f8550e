/- A table with one input fixed: the program's and the reference's function come to the same. No condition beyond the length named. -/
import Derived.Test.YtgekdgggpfiamaaTab
import Derived.Test.YtgekdgggpfiamaaPx1
import Derived.Test.YtgekdgggpfiamaaPx2
import Derived.Test.YtgekdgggpfiamaaPx3
namespace Go.Proofs.Ytgekdgggpfiamaa.FixIn
open Go.RowKit Go.Proofs.Ytgekdgggpfiamaa.P Go.Proofs.Ytgekdgggpfiamaa.Base Go.Proofs.Ytgekdgggpfiamaa.Bit Go.Proofs.Ytgekdgggpfiamaa.Tab Go.Proofs.YtgekdgggpfiamaaW.PrintWords Go.Proofs.YtgekdgggpfiamaaW.PrintLast Go.Proofs.YtgekdgggpfiamaaW.PrintMore
set_option linter.unusedVariables false
set_option linter.unusedSimpArgs false
/-- The values at the indices, from i on, whose bit x is v. -/
def kept (l : List Int) (x : Nat) (v : Int) : Nat → Nat → List Int
  | _, 0 => []
  | i, d + 1 => if (bit i x : Int) = v then rd l (i : Int) :: kept l x v (i + 1) d else kept l x v (i + 1) d
theorem kept_length (l : List Int) (x : Nat) (v : Int) : ∀ (d i : Nat), (kept l x v i d).length ≤ d
  | 0, i => by simp [kept]
  | d + 1, i => by
    have := kept_length l x v d (i + 1)
    simp only [kept]
    split <;> simp <;> omega
theorem loops (l : List Int) (x : Nat) (hx : x ≤ 4) (v m : Int) (hb : l.length ≤ 16) (d : Nat) : ∀ (i : Nat) (acc : List Int), i + d = l.length → acc.length ≤ i →
    Ev (fun k => spec_FixInput.l0 k x v l l.length i m acc) (m, acc ++ kept l x v i d, true) ∧ Ev (fun k => impl_FixInput.l0 k x v l l.length i m acc) (m, acc ++ kept l x v i d, true) := by
  induction d with
  | zero =>
    intro i acc hi ha
    refine ⟨Ev.succ ?_, Ev.succ ?_⟩
    · simp only [spec_FixInput.l0]
      exact Ev.neg (by omega) (Ev.val (Ev.now _) (by simp [kept]))
    · simp only [impl_FixInput.l0]
      exact Ev.neg (by omega) (Ev.val (Ev.now _) (by simp [kept]))
  | succ d ih =>
    intro i acc hi ha
    have e := bit_printed i x (by omega) (by omega)
    by_cases c : (bit i x : Int) = v
    · obtain ⟨h1, h2⟩ := ih (i + 1) (acc ++ [rd l (i : Int)]) (by omega) (by simp; omega)
      have hk : acc ++ kept l x v i (d + 1) = acc ++ [rd l (i : Int)] ++ kept l x v (i + 1) d := by simp [kept, c]
      refine ⟨Ev.succ ?_, Ev.succ ?_⟩
      · simp only [spec_FixInput.l0, spec_ttBit.f]
        rw [wrapU (by omega) (by omega), e]
        simp only [show (0 : Int) ≤ (x : Int) by omega, if_true, Option.bind_some]
        refine Ev.pos (by omega) (Ev.pos (by omega) (Ev.pos (by omega) (Ev.pos c (Ev.pos (by omega) ?_))))
        rw [wrap_nat (by omega), hk]; exact h1
      · simp only [impl_FixInput.l0]
        rw [e]
        refine Ev.pos (by omega) (Ev.pos (by omega) (Ev.pos (by omega) (Ev.pos (by omega) (Ev.pos c (Ev.pos (by omega) ?_)))))
        rw [wrap_nat (by omega), hk]; exact h2
    · obtain ⟨h1, h2⟩ := ih (i + 1) acc (by omega) (by omega)
      have hk : acc ++ kept l x v i (d + 1) = acc ++ kept l x v (i + 1) d := by simp [kept, c]
      refine ⟨Ev.succ ?_, Ev.succ ?_⟩
      · simp only [spec_FixInput.l0, spec_ttBit.f]
        rw [wrapU (by omega) (by omega), e]
        simp only [show (0 : Int) ≤ (x : Int) by omega, if_true, Option.bind_some]
        refine Ev.pos (by omega) (Ev.pos (by omega) (Ev.pos (by omega) (Ev.neg c ?_)))
        rw [wrap_nat (by omega), hk]; exact h1
      · simp only [impl_FixInput.l0]
        rw [e]
        refine Ev.pos (by omega) (Ev.pos (by omega) (Ev.pos (by omega) (Ev.pos (by omega) (Ev.neg c ?_))))
        rw [wrap_nat (by omega), hk]; exact h2
/-- What both come to. -/
def fixed (n : Int) (l : List Int) (x v : Int) : Int × List Int × Bool :=
  if TGood n l ∧ 0 ≤ x ∧ x < n ∧ 0 ≤ v ∧ v ≤ 1 then (n - 1, kept l x.toNat v 0 l.length, true) else (0, [], false)
theorem spec_fix (n : Int) (l : List Int) (x v : Int) (hb : l.length ≤ 1048576) : Ev (fun k => spec_FixInput.f k n l x v) (fixed n l x v) := by
  unfold spec_FixInput.f spec_ttHas.f
  by_cases h : TGood n l
  · have hl := h.len
    have hn := h.2.1
    have hn0 := h.1
    have h1 : Ev (fun k => (spec_ttGood.f k n l).bind fun t => if t = true then (spec_l1In.f x 0 (wrap64 (n - 1))).bind fun t => some t else some false) (decide (0 ≤ x ∧ x ≤ n - 1)) := by
      refine Ev.bind (Ev.val (ttGood n l (by omega)) (decide_eq_true h)) (Ev.pos rfl ?_)
      rw [l1In, wrap_id (by omega) (by omega)]
      exact Ev.now _
    refine Ev.bind h1 ?_
    simp only [l1In, Option.bind_some]
    refine Ev.split (fun c => ?_) (fun c => ?_)
    · have c' := of_decide_eq_true c
      refine Ev.succ ?_
      simp only [spec_FixInput.j0]
      refine Ev.split (fun c2 => ?_) (fun c2 => ?_)
      · refine Ev.val (Ev.now _) ?_
        have : v < 0 ∨ 1 < v := by simpa using c2
        unfold fixed; rw [if_neg (by omega)]
      · have c3 : 0 ≤ v ∧ v ≤ 1 := by simpa using c2
        obtain ⟨z, rfl⟩ := Int.eq_ofNat_of_zero_le c'.1
        refine Ev.val (loops l z (by omega) v _ (by omega) l.length 0 [] (by omega) (by simp)).1 ?_
        unfold fixed; rw [if_pos ⟨h, by omega, by omega, c3.1, c3.2⟩, wrap_id (by omega) (by omega)]; simp
    · have c' := of_decide_eq_false (by simpa using c : decide (0 ≤ x ∧ x ≤ n - 1) = false)
      refine Ev.succ ?_
      simp only [spec_FixInput.j0]
      refine Ev.pos trivial (Ev.val (Ev.now _) ?_)
      unfold fixed; rw [if_neg (by omega)]
  · have h1 : Ev (fun k => (spec_ttGood.f k n l).bind fun t => if t = true then (spec_l1In.f x 0 (wrap64 (n - 1))).bind fun t => some t else some false) false :=
      Ev.bind (Ev.val (ttGood n l (by omega)) (decide_eq_false h)) (Ev.neg (by simp) (Ev.now _))
    refine Ev.bind h1 (Ev.neg (by simp) (Ev.succ ?_))
    simp only [spec_FixInput.j0]
    refine Ev.pos trivial (Ev.val (Ev.now _) ?_)
    unfold fixed; rw [if_neg (fun hh => h hh.1)]
theorem impl_fix (n : Int) (l : List Int) (x v : Int) (hb : l.length ≤ 1048576) : Ev (fun k => impl_FixInput.f k n l x v) (fixed n l x v) := by
  unfold impl_FixInput.f
  have out : ∀ {P : Prop}, ¬ (TGood n l ∧ 0 ≤ x ∧ x < n ∧ 0 ≤ v ∧ v ≤ 1) → Ev (fun k => impl_FixInput.j0 k x v true n l) (fixed n l x v) := by
    intro _ h
    refine Ev.succ ?_
    simp only [impl_FixInput.j0]
    refine Ev.pos trivial (Ev.val (Ev.now _) ?_)
    unfold fixed; rw [if_neg h]
  by_cases h : TGood n l
  · have hl := h.len
    have hn := h.2.1
    have hn0 := h.1
    refine Ev.bind (Ev.val (implIsTable n l (by omega)) (decide_eq_true h)) (Ev.pos rfl ?_)
    refine Ev.split (fun c => out (P := True) (by omega)) (fun c => ?_)
    refine Ev.split (fun c2 => out (P := True) (by omega)) (fun c2 => ?_)
    refine Ev.split (fun c3 => out (P := True) (by omega)) (fun c3 => ?_)
    refine Ev.succ ?_
    simp only [impl_FixInput.j0]
    refine Ev.split (fun c4 => ?_) (fun c4 => ?_)
    · refine Ev.val (Ev.now _) ?_
      have : v > 1 := by simpa using c4
      unfold fixed; rw [if_neg (by omega)]
    · have c5 : ¬ v > 1 := by simpa using c4
      obtain ⟨z, rfl⟩ := Int.eq_ofNat_of_zero_le (show 0 ≤ x by omega)
      refine Ev.val (loops l z (by omega) v _ (by omega) l.length 0 [] (by omega) (by simp)).2 ?_
      unfold fixed; rw [if_pos ⟨h, by omega, by omega, by omega, by omega⟩, wrap_id (by omega) (by omega)]; simp
  · exact Ev.bind (Ev.val (implIsTable n l (by omega)) (decide_eq_false h)) (Ev.neg (by simp) (out (P := True) (fun hh => h hh.1)))
theorem fixed_length (n : Int) (l : List Int) (x v : Int) (hb : l.length ≤ 1048576) : (fixed n l x v).2.1.length ≤ 1048576 := by
  unfold fixed
  split
  · have := kept_length l x.toNat v l.length 0
    simp only; omega
  · simp
theorem both (n : Int) (l : List Int) (x v : Int) (hb : l.length ≤ 1048576) : ∃ a L ok, (L : List Int).length ≤ 1048576 ∧ Ev (fun k => spec_FixInput.f k n l x v) (a, L, ok) ∧ Ev (fun k => impl_FixInput.f k n l x v) (a, L, ok) :=
  ⟨(fixed n l x v).1, (fixed n l x v).2.1, (fixed n l x v).2.2, fixed_length n l x v hb, spec_fix n l x v hb, impl_fix n l x v hb⟩
end Go.Proofs.Ytgekdgggpfiamaa.FixIn
