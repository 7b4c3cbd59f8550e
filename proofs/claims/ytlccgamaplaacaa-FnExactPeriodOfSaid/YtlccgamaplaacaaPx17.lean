-- PRINTED by print.py (a twelfth state) out of the translation. Not trusted: Lean checks it.
import Derived.Test.YtlccgamaplaacaaPx0
import Derived.Test.YtlccgamaplaacaaPx1
import Derived.Test.YtlccgamaplaacaaPx6
namespace Go.Proofs.Ytlccgamaplaacaa.P
open Go.RowKit Go.Proofs.YtlccgamaplaacaaW.PrintWords Go.Proofs.YtlccgamaplaacaaW.PrintLast Go.Proofs.YtlccgamaplaacaaW.PrintMore
attribute [local go_sem] max2_int min2_int max_two min_two max_three min_three max_four min_four   -- for this text's walks alone
set_option linter.unusedVariables false
set_option linter.unusedSimpArgs false

attribute [local go_sem high] eqA62
/-! ### spec_loAgree: function 60 -/
def spec_loAgree.l0 : Nat → List (S62) → List (S62) → Int → Option (Int)
  | 0, _, _, _ => none
  | k + 1, x0, x1, x5 => if x5 < (x0.length : Int) then (if x5 < (x1.length : Int) then (if 0 ≤ x5 then (if (((rd_T62 x0 x5).f0) == ((rd_T62 x1 x5).f0) && ((((rd_T62 x0 x5).f1.f0) == ((rd_T62 x1 x5).f1.f0) && (((rd_T62 x0 x5).f1.f1) == ((rd_T62 x1 x5).f1.f1) && (((rd_T62 x0 x5).f1.f2) == ((rd_T62 x1 x5).f1.f2)))))) = true then (spec_loAgree.l0 k x0 x1 (wrap64 (x5 + 1))) else (some x5)) else (none)) else (some x5)) else (some x5)
def spec_loAgree.f (k : Nat) (l0 : List (S62)) (l1 : List (S62)) : Option (Int) := spec_loAgree.l0 k l0 l1 0
theorem spec_loAgree.mono_l : ∀ k, (∀ y0 y1 y2, LeO (spec_loAgree.l0 k y0 y1 y2) (spec_loAgree.l0 (k + 1) y0 y1 y2))
  | 0 => fun _ _ _ r h => by simp [spec_loAgree.l0] at h
  | k + 1 => by
    have ih0 := spec_loAgree.mono_l k
    · intro y0 y1 y2
      unfold spec_loAgree.l0
      repeat' first
      | (with_reducible exact ih0 _ _ _)
      | (with_reducible exact LeO.refl _)
      | (with_reducible exact LeO.none _)
      | (with_reducible refine LeO.ite ?_ ?_)
      | (with_reducible refine LeO.bind ?_ (fun _ => ?_))
      | exact ih0 _ _ _
      | exact LeO.none _
      | refine LeO.ite ?_ ?_
      | refine LeO.bind ?_ (fun _ => ?_)
theorem spec_loAgree.mono : ∀ a0 a1 k, LeO (spec_loAgree.f k a0 a1) (spec_loAgree.f (k + 1) a0 a1) := by
  intro a0 a1 k
  have ih0 := spec_loAgree.mono_l k
  unfold spec_loAgree.f
  repeat' first
      | (with_reducible exact ih0 _ _ _)
      | (with_reducible exact LeO.refl _)
      | (with_reducible exact LeO.none _)
      | (with_reducible refine LeO.ite ?_ ?_)
      | (with_reducible refine LeO.bind ?_ (fun _ => ?_))
      | exact ih0 _ _ _
      | exact LeO.none _
      | refine LeO.ite ?_ ?_
      | refine LeO.bind ?_ (fun _ => ?_)
set_option maxHeartbeats 8000000 in
set_option maxRecDepth 100000 in
theorem spec_loAgree.calls (k : Nat) (A0 : Option Addr) (c0 : Nat) (l0 : List (S62)) (A1 : Option Addr) (c1 : Nat) (l1 : List (S62)) (r : Int) (w : World) (hr0 : Kd.C k62 w A0 l0.length l0) (hc0 : l0.length ≤ c0) (hr1 : Kd.C k62 w A1 l1.length l1) (hc1 : l1.length ≤ c1) (h : spec_loAgree.f k l0 l1 = some r) :
    Calls Try.prog 60 #[.slice A0 l0.length c0, .slice A1 l1.length c1] w fun e w' => e = .returned (.int .i64 r) ∧ Drawn0 w w' := by
  have hu62 := Try.underlying62
  have HR0 := Aside0.mk hr0
  have HC0 := Aside0.mk hc0
  clear hr0 hc0
  have HR1 := Aside0.mk hr1
  have HC1 := Aside0.mk hc1
  clear hr1 hc1
  have H : (spec_loAgree.l0 k l0 l1 0) = some r := h
  clear h
  have H' := Aside0.mk H
  clear H
  go_enter Try.func60, Try.ntmps60
  go_wp2
  repeat (go_quiet (fail); try go_wp2)
  go_loopg [5] k (fun kq v5 w' => ∃ (x5_1 : Int), v5 = .int .i64 x5_1 ∧ Aside0 (spec_loAgree.l0 kq l0 l1 x5_1 = some r) ∧ Aside0 (kq ≤ k) ∧ Drawn0 w w')
  case atStart => exact ⟨(0), (by first | rfl | (simp; done) | (simp [*]; done)), H', ⟨Nat.le_refl _⟩, by repeat (first | exact Drawn0.refl _ | apply Drawn0.step)⟩
  case round =>
    clear H'
    try clear c1
    try clear p2
    obtain ⟨x5_1, rfl, HA, HK1, ⟨m1, rfl⟩⟩ := hrel
    cases gk with
    | zero => exact absurd HA.out (by simp [spec_loAgree.l0])
    | succ k1 =>
      have H := HA.out
      clear HA
      simp only [spec_loAgree.l0] at H
      by_cases c3 : x5_1 < (l0.length : Int)
      · rw [if_pos c3] at H
        have c3b0 : decide (x5_1 < (l0.length : Int)) = true := decide_eq_true c3
        clear c3
        by_cases c4 : x5_1 < (l1.length : Int)
        · rw [if_pos c4] at H
          have c4b0 : decide (x5_1 < (l1.length : Int)) = true := decide_eq_true c4
          clear c4
          by_cases c5 : 0 ≤ x5_1
          · rw [if_pos c5] at H
            have c5b0 : decide (0 ≤ x5_1) = true := decide_eq_true c5
            clear c5
            by_cases c6 : (((rd_T62 l0 x5_1).f0) == ((rd_T62 l1 x5_1).f0) && ((((rd_T62 l0 x5_1).f1.f0) == ((rd_T62 l1 x5_1).f1.f0) && (((rd_T62 l0 x5_1).f1.f1) == ((rd_T62 l1 x5_1).f1.f1) && (((rd_T62 l0 x5_1).f1.f2) == ((rd_T62 l1 x5_1).f1.f2)))))) = true
            · rw [if_pos c6] at H
              have c6b0 : (((rd_T62 l0 x5_1).f0) == ((rd_T62 l1 x5_1).f0) && ((((rd_T62 l0 x5_1).f1.f0) == ((rd_T62 l1 x5_1).f1.f0) && (((rd_T62 l0 x5_1).f1.f1) == ((rd_T62 l1 x5_1).f1.f1) && (((rd_T62 l0 x5_1).f1.f2) == ((rd_T62 l1 x5_1).f1.f2)))))) = true := c6
              (try (have c6b1 : decide (((rd_T62 l0 x5_1).f0) = ((rd_T62 l1 x5_1).f0) && ((((rd_T62 l0 x5_1).f1.f0) == ((rd_T62 l1 x5_1).f1.f0) && (((rd_T62 l0 x5_1).f1.f1) == ((rd_T62 l1 x5_1).f1.f1) && (((rd_T62 l0 x5_1).f1.f2) == ((rd_T62 l1 x5_1).f1.f2)))))) = true := by simpa using c6))
              (try (have c6b2 : (((rd_T62 l0 x5_1).f0) == ((rd_T62 l1 x5_1).f0) && ((((rd_T62 l0 x5_1).f1.f0) == ((rd_T62 l1 x5_1).f1.f0) && (((rd_T62 l0 x5_1).f1.f1) == ((rd_T62 l1 x5_1).f1.f1) && (((rd_T62 l0 x5_1).f1.f2) == ((rd_T62 l1 x5_1).f1.f2)))))) = true := by simpa using c6))
              clear c6
              have H' := Aside0.mk H
              clear H
              have p269 : 0 ≤ (x5_1 : Int) := of_decide_eq_true (by first | (with_reducible assumption) | assumption)
              have q269 : x5_1 < (l0.length : Int) := of_decide_eq_true (by first | (with_reducible assumption) | assumption)
              obtain ⟨ad269, e269, hx269_0, hx269_1, hx269_2, hx269_3⟩ := at_T62 HR0.out x5_1 p269 q269
              cases e269
              replace p269 := eq_true p269
              replace q269 := eq_true q269
              have p270 : 0 ≤ (x5_1 : Int) := of_decide_eq_true (by first | (with_reducible assumption) | assumption)
              have q270 : x5_1 < (l1.length : Int) := of_decide_eq_true (by first | (with_reducible assumption) | assumption)
              obtain ⟨ad270, e270, hx270_0, hx270_1, hx270_2, hx270_3⟩ := at_T62 HR1.out x5_1 p270 q270
              cases e270
              replace p270 := eq_true p270
              replace q270 := eq_true q270
              go_wp2
              repeat (go_quiet (fail); try go_wp2)
              go_roundg k1
              case measure => have := HK1.out; omega
              case rel => exact ⟨(wrap64 (x5_1 + 1)), (by first | rfl | (simp; done) | (simp [*]; done)), H', ⟨by have := HK1.out; omega⟩, by repeat (first | exact Drawn0.refl _ | apply Drawn0.step)⟩
            · rw [if_neg c6] at H
              have c6b0 : (((rd_T62 l0 x5_1).f0) == ((rd_T62 l1 x5_1).f0) && ((((rd_T62 l0 x5_1).f1.f0) == ((rd_T62 l1 x5_1).f1.f0) && (((rd_T62 l0 x5_1).f1.f1) == ((rd_T62 l1 x5_1).f1.f1) && (((rd_T62 l0 x5_1).f1.f2) == ((rd_T62 l1 x5_1).f1.f2)))))) = false := by simpa using c6
              (try (have c6b1 : decide (((rd_T62 l0 x5_1).f0) = ((rd_T62 l1 x5_1).f0) && ((((rd_T62 l0 x5_1).f1.f0) == ((rd_T62 l1 x5_1).f1.f0) && (((rd_T62 l0 x5_1).f1.f1) == ((rd_T62 l1 x5_1).f1.f1) && (((rd_T62 l0 x5_1).f1.f2) == ((rd_T62 l1 x5_1).f1.f2)))))) = false := by simpa using c6))
              (try (have c6b2 : (((rd_T62 l0 x5_1).f0) == ((rd_T62 l1 x5_1).f0) && ((((rd_T62 l0 x5_1).f1.f0) == ((rd_T62 l1 x5_1).f1.f0) && (((rd_T62 l0 x5_1).f1.f1) == ((rd_T62 l1 x5_1).f1.f1) && (((rd_T62 l0 x5_1).f1.f2) == ((rd_T62 l1 x5_1).f1.f2)))))) = false := by simpa using c6))
              (try (have c6b3 : ¬ (((rd_T62 l0 x5_1).f0) = ((rd_T62 l1 x5_1).f0) && ((((rd_T62 l0 x5_1).f1.f0) == ((rd_T62 l1 x5_1).f1.f0) && (((rd_T62 l0 x5_1).f1.f1) == ((rd_T62 l1 x5_1).f1.f1) && (((rd_T62 l0 x5_1).f1.f2) == ((rd_T62 l1 x5_1).f1.f2)))))) := by simpa using c6))
              clear c6
              obtain rfl := Option.some.inj H
              have p269 : 0 ≤ (x5_1 : Int) := of_decide_eq_true (by first | (with_reducible assumption) | assumption)
              have q269 : x5_1 < (l0.length : Int) := of_decide_eq_true (by first | (with_reducible assumption) | assumption)
              obtain ⟨ad269, e269, hx269_0, hx269_1, hx269_2, hx269_3⟩ := at_T62 HR0.out x5_1 p269 q269
              cases e269
              replace p269 := eq_true p269
              replace q269 := eq_true q269
              have p270 : 0 ≤ (x5_1 : Int) := of_decide_eq_true (by first | (with_reducible assumption) | assumption)
              have q270 : x5_1 < (l1.length : Int) := of_decide_eq_true (by first | (with_reducible assumption) | assumption)
              obtain ⟨ad270, e270, hx270_0, hx270_1, hx270_2, hx270_3⟩ := at_T62 HR1.out x5_1 p270 q270
              cases e270
              replace p270 := eq_true p270
              replace q270 := eq_true q270
              go_wp2
              repeat (go_quiet (fail); try go_wp2)
              go_ret
              exact ⟨by first | rfl | (simp; done) | (simp [*]; done), by repeat (first | exact Drawn0.refl _ | apply Drawn0.step)⟩
          · rw [if_neg c5] at H
            exact absurd H (by simp)
        · rw [if_neg c4] at H
          have c4b0 : decide (x5_1 < (l1.length : Int)) = false := decide_eq_false c4
          clear c4
          obtain rfl := Option.some.inj H
          go_wp2
          repeat (go_quiet (fail); try go_wp2)
          go_ret
          exact ⟨by first | rfl | (simp; done) | (simp [*]; done), by repeat (first | exact Drawn0.refl _ | apply Drawn0.step)⟩
      · rw [if_neg c3] at H
        have c3b0 : decide (x5_1 < (l0.length : Int)) = false := decide_eq_false c3
        clear c3
        obtain rfl := Option.some.inj H
        go_wp2
        repeat (go_quiet (fail); try go_wp2)
        go_ret
        exact ⟨by first | rfl | (simp; done) | (simp [*]; done), by repeat (first | exact Drawn0.refl _ | apply Drawn0.step)⟩

/-! ### spec_AgreeingEntries: function 31 -/
def spec_AgreeingEntries.f (k : Nat) (l0 : List (S62)) (l1 : List (S62)) : Option (Int × Bool) := (spec_loGood.f k l0).bind fun t271 => (if t271 = true then ((spec_loGood.f k l1).bind fun t272 => (if t272 = true then ((spec_loAgree.f k l0 l1).bind fun t273 => (some (t273, true))) else (some (0, false)))) else (some (0, false)))
theorem spec_AgreeingEntries.mono : ∀ a0 a1 k, LeO (spec_AgreeingEntries.f k a0 a1) (spec_AgreeingEntries.f (k + 1) a0 a1) := by
  intro a0 a1 k
  unfold spec_AgreeingEntries.f
  repeat' first
      | (with_reducible exact spec_loAgree.mono _ _ _)
      | (with_reducible exact spec_loGood.mono _ _)
      | (with_reducible exact LeO.refl _)
      | (with_reducible exact LeO.none _)
      | (with_reducible refine LeO.ite ?_ ?_)
      | (with_reducible refine LeO.bind ?_ (fun _ => ?_))
      | exact spec_loAgree.mono _ _ _
      | exact spec_loGood.mono _ _
      | exact LeO.none _
      | refine LeO.ite ?_ ?_
      | refine LeO.bind ?_ (fun _ => ?_)
set_option maxHeartbeats 8000000 in
set_option maxRecDepth 100000 in
theorem spec_AgreeingEntries.calls (k : Nat) (A0 : Option Addr) (c0 : Nat) (l0 : List (S62)) (A1 : Option Addr) (c1 : Nat) (l1 : List (S62)) (r1 : Int) (r2 : Bool) (w : World) (hr0 : Kd.C k62 w A0 l0.length l0) (hc0 : l0.length ≤ c0) (hr1 : Kd.C k62 w A1 l1.length l1) (hc1 : l1.length ≤ c1) (h : spec_AgreeingEntries.f k l0 l1 = some (r1, r2)) :
    Calls Try.prog 31 #[.slice A0 l0.length c0, .slice A1 l1.length c1] w fun e w' => e = .returned (.tuple #[.int .i64 r1, .bool r2]) ∧ Below w.heap.size w w' := by
  have HR0 := Aside0.mk hr0
  have HC0 := Aside0.mk hc0
  clear hr0 hc0
  have HR1 := Aside0.mk hr1
  have HC1 := Aside0.mk hc1
  clear hr1 hc1
  have HB := Aside0.mk (Below.refl w.heap.size w)
  have H : ((spec_loGood.f k l0).bind fun t271 => (if t271 = true then ((spec_loGood.f k l1).bind fun t272 => (if t272 = true then ((spec_loAgree.f k l0 l1).bind fun t273 => (some (t273, true))) else (some (0, false)))) else (some (0, false)))) = some (r1, r2) := h
  clear h
  replace H := Option.bind_eq_some_iff.mp H
  obtain ⟨t271, A30, H⟩ := H
  replace H : (if t271 = true then ((spec_loGood.f k l1).bind fun t272 => (if t272 = true then ((spec_loAgree.f k l0 l1).bind fun t273 => (some (t273, true))) else (some (0, false)))) else (some (0, false))) = some (r1, r2) := H
  have A3 := Aside0.mk A30
  clear A30
  by_cases c4 : t271 = true
  · subst c4
    have H1 : ((spec_loGood.f k l1).bind fun t272 => (if t272 = true then ((spec_loAgree.f k l0 l1).bind fun t273 => (some (t273, true))) else (some (0, false)))) = some (r1, r2) := by rw [if_pos rfl] at H; exact H
    clear H
    have H := H1
    clear H1
    replace H := Option.bind_eq_some_iff.mp H
    obtain ⟨t272, A50, H⟩ := H
    replace H : (if t272 = true then ((spec_loAgree.f k l0 l1).bind fun t273 => (some (t273, true))) else (some (0, false))) = some (r1, r2) := H
    have A5 := Aside0.mk A50
    clear A50
    by_cases c6 : t272 = true
    · subst c6
      have H1 : ((spec_loAgree.f k l0 l1).bind fun t273 => (some (t273, true))) = some (r1, r2) := by rw [if_pos rfl] at H; exact H
      clear H
      have H := H1
      clear H1
      replace H := Option.bind_eq_some_iff.mp H
      obtain ⟨t273, A70, H⟩ := H
      replace H : (some (t273, true)) = some (r1, r2) := H
      have A7 := Aside0.mk A70
      clear A70
      simp only [Option.some.injEq, Prod.mk.injEq] at H
      obtain ⟨rfl, rfl⟩ := H
      go_enter Try.func31, Try.ntmps31
      go_wp2_with (first | ((with_reducible refine gate_callee (f := 54) rfl ?_); refine goesL_ (some 7) rfl rfl Try.func54 (by kernel_rfl) rfl #[.slice A0 l0.length c0] rfl (by (try simp only [List.map_toArray, List.map_cons, List.map_nil]); first | done | rfl | (simp only [List.length_drop, List.length_take]; rfl)) ?_; (with_reducible refine (spec_loGood.calls k _ _ l0 true _ ?side1 ?side2 A3.out).mono ?_); (case side1 => repeat (first | exact HR0.out | (with_reducible refine Kd.C_alloc ?_ _) | (with_reducible refine Kd.C_drewN ?_ _) | (with_reducible refine Kd.C_drew ?_))); (case side2 => exact HC0.out); rintro e w8 ⟨rfl, hb⟩; refine ⟨_, rfl, ?_⟩; have n0_ := Aside0.mk (below_step (by repeat (first | (with_reducible first | exact HB.out | apply below_alloc | apply pw_below_drewN | apply below_drew1) | exact HB.out)) hb); clear HB; have HB := n0_; clear n0_; (try clear hb); (try clear hb2); (try clear hk); (try clear hi)) | (go_at_call 54; (with_reducible refine (spec_loGood.calls k _ _ l1 true _ ?side1 ?side2 A5.out).mono ?_); (case side1 => repeat (first | exact (Kd.C_below HR1.out HB.out) | (with_reducible refine Kd.C_alloc ?_ _) | (with_reducible refine Kd.C_drewN ?_ _) | (with_reducible refine Kd.C_drew ?_))); (case side2 => exact HC1.out); rintro e w9 ⟨rfl, hb⟩; have n0_ := Aside0.mk (below_step (by repeat (first | (with_reducible first | exact HB.out | apply below_alloc | apply pw_below_drewN | apply below_drew1) | exact HB.out)) hb); clear HB; have HB := n0_; clear n0_; (try clear hb); (try clear hb2); (try clear hk); (try clear hi)) | ((with_reducible refine gate_callee (f := 60) rfl ?_); refine goesL_ (some 16) rfl rfl Try.func60 (by kernel_rfl) rfl #[.slice A0 l0.length c0, .slice A1 l1.length c1] rfl (by (try simp only [List.map_toArray, List.map_cons, List.map_nil]); first | done | rfl | (simp only [List.length_drop, List.length_take]; rfl)) ?_; (with_reducible refine (spec_loAgree.calls k _ _ l0 _ _ l1 t273 _ ?side1 ?side2 ?side3 ?side4 A7.out).mono ?_); (case side1 => repeat (first | exact (Kd.C_below HR0.out HB.out) | (with_reducible refine Kd.C_alloc ?_ _) | (with_reducible refine Kd.C_drewN ?_ _) | (with_reducible refine Kd.C_drew ?_))); (case side2 => exact HC0.out); (case side3 => repeat (first | exact (Kd.C_below HR1.out HB.out) | (with_reducible refine Kd.C_alloc ?_ _) | (with_reducible refine Kd.C_drewN ?_ _) | (with_reducible refine Kd.C_drew ?_))); (case side4 => exact HC1.out); rintro e w' ⟨rfl, ⟨nd, rfl⟩⟩; refine ⟨_, rfl, ?_⟩))
      go_ret2
      exact ⟨by first | rfl | (simp [errW_none, errW_some] <;> rfl) | (simp [*, errW_none, errW_some] <;> rfl), by repeat (first | (with_reducible first | exact HB.out | apply below_alloc | apply pw_below_drewN | apply below_drew1) | exact HB.out)⟩
    · replace c6 := Bool.eq_false_iff.mpr c6
      subst c6
      have H1 : (some (0, false)) = some (r1, r2) := by rw [if_neg (show ¬ (false = true) by decide)] at H; exact H
      clear H
      have H := H1
      clear H1
      simp only [Option.some.injEq, Prod.mk.injEq] at H
      obtain ⟨rfl, rfl⟩ := H
      go_enter Try.func31, Try.ntmps31
      go_wp2_with (first | ((with_reducible refine gate_callee (f := 54) rfl ?_); refine goesL_ (some 7) rfl rfl Try.func54 (by kernel_rfl) rfl #[.slice A0 l0.length c0] rfl (by (try simp only [List.map_toArray, List.map_cons, List.map_nil]); first | done | rfl | (simp only [List.length_drop, List.length_take]; rfl)) ?_; (with_reducible refine (spec_loGood.calls k _ _ l0 true _ ?side1 ?side2 A3.out).mono ?_); (case side1 => repeat (first | exact HR0.out | (with_reducible refine Kd.C_alloc ?_ _) | (with_reducible refine Kd.C_drewN ?_ _) | (with_reducible refine Kd.C_drew ?_))); (case side2 => exact HC0.out); rintro e w10 ⟨rfl, hb⟩; refine ⟨_, rfl, ?_⟩; have n0_ := Aside0.mk (below_step (by repeat (first | (with_reducible first | exact HB.out | apply below_alloc | apply pw_below_drewN | apply below_drew1) | exact HB.out)) hb); clear HB; have HB := n0_; clear n0_; (try clear hb); (try clear hb2); (try clear hk); (try clear hi)) | (go_at_call 54; (with_reducible refine (spec_loGood.calls k _ _ l1 false _ ?side1 ?side2 A5.out).mono ?_); (case side1 => repeat (first | exact (Kd.C_below HR1.out HB.out) | (with_reducible refine Kd.C_alloc ?_ _) | (with_reducible refine Kd.C_drewN ?_ _) | (with_reducible refine Kd.C_drew ?_))); (case side2 => exact HC1.out); rintro e w11 ⟨rfl, hb⟩; have n0_ := Aside0.mk (below_step (by repeat (first | (with_reducible first | exact HB.out | apply below_alloc | apply pw_below_drewN | apply below_drew1) | exact HB.out)) hb); clear HB; have HB := n0_; clear n0_; (try clear hb); (try clear hb2); (try clear hk); (try clear hi)))
      go_ret2
      exact ⟨by first | rfl | (simp [errW_none, errW_some] <;> rfl) | (simp [*, errW_none, errW_some] <;> rfl), by repeat (first | (with_reducible first | exact HB.out | apply below_alloc | apply pw_below_drewN | apply below_drew1) | exact HB.out)⟩
  · replace c4 := Bool.eq_false_iff.mpr c4
    subst c4
    have H1 : (some (0, false)) = some (r1, r2) := by rw [if_neg (show ¬ (false = true) by decide)] at H; exact H
    clear H
    have H := H1
    clear H1
    simp only [Option.some.injEq, Prod.mk.injEq] at H
    obtain ⟨rfl, rfl⟩ := H
    go_enter Try.func31, Try.ntmps31
    go_wp2_with (first | ((with_reducible refine gate_callee (f := 54) rfl ?_); refine goesL_ (some 7) rfl rfl Try.func54 (by kernel_rfl) rfl #[.slice A0 l0.length c0] rfl (by (try simp only [List.map_toArray, List.map_cons, List.map_nil]); first | done | rfl | (simp only [List.length_drop, List.length_take]; rfl)) ?_; (with_reducible refine (spec_loGood.calls k _ _ l0 false _ ?side1 ?side2 A3.out).mono ?_); (case side1 => repeat (first | exact HR0.out | (with_reducible refine Kd.C_alloc ?_ _) | (with_reducible refine Kd.C_drewN ?_ _) | (with_reducible refine Kd.C_drew ?_))); (case side2 => exact HC0.out); rintro e w12 ⟨rfl, hb⟩; refine ⟨_, rfl, ?_⟩; have n0_ := Aside0.mk (below_step (by repeat (first | (with_reducible first | exact HB.out | apply below_alloc | apply pw_below_drewN | apply below_drew1) | exact HB.out)) hb); clear HB; have HB := n0_; clear n0_; (try clear hb); (try clear hb2); (try clear hk); (try clear hi)))
    go_ret2
    exact ⟨by first | rfl | (simp [errW_none, errW_some] <;> rfl) | (simp [*, errW_none, errW_some] <;> rfl), by repeat (first | (with_reducible first | exact HB.out | apply below_alloc | apply pw_below_drewN | apply below_drew1) | exact HB.out)⟩

/-! ### impl_agreeing: function 61 -/
def impl_agreeing.l0 : Nat → List (S62) → List (S62) → Int → Option (Int)
  | 0, _, _, _ => none
  | k + 1, x0, x1, x5 => if x5 < (x0.length : Int) then (if x5 < (x1.length : Int) then (if 0 ≤ x5 then (if (((rd_T62 x0 x5).f0) == ((rd_T62 x1 x5).f0) && ((((rd_T62 x0 x5).f1.f0) == ((rd_T62 x1 x5).f1.f0) && (((rd_T62 x0 x5).f1.f1) == ((rd_T62 x1 x5).f1.f1) && (((rd_T62 x0 x5).f1.f2) == ((rd_T62 x1 x5).f1.f2)))))) = true then (impl_agreeing.l0 k x0 x1 (wrap64 (x5 + 1))) else (some x5)) else (none)) else (some x5)) else (some x5)
def impl_agreeing.f (k : Nat) (l0 : List (S62)) (l1 : List (S62)) : Option (Int) := impl_agreeing.l0 k l0 l1 0
theorem impl_agreeing.mono_l : ∀ k, (∀ y0 y1 y2, LeO (impl_agreeing.l0 k y0 y1 y2) (impl_agreeing.l0 (k + 1) y0 y1 y2))
  | 0 => fun _ _ _ r h => by simp [impl_agreeing.l0] at h
  | k + 1 => by
    have ih0 := impl_agreeing.mono_l k
    · intro y0 y1 y2
      unfold impl_agreeing.l0
      repeat' first
      | (with_reducible exact ih0 _ _ _)
      | (with_reducible exact LeO.refl _)
      | (with_reducible exact LeO.none _)
      | (with_reducible refine LeO.ite ?_ ?_)
      | (with_reducible refine LeO.bind ?_ (fun _ => ?_))
      | exact ih0 _ _ _
      | exact LeO.none _
      | refine LeO.ite ?_ ?_
      | refine LeO.bind ?_ (fun _ => ?_)
theorem impl_agreeing.mono : ∀ a0 a1 k, LeO (impl_agreeing.f k a0 a1) (impl_agreeing.f (k + 1) a0 a1) := by
  intro a0 a1 k
  have ih0 := impl_agreeing.mono_l k
  unfold impl_agreeing.f
  repeat' first
      | (with_reducible exact ih0 _ _ _)
      | (with_reducible exact LeO.refl _)
      | (with_reducible exact LeO.none _)
      | (with_reducible refine LeO.ite ?_ ?_)
      | (with_reducible refine LeO.bind ?_ (fun _ => ?_))
      | exact ih0 _ _ _
      | exact LeO.none _
      | refine LeO.ite ?_ ?_
      | refine LeO.bind ?_ (fun _ => ?_)
set_option maxHeartbeats 8000000 in
set_option maxRecDepth 100000 in
theorem impl_agreeing.calls (k : Nat) (A0 : Option Addr) (c0 : Nat) (l0 : List (S62)) (A1 : Option Addr) (c1 : Nat) (l1 : List (S62)) (r : Int) (w : World) (hr0 : Kd.C k62 w A0 l0.length l0) (hc0 : l0.length ≤ c0) (hr1 : Kd.C k62 w A1 l1.length l1) (hc1 : l1.length ≤ c1) (h : impl_agreeing.f k l0 l1 = some r) :
    Calls Try.prog 61 #[.slice A0 l0.length c0, .slice A1 l1.length c1] w fun e w' => e = .returned (.int .i64 r) ∧ Drawn0 w w' := by
  have hu62 := Try.underlying62
  have HR0 := Aside0.mk hr0
  have HC0 := Aside0.mk hc0
  clear hr0 hc0
  have HR1 := Aside0.mk hr1
  have HC1 := Aside0.mk hc1
  clear hr1 hc1
  have H : (impl_agreeing.l0 k l0 l1 0) = some r := h
  clear h
  have H' := Aside0.mk H
  clear H
  go_enter Try.func61, Try.ntmps61
  go_wp2
  repeat (go_quiet (fail); try go_wp2)
  go_loopg [5] k (fun kq v5 w' => ∃ (x5_1 : Int), v5 = .int .i64 x5_1 ∧ Aside0 (impl_agreeing.l0 kq l0 l1 x5_1 = some r) ∧ Aside0 (kq ≤ k) ∧ Drawn0 w w')
  case atStart => exact ⟨(0), (by first | rfl | (simp; done) | (simp [*]; done)), H', ⟨Nat.le_refl _⟩, by repeat (first | exact Drawn0.refl _ | apply Drawn0.step)⟩
  case round =>
    clear H'
    try clear c1
    try clear p2
    obtain ⟨x5_1, rfl, HA, HK1, ⟨m1, rfl⟩⟩ := hrel
    cases gk with
    | zero => exact absurd HA.out (by simp [impl_agreeing.l0])
    | succ k1 =>
      have H := HA.out
      clear HA
      simp only [impl_agreeing.l0] at H
      by_cases c3 : x5_1 < (l0.length : Int)
      · rw [if_pos c3] at H
        have c3b0 : decide (x5_1 < (l0.length : Int)) = true := decide_eq_true c3
        clear c3
        by_cases c4 : x5_1 < (l1.length : Int)
        · rw [if_pos c4] at H
          have c4b0 : decide (x5_1 < (l1.length : Int)) = true := decide_eq_true c4
          clear c4
          by_cases c5 : 0 ≤ x5_1
          · rw [if_pos c5] at H
            have c5b0 : decide (0 ≤ x5_1) = true := decide_eq_true c5
            clear c5
            by_cases c6 : (((rd_T62 l0 x5_1).f0) == ((rd_T62 l1 x5_1).f0) && ((((rd_T62 l0 x5_1).f1.f0) == ((rd_T62 l1 x5_1).f1.f0) && (((rd_T62 l0 x5_1).f1.f1) == ((rd_T62 l1 x5_1).f1.f1) && (((rd_T62 l0 x5_1).f1.f2) == ((rd_T62 l1 x5_1).f1.f2)))))) = true
            · rw [if_pos c6] at H
              have c6b0 : (((rd_T62 l0 x5_1).f0) == ((rd_T62 l1 x5_1).f0) && ((((rd_T62 l0 x5_1).f1.f0) == ((rd_T62 l1 x5_1).f1.f0) && (((rd_T62 l0 x5_1).f1.f1) == ((rd_T62 l1 x5_1).f1.f1) && (((rd_T62 l0 x5_1).f1.f2) == ((rd_T62 l1 x5_1).f1.f2)))))) = true := c6
              (try (have c6b1 : decide (((rd_T62 l0 x5_1).f0) = ((rd_T62 l1 x5_1).f0) && ((((rd_T62 l0 x5_1).f1.f0) == ((rd_T62 l1 x5_1).f1.f0) && (((rd_T62 l0 x5_1).f1.f1) == ((rd_T62 l1 x5_1).f1.f1) && (((rd_T62 l0 x5_1).f1.f2) == ((rd_T62 l1 x5_1).f1.f2)))))) = true := by simpa using c6))
              (try (have c6b2 : (((rd_T62 l0 x5_1).f0) == ((rd_T62 l1 x5_1).f0) && ((((rd_T62 l0 x5_1).f1.f0) == ((rd_T62 l1 x5_1).f1.f0) && (((rd_T62 l0 x5_1).f1.f1) == ((rd_T62 l1 x5_1).f1.f1) && (((rd_T62 l0 x5_1).f1.f2) == ((rd_T62 l1 x5_1).f1.f2)))))) = true := by simpa using c6))
              clear c6
              have H' := Aside0.mk H
              clear H
              have p274 : 0 ≤ (x5_1 : Int) := of_decide_eq_true (by first | (with_reducible assumption) | assumption)
              have q274 : x5_1 < (l0.length : Int) := of_decide_eq_true (by first | (with_reducible assumption) | assumption)
              obtain ⟨ad274, e274, hx274_0, hx274_1, hx274_2, hx274_3⟩ := at_T62 HR0.out x5_1 p274 q274
              cases e274
              replace p274 := eq_true p274
              replace q274 := eq_true q274
              have p275 : 0 ≤ (x5_1 : Int) := of_decide_eq_true (by first | (with_reducible assumption) | assumption)
              have q275 : x5_1 < (l1.length : Int) := of_decide_eq_true (by first | (with_reducible assumption) | assumption)
              obtain ⟨ad275, e275, hx275_0, hx275_1, hx275_2, hx275_3⟩ := at_T62 HR1.out x5_1 p275 q275
              cases e275
              replace p275 := eq_true p275
              replace q275 := eq_true q275
              go_wp2
              repeat (go_quiet (fail); try go_wp2)
              go_roundg k1
              case measure => have := HK1.out; omega
              case rel => exact ⟨(wrap64 (x5_1 + 1)), (by first | rfl | (simp; done) | (simp [*]; done)), H', ⟨by have := HK1.out; omega⟩, by repeat (first | exact Drawn0.refl _ | apply Drawn0.step)⟩
            · rw [if_neg c6] at H
              have c6b0 : (((rd_T62 l0 x5_1).f0) == ((rd_T62 l1 x5_1).f0) && ((((rd_T62 l0 x5_1).f1.f0) == ((rd_T62 l1 x5_1).f1.f0) && (((rd_T62 l0 x5_1).f1.f1) == ((rd_T62 l1 x5_1).f1.f1) && (((rd_T62 l0 x5_1).f1.f2) == ((rd_T62 l1 x5_1).f1.f2)))))) = false := by simpa using c6
              (try (have c6b1 : decide (((rd_T62 l0 x5_1).f0) = ((rd_T62 l1 x5_1).f0) && ((((rd_T62 l0 x5_1).f1.f0) == ((rd_T62 l1 x5_1).f1.f0) && (((rd_T62 l0 x5_1).f1.f1) == ((rd_T62 l1 x5_1).f1.f1) && (((rd_T62 l0 x5_1).f1.f2) == ((rd_T62 l1 x5_1).f1.f2)))))) = false := by simpa using c6))
              (try (have c6b2 : (((rd_T62 l0 x5_1).f0) == ((rd_T62 l1 x5_1).f0) && ((((rd_T62 l0 x5_1).f1.f0) == ((rd_T62 l1 x5_1).f1.f0) && (((rd_T62 l0 x5_1).f1.f1) == ((rd_T62 l1 x5_1).f1.f1) && (((rd_T62 l0 x5_1).f1.f2) == ((rd_T62 l1 x5_1).f1.f2)))))) = false := by simpa using c6))
              (try (have c6b3 : ¬ (((rd_T62 l0 x5_1).f0) = ((rd_T62 l1 x5_1).f0) && ((((rd_T62 l0 x5_1).f1.f0) == ((rd_T62 l1 x5_1).f1.f0) && (((rd_T62 l0 x5_1).f1.f1) == ((rd_T62 l1 x5_1).f1.f1) && (((rd_T62 l0 x5_1).f1.f2) == ((rd_T62 l1 x5_1).f1.f2)))))) := by simpa using c6))
              clear c6
              obtain rfl := Option.some.inj H
              have p274 : 0 ≤ (x5_1 : Int) := of_decide_eq_true (by first | (with_reducible assumption) | assumption)
              have q274 : x5_1 < (l0.length : Int) := of_decide_eq_true (by first | (with_reducible assumption) | assumption)
              obtain ⟨ad274, e274, hx274_0, hx274_1, hx274_2, hx274_3⟩ := at_T62 HR0.out x5_1 p274 q274
              cases e274
              replace p274 := eq_true p274
              replace q274 := eq_true q274
              have p275 : 0 ≤ (x5_1 : Int) := of_decide_eq_true (by first | (with_reducible assumption) | assumption)
              have q275 : x5_1 < (l1.length : Int) := of_decide_eq_true (by first | (with_reducible assumption) | assumption)
              obtain ⟨ad275, e275, hx275_0, hx275_1, hx275_2, hx275_3⟩ := at_T62 HR1.out x5_1 p275 q275
              cases e275
              replace p275 := eq_true p275
              replace q275 := eq_true q275
              go_wp2
              repeat (go_quiet (fail); try go_wp2)
              go_ret
              exact ⟨by first | rfl | (simp; done) | (simp [*]; done), by repeat (first | exact Drawn0.refl _ | apply Drawn0.step)⟩
          · rw [if_neg c5] at H
            exact absurd H (by simp)
        · rw [if_neg c4] at H
          have c4b0 : decide (x5_1 < (l1.length : Int)) = false := decide_eq_false c4
          clear c4
          obtain rfl := Option.some.inj H
          go_wp2
          repeat (go_quiet (fail); try go_wp2)
          go_ret
          exact ⟨by first | rfl | (simp; done) | (simp [*]; done), by repeat (first | exact Drawn0.refl _ | apply Drawn0.step)⟩
      · rw [if_neg c3] at H
        have c3b0 : decide (x5_1 < (l0.length : Int)) = false := decide_eq_false c3
        clear c3
        obtain rfl := Option.some.inj H
        go_wp2
        repeat (go_quiet (fail); try go_wp2)
        go_ret
        exact ⟨by first | rfl | (simp; done) | (simp [*]; done), by repeat (first | exact Drawn0.refl _ | apply Drawn0.step)⟩

end Go.Proofs.Ytlccgamaplaacaa.P
