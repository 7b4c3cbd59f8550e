-- PRINTED by print.py (a twelfth state) out of the translation. Not trusted: Lean checks it.
import Derived.Test.YtbpfdbjnnlmdjaaPx0
import Derived.Test.YtbpfdbjnnlmdjaaPx1
namespace Go.Proofs.Ytbpfdbjnnlmdjaa.P
open Go.RowKit Go.Proofs.YtbpfdbjnnlmdjaaW.PrintWords Go.Proofs.YtbpfdbjnnlmdjaaW.PrintLast Go.Proofs.YtbpfdbjnnlmdjaaW.PrintMore
attribute [local go_sem] max2_int min2_int max_two min_two max_three min_three max_four min_four   -- for this text's walks alone
set_option linter.unusedVariables false
set_option linter.unusedSimpArgs false

/-! ### spec_boAt: function 95 -/
def spec_boAt.f (a0_0 : Int) (a0_1 : Int) (l0_2 : List (S83)) (a1 : Int) (a2 : Int) : Option (Int × Int) := if 0 ≤ (wrap64 ((wrap64 (a1 * a0_1)) + a2)) then (if (wrap64 ((wrap64 (a1 * a0_1)) + a2)) < (l0_2.length : Int) then (some ((rd_T83 l0_2 (wrap64 ((wrap64 (a1 * a0_1)) + a2))).f0, (rd_T83 l0_2 (wrap64 ((wrap64 (a1 * a0_1)) + a2))).f1)) else (none)) else (none)
set_option maxHeartbeats 8000000 in
set_option maxRecDepth 100000 in
theorem spec_boAt.calls (a0_0 : Int) (a0_1 : Int) (A0_2 : Option Addr) (c0_2 : Nat) (l0_2 : List (S83)) (a1 : Int) (a2 : Int) (r1 : Int) (r2 : Int) (w : World) (hr0_2 : Kd.C k83 w A0_2 l0_2.length l0_2) (hc0_2 : l0_2.length ≤ c0_2) (h : spec_boAt.f a0_0 a0_1 l0_2 a1 a2 = some (r1, r2)) :
    Calls Try.prog 95 #[.agg #[.int .i64 a0_0, .int .i64 a0_1, .slice A0_2 l0_2.length c0_2], .int .i64 a1, .int .i64 a2] w fun e w' => e = .returned (.agg #[.int .i64 r1, .int .i64 r2]) ∧ Below w.heap.size w w' := by
  have hu30 := Try.underlying30
  have hu83 := Try.underlying83
  have HR0_2 := Aside0.mk hr0_2
  have HC0_2 := Aside0.mk hc0_2
  clear hr0_2 hc0_2
  have HB := Aside0.mk (Below.refl w.heap.size w)
  have H := h
  clear h
  unfold spec_boAt.f at H
  obtain ⟨ji4, hji4⟩ : ∃ j_ : Int, (wrap64 ((wrap64 (a1 * a0_1)) + a2)) = j_ := ⟨_, rfl⟩
  replace H : (if 0 ≤ (ji4) then (if (ji4) < (l0_2.length : Int) then (some ((rd_T83 l0_2 (ji4)).f0, (rd_T83 l0_2 (ji4)).f1)) else (none)) else (none)) = some (r1, r2) := by first | (rw [hji4] at H; exact H) | (simp only [hji4] at H ⊢; exact H)
  have hji4w : (IntKind.i64.wrap ((wrap64 (a1 * a0_1)) + a2)) = ji4 := (i64_w _).trans hji4
  replace H := ifN H; obtain ⟨c5b0, H⟩ := H
  replace H := ifN H; obtain ⟨c6b0, H⟩ := H
  simp only [Option.some.injEq, Prod.mk.injEq] at H
  obtain ⟨rfl, rfl⟩ := H
  go_enter Try.func95, Try.ntmps95
  go_wp2_with (first | ((with_reducible refine gate_dst (N := 3) rfl ?_); refine boxE (cs := #[.int .i64 a0_0, .int .i64 a0_1, .slice A0_2 l0_2.length c0_2]) (t := 30) ?_; intro gb221 hg w7 hbox hb; refine E4b HB.1 hg hbox hb ?_; clear HB; intro HB BK221 GW221 GE221; clear hb hbox hg) | ((with_reducible refine gate_dst (N := 6) rfl ?_); refine boxE (cs := #[.int .i64 0, .int .i64 0]) (t := 83) ?_; intro gb222 hg w8 hbox hb; refine E7 (bB BK221.1 hb) (below_step (BL HB.1) hb) (hbox) (gX HB.1 hg) (gX HB.1 hg) (nB BK221.1 hg) (nC BK221.1 hg) ?_; clear BK221 HB; intro BK221 HB BK222 GW222 GE222 NB221_222 NB222_221; clear hb hbox hg; have hnb9 := NB221_222.1; have hnc9 := NB222_221.1; obtain ⟨hcz10_0, hcz10_1, hcz10_2, hfz10_0, hfz10_1, hfz10_2⟩ := cz3 BK221.1; have p223 : 0 ≤ ((ji4) : Int) := OD; have q223 : (ji4) < (l0_2.length : Int) := OD; obtain ⟨ad223, e223, hx223_0, hx223_1⟩ := at_T83 HR0_2.1 (ji4) p223 q223; cases e223; replace hx223_0 := (HB.1.cell (World.block_lt_of_cell? w _ hx223_0)).trans hx223_0; replace hx223_1 := (HB.1.cell (World.block_lt_of_cell? w _ hx223_1)).trans hx223_1; replace p223 := eq_true p223; replace q223 := eq_true q223; obtain ⟨hcz11_0, hcz11_1, hfz11_0, hfz11_1⟩ := cz2 BK222.1))
  refine bodyPost_ret (results_cell_row rfl _ _ gb222 83 #[.int .i64 ((rd_T83 l0_2 (ji4)).f0), .int .i64 ((rd_T83 l0_2 (ji4)).f1)] (0, 0) _ rfl (PF0 BK222.1) Try.underlying83 rfl (by kernel_rfl)) rfl ?_
  exact ⟨by first | rfl | (simp [errW_none, errW_some] <;> rfl) | (simp only [← hji4]; first | rfl | (simp [errW_none, errW_some] <;> rfl)) | (simp [*, errW_none, errW_some] <;> rfl), BL HB.1⟩
/-! ### spec_paGoes: function 96 -/
def spec_paGoes.j0 : Nat → Int → Int → Bool → Int → Int → Option (Int)
  | 0, _, _, _, _, _ => none
  | k + 1, x1, x6, x11, x225000, x225001 => if x11 = true then (some (wrap64 ((wrap64 (2 * x225001)) - 1))) else (if x6 = 4 then (some (wrap64 (-x1))) else (some 0))
def spec_paGoes.f (k : Nat) (a0_0 : Int) (a0_1 : Int) (a1 : Int) : Option (Int) := if a0_0 = 1 then (some (-1)) else (if a0_0 = 2 then (some 1) else (if a0_0 = 3 then (spec_paGoes.j0 k a1 a0_0 (a0_0 == 3) a0_0 a0_1) else (spec_paGoes.j0 k a1 a0_0 (a0_0 == 6) a0_0 a0_1)))
theorem spec_paGoes.mono_l : ∀ k, (∀ y0 y1 y2 y3 y4, LeO (spec_paGoes.j0 k y0 y1 y2 y3 y4) (spec_paGoes.j0 (k + 1) y0 y1 y2 y3 y4))
  | 0 => fun _ _ _ _ _ r h => by simp [spec_paGoes.j0] at h
  | k + 1 => by
    have ih0 := spec_paGoes.mono_l k
    intros
    first | unfold spec_paGoes.j0
    repeat' first | (with_reducible first | apply ih0 | exact LeO.refl _ | exact LeO.none _ | refine LeO.ite ?_ ?_ | refine LeO.bind ?_ (fun _ => ?_)) | apply ih0 | exact LeO.none _ | refine LeO.ite ?_ ?_ | refine LeO.bind ?_ (fun _ => ?_)
theorem spec_paGoes.mono : ∀ a0 a1 a2 k, LeO (spec_paGoes.f k a0 a1 a2) (spec_paGoes.f (k + 1) a0 a1 a2) := by
  intro a0 a1 a2 k
  have ih0 := spec_paGoes.mono_l k
  unfold spec_paGoes.f
  repeat' first | (with_reducible first | apply ih0 | exact LeO.refl _ | exact LeO.none _ | refine LeO.ite ?_ ?_ | refine LeO.bind ?_ (fun _ => ?_)) | apply ih0 | exact LeO.none _ | refine LeO.ite ?_ ?_ | refine LeO.bind ?_ (fun _ => ?_)
set_option maxHeartbeats 8000000 in
set_option maxRecDepth 100000 in
theorem spec_paGoes.calls (k : Nat) (a0_0 : Int) (a0_1 : Int) (a1 : Int) (r : Int) (w : World) (h : spec_paGoes.f k a0_0 a0_1 a1 = some r) :
    Calls Try.prog 96 #[.agg #[.int .i64 a0_0, .int .i64 a0_1], .int .i64 a1] w fun e w' => e = .returned (.int .i64 r) ∧ Below w.heap.size w w' := by
  have hu83 := Try.underlying83
  have HB := Aside0.mk (Below.refl w.heap.size w)
  have H := h
  clear h
  unfold spec_paGoes.f at H
  replace H := ifQ H; rcases H with ⟨c3, H⟩ | ⟨c3, H⟩
  · have c3b0 := beq_iff_eq.mpr c3
    have c3b1 := bne_eq_false_iff_eq.mpr c3
    clear c3
    obtain rfl := Option.some.inj H
    go_enter Try.func96, Try.ntmps96
    go_wp2_with (first | ((with_reducible refine gate_dst (N := 2) rfl ?_); refine boxE (cs := #[.int .i64 a0_0, .int .i64 a0_1]) (t := 83) ?_; intro gb224 hg w4 hbox hb; refine E4b HB.1 hg hbox hb ?_; clear HB; intro HB BK224 GW224 GE224; clear hb hbox hg; obtain ⟨hcz5_0, hcz5_1, hfz5_0, hfz5_1⟩ := cz2 BK224.1))
    go_ret
    exact ⟨RF, BL HB.1⟩
  have c3b0 := beq_eq_false_iff_ne.mpr c3
  have c3b1 := bne_iff_ne.mpr c3
  replace H := ifQ H; rcases H with ⟨c6, H⟩ | ⟨c6, H⟩
  · have c6b0 := beq_iff_eq.mpr c6
    have c6b1 := bne_eq_false_iff_eq.mpr c6
    clear c6
    obtain rfl := Option.some.inj H
    go_enter Try.func96, Try.ntmps96
    go_wp2_with (first | ((with_reducible refine gate_dst (N := 2) rfl ?_); refine boxE (cs := #[.int .i64 a0_0, .int .i64 a0_1]) (t := 83) ?_; intro gb224 hg w7 hbox hb; refine E4b HB.1 hg hbox hb ?_; clear HB; intro HB BK224 GW224 GE224; clear hb hbox hg; obtain ⟨hcz8_0, hcz8_1, hfz8_0, hfz8_1⟩ := cz2 BK224.1))
    go_ret
    exact ⟨RF, BL HB.1⟩
  have c6b0 := beq_eq_false_iff_ne.mpr c6
  have c6b1 := bne_iff_ne.mpr c6
  have HC9 := Aside0.mk H
  clear H
  go_enter Try.func96, Try.ntmps96
  go_upto_if 11 with (first | ((with_reducible refine gate_dst (N := 2) rfl ?_); refine boxE (cs := #[.int .i64 a0_0, .int .i64 a0_1]) (t := 83) ?_; intro gb224 hg w10 hbox hb; refine E4b HB.1 hg hbox hb ?_; clear HB; intro HB BK224 GW224 GE224; clear hb hbox hg; obtain ⟨hcz11_0, hcz11_1, hfz11_0, hfz11_1⟩ := cz2 BK224.1))
  (try simp only [Act.put, List.setIfInBounds_toArray, List.set_cons_zero, List.set_cons_succ])
  go_cut [11] (fun v11 wc => ∃ (kq : Nat) (x11_8 : Bool), v11 = .bool x11_8 ∧ Aside0 (spec_paGoes.j0 kq a1 a0_0 x11_8 a0_0 a0_1 = some r) ∧ Aside0 (kq ≤ k) ∧ Aside0 (wc.heap[gb224]? = some (.cells #[.int .i64 a0_0, .int .i64 a0_1] 83 (0, 0))) ∧ Aside0 (Below w.heap.size w wc))
  case first =>
    have H := HC9.1
    clear HC9
    replace H := ifQ H; rcases H with ⟨c12, H⟩ | ⟨c12, H⟩
    · have c12b0 := beq_iff_eq.mpr c12
      have c12b1 := bne_eq_false_iff_eq.mpr c12
      clear c12
      (first | rw [c12b0] | (simp only [i64_w, i32_w]; rw [c12b0]) | skip)
      have H' := Aside0.mk H
      clear H
      go_wp2
      go_meet
      case rel => exact ⟨_, ((a0_0 == 3)), RG, H', ⟨by first | omega | exact Nat.le_refl _⟩, ⟨PB BK224.1⟩, ⟨BL HB.1⟩⟩
    have c12b0 := beq_eq_false_iff_ne.mpr c12
    have c12b1 := bne_iff_ne.mpr c12
    (first | rw [c12b0] | (simp only [i64_w, i32_w]; rw [c12b0]) | skip)
    have H' := Aside0.mk H
    clear H
    go_wp2
    go_meet
    case rel => exact ⟨_, ((a0_0 == 6)), RG, H', ⟨by first | omega | exact Nat.le_refl _⟩, ⟨PB BK224.1⟩, ⟨BL HB.1⟩⟩
  clear HC9
  try clear c3; try clear c3b0; try clear c3b1; try clear c6; try clear c6b0; try clear c6b1; try clear hcz11_0; try clear hcz11_1; try clear hfz11_0; try clear hfz11_1
  obtain ⟨kq, x11_8, rfl, HA, HJ8, BK224, HB⟩ := hcut
  cases kq with
  | zero => exact absurd HA.1 (by simp [spec_paGoes.j0])
  | succ kj8 => ?_
  have H := HA.1
  clear HA
  simp only [spec_paGoes.j0] at H
  replace H := ifX H; rcases H with ⟨rfl, H⟩ | ⟨rfl, H⟩
  · obtain rfl := Option.some.inj H
    obtain ⟨hcz14_0, hcz14_1, hfz14_0, hfz14_1⟩ := cz2 BK224.1
    go_wp2
    go_ret
    exact ⟨RF, BL HB.1⟩
  replace H := ifQ H; rcases H with ⟨c15, H⟩ | ⟨c15, H⟩
  · have c15b0 := beq_iff_eq.mpr c15
    have c15b1 := bne_eq_false_iff_eq.mpr c15
    clear c15
    obtain rfl := Option.some.inj H
    go_wp2
    go_ret
    exact ⟨RF, BL HB.1⟩
  have c15b0 := beq_eq_false_iff_ne.mpr c15
  have c15b1 := bne_iff_ne.mpr c15
  obtain rfl := Option.some.inj H
  go_wp2
  go_ret
  exact ⟨RF, BL HB.1⟩
/-! ### spec_paTurn: function 101 -/
def spec_paTurn.f (a0_0 : Int) (a0_1 : Int) : Option (Int × Int) := some (a0_0, wrap64 (1 - a0_1))
set_option maxHeartbeats 8000000 in
set_option maxRecDepth 100000 in
theorem spec_paTurn.calls (a0_0 : Int) (a0_1 : Int) (r1 : Int) (r2 : Int) (w : World) (h : spec_paTurn.f a0_0 a0_1 = some (r1, r2)) :
    Calls Try.prog 101 #[.agg #[.int .i64 a0_0, .int .i64 a0_1]] w fun e w' => e = .returned (.agg #[.int .i64 r1, .int .i64 r2]) ∧ Below w.heap.size w w' := by
  have hu83 := Try.underlying83
  have HB := Aside0.mk (Below.refl w.heap.size w)
  have H := h
  clear h
  unfold spec_paTurn.f at H
  simp only [Option.some.injEq, Prod.mk.injEq] at H
  obtain ⟨rfl, rfl⟩ := H
  go_enter Try.func101, Try.ntmps101
  go_wp2_with (first | ((with_reducible refine gate_dst (N := 1) rfl ?_); refine boxE (cs := #[.int .i64 a0_0, .int .i64 a0_1]) (t := 83) ?_; intro gb225 hg w2 hbox hb; refine E4b HB.1 hg hbox hb ?_; clear HB; intro HB BK225 GW225 GE225; clear hb hbox hg) | ((with_reducible refine gate_dst (N := 2) rfl ?_); refine boxE (cs := #[.int .i64 0, .int .i64 0]) (t := 83) ?_; intro gb226 hg w3 hbox hb; refine E7 (bB BK225.1 hb) (below_step (BL HB.1) hb) (hbox) (gX HB.1 hg) (gX HB.1 hg) (nB BK225.1 hg) (nC BK225.1 hg) ?_; clear BK225 HB; intro BK225 HB BK226 GW226 GE226 NB225_226 NB226_225; clear hb hbox hg; have hnb4 := NB225_226.1; have hnc4 := NB226_225.1; obtain ⟨hcz5_0, hcz5_1, hfz5_0, hfz5_1⟩ := cz2 BK225.1; obtain ⟨hcz6_0, hcz6_1, hfz6_0, hfz6_1⟩ := cz2 BK226.1))
  refine bodyPost_ret (results_cell_row rfl _ _ gb226 83 #[.int .i64 a0_0, .int .i64 (wrap64 (1 - a0_1))] (0, 0) _ rfl (PF0 BK226.1) Try.underlying83 rfl (by kernel_rfl)) rfl ?_
  exact ⟨RF, BL HB.1⟩

/-! ### spec_flPass: function 97 -/
def spec_flPass.l0 : Nat → List Int → Int → Int → Int → Int → Int → List (S83) → Option ((List (S83)))
  | 0, _, _, _, _, _, _, _ => none
  | k + 1, x1, x2, x28, x29, x228000, x228001, x228002 => if x29 < x28 then (if 0 ≤ x29 then (if x29 < (x228002.length : Int) then (if ((rd_T83 x228002 x29).f0) = 6 then (if x29 < (x1.length : Int) then (if 0 ≤ x2 then (if x2 < (x1.length : Int) then (if (rd x1 x29) = (rd x1 x2) then ((spec_paTurn.f ((rd_T83 x228002 x29).f0) ((rd_T83 x228002 x29).f1)).bind fun bt237 => (spec_flPass.l0 k x1 x2 x28 (wrap64 (x29 + 1)) x228000 x228001 (x228002.set (x29 : Int).toNat (⟨bt237.1, bt237.2⟩ : S83)))) else (spec_flPass.l0 k x1 x2 x28 (wrap64 (x29 + 1)) x228000 x228001 x228002)) else (none)) else (none)) else (none)) else (spec_flPass.l0 k x1 x2 x28 (wrap64 (x29 + 1)) x228000 x228001 x228002)) else (none)) else (none)) else (some x228002)
def spec_flPass.f (k : Nat) (a0_0 : Int) (a0_1 : Int) (l0_2 : List (S83)) (l1 : List Int) (a2 : Int) : Option ((List (S83))) := if 0 ≤ a2 then (if a2 < (l0_2.length : Int) then (if ((rd_T83 l0_2 a2).f0) = 3 then ((spec_paTurn.f ((rd_T83 l0_2 a2).f0) ((rd_T83 l0_2 a2).f1)).bind fun bt230 => (some (l0_2.set (a2 : Int).toNat (⟨bt230.1, bt230.2⟩ : S83)))) else (if ((rd_T83 l0_2 a2).f0) = 6 then (spec_flPass.l0 k l1 a2 (l0_2.length : Int) 0 a0_0 a0_1 l0_2) else (some l0_2))) else (none)) else (none)
theorem spec_flPass.mono_l : ∀ k, (∀ y0 y1 y2 y3 y4 y5 y6, LeO (spec_flPass.l0 k y0 y1 y2 y3 y4 y5 y6) (spec_flPass.l0 (k + 1) y0 y1 y2 y3 y4 y5 y6))
  | 0 => fun _ _ _ _ _ _ _ r h => by simp [spec_flPass.l0] at h
  | k + 1 => by
    have ih0 := spec_flPass.mono_l k
    intros
    first | unfold spec_flPass.l0
    repeat' first | (with_reducible first | apply ih0 | exact LeO.refl _ | exact LeO.none _ | refine LeO.ite ?_ ?_ | refine LeO.bind ?_ (fun _ => ?_)) | apply ih0 | exact LeO.none _ | refine LeO.ite ?_ ?_ | refine LeO.bind ?_ (fun _ => ?_)
theorem spec_flPass.mono : ∀ a0 a1 a2 a3 a4 k, LeO (spec_flPass.f k a0 a1 a2 a3 a4) (spec_flPass.f (k + 1) a0 a1 a2 a3 a4) := by
  intro a0 a1 a2 a3 a4 k
  have ih0 := spec_flPass.mono_l k
  unfold spec_flPass.f
  repeat' first | (with_reducible first | apply ih0 | exact LeO.refl _ | exact LeO.none _ | refine LeO.ite ?_ ?_ | refine LeO.bind ?_ (fun _ => ?_)) | apply ih0 | exact LeO.none _ | refine LeO.ite ?_ ?_ | refine LeO.bind ?_ (fun _ => ?_)
def spec_flPass.T9 : Bool × List (List Nat × List Nat) := (true, [([], []), ([0], [0]), ([1], [1]), ([2], [2]), ([3], [3]), ([3], [3]), ([4, 5, 3], [3, 4, 5]), ([6, 3], [3, 6]), ([3], [3]), ([3], [3]), ([8, 9, 3], [3, 8, 9]), ([10, 3], [3, 10]), ([7, 11, 3], [3, 7, 11]), ([3, 12], [3, 12])])
def spec_flPass.B9 : List Nat := [0, 1, 3, 7, 15, 15, 63, 127, 15, 15, 783, 1807, 4095, 8191]
theorem spec_flPass.tab9 : rtab .any (opsOf Try.f97 9) = spec_flPass.T9 := by kernel_rfl
theorem spec_flPass.bits9 : waitsOk spec_flPass.T9.2 spec_flPass.B9 = true := by kernel_rfl
set_option maxHeartbeats 8000000 in
set_option maxRecDepth 100000 in
theorem spec_flPass.calls (k : Nat) (a0_0 : Int) (a0_1 : Int) (P0_2_ : Nat → Prop) (u9000_ : Value) (l0_2 : List (S83)) (A1 : Option Addr) (c1 : Nat) (l1 : List Int) (a2 : Int) (r : List (S83)) (w0 w : World) (hB : Below w0.heap.size w0 w) (ho0_2 : Kd.R k83 83 w w0.heap.size P0_2_ u9000_ l0_2) (hr1 : ∀ W_, Kept w W_ (fun k_ => P0_2_ k_) → Kd.C (Kd.int .i64) W_ A1 l1.length l1) (hc1 : l1.length ≤ c1) (h : spec_flPass.f k a0_0 a0_1 l0_2 l1 a2 = some r) :
    Calls Try.prog 97 #[.agg #[.int .i64 a0_0, .int .i64 a0_1, u9000_], .slice A1 l1.length c1, .int .i64 a2] w fun e w' => e = .returned (.tuple #[]) ∧ Kd.R k83 83 w' w0.heap.size (fun k_ => (P0_2_ k_ ∨ w.heap.size ≤ k_)) u9000_ r ∧ Below w0.heap.size w0 w' ∧ Kept w w' (fun k_ => P0_2_ k_) := by
  have hu30 := Try.underlying30
  have hu83 := Try.underlying83
  have HO0_2 := Aside0.mk (show Kd.R k83 83 w w0.heap.size (fun k_ => (P0_2_ k_ ∨ w.heap.size ≤ k_)) u9000_ l0_2 from Kd.R_mono ho0_2 (fun k_ hk => (.inl hk)))
  have HR1 := Aside0.mk hr1
  have HC1 := Aside0.mk hc1
  clear hr1 hc1
  have HK := Aside0.mk (Kept.refl w (fun k_ => P0_2_ k_))
  have HW0 := Aside0.mk hB.size
  have HB := Aside0.mk hB
  clear hB
  have H := h
  clear h
  unfold spec_flPass.f at H
  replace H := ifN H; obtain ⟨c4b0, H⟩ := H
  replace H := ifN H; obtain ⟨c5b0, H⟩ := H
  replace H := ifQ H; rcases H with ⟨c6, H⟩ | ⟨c6, H⟩
  · have c6b0 := beq_iff_eq.mpr c6
    have c6b1 := bne_eq_false_iff_eq.mpr c6
    clear c6
    replace H := bindA H; obtain ⟨⟨t230, t231⟩, A7, H⟩ := H
    dsimp only at H
    generalize hy232 : ((l0_2.set (a2 : Int).toNat (⟨t230, t231⟩ : S83)) : List (S83)) = y232 at H
    have Ny232 := Aside0.mk hy232.symm; clear hy232
    obtain rfl := Option.some.inj H
    obtain ⟨Ao9, co9, eo9⟩ := Kd.R_slice HO0_2.1
    subst eo9
    go_enter Try.func97, Try.ntmps97
    try go_wp2_with (first | ((with_reducible refine gate_dst (N := 3) rfl ?_); refine boxE (cs := #[.int .i64 a0_0, .int .i64 a0_1, .slice Ao9 l0_2.length co9]) (t := 30) ?_; intro gb227 hg w10 hbox hb; refine E6 (Kd.R_below (PR HO0_2.1) hb) (Kept.below (S := (fun k_ => P0_2_ k_)) (KL HK.1) hb) (below_step (BL HB.1) hb) (hbox) ((by rw [hg]; exact (by first | exact HK.1.1 | exact (show Kept w _ (fun k_ => P0_2_ k_) from KL HK.1).1) : w.heap.size ≤ gb227)) (gwM hg (below_size (BL HB.1)) : w0.heap.size ≤ gb227) ?_; clear HO0_2 HK HB; intro HO0_2 HK HB BK227 GW227 GE227; clear hb hbox hg; obtain ⟨hcz11_0, hcz11_1, hcz11_2, hfz11_0, hfz11_1, hfz11_2⟩ := cz3 BK227.1; have p228 : 0 ≤ (a2 : Int) := OD; have q228 : a2 < (l0_2.length : Int) := OD; obtain ⟨ad228, e228, hx228_0, hx228_1⟩ := at_T83 (Kd.R_reads' HO0_2.1).2.2 a2 p228 q228; cases e228; replace p228 := eq_true p228; replace q228 := eq_true q228) | ((with_reducible refine gate_dst (N := 6) rfl ?_); refine boxE (cs := #[.int .i64 0, .int .i64 0]) (t := 83) ?_; intro gb229 hg w12 hbox hb; refine E9 (Kd.R_below (Kd.R_elderB (PR HO0_2.1) gb229 (Nat.le_of_eq hg.symm)) hb) (bB BK227.1 hb) (Kept.below (S := (fun k_ => P0_2_ k_)) (KL HK.1) hb) (below_step (BL HB.1) hb) (hbox) ((by rw [hg]; exact (by first | exact HK.1.1 | exact (show Kept w _ (fun k_ => P0_2_ k_) from KL HK.1).1) : w.heap.size ≤ gb229)) (gwM hg (below_size (BL HB.1)) : w0.heap.size ≤ gb229) (nB BK227.1 hg) (nC BK227.1 hg) ?_; clear HO0_2 BK227 HK HB; intro HO0_2 BK227 HK HB BK229 GW229 GE229 NB227_229 NB229_227; clear hb hbox hg; have hnb13 := NB229_227.1; have hnc13 := NB227_229.1; obtain ⟨hcz14_0, hcz14_1, hfz14_0, hfz14_1⟩ := cz2 BK229.1))
    have n0_ : Aside0 (Kd.R k83 83 ((w12.setCell ⟨gb229, 0, none⟩ (.int .i64 ((rd_T83 l0_2 a2).f0))).setCell ⟨gb229, 1, none⟩ (.int .i64 ((rd_T83 l0_2 a2).f1))) w0.heap.size (fun k_ => (P0_2_ k_ ∨ w.heap.size ≤ k_) ∧ k_ ≠ gb229) (.slice (some ad228) l0_2.length co9) l0_2) := ⟨by (with_reducible repeat (first | apply Kd.R_alloc | apply Kd.R_drewN | apply Kd.R_drew)); exact Kd.R_mono (Kd.R_far (p := ⟨gb229, 1, none⟩) (Kd.R_far (p := ⟨gb229, 0, none⟩) (Kd.R_mono HO0_2.1 (fun k_ hk => (⟨hk, hk.2⟩ : _ ∧ k_ ≠ gb229))) (fun _ hk => hk.2) (.int .i64 ((rd_T83 l0_2 a2).f0))) (fun _ hk => hk.2) (.int .i64 ((rd_T83 l0_2 a2).f1))) (fun _ hk => ⟨hk.1.1, hk.1.2⟩)⟩
    have n1_ : Aside0 (((w12.setCell ⟨gb229, 0, none⟩ (.int .i64 ((rd_T83 l0_2 a2).f0))).setCell ⟨gb229, 1, none⟩ (.int .i64 ((rd_T83 l0_2 a2).f1))).heap[gb227]? = some (.cells #[.int .i64 a0_0, .int .i64 a0_1, .slice (some ad228) l0_2.length co9] 30 (0, 0))) := ⟨by (with_reducible repeat (first | refine blk_drewN ?_ _ | refine blk_drew ?_ | refine blk_alloc ?_ _)); refine blk_far ?_ NB227_229.1 _; (with_reducible repeat (first | refine blk_drewN ?_ _ | refine blk_drew ?_ | refine blk_alloc ?_ _)); refine blk_far ?_ NB227_229.1 _; (with_reducible repeat (first | refine blk_drewN ?_ _ | refine blk_drew ?_ | refine blk_alloc ?_ _)); exact BK227.1⟩
    have n2_ : Aside0 (((w12.setCell ⟨gb229, 0, none⟩ (.int .i64 ((rd_T83 l0_2 a2).f0))).setCell ⟨gb229, 1, none⟩ (.int .i64 ((rd_T83 l0_2 a2).f1))).heap[gb229]? = some (.cells #[.int .i64 ((rd_T83 l0_2 a2).f0), .int .i64 ((rd_T83 l0_2 a2).f1)] 83 (0, 0))) := ⟨by (with_reducible repeat (first | refine blk_drewN ?_ _ | refine blk_drew ?_ | refine blk_alloc ?_ _)); refine blk_put (cs := #[.int .i64 ((rd_T83 l0_2 a2).f0), .int .i64 0]) ?_ 1 _ rfl; (with_reducible repeat (first | refine blk_drewN ?_ _ | refine blk_drew ?_ | refine blk_alloc ?_ _)); refine blk_put (cs := #[.int .i64 0, .int .i64 0]) ?_ 0 _ rfl; (with_reducible repeat (first | refine blk_drewN ?_ _ | refine blk_drew ?_ | refine blk_alloc ?_ _)); exact BK229.1⟩
    have n3_ : Aside0 (Kept w ((w12.setCell ⟨gb229, 0, none⟩ (.int .i64 ((rd_T83 l0_2 a2).f0))).setCell ⟨gb229, 1, none⟩ (.int .i64 ((rd_T83 l0_2 a2).f1))) (fun k_ => P0_2_ k_)) := ⟨KL HK.1⟩
    have n4_ : Aside0 (Below w0.heap.size w0 ((w12.setCell ⟨gb229, 0, none⟩ (.int .i64 ((rd_T83 l0_2 a2).f0))).setCell ⟨gb229, 1, none⟩ (.int .i64 ((rd_T83 l0_2 a2).f1)))) := ⟨BL HB.1⟩
    (try clear HO0_2)
    (try clear BK227)
    (try clear BK229)
    (try clear HK)
    (try clear HB)
    generalize ((w12.setCell ⟨gb229, 0, none⟩ (.int .i64 ((rd_T83 l0_2 a2).f0))).setCell ⟨gb229, 1, none⟩ (.int .i64 ((rd_T83 l0_2 a2).f1))) = w15 at n0_ n1_ n2_ n3_ n4_ ⊢
    have HO0_2 := n0_
    have BK227 := n1_
    have BK229 := n2_
    have HK := n3_
    have HB := n4_
    clear n0_ n1_ n2_ n3_ n4_
    refine E5 (Kd.R_drew HO0_2.1) (blk_drew BK227.1) (blk_drew BK229.1) (Kept.drew HK.1) (below_drew1 HB.1) ?_
    clear HO0_2 BK227 BK229 HK HB
    intro HO0_2 BK227 BK229 HK HB
    refine start_ (n := 7) (S := fun w' => w'.cell? ⟨gb227, 0, none⟩ = some (.int .i64 a0_0) ∧ w'.cell? ⟨gb227, 1, none⟩ = some (.int .i64 a0_1) ∧ w'.cell? ⟨gb227, 2, none⟩ = some (.slice (some ad228) l0_2.length co9) ∧ w'.cell? ⟨gb229, 0, none⟩ = some (.int .i64 ((rd_T83 l0_2 a2).f0)) ∧ w'.cell? ⟨gb229, 1, none⟩ = some (.int .i64 ((rd_T83 l0_2 a2).f1))) (ds := [6]) #[Zz,Zz,Zz,Zz,Zz,Zz,Zz] (by kernel_rfl) rfl rfl ⟨(blk_cell BK227.1 0).trans rfl, (blk_cell BK227.1 1).trans rfl, (blk_cell BK227.1 2).trans rfl, (blk_cell BK229.1 0).trans rfl, (blk_cell BK229.1 1).trans rfl⟩ (fun hHeld => ?_)
    generalize w15.drew = w16 at HO0_2 BK227 BK229 HK HB hHeld ⊢
    refine pure_ (i := 0) (N := some 18) (v := ?_) (a' := ?_) #[Yy,Zz,Zz,Zz,Zz,Zz,Zz] rfl rfl (by kernel_rfl) (fun _ _ _ h => h) (Or.inl ⟨by rfl, ?_⟩) ?_ ?_
    rotate_left
    · intro w'
      go_simp
      with_reducible rfl
    rotate_left
    · simp only [Act.put, List.setIfInBounds_toArray, List.set_cons_zero, List.set_cons_succ, i64_w, i32_w]
      rfl
    refine pure_ (i := 2) (N := some 20) (v := ?_) (a' := ?_) #[Yy,Zz,Yy,Zz,Zz,Zz,Zz] rfl rfl (by kernel_rfl) (fun _ _ _ h => h) (Or.inl ⟨by rfl, ?_⟩) ?_ ?_
    rotate_left
    · intro w'
      go_simp
      with_reducible rfl
    rotate_left
    · simp only [Act.put, List.setIfInBounds_toArray, List.set_cons_zero, List.set_cons_succ, i64_w, i32_w]
      rfl
    refine take_ (i := 1) (N := some 19) (v := ?_) (a' := ?_) #[Yy,Yy,Yy,Zz,Zz,Zz,Zz] rfl rfl (by kernel_rfl) (fun _ _ _ h => h) (Or.inl ⟨by rfl, ?_⟩) hHeld ?_ ?_
    rotate_left
    · rintro w' ⟨s0, s1, s2, s3, s4⟩
      go_simp
      with_reducible rfl
    rotate_left
    · simp only [Act.put, List.setIfInBounds_toArray, List.set_cons_zero, List.set_cons_succ, i64_w, i32_w]
      rfl
    refine take_ (i := 3) (N := some 21) (v := ?_) (a' := ?_) #[Yy,Yy,Yy,Yy,Zz,Zz,Zz] rfl rfl (by kernel_rfl) (fun _ _ _ h => h) (Or.inl ⟨by rfl, ?_⟩) hHeld ?_ ?_
    rotate_left
    · rintro w' ⟨s0, s1, s2, s3, s4⟩
      go_simp
      with_reducible rfl
    rotate_left
    · simp only [Act.put, List.setIfInBounds_toArray, List.set_cons_zero, List.set_cons_succ, i64_w, i32_w]
      rfl
    refine one_ (i := 4) (N := some 22) #[Yy,Yy,Yy,Yy,Yy,Zz,Zz] rfl rfl (by kernel_rfl) (by decide) (fun K hK => ?_)
    refine goes_ Try.func101 (by kernel_rfl) rfl #[.agg #[.int .i64 ((rd_T83 l0_2 a2).f0), .int .i64 ((rd_T83 l0_2 a2).f1)]] (by rfl) rfl rfl (by (try simp only [List.map_toArray, List.map_cons, List.map_nil]); first | done | rfl | (simp only [List.length_drop, List.length_take]; rfl)) ?_
    with_reducible refine (spec_paTurn.calls ((rd_T83 l0_2 a2).f0) ((rd_T83 l0_2 a2).f1) t230 t231 _ A7.1).mono ?_
    rintro e w17 ⟨rfl, hb⟩
    refine ⟨_, rfl, ?_⟩
    refine E5 (Kd.R_below (PR HO0_2.1) hb) (bB BK227.1 hb) (bB BK229.1 hb) (Kept.below (S := (fun k_ => P0_2_ k_)) (KL HK.1) hb) (below_step (BL HB.1) hb) ?_
    clear HO0_2 BK227 BK229 HK HB
    intro HO0_2 BK227 BK229 HK HB
    (try clear hb)
    (try clear hb2)
    (try clear hk)
    (try clear hi)
    have p8 : 0 ≤ (a2 : Int) := OD
    have q8 : (a2 : Int) < ((l0_2.length : Int) : Int) := OD
    obtain ⟨go8, co8, eo8, gb8, gl8, cl8, HG8⟩ := Kd.R_form HO0_2.1 (by omega)
    (first | cases eo8 | (injection eo8 with ea_ en_ ec_; (first | subst ea_ | (injection ea_ with ea_; subst ea_)); subst ec_; clear en_))
    have GB8 := Aside0.mk gb8
    have GG8 := Aside0.mk HG8
    clear gb8 gl8 HG8
    have HMgo8 := Aside0.mk (show (P0_2_ go8 ∨ w.heap.size ≤ go8) from (HO0_2.1.1 _ rfl).1)
    (first | simp only [add_plain] at hx228_0 | skip)
    (first | simp only [add_plain] at hx228_1 | skip)
    obtain ⟨ce8, hcl8, hM8, hcc8, hfr8⟩ := Kd.R_elem HO0_2.1 z83 (a2 : Int) p8 q8
    obtain rfl := k83_openM hM8
    have hx8_0 : World.cell? _ ⟨go8, (a2 : Int).toNat * 2, none⟩ = some (.int .i64 ((rd_T83 l0_2 a2).f0)) := hcc8 0 _ rfl
    have hx8_1 : World.cell? _ ⟨go8, (a2 : Int).toNat * 2 + 1, none⟩ = some (.int .i64 ((rd_T83 l0_2 a2).f1)) := hcc8 1 _ rfl
    have hf8_0 : World.frozen? _ ⟨go8, (a2 : Int).toNat * 2, none⟩ = false := hfr8 0
    have hf8_1 : World.frozen? _ ⟨go8, (a2 : Int).toNat * 2 + 1, none⟩ = false := hfr8 1
    (try clear hM8); clear hcl8 hcc8 hfr8
    replace p8 := eq_true p8
    replace q8 := eq_true q8
    obtain ⟨ce18, hcl18, hM18, hcc18, hfr18⟩ := Kd.R_elem HO0_2.1 z83 (a2 : Int) (OD) (by have h_ : (a2 : Int) < ((l0_2.length : Int) : Int) := OD; first | exact h_ | (have e_ := (Kd.R_reads' HO0_2.1).1; omega) | simpa using h_)
    obtain rfl := k83_openM hM18
    have HP18 := (Kd.R_seg HO0_2.1 (a2 : Int) (OD) (by have h_ : (a2 : Int) < ((l0_2.length : Int) : Int) := OD; first | exact h_ | (have e_ := (Kd.R_reads' HO0_2.1).1; omega) | simpa using h_) (seg := [.int .i64 t230, .int .i64 t231]) (j := 0) hcl18 hcc18 (show 2 ≤ 2 from by decide) (x' := (⟨t230, t231⟩ : S83)) (k83_mkM _ _ _ (⟨t230, t231⟩ : S83) ) (fun _ hk => hk)).1
    rw [← Ny232.1] at HP18
    have HQ18 := Aside0.mk HP18
    (try clear hM18); clear hcl18 hcc18 hfr18 HP18
    refine hK.out _ _ ⟨(blk_cell BK227.1 0).trans rfl, (blk_cell BK227.1 1).trans rfl, (blk_cell BK227.1 2).trans rfl, (blk_cell BK229.1 0).trans rfl, (blk_cell BK229.1 1).trans rfl⟩ (fun hHeld => ?_)
    clear hK K
    refine norm_ (a' := ?_) ?_ ?_
    rotate_left
    · show Act.put _ (some 22) _ = _
      simp only [Act.put, List.setIfInBounds_toArray, List.set_cons_zero, List.set_cons_succ, i64_w, i32_w]
      rfl
    refine pure_ (i := 5) (N := some 23) (v := ?_) (a' := ?_) #[Yy,Yy,Yy,Yy,Yy,Yy,Zz] rfl rfl (by kernel_rfl) (fun _ _ _ h => h) (Or.inl ⟨by rfl, ?_⟩) ?_ ?_
    rotate_left
    · intro w'
      go_simp
      with_reducible rfl
    rotate_left
    · simp only [Act.put, List.setIfInBounds_toArray, List.set_cons_zero, List.set_cons_succ, i64_w, i32_w]
      rfl
    refine last_ (i := 6) (N := none) #[Yy,Yy,Yy,Yy,Yy,Yy,Yy] rfl rfl (by kernel_rfl) (by decide) (fun K hK => ?_)
    refine skip_ (w1 := ?_) (by rfl) rfl ?_ ?_
    rotate_left
    · go_simp
      rfl
    refine hK.out _ _ ?_
    clear hK K
    refine done_ (by kernel_rfl) ?_
    try go_wp2
    first | go_end0 | ((try simp only [Exit.inBlock, Exit.then]); refine bodyPost_ret (results_none rfl _ _ _) rfl ?_)
    exact ⟨RF, by (with_reducible repeat (first | apply Kd.R_alloc | apply Kd.R_drewN | apply Kd.R_drew)); exact Kd.R_mono HQ18.1 (fun _ hk => hk.1), BL HB.1, by repeat (first | (with_reducible first | exact HK.1 | apply Kept.alloc | apply Kept.drewN | apply Kept.drew | refine Kept.setCell ?_ HMgo8.1 _ | refine Kept.setCell ?_ HMgo8.1 _ | refine Kept.setCell ?_ (.inr GW227.1) _ | refine Kept.setCell ?_ (.inr GW229.1) _) | exact HK.1)⟩
  have c6b0 := beq_eq_false_iff_ne.mpr c6
  have c6b1 := bne_iff_ne.mpr c6
  replace H := ifQ H; rcases H with ⟨c19, H⟩ | ⟨c19, H⟩
  · have c19b0 := beq_iff_eq.mpr c19
    have c19b1 := bne_eq_false_iff_eq.mpr c19
    clear c19
    have H' := Aside0.mk H
    clear H
    obtain ⟨Ao20, co20, eo20⟩ := Kd.R_slice HO0_2.1
    subst eo20
    go_enter Try.func97, Try.ntmps97
    go_wp2_with (first | ((with_reducible refine gate_dst (N := 3) rfl ?_); refine boxE (cs := #[.int .i64 a0_0, .int .i64 a0_1, .slice Ao20 l0_2.length co20]) (t := 30) ?_; intro gb227 hg w21 hbox hb; refine E6 (Kd.R_below (PR HO0_2.1) hb) (Kept.below (S := (fun k_ => P0_2_ k_)) (KL HK.1) hb) (below_step (BL HB.1) hb) (hbox) ((by rw [hg]; exact (by first | exact HK.1.1 | exact (show Kept w _ (fun k_ => P0_2_ k_) from KL HK.1).1) : w.heap.size ≤ gb227)) (gwM hg (below_size (BL HB.1)) : w0.heap.size ≤ gb227) ?_; clear HO0_2 HK HB; intro HO0_2 HK HB BK227 GW227 GE227; clear hb hbox hg; obtain ⟨hcz22_0, hcz22_1, hcz22_2, hfz22_0, hfz22_1, hfz22_2⟩ := cz3 BK227.1; have p228 : 0 ≤ (a2 : Int) := OD; have q228 : a2 < (l0_2.length : Int) := OD; obtain ⟨ad228, e228, hx228_0, hx228_1⟩ := at_T83 (Kd.R_reads' HO0_2.1).2.2 a2 p228 q228; cases e228; replace p228 := eq_true p228; replace q228 := eq_true q228) | ((with_reducible refine gate_dst (N := 6) rfl ?_); refine boxE (cs := #[.int .i64 0, .int .i64 0]) (t := 83) ?_; intro gb229 hg w23 hbox hb; refine E9 (Kd.R_below (Kd.R_elderB (PR HO0_2.1) gb229 (Nat.le_of_eq hg.symm)) hb) (bB BK227.1 hb) (Kept.below (S := (fun k_ => P0_2_ k_)) (KL HK.1) hb) (below_step (BL HB.1) hb) (hbox) ((by rw [hg]; exact (by first | exact HK.1.1 | exact (show Kept w _ (fun k_ => P0_2_ k_) from KL HK.1).1) : w.heap.size ≤ gb229)) (gwM hg (below_size (BL HB.1)) : w0.heap.size ≤ gb229) (nB BK227.1 hg) (nC BK227.1 hg) ?_; clear HO0_2 BK227 HK HB; intro HO0_2 BK227 HK HB BK229 GW229 GE229 NB227_229 NB229_227; clear hb hbox hg; have hnb24 := NB229_227.1; have hnc24 := NB227_229.1; obtain ⟨hcz25_0, hcz25_1, hfz25_0, hfz25_1⟩ := cz2 BK229.1; obtain ⟨hcz26_0, hcz26_1, hcz26_2, hfz26_0, hfz26_1, hfz26_2⟩ := cz3 BK227.1))
    go_loopg [29] k (fun kq v29 w' => ∃ (x29_1 : Int) (x228002_1 : List (S83)) (x230000_1 : Int) (x230001_1 : Int), v29 = .int .i64 x29_1 ∧ Aside0 (spec_flPass.l0 kq l1 a2 (l0_2.length : Int) x29_1 a0_0 a0_1 x228002_1 = some r) ∧ Aside0 (kq ≤ k) ∧ Aside0 (Kd.R k83 83 w' w0.heap.size (fun k_ => (P0_2_ k_ ∨ w.heap.size ≤ k_) ∧ k_ ≠ gb229) (.slice (some ad228) l0_2.length co20) x228002_1) ∧ Aside0 (w'.heap[gb227]? = some (.cells #[.int .i64 a0_0, .int .i64 a0_1, (.slice (some ad228) l0_2.length co20)] 30 (0, 0))) ∧ Aside0 (w'.heap[gb229]? = some (.cells #[.int .i64 x230000_1, .int .i64 x230001_1] 83 (0, 0))) ∧ Aside0 (Kept w w' (fun k_ => P0_2_ k_)) ∧ Aside0 (Below w0.heap.size w0 w'))
    case atStart => exact ⟨(0), (l0_2), ((rd_T83 l0_2 a2).f0), ((rd_T83 l0_2 a2).f1), RG, H', ⟨Nat.le_refl _⟩, ⟨by (with_reducible repeat (first | apply Kd.R_alloc | apply Kd.R_drewN | apply Kd.R_drew)); exact Kd.R_mono (Kd.R_far (p := ⟨gb229, 1, none⟩) (Kd.R_far (p := ⟨gb229, 0, none⟩) (Kd.R_mono HO0_2.1 (fun k_ hk => (⟨hk, hk.2⟩ : _ ∧ k_ ≠ gb229))) (fun _ hk => hk.2) (.int .i64 ((rd_T83 l0_2 a2).f0))) (fun _ hk => hk.2) (.int .i64 ((rd_T83 l0_2 a2).f1))) (fun _ hk => ⟨hk.1.1, hk.1.2⟩)⟩, ⟨by (with_reducible repeat (first | refine blk_drewN ?_ _ | refine blk_drew ?_ | refine blk_alloc ?_ _)); refine blk_far ?_ NB227_229.1 _; (with_reducible repeat (first | refine blk_drewN ?_ _ | refine blk_drew ?_ | refine blk_alloc ?_ _)); refine blk_far ?_ NB227_229.1 _; (with_reducible repeat (first | refine blk_drewN ?_ _ | refine blk_drew ?_ | refine blk_alloc ?_ _)); exact BK227.1⟩, ⟨by (with_reducible repeat (first | refine blk_drewN ?_ _ | refine blk_drew ?_ | refine blk_alloc ?_ _)); refine blk_put (cs := #[.int .i64 ((rd_T83 l0_2 a2).f0), .int .i64 0]) ?_ 1 _ rfl; (with_reducible repeat (first | refine blk_drewN ?_ _ | refine blk_drew ?_ | refine blk_alloc ?_ _)); refine blk_put (cs := #[.int .i64 0, .int .i64 0]) ?_ 0 _ rfl; (with_reducible repeat (first | refine blk_drewN ?_ _ | refine blk_drew ?_ | refine blk_alloc ?_ _)); exact BK229.1⟩, ⟨KL HK.1⟩, ⟨BL HB.1⟩⟩
    clear H'
    try clear c1; try clear c4b0; try clear c5b0; try clear c6; try clear c6b0; try clear c6b1; try clear c19b0; try clear c19b1; try clear hcz22_0; try clear hcz22_1; try clear hcz22_2; try clear hcz25_0; try clear hcz25_1; try clear hcz26_0; try clear hcz26_1; try clear hcz26_2; try clear hfz22_0; try clear hfz22_1; try clear hfz22_2; try clear hfz25_0; try clear hfz25_1; try clear hfz26_0; try clear hfz26_1; try clear hfz26_2; try clear hx228_0; try clear hx228_1; try clear p228; try clear q228
    obtain ⟨x29_1, x228002_1, x230000_1, x230001_1, rfl, HA, HK1, HO_228002, BK227, BK229, HK, HB⟩ := hrel
    have hl228002_1 := (Kd.R_reads' HO_228002.1).1
    rw [hl228002_1] at HO_228002
    (try simp only [hl228002_1])
    (try simp only [hl228002_1] at BK227)
    (try simp only [hl228002_1] at BK229)
    cases gk with
    | zero => exact absurd HA.1 (by simp [spec_flPass.l0])
    | succ k1 => ?_
    have H := HA.1
    clear HA
    simp only [spec_flPass.l0] at H
    replace H := ifB H; rcases H with ⟨c27b0, H⟩ | ⟨c27b0, H⟩
    · replace H := ifN H; obtain ⟨c28b0, H⟩ := H
      replace H := ifN H; obtain ⟨c29b0, H⟩ := H
      replace H := ifQ H; rcases H with ⟨c30, H⟩ | ⟨c30, H⟩
      · have c30b0 := beq_iff_eq.mpr c30
        have c30b1 := bne_eq_false_iff_eq.mpr c30
        clear c30
        replace H := ifN H; obtain ⟨c31b0, H⟩ := H
        replace H := ifN H; obtain ⟨c32b0, H⟩ := H
        replace H := ifN H; obtain ⟨c33b0, H⟩ := H
        replace H := ifQ H; rcases H with ⟨c34, H⟩ | ⟨c34, H⟩
        · have c34b0 := beq_iff_eq.mpr c34
          have c34b1 := bne_eq_false_iff_eq.mpr c34
          clear c34
          replace H := bindA H; obtain ⟨⟨t237, t238⟩, A35, H⟩ := H
          dsimp only at H
          generalize hy239 : ((x228002_1.set (x29_1 : Int).toNat (⟨t237, t238⟩ : S83)) : List (S83)) = y239 at H
          have Ny239 := Aside0.mk hy239.symm; clear hy239
          have H' := Aside0.mk H
          clear H
          have p233 : 0 ≤ (x29_1 : Int) := OD
          have q233 : x29_1 < (x228002_1.length : Int) := OD
          obtain ⟨ad233, e233, hx233_0, hx233_1⟩ := at_T83 (Kd.R_reads' HO_228002.1).2.2 x29_1 p233 q233
          obtain rfl : ad228 = ad233 := (by injection e233)
          replace p233 := eq_true p233
          replace q233 := eq_true q233
          try go_wp2_with (first | ((with_reducible refine gate_dst (N := 8) rfl ?_); refine boxE (cs := #[.int .i64 0, .int .i64 0]) (t := 83) ?_; intro gb234 hg w37 hbox hb; refine E12 (Kd.R_below (Kd.R_elderB (PR HO_228002.1) gb234 (Nat.le_of_eq hg.symm)) hb) (bB BK227.1 hb) (bB BK229.1 hb) (Kept.below (S := (fun k_ => P0_2_ k_)) (KL HK.1) hb) (below_step (BL HB.1) hb) (hbox) ((by rw [hg]; exact (by first | exact HK.1.1 | exact (show Kept w _ (fun k_ => P0_2_ k_) from KL HK.1).1) : w.heap.size ≤ gb234)) (gwM hg (below_size (BL HB.1)) : w0.heap.size ≤ gb234) (nB BK227.1 hg) (nC BK227.1 hg) (nB BK229.1 hg) (nC BK229.1 hg) ?_; clear HO_228002 BK227 BK229 HK HB; intro HO_228002 BK227 BK229 HK HB BK234 GW234 GE234 NB227_234 NB234_227 NB229_234 NB234_229; clear hb hbox hg; have hnb38 := NB234_227.1; have hnc38 := NB227_234.1; have hnb39 := NB234_229.1; have hnc39 := NB229_234.1; obtain ⟨hcz40_0, hcz40_1, hfz40_0, hfz40_1⟩ := cz2 BK234.1))
          have n0_ : Aside0 (Kd.R k83 83 ((w37.setCell ⟨gb234, 0, none⟩ (.int .i64 ((rd_T83 x228002_1 x29_1).f0))).setCell ⟨gb234, 1, none⟩ (.int .i64 ((rd_T83 x228002_1 x29_1).f1))) w0.heap.size (fun k_ => (P0_2_ k_ ∨ w.heap.size ≤ k_) ∧ k_ ≠ gb229 ∧ k_ ≠ gb234) (.slice (some ad228) x228002_1.length co20) x228002_1) := ⟨by (with_reducible repeat (first | apply Kd.R_alloc | apply Kd.R_drewN | apply Kd.R_drew)); exact Kd.R_mono (Kd.R_far (p := ⟨gb234, 1, none⟩) (Kd.R_far (p := ⟨gb234, 0, none⟩) (Kd.R_mono HO_228002.1 (fun k_ hk => (⟨hk, hk.2⟩ : _ ∧ k_ ≠ gb234))) (fun _ hk => hk.2) (.int .i64 ((rd_T83 x228002_1 x29_1).f0))) (fun _ hk => hk.2) (.int .i64 ((rd_T83 x228002_1 x29_1).f1))) (fun _ hk => ⟨hk.1.1.1, ⟨hk.1.1.2, hk.1.2⟩⟩)⟩
          have n1_ : Aside0 (((w37.setCell ⟨gb234, 0, none⟩ (.int .i64 ((rd_T83 x228002_1 x29_1).f0))).setCell ⟨gb234, 1, none⟩ (.int .i64 ((rd_T83 x228002_1 x29_1).f1))).heap[gb227]? = some (.cells #[.int .i64 a0_0, .int .i64 a0_1, .slice (some ad228) x228002_1.length co20] 30 (0, 0))) := ⟨by (with_reducible repeat (first | refine blk_drewN ?_ _ | refine blk_drew ?_ | refine blk_alloc ?_ _)); refine blk_far ?_ NB227_234.1 _; (with_reducible repeat (first | refine blk_drewN ?_ _ | refine blk_drew ?_ | refine blk_alloc ?_ _)); refine blk_far ?_ NB227_234.1 _; (with_reducible repeat (first | refine blk_drewN ?_ _ | refine blk_drew ?_ | refine blk_alloc ?_ _)); exact BK227.1⟩
          have n2_ : Aside0 (((w37.setCell ⟨gb234, 0, none⟩ (.int .i64 ((rd_T83 x228002_1 x29_1).f0))).setCell ⟨gb234, 1, none⟩ (.int .i64 ((rd_T83 x228002_1 x29_1).f1))).heap[gb229]? = some (.cells #[.int .i64 x230000_1, .int .i64 x230001_1] 83 (0, 0))) := ⟨by (with_reducible repeat (first | refine blk_drewN ?_ _ | refine blk_drew ?_ | refine blk_alloc ?_ _)); refine blk_far ?_ NB229_234.1 _; (with_reducible repeat (first | refine blk_drewN ?_ _ | refine blk_drew ?_ | refine blk_alloc ?_ _)); refine blk_far ?_ NB229_234.1 _; (with_reducible repeat (first | refine blk_drewN ?_ _ | refine blk_drew ?_ | refine blk_alloc ?_ _)); exact BK229.1⟩
          have n3_ : Aside0 (((w37.setCell ⟨gb234, 0, none⟩ (.int .i64 ((rd_T83 x228002_1 x29_1).f0))).setCell ⟨gb234, 1, none⟩ (.int .i64 ((rd_T83 x228002_1 x29_1).f1))).heap[gb234]? = some (.cells #[.int .i64 ((rd_T83 x228002_1 x29_1).f0), .int .i64 ((rd_T83 x228002_1 x29_1).f1)] 83 (0, 0))) := ⟨by (with_reducible repeat (first | refine blk_drewN ?_ _ | refine blk_drew ?_ | refine blk_alloc ?_ _)); refine blk_put (cs := #[.int .i64 ((rd_T83 x228002_1 x29_1).f0), .int .i64 0]) ?_ 1 _ rfl; (with_reducible repeat (first | refine blk_drewN ?_ _ | refine blk_drew ?_ | refine blk_alloc ?_ _)); refine blk_put (cs := #[.int .i64 0, .int .i64 0]) ?_ 0 _ rfl; (with_reducible repeat (first | refine blk_drewN ?_ _ | refine blk_drew ?_ | refine blk_alloc ?_ _)); exact BK234.1⟩
          have n4_ : Aside0 (Kept w ((w37.setCell ⟨gb234, 0, none⟩ (.int .i64 ((rd_T83 x228002_1 x29_1).f0))).setCell ⟨gb234, 1, none⟩ (.int .i64 ((rd_T83 x228002_1 x29_1).f1))) (fun k_ => P0_2_ k_)) := ⟨KL HK.1⟩
          have n5_ : Aside0 (Below w0.heap.size w0 ((w37.setCell ⟨gb234, 0, none⟩ (.int .i64 ((rd_T83 x228002_1 x29_1).f0))).setCell ⟨gb234, 1, none⟩ (.int .i64 ((rd_T83 x228002_1 x29_1).f1)))) := ⟨BL HB.1⟩
          (try clear HO_228002)
          (try clear BK227)
          (try clear BK229)
          (try clear BK234)
          (try clear HK)
          (try clear HB)
          generalize ((w37.setCell ⟨gb234, 0, none⟩ (.int .i64 ((rd_T83 x228002_1 x29_1).f0))).setCell ⟨gb234, 1, none⟩ (.int .i64 ((rd_T83 x228002_1 x29_1).f1))) = w41 at n0_ n1_ n2_ n3_ n4_ n5_ ⊢
          have HO_228002 := n0_
          have BK227 := n1_
          have BK229 := n2_
          have BK234 := n3_
          have HK := n4_
          have HB := n5_
          clear n0_ n1_ n2_ n3_ n4_ n5_
          refine E6 (Kd.R_drew HO_228002.1) (blk_drew BK227.1) (blk_drew BK229.1) (blk_drew BK234.1) (Kept.drew HK.1) (below_drew1 HB.1) ?_
          clear HO_228002 BK227 BK229 BK234 HK HB
          intro HO_228002 BK227 BK229 BK234 HK HB
          have p235 : 0 ≤ (x29_1 : Int) := OD
          have q235 : x29_1 < (l1.length : Int) := OD
          obtain ⟨ad235, e235, hx235_0⟩ := Kd.at_int (Kd.C_kept_now HR1.1 HK.1) x29_1 p235 q235
          have hw235_0 := hx235_0
          cases e235
          replace p235 := eq_true p235
          replace q235 := eq_true q235
          have p236 : 0 ≤ (a2 : Int) := OD
          have q236 : a2 < (l1.length : Int) := OD
          obtain ⟨ad236, e236, hx236_0⟩ := Kd.at_int (Kd.C_kept_now HR1.1 HK.1) a2 p236 q236
          have hw236_0 := hx236_0
          obtain rfl : ad235 = ad236 := (by injection e236)
          replace p236 := eq_true p236
          replace q236 := eq_true q236
          refine start_ (n := 14) (S := fun w' => w'.cell? ⟨gb234, 0, none⟩ = some (.int .i64 ((rd_T83 x228002_1 x29_1).f0)) ∧ w'.cell? ⟨gb234, 1, none⟩ = some (.int .i64 ((rd_T83 x228002_1 x29_1).f1)) ∧ w'.cell? (ad235.add (x29_1).toNat) = some (.int .i64 (rd l1 x29_1)) ∧ w'.cell? (ad235.add (a2).toNat) = some (.int .i64 (rd l1 a2))) (ds := []) #[Zz,Zz,Zz,Zz,Zz,Zz,Zz,Zz,Zz,Zz,Zz,Zz,Zz,Zz] (by kernel_rfl) rfl rfl ⟨(blk_cell BK234.1 0).trans rfl, (blk_cell BK234.1 1).trans rfl, (Kd.foot_int (HR1.1 _ (by repeat (first | exact HK.1 | apply Kept.alloc | apply Kept.drewN | apply Kept.drew))) x29_1 (of_eq_true p235) (of_eq_true q235)), (Kd.foot_int (HR1.1 _ (by repeat (first | exact HK.1 | apply Kept.alloc | apply Kept.drewN | apply Kept.drew))) a2 (of_eq_true p236) (of_eq_true q236))⟩ (fun hHeld => ?_); refine with_tabW spec_flPass.tab9 spec_flPass.bits9 (fun HT_ HW_ => ?_)
          generalize w41.drew = w42 at HO_228002 BK227 BK229 BK234 HK HB hx235_0 hx236_0 hHeld ⊢
          refine pureE (i := 0) (N := some 34) #[Yy,Zz,Zz,Zz,Zz,Zz,Zz,Zz,Zz,Zz,Zz,Zz,Zz,Zz] HT_.1 ?_
          refine take_ (i := 1) (N := some 35) (v := ?_) (a' := ?_) #[Yy,Yy,Zz,Zz,Zz,Zz,Zz,Zz,Zz,Zz,Zz,Zz,Zz,Zz] rfl rfl (take_ofW HT_.1 HW_.1 (by kernel_rfl)) (fun _ _ _ h => h) (Or.inl ⟨by rfl, ?_⟩) hHeld ?_ ?_
          rotate_left
          · rintro w' ⟨s0, s1, s2, s3⟩
            go_simp
            with_reducible rfl
          rotate_left
          · simp only [Act.put, List.setIfInBounds_toArray, List.set_cons_zero, List.set_cons_succ, i64_w, i32_w]
            rfl
          refine pureE (i := 2) (N := some 36) #[Yy,Yy,Yy,Zz,Zz,Zz,Zz,Zz,Zz,Zz,Zz,Zz,Zz,Zz] HT_.1 ?_
          refine pureE (i := 3) (N := some 37) #[Yy,Yy,Yy,Yy,Zz,Zz,Zz,Zz,Zz,Zz,Zz,Zz,Zz,Zz] HT_.1 ?_
          refine pureE (i := 4) (N := some 38) #[Yy,Yy,Yy,Yy,Yy,Zz,Zz,Zz,Zz,Zz,Zz,Zz,Zz,Zz] HT_.1 ?_
          refine pureE (i := 5) (N := some 39) #[Yy,Yy,Yy,Yy,Yy,Yy,Zz,Zz,Zz,Zz,Zz,Zz,Zz,Zz] HT_.1 ?_
          refine pureE (i := 6) (N := some 40) #[Yy,Yy,Yy,Yy,Yy,Yy,Yy,Zz,Zz,Zz,Zz,Zz,Zz,Zz] HT_.1 ?_
          refine pureE (i := 8) (N := some 42) #[Yy,Yy,Yy,Yy,Yy,Yy,Yy,Zz,Yy,Zz,Zz,Zz,Zz,Zz] HT_.1 ?_
          refine pureE (i := 9) (N := some 43) #[Yy,Yy,Yy,Yy,Yy,Yy,Yy,Zz,Yy,Yy,Zz,Zz,Zz,Zz] HT_.1 ?_
          refine pureE (i := 10) (N := some 44) #[Yy,Yy,Yy,Yy,Yy,Yy,Yy,Zz,Yy,Yy,Yy,Zz,Zz,Zz] HT_.1 ?_
          refine take_ (i := 7) (N := some 41) (v := ?_) (a' := ?_) #[Yy,Yy,Yy,Yy,Yy,Yy,Yy,Yy,Yy,Yy,Yy,Zz,Zz,Zz] rfl rfl (take_ofW HT_.1 HW_.1 (by kernel_rfl)) (fun _ _ _ h => h) (Or.inl ⟨by rfl, ?_⟩) hHeld ?_ ?_
          rotate_left
          · rintro w' ⟨s0, s1, s2, s3⟩
            go_simp
            with_reducible rfl
          rotate_left
          · simp only [Act.put, List.setIfInBounds_toArray, List.set_cons_zero, List.set_cons_succ, i64_w, i32_w]
            rfl
          refine take_ (i := 11) (N := some 45) (v := ?_) (a' := ?_) #[Yy,Yy,Yy,Yy,Yy,Yy,Yy,Yy,Yy,Yy,Yy,Yy,Zz,Zz] rfl rfl (take_ofW HT_.1 HW_.1 (by kernel_rfl)) (fun _ _ _ h => h) (Or.inl ⟨by rfl, ?_⟩) hHeld ?_ ?_
          rotate_left
          · rintro w' ⟨s0, s1, s2, s3⟩
            go_simp
            with_reducible rfl
          rotate_left
          · simp only [Act.put, List.setIfInBounds_toArray, List.set_cons_zero, List.set_cons_succ, i64_w, i32_w]
            rfl
          refine pureE (i := 12) (N := some 46) #[Yy,Yy,Yy,Yy,Yy,Yy,Yy,Yy,Yy,Yy,Yy,Yy,Yy,Zz] HT_.1 ?_
          refine pureE (i := 13) (N := some 47) #[Yy,Yy,Yy,Yy,Yy,Yy,Yy,Yy,Yy,Yy,Yy,Yy,Yy,Yy] HT_.1 ?_
          refine done_ (done_of HT_.1 (by kernel_rfl)) ?_
          try go_wp2
          refine E6 (Kd.R_drew HO_228002.1) (blk_drew BK227.1) (blk_drew BK229.1) (blk_drew BK234.1) (Kept.drew HK.1) (below_drew1 HB.1) ?_
          clear HO_228002 BK227 BK229 BK234 HK HB
          intro HO_228002 BK227 BK229 BK234 HK HB
          refine start_ (n := 7) (S := fun w' => w'.cell? ⟨gb227, 0, none⟩ = some (.int .i64 a0_0) ∧ w'.cell? ⟨gb227, 1, none⟩ = some (.int .i64 a0_1) ∧ w'.cell? ⟨gb227, 2, none⟩ = some (.slice (some ad228) x228002_1.length co20) ∧ w'.cell? ⟨gb234, 0, none⟩ = some (.int .i64 ((rd_T83 x228002_1 x29_1).f0)) ∧ w'.cell? ⟨gb234, 1, none⟩ = some (.int .i64 ((rd_T83 x228002_1 x29_1).f1))) (ds := [6]) #[Zz,Zz,Zz,Zz,Zz,Zz,Zz] (by kernel_rfl) rfl rfl ⟨(blk_cell BK227.1 0).trans rfl, (blk_cell BK227.1 1).trans rfl, (blk_cell BK227.1 2).trans rfl, (blk_cell BK234.1 0).trans rfl, (blk_cell BK234.1 1).trans rfl⟩ (fun hHeld => ?_)
          generalize w42.drew = w43 at HO_228002 BK227 BK229 BK234 HK HB hHeld ⊢
          refine pure_ (i := 0) (N := some 48) (v := ?_) (a' := ?_) #[Yy,Zz,Zz,Zz,Zz,Zz,Zz] rfl rfl (by kernel_rfl) (fun _ _ _ h => h) (Or.inl ⟨by rfl, ?_⟩) ?_ ?_
          rotate_left
          · intro w'
            go_simp
            with_reducible rfl
          rotate_left
          · simp only [Act.put, List.setIfInBounds_toArray, List.set_cons_zero, List.set_cons_succ, i64_w, i32_w]
            rfl
          refine pure_ (i := 2) (N := some 50) (v := ?_) (a' := ?_) #[Yy,Zz,Yy,Zz,Zz,Zz,Zz] rfl rfl (by kernel_rfl) (fun _ _ _ h => h) (Or.inl ⟨by rfl, ?_⟩) ?_ ?_
          rotate_left
          · intro w'
            go_simp
            with_reducible rfl
          rotate_left
          · simp only [Act.put, List.setIfInBounds_toArray, List.set_cons_zero, List.set_cons_succ, i64_w, i32_w]
            rfl
          refine take_ (i := 1) (N := some 49) (v := ?_) (a' := ?_) #[Yy,Yy,Yy,Zz,Zz,Zz,Zz] rfl rfl (by kernel_rfl) (fun _ _ _ h => h) (Or.inl ⟨by rfl, ?_⟩) hHeld ?_ ?_
          rotate_left
          · rintro w' ⟨s0, s1, s2, s3, s4⟩
            go_simp
            with_reducible rfl
          rotate_left
          · simp only [Act.put, List.setIfInBounds_toArray, List.set_cons_zero, List.set_cons_succ, i64_w, i32_w]
            rfl
          refine take_ (i := 3) (N := some 51) (v := ?_) (a' := ?_) #[Yy,Yy,Yy,Yy,Zz,Zz,Zz] rfl rfl (by kernel_rfl) (fun _ _ _ h => h) (Or.inl ⟨by rfl, ?_⟩) hHeld ?_ ?_
          rotate_left
          · rintro w' ⟨s0, s1, s2, s3, s4⟩
            go_simp
            with_reducible rfl
          rotate_left
          · simp only [Act.put, List.setIfInBounds_toArray, List.set_cons_zero, List.set_cons_succ, i64_w, i32_w]
            rfl
          refine one_ (i := 4) (N := some 52) #[Yy,Yy,Yy,Yy,Yy,Zz,Zz] rfl rfl (by kernel_rfl) (by decide) (fun K hK => ?_)
          refine goes_ Try.func101 (by kernel_rfl) rfl #[.agg #[.int .i64 ((rd_T83 x228002_1 x29_1).f0), .int .i64 ((rd_T83 x228002_1 x29_1).f1)]] (by rfl) rfl rfl (by (try simp only [List.map_toArray, List.map_cons, List.map_nil]); first | done | rfl | (simp only [List.length_drop, List.length_take]; rfl)) ?_
          with_reducible refine (spec_paTurn.calls ((rd_T83 x228002_1 x29_1).f0) ((rd_T83 x228002_1 x29_1).f1) t237 t238 _ A35.1).mono ?_
          rintro e w44 ⟨rfl, hb⟩
          refine ⟨_, rfl, ?_⟩
          refine E6 (Kd.R_below (PR HO_228002.1) hb) (bB BK227.1 hb) (bB BK229.1 hb) (bB BK234.1 hb) (Kept.below (S := (fun k_ => P0_2_ k_)) (KL HK.1) hb) (below_step (BL HB.1) hb) ?_
          clear HO_228002 BK227 BK229 BK234 HK HB
          intro HO_228002 BK227 BK229 BK234 HK HB
          (try clear hb)
          (try clear hb2)
          (try clear hk)
          (try clear hi)
          have p36 : 0 ≤ (x29_1 : Int) := OD
          have q36 : (x29_1 : Int) < ((x228002_1.length : Int) : Int) := OD
          obtain ⟨go36, co36, eo36, gb36, gl36, cl36, HG36⟩ := Kd.R_form HO_228002.1 (by omega)
          (first | cases eo36 | (injection eo36 with ea_ en_ ec_; (first | subst ea_ | (injection ea_ with ea_; subst ea_)); subst ec_; clear en_))
          have GB36 := Aside0.mk gb36
          have GG36 := Aside0.mk HG36
          clear gb36 gl36 HG36
          have HMgo36 := Aside0.mk (show (P0_2_ go36 ∨ w.heap.size ≤ go36) from (HO_228002.1.1 _ rfl).1)
          (first | simp only [add_plain] at hx228_0 | skip)
          (first | simp only [add_plain] at hx228_1 | skip)
          (first | simp only [add_plain] at hx233_0 | skip)
          (first | simp only [add_plain] at hx233_1 | skip)
          obtain ⟨ce36, hcl36, hM36, hcc36, hfr36⟩ := Kd.R_elem HO_228002.1 z83 (x29_1 : Int) p36 q36
          obtain rfl := k83_openM hM36
          have hx36_0 : World.cell? _ ⟨go36, (x29_1 : Int).toNat * 2, none⟩ = some (.int .i64 ((rd_T83 x228002_1 x29_1).f0)) := hcc36 0 _ rfl
          have hx36_1 : World.cell? _ ⟨go36, (x29_1 : Int).toNat * 2 + 1, none⟩ = some (.int .i64 ((rd_T83 x228002_1 x29_1).f1)) := hcc36 1 _ rfl
          have hf36_0 : World.frozen? _ ⟨go36, (x29_1 : Int).toNat * 2, none⟩ = false := hfr36 0
          have hf36_1 : World.frozen? _ ⟨go36, (x29_1 : Int).toNat * 2 + 1, none⟩ = false := hfr36 1
          (try clear hM36); clear hcl36 hcc36 hfr36
          replace p36 := eq_true p36
          replace q36 := eq_true q36
          obtain ⟨ce45, hcl45, hM45, hcc45, hfr45⟩ := Kd.R_elem HO_228002.1 z83 (x29_1 : Int) (OD) (by have h_ : (x29_1 : Int) < ((x228002_1.length : Int) : Int) := OD; first | exact h_ | (have e_ := (Kd.R_reads' HO_228002.1).1; omega) | simpa using h_)
          obtain rfl := k83_openM hM45
          have HP45 := (Kd.R_seg HO_228002.1 (x29_1 : Int) (OD) (by have h_ : (x29_1 : Int) < ((x228002_1.length : Int) : Int) := OD; first | exact h_ | (have e_ := (Kd.R_reads' HO_228002.1).1; omega) | simpa using h_) (seg := [.int .i64 t237, .int .i64 t238]) (j := 0) hcl45 hcc45 (show 2 ≤ 2 from by decide) (x' := (⟨t237, t238⟩ : S83)) (k83_mkM _ _ _ (⟨t237, t238⟩ : S83) ) (fun _ hk => hk)).1
          rw [← Ny239.1] at HP45
          have HQ45 := Aside0.mk HP45
          (try clear hM45); clear hcl45 hcc45 hfr45 HP45
          refine hK.out _ _ ⟨(blk_cell BK227.1 0).trans rfl, (blk_cell BK227.1 1).trans rfl, (blk_cell BK227.1 2).trans rfl, (blk_cell BK234.1 0).trans rfl, (blk_cell BK234.1 1).trans rfl⟩ (fun hHeld => ?_)
          clear hK K
          refine norm_ (a' := ?_) ?_ ?_
          rotate_left
          · show Act.put _ (some 52) _ = _
            simp only [Act.put, List.setIfInBounds_toArray, List.set_cons_zero, List.set_cons_succ, i64_w, i32_w]
            rfl
          refine pure_ (i := 5) (N := some 53) (v := ?_) (a' := ?_) #[Yy,Yy,Yy,Yy,Yy,Yy,Zz] rfl rfl (by kernel_rfl) (fun _ _ _ h => h) (Or.inl ⟨by rfl, ?_⟩) ?_ ?_
          rotate_left
          · intro w'
            go_simp
            with_reducible rfl
          rotate_left
          · simp only [Act.put, List.setIfInBounds_toArray, List.set_cons_zero, List.set_cons_succ, i64_w, i32_w]
            rfl
          refine last_ (i := 6) (N := none) #[Yy,Yy,Yy,Yy,Yy,Yy,Yy] rfl rfl (by kernel_rfl) (by decide) (fun K hK => ?_)
          refine skip_ (w1 := ?_) (by rfl) rfl ?_ ?_
          rotate_left
          · go_simp
            rfl
          refine hK.out _ _ ?_
          clear hK K
          refine done_ (by kernel_rfl) ?_
          try go_wp2
          (try simp only [← hl228002_1])
          go_roundg k1
          case measure => have := HK1.1; omega
          case rel => exact ⟨(wrap64 (x29_1 + 1)), (y239), (x230000_1), (x230001_1), RG, H', ⟨by have := HK1.1; omega⟩, ⟨by (try simp only [hl228002_1]); (with_reducible repeat (first | apply Kd.R_alloc | apply Kd.R_drewN | apply Kd.R_drew)); exact Kd.R_mono HQ45.1 (fun _ hk => ⟨hk.1, hk.2.1⟩)⟩, ⟨by (try simp only [hl228002_1]); (with_reducible repeat (first | refine blk_drewN ?_ _ | refine blk_drew ?_ | refine blk_alloc ?_ _)); refine blk_far ?_ (by have h_ := Kd.R_ne HO_228002.1 BK227.1 (by decide); intro e_; exact h_ (by rw [e_]; rfl)) _; (with_reducible repeat (first | refine blk_drewN ?_ _ | refine blk_drew ?_ | refine blk_alloc ?_ _)); refine blk_far ?_ (by have h_ := Kd.R_ne HO_228002.1 BK227.1 (by decide); intro e_; exact h_ (by rw [e_]; rfl)) _; (with_reducible repeat (first | refine blk_drewN ?_ _ | refine blk_drew ?_ | refine blk_alloc ?_ _)); exact BK227.1⟩, ⟨by (try simp only [hl228002_1]); (with_reducible repeat (first | refine blk_drewN ?_ _ | refine blk_drew ?_ | refine blk_alloc ?_ _)); refine blk_far ?_ (by have h_ := Kd.R_away HO_228002.1 (fun _ hk => hk.2.1); intro e_; exact h_ (by rw [e_]; rfl)) _; (with_reducible repeat (first | refine blk_drewN ?_ _ | refine blk_drew ?_ | refine blk_alloc ?_ _)); refine blk_far ?_ (by have h_ := Kd.R_away HO_228002.1 (fun _ hk => hk.2.1); intro e_; exact h_ (by rw [e_]; rfl)) _; (with_reducible repeat (first | refine blk_drewN ?_ _ | refine blk_drew ?_ | refine blk_alloc ?_ _)); exact BK229.1⟩, ⟨by repeat (first | (with_reducible first | exact HK.1 | apply Kept.alloc | apply Kept.drewN | apply Kept.drew | refine Kept.setCell ?_ HMgo36.1 _ | refine Kept.setCell ?_ HMgo36.1 _ | refine Kept.setCell ?_ (.inr GW227.1) _ | refine Kept.setCell ?_ (.inr GW229.1) _ | refine Kept.setCell ?_ (.inr GW234.1) _) | exact HK.1)⟩, ⟨BL HB.1⟩⟩
        have c34b0 := beq_eq_false_iff_ne.mpr c34
        have c34b1 := bne_iff_ne.mpr c34
        have H' := Aside0.mk H
        clear H
        have p233 : 0 ≤ (x29_1 : Int) := OD
        have q233 : x29_1 < (x228002_1.length : Int) := OD
        obtain ⟨ad233, e233, hx233_0, hx233_1⟩ := at_T83 (Kd.R_reads' HO_228002.1).2.2 x29_1 p233 q233
        obtain rfl : ad228 = ad233 := (by injection e233)
        replace p233 := eq_true p233
        replace q233 := eq_true q233
        try go_wp2_with (first | ((with_reducible refine gate_dst (N := 8) rfl ?_); refine boxE (cs := #[.int .i64 0, .int .i64 0]) (t := 83) ?_; intro gb234 hg w46 hbox hb; refine E12 (Kd.R_below (Kd.R_elderB (PR HO_228002.1) gb234 (Nat.le_of_eq hg.symm)) hb) (bB BK227.1 hb) (bB BK229.1 hb) (Kept.below (S := (fun k_ => P0_2_ k_)) (KL HK.1) hb) (below_step (BL HB.1) hb) (hbox) ((by rw [hg]; exact (by first | exact HK.1.1 | exact (show Kept w _ (fun k_ => P0_2_ k_) from KL HK.1).1) : w.heap.size ≤ gb234)) (gwM hg (below_size (BL HB.1)) : w0.heap.size ≤ gb234) (nB BK227.1 hg) (nC BK227.1 hg) (nB BK229.1 hg) (nC BK229.1 hg) ?_; clear HO_228002 BK227 BK229 HK HB; intro HO_228002 BK227 BK229 HK HB BK234 GW234 GE234 NB227_234 NB234_227 NB229_234 NB234_229; clear hb hbox hg; have hnb47 := NB234_227.1; have hnc47 := NB227_234.1; have hnb48 := NB234_229.1; have hnc48 := NB229_234.1; obtain ⟨hcz49_0, hcz49_1, hfz49_0, hfz49_1⟩ := cz2 BK234.1))
        have n0_ : Aside0 (Kd.R k83 83 ((w46.setCell ⟨gb234, 0, none⟩ (.int .i64 ((rd_T83 x228002_1 x29_1).f0))).setCell ⟨gb234, 1, none⟩ (.int .i64 ((rd_T83 x228002_1 x29_1).f1))) w0.heap.size (fun k_ => (P0_2_ k_ ∨ w.heap.size ≤ k_) ∧ k_ ≠ gb229 ∧ k_ ≠ gb234) (.slice (some ad228) x228002_1.length co20) x228002_1) := ⟨by (with_reducible repeat (first | apply Kd.R_alloc | apply Kd.R_drewN | apply Kd.R_drew)); exact Kd.R_mono (Kd.R_far (p := ⟨gb234, 1, none⟩) (Kd.R_far (p := ⟨gb234, 0, none⟩) (Kd.R_mono HO_228002.1 (fun k_ hk => (⟨hk, hk.2⟩ : _ ∧ k_ ≠ gb234))) (fun _ hk => hk.2) (.int .i64 ((rd_T83 x228002_1 x29_1).f0))) (fun _ hk => hk.2) (.int .i64 ((rd_T83 x228002_1 x29_1).f1))) (fun _ hk => ⟨hk.1.1.1, ⟨hk.1.1.2, hk.1.2⟩⟩)⟩
        have n1_ : Aside0 (((w46.setCell ⟨gb234, 0, none⟩ (.int .i64 ((rd_T83 x228002_1 x29_1).f0))).setCell ⟨gb234, 1, none⟩ (.int .i64 ((rd_T83 x228002_1 x29_1).f1))).heap[gb227]? = some (.cells #[.int .i64 a0_0, .int .i64 a0_1, .slice (some ad228) x228002_1.length co20] 30 (0, 0))) := ⟨by (with_reducible repeat (first | refine blk_drewN ?_ _ | refine blk_drew ?_ | refine blk_alloc ?_ _)); refine blk_far ?_ NB227_234.1 _; (with_reducible repeat (first | refine blk_drewN ?_ _ | refine blk_drew ?_ | refine blk_alloc ?_ _)); refine blk_far ?_ NB227_234.1 _; (with_reducible repeat (first | refine blk_drewN ?_ _ | refine blk_drew ?_ | refine blk_alloc ?_ _)); exact BK227.1⟩
        have n2_ : Aside0 (((w46.setCell ⟨gb234, 0, none⟩ (.int .i64 ((rd_T83 x228002_1 x29_1).f0))).setCell ⟨gb234, 1, none⟩ (.int .i64 ((rd_T83 x228002_1 x29_1).f1))).heap[gb229]? = some (.cells #[.int .i64 x230000_1, .int .i64 x230001_1] 83 (0, 0))) := ⟨by (with_reducible repeat (first | refine blk_drewN ?_ _ | refine blk_drew ?_ | refine blk_alloc ?_ _)); refine blk_far ?_ NB229_234.1 _; (with_reducible repeat (first | refine blk_drewN ?_ _ | refine blk_drew ?_ | refine blk_alloc ?_ _)); refine blk_far ?_ NB229_234.1 _; (with_reducible repeat (first | refine blk_drewN ?_ _ | refine blk_drew ?_ | refine blk_alloc ?_ _)); exact BK229.1⟩
        have n3_ : Aside0 (((w46.setCell ⟨gb234, 0, none⟩ (.int .i64 ((rd_T83 x228002_1 x29_1).f0))).setCell ⟨gb234, 1, none⟩ (.int .i64 ((rd_T83 x228002_1 x29_1).f1))).heap[gb234]? = some (.cells #[.int .i64 ((rd_T83 x228002_1 x29_1).f0), .int .i64 ((rd_T83 x228002_1 x29_1).f1)] 83 (0, 0))) := ⟨by (with_reducible repeat (first | refine blk_drewN ?_ _ | refine blk_drew ?_ | refine blk_alloc ?_ _)); refine blk_put (cs := #[.int .i64 ((rd_T83 x228002_1 x29_1).f0), .int .i64 0]) ?_ 1 _ rfl; (with_reducible repeat (first | refine blk_drewN ?_ _ | refine blk_drew ?_ | refine blk_alloc ?_ _)); refine blk_put (cs := #[.int .i64 0, .int .i64 0]) ?_ 0 _ rfl; (with_reducible repeat (first | refine blk_drewN ?_ _ | refine blk_drew ?_ | refine blk_alloc ?_ _)); exact BK234.1⟩
        have n4_ : Aside0 (Kept w ((w46.setCell ⟨gb234, 0, none⟩ (.int .i64 ((rd_T83 x228002_1 x29_1).f0))).setCell ⟨gb234, 1, none⟩ (.int .i64 ((rd_T83 x228002_1 x29_1).f1))) (fun k_ => P0_2_ k_)) := ⟨KL HK.1⟩
        have n5_ : Aside0 (Below w0.heap.size w0 ((w46.setCell ⟨gb234, 0, none⟩ (.int .i64 ((rd_T83 x228002_1 x29_1).f0))).setCell ⟨gb234, 1, none⟩ (.int .i64 ((rd_T83 x228002_1 x29_1).f1)))) := ⟨BL HB.1⟩
        (try clear HO_228002)
        (try clear BK227)
        (try clear BK229)
        (try clear BK234)
        (try clear HK)
        (try clear HB)
        generalize ((w46.setCell ⟨gb234, 0, none⟩ (.int .i64 ((rd_T83 x228002_1 x29_1).f0))).setCell ⟨gb234, 1, none⟩ (.int .i64 ((rd_T83 x228002_1 x29_1).f1))) = w50 at n0_ n1_ n2_ n3_ n4_ n5_ ⊢
        have HO_228002 := n0_
        have BK227 := n1_
        have BK229 := n2_
        have BK234 := n3_
        have HK := n4_
        have HB := n5_
        clear n0_ n1_ n2_ n3_ n4_ n5_
        refine E6 (Kd.R_drew HO_228002.1) (blk_drew BK227.1) (blk_drew BK229.1) (blk_drew BK234.1) (Kept.drew HK.1) (below_drew1 HB.1) ?_
        clear HO_228002 BK227 BK229 BK234 HK HB
        intro HO_228002 BK227 BK229 BK234 HK HB
        have p235 : 0 ≤ (x29_1 : Int) := OD
        have q235 : x29_1 < (l1.length : Int) := OD
        obtain ⟨ad235, e235, hx235_0⟩ := Kd.at_int (Kd.C_kept_now HR1.1 HK.1) x29_1 p235 q235
        have hw235_0 := hx235_0
        cases e235
        replace p235 := eq_true p235
        replace q235 := eq_true q235
        have p236 : 0 ≤ (a2 : Int) := OD
        have q236 : a2 < (l1.length : Int) := OD
        obtain ⟨ad236, e236, hx236_0⟩ := Kd.at_int (Kd.C_kept_now HR1.1 HK.1) a2 p236 q236
        have hw236_0 := hx236_0
        obtain rfl : ad235 = ad236 := (by injection e236)
        replace p236 := eq_true p236
        replace q236 := eq_true q236
        refine start_ (n := 14) (S := fun w' => w'.cell? ⟨gb234, 0, none⟩ = some (.int .i64 ((rd_T83 x228002_1 x29_1).f0)) ∧ w'.cell? ⟨gb234, 1, none⟩ = some (.int .i64 ((rd_T83 x228002_1 x29_1).f1)) ∧ w'.cell? (ad235.add (x29_1).toNat) = some (.int .i64 (rd l1 x29_1)) ∧ w'.cell? (ad235.add (a2).toNat) = some (.int .i64 (rd l1 a2))) (ds := []) #[Zz,Zz,Zz,Zz,Zz,Zz,Zz,Zz,Zz,Zz,Zz,Zz,Zz,Zz] (by kernel_rfl) rfl rfl ⟨(blk_cell BK234.1 0).trans rfl, (blk_cell BK234.1 1).trans rfl, (Kd.foot_int (HR1.1 _ (by repeat (first | exact HK.1 | apply Kept.alloc | apply Kept.drewN | apply Kept.drew))) x29_1 (of_eq_true p235) (of_eq_true q235)), (Kd.foot_int (HR1.1 _ (by repeat (first | exact HK.1 | apply Kept.alloc | apply Kept.drewN | apply Kept.drew))) a2 (of_eq_true p236) (of_eq_true q236))⟩ (fun hHeld => ?_); refine with_tabW spec_flPass.tab9 spec_flPass.bits9 (fun HT_ HW_ => ?_)
        generalize w50.drew = w51 at HO_228002 BK227 BK229 BK234 HK HB hx235_0 hx236_0 hHeld ⊢
        refine pureE (i := 0) (N := some 34) #[Yy,Zz,Zz,Zz,Zz,Zz,Zz,Zz,Zz,Zz,Zz,Zz,Zz,Zz] HT_.1 ?_
        refine take_ (i := 1) (N := some 35) (v := ?_) (a' := ?_) #[Yy,Yy,Zz,Zz,Zz,Zz,Zz,Zz,Zz,Zz,Zz,Zz,Zz,Zz] rfl rfl (take_ofW HT_.1 HW_.1 (by kernel_rfl)) (fun _ _ _ h => h) (Or.inl ⟨by rfl, ?_⟩) hHeld ?_ ?_
        rotate_left
        · rintro w' ⟨s0, s1, s2, s3⟩
          go_simp
          with_reducible rfl
        rotate_left
        · simp only [Act.put, List.setIfInBounds_toArray, List.set_cons_zero, List.set_cons_succ, i64_w, i32_w]
          rfl
        refine pureE (i := 2) (N := some 36) #[Yy,Yy,Yy,Zz,Zz,Zz,Zz,Zz,Zz,Zz,Zz,Zz,Zz,Zz] HT_.1 ?_
        refine pureE (i := 3) (N := some 37) #[Yy,Yy,Yy,Yy,Zz,Zz,Zz,Zz,Zz,Zz,Zz,Zz,Zz,Zz] HT_.1 ?_
        refine pureE (i := 4) (N := some 38) #[Yy,Yy,Yy,Yy,Yy,Zz,Zz,Zz,Zz,Zz,Zz,Zz,Zz,Zz] HT_.1 ?_
        refine pureE (i := 5) (N := some 39) #[Yy,Yy,Yy,Yy,Yy,Yy,Zz,Zz,Zz,Zz,Zz,Zz,Zz,Zz] HT_.1 ?_
        refine pureE (i := 6) (N := some 40) #[Yy,Yy,Yy,Yy,Yy,Yy,Yy,Zz,Zz,Zz,Zz,Zz,Zz,Zz] HT_.1 ?_
        refine pureE (i := 8) (N := some 42) #[Yy,Yy,Yy,Yy,Yy,Yy,Yy,Zz,Yy,Zz,Zz,Zz,Zz,Zz] HT_.1 ?_
        refine pureE (i := 9) (N := some 43) #[Yy,Yy,Yy,Yy,Yy,Yy,Yy,Zz,Yy,Yy,Zz,Zz,Zz,Zz] HT_.1 ?_
        refine pureE (i := 10) (N := some 44) #[Yy,Yy,Yy,Yy,Yy,Yy,Yy,Zz,Yy,Yy,Yy,Zz,Zz,Zz] HT_.1 ?_
        refine take_ (i := 7) (N := some 41) (v := ?_) (a' := ?_) #[Yy,Yy,Yy,Yy,Yy,Yy,Yy,Yy,Yy,Yy,Yy,Zz,Zz,Zz] rfl rfl (take_ofW HT_.1 HW_.1 (by kernel_rfl)) (fun _ _ _ h => h) (Or.inl ⟨by rfl, ?_⟩) hHeld ?_ ?_
        rotate_left
        · rintro w' ⟨s0, s1, s2, s3⟩
          go_simp
          with_reducible rfl
        rotate_left
        · simp only [Act.put, List.setIfInBounds_toArray, List.set_cons_zero, List.set_cons_succ, i64_w, i32_w]
          rfl
        refine take_ (i := 11) (N := some 45) (v := ?_) (a' := ?_) #[Yy,Yy,Yy,Yy,Yy,Yy,Yy,Yy,Yy,Yy,Yy,Yy,Zz,Zz] rfl rfl (take_ofW HT_.1 HW_.1 (by kernel_rfl)) (fun _ _ _ h => h) (Or.inl ⟨by rfl, ?_⟩) hHeld ?_ ?_
        rotate_left
        · rintro w' ⟨s0, s1, s2, s3⟩
          go_simp
          with_reducible rfl
        rotate_left
        · simp only [Act.put, List.setIfInBounds_toArray, List.set_cons_zero, List.set_cons_succ, i64_w, i32_w]
          rfl
        refine pureE (i := 12) (N := some 46) #[Yy,Yy,Yy,Yy,Yy,Yy,Yy,Yy,Yy,Yy,Yy,Yy,Yy,Zz] HT_.1 ?_
        refine pureE (i := 13) (N := some 47) #[Yy,Yy,Yy,Yy,Yy,Yy,Yy,Yy,Yy,Yy,Yy,Yy,Yy,Yy] HT_.1 ?_
        refine done_ (done_of HT_.1 (by kernel_rfl)) ?_
        try go_wp2
        (try simp only [← hl228002_1])
        go_roundg k1
        case measure => have := HK1.1; omega
        case rel => exact ⟨(wrap64 (x29_1 + 1)), (x228002_1), (x230000_1), (x230001_1), RG, H', ⟨by have := HK1.1; omega⟩, ⟨by (try simp only [hl228002_1]); (with_reducible repeat (first | apply Kd.R_alloc | apply Kd.R_drewN | apply Kd.R_drew)); exact Kd.R_mono HO_228002.1 (fun _ hk => ⟨hk.1, hk.2.1⟩)⟩, ⟨PB1 BK227.1 hl228002_1⟩, ⟨PB1 BK229.1 hl228002_1⟩, ⟨KL HK.1⟩, ⟨BL HB.1⟩⟩
      have c30b0 := beq_eq_false_iff_ne.mpr c30
      have c30b1 := bne_iff_ne.mpr c30
      have H' := Aside0.mk H
      clear H
      have p233 : 0 ≤ (x29_1 : Int) := OD
      have q233 : x29_1 < (x228002_1.length : Int) := OD
      obtain ⟨ad233, e233, hx233_0, hx233_1⟩ := at_T83 (Kd.R_reads' HO_228002.1).2.2 x29_1 p233 q233
      obtain rfl : ad228 = ad233 := (by injection e233)
      replace p233 := eq_true p233
      replace q233 := eq_true q233
      try go_wp2_with (first | ((with_reducible refine gate_dst (N := 8) rfl ?_); refine boxE (cs := #[.int .i64 0, .int .i64 0]) (t := 83) ?_; intro gb234 hg w52 hbox hb; refine E12 (Kd.R_below (Kd.R_elderB (PR HO_228002.1) gb234 (Nat.le_of_eq hg.symm)) hb) (bB BK227.1 hb) (bB BK229.1 hb) (Kept.below (S := (fun k_ => P0_2_ k_)) (KL HK.1) hb) (below_step (BL HB.1) hb) (hbox) ((by rw [hg]; exact (by first | exact HK.1.1 | exact (show Kept w _ (fun k_ => P0_2_ k_) from KL HK.1).1) : w.heap.size ≤ gb234)) (gwM hg (below_size (BL HB.1)) : w0.heap.size ≤ gb234) (nB BK227.1 hg) (nC BK227.1 hg) (nB BK229.1 hg) (nC BK229.1 hg) ?_; clear HO_228002 BK227 BK229 HK HB; intro HO_228002 BK227 BK229 HK HB BK234 GW234 GE234 NB227_234 NB234_227 NB229_234 NB234_229; clear hb hbox hg; have hnb53 := NB234_227.1; have hnc53 := NB227_234.1; have hnb54 := NB234_229.1; have hnc54 := NB229_234.1; obtain ⟨hcz55_0, hcz55_1, hfz55_0, hfz55_1⟩ := cz2 BK234.1))
      have n0_ : Aside0 (Kd.R k83 83 ((w52.setCell ⟨gb234, 0, none⟩ (.int .i64 ((rd_T83 x228002_1 x29_1).f0))).setCell ⟨gb234, 1, none⟩ (.int .i64 ((rd_T83 x228002_1 x29_1).f1))) w0.heap.size (fun k_ => (P0_2_ k_ ∨ w.heap.size ≤ k_) ∧ k_ ≠ gb229 ∧ k_ ≠ gb234) (.slice (some ad228) x228002_1.length co20) x228002_1) := ⟨by (with_reducible repeat (first | apply Kd.R_alloc | apply Kd.R_drewN | apply Kd.R_drew)); exact Kd.R_mono (Kd.R_far (p := ⟨gb234, 1, none⟩) (Kd.R_far (p := ⟨gb234, 0, none⟩) (Kd.R_mono HO_228002.1 (fun k_ hk => (⟨hk, hk.2⟩ : _ ∧ k_ ≠ gb234))) (fun _ hk => hk.2) (.int .i64 ((rd_T83 x228002_1 x29_1).f0))) (fun _ hk => hk.2) (.int .i64 ((rd_T83 x228002_1 x29_1).f1))) (fun _ hk => ⟨hk.1.1.1, ⟨hk.1.1.2, hk.1.2⟩⟩)⟩
      have n1_ : Aside0 (((w52.setCell ⟨gb234, 0, none⟩ (.int .i64 ((rd_T83 x228002_1 x29_1).f0))).setCell ⟨gb234, 1, none⟩ (.int .i64 ((rd_T83 x228002_1 x29_1).f1))).heap[gb227]? = some (.cells #[.int .i64 a0_0, .int .i64 a0_1, .slice (some ad228) x228002_1.length co20] 30 (0, 0))) := ⟨by (with_reducible repeat (first | refine blk_drewN ?_ _ | refine blk_drew ?_ | refine blk_alloc ?_ _)); refine blk_far ?_ NB227_234.1 _; (with_reducible repeat (first | refine blk_drewN ?_ _ | refine blk_drew ?_ | refine blk_alloc ?_ _)); refine blk_far ?_ NB227_234.1 _; (with_reducible repeat (first | refine blk_drewN ?_ _ | refine blk_drew ?_ | refine blk_alloc ?_ _)); exact BK227.1⟩
      have n2_ : Aside0 (((w52.setCell ⟨gb234, 0, none⟩ (.int .i64 ((rd_T83 x228002_1 x29_1).f0))).setCell ⟨gb234, 1, none⟩ (.int .i64 ((rd_T83 x228002_1 x29_1).f1))).heap[gb229]? = some (.cells #[.int .i64 x230000_1, .int .i64 x230001_1] 83 (0, 0))) := ⟨by (with_reducible repeat (first | refine blk_drewN ?_ _ | refine blk_drew ?_ | refine blk_alloc ?_ _)); refine blk_far ?_ NB229_234.1 _; (with_reducible repeat (first | refine blk_drewN ?_ _ | refine blk_drew ?_ | refine blk_alloc ?_ _)); refine blk_far ?_ NB229_234.1 _; (with_reducible repeat (first | refine blk_drewN ?_ _ | refine blk_drew ?_ | refine blk_alloc ?_ _)); exact BK229.1⟩
      have n3_ : Aside0 (((w52.setCell ⟨gb234, 0, none⟩ (.int .i64 ((rd_T83 x228002_1 x29_1).f0))).setCell ⟨gb234, 1, none⟩ (.int .i64 ((rd_T83 x228002_1 x29_1).f1))).heap[gb234]? = some (.cells #[.int .i64 ((rd_T83 x228002_1 x29_1).f0), .int .i64 ((rd_T83 x228002_1 x29_1).f1)] 83 (0, 0))) := ⟨by (with_reducible repeat (first | refine blk_drewN ?_ _ | refine blk_drew ?_ | refine blk_alloc ?_ _)); refine blk_put (cs := #[.int .i64 ((rd_T83 x228002_1 x29_1).f0), .int .i64 0]) ?_ 1 _ rfl; (with_reducible repeat (first | refine blk_drewN ?_ _ | refine blk_drew ?_ | refine blk_alloc ?_ _)); refine blk_put (cs := #[.int .i64 0, .int .i64 0]) ?_ 0 _ rfl; (with_reducible repeat (first | refine blk_drewN ?_ _ | refine blk_drew ?_ | refine blk_alloc ?_ _)); exact BK234.1⟩
      have n4_ : Aside0 (Kept w ((w52.setCell ⟨gb234, 0, none⟩ (.int .i64 ((rd_T83 x228002_1 x29_1).f0))).setCell ⟨gb234, 1, none⟩ (.int .i64 ((rd_T83 x228002_1 x29_1).f1))) (fun k_ => P0_2_ k_)) := ⟨KL HK.1⟩
      have n5_ : Aside0 (Below w0.heap.size w0 ((w52.setCell ⟨gb234, 0, none⟩ (.int .i64 ((rd_T83 x228002_1 x29_1).f0))).setCell ⟨gb234, 1, none⟩ (.int .i64 ((rd_T83 x228002_1 x29_1).f1)))) := ⟨BL HB.1⟩
      (try clear HO_228002)
      (try clear BK227)
      (try clear BK229)
      (try clear BK234)
      (try clear HK)
      (try clear HB)
      generalize ((w52.setCell ⟨gb234, 0, none⟩ (.int .i64 ((rd_T83 x228002_1 x29_1).f0))).setCell ⟨gb234, 1, none⟩ (.int .i64 ((rd_T83 x228002_1 x29_1).f1))) = w56 at n0_ n1_ n2_ n3_ n4_ n5_ ⊢
      have HO_228002 := n0_
      have BK227 := n1_
      have BK229 := n2_
      have BK234 := n3_
      have HK := n4_
      have HB := n5_
      clear n0_ n1_ n2_ n3_ n4_ n5_
      refine E6 (Kd.R_drew HO_228002.1) (blk_drew BK227.1) (blk_drew BK229.1) (blk_drew BK234.1) (Kept.drew HK.1) (below_drew1 HB.1) ?_
      clear HO_228002 BK227 BK229 BK234 HK HB
      intro HO_228002 BK227 BK229 BK234 HK HB
      refine start_ (n := 14) (S := fun w' => w'.cell? ⟨gb234, 0, none⟩ = some (.int .i64 ((rd_T83 x228002_1 x29_1).f0)) ∧ w'.cell? ⟨gb234, 1, none⟩ = some (.int .i64 ((rd_T83 x228002_1 x29_1).f1))) (ds := []) #[Zz,Zz,Zz,Zz,Zz,Zz,Zz,Zz,Zz,Zz,Zz,Zz,Zz,Zz] (by kernel_rfl) rfl rfl ⟨(blk_cell BK234.1 0).trans rfl, (blk_cell BK234.1 1).trans rfl⟩ (fun hHeld => ?_); refine with_tabW spec_flPass.tab9 spec_flPass.bits9 (fun HT_ HW_ => ?_)
      generalize w56.drew = w57 at HO_228002 BK227 BK229 BK234 HK HB hHeld ⊢
      refine pureE (i := 0) (N := some 34) #[Yy,Zz,Zz,Zz,Zz,Zz,Zz,Zz,Zz,Zz,Zz,Zz,Zz,Zz] HT_.1 ?_
      refine take_ (i := 1) (N := some 35) (v := ?_) (a' := ?_) #[Yy,Yy,Zz,Zz,Zz,Zz,Zz,Zz,Zz,Zz,Zz,Zz,Zz,Zz] rfl rfl (take_ofW HT_.1 HW_.1 (by kernel_rfl)) (fun _ _ _ h => h) (Or.inl ⟨by rfl, ?_⟩) hHeld ?_ ?_
      rotate_left
      · rintro w' ⟨s0, s1⟩
        go_simp
        with_reducible rfl
      rotate_left
      · simp only [Act.put, List.setIfInBounds_toArray, List.set_cons_zero, List.set_cons_succ, i64_w, i32_w]
        rfl
      refine pureE (i := 2) (N := some 36) #[Yy,Yy,Yy,Zz,Zz,Zz,Zz,Zz,Zz,Zz,Zz,Zz,Zz,Zz] HT_.1 ?_
      refine pureE (i := 3) (N := some 37) #[Yy,Yy,Yy,Yy,Zz,Zz,Zz,Zz,Zz,Zz,Zz,Zz,Zz,Zz] HT_.1 ?_
      refine pure_ (i := 4) (N := some 38) (v := undef) (a' := ?_) #[Yy,Yy,Yy,Yy,Yy,Zz,Zz,Zz,Zz,Zz,Zz,Zz,Zz,Zz] rfl rfl (any_of HT_.1 (by kernel_rfl)) (fun _ _ _ h => h) (Or.inr ⟨by rfl, rfl⟩) ?_ ?_
      rotate_left
      · simp only [Act.put, List.setIfInBounds_toArray, List.set_cons_zero, List.set_cons_succ, i64_w, i32_w]
        rfl
      refine pure_ (i := 5) (N := some 39) (v := undef) (a' := ?_) #[Yy,Yy,Yy,Yy,Yy,Yy,Zz,Zz,Zz,Zz,Zz,Zz,Zz,Zz] rfl rfl (any_of HT_.1 (by kernel_rfl)) (fun _ _ _ h => h) (Or.inr ⟨by rfl, rfl⟩) ?_ ?_
      rotate_left
      · simp only [Act.put, List.setIfInBounds_toArray, List.set_cons_zero, List.set_cons_succ, i64_w, i32_w]
        rfl
      refine pure_ (i := 6) (N := some 40) (v := undef) (a' := ?_) #[Yy,Yy,Yy,Yy,Yy,Yy,Yy,Zz,Zz,Zz,Zz,Zz,Zz,Zz] rfl rfl (any_of HT_.1 (by kernel_rfl)) (fun _ _ _ h => h) (Or.inr ⟨by rfl, rfl⟩) ?_ ?_
      rotate_left
      · simp only [Act.put, List.setIfInBounds_toArray, List.set_cons_zero, List.set_cons_succ, i64_w, i32_w]
        rfl
      refine pure_ (i := 7) (N := some 41) (v := undef) (a' := ?_) #[Yy,Yy,Yy,Yy,Yy,Yy,Yy,Yy,Zz,Zz,Zz,Zz,Zz,Zz] rfl rfl (any_of HT_.1 (by kernel_rfl)) (fun _ _ _ h => h) (Or.inr ⟨by rfl, rfl⟩) ?_ ?_
      rotate_left
      · simp only [Act.put, List.setIfInBounds_toArray, List.set_cons_zero, List.set_cons_succ, i64_w, i32_w]
        rfl
      refine pure_ (i := 8) (N := some 42) (v := undef) (a' := ?_) #[Yy,Yy,Yy,Yy,Yy,Yy,Yy,Yy,Yy,Zz,Zz,Zz,Zz,Zz] rfl rfl (any_of HT_.1 (by kernel_rfl)) (fun _ _ _ h => h) (Or.inr ⟨by rfl, rfl⟩) ?_ ?_
      rotate_left
      · simp only [Act.put, List.setIfInBounds_toArray, List.set_cons_zero, List.set_cons_succ, i64_w, i32_w]
        rfl
      refine pure_ (i := 9) (N := some 43) (v := undef) (a' := ?_) #[Yy,Yy,Yy,Yy,Yy,Yy,Yy,Yy,Yy,Yy,Zz,Zz,Zz,Zz] rfl rfl (any_of HT_.1 (by kernel_rfl)) (fun _ _ _ h => h) (Or.inr ⟨by rfl, rfl⟩) ?_ ?_
      rotate_left
      · simp only [Act.put, List.setIfInBounds_toArray, List.set_cons_zero, List.set_cons_succ, i64_w, i32_w]
        rfl
      refine pure_ (i := 10) (N := some 44) (v := undef) (a' := ?_) #[Yy,Yy,Yy,Yy,Yy,Yy,Yy,Yy,Yy,Yy,Yy,Zz,Zz,Zz] rfl rfl (any_of HT_.1 (by kernel_rfl)) (fun _ _ _ h => h) (Or.inr ⟨by rfl, rfl⟩) ?_ ?_
      rotate_left
      · simp only [Act.put, List.setIfInBounds_toArray, List.set_cons_zero, List.set_cons_succ, i64_w, i32_w]
        rfl
      refine pure_ (i := 11) (N := some 45) (v := undef) (a' := ?_) #[Yy,Yy,Yy,Yy,Yy,Yy,Yy,Yy,Yy,Yy,Yy,Yy,Zz,Zz] rfl rfl (any_of HT_.1 (by kernel_rfl)) (fun _ _ _ h => h) (Or.inr ⟨by rfl, rfl⟩) ?_ ?_
      rotate_left
      · simp only [Act.put, List.setIfInBounds_toArray, List.set_cons_zero, List.set_cons_succ, i64_w, i32_w]
        rfl
      refine pure_ (i := 12) (N := some 46) (v := undef) (a' := ?_) #[Yy,Yy,Yy,Yy,Yy,Yy,Yy,Yy,Yy,Yy,Yy,Yy,Yy,Zz] rfl rfl (any_of HT_.1 (by kernel_rfl)) (fun _ _ _ h => h) (Or.inr ⟨by rfl, rfl⟩) ?_ ?_
      rotate_left
      · simp only [Act.put, List.setIfInBounds_toArray, List.set_cons_zero, List.set_cons_succ, i64_w, i32_w]
        rfl
      refine pureE (i := 13) (N := some 47) #[Yy,Yy,Yy,Yy,Yy,Yy,Yy,Yy,Yy,Yy,Yy,Yy,Yy,Yy] HT_.1 ?_
      refine done_ (done_of HT_.1 (by kernel_rfl)) ?_
      try go_wp2
      (try simp only [← hl228002_1])
      go_roundg k1
      case measure => have := HK1.1; omega
      case rel => exact ⟨(wrap64 (x29_1 + 1)), (x228002_1), (x230000_1), (x230001_1), RG, H', ⟨by have := HK1.1; omega⟩, ⟨by (try simp only [hl228002_1]); (with_reducible repeat (first | apply Kd.R_alloc | apply Kd.R_drewN | apply Kd.R_drew)); exact Kd.R_mono HO_228002.1 (fun _ hk => ⟨hk.1, hk.2.1⟩)⟩, ⟨PB1 BK227.1 hl228002_1⟩, ⟨PB1 BK229.1 hl228002_1⟩, ⟨KL HK.1⟩, ⟨BL HB.1⟩⟩
    rw [hl228002_1] at c27b0
    obtain rfl := Option.some.inj H
    go_wp2
    first | go_end0 | ((try simp only [Exit.inBlock, Exit.then]); refine bodyPost_ret (results_none rfl _ _ _) rfl ?_)
    exact ⟨RF, (by first | exact (by (with_reducible repeat (first | apply Kd.R_alloc | apply Kd.R_drewN | apply Kd.R_drew)); exact Kd.R_mono HO_228002.1 (fun _ hk => hk.1)) | (simp only [hl228002_1]; exact (by (with_reducible repeat (first | apply Kd.R_alloc | apply Kd.R_drewN | apply Kd.R_drew)); exact Kd.R_mono HO_228002.1 (fun _ hk => hk.1)))), BL HB.1, KL HK.1⟩
  have c19b0 := beq_eq_false_iff_ne.mpr c19
  have c19b1 := bne_iff_ne.mpr c19
  obtain rfl := Option.some.inj H
  obtain ⟨Ao58, co58, eo58⟩ := Kd.R_slice HO0_2.1
  subst eo58
  go_enter Try.func97, Try.ntmps97
  go_wp2_with (first | ((with_reducible refine gate_dst (N := 3) rfl ?_); refine boxE (cs := #[.int .i64 a0_0, .int .i64 a0_1, .slice Ao58 l0_2.length co58]) (t := 30) ?_; intro gb227 hg w59 hbox hb; refine E6 (Kd.R_below (PR HO0_2.1) hb) (Kept.below (S := (fun k_ => P0_2_ k_)) (KL HK.1) hb) (below_step (BL HB.1) hb) (hbox) ((by rw [hg]; exact (by first | exact HK.1.1 | exact (show Kept w _ (fun k_ => P0_2_ k_) from KL HK.1).1) : w.heap.size ≤ gb227)) (gwM hg (below_size (BL HB.1)) : w0.heap.size ≤ gb227) ?_; clear HO0_2 HK HB; intro HO0_2 HK HB BK227 GW227 GE227; clear hb hbox hg; obtain ⟨hcz60_0, hcz60_1, hcz60_2, hfz60_0, hfz60_1, hfz60_2⟩ := cz3 BK227.1; have p228 : 0 ≤ (a2 : Int) := OD; have q228 : a2 < (l0_2.length : Int) := OD; obtain ⟨ad228, e228, hx228_0, hx228_1⟩ := at_T83 (Kd.R_reads' HO0_2.1).2.2 a2 p228 q228; cases e228; replace p228 := eq_true p228; replace q228 := eq_true q228) | ((with_reducible refine gate_dst (N := 6) rfl ?_); refine boxE (cs := #[.int .i64 0, .int .i64 0]) (t := 83) ?_; intro gb229 hg w61 hbox hb; refine E9 (Kd.R_below (Kd.R_elderB (PR HO0_2.1) gb229 (Nat.le_of_eq hg.symm)) hb) (bB BK227.1 hb) (Kept.below (S := (fun k_ => P0_2_ k_)) (KL HK.1) hb) (below_step (BL HB.1) hb) (hbox) ((by rw [hg]; exact (by first | exact HK.1.1 | exact (show Kept w _ (fun k_ => P0_2_ k_) from KL HK.1).1) : w.heap.size ≤ gb229)) (gwM hg (below_size (BL HB.1)) : w0.heap.size ≤ gb229) (nB BK227.1 hg) (nC BK227.1 hg) ?_; clear HO0_2 BK227 HK HB; intro HO0_2 BK227 HK HB BK229 GW229 GE229 NB227_229 NB229_227; clear hb hbox hg; have hnb62 := NB229_227.1; have hnc62 := NB227_229.1; obtain ⟨hcz63_0, hcz63_1, hfz63_0, hfz63_1⟩ := cz2 BK229.1))
  first | go_end0 | ((try simp only [Exit.inBlock, Exit.then]); refine bodyPost_ret (results_none rfl _ _ _) rfl ?_)
  exact ⟨RF, by (with_reducible repeat (first | apply Kd.R_alloc | apply Kd.R_drewN | apply Kd.R_drew)); exact Kd.R_mono (Kd.R_far (p := ⟨gb229, 1, none⟩) (Kd.R_far (p := ⟨gb229, 0, none⟩) (Kd.R_mono HO0_2.1 (fun k_ hk => (⟨hk, hk.2⟩ : _ ∧ k_ ≠ gb229))) (fun _ hk => hk.2) (.int .i64 ((rd_T83 l0_2 a2).f0))) (fun _ hk => hk.2) (.int .i64 ((rd_T83 l0_2 a2).f1))) (fun _ hk => hk.1.1), BL HB.1, KL HK.1⟩
/-! ### spec_flGo: function 84 -/
def spec_flGo.l0 : Nat → List Int → Int → List (List Int) → Int → Int → Int → Int → List (S83) → Int → Int → List (S83) → Option (Int × Int × Int × Int × Int × (List (S83)) × (List (List Int)))
  | 0, _, _, _, _, _, _, _, _, _, _, _ => none
  | k + 1, x1, x2, x10, x11, x12, x241000, x241001, x241002, x249000, x249001, x249002 => if x12 < x241000 then (if x10.length < 5864062014805 then ((some (x10 ++ [(([x12, x2] : List Int))] : List (List Int))).bind fun y252 => ((spec_boAt.f x249000 x249001 x249002 x12 x2).bind fun bt255 => (if bt255.1 = 5 then (some (2, x12, x2, x249000, x249001, x249002, y252)) else ((spec_paGoes.f k bt255.1 bt255.2 x11).bind fun t258 => ((spec_flPass.f k x249000 x249001 x249002 x1 (wrap64 ((wrap64 (x12 * x241001)) + x2))).bind fun t259 => ((spec_l1In.f (wrap64 (x2 + t258)) 0 (wrap64 (x241001 - 1))).bind fun t260 => (if t260 = true then (spec_flGo.l0 k x1 (wrap64 (x2 + t258)) y252 (wrap64 (-t258)) (wrap64 (x12 + 1)) x241000 x241001 x241002 x249000 x249001 t259) else (some (3, x12, wrap64 (x2 + t258), x249000, x249001, t259, y252))))))))) else (none)) else (some (1, x241000, x2, x249000, x249001, x249002, x10))
def spec_flGo.f (k : Nat) (a0_0 : Int) (a0_1 : Int) (l0_2 : List (S83)) (l1 : List Int) (a2 : Int) : Option (Int × Int × Int × Int × Int × (List (S83)) × (List (List Int))) := (spec_boOwn.f a0_0 a0_1 l0_2).bind fun bt243 => (spec_flGo.l0 k l1 a2 ([] : List (List Int)) 0 0 a0_0 a0_1 l0_2 bt243.1 bt243.2.1 bt243.2.2)
theorem spec_flGo.mono_l : ∀ k, (∀ y0 y1 y2 y3 y4 y5 y6 y7 y8 y9 y10, LeO (spec_flGo.l0 k y0 y1 y2 y3 y4 y5 y6 y7 y8 y9 y10) (spec_flGo.l0 (k + 1) y0 y1 y2 y3 y4 y5 y6 y7 y8 y9 y10))
  | 0 => fun _ _ _ _ _ _ _ _ _ _ _ r h => by simp [spec_flGo.l0] at h
  | k + 1 => by
    have ih0 := spec_flGo.mono_l k
    intros
    first | unfold spec_flGo.l0
    repeat' first | (with_reducible first | apply ih0 | apply spec_flPass.mono | apply spec_paGoes.mono | exact LeO.refl _ | exact LeO.none _ | refine LeO.ite ?_ ?_ | refine LeO.bind ?_ (fun _ => ?_)) | apply ih0 | apply spec_flPass.mono | apply spec_paGoes.mono | exact LeO.none _ | refine LeO.ite ?_ ?_ | refine LeO.bind ?_ (fun _ => ?_)
theorem spec_flGo.mono : ∀ a0 a1 a2 a3 a4 k, LeO (spec_flGo.f k a0 a1 a2 a3 a4) (spec_flGo.f (k + 1) a0 a1 a2 a3 a4) := by
  intro a0 a1 a2 a3 a4 k
  have ih0 := spec_flGo.mono_l k
  unfold spec_flGo.f
  repeat' first | (with_reducible first | apply ih0 | apply spec_flPass.mono | apply spec_paGoes.mono | exact LeO.refl _ | exact LeO.none _ | refine LeO.ite ?_ ?_ | refine LeO.bind ?_ (fun _ => ?_)) | apply ih0 | apply spec_flPass.mono | apply spec_paGoes.mono | exact LeO.none _ | refine LeO.ite ?_ ?_ | refine LeO.bind ?_ (fun _ => ?_)
def spec_flGo.T10 : Bool × List (List Nat × List Nat) := (true, [([], []), ([], []), ([0, 1], [0, 1]), ([], []), ([], []), ([2, 0, 1, 2], [2]), ([3, 5, 0, 1, 2, 3, 5], [3]), ([4, 6, 0, 1, 2, 3, 4, 5, 6], [4])])
def spec_flGo.B10 : List Nat := [0, 0, 3, 0, 0, 7, 47, 127]
theorem spec_flGo.tab10 : rtab .any (opsOf Try.f84 10) = spec_flGo.T10 := by kernel_rfl
theorem spec_flGo.bits10 : waitsOk spec_flGo.T10.2 spec_flGo.B10 = true := by kernel_rfl
def spec_flGo.T16 : Bool × List (List Nat × List Nat) := (true, [([], []), ([], []), ([0, 1], [0, 1]), ([], []), ([], []), ([2, 0, 1, 2], [2]), ([3, 5, 0, 1, 2, 3, 5], [3]), ([4, 6, 0, 1, 2, 3, 4, 5, 6], [4])])
def spec_flGo.B16 : List Nat := [0, 0, 3, 0, 0, 7, 47, 127]
theorem spec_flGo.tab16 : rtab .any (opsOf Try.f84 16) = spec_flGo.T16 := by kernel_rfl
theorem spec_flGo.bits16 : waitsOk spec_flGo.T16.2 spec_flGo.B16 = true := by kernel_rfl
def spec_flGo.T17 : Bool × List (List Nat × List Nat) := (true, [([], []), ([0], [0]), ([], []), ([1, 2], [1, 2]), ([], []), ([], []), ([3, 0, 1, 2, 3], [3]), ([4, 6, 0, 1, 2, 3, 4, 6], [4]), ([5, 7, 0, 1, 2, 3, 4, 5, 6, 7], [5])])
def spec_flGo.B17 : List Nat := [0, 1, 0, 7, 0, 0, 15, 95, 255]
theorem spec_flGo.tab17 : rtab .any (opsOf Try.f84 17) = spec_flGo.T17 := by kernel_rfl
theorem spec_flGo.bits17 : waitsOk spec_flGo.T17.2 spec_flGo.B17 = true := by kernel_rfl
set_option maxHeartbeats 8000000 in
set_option maxRecDepth 100000 in
theorem spec_flGo.calls (k : Nat) (a0_0 : Int) (a0_1 : Int) (A0_2 : Option Addr) (c0_2 : Nat) (l0_2 : List (S83)) (A1 : Option Addr) (c1 : Nat) (l1 : List Int) (a2 : Int) (r1 : Int) (r2 : Int) (r3 : Int) (r4 : Int) (r5 : Int) (r6 : List (S83)) (r7 : List (List Int)) (w : World) (hr0_2 : Kd.C k83 w A0_2 l0_2.length l0_2) (hc0_2 : l0_2.length ≤ c0_2) (hr1 : Kd.C (Kd.int .i64) w A1 l1.length l1) (hc1 : l1.length ≤ c1) (h : spec_flGo.f k a0_0 a0_1 l0_2 l1 a2 = some (r1, r2, r3, r4, r5, r6, r7)) :
    Calls Try.prog 84 #[.agg #[.int .i64 a0_0, .int .i64 a0_1, .slice A0_2 l0_2.length c0_2], .slice A1 l1.length c1, .int .i64 a2] w fun e w' => ∃ v5_ v6_ : Value, e = .returned (.tuple #[.agg #[.int .i64 r1, .int .i64 r2, .int .i64 r3], .agg #[.int .i64 r4, .int .i64 r5, v5_], v6_]) ∧ Kd.R k83 83 w' w.heap.size (fun _ => True) v5_ r6 ∧ Kd.S (Kd.slice 3 (Kd.int .i64)) 38 w' w.heap.size (fun _ => True) v6_ r7 ∧ Below w.heap.size w w' := by
  have hu30 := Try.underlying30
  have hu54 := Try.underlying54
  have hu83 := Try.underlying83
  have HR0_2 := Aside0.mk hr0_2
  have HC0_2 := Aside0.mk hc0_2
  clear hr0_2 hc0_2
  have HR1 := Aside0.mk hr1
  have HC1 := Aside0.mk hc1
  clear hr1 hc1
  have HB := Aside0.mk (Below.refl w.heap.size w)
  have H := h
  clear h
  unfold spec_flGo.f at H
  replace H := bindA H; obtain ⟨⟨t243, t244, t245⟩, A4, H⟩ := H
  dsimp only at H
  have H' := Aside0.mk H
  clear H
  go_enter Try.func84, Try.ntmps84
  go_wp2_with (first | ((with_reducible refine gate_dst (N := 3) rfl ?_); refine boxE (cs := #[.int .i64 a0_0, .int .i64 a0_1, .slice A0_2 l0_2.length c0_2]) (t := 30) ?_; intro gb240 hg w5 hbox hb; refine E4b HB.1 hg hbox hb ?_; clear HB; intro HB BK240 GW240 GE240; clear hb hbox hg) | ((with_reducible refine gate_dst (N := 6) rfl ?_); refine boxE (cs := #[.int .i64 0, .int .i64 0, .int .i64 0]) (t := 54) ?_; intro gb241 hg w6 hbox hb; refine E7 (bB BK240.1 hb) (below_step (BL HB.1) hb) (hbox) (gX HB.1 hg) (gX HB.1 hg) (nB BK240.1 hg) (nC BK240.1 hg) ?_; clear BK240 HB; intro BK240 HB BK241 GW241 GE241 NB240_241 NB241_240; clear hb hbox hg) | ((with_reducible refine gate_dst (N := 7) rfl ?_); refine boxE (cs := #[.int .i64 0, .int .i64 0, .slice none 0 0]) (t := 30) ?_; intro gb242 hg w7 hbox hb; refine E10 (bB BK240.1 hb) (bB BK241.1 hb) (below_step (BL HB.1) hb) (hbox) (gX HB.1 hg) (gX HB.1 hg) (nB BK240.1 hg) (nC BK240.1 hg) (nB BK241.1 hg) (nC BK241.1 hg) ?_; clear BK240 BK241 HB; intro BK240 BK241 HB BK242 GW242 GE242 NB240_242 NB242_240 NB241_242 NB242_241; clear hb hbox hg; have hnb8 := NB240_241.1; have hnc8 := NB241_240.1; have hnb9 := NB240_242.1; have hnc9 := NB242_240.1; obtain ⟨hcz10_0, hcz10_1, hcz10_2, hfz10_0, hfz10_1, hfz10_2⟩ := cz3 BK240.1) | ((with_reducible refine gate_callee (f := 94) rfl ?_); refine goesM (N := (some 16)) #[.agg #[.int .i64 a0_0, .int .i64 a0_1, .slice A0_2 l0_2.length c0_2]] Try.func94 ?_; (with_reducible refine (spec_boOwn.calls a0_0 a0_1 _ _ l0_2 t243 t244 t245 _ ?side1 ?side2 A4.1).mono ?_); (case side1 => exact CB (Kd.C_below HR0_2.1 HB.1)); (case side2 => exact HC0_2.1); rintro e w11 ⟨v246, rfl, ho0, hb⟩; refine ⟨_, rfl, ?_⟩; refine E5 (Kd.R_lower ho0 (below_size (BL HB.1))) (bB BK240.1 hb) (bB BK241.1 hb) (bB BK242.1 hb) (below_step (BL HB.1) hb) ?_; clear BK240 BK241 BK242 HB; intro HO247 BK240 BK241 BK242 HB; (try clear hb); (try clear ho0)) | ((with_reducible refine gate_dst (N := 9) rfl ?_); refine boxE (cs := #[.int .i64 0, .int .i64 0, .slice none 0 0]) (t := 30) ?_; intro gb248 hg w12 hbox hb; refine E14 (Kd.R_below (PR HO247.1) hb) (bB BK240.1 hb) (bB BK241.1 hb) (bB BK242.1 hb) (below_step (BL HB.1) hb) (hbox) (gX HB.1 hg) (gX HB.1 hg) (nB BK240.1 hg) (nC BK240.1 hg) (nB BK241.1 hg) (nC BK241.1 hg) (nB BK242.1 hg) (nC BK242.1 hg) ?_; clear HO247 BK240 BK241 BK242 HB; intro HO247 BK240 BK241 BK242 HB BK248 GW248 GE248 NB240_248 NB248_240 NB241_248 NB248_241 NB242_248 NB248_242; clear hb hbox hg; have hnb13 := NB248_240.1; have hnc13 := NB240_248.1; have hnb14 := NB248_241.1; have hnc14 := NB241_248.1; have hnb15 := NB248_242.1; have hnc15 := NB242_248.1; obtain ⟨hcz16_0, hcz16_1, hcz16_2, hfz16_0, hfz16_1, hfz16_2⟩ := cz3 BK248.1; obtain ⟨Ao17, co17, eo17⟩ := Kd.R_slice HO247.1; subst eo17))
  go_loopg [2, 10, 11, 12] k (fun kq v2 v10 v11 v12 w' => ∃ (x2_1 : Int) (x10_1 : List (List Int)) (x11_1 : Int) (x12_1 : Int) (x242000_1 : Int) (x242001_1 : Int) (x242002_1 : Int) (x243000_1 : Int) (x243001_1 : Int) (x249002_1 : List (S83)) (u249002 : Value), v2 = .int .i64 x2_1 ∧ v11 = .int .i64 x11_1 ∧ v12 = .int .i64 x12_1 ∧ Aside0 (spec_flGo.l0 kq l1 x2_1 x10_1 x11_1 x12_1 a0_0 a0_1 l0_2 t243 t244 x249002_1 = some (r1, r2, r3, r4, r5, r6, r7)) ∧ Aside0 (kq ≤ k) ∧ Aside0 (Kd.S (Kd.slice 3 (Kd.int .i64)) 38 w' w.heap.size (fun _ => True) v10 x10_1) ∧ Aside0 (Kd.R k83 83 w' w.heap.size (fun _ => True) u249002 x249002_1) ∧ Aside0 (w'.heap[gb240]? = some (.cells #[.int .i64 a0_0, .int .i64 a0_1, (.slice A0_2 l0_2.length c0_2)] 30 (0, 0))) ∧ Aside0 (w'.heap[gb241]? = some (.cells #[.int .i64 x242000_1, .int .i64 x242001_1, .int .i64 x242002_1] 54 (0, 0))) ∧ Aside0 (w'.heap[gb242]? = some (.cells #[.int .i64 x243000_1, .int .i64 x243001_1, (.slice none 0 0)] 30 (0, 0))) ∧ Aside0 (w'.heap[gb248]? = some (.cells #[.int .i64 t243, .int .i64 t244, u249002] 30 (0, 0))) ∧ Aside0 (Below w.heap.size w w'))
  case atStart => exact ⟨(a2), (([] : List (List Int))), (0), (0), (0), (0), (0), (0), (0), (t245), (.slice Ao17 t245.length co17), RG, RG, RG, H', ⟨Nat.le_refl _⟩, ⟨by first | exact Kd.S_nil _ _ _ _ _ | exact Kd.N_nil _ _ _ _ _ | exact Kd.V_nil _ _ _ _ _ | exact Kd.Q_nil _ _ _ _ _ | exact Kd.R_nil _ _ _ _ _⟩, ⟨by (with_reducible repeat (first | apply Kd.R_alloc | apply Kd.R_drewN | apply Kd.R_drew)); exact Kd.R_mono (Kd.R_far (p := ⟨gb248, 2, none⟩) (Kd.R_far (p := ⟨gb248, 1, none⟩) (Kd.R_far (p := ⟨gb248, 0, none⟩) (Kd.R_types HO247.1 BK248.1 (by decide)) (fun _ hk => hk.2) (.int .i64 t243)) (fun _ hk => hk.2) (.int .i64 t244)) (fun _ hk => hk.2) (.slice Ao17 t245.length co17)) (fun _ hk => trivial)⟩, ⟨by (with_reducible repeat (first | refine blk_drewN ?_ _ | refine blk_drew ?_ | refine blk_alloc ?_ _)); refine blk_far ?_ NB240_248.1 _; (with_reducible repeat (first | refine blk_drewN ?_ _ | refine blk_drew ?_ | refine blk_alloc ?_ _)); refine blk_far ?_ NB240_248.1 _; (with_reducible repeat (first | refine blk_drewN ?_ _ | refine blk_drew ?_ | refine blk_alloc ?_ _)); refine blk_far ?_ NB240_248.1 _; (with_reducible repeat (first | refine blk_drewN ?_ _ | refine blk_drew ?_ | refine blk_alloc ?_ _)); exact BK240.1⟩, ⟨by (with_reducible repeat (first | refine blk_drewN ?_ _ | refine blk_drew ?_ | refine blk_alloc ?_ _)); refine blk_far ?_ NB241_248.1 _; (with_reducible repeat (first | refine blk_drewN ?_ _ | refine blk_drew ?_ | refine blk_alloc ?_ _)); refine blk_far ?_ NB241_248.1 _; (with_reducible repeat (first | refine blk_drewN ?_ _ | refine blk_drew ?_ | refine blk_alloc ?_ _)); refine blk_far ?_ NB241_248.1 _; (with_reducible repeat (first | refine blk_drewN ?_ _ | refine blk_drew ?_ | refine blk_alloc ?_ _)); exact BK241.1⟩, ⟨by (with_reducible repeat (first | refine blk_drewN ?_ _ | refine blk_drew ?_ | refine blk_alloc ?_ _)); refine blk_far ?_ NB242_248.1 _; (with_reducible repeat (first | refine blk_drewN ?_ _ | refine blk_drew ?_ | refine blk_alloc ?_ _)); refine blk_far ?_ NB242_248.1 _; (with_reducible repeat (first | refine blk_drewN ?_ _ | refine blk_drew ?_ | refine blk_alloc ?_ _)); refine blk_far ?_ NB242_248.1 _; (with_reducible repeat (first | refine blk_drewN ?_ _ | refine blk_drew ?_ | refine blk_alloc ?_ _)); exact BK242.1⟩, ⟨by (with_reducible repeat (first | refine blk_drewN ?_ _ | refine blk_drew ?_ | refine blk_alloc ?_ _)); refine blk_put (cs := #[.int .i64 t243, .int .i64 t244, .slice none 0 0]) ?_ 2 _ rfl; (with_reducible repeat (first | refine blk_drewN ?_ _ | refine blk_drew ?_ | refine blk_alloc ?_ _)); refine blk_put (cs := #[.int .i64 t243, .int .i64 0, .slice none 0 0]) ?_ 1 _ rfl; (with_reducible repeat (first | refine blk_drewN ?_ _ | refine blk_drew ?_ | refine blk_alloc ?_ _)); refine blk_put (cs := #[.int .i64 0, .int .i64 0, .slice none 0 0]) ?_ 0 _ rfl; (with_reducible repeat (first | refine blk_drewN ?_ _ | refine blk_drew ?_ | refine blk_alloc ?_ _)); exact BK248.1⟩, ⟨BL HB.1⟩⟩
  clear H'
  try clear c1; try clear hcz10_0; try clear hcz10_1; try clear hcz10_2; try clear hcz16_0; try clear hcz16_1; try clear hcz16_2; try clear hfz10_0; try clear hfz10_1; try clear hfz10_2; try clear hfz16_0; try clear hfz16_1; try clear hfz16_2
  obtain ⟨x2_1, x10_1, x11_1, x12_1, x242000_1, x242001_1, x242002_1, x243000_1, x243001_1, x249002_1, u249002, rfl, rfl, rfl, HA, HK1, HO_10, HO_249002, BK240, BK241, BK242, BK248, HB⟩ := hrel
  cases gk with
  | zero => exact absurd HA.1 (by simp [spec_flGo.l0])
  | succ k1 => ?_
  have H := HA.1
  clear HA
  simp only [spec_flGo.l0] at H
  replace H := ifB H; rcases H with ⟨c18b0, H⟩ | ⟨c18b0, H⟩
  · generalize hy249 : ((([x12_1, x2_1] : List Int)) : List Int) = y249 at H
    have Ny249 := Aside0.mk hy249.symm; clear hy249
    replace H := ifP H; obtain ⟨c19, H⟩ := H
    have LMc19 := Aside0.mk c19
    clear c19
    replace H := nameB H; obtain ⟨y252, Ny252, H⟩ := H
    replace H := bindA H; obtain ⟨⟨t255, t256⟩, A20, H⟩ := H
    dsimp only at H
    replace H := ifQ H; rcases H with ⟨c21, H⟩ | ⟨c21, H⟩
    · have c21b0 := beq_iff_eq.mpr c21
      have c21b1 := bne_eq_false_iff_eq.mpr c21
      clear c21
      simp only [Option.some.injEq, Prod.mk.injEq] at H
      obtain ⟨rfl, rfl, rfl, rfl, rfl, rfl, rfl⟩ := H
      obtain ⟨hcz25_0, hcz25_1, hcz25_2, hfz25_0, hfz25_1, hfz25_2⟩ := cz3 BK240.1
      try go_wp2_with (first | ((with_reducible refine gate_dst (N := 26) rfl ?_); refine Kd.R_lit (Kd.int .i64) _ 3 ?hg (N := 26) ?hd (xs := ([x12_1, x2_1] : List Int)) (inner := [.int .i64 x12_1, .int .i64 x2_1]) (ok := fun _ => True) (okp := fun _ => True) ?hr ?hp (fun _ hk => hk) trivial (Below.refl _ _) (Nat.le_refl _) (by simp) ?_; (case hd => rfl); (case hg => rfl); (case hr => first | (go_simp; done) | (go_simp; rfl)); (case hp => exact (Reps.one (show Kd.M (Kd.int .i64) _ _ _ x12_1 [.int .i64 x12_1] from rfl) (Reps.one (show Kd.M (Kd.int .i64) _ _ _ x2_1 [.int .i64 x2_1] from rfl) (Reps.none _ _)))); intro v250 w26 ho27 hb hg_ hnew_; clear hg_ hnew_; (first | rw [← Ny249.1] at ho27 | (simp only [Int.reduceToNat] at ho27; rw [← Ny249.1] at ho27)); refine E8 (Kd.S_elder' (PS HO_10.1) (Kd.R_base ho27) hb) (Kd.R_below (PR HO_249002.1) hb) (Kd.R_lower ho27 (below_size (BL HB.1))) (bB BK240.1 hb) (bB BK241.1 hb) (bB BK242.1 hb) (bB BK248.1 hb) (below_step (BL HB.1) hb) ?_; clear HO_10 HO_249002 BK240 BK241 BK242 BK248 HB; intro HO_10 HO_249002 HO251 BK240 BK241 BK242 BK248 HB; clear hb ho27; obtain ⟨Ao29, co29, eo29⟩ := Kd.R_slice HO251.1; subst eo29) | ((with_reducible refine gate_builtin (b := .append) (xs := #[.tmp 23, .tmp 27]) rfl ?_); at_builtin; refine Kd.S_append (Kd.slice 3 (Kd.int .i64)) (w0 := w) w.heap.size rfl (.tmp 23) (.tmp 27) 60 38 (.slice none 0 0) 24 rfl Try.underlying60 info38 rfl (by decide) (by omega) u10 x10_1 y249 [.slice Ao29 y249.length co29] (fun _ => True) (fun k_ => some k_ = (.slice Ao29 y249.length co29 : Value).ownBlock) rfl rfl ?aP (fun k_ hk_ => ((Kd.R_mono (ok' := fun k_ => ((fun _ => True)) k_ ∧ some k_ ≠ (u10 : Value).ownBlock) (Kd.R_apart' (HO251.1) (Kd.S_typed HO_10.1) (by decide)) (fun k_ hk => ⟨trivial, hk.2⟩))).1 k_ hk_.symm) ?aF ?aO ?aB ?aS ?aL ?_; (case aP => exact Kd.M_row (Kd.R_mono (Kd.R_tight rfl (Kd.R_mono (ok' := fun k_ => ((fun _ => True)) k_ ∧ some k_ ≠ (u10 : Value).ownBlock) (Kd.R_apart' (HO251.1) (Kd.S_typed HO_10.1) (by decide)) (fun k_ hk => ⟨trivial, hk.2⟩))) (fun _ h_ => h_))); (case aB => exact (BL HB.1)); (case aF => exact (fun _ _ => trivial)); (case aO => exact (by (with_reducible repeat (first | apply Kd.S_alloc | apply Kd.S_drewN | apply Kd.S_drew)); exact Kd.S_mono HO_10.1 (fun k_ hk => ⟨trivial, fun e_ => hk.2 e_⟩))); (case aS => exact (below_size (BL HB.1))); (case aL => have := LMc19.1; omega); intro v253 w28 ho hb hg hat; rw [← Ny252.1] at ho; refine E7 (Kd.R_over' (PR HO_249002.1) (Kd.S_typed (PS HO_10.1)) (by decide) hg) (bG BK240.1 hg (Kd.S_ne HO_10.1 BK240.1 (by decide))) (bG BK241.1 hg (Kd.S_ne HO_10.1 BK241.1 (by decide))) (bG BK242.1 hg (Kd.S_ne HO_10.1 BK242.1 (by decide))) (bG BK248.1 hg (Kd.S_ne HO_10.1 BK248.1 (by decide))) (hb) (ho) ?_; clear HO_249002 BK240 BK241 BK242 BK248 HB HO_10 HO251; intro HO_249002 BK240 BK241 BK242 BK248 HB HO254; clear ho hb hg hat; have hnb30 := NB248_241.1; have hnc30 := NB241_248.1; have hnb31 := NB248_242.1; have hnc31 := NB242_248.1; obtain ⟨hcz32_0, hcz32_1, hcz32_2, hfz32_0, hfz32_1, hfz32_2⟩ := cz3 BK248.1; obtain ⟨Ao33, co33, eo33⟩ := Kd.R_slice HO_249002.1; subst eo33) | ((with_reducible refine gate_callee (f := 95) rfl ?_); refine goesM (N := (some 32)) #[.agg #[.int .i64 t243, .int .i64 t244, .slice Ao33 x249002_1.length co33], .int .i64 x12_1, .int .i64 x2_1] Try.func95 ?_; (with_reducible refine (spec_boAt.calls t243 t244 _ _ x249002_1 x12_1 x2_1 t255 t256 _ ?side1 ?side2 A20.1).mono ?_); (case side1 => exact CB (Kd.R_reads' HO_249002.1).2.2); (case side2 => exact (Kd.R_reads' HO_249002.1).2.1); rintro e w34 ⟨rfl, hb⟩; refine ⟨_, rfl, ?_⟩; refine E7 (Kd.R_below (PR HO_249002.1) hb) (Kd.S_below (PS HO254.1) hb) (bB BK240.1 hb) (bB BK241.1 hb) (bB BK242.1 hb) (bB BK248.1 hb) (below_step (BL HB.1) hb) ?_; clear HO_249002 HO254 BK240 BK241 BK242 BK248 HB; intro HO_249002 HO254 BK240 BK241 BK242 BK248 HB; (try clear hb)) | ((with_reducible refine gate_dst (N := 13) rfl ?_); refine boxE (cs := #[.int .i64 0, .int .i64 0]) (t := 83) ?_; intro gb257 hg w35 hbox hb; refine E18 (Kd.R_below (Kd.R_elderB (PR HO_249002.1) gb257 (Nat.le_of_eq hg.symm)) hb) (Kd.S_below (PS HO254.1) hb) (bB BK240.1 hb) (bB BK241.1 hb) (bB BK242.1 hb) (bB BK248.1 hb) (below_step (BL HB.1) hb) (hbox) (gX HB.1 hg) (gX HB.1 hg) (nB BK240.1 hg) (nC BK240.1 hg) (nB BK241.1 hg) (nC BK241.1 hg) (nB BK242.1 hg) (nC BK242.1 hg) (nB BK248.1 hg) (nC BK248.1 hg) ?_; clear HO_249002 HO254 BK240 BK241 BK242 BK248 HB; intro HO_249002 HO254 BK240 BK241 BK242 BK248 HB BK257 GW257 GE257 NB240_257 NB257_240 NB241_257 NB257_241 NB242_257 NB257_242 NB248_257 NB257_248; clear hb hbox hg; have hnb36 := NB257_240.1; have hnc36 := NB240_257.1; have hnb37 := NB257_241.1; have hnc37 := NB241_257.1; have hnb38 := NB257_242.1; have hnc38 := NB242_257.1; have hnb39 := NB257_248.1; have hnc39 := NB248_257.1; obtain ⟨hcz40_0, hcz40_1, hfz40_0, hfz40_1⟩ := cz2 BK257.1))
      have n0_ : Aside0 (Kd.R k83 83 ((w35.setCell ⟨gb257, 0, none⟩ (.int .i64 t255)).setCell ⟨gb257, 1, none⟩ (.int .i64 t256)) w.heap.size (fun k_ => k_ ≠ gb257) (.slice Ao33 x249002_1.length co33) x249002_1) := ⟨by (with_reducible repeat (first | apply Kd.R_alloc | apply Kd.R_drewN | apply Kd.R_drew)); exact Kd.R_mono (Kd.R_far (p := ⟨gb257, 1, none⟩) (Kd.R_far (p := ⟨gb257, 0, none⟩) (Kd.R_mono HO_249002.1 (fun k_ hk => (⟨hk, hk.2⟩ : _ ∧ k_ ≠ gb257))) (fun _ hk => hk.2) (.int .i64 t255)) (fun _ hk => hk.2) (.int .i64 t256)) (fun _ hk => hk.1.2)⟩
      have n1_ : Aside0 (Kd.S (Kd.slice 3 (Kd.int .i64)) 38 ((w35.setCell ⟨gb257, 0, none⟩ (.int .i64 t255)).setCell ⟨gb257, 1, none⟩ (.int .i64 t256)) w.heap.size (fun _ => True) v253 y252) := ⟨by (with_reducible repeat (first | apply Kd.S_alloc | apply Kd.S_drewN | apply Kd.S_drew)); exact Kd.S_mono (Kd.S_far (p := ⟨gb257, 1, none⟩) (Kd.S_far (p := ⟨gb257, 0, none⟩) (Kd.S_types HO254.1 BK257.1 (by decide)) (fun _ hk => hk.2) (.int .i64 t255)) (fun _ hk => hk.2) (.int .i64 t256)) (fun _ hk => trivial)⟩
      have n2_ : Aside0 (((w35.setCell ⟨gb257, 0, none⟩ (.int .i64 t255)).setCell ⟨gb257, 1, none⟩ (.int .i64 t256)).heap[gb240]? = some (.cells #[.int .i64 a0_0, .int .i64 a0_1, .slice A0_2 l0_2.length c0_2] 30 (0, 0))) := ⟨by (with_reducible repeat (first | refine blk_drewN ?_ _ | refine blk_drew ?_ | refine blk_alloc ?_ _)); refine blk_far ?_ NB240_257.1 _; (with_reducible repeat (first | refine blk_drewN ?_ _ | refine blk_drew ?_ | refine blk_alloc ?_ _)); refine blk_far ?_ NB240_257.1 _; (with_reducible repeat (first | refine blk_drewN ?_ _ | refine blk_drew ?_ | refine blk_alloc ?_ _)); exact BK240.1⟩
      have n3_ : Aside0 (((w35.setCell ⟨gb257, 0, none⟩ (.int .i64 t255)).setCell ⟨gb257, 1, none⟩ (.int .i64 t256)).heap[gb241]? = some (.cells #[.int .i64 x242000_1, .int .i64 x242001_1, .int .i64 x242002_1] 54 (0, 0))) := ⟨by (with_reducible repeat (first | refine blk_drewN ?_ _ | refine blk_drew ?_ | refine blk_alloc ?_ _)); refine blk_far ?_ NB241_257.1 _; (with_reducible repeat (first | refine blk_drewN ?_ _ | refine blk_drew ?_ | refine blk_alloc ?_ _)); refine blk_far ?_ NB241_257.1 _; (with_reducible repeat (first | refine blk_drewN ?_ _ | refine blk_drew ?_ | refine blk_alloc ?_ _)); exact BK241.1⟩
      have n4_ : Aside0 (((w35.setCell ⟨gb257, 0, none⟩ (.int .i64 t255)).setCell ⟨gb257, 1, none⟩ (.int .i64 t256)).heap[gb242]? = some (.cells #[.int .i64 x243000_1, .int .i64 x243001_1, .slice none 0 0] 30 (0, 0))) := ⟨by (with_reducible repeat (first | refine blk_drewN ?_ _ | refine blk_drew ?_ | refine blk_alloc ?_ _)); refine blk_far ?_ NB242_257.1 _; (with_reducible repeat (first | refine blk_drewN ?_ _ | refine blk_drew ?_ | refine blk_alloc ?_ _)); refine blk_far ?_ NB242_257.1 _; (with_reducible repeat (first | refine blk_drewN ?_ _ | refine blk_drew ?_ | refine blk_alloc ?_ _)); exact BK242.1⟩
      have n5_ : Aside0 (((w35.setCell ⟨gb257, 0, none⟩ (.int .i64 t255)).setCell ⟨gb257, 1, none⟩ (.int .i64 t256)).heap[gb248]? = some (.cells #[.int .i64 t243, .int .i64 t244, .slice Ao33 x249002_1.length co33] 30 (0, 0))) := ⟨by (with_reducible repeat (first | refine blk_drewN ?_ _ | refine blk_drew ?_ | refine blk_alloc ?_ _)); refine blk_far ?_ NB248_257.1 _; (with_reducible repeat (first | refine blk_drewN ?_ _ | refine blk_drew ?_ | refine blk_alloc ?_ _)); refine blk_far ?_ NB248_257.1 _; (with_reducible repeat (first | refine blk_drewN ?_ _ | refine blk_drew ?_ | refine blk_alloc ?_ _)); exact BK248.1⟩
      have n6_ : Aside0 (((w35.setCell ⟨gb257, 0, none⟩ (.int .i64 t255)).setCell ⟨gb257, 1, none⟩ (.int .i64 t256)).heap[gb257]? = some (.cells #[.int .i64 t255, .int .i64 t256] 83 (0, 0))) := ⟨by (with_reducible repeat (first | refine blk_drewN ?_ _ | refine blk_drew ?_ | refine blk_alloc ?_ _)); refine blk_put (cs := #[.int .i64 t255, .int .i64 0]) ?_ 1 _ rfl; (with_reducible repeat (first | refine blk_drewN ?_ _ | refine blk_drew ?_ | refine blk_alloc ?_ _)); refine blk_put (cs := #[.int .i64 0, .int .i64 0]) ?_ 0 _ rfl; (with_reducible repeat (first | refine blk_drewN ?_ _ | refine blk_drew ?_ | refine blk_alloc ?_ _)); exact BK257.1⟩
      have n7_ : Aside0 (Below w.heap.size w ((w35.setCell ⟨gb257, 0, none⟩ (.int .i64 t255)).setCell ⟨gb257, 1, none⟩ (.int .i64 t256))) := ⟨BL HB.1⟩
      (try clear HO_249002)
      (try clear HO254)
      (try clear BK240)
      (try clear BK241)
      (try clear BK242)
      (try clear BK248)
      (try clear BK257)
      (try clear HB)
      generalize ((w35.setCell ⟨gb257, 0, none⟩ (.int .i64 t255)).setCell ⟨gb257, 1, none⟩ (.int .i64 t256)) = w41 at n0_ n1_ n2_ n3_ n4_ n5_ n6_ n7_ ⊢
      have HO_249002 := n0_
      have HO254 := n1_
      have BK240 := n2_
      have BK241 := n3_
      have BK242 := n4_
      have BK248 := n5_
      have BK257 := n6_
      have HB := n7_
      clear n0_ n1_ n2_ n3_ n4_ n5_ n6_ n7_
      refine E8 (Kd.R_drew HO_249002.1) (Kd.S_drew HO254.1) (blk_drew BK240.1) (blk_drew BK241.1) (blk_drew BK242.1) (blk_drew BK248.1) (blk_drew BK257.1) (below_drew1 HB.1) ?_
      clear HO_249002 HO254 BK240 BK241 BK242 BK248 BK257 HB
      intro HO_249002 HO254 BK240 BK241 BK242 BK248 BK257 HB
      refine start_ (n := 8) (S := fun w' => w'.cell? ⟨gb248, 0, none⟩ = some (.int .i64 t243) ∧ w'.cell? ⟨gb248, 1, none⟩ = some (.int .i64 t244) ∧ w'.cell? ⟨gb248, 2, none⟩ = some (.slice Ao33 x249002_1.length co33)) (ds := []) #[Zz,Zz,Zz,Zz,Zz,Zz,Zz,Zz] (by kernel_rfl) rfl rfl ⟨(blk_cell BK248.1 0).trans rfl, (blk_cell BK248.1 1).trans rfl, (blk_cell BK248.1 2).trans rfl⟩ (fun hHeld => ?_); refine with_tabW spec_flGo.tab10 spec_flGo.bits10 (fun HT_ HW_ => ?_)
      generalize w41.drew = w42 at HO_249002 HO254 BK240 BK241 BK242 BK248 BK257 HB hHeld ⊢
      refine pureE (i := 0) (N := some 36) #[Yy,Zz,Zz,Zz,Zz,Zz,Zz,Zz] HT_.1 ?_
      refine pureE (i := 1) (N := some 37) #[Yy,Yy,Zz,Zz,Zz,Zz,Zz,Zz] HT_.1 ?_
      refine pureE (i := 2) (N := some 38) #[Yy,Yy,Yy,Zz,Zz,Zz,Zz,Zz] HT_.1 ?_
      refine pureE (i := 4) (N := some 40) #[Yy,Yy,Yy,Zz,Yy,Zz,Zz,Zz] HT_.1 ?_
      refine take_ (i := 3) (N := some 39) (v := ?_) (a' := ?_) #[Yy,Yy,Yy,Yy,Yy,Zz,Zz,Zz] rfl rfl (take_ofW HT_.1 HW_.1 (by kernel_rfl)) (fun _ _ _ h => h) (Or.inl ⟨by rfl, ?_⟩) hHeld ?_ ?_
      rotate_left
      · rintro w' ⟨s0, s1, s2⟩
        go_simp
        with_reducible rfl
      rotate_left
      · simp only [Act.put, List.setIfInBounds_toArray, List.set_cons_zero, List.set_cons_succ, i64_w, i32_w]
        rfl
      refine one_ (i := 5) (N := none) #[Yy,Yy,Yy,Yy,Yy,Yy,Zz,Zz] rfl rfl (one_of HT_.1 (by kernel_rfl)) (by decide) (fun K hK => ?_)
      have hs43 : w42.cell? ⟨gb241, 0, none⟩ = some (.int .i64 x242000_1) := (blk_cell BK241.1 0).trans rfl
      have hfs43 := blk_frozen BK241.1 0
      have hns43_2 := NB242_241.1
      have hms43_2 := NB241_242.1
      have hs44 : w42.cell? ⟨gb241, 1, none⟩ = some (.int .i64 x242001_1) := (blk_cell BK241.1 1).trans rfl
      have hfs44 := blk_frozen BK241.1 1
      have hs45 : w42.cell? ⟨gb241, 2, none⟩ = some (.int .i64 x242002_1) := (blk_cell BK241.1 2).trans rfl
      have hfs45 := blk_frozen BK241.1 2
      refine skip_ (w1 := ?_) (by rfl) rfl ?_ ?_
      rotate_left
      · go_simp
        rfl
      refine hK.out _ _ ⟨(CF3 NB248_241.1 hHeld.1), (CF3 NB248_241.1 hHeld.2.1), (CF3 NB248_241.1 hHeld.2.2)⟩ (fun hHeld => ?_)
      clear hK K
      refine one_ (i := 6) (N := none) #[Yy,Yy,Yy,Yy,Yy,Yy,Yy,Zz] rfl rfl (one_of HT_.1 (by kernel_rfl)) (by decide) (fun K hK => ?_)
      have hs46 : w42.cell? ⟨gb242, 0, none⟩ = some (.int .i64 x243000_1) := (blk_cell BK242.1 0).trans rfl
      have hfs46 := blk_frozen BK242.1 0
      have hs47 : w42.cell? ⟨gb242, 1, none⟩ = some (.int .i64 x243001_1) := (blk_cell BK242.1 1).trans rfl
      have hfs47 := blk_frozen BK242.1 1
      have hs48 : w42.cell? ⟨gb242, 2, none⟩ = some (.slice none 0 0) := (blk_cell BK242.1 2).trans rfl
      have hfs48 := blk_frozen BK242.1 2
      refine skip_ (w1 := ?_) (by rfl) rfl ?_ ?_
      rotate_left
      · go_simp
        rfl
      refine hK.out _ _ ⟨(CF3 NB248_242.1 hHeld.1), (CF3 NB248_242.1 hHeld.2.1), (CF3 NB248_242.1 hHeld.2.2)⟩ (fun hHeld => ?_)
      clear hK K
      refine pureE (i := 7) (N := some 8) #[Yy,Yy,Yy,Yy,Yy,Yy,Yy,Yy] HT_.1 ?_
      refine done_ (done_of HT_.1 (by kernel_rfl)) ?_
      try go_wp2
      refine bodyPost_ret (results_list (rs := [.cell 6 54, .cell 7 30, .tmp 8]) rfl (by simp) (.cell gb241 54 #[.int .i64 2, .int .i64 x12_1, .int .i64 x2_1] (0, 0) _ rfl (PF1 NB241_242.1 BK241.1) Try.underlying54 rfl (by kernel_rfl) (.cell gb242 30 #[.int .i64 t243, .int .i64 t244, .slice Ao33 x249002_1.length co33] (0, 0) _ rfl (PF1 NB242_241.1 BK242.1) Try.underlying30 rfl (by kernel_rfl) (.tmp .nil)))) rfl ?_
      exact ⟨_, _, RF, by (with_reducible repeat (first | apply Kd.R_alloc | apply Kd.R_drewN | apply Kd.R_drew)); exact Kd.R_mono (Kd.R_far (p := ⟨gb242, 2, none⟩) (Kd.R_far (p := ⟨gb242, 1, none⟩) (Kd.R_far (p := ⟨gb242, 0, none⟩) (Kd.R_far (p := ⟨gb241, 2, none⟩) (Kd.R_far (p := ⟨gb241, 1, none⟩) (Kd.R_far (p := ⟨gb241, 0, none⟩) (Kd.R_types (Kd.R_types HO_249002.1 BK241.1 (by decide)) BK242.1 (by decide)) (fun _ hk => hk.1.2) (.int .i64 2)) (fun _ hk => hk.1.2) (.int .i64 x12_1)) (fun _ hk => hk.1.2) (.int .i64 x2_1)) (fun _ hk => hk.2) (.int .i64 t243)) (fun _ hk => hk.2) (.int .i64 t244)) (fun _ hk => hk.2) (.slice Ao33 x249002_1.length co33)) (fun _ hk => trivial), by (with_reducible repeat (first | apply Kd.S_alloc | apply Kd.S_drewN | apply Kd.S_drew)); exact Kd.S_mono (Kd.S_far (p := ⟨gb242, 2, none⟩) (Kd.S_far (p := ⟨gb242, 1, none⟩) (Kd.S_far (p := ⟨gb242, 0, none⟩) (Kd.S_far (p := ⟨gb241, 2, none⟩) (Kd.S_far (p := ⟨gb241, 1, none⟩) (Kd.S_far (p := ⟨gb241, 0, none⟩) (Kd.S_types (Kd.S_types HO254.1 BK241.1 (by decide)) BK242.1 (by decide)) (fun _ hk => hk.1.2) (.int .i64 2)) (fun _ hk => hk.1.2) (.int .i64 x12_1)) (fun _ hk => hk.1.2) (.int .i64 x2_1)) (fun _ hk => hk.2) (.int .i64 t243)) (fun _ hk => hk.2) (.int .i64 t244)) (fun _ hk => hk.2) (.slice Ao33 x249002_1.length co33)) (fun _ hk => trivial), BL HB.1⟩
    have c21b0 := beq_eq_false_iff_ne.mpr c21
    have c21b1 := bne_iff_ne.mpr c21
    replace H := bindA H; obtain ⟨t258, A49, H⟩ := H
    replace H := bindA H; obtain ⟨t259, A50, H⟩ := H
    replace H := bindA H; obtain ⟨t260, A51, H⟩ := H
    replace H := ifX H; rcases H with ⟨rfl, H⟩ | ⟨rfl, H⟩
    · have H' := Aside0.mk H
      clear H
      obtain ⟨hcz56_0, hcz56_1, hcz56_2, hfz56_0, hfz56_1, hfz56_2⟩ := cz3 BK240.1
      go_wp2_with (first | ((with_reducible refine gate_dst (N := 26) rfl ?_); refine Kd.R_lit (Kd.int .i64) _ 3 ?hg (N := 26) ?hd (xs := ([x12_1, x2_1] : List Int)) (inner := [.int .i64 x12_1, .int .i64 x2_1]) (ok := fun _ => True) (okp := fun _ => True) ?hr ?hp (fun _ hk => hk) trivial (Below.refl _ _) (Nat.le_refl _) (by simp) ?_; (case hd => rfl); (case hg => rfl); (case hr => first | (go_simp; done) | (go_simp; rfl)); (case hp => exact (Reps.one (show Kd.M (Kd.int .i64) _ _ _ x12_1 [.int .i64 x12_1] from rfl) (Reps.one (show Kd.M (Kd.int .i64) _ _ _ x2_1 [.int .i64 x2_1] from rfl) (Reps.none _ _)))); intro v250 w57 ho58 hb hg_ hnew_; clear hg_ hnew_; (first | rw [← Ny249.1] at ho58 | (simp only [Int.reduceToNat] at ho58; rw [← Ny249.1] at ho58)); refine E8 (Kd.S_elder' (PS HO_10.1) (Kd.R_base ho58) hb) (Kd.R_below (PR HO_249002.1) hb) (Kd.R_lower ho58 (below_size (BL HB.1))) (bB BK240.1 hb) (bB BK241.1 hb) (bB BK242.1 hb) (bB BK248.1 hb) (below_step (BL HB.1) hb) ?_; clear HO_10 HO_249002 BK240 BK241 BK242 BK248 HB; intro HO_10 HO_249002 HO251 BK240 BK241 BK242 BK248 HB; clear hb ho58; obtain ⟨Ao60, co60, eo60⟩ := Kd.R_slice HO251.1; subst eo60) | ((with_reducible refine gate_builtin (b := .append) (xs := #[.tmp 23, .tmp 27]) rfl ?_); at_builtin; refine Kd.S_append (Kd.slice 3 (Kd.int .i64)) (w0 := w) w.heap.size rfl (.tmp 23) (.tmp 27) 60 38 (.slice none 0 0) 24 rfl Try.underlying60 info38 rfl (by decide) (by omega) u10 x10_1 y249 [.slice Ao60 y249.length co60] (fun _ => True) (fun k_ => some k_ = (.slice Ao60 y249.length co60 : Value).ownBlock) rfl rfl ?aP (fun k_ hk_ => ((Kd.R_mono (ok' := fun k_ => ((fun _ => True)) k_ ∧ some k_ ≠ (u10 : Value).ownBlock) (Kd.R_apart' (HO251.1) (Kd.S_typed HO_10.1) (by decide)) (fun k_ hk => ⟨trivial, hk.2⟩))).1 k_ hk_.symm) ?aF ?aO ?aB ?aS ?aL ?_; (case aP => exact Kd.M_row (Kd.R_mono (Kd.R_tight rfl (Kd.R_mono (ok' := fun k_ => ((fun _ => True)) k_ ∧ some k_ ≠ (u10 : Value).ownBlock) (Kd.R_apart' (HO251.1) (Kd.S_typed HO_10.1) (by decide)) (fun k_ hk => ⟨trivial, hk.2⟩))) (fun _ h_ => h_))); (case aB => exact (BL HB.1)); (case aF => exact (fun _ _ => trivial)); (case aO => exact (by (with_reducible repeat (first | apply Kd.S_alloc | apply Kd.S_drewN | apply Kd.S_drew)); exact Kd.S_mono HO_10.1 (fun k_ hk => ⟨trivial, fun e_ => hk.2 e_⟩))); (case aS => exact (below_size (BL HB.1))); (case aL => have := LMc19.1; omega); intro v253 w59 ho hb hg hat; rw [← Ny252.1] at ho; refine E7 (Kd.R_over' (PR HO_249002.1) (Kd.S_typed (PS HO_10.1)) (by decide) hg) (bG BK240.1 hg (Kd.S_ne HO_10.1 BK240.1 (by decide))) (bG BK241.1 hg (Kd.S_ne HO_10.1 BK241.1 (by decide))) (bG BK242.1 hg (Kd.S_ne HO_10.1 BK242.1 (by decide))) (bG BK248.1 hg (Kd.S_ne HO_10.1 BK248.1 (by decide))) (hb) (ho) ?_; clear HO_249002 BK240 BK241 BK242 BK248 HB HO_10 HO251; intro HO_249002 BK240 BK241 BK242 BK248 HB HO254; clear ho hb hg hat; have hnb61 := NB248_241.1; have hnc61 := NB241_248.1; have hnb62 := NB248_242.1; have hnc62 := NB242_248.1; obtain ⟨hcz63_0, hcz63_1, hcz63_2, hfz63_0, hfz63_1, hfz63_2⟩ := cz3 BK248.1; obtain ⟨Ao64, co64, eo64⟩ := Kd.R_slice HO_249002.1; subst eo64) | ((with_reducible refine gate_callee (f := 95) rfl ?_); refine goesM (N := (some 32)) #[.agg #[.int .i64 t243, .int .i64 t244, .slice Ao64 x249002_1.length co64], .int .i64 x12_1, .int .i64 x2_1] Try.func95 ?_; (with_reducible refine (spec_boAt.calls t243 t244 _ _ x249002_1 x12_1 x2_1 t255 t256 _ ?side1 ?side2 A20.1).mono ?_); (case side1 => exact CB (Kd.R_reads' HO_249002.1).2.2); (case side2 => exact (Kd.R_reads' HO_249002.1).2.1); rintro e w65 ⟨rfl, hb⟩; refine ⟨_, rfl, ?_⟩; refine E7 (Kd.R_below (PR HO_249002.1) hb) (Kd.S_below (PS HO254.1) hb) (bB BK240.1 hb) (bB BK241.1 hb) (bB BK242.1 hb) (bB BK248.1 hb) (below_step (BL HB.1) hb) ?_; clear HO_249002 HO254 BK240 BK241 BK242 BK248 HB; intro HO_249002 HO254 BK240 BK241 BK242 BK248 HB; (try clear hb)) | ((with_reducible refine gate_dst (N := 13) rfl ?_); refine boxE (cs := #[.int .i64 0, .int .i64 0]) (t := 83) ?_; intro gb257 hg w66 hbox hb; refine E18 (Kd.R_below (Kd.R_elderB (PR HO_249002.1) gb257 (Nat.le_of_eq hg.symm)) hb) (Kd.S_below (PS HO254.1) hb) (bB BK240.1 hb) (bB BK241.1 hb) (bB BK242.1 hb) (bB BK248.1 hb) (below_step (BL HB.1) hb) (hbox) (gX HB.1 hg) (gX HB.1 hg) (nB BK240.1 hg) (nC BK240.1 hg) (nB BK241.1 hg) (nC BK241.1 hg) (nB BK242.1 hg) (nC BK242.1 hg) (nB BK248.1 hg) (nC BK248.1 hg) ?_; clear HO_249002 HO254 BK240 BK241 BK242 BK248 HB; intro HO_249002 HO254 BK240 BK241 BK242 BK248 HB BK257 GW257 GE257 NB240_257 NB257_240 NB241_257 NB257_241 NB242_257 NB257_242 NB248_257 NB257_248; clear hb hbox hg; have hnb67 := NB257_240.1; have hnc67 := NB240_257.1; have hnb68 := NB257_241.1; have hnc68 := NB241_257.1; have hnb69 := NB257_242.1; have hnc69 := NB242_257.1; have hnb70 := NB257_248.1; have hnc70 := NB248_257.1; obtain ⟨hcz71_0, hcz71_1, hfz71_0, hfz71_1⟩ := cz2 BK257.1) | ((with_reducible refine gate_callee (f := 96) rfl ?_); refine goesM (N := (some 43)) #[.agg #[.int .i64 t255, .int .i64 t256], .int .i64 x11_1] Try.func96 ?_; (with_reducible refine (spec_paGoes.calls k1 t255 t256 x11_1 t258 _ A49.1).mono ?_); rintro e w72 ⟨rfl, hb⟩; refine ⟨_, rfl, ?_⟩; refine E8 (Kd.R_below (by (with_reducible repeat (first | apply Kd.R_alloc | apply Kd.R_drewN | apply Kd.R_drew)); exact (Kd.R_mono (Kd.R_far (p := ⟨gb257, 1, none⟩) (Kd.R_far (p := ⟨gb257, 0, none⟩) (Kd.R_mono HO_249002.1 (fun k_ hk => (⟨hk, hk.2⟩ : _ ∧ k_ ≠ gb257))) (fun _ hk => hk.2) (.int .i64 t255)) (fun _ hk => hk.2) (.int .i64 t256)) (fun _ h_ => h_.1))) hb) (Kd.S_below (by (with_reducible repeat (first | apply Kd.S_alloc | apply Kd.S_drewN | apply Kd.S_drew)); exact (Kd.S_mono (Kd.S_far (p := ⟨gb257, 1, none⟩) (Kd.S_far (p := ⟨gb257, 0, none⟩) (Kd.S_types HO254.1 BK257.1 (by decide)) (fun _ hk => hk.2) (.int .i64 t255)) (fun _ hk => hk.2) (.int .i64 t256)) (fun _ h_ => h_.1))) hb) (blk_below (g := gb240) (o := .cells #[.int .i64 a0_0, .int .i64 a0_1, .slice A0_2 l0_2.length c0_2] 30 (0, 0)) (PF1 NB240_257.1 BK240.1) hb) (blk_below (g := gb241) (o := .cells #[.int .i64 x242000_1, .int .i64 x242001_1, .int .i64 x242002_1] 54 (0, 0)) (PF1 NB241_257.1 BK241.1) hb) (blk_below (g := gb242) (o := .cells #[.int .i64 x243000_1, .int .i64 x243001_1, .slice none 0 0] 30 (0, 0)) (PF1 NB242_257.1 BK242.1) hb) (blk_below (g := gb248) (o := .cells #[.int .i64 t243, .int .i64 t244, .slice Ao64 x249002_1.length co64] 30 (0, 0)) (PF1 NB248_257.1 BK248.1) hb) (blk_below (g := gb257) (o := .cells #[.int .i64 t255, .int .i64 t256] 83 (0, 0)) (PF0 BK257.1) hb) (below_step (BL HB.1) hb) ?_; clear HO_249002 HO254 BK240 BK241 BK242 BK248 BK257 HB; intro HO_249002 HO254 BK240 BK241 BK242 BK248 BK257 HB; (try clear hb); (try clear hk); obtain ⟨hcz73_0, hcz73_1, hcz73_2, hfz73_0, hfz73_1, hfz73_2⟩ := cz3 BK248.1; obtain ⟨hcz74_0, hcz74_1, hcz74_2, hfz74_0, hfz74_1, hfz74_2⟩ := cz3 BK240.1) | ((with_reducible refine gate_callee (f := 97) rfl ?_); refine goesM (N := (some 52)) #[.agg #[.int .i64 t243, .int .i64 t244, .slice Ao64 x249002_1.length co64], .slice A1 l1.length c1, .int .i64 (wrap64 ((wrap64 (x12_1 * a0_1)) + x2_1))] Try.func97 ?_; (with_reducible refine (spec_flPass.calls k1 t243 t244 (fun k_ => some k_ = (.slice Ao64 x249002_1.length co64 : Value).ownBlock) (.slice Ao64 x249002_1.length co64) x249002_1 _ _ l1 (wrap64 ((wrap64 (x12_1 * a0_1)) + x2_1)) t259 w _ ?side1 ?side2 ?side3 ?side4 A50.1).mono ?_); (case side1 => exact BL HB.1); (case side2 => exact Kd.R_tight rfl HO_249002.1); (case side3 => exact Kd.C_kept_came (Kd.heap_int .i64) HR1.1 (BL HB.1) (fun k_ hs_ => (fun e_ => Kd.R_base HO_249002.1 k_ e_.symm) hs_)); (case side4 => exact HC1.1); rintro e w75 ⟨rfl, hy0, hb, hkp⟩; refine ⟨_, rfl, ?_⟩; refine E8 (Kd.R_reok rfl hy0 (fun k_ e_ => HO_249002.1.1 k_ e_)) (blk_kept (PB BK240.1) hkp (fun hs_ => (fun e_ => (Kd.R_ne HO_249002.1 BK240.1 (by decide)) e_) hs_)) (blk_kept (PB BK241.1) hkp (fun hs_ => (fun e_ => (Kd.R_ne HO_249002.1 BK241.1 (by decide)) e_) hs_)) (blk_kept (PB BK242.1) hkp (fun hs_ => (fun e_ => (Kd.R_ne HO_249002.1 BK242.1 (by decide)) e_) hs_)) (blk_kept (PB BK248.1) hkp (fun hs_ => (fun e_ => (Kd.R_ne HO_249002.1 BK248.1 (by decide)) e_) hs_)) (Kd.S_mono (ok' := fun k_ => True) (Kd.S_keptB ((Kd.S_apart' HO254.1 (Kd.R_typed HO_249002.1) (by decide))) hkp (fun k_ hk_ hs_ => (hk_.2) hs_)) (fun k_ hk_ => trivial)) (blk_kept (PB BK257.1) hkp (fun hs_ => (fun e_ => (Kd.R_away HO_249002.1 (fun _ hk => hk.2)) e_) hs_)) (hb) ?_; clear HO_249002 BK240 BK241 BK242 BK248 HO254 BK257 HB; intro HO_249002 BK240 BK241 BK242 BK248 HO254 BK257 HB; (try clear hb); (try clear hkp); (try clear hy0); obtain ⟨hcz76_0, hcz76_1, hcz76_2, hfz76_0, hfz76_1, hfz76_2⟩ := cz3 BK240.1) | ((with_reducible refine gate_callee (f := 55) rfl ?_); refine goesM (N := (some 62)) #[.int .i64 (wrap64 (x2_1 + t258)), .int .i64 0, .int .i64 (wrap64 (a0_1 - 1))] Try.func55 ?_; (with_reducible refine (spec_l1In.calls (wrap64 (x2_1 + t258)) 0 (wrap64 (a0_1 - 1)) true _ A51.1).mono ?_); rintro e w' ⟨rfl, ⟨nd, rfl⟩⟩; refine ⟨_, rfl, ?_⟩))
      go_roundg k1
      case measure => have := HK1.1; omega
      case rel => exact ⟨(wrap64 (x2_1 + t258)), (y252), (wrap64 (-t258)), (wrap64 (x12_1 + 1)), (x242000_1), (x242001_1), (x242002_1), (x243000_1), (x243001_1), (t259), (.slice Ao64 x249002_1.length co64), RG, RG, RG, H', ⟨by have := HK1.1; omega⟩, ⟨PS HO254.1⟩, ⟨by (with_reducible repeat (first | apply Kd.R_alloc | apply Kd.R_drewN | apply Kd.R_drew)); exact Kd.R_mono HO_249002.1 (fun _ hk => trivial)⟩, ⟨PB BK240.1⟩, ⟨PB BK241.1⟩, ⟨PB BK242.1⟩, ⟨PB BK248.1⟩, ⟨BL HB.1⟩⟩
    simp only [Option.some.injEq, Prod.mk.injEq] at H
    obtain ⟨rfl, rfl, rfl, rfl, rfl, rfl, rfl⟩ := H
    obtain ⟨hcz80_0, hcz80_1, hcz80_2, hfz80_0, hfz80_1, hfz80_2⟩ := cz3 BK240.1
    try go_wp2_with (first | ((with_reducible refine gate_dst (N := 26) rfl ?_); refine Kd.R_lit (Kd.int .i64) _ 3 ?hg (N := 26) ?hd (xs := ([x12_1, x2_1] : List Int)) (inner := [.int .i64 x12_1, .int .i64 x2_1]) (ok := fun _ => True) (okp := fun _ => True) ?hr ?hp (fun _ hk => hk) trivial (Below.refl _ _) (Nat.le_refl _) (by simp) ?_; (case hd => rfl); (case hg => rfl); (case hr => first | (go_simp; done) | (go_simp; rfl)); (case hp => exact (Reps.one (show Kd.M (Kd.int .i64) _ _ _ x12_1 [.int .i64 x12_1] from rfl) (Reps.one (show Kd.M (Kd.int .i64) _ _ _ x2_1 [.int .i64 x2_1] from rfl) (Reps.none _ _)))); intro v250 w81 ho82 hb hg_ hnew_; clear hg_ hnew_; (first | rw [← Ny249.1] at ho82 | (simp only [Int.reduceToNat] at ho82; rw [← Ny249.1] at ho82)); refine E8 (Kd.S_elder' (PS HO_10.1) (Kd.R_base ho82) hb) (Kd.R_below (PR HO_249002.1) hb) (Kd.R_lower ho82 (below_size (BL HB.1))) (bB BK240.1 hb) (bB BK241.1 hb) (bB BK242.1 hb) (bB BK248.1 hb) (below_step (BL HB.1) hb) ?_; clear HO_10 HO_249002 BK240 BK241 BK242 BK248 HB; intro HO_10 HO_249002 HO251 BK240 BK241 BK242 BK248 HB; clear hb ho82; obtain ⟨Ao84, co84, eo84⟩ := Kd.R_slice HO251.1; subst eo84) | ((with_reducible refine gate_builtin (b := .append) (xs := #[.tmp 23, .tmp 27]) rfl ?_); at_builtin; refine Kd.S_append (Kd.slice 3 (Kd.int .i64)) (w0 := w) w.heap.size rfl (.tmp 23) (.tmp 27) 60 38 (.slice none 0 0) 24 rfl Try.underlying60 info38 rfl (by decide) (by omega) u10 x10_1 y249 [.slice Ao84 y249.length co84] (fun _ => True) (fun k_ => some k_ = (.slice Ao84 y249.length co84 : Value).ownBlock) rfl rfl ?aP (fun k_ hk_ => ((Kd.R_mono (ok' := fun k_ => ((fun _ => True)) k_ ∧ some k_ ≠ (u10 : Value).ownBlock) (Kd.R_apart' (HO251.1) (Kd.S_typed HO_10.1) (by decide)) (fun k_ hk => ⟨trivial, hk.2⟩))).1 k_ hk_.symm) ?aF ?aO ?aB ?aS ?aL ?_; (case aP => exact Kd.M_row (Kd.R_mono (Kd.R_tight rfl (Kd.R_mono (ok' := fun k_ => ((fun _ => True)) k_ ∧ some k_ ≠ (u10 : Value).ownBlock) (Kd.R_apart' (HO251.1) (Kd.S_typed HO_10.1) (by decide)) (fun k_ hk => ⟨trivial, hk.2⟩))) (fun _ h_ => h_))); (case aB => exact (BL HB.1)); (case aF => exact (fun _ _ => trivial)); (case aO => exact (by (with_reducible repeat (first | apply Kd.S_alloc | apply Kd.S_drewN | apply Kd.S_drew)); exact Kd.S_mono HO_10.1 (fun k_ hk => ⟨trivial, fun e_ => hk.2 e_⟩))); (case aS => exact (below_size (BL HB.1))); (case aL => have := LMc19.1; omega); intro v253 w83 ho hb hg hat; rw [← Ny252.1] at ho; refine E7 (Kd.R_over' (PR HO_249002.1) (Kd.S_typed (PS HO_10.1)) (by decide) hg) (bG BK240.1 hg (Kd.S_ne HO_10.1 BK240.1 (by decide))) (bG BK241.1 hg (Kd.S_ne HO_10.1 BK241.1 (by decide))) (bG BK242.1 hg (Kd.S_ne HO_10.1 BK242.1 (by decide))) (bG BK248.1 hg (Kd.S_ne HO_10.1 BK248.1 (by decide))) (hb) (ho) ?_; clear HO_249002 BK240 BK241 BK242 BK248 HB HO_10 HO251; intro HO_249002 BK240 BK241 BK242 BK248 HB HO254; clear ho hb hg hat; have hnb85 := NB248_241.1; have hnc85 := NB241_248.1; have hnb86 := NB248_242.1; have hnc86 := NB242_248.1; obtain ⟨hcz87_0, hcz87_1, hcz87_2, hfz87_0, hfz87_1, hfz87_2⟩ := cz3 BK248.1; obtain ⟨Ao88, co88, eo88⟩ := Kd.R_slice HO_249002.1; subst eo88) | ((with_reducible refine gate_callee (f := 95) rfl ?_); refine goesM (N := (some 32)) #[.agg #[.int .i64 t243, .int .i64 t244, .slice Ao88 x249002_1.length co88], .int .i64 x12_1, .int .i64 x2_1] Try.func95 ?_; (with_reducible refine (spec_boAt.calls t243 t244 _ _ x249002_1 x12_1 x2_1 t255 t256 _ ?side1 ?side2 A20.1).mono ?_); (case side1 => exact CB (Kd.R_reads' HO_249002.1).2.2); (case side2 => exact (Kd.R_reads' HO_249002.1).2.1); rintro e w89 ⟨rfl, hb⟩; refine ⟨_, rfl, ?_⟩; refine E7 (Kd.R_below (PR HO_249002.1) hb) (Kd.S_below (PS HO254.1) hb) (bB BK240.1 hb) (bB BK241.1 hb) (bB BK242.1 hb) (bB BK248.1 hb) (below_step (BL HB.1) hb) ?_; clear HO_249002 HO254 BK240 BK241 BK242 BK248 HB; intro HO_249002 HO254 BK240 BK241 BK242 BK248 HB; (try clear hb)) | ((with_reducible refine gate_dst (N := 13) rfl ?_); refine boxE (cs := #[.int .i64 0, .int .i64 0]) (t := 83) ?_; intro gb257 hg w90 hbox hb; refine E18 (Kd.R_below (Kd.R_elderB (PR HO_249002.1) gb257 (Nat.le_of_eq hg.symm)) hb) (Kd.S_below (PS HO254.1) hb) (bB BK240.1 hb) (bB BK241.1 hb) (bB BK242.1 hb) (bB BK248.1 hb) (below_step (BL HB.1) hb) (hbox) (gX HB.1 hg) (gX HB.1 hg) (nB BK240.1 hg) (nC BK240.1 hg) (nB BK241.1 hg) (nC BK241.1 hg) (nB BK242.1 hg) (nC BK242.1 hg) (nB BK248.1 hg) (nC BK248.1 hg) ?_; clear HO_249002 HO254 BK240 BK241 BK242 BK248 HB; intro HO_249002 HO254 BK240 BK241 BK242 BK248 HB BK257 GW257 GE257 NB240_257 NB257_240 NB241_257 NB257_241 NB242_257 NB257_242 NB248_257 NB257_248; clear hb hbox hg; have hnb91 := NB257_240.1; have hnc91 := NB240_257.1; have hnb92 := NB257_241.1; have hnc92 := NB241_257.1; have hnb93 := NB257_242.1; have hnc93 := NB242_257.1; have hnb94 := NB257_248.1; have hnc94 := NB248_257.1; obtain ⟨hcz95_0, hcz95_1, hfz95_0, hfz95_1⟩ := cz2 BK257.1) | ((with_reducible refine gate_callee (f := 96) rfl ?_); refine goesM (N := (some 43)) #[.agg #[.int .i64 t255, .int .i64 t256], .int .i64 x11_1] Try.func96 ?_; (with_reducible refine (spec_paGoes.calls k1 t255 t256 x11_1 t258 _ A49.1).mono ?_); rintro e w96 ⟨rfl, hb⟩; refine ⟨_, rfl, ?_⟩; refine E8 (Kd.R_below (by (with_reducible repeat (first | apply Kd.R_alloc | apply Kd.R_drewN | apply Kd.R_drew)); exact (Kd.R_mono (Kd.R_far (p := ⟨gb257, 1, none⟩) (Kd.R_far (p := ⟨gb257, 0, none⟩) (Kd.R_mono HO_249002.1 (fun k_ hk => (⟨hk, hk.2⟩ : _ ∧ k_ ≠ gb257))) (fun _ hk => hk.2) (.int .i64 t255)) (fun _ hk => hk.2) (.int .i64 t256)) (fun _ h_ => h_.1))) hb) (Kd.S_below (by (with_reducible repeat (first | apply Kd.S_alloc | apply Kd.S_drewN | apply Kd.S_drew)); exact (Kd.S_mono (Kd.S_far (p := ⟨gb257, 1, none⟩) (Kd.S_far (p := ⟨gb257, 0, none⟩) (Kd.S_types HO254.1 BK257.1 (by decide)) (fun _ hk => hk.2) (.int .i64 t255)) (fun _ hk => hk.2) (.int .i64 t256)) (fun _ h_ => h_.1))) hb) (blk_below (g := gb240) (o := .cells #[.int .i64 a0_0, .int .i64 a0_1, .slice A0_2 l0_2.length c0_2] 30 (0, 0)) (PF1 NB240_257.1 BK240.1) hb) (blk_below (g := gb241) (o := .cells #[.int .i64 x242000_1, .int .i64 x242001_1, .int .i64 x242002_1] 54 (0, 0)) (PF1 NB241_257.1 BK241.1) hb) (blk_below (g := gb242) (o := .cells #[.int .i64 x243000_1, .int .i64 x243001_1, .slice none 0 0] 30 (0, 0)) (PF1 NB242_257.1 BK242.1) hb) (blk_below (g := gb248) (o := .cells #[.int .i64 t243, .int .i64 t244, .slice Ao88 x249002_1.length co88] 30 (0, 0)) (PF1 NB248_257.1 BK248.1) hb) (blk_below (g := gb257) (o := .cells #[.int .i64 t255, .int .i64 t256] 83 (0, 0)) (PF0 BK257.1) hb) (below_step (BL HB.1) hb) ?_; clear HO_249002 HO254 BK240 BK241 BK242 BK248 BK257 HB; intro HO_249002 HO254 BK240 BK241 BK242 BK248 BK257 HB; (try clear hb); (try clear hk); obtain ⟨hcz97_0, hcz97_1, hcz97_2, hfz97_0, hfz97_1, hfz97_2⟩ := cz3 BK248.1; obtain ⟨hcz98_0, hcz98_1, hcz98_2, hfz98_0, hfz98_1, hfz98_2⟩ := cz3 BK240.1) | ((with_reducible refine gate_callee (f := 97) rfl ?_); refine goesM (N := (some 52)) #[.agg #[.int .i64 t243, .int .i64 t244, .slice Ao88 x249002_1.length co88], .slice A1 l1.length c1, .int .i64 (wrap64 ((wrap64 (x12_1 * a0_1)) + x2_1))] Try.func97 ?_; (with_reducible refine (spec_flPass.calls k1 t243 t244 (fun k_ => some k_ = (.slice Ao88 x249002_1.length co88 : Value).ownBlock) (.slice Ao88 x249002_1.length co88) x249002_1 _ _ l1 (wrap64 ((wrap64 (x12_1 * a0_1)) + x2_1)) t259 w _ ?side1 ?side2 ?side3 ?side4 A50.1).mono ?_); (case side1 => exact BL HB.1); (case side2 => exact Kd.R_tight rfl HO_249002.1); (case side3 => exact Kd.C_kept_came (Kd.heap_int .i64) HR1.1 (BL HB.1) (fun k_ hs_ => (fun e_ => Kd.R_base HO_249002.1 k_ e_.symm) hs_)); (case side4 => exact HC1.1); rintro e w99 ⟨rfl, hy0, hb, hkp⟩; refine ⟨_, rfl, ?_⟩; refine E8 (Kd.R_reok rfl hy0 (fun k_ e_ => HO_249002.1.1 k_ e_)) (blk_kept (PB BK240.1) hkp (fun hs_ => (fun e_ => (Kd.R_ne HO_249002.1 BK240.1 (by decide)) e_) hs_)) (blk_kept (PB BK241.1) hkp (fun hs_ => (fun e_ => (Kd.R_ne HO_249002.1 BK241.1 (by decide)) e_) hs_)) (blk_kept (PB BK242.1) hkp (fun hs_ => (fun e_ => (Kd.R_ne HO_249002.1 BK242.1 (by decide)) e_) hs_)) (blk_kept (PB BK248.1) hkp (fun hs_ => (fun e_ => (Kd.R_ne HO_249002.1 BK248.1 (by decide)) e_) hs_)) (Kd.S_mono (ok' := fun k_ => True) (Kd.S_keptB ((Kd.S_apart' HO254.1 (Kd.R_typed HO_249002.1) (by decide))) hkp (fun k_ hk_ hs_ => (hk_.2) hs_)) (fun k_ hk_ => trivial)) (blk_kept (PB BK257.1) hkp (fun hs_ => (fun e_ => (Kd.R_away HO_249002.1 (fun _ hk => hk.2)) e_) hs_)) (hb) ?_; clear HO_249002 BK240 BK241 BK242 BK248 HO254 BK257 HB; intro HO_249002 BK240 BK241 BK242 BK248 HO254 BK257 HB; (try clear hb); (try clear hkp); (try clear hy0); obtain ⟨hcz100_0, hcz100_1, hcz100_2, hfz100_0, hfz100_1, hfz100_2⟩ := cz3 BK240.1) | ((with_reducible refine gate_callee (f := 55) rfl ?_); refine goesM (N := (some 62)) #[.int .i64 (wrap64 (x2_1 + t258)), .int .i64 0, .int .i64 (wrap64 (a0_1 - 1))] Try.func55 ?_; (with_reducible refine (spec_l1In.calls (wrap64 (x2_1 + t258)) 0 (wrap64 (a0_1 - 1)) false _ A51.1).mono ?_); rintro e w' ⟨rfl, ⟨nd, rfl⟩⟩; refine ⟨_, rfl, ?_⟩; (try (rw [drewN_self w99]; generalize hq_ : World.drewN w99 _ = w99; have n0_ : Aside0 (Kd.S (Kd.slice 3 (Kd.int .i64)) 38 w99 w.heap.size (fun _ => True) v253 y252) := ⟨by rw [← hq_]; exact (PS HO254.1)⟩; have n1_ : Aside0 (Kd.R k83 83 w99 w.heap.size (fun k_ => k_ ≠ gb257) (.slice Ao88 x249002_1.length co88) t259) := ⟨by rw [← hq_]; exact (by (with_reducible repeat (first | apply Kd.R_alloc | apply Kd.R_drewN | apply Kd.R_drew)); exact Kd.R_mono HO_249002.1 (fun _ hk => hk.2))⟩; have n2_ : Aside0 (w99.heap[gb240]? = some (.cells #[.int .i64 a0_0, .int .i64 a0_1, .slice A0_2 l0_2.length c0_2] 30 (0, 0))) := ⟨by rw [← hq_]; exact (PB BK240.1)⟩; have n3_ : Aside0 (w99.heap[gb241]? = some (.cells #[.int .i64 x242000_1, .int .i64 x242001_1, .int .i64 x242002_1] 54 (0, 0))) := ⟨by rw [← hq_]; exact (PB BK241.1)⟩; have n4_ : Aside0 (w99.heap[gb242]? = some (.cells #[.int .i64 x243000_1, .int .i64 x243001_1, .slice none 0 0] 30 (0, 0))) := ⟨by rw [← hq_]; exact (PB BK242.1)⟩; have n5_ : Aside0 (w99.heap[gb248]? = some (.cells #[.int .i64 t243, .int .i64 t244, .slice Ao88 x249002_1.length co88] 30 (0, 0))) := ⟨by rw [← hq_]; exact (PB BK248.1)⟩; have n6_ : Aside0 (w99.heap[gb257]? = some (.cells #[.int .i64 t255, .int .i64 t256] 83 (0, 0))) := ⟨by rw [← hq_]; exact (PB BK257.1)⟩; have n7_ : Aside0 (Below w.heap.size w w99) := ⟨by rw [← hq_]; exact (BL HB.1)⟩; clear HO254 HO_249002 BK240 BK241 BK242 BK248 BK257 HB hq_; have HO254 := n0_; have HO_249002 := n1_; have BK240 := n2_; have BK241 := n3_; have BK242 := n4_; have BK248 := n5_; have BK257 := n6_; have HB := n7_; clear n0_ n1_ n2_ n3_ n4_ n5_ n6_ n7_))))
    refine E8 (Kd.R_drew HO_249002.1) (Kd.S_drew HO254.1) (blk_drew BK240.1) (blk_drew BK241.1) (blk_drew BK242.1) (blk_drew BK248.1) (blk_drew BK257.1) (below_drew1 HB.1) ?_
    clear HO_249002 HO254 BK240 BK241 BK242 BK248 BK257 HB
    intro HO_249002 HO254 BK240 BK241 BK242 BK248 BK257 HB
    refine start_ (n := 8) (S := fun w' => w'.cell? ⟨gb248, 0, none⟩ = some (.int .i64 t243) ∧ w'.cell? ⟨gb248, 1, none⟩ = some (.int .i64 t244) ∧ w'.cell? ⟨gb248, 2, none⟩ = some (.slice Ao88 x249002_1.length co88)) (ds := []) #[Zz,Zz,Zz,Zz,Zz,Zz,Zz,Zz] (by kernel_rfl) rfl rfl ⟨(blk_cell BK248.1 0).trans rfl, (blk_cell BK248.1 1).trans rfl, (blk_cell BK248.1 2).trans rfl⟩ (fun hHeld => ?_); refine with_tabW spec_flGo.tab16 spec_flGo.bits16 (fun HT_ HW_ => ?_)
    generalize w99.drew = w101 at HO_249002 HO254 BK240 BK241 BK242 BK248 BK257 HB hHeld ⊢
    refine pureE (i := 0) (N := some 64) #[Yy,Zz,Zz,Zz,Zz,Zz,Zz,Zz] HT_.1 ?_
    refine pureE (i := 1) (N := some 65) #[Yy,Yy,Zz,Zz,Zz,Zz,Zz,Zz] HT_.1 ?_
    refine pureE (i := 2) (N := some 66) #[Yy,Yy,Yy,Zz,Zz,Zz,Zz,Zz] HT_.1 ?_
    refine pureE (i := 4) (N := some 68) #[Yy,Yy,Yy,Zz,Yy,Zz,Zz,Zz] HT_.1 ?_
    refine take_ (i := 3) (N := some 67) (v := ?_) (a' := ?_) #[Yy,Yy,Yy,Yy,Yy,Zz,Zz,Zz] rfl rfl (take_ofW HT_.1 HW_.1 (by kernel_rfl)) (fun _ _ _ h => h) (Or.inl ⟨by rfl, ?_⟩) hHeld ?_ ?_
    rotate_left
    · rintro w' ⟨s0, s1, s2⟩
      go_simp
      with_reducible rfl
    rotate_left
    · simp only [Act.put, List.setIfInBounds_toArray, List.set_cons_zero, List.set_cons_succ, i64_w, i32_w]
      rfl
    refine one_ (i := 5) (N := none) #[Yy,Yy,Yy,Yy,Yy,Yy,Zz,Zz] rfl rfl (one_of HT_.1 (by kernel_rfl)) (by decide) (fun K hK => ?_)
    have hs102 : w101.cell? ⟨gb241, 0, none⟩ = some (.int .i64 x242000_1) := (blk_cell BK241.1 0).trans rfl
    have hfs102 := blk_frozen BK241.1 0
    have hns102_2 := NB242_241.1
    have hms102_2 := NB241_242.1
    have hs103 : w101.cell? ⟨gb241, 1, none⟩ = some (.int .i64 x242001_1) := (blk_cell BK241.1 1).trans rfl
    have hfs103 := blk_frozen BK241.1 1
    have hs104 : w101.cell? ⟨gb241, 2, none⟩ = some (.int .i64 x242002_1) := (blk_cell BK241.1 2).trans rfl
    have hfs104 := blk_frozen BK241.1 2
    refine skip_ (w1 := ?_) (by rfl) rfl ?_ ?_
    rotate_left
    · go_simp
      rfl
    refine hK.out _ _ ⟨(CF3 NB248_241.1 hHeld.1), (CF3 NB248_241.1 hHeld.2.1), (CF3 NB248_241.1 hHeld.2.2)⟩ (fun hHeld => ?_)
    clear hK K
    refine one_ (i := 6) (N := none) #[Yy,Yy,Yy,Yy,Yy,Yy,Yy,Zz] rfl rfl (one_of HT_.1 (by kernel_rfl)) (by decide) (fun K hK => ?_)
    have hs105 : w101.cell? ⟨gb242, 0, none⟩ = some (.int .i64 x243000_1) := (blk_cell BK242.1 0).trans rfl
    have hfs105 := blk_frozen BK242.1 0
    have hs106 : w101.cell? ⟨gb242, 1, none⟩ = some (.int .i64 x243001_1) := (blk_cell BK242.1 1).trans rfl
    have hfs106 := blk_frozen BK242.1 1
    have hs107 : w101.cell? ⟨gb242, 2, none⟩ = some (.slice none 0 0) := (blk_cell BK242.1 2).trans rfl
    have hfs107 := blk_frozen BK242.1 2
    refine skip_ (w1 := ?_) (by rfl) rfl ?_ ?_
    rotate_left
    · go_simp
      rfl
    refine hK.out _ _ ⟨(CF3 NB248_242.1 hHeld.1), (CF3 NB248_242.1 hHeld.2.1), (CF3 NB248_242.1 hHeld.2.2)⟩ (fun hHeld => ?_)
    clear hK K
    refine pureE (i := 7) (N := some 8) #[Yy,Yy,Yy,Yy,Yy,Yy,Yy,Yy] HT_.1 ?_
    refine done_ (done_of HT_.1 (by kernel_rfl)) ?_
    try go_wp2
    refine bodyPost_ret (results_list (rs := [.cell 6 54, .cell 7 30, .tmp 8]) rfl (by simp) (.cell gb241 54 #[.int .i64 3, .int .i64 x12_1, .int .i64 (wrap64 (x2_1 + t258))] (0, 0) _ rfl (PF1 NB241_242.1 BK241.1) Try.underlying54 rfl (by kernel_rfl) (.cell gb242 30 #[.int .i64 t243, .int .i64 t244, .slice Ao88 x249002_1.length co88] (0, 0) _ rfl (PF1 NB242_241.1 BK242.1) Try.underlying30 rfl (by kernel_rfl) (.tmp .nil)))) rfl ?_
    exact ⟨_, _, RF, by (with_reducible repeat (first | apply Kd.R_alloc | apply Kd.R_drewN | apply Kd.R_drew)); exact Kd.R_mono (Kd.R_far (p := ⟨gb242, 2, none⟩) (Kd.R_far (p := ⟨gb242, 1, none⟩) (Kd.R_far (p := ⟨gb242, 0, none⟩) (Kd.R_far (p := ⟨gb241, 2, none⟩) (Kd.R_far (p := ⟨gb241, 1, none⟩) (Kd.R_far (p := ⟨gb241, 0, none⟩) (Kd.R_types (Kd.R_types HO_249002.1 BK241.1 (by decide)) BK242.1 (by decide)) (fun _ hk => hk.1.2) (.int .i64 3)) (fun _ hk => hk.1.2) (.int .i64 x12_1)) (fun _ hk => hk.1.2) (.int .i64 (wrap64 (x2_1 + t258)))) (fun _ hk => hk.2) (.int .i64 t243)) (fun _ hk => hk.2) (.int .i64 t244)) (fun _ hk => hk.2) (.slice Ao88 x249002_1.length co88)) (fun _ hk => trivial), by (with_reducible repeat (first | apply Kd.S_alloc | apply Kd.S_drewN | apply Kd.S_drew)); exact Kd.S_mono (Kd.S_far (p := ⟨gb242, 2, none⟩) (Kd.S_far (p := ⟨gb242, 1, none⟩) (Kd.S_far (p := ⟨gb242, 0, none⟩) (Kd.S_far (p := ⟨gb241, 2, none⟩) (Kd.S_far (p := ⟨gb241, 1, none⟩) (Kd.S_far (p := ⟨gb241, 0, none⟩) (Kd.S_types (Kd.S_types HO254.1 BK241.1 (by decide)) BK242.1 (by decide)) (fun _ hk => hk.1.2) (.int .i64 3)) (fun _ hk => hk.1.2) (.int .i64 x12_1)) (fun _ hk => hk.1.2) (.int .i64 (wrap64 (x2_1 + t258)))) (fun _ hk => hk.2) (.int .i64 t243)) (fun _ hk => hk.2) (.int .i64 t244)) (fun _ hk => hk.2) (.slice Ao88 x249002_1.length co88)) (fun _ hk => trivial), BL HB.1⟩
  simp only [Option.some.injEq, Prod.mk.injEq] at H
  obtain ⟨rfl, rfl, rfl, rfl, rfl, rfl, rfl⟩ := H
  obtain ⟨hcz111_0, hcz111_1, hcz111_2, hfz111_0, hfz111_1, hfz111_2⟩ := cz3 BK240.1
  try go_wp2
  refine E7 (Kd.S_drew HO_10.1) (Kd.R_drew HO_249002.1) (blk_drew BK240.1) (blk_drew BK241.1) (blk_drew BK242.1) (blk_drew BK248.1) (below_drew1 HB.1) ?_
  clear HO_10 HO_249002 BK240 BK241 BK242 BK248 HB
  intro HO_10 HO_249002 BK240 BK241 BK242 BK248 HB
  obtain ⟨Ao118, co118, eo118⟩ := Kd.R_slice HO_249002.1
  (first | subst eo118 | (injection eo118 with f1_ f2_ f3_; have f4_ := f1_.symm; have f5_ := f3_.symm; clear f1_ f2_ f3_; subst f4_; subst f5_))
  refine start_ (n := 9) (S := fun w' => w'.cell? ⟨gb240, 0, none⟩ = some (.int .i64 a0_0) ∧ w'.cell? ⟨gb240, 1, none⟩ = some (.int .i64 a0_1) ∧ w'.cell? ⟨gb240, 2, none⟩ = some (.slice A0_2 l0_2.length c0_2) ∧ w'.cell? ⟨gb248, 0, none⟩ = some (.int .i64 t243) ∧ w'.cell? ⟨gb248, 1, none⟩ = some (.int .i64 t244) ∧ w'.cell? ⟨gb248, 2, none⟩ = some (.slice Ao118 x249002_1.length co118)) (ds := []) #[Zz,Zz,Zz,Zz,Zz,Zz,Zz,Zz,Zz] (by kernel_rfl) rfl rfl ⟨(blk_cell BK240.1 0).trans rfl, (blk_cell BK240.1 1).trans rfl, (blk_cell BK240.1 2).trans rfl, (blk_cell BK248.1 0).trans rfl, (blk_cell BK248.1 1).trans rfl, (blk_cell BK248.1 2).trans rfl⟩ (fun hHeld => ?_); refine with_tabW spec_flGo.tab17 spec_flGo.bits17 (fun HT_ HW_ => ?_)
  generalize wr.drew = w112 at HO_10 HO_249002 BK240 BK241 BK242 BK248 HB hHeld ⊢
  refine pureE (i := 0) (N := some 69) #[Yy,Zz,Zz,Zz,Zz,Zz,Zz,Zz,Zz] HT_.1 ?_
  refine pureE (i := 2) (N := some 71) #[Yy,Zz,Yy,Zz,Zz,Zz,Zz,Zz,Zz] HT_.1 ?_
  refine pureE (i := 5) (N := some 74) #[Yy,Zz,Yy,Zz,Zz,Yy,Zz,Zz,Zz] HT_.1 ?_
  refine take_ (i := 1) (N := some 70) (v := ?_) (a' := ?_) #[Yy,Yy,Yy,Zz,Zz,Yy,Zz,Zz,Zz] rfl rfl (take_ofW HT_.1 HW_.1 (by kernel_rfl)) (fun _ _ _ h => h) (Or.inl ⟨by rfl, ?_⟩) hHeld ?_ ?_
  rotate_left
  · rintro w' ⟨s0, s1, s2, s3, s4, s5⟩
    go_simp
    with_reducible rfl
  rotate_left
  · simp only [Act.put, List.setIfInBounds_toArray, List.set_cons_zero, List.set_cons_succ, i64_w, i32_w]
    rfl
  refine pureE (i := 3) (N := some 72) #[Yy,Yy,Yy,Yy,Zz,Yy,Zz,Zz,Zz] HT_.1 ?_
  refine take_ (i := 4) (N := some 73) (v := ?_) (a' := ?_) #[Yy,Yy,Yy,Yy,Yy,Yy,Zz,Zz,Zz] rfl rfl (take_ofW HT_.1 HW_.1 (by kernel_rfl)) (fun _ _ _ h => h) (Or.inl ⟨by rfl, ?_⟩) hHeld ?_ ?_
  rotate_left
  · rintro w' ⟨s0, s1, s2, s3, s4, s5⟩
    go_simp
    with_reducible rfl
  rotate_left
  · simp only [Act.put, List.setIfInBounds_toArray, List.set_cons_zero, List.set_cons_succ, i64_w, i32_w]
    rfl
  refine one_ (i := 6) (N := none) #[Yy,Yy,Yy,Yy,Yy,Yy,Yy,Zz,Zz] rfl rfl (one_of HT_.1 (by kernel_rfl)) (by decide) (fun K hK => ?_)
  have hs113 : w112.cell? ⟨gb241, 0, none⟩ = some (.int .i64 x242000_1) := (blk_cell BK241.1 0).trans rfl
  have hfs113 := blk_frozen BK241.1 0
  have hns113_2 := NB242_241.1
  have hms113_2 := NB241_242.1
  have hs114 : w112.cell? ⟨gb241, 1, none⟩ = some (.int .i64 x242001_1) := (blk_cell BK241.1 1).trans rfl
  have hfs114 := blk_frozen BK241.1 1
  have hs115 : w112.cell? ⟨gb241, 2, none⟩ = some (.int .i64 x242002_1) := (blk_cell BK241.1 2).trans rfl
  have hfs115 := blk_frozen BK241.1 2
  refine skip_ (w1 := ?_) (by rfl) rfl ?_ ?_
  rotate_left
  · go_simp
    rfl
  refine hK.out _ _ ⟨(CF3 NB240_241.1 hHeld.1), (CF3 NB240_241.1 hHeld.2.1), (CF3 NB240_241.1 hHeld.2.2.1), (CF3 NB248_241.1 hHeld.2.2.2.1), (CF3 NB248_241.1 hHeld.2.2.2.2.1), (CF3 NB248_241.1 hHeld.2.2.2.2.2)⟩ (fun hHeld => ?_)
  clear hK K
  refine one_ (i := 7) (N := none) #[Yy,Yy,Yy,Yy,Yy,Yy,Yy,Yy,Zz] rfl rfl (one_of HT_.1 (by kernel_rfl)) (by decide) (fun K hK => ?_)
  have hs116 : w112.cell? ⟨gb242, 0, none⟩ = some (.int .i64 x243000_1) := (blk_cell BK242.1 0).trans rfl
  have hfs116 := blk_frozen BK242.1 0
  have hs117 : w112.cell? ⟨gb242, 1, none⟩ = some (.int .i64 x243001_1) := (blk_cell BK242.1 1).trans rfl
  have hfs117 := blk_frozen BK242.1 1
  have hs119 : w112.cell? ⟨gb242, 2, none⟩ = some (.slice none 0 0) := (blk_cell BK242.1 2).trans rfl
  have hfs119 := blk_frozen BK242.1 2
  refine skip_ (w1 := ?_) (by rfl) rfl ?_ ?_
  rotate_left
  · go_simp
    rfl
  refine hK.out _ _ ⟨(CF3 NB240_242.1 hHeld.1), (CF3 NB240_242.1 hHeld.2.1), (CF3 NB240_242.1 hHeld.2.2.1), (CF3 NB248_242.1 hHeld.2.2.2.1), (CF3 NB248_242.1 hHeld.2.2.2.2.1), (CF3 NB248_242.1 hHeld.2.2.2.2.2)⟩ (fun hHeld => ?_)
  clear hK K
  refine pureE (i := 8) (N := some 8) #[Yy,Yy,Yy,Yy,Yy,Yy,Yy,Yy,Yy] HT_.1 ?_
  refine done_ (done_of HT_.1 (by kernel_rfl)) ?_
  try go_wp2
  refine bodyPost_ret (results_list (rs := [.cell 6 54, .cell 7 30, .tmp 8]) rfl (by simp) (.cell gb241 54 #[.int .i64 1, .int .i64 a0_0, .int .i64 x2_1] (0, 0) _ rfl (PF1 NB241_242.1 BK241.1) Try.underlying54 rfl (by kernel_rfl) (.cell gb242 30 #[.int .i64 t243, .int .i64 t244, .slice Ao118 x249002_1.length co118] (0, 0) _ rfl (PF1 NB242_241.1 BK242.1) Try.underlying30 rfl (by kernel_rfl) (.tmp .nil)))) rfl ?_
  exact ⟨_, _, RF, by (with_reducible repeat (first | apply Kd.R_alloc | apply Kd.R_drewN | apply Kd.R_drew)); exact Kd.R_mono (Kd.R_far (p := ⟨gb242, 2, none⟩) (Kd.R_far (p := ⟨gb242, 1, none⟩) (Kd.R_far (p := ⟨gb242, 0, none⟩) (Kd.R_far (p := ⟨gb241, 2, none⟩) (Kd.R_far (p := ⟨gb241, 1, none⟩) (Kd.R_far (p := ⟨gb241, 0, none⟩) (Kd.R_types (Kd.R_types HO_249002.1 BK241.1 (by decide)) BK242.1 (by decide)) (fun _ hk => hk.1.2) (.int .i64 1)) (fun _ hk => hk.1.2) (.int .i64 a0_0)) (fun _ hk => hk.1.2) (.int .i64 x2_1)) (fun _ hk => hk.2) (.int .i64 t243)) (fun _ hk => hk.2) (.int .i64 t244)) (fun _ hk => hk.2) (.slice Ao118 x249002_1.length co118)) (fun _ hk => trivial), by (with_reducible repeat (first | apply Kd.S_alloc | apply Kd.S_drewN | apply Kd.S_drew)); exact Kd.S_mono (Kd.S_far (p := ⟨gb242, 2, none⟩) (Kd.S_far (p := ⟨gb242, 1, none⟩) (Kd.S_far (p := ⟨gb242, 0, none⟩) (Kd.S_far (p := ⟨gb241, 2, none⟩) (Kd.S_far (p := ⟨gb241, 1, none⟩) (Kd.S_far (p := ⟨gb241, 0, none⟩) (Kd.S_types (Kd.S_types HO_10.1 BK241.1 (by decide)) BK242.1 (by decide)) (fun _ hk => hk.1.2) (.int .i64 1)) (fun _ hk => hk.1.2) (.int .i64 a0_0)) (fun _ hk => hk.1.2) (.int .i64 x2_1)) (fun _ hk => hk.2) (.int .i64 t243)) (fun _ hk => hk.2) (.int .i64 t244)) (fun _ hk => hk.2) (.slice Ao118 x249002_1.length co118)) (fun _ hk => trivial), BL HB.1⟩
end Go.Proofs.Ytbpfdbjnnlmdjaa.P
