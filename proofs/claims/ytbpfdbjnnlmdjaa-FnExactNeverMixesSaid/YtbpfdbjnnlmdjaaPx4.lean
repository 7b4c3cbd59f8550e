-- PRINTED by print.py (a twelfth state) out of the translation. Not trusted: Lean checks it.
import Derived.Test.YtbpfdbjnnlmdjaaPx0
import Derived.Test.YtbpfdbjnnlmdjaaPx3
import Derived.Test.YtbpfdbjnnlmdjaaMapW
namespace Go.Proofs.Ytbpfdbjnnlmdjaa.P
open Go.RowKit Go.Proofs.YtbpfdbjnnlmdjaaW.PrintWords Go.Proofs.YtbpfdbjnnlmdjaaW.PrintLast Go.Proofs.YtbpfdbjnnlmdjaaW.PrintMore
attribute [local go_sem] max2_int min2_int max_two min_two max_three min_three max_four min_four   -- for this text's walks alone
set_option linter.unusedVariables false
set_option linter.unusedSimpArgs false

/-! ### laws_toBoard: function 15 -/
def laws_toBoard.f (k : Nat) (a0_0 : Int) (a0_1 : Int) (l0_2 : List (S85)) : Option (Int × Int × (List (S83))) := (laws_toCellS.f k l0_2).bind fun t354 => (some (a0_0, a0_1, t354))
theorem laws_toBoard.mono : ∀ a0 a1 a2 k, LeO (laws_toBoard.f k a0 a1 a2) (laws_toBoard.f (k + 1) a0 a1 a2) := by
  intro a0 a1 a2 k
  unfold laws_toBoard.f
  repeat' first
      | (with_reducible exact laws_toCellS.mono _ _)
      | (with_reducible exact LeO.refl _)
      | (with_reducible exact LeO.none _)
      | (with_reducible refine LeO.ite ?_ ?_)
      | (with_reducible refine LeO.bind ?_ (fun _ => ?_))
      | exact laws_toCellS.mono _ _
      | exact LeO.none _
      | refine LeO.ite ?_ ?_
      | refine LeO.bind ?_ (fun _ => ?_)
set_option maxHeartbeats 8000000 in
set_option maxRecDepth 100000 in
theorem laws_toBoard.calls (k : Nat) (a0_0 : Int) (a0_1 : Int) (A0_2 : Option Addr) (c0_2 : Nat) (l0_2 : List (S85)) (r1 : Int) (r2 : Int) (r3 : List (S83)) (w : World) (hr0_2 : Kd.C k85 w A0_2 l0_2.length l0_2) (hc0_2 : l0_2.length ≤ c0_2) (h : laws_toBoard.f k a0_0 a0_1 l0_2 = some (r1, r2, r3)) :
    Calls Try.prog 15 #[.agg #[.int .i64 a0_0, .int .i64 a0_1, .slice A0_2 l0_2.length c0_2]] w fun e w' => ∃ v2_ : Value, e = .returned (.agg #[.int .i64 r1, .int .i64 r2, v2_]) ∧ Kd.R k83 83 w' w.heap.size (fun _ => True) v2_ r3 ∧ Below w.heap.size w w' := by
  have hu24 := Try.underlying24
  have hu30 := Try.underlying30
  have HR0_2 := Aside0.mk hr0_2
  have HC0_2 := Aside0.mk hc0_2
  clear hr0_2 hc0_2
  have HB := Aside0.mk (Below.refl w.heap.size w)
  have H := h
  clear h
  unfold laws_toBoard.f at H
  replace H := bindA H; obtain ⟨t354, A2, H⟩ := H
  simp only [Option.some.injEq, Prod.mk.injEq] at H
  obtain ⟨rfl, rfl, rfl⟩ := H
  go_enter Try.func15, Try.ntmps15
  go_wp2_with (first | ((with_reducible refine gate_dst (N := 1) rfl ?_); refine boxE (cs := #[.int .i64 a0_0, .int .i64 a0_1, .slice A0_2 l0_2.length c0_2]) (t := 24) ?_; intro gb351 hg w3 hbox hb; refine E4b HB.1 hg hbox hb ?_; clear HB; intro HB BK351 GW351 GE351; clear hb hbox hg) | ((with_reducible refine gate_dst (N := 2) rfl ?_); refine boxE (cs := #[.int .i64 0, .int .i64 0, .slice none 0 0]) (t := 30) ?_; intro gb352 hg w4 hbox hb; refine E7 (bB BK351.1 hb) (below_step (BL HB.1) hb) (hbox) (gX HB.1 hg) (gX HB.1 hg) (nB BK351.1 hg) (nC BK351.1 hg) ?_; clear BK351 HB; intro BK351 HB BK352 GW352 GE352 NB351_352 NB352_351; clear hb hbox hg) | ((with_reducible refine gate_dst (N := 3) rfl ?_); refine boxE (cs := #[.int .i64 0, .int .i64 0, .slice none 0 0]) (t := 30) ?_; intro gb353 hg w5 hbox hb; refine E10 (bB BK351.1 hb) (bB BK352.1 hb) (below_step (BL HB.1) hb) (hbox) (gX HB.1 hg) (gX HB.1 hg) (nB BK351.1 hg) (nC BK351.1 hg) (nB BK352.1 hg) (nC BK352.1 hg) ?_; clear BK351 BK352 HB; intro BK351 BK352 HB BK353 GW353 GE353 NB351_353 NB353_351 NB352_353 NB353_352; clear hb hbox hg; have hnb6 := NB351_352.1; have hnc6 := NB352_351.1; have hnb7 := NB351_353.1; have hnc7 := NB353_351.1; obtain ⟨hcz8_0, hcz8_1, hcz8_2, hfz8_0, hfz8_1, hfz8_2⟩ := cz3 BK351.1; have hnb9 := NB353_352.1; have hnc9 := NB352_353.1; obtain ⟨hcz10_0, hcz10_1, hcz10_2, hfz10_0, hfz10_1, hfz10_2⟩ := cz3 BK353.1) | ((with_reducible refine gate_callee (f := 45) rfl ?_); refine goesM (N := (some 12)) #[.slice A0_2 l0_2.length c0_2] Try.func45 ?_; (with_reducible refine (laws_toCellS.calls k _ _ l0_2 t354 _ ?side1 ?side2 A2.1).mono ?_); (case side1 => exact Kd.C_below HR0_2.1 (BL HB.1)); (case side2 => exact HC0_2.1); rintro e w11 ⟨v355, rfl, ho0, hb⟩; refine ⟨_, rfl, ?_⟩; refine E5 (Kd.R_lower ho0 (below_size (BL HB.1))) (blk_below (g := gb351) (o := .cells #[.int .i64 a0_0, .int .i64 a0_1, .slice A0_2 l0_2.length c0_2] 24 (0, 0)) (PF1 NB351_353.1 BK351.1) hb) (blk_below (g := gb352) (o := .cells #[.int .i64 0, .int .i64 0, .slice none 0 0] 30 (0, 0)) (PF1 NB352_353.1 BK352.1) hb) (blk_below (g := gb353) (o := .cells #[.int .i64 a0_0, .int .i64 a0_1, .slice none 0 0] 30 (0, 0)) (PF0 BK353.1) hb) (below_step (BL HB.1) hb) ?_; clear BK351 BK352 BK353 HB; intro HO356 BK351 BK352 BK353 HB; (try clear hb); (try clear ho0); obtain ⟨Ao12, co12, eo12⟩ := Kd.R_slice HO356.1; subst eo12; obtain ⟨hcz13_0, hcz13_1, hcz13_2, hfz13_0, hfz13_1, hfz13_2⟩ := cz3 BK353.1; obtain ⟨hcz14_0, hcz14_1, hcz14_2, hfz14_0, hfz14_1, hfz14_2⟩ := cz3 BK352.1))
  refine bodyPost_ret (results_cell_row rfl _ _ gb352 30 #[.int .i64 a0_0, .int .i64 a0_1, .slice Ao12 t354.length co12] (0, 0) _ rfl (PF1 NB352_353.1 BK352.1) Try.underlying30 rfl (by kernel_rfl)) rfl ?_
  exact ⟨_, RF, by (with_reducible repeat (first | apply Kd.R_alloc | apply Kd.R_drewN | apply Kd.R_drew)); exact Kd.R_mono (Kd.R_far (p := ⟨gb352, 2, none⟩) (Kd.R_far (p := ⟨gb352, 1, none⟩) (Kd.R_far (p := ⟨gb352, 0, none⟩) (Kd.R_far (p := ⟨gb353, 2, none⟩) (Kd.R_types (Kd.R_types HO356.1 BK353.1 (by decide)) BK352.1 (by decide)) (fun _ hk => hk.1.2) (.slice Ao12 t354.length co12)) (fun _ hk => hk.2) (.int .i64 a0_0)) (fun _ hk => hk.2) (.int .i64 a0_1)) (fun _ hk => hk.2) (.slice Ao12 t354.length co12)) (fun _ hk => trivial), BL HB.1⟩

/-! ### impl_isGeared: function 87 -/
def impl_isGeared.f (a0_0 : Int) (a0_1 : Int) : Option (Bool) := if a0_0 = 6 then (some true) else (some (a0_0 == 7))
set_option maxHeartbeats 8000000 in
set_option maxRecDepth 100000 in
theorem impl_isGeared.calls (a0_0 : Int) (a0_1 : Int) (r : Bool) (w : World) (h : impl_isGeared.f a0_0 a0_1 = some r) :
    Calls Try.prog 87 #[.agg #[.int .i64 a0_0, .int .i64 a0_1]] w fun e w' => e = .returned (.bool r) ∧ Below w.heap.size w w' := by
  have hu83 := Try.underlying83
  have HB := Aside0.mk (Below.refl w.heap.size w)
  have H := h
  clear h
  unfold impl_isGeared.f at H
  replace H := ifQ H; rcases H with ⟨c2, H⟩ | ⟨c2, H⟩
  · have c2b0 := beq_iff_eq.mpr c2
    have c2b1 := bne_eq_false_iff_eq.mpr c2
    clear c2
    obtain rfl := Option.some.inj H
    go_enter Try.func87, Try.ntmps87
    go_wp2_with (first | ((with_reducible refine gate_dst (N := 1) rfl ?_); refine boxE (cs := #[.int .i64 a0_0, .int .i64 a0_1]) (t := 83) ?_; intro gb357 hg w3 hbox hb; refine E4b HB.1 hg hbox hb ?_; clear HB; intro HB BK357 GW357 GE357; clear hb hbox hg; obtain ⟨hcz4_0, hcz4_1, hfz4_0, hfz4_1⟩ := cz2 BK357.1))
    go_ret
    exact ⟨RF, BL HB.1⟩
  have c2b0 := beq_eq_false_iff_ne.mpr c2
  have c2b1 := bne_iff_ne.mpr c2
  obtain rfl := Option.some.inj H
  go_enter Try.func87, Try.ntmps87
  go_wp2_with (first | ((with_reducible refine gate_dst (N := 1) rfl ?_); refine boxE (cs := #[.int .i64 a0_0, .int .i64 a0_1]) (t := 83) ?_; intro gb357 hg w5 hbox hb; refine E4b HB.1 hg hbox hb ?_; clear HB; intro HB BK357 GW357 GE357; clear hb hbox hg; obtain ⟨hcz6_0, hcz6_1, hfz6_0, hfz6_1⟩ := cz2 BK357.1))
  go_ret
  exact ⟨RF, BL HB.1⟩
/-! ### impl_besideOf: function 88 -/
mutual
def impl_besideOf.j0 : Nat → Int → List Int → Int → Int → Int → Int → List (S83) → Option (List Int)
  | 0, _, _, _, _, _, _, _ => none
  | k + 1, x1, x5, x6, x7, x359000, x359001, x359002 => if x7 > 0 then (if x5.length < 17592186044416 then (impl_besideOf.j1 k x1 (x5 ++ [wrap64 (x1 - 1)]) x6 x7 x359000 x359001 x359002) else (none)) else (impl_besideOf.j1 k x1 x5 x6 x7 x359000 x359001 x359002)
def impl_besideOf.j1 : Nat → Int → List Int → Int → Int → Int → Int → List (S83) → Option (List Int)
  | 0, _, _, _, _, _, _, _ => none
  | k + 1, x1, x5, x6, x7, x359000, x359001, x359002 => if (wrap64 (x7 + 1)) < x359001 then (if x5.length < 17592186044416 then ((some (x5 ++ [wrap64 (x1 + 1)] : List Int)).bind fun y368 => (if (wrap64 (x6 + 1)) < x359000 then (if y368.length < 17592186044416 then (some (y368 ++ [wrap64 (x1 + x359001)])) else (none)) else (some y368))) else (none)) else (if (wrap64 (x6 + 1)) < x359000 then (if x5.length < 17592186044416 then (some (x5 ++ [wrap64 (x1 + x359001)])) else (none)) else (some x5))
end
def impl_besideOf.f (k : Nat) (a0_0 : Int) (a0_1 : Int) (l0_2 : List (S83)) (a1 : Int) : Option (List Int) := (some (([] : List Int) : List Int)).bind fun y359 => (if a0_1 = 0 then (none) else (if (wrap64 (Int.tdiv a1 a0_1)) > 0 then (if y359.length < 17592186044416 then (impl_besideOf.j0 k a1 (y359 ++ [wrap64 (a1 - a0_1)]) (wrap64 (Int.tdiv a1 a0_1)) (Int.tmod a1 a0_1) a0_0 a0_1 l0_2) else (none)) else (impl_besideOf.j0 k a1 y359 (wrap64 (Int.tdiv a1 a0_1)) (Int.tmod a1 a0_1) a0_0 a0_1 l0_2)))
theorem impl_besideOf.mono_l : ∀ k, (∀ y0 y1 y2 y3 y4 y5 y6, LeO (impl_besideOf.j0 k y0 y1 y2 y3 y4 y5 y6) (impl_besideOf.j0 (k + 1) y0 y1 y2 y3 y4 y5 y6)) ∧ (∀ y0 y1 y2 y3 y4 y5 y6, LeO (impl_besideOf.j1 k y0 y1 y2 y3 y4 y5 y6) (impl_besideOf.j1 (k + 1) y0 y1 y2 y3 y4 y5 y6))
  | 0 => by refine ⟨?_, ?_⟩ <;> (intros; intro r h; first | (simp [impl_besideOf.j0] at h; done) | (simp [impl_besideOf.j1] at h; done))
  | k + 1 => by
    obtain ⟨ih0, ih1⟩ := impl_besideOf.mono_l k
    refine ⟨?_, ?_⟩ <;> (
      intros
      first | unfold impl_besideOf.j0 | unfold impl_besideOf.j1
      repeat' first | (with_reducible first | apply ih0 | apply ih1 | exact LeO.refl _ | exact LeO.none _ | refine LeO.ite ?_ ?_ | refine LeO.bind ?_ (fun _ => ?_)) | apply ih0 | apply ih1 | exact LeO.none _ | refine LeO.ite ?_ ?_ | refine LeO.bind ?_ (fun _ => ?_))
theorem impl_besideOf.mono : ∀ a0 a1 a2 a3 k, LeO (impl_besideOf.f k a0 a1 a2 a3) (impl_besideOf.f (k + 1) a0 a1 a2 a3) := by
  intro a0 a1 a2 a3 k
  obtain ⟨ih0, ih1⟩ := impl_besideOf.mono_l k
  unfold impl_besideOf.f
  repeat' first | (with_reducible first | apply ih0 | apply ih1 | exact LeO.refl _ | exact LeO.none _ | refine LeO.ite ?_ ?_ | refine LeO.bind ?_ (fun _ => ?_)) | apply ih0 | apply ih1 | exact LeO.none _ | refine LeO.ite ?_ ?_ | refine LeO.bind ?_ (fun _ => ?_)
set_option maxHeartbeats 8000000 in
set_option maxRecDepth 100000 in
theorem impl_besideOf.calls (k : Nat) (a0_0 : Int) (a0_1 : Int) (A0_2 : Option Addr) (c0_2 : Nat) (l0_2 : List (S83)) (a1 : Int) (r : List Int) (w : World) (hr0_2 : Kd.C k83 w A0_2 l0_2.length l0_2) (hc0_2 : l0_2.length ≤ c0_2) (h : impl_besideOf.f k a0_0 a0_1 l0_2 a1 = some r) :
    Calls Try.prog 88 #[.agg #[.int .i64 a0_0, .int .i64 a0_1, .slice A0_2 l0_2.length c0_2], .int .i64 a1] w fun e w' => ∃ v0_ : Value, e = .returned (v0_) ∧ Kd.R (Kd.int .i64) 3 w' w.heap.size (fun _ => True) v0_ r ∧ Below w.heap.size w w' := by
  have hu30 := Try.underlying30
  have HR0_2 := Aside0.mk hr0_2
  have HC0_2 := Aside0.mk hc0_2
  clear hr0_2 hc0_2
  have HB := Aside0.mk (Below.refl w.heap.size w)
  have H := h
  clear h
  unfold impl_besideOf.f at H
  replace H := nameB H; obtain ⟨y359, Ny359, H⟩ := H
  replace H := ifQ H; rcases H with ⟨c3, H⟩ | ⟨c3, H⟩
  · exact absurd H (by simp)
  have c3b0 := beq_eq_false_iff_ne.mpr c3
  have c3b1 := bne_iff_ne.mpr c3
  have HC4 := Aside0.mk H
  clear H
  go_enter Try.func88, Try.ntmps88
  go_upto_if 18 with (first | ((with_reducible refine gate_dst (N := 2) rfl ?_); refine boxE (cs := #[.int .i64 a0_0, .int .i64 a0_1, .slice A0_2 l0_2.length c0_2]) (t := 30) ?_; intro gb358 hg w5 hbox hb; refine E4b HB.1 hg hbox hb ?_; clear HB; intro HB BK358 GW358 GE358; clear hb hbox hg) | ((with_reducible refine gate_dst (N := 8) rfl ?_); refine Kd.R_lit (Kd.int .i64) _ 3 ?hg (N := 8) ?hd (xs := ([] : List Int)) (inner := []) (ok := fun _ => True) (okp := fun _ => True) ?hr ?hp (fun _ hk => hk) trivial (Below.refl _ _) (Nat.le_refl _) (by simp) ?_; (case hd => rfl); (case hg => rfl); (case hr => first | (go_simp; done) | (go_simp; rfl)); (case hp => exact (Reps.none _ _)); intro v360 w6 ho7 hb hg_ hnew_; clear hg_ hnew_; (first | rw [← Ny359.1] at ho7 | (simp only [Int.reduceToNat] at ho7; rw [← Ny359.1] at ho7)); refine E3 (Kd.R_lower ho7 (below_size (BL HB.1))) (bB BK358.1 hb) (below_step (BL HB.1) hb) ?_; clear BK358 HB; intro HO361 BK358 HB; clear hb ho7; obtain ⟨hcz8_0, hcz8_1, hcz8_2, hfz8_0, hfz8_1, hfz8_2⟩ := cz3 BK358.1))
  repeat (go_quiet (first | ((with_reducible refine gate_dst (N := 2) rfl ?_); refine boxE (cs := #[.int .i64 a0_0, .int .i64 a0_1, .slice A0_2 l0_2.length c0_2]) (t := 30) ?_; intro gb358 hg w5 hbox hb; refine E4b HB.1 hg hbox hb ?_; clear HB; intro HB BK358 GW358 GE358; clear hb hbox hg) | ((with_reducible refine gate_dst (N := 8) rfl ?_); refine Kd.R_lit (Kd.int .i64) _ 3 ?hg (N := 8) ?hd (xs := ([] : List Int)) (inner := []) (ok := fun _ => True) (okp := fun _ => True) ?hr ?hp (fun _ hk => hk) trivial (Below.refl _ _) (Nat.le_refl _) (by simp) ?_; (case hd => rfl); (case hg => rfl); (case hr => first | (go_simp; done) | (go_simp; rfl)); (case hp => exact (Reps.none _ _)); intro v360 w6 ho7 hb hg_ hnew_; clear hg_ hnew_; (first | rw [← Ny359.1] at ho7 | (simp only [Int.reduceToNat] at ho7; rw [← Ny359.1] at ho7)); refine E3 (Kd.R_lower ho7 (below_size (BL HB.1))) (bB BK358.1 hb) (below_step (BL HB.1) hb) ?_; clear BK358 HB; intro HO361 BK358 HB; clear hb ho7; obtain ⟨hcz8_0, hcz8_1, hcz8_2, hfz8_0, hfz8_1, hfz8_2⟩ := cz3 BK358.1)); go_upto_if 18 with (first | ((with_reducible refine gate_dst (N := 2) rfl ?_); refine boxE (cs := #[.int .i64 a0_0, .int .i64 a0_1, .slice A0_2 l0_2.length c0_2]) (t := 30) ?_; intro gb358 hg w5 hbox hb; refine E4b HB.1 hg hbox hb ?_; clear HB; intro HB BK358 GW358 GE358; clear hb hbox hg) | ((with_reducible refine gate_dst (N := 8) rfl ?_); refine Kd.R_lit (Kd.int .i64) _ 3 ?hg (N := 8) ?hd (xs := ([] : List Int)) (inner := []) (ok := fun _ => True) (okp := fun _ => True) ?hr ?hp (fun _ hk => hk) trivial (Below.refl _ _) (Nat.le_refl _) (by simp) ?_; (case hd => rfl); (case hg => rfl); (case hr => first | (go_simp; done) | (go_simp; rfl)); (case hp => exact (Reps.none _ _)); intro v360 w6 ho7 hb hg_ hnew_; clear hg_ hnew_; (first | rw [← Ny359.1] at ho7 | (simp only [Int.reduceToNat] at ho7; rw [← Ny359.1] at ho7)); refine E3 (Kd.R_lower ho7 (below_size (BL HB.1))) (bB BK358.1 hb) (below_step (BL HB.1) hb) ?_; clear BK358 HB; intro HO361 BK358 HB; clear hb ho7; obtain ⟨hcz8_0, hcz8_1, hcz8_2, hfz8_0, hfz8_1, hfz8_2⟩ := cz3 BK358.1)))
  (try simp only [Act.put, List.setIfInBounds_toArray, List.set_cons_zero, List.set_cons_succ])
  go_cut [5] (fun v5 wc => ∃ (kq : Nat) (x5_3 : List Int), Aside0 (impl_besideOf.j0 kq a1 x5_3 (wrap64 (Int.tdiv a1 a0_1)) (Int.tmod a1 a0_1) a0_0 a0_1 l0_2 = some r) ∧ Aside0 (kq ≤ k) ∧ Aside0 (Kd.R (Kd.int .i64) 3 wc w.heap.size (fun _ => True) v5 x5_3) ∧ Aside0 (wc.heap[gb358]? = some (.cells #[.int .i64 a0_0, .int .i64 a0_1, (.slice A0_2 l0_2.length c0_2)] 30 (0, 0))) ∧ Aside0 (Below w.heap.size w wc))
  case first =>
    have H := HC4.1
    clear HC4
    replace H := ifQ H; rcases H with ⟨c9, H⟩ | ⟨c9, H⟩
    · have c9b0 : decide (0 < (wrap64 (Int.tdiv a1 a0_1))) = true := decide_eq_true c9
      clear c9
      (first | rw [c9b0] | (simp only [i64_w, i32_w]; rw [c9b0]) | skip)
      replace H := ifP H; obtain ⟨c10, H⟩ := H
      have LMc10 := Aside0.mk c10
      clear c10
      generalize hy362 : ((y359 ++ [wrap64 (a1 - a0_1)]) : List Int) = y362 at H
      have Ny362 := Aside0.mk hy362.symm; clear hy362
      have H' := Aside0.mk H
      clear H
      obtain ⟨hcz11_0, hcz11_1, hcz11_2, hfz11_0, hfz11_1, hfz11_2⟩ := cz3 BK358.1
      go_wp2_with (first | ((with_reducible refine gate_builtin (b := .append) (xs := #[.tmp 19, .tmp 24]) rfl ?_); at_builtin; refine Kd.R_append (Kd.int .i64) (w0 := w) w.heap.size rfl (.tmp 19) (.tmp 24) 38 3 (.int .i64 0) 8 rfl Try.underlying38 info3 rfl (by decide) (by omega) v360 y359 (wrap64 (a1 - a0_1)) [.int .i64 (wrap64 (a1 - a0_1))] (fun _ => True) (fun _ => False) rfl rfl ?aP (fun _ hk => hk.elim) ?aF ?aO ?aB ?aS ?aL ?_; (case aP => exact rfl); (case aB => exact (BL HB.1)); (case aF => exact (fun _ _ => trivial)); (case aO => exact (PR HO361.1)); (case aS => exact (below_size (BL HB.1))); (case aL => have := LMc10.1; omega); intro v363 w12 ho hb hg hat; rw [← Ny362.1] at ho; refine E3 (bG BK358.1 hg (Kd.R_ne HO361.1 BK358.1 (by decide))) (hb) (ho) ?_; clear BK358 HB HO361; intro BK358 HB HO364; clear ho hb hg hat))
      repeat (go_quiet (first | ((with_reducible refine gate_builtin (b := .append) (xs := #[.tmp 19, .tmp 24]) rfl ?_); at_builtin; refine Kd.R_append (Kd.int .i64) (w0 := w) w.heap.size rfl (.tmp 19) (.tmp 24) 38 3 (.int .i64 0) 8 rfl Try.underlying38 info3 rfl (by decide) (by omega) v360 y359 (wrap64 (a1 - a0_1)) [.int .i64 (wrap64 (a1 - a0_1))] (fun _ => True) (fun _ => False) rfl rfl ?aP (fun _ hk => hk.elim) ?aF ?aO ?aB ?aS ?aL ?_; (case aP => exact rfl); (case aB => exact (BL HB.1)); (case aF => exact (fun _ _ => trivial)); (case aO => exact (PR HO361.1)); (case aS => exact (below_size (BL HB.1))); (case aL => have := LMc10.1; omega); intro v363 w12 ho hb hg hat; rw [← Ny362.1] at ho; refine E3 (bG BK358.1 hg (Kd.R_ne HO361.1 BK358.1 (by decide))) (hb) (ho) ?_; clear BK358 HB HO361; intro BK358 HB HO364; clear ho hb hg hat)); try go_wp2_with (first | ((with_reducible refine gate_builtin (b := .append) (xs := #[.tmp 19, .tmp 24]) rfl ?_); at_builtin; refine Kd.R_append (Kd.int .i64) (w0 := w) w.heap.size rfl (.tmp 19) (.tmp 24) 38 3 (.int .i64 0) 8 rfl Try.underlying38 info3 rfl (by decide) (by omega) v360 y359 (wrap64 (a1 - a0_1)) [.int .i64 (wrap64 (a1 - a0_1))] (fun _ => True) (fun _ => False) rfl rfl ?aP (fun _ hk => hk.elim) ?aF ?aO ?aB ?aS ?aL ?_; (case aP => exact rfl); (case aB => exact (BL HB.1)); (case aF => exact (fun _ _ => trivial)); (case aO => exact (PR HO361.1)); (case aS => exact (below_size (BL HB.1))); (case aL => have := LMc10.1; omega); intro v363 w12 ho hb hg hat; rw [← Ny362.1] at ho; refine E3 (bG BK358.1 hg (Kd.R_ne HO361.1 BK358.1 (by decide))) (hb) (ho) ?_; clear BK358 HB HO361; intro BK358 HB HO364; clear ho hb hg hat)))
      go_meet
      case rel => exact ⟨_, (y362), H', ⟨by first | omega | exact Nat.le_refl _⟩, ⟨PR HO364.1⟩, ⟨PB BK358.1⟩, ⟨BL HB.1⟩⟩
    have c9b0 : decide (0 < (wrap64 (Int.tdiv a1 a0_1))) = false := decide_eq_false c9
    clear c9
    (first | rw [c9b0] | (simp only [i64_w, i32_w]; rw [c9b0]) | skip)
    have H' := Aside0.mk H
    clear H
    go_wp2
    repeat (go_quiet (fail); try go_wp2)
    go_meet
    case rel => exact ⟨_, (y359), H', ⟨by first | omega | exact Nat.le_refl _⟩, ⟨PR HO361.1⟩, ⟨PB BK358.1⟩, ⟨BL HB.1⟩⟩
  clear HC4
  try clear c3; try clear c3b0; try clear c3b1; try clear hcz8_0; try clear hcz8_1; try clear hcz8_2; try clear hfz8_0; try clear hfz8_1; try clear hfz8_2
  obtain ⟨kq, x5_3, HA, HJ3, HO_5, BK358, HB⟩ := hcut
  cases kq with
  | zero => exact absurd HA.1 (by simp [impl_besideOf.j0])
  | succ kj3 => ?_
  have H := HA.1
  clear HA
  simp only [impl_besideOf.j0] at H
  have HC13 := Aside0.mk H
  clear H
  go_upto_if 27 with (fail)
  repeat (go_quiet (fail); go_upto_if 27 with (fail))
  go_cut [5] (fun v5 wc => ∃ (kq : Nat) (x5_12 : List Int), Aside0 (impl_besideOf.j1 kq a1 x5_12 (wrap64 (Int.tdiv a1 a0_1)) (Int.tmod a1 a0_1) a0_0 a0_1 l0_2 = some r) ∧ Aside0 (kq ≤ kj3) ∧ Aside0 (Kd.R (Kd.int .i64) 3 wc w.heap.size (fun _ => True) v5 x5_12) ∧ Aside0 (wc.heap[gb358]? = some (.cells #[.int .i64 a0_0, .int .i64 a0_1, (.slice A0_2 l0_2.length c0_2)] 30 (0, 0))) ∧ Aside0 (Below w.heap.size w wc))
  case first =>
    have H := HC13.1
    clear HC13
    replace H := ifQ H; rcases H with ⟨c14, H⟩ | ⟨c14, H⟩
    · have c14b0 : decide (0 < (Int.tmod a1 a0_1)) = true := decide_eq_true c14
      clear c14
      (first | rw [c14b0] | (simp only [i64_w, i32_w]; rw [c14b0]) | skip)
      replace H := ifP H; obtain ⟨c15, H⟩ := H
      have LMc15 := Aside0.mk c15
      clear c15
      generalize hy365 : ((x5_3 ++ [wrap64 (a1 - 1)]) : List Int) = y365 at H
      have Ny365 := Aside0.mk hy365.symm; clear hy365
      have H' := Aside0.mk H
      clear H
      go_wp2_with (first | ((with_reducible refine gate_builtin (b := .append) (xs := #[.tmp 28, .tmp 31]) rfl ?_); at_builtin; refine Kd.R_append (Kd.int .i64) (w0 := w) w.heap.size rfl (.tmp 28) (.tmp 31) 38 3 (.int .i64 0) 8 rfl Try.underlying38 info3 rfl (by decide) (by omega) u5 x5_3 (wrap64 (a1 - 1)) [.int .i64 (wrap64 (a1 - 1))] (fun _ => True) (fun _ => False) rfl rfl ?aP (fun _ hk => hk.elim) ?aF ?aO ?aB ?aS ?aL ?_; (case aP => exact rfl); (case aB => exact (BL HB.1)); (case aF => exact (fun _ _ => trivial)); (case aO => exact (PR HO_5.1)); (case aS => exact (below_size (BL HB.1))); (case aL => have := LMc15.1; omega); intro v366 w16 ho hb hg hat; rw [← Ny365.1] at ho; refine E3 (bG BK358.1 hg (Kd.R_ne HO_5.1 BK358.1 (by decide))) (hb) (ho) ?_; clear BK358 HB HO_5; intro BK358 HB HO367; clear ho hb hg hat))
      repeat (go_quiet (first | ((with_reducible refine gate_builtin (b := .append) (xs := #[.tmp 28, .tmp 31]) rfl ?_); at_builtin; refine Kd.R_append (Kd.int .i64) (w0 := w) w.heap.size rfl (.tmp 28) (.tmp 31) 38 3 (.int .i64 0) 8 rfl Try.underlying38 info3 rfl (by decide) (by omega) u5 x5_3 (wrap64 (a1 - 1)) [.int .i64 (wrap64 (a1 - 1))] (fun _ => True) (fun _ => False) rfl rfl ?aP (fun _ hk => hk.elim) ?aF ?aO ?aB ?aS ?aL ?_; (case aP => exact rfl); (case aB => exact (BL HB.1)); (case aF => exact (fun _ _ => trivial)); (case aO => exact (PR HO_5.1)); (case aS => exact (below_size (BL HB.1))); (case aL => have := LMc15.1; omega); intro v366 w16 ho hb hg hat; rw [← Ny365.1] at ho; refine E3 (bG BK358.1 hg (Kd.R_ne HO_5.1 BK358.1 (by decide))) (hb) (ho) ?_; clear BK358 HB HO_5; intro BK358 HB HO367; clear ho hb hg hat)); try go_wp2_with (first | ((with_reducible refine gate_builtin (b := .append) (xs := #[.tmp 28, .tmp 31]) rfl ?_); at_builtin; refine Kd.R_append (Kd.int .i64) (w0 := w) w.heap.size rfl (.tmp 28) (.tmp 31) 38 3 (.int .i64 0) 8 rfl Try.underlying38 info3 rfl (by decide) (by omega) u5 x5_3 (wrap64 (a1 - 1)) [.int .i64 (wrap64 (a1 - 1))] (fun _ => True) (fun _ => False) rfl rfl ?aP (fun _ hk => hk.elim) ?aF ?aO ?aB ?aS ?aL ?_; (case aP => exact rfl); (case aB => exact (BL HB.1)); (case aF => exact (fun _ _ => trivial)); (case aO => exact (PR HO_5.1)); (case aS => exact (below_size (BL HB.1))); (case aL => have := LMc15.1; omega); intro v366 w16 ho hb hg hat; rw [← Ny365.1] at ho; refine E3 (bG BK358.1 hg (Kd.R_ne HO_5.1 BK358.1 (by decide))) (hb) (ho) ?_; clear BK358 HB HO_5; intro BK358 HB HO367; clear ho hb hg hat)))
      go_meet
      case rel => exact ⟨_, (y365), H', ⟨by have := HJ3.1; first | omega | exact Nat.le_refl _⟩, ⟨PR HO367.1⟩, ⟨PB BK358.1⟩, ⟨BL HB.1⟩⟩
    have c14b0 : decide (0 < (Int.tmod a1 a0_1)) = false := decide_eq_false c14
    clear c14
    (first | rw [c14b0] | (simp only [i64_w, i32_w]; rw [c14b0]) | skip)
    have H' := Aside0.mk H
    clear H
    go_wp2
    repeat (go_quiet (fail); try go_wp2)
    go_meet
    case rel => exact ⟨_, (x5_3), H', ⟨by have := HJ3.1; first | omega | exact Nat.le_refl _⟩, ⟨PR HO_5.1⟩, ⟨PB BK358.1⟩, ⟨BL HB.1⟩⟩
  clear HC13
  obtain ⟨kq, x5_12, HA, HJ12, HO_5, BK358, HB⟩ := hcut
  cases kq with
  | zero => exact absurd HA.1 (by simp [impl_besideOf.j1])
  | succ kj12 => ?_
  have H := HA.1
  clear HA
  simp only [impl_besideOf.j1] at H
  replace H := ifB H; rcases H with ⟨c17b0, H⟩ | ⟨c17b0, H⟩
  · replace H := ifP H; obtain ⟨c18, H⟩ := H
    have LMc18 := Aside0.mk c18
    clear c18
    replace H := nameB H; obtain ⟨y368, Ny368, H⟩ := H
    replace H := ifB H; rcases H with ⟨c19b0, H⟩ | ⟨c19b0, H⟩
    · replace H := ifP H; obtain ⟨c20, H⟩ := H
      have LMc20 := Aside0.mk c20
      clear c20
      generalize hy371 : ((y368 ++ [wrap64 (a1 + a0_1)]) : List Int) = y371 at H
      have Ny371 := Aside0.mk hy371.symm; clear hy371
      obtain rfl := Option.some.inj H
      obtain ⟨hcz21_0, hcz21_1, hcz21_2, hfz21_0, hfz21_1, hfz21_2⟩ := cz3 BK358.1
      go_wp2_with (first | ((with_reducible refine gate_builtin (b := .append) (xs := #[.tmp 38, .tmp 41]) rfl ?_); at_builtin; refine Kd.R_append (Kd.int .i64) (w0 := w) w.heap.size rfl (.tmp 38) (.tmp 41) 38 3 (.int .i64 0) 8 rfl Try.underlying38 info3 rfl (by decide) (by omega) u5 x5_12 (wrap64 (a1 + 1)) [.int .i64 (wrap64 (a1 + 1))] (fun _ => True) (fun _ => False) rfl rfl ?aP (fun _ hk => hk.elim) ?aF ?aO ?aB ?aS ?aL ?_; (case aP => exact rfl); (case aB => exact (BL HB.1)); (case aF => exact (fun _ _ => trivial)); (case aO => exact (PR HO_5.1)); (case aS => exact (below_size (BL HB.1))); (case aL => have := LMc18.1; omega); intro v369 w22 ho hb hg hat; rw [← Ny368.1] at ho; refine E3 (bG BK358.1 hg (Kd.R_ne HO_5.1 BK358.1 (by decide))) (hb) (ho) ?_; clear BK358 HB HO_5; intro BK358 HB HO370; clear ho hb hg hat; obtain ⟨hcz23_0, hcz23_1, hcz23_2, hfz23_0, hfz23_1, hfz23_2⟩ := cz3 BK358.1) | ((with_reducible refine gate_builtin (b := .append) (xs := #[.tmp 48, .tmp 53]) rfl ?_); at_builtin; refine Kd.R_append (Kd.int .i64) (w0 := w) w.heap.size rfl (.tmp 48) (.tmp 53) 38 3 (.int .i64 0) 8 rfl Try.underlying38 info3 rfl (by decide) (by omega) v369 y368 (wrap64 (a1 + a0_1)) [.int .i64 (wrap64 (a1 + a0_1))] (fun _ => True) (fun _ => False) rfl rfl ?aP (fun _ hk => hk.elim) ?aF ?aO ?aB ?aS ?aL ?_; (case aP => exact rfl); (case aB => exact (BL HB.1)); (case aF => exact (fun _ _ => trivial)); (case aO => exact (PR HO370.1)); (case aS => exact (below_size (BL HB.1))); (case aL => have := LMc20.1; omega); intro v372 w24 ho hb hg hat; rw [← Ny371.1] at ho; refine E3 (bG BK358.1 hg (Kd.R_ne HO370.1 BK358.1 (by decide))) (hb) (ho) ?_; clear BK358 HB HO370; intro BK358 HB HO373; clear ho hb hg hat))
      repeat (go_quiet (first | ((with_reducible refine gate_builtin (b := .append) (xs := #[.tmp 38, .tmp 41]) rfl ?_); at_builtin; refine Kd.R_append (Kd.int .i64) (w0 := w) w.heap.size rfl (.tmp 38) (.tmp 41) 38 3 (.int .i64 0) 8 rfl Try.underlying38 info3 rfl (by decide) (by omega) u5 x5_12 (wrap64 (a1 + 1)) [.int .i64 (wrap64 (a1 + 1))] (fun _ => True) (fun _ => False) rfl rfl ?aP (fun _ hk => hk.elim) ?aF ?aO ?aB ?aS ?aL ?_; (case aP => exact rfl); (case aB => exact (BL HB.1)); (case aF => exact (fun _ _ => trivial)); (case aO => exact (PR HO_5.1)); (case aS => exact (below_size (BL HB.1))); (case aL => have := LMc18.1; omega); intro v369 w22 ho hb hg hat; rw [← Ny368.1] at ho; refine E3 (bG BK358.1 hg (Kd.R_ne HO_5.1 BK358.1 (by decide))) (hb) (ho) ?_; clear BK358 HB HO_5; intro BK358 HB HO370; clear ho hb hg hat; obtain ⟨hcz23_0, hcz23_1, hcz23_2, hfz23_0, hfz23_1, hfz23_2⟩ := cz3 BK358.1) | ((with_reducible refine gate_builtin (b := .append) (xs := #[.tmp 48, .tmp 53]) rfl ?_); at_builtin; refine Kd.R_append (Kd.int .i64) (w0 := w) w.heap.size rfl (.tmp 48) (.tmp 53) 38 3 (.int .i64 0) 8 rfl Try.underlying38 info3 rfl (by decide) (by omega) v369 y368 (wrap64 (a1 + a0_1)) [.int .i64 (wrap64 (a1 + a0_1))] (fun _ => True) (fun _ => False) rfl rfl ?aP (fun _ hk => hk.elim) ?aF ?aO ?aB ?aS ?aL ?_; (case aP => exact rfl); (case aB => exact (BL HB.1)); (case aF => exact (fun _ _ => trivial)); (case aO => exact (PR HO370.1)); (case aS => exact (below_size (BL HB.1))); (case aL => have := LMc20.1; omega); intro v372 w24 ho hb hg hat; rw [← Ny371.1] at ho; refine E3 (bG BK358.1 hg (Kd.R_ne HO370.1 BK358.1 (by decide))) (hb) (ho) ?_; clear BK358 HB HO370; intro BK358 HB HO373; clear ho hb hg hat)); try go_wp2_with (first | ((with_reducible refine gate_builtin (b := .append) (xs := #[.tmp 38, .tmp 41]) rfl ?_); at_builtin; refine Kd.R_append (Kd.int .i64) (w0 := w) w.heap.size rfl (.tmp 38) (.tmp 41) 38 3 (.int .i64 0) 8 rfl Try.underlying38 info3 rfl (by decide) (by omega) u5 x5_12 (wrap64 (a1 + 1)) [.int .i64 (wrap64 (a1 + 1))] (fun _ => True) (fun _ => False) rfl rfl ?aP (fun _ hk => hk.elim) ?aF ?aO ?aB ?aS ?aL ?_; (case aP => exact rfl); (case aB => exact (BL HB.1)); (case aF => exact (fun _ _ => trivial)); (case aO => exact (PR HO_5.1)); (case aS => exact (below_size (BL HB.1))); (case aL => have := LMc18.1; omega); intro v369 w22 ho hb hg hat; rw [← Ny368.1] at ho; refine E3 (bG BK358.1 hg (Kd.R_ne HO_5.1 BK358.1 (by decide))) (hb) (ho) ?_; clear BK358 HB HO_5; intro BK358 HB HO370; clear ho hb hg hat; obtain ⟨hcz23_0, hcz23_1, hcz23_2, hfz23_0, hfz23_1, hfz23_2⟩ := cz3 BK358.1) | ((with_reducible refine gate_builtin (b := .append) (xs := #[.tmp 48, .tmp 53]) rfl ?_); at_builtin; refine Kd.R_append (Kd.int .i64) (w0 := w) w.heap.size rfl (.tmp 48) (.tmp 53) 38 3 (.int .i64 0) 8 rfl Try.underlying38 info3 rfl (by decide) (by omega) v369 y368 (wrap64 (a1 + a0_1)) [.int .i64 (wrap64 (a1 + a0_1))] (fun _ => True) (fun _ => False) rfl rfl ?aP (fun _ hk => hk.elim) ?aF ?aO ?aB ?aS ?aL ?_; (case aP => exact rfl); (case aB => exact (BL HB.1)); (case aF => exact (fun _ _ => trivial)); (case aO => exact (PR HO370.1)); (case aS => exact (below_size (BL HB.1))); (case aL => have := LMc20.1; omega); intro v372 w24 ho hb hg hat; rw [← Ny371.1] at ho; refine E3 (bG BK358.1 hg (Kd.R_ne HO370.1 BK358.1 (by decide))) (hb) (ho) ?_; clear BK358 HB HO370; intro BK358 HB HO373; clear ho hb hg hat)))
      go_ret
      exact ⟨_, RF, by (with_reducible repeat (first | apply Kd.R_alloc | apply Kd.R_drewN | apply Kd.R_drew)); exact HO373.1, BL HB.1⟩
    obtain rfl := Option.some.inj H
    obtain ⟨hcz25_0, hcz25_1, hcz25_2, hfz25_0, hfz25_1, hfz25_2⟩ := cz3 BK358.1
    go_wp2_with (first | ((with_reducible refine gate_builtin (b := .append) (xs := #[.tmp 38, .tmp 41]) rfl ?_); at_builtin; refine Kd.R_append (Kd.int .i64) (w0 := w) w.heap.size rfl (.tmp 38) (.tmp 41) 38 3 (.int .i64 0) 8 rfl Try.underlying38 info3 rfl (by decide) (by omega) u5 x5_12 (wrap64 (a1 + 1)) [.int .i64 (wrap64 (a1 + 1))] (fun _ => True) (fun _ => False) rfl rfl ?aP (fun _ hk => hk.elim) ?aF ?aO ?aB ?aS ?aL ?_; (case aP => exact rfl); (case aB => exact (BL HB.1)); (case aF => exact (fun _ _ => trivial)); (case aO => exact (PR HO_5.1)); (case aS => exact (below_size (BL HB.1))); (case aL => have := LMc18.1; omega); intro v369 w26 ho hb hg hat; rw [← Ny368.1] at ho; refine E3 (bG BK358.1 hg (Kd.R_ne HO_5.1 BK358.1 (by decide))) (hb) (ho) ?_; clear BK358 HB HO_5; intro BK358 HB HO370; clear ho hb hg hat; obtain ⟨hcz27_0, hcz27_1, hcz27_2, hfz27_0, hfz27_1, hfz27_2⟩ := cz3 BK358.1))
    repeat (go_quiet (first | ((with_reducible refine gate_builtin (b := .append) (xs := #[.tmp 38, .tmp 41]) rfl ?_); at_builtin; refine Kd.R_append (Kd.int .i64) (w0 := w) w.heap.size rfl (.tmp 38) (.tmp 41) 38 3 (.int .i64 0) 8 rfl Try.underlying38 info3 rfl (by decide) (by omega) u5 x5_12 (wrap64 (a1 + 1)) [.int .i64 (wrap64 (a1 + 1))] (fun _ => True) (fun _ => False) rfl rfl ?aP (fun _ hk => hk.elim) ?aF ?aO ?aB ?aS ?aL ?_; (case aP => exact rfl); (case aB => exact (BL HB.1)); (case aF => exact (fun _ _ => trivial)); (case aO => exact (PR HO_5.1)); (case aS => exact (below_size (BL HB.1))); (case aL => have := LMc18.1; omega); intro v369 w26 ho hb hg hat; rw [← Ny368.1] at ho; refine E3 (bG BK358.1 hg (Kd.R_ne HO_5.1 BK358.1 (by decide))) (hb) (ho) ?_; clear BK358 HB HO_5; intro BK358 HB HO370; clear ho hb hg hat; obtain ⟨hcz27_0, hcz27_1, hcz27_2, hfz27_0, hfz27_1, hfz27_2⟩ := cz3 BK358.1)); try go_wp2_with (first | ((with_reducible refine gate_builtin (b := .append) (xs := #[.tmp 38, .tmp 41]) rfl ?_); at_builtin; refine Kd.R_append (Kd.int .i64) (w0 := w) w.heap.size rfl (.tmp 38) (.tmp 41) 38 3 (.int .i64 0) 8 rfl Try.underlying38 info3 rfl (by decide) (by omega) u5 x5_12 (wrap64 (a1 + 1)) [.int .i64 (wrap64 (a1 + 1))] (fun _ => True) (fun _ => False) rfl rfl ?aP (fun _ hk => hk.elim) ?aF ?aO ?aB ?aS ?aL ?_; (case aP => exact rfl); (case aB => exact (BL HB.1)); (case aF => exact (fun _ _ => trivial)); (case aO => exact (PR HO_5.1)); (case aS => exact (below_size (BL HB.1))); (case aL => have := LMc18.1; omega); intro v369 w26 ho hb hg hat; rw [← Ny368.1] at ho; refine E3 (bG BK358.1 hg (Kd.R_ne HO_5.1 BK358.1 (by decide))) (hb) (ho) ?_; clear BK358 HB HO_5; intro BK358 HB HO370; clear ho hb hg hat; obtain ⟨hcz27_0, hcz27_1, hcz27_2, hfz27_0, hfz27_1, hfz27_2⟩ := cz3 BK358.1)))
    go_ret
    exact ⟨_, RF, by (with_reducible repeat (first | apply Kd.R_alloc | apply Kd.R_drewN | apply Kd.R_drew)); exact HO370.1, BL HB.1⟩
  replace H := ifB H; rcases H with ⟨c28b0, H⟩ | ⟨c28b0, H⟩
  · replace H := ifP H; obtain ⟨c29, H⟩ := H
    have LMc29 := Aside0.mk c29
    clear c29
    generalize hy374 : ((x5_12 ++ [wrap64 (a1 + a0_1)]) : List Int) = y374 at H
    have Ny374 := Aside0.mk hy374.symm; clear hy374
    obtain rfl := Option.some.inj H
    obtain ⟨hcz30_0, hcz30_1, hcz30_2, hfz30_0, hfz30_1, hfz30_2⟩ := cz3 BK358.1
    go_wp2_with (first | ((with_reducible refine gate_builtin (b := .append) (xs := #[.tmp 48, .tmp 53]) rfl ?_); at_builtin; refine Kd.R_append (Kd.int .i64) (w0 := w) w.heap.size rfl (.tmp 48) (.tmp 53) 38 3 (.int .i64 0) 8 rfl Try.underlying38 info3 rfl (by decide) (by omega) u5 x5_12 (wrap64 (a1 + a0_1)) [.int .i64 (wrap64 (a1 + a0_1))] (fun _ => True) (fun _ => False) rfl rfl ?aP (fun _ hk => hk.elim) ?aF ?aO ?aB ?aS ?aL ?_; (case aP => exact rfl); (case aB => exact (BL HB.1)); (case aF => exact (fun _ _ => trivial)); (case aO => exact (PR HO_5.1)); (case aS => exact (below_size (BL HB.1))); (case aL => have := LMc29.1; omega); intro v375 w31 ho hb hg hat; rw [← Ny374.1] at ho; refine E3 (bG BK358.1 hg (Kd.R_ne HO_5.1 BK358.1 (by decide))) (hb) (ho) ?_; clear BK358 HB HO_5; intro BK358 HB HO376; clear ho hb hg hat))
    repeat (go_quiet (first | ((with_reducible refine gate_builtin (b := .append) (xs := #[.tmp 48, .tmp 53]) rfl ?_); at_builtin; refine Kd.R_append (Kd.int .i64) (w0 := w) w.heap.size rfl (.tmp 48) (.tmp 53) 38 3 (.int .i64 0) 8 rfl Try.underlying38 info3 rfl (by decide) (by omega) u5 x5_12 (wrap64 (a1 + a0_1)) [.int .i64 (wrap64 (a1 + a0_1))] (fun _ => True) (fun _ => False) rfl rfl ?aP (fun _ hk => hk.elim) ?aF ?aO ?aB ?aS ?aL ?_; (case aP => exact rfl); (case aB => exact (BL HB.1)); (case aF => exact (fun _ _ => trivial)); (case aO => exact (PR HO_5.1)); (case aS => exact (below_size (BL HB.1))); (case aL => have := LMc29.1; omega); intro v375 w31 ho hb hg hat; rw [← Ny374.1] at ho; refine E3 (bG BK358.1 hg (Kd.R_ne HO_5.1 BK358.1 (by decide))) (hb) (ho) ?_; clear BK358 HB HO_5; intro BK358 HB HO376; clear ho hb hg hat)); try go_wp2_with (first | ((with_reducible refine gate_builtin (b := .append) (xs := #[.tmp 48, .tmp 53]) rfl ?_); at_builtin; refine Kd.R_append (Kd.int .i64) (w0 := w) w.heap.size rfl (.tmp 48) (.tmp 53) 38 3 (.int .i64 0) 8 rfl Try.underlying38 info3 rfl (by decide) (by omega) u5 x5_12 (wrap64 (a1 + a0_1)) [.int .i64 (wrap64 (a1 + a0_1))] (fun _ => True) (fun _ => False) rfl rfl ?aP (fun _ hk => hk.elim) ?aF ?aO ?aB ?aS ?aL ?_; (case aP => exact rfl); (case aB => exact (BL HB.1)); (case aF => exact (fun _ _ => trivial)); (case aO => exact (PR HO_5.1)); (case aS => exact (below_size (BL HB.1))); (case aL => have := LMc29.1; omega); intro v375 w31 ho hb hg hat; rw [← Ny374.1] at ho; refine E3 (bG BK358.1 hg (Kd.R_ne HO_5.1 BK358.1 (by decide))) (hb) (ho) ?_; clear BK358 HB HO_5; intro BK358 HB HO376; clear ho hb hg hat)))
    go_ret
    exact ⟨_, RF, by (with_reducible repeat (first | apply Kd.R_alloc | apply Kd.R_drewN | apply Kd.R_drew)); exact HO376.1, BL HB.1⟩
  obtain rfl := Option.some.inj H
  obtain ⟨hcz32_0, hcz32_1, hcz32_2, hfz32_0, hfz32_1, hfz32_2⟩ := cz3 BK358.1
  go_wp2
  repeat (go_quiet (fail); try go_wp2)
  go_ret
  exact ⟨_, RF, by (with_reducible repeat (first | apply Kd.R_alloc | apply Kd.R_drewN | apply Kd.R_drew)); exact HO_5.1, BL HB.1⟩
/-! ### impl_groupNumbers: function 74 -/
mutual
def impl_groupNumbers.l0 : Nat → List Int → Int → Int → Int → Int → List (S83) → Option (List Int)
  | 0, _, _, _, _, _, _ => none
  | k + 1, x3, x17, x18, x378000, x378001, x378002 => if x18 < x17 then (if 0 ≤ x18 then (if x18 < (x3.length : Int) then (impl_groupNumbers.l0 k (x3.set (x18 : Int).toNat (-1)) x17 (wrap64 (x18 + 1)) x378000 x378001 x378002) else (none)) else (none)) else (impl_groupNumbers.l1 k x3 0 x378002 (x378002.length : Int) 0 x378000 x378001 x378002)
def impl_groupNumbers.l1 : Nat → List Int → Int → List (S83) → Int → Int → Int → Int → List (S83) → Option (List Int)
  | 0, _, _, _, _, _, _, _, _ => none
  | k + 1, x3, x5, x26, x27, x28, x378000, x378001, x378002 => if x28 < x27 then (if 0 ≤ x28 then (if x28 < (x26.length : Int) then ((impl_isGeared.f ((rd_T83 x26 x28).f0) ((rd_T83 x26 x28).f1)).bind fun t384 => (if t384 = true then (if x28 < (x3.length : Int) then (impl_groupNumbers.j2 k x3 x5 x28 x26 x27 x28 (decide ((rd x3 x28) ≥ 0)) x378000 x378001 x378002) else (none)) else (impl_groupNumbers.j2 k x3 x5 x28 x26 x27 x28 true x378000 x378001 x378002))) else (none)) else (none)) else (some x3)
def impl_groupNumbers.j2 : Nat → List Int → Int → Int → List (S83) → Int → Int → Bool → Int → Int → List (S83) → Option (List Int)
  | 0, _, _, _, _, _, _, _, _, _, _ => none
  | k + 1, x3, x5, x6, x26, x27, x28, x42, x378000, x378001, x378002 => if x42 = true then (impl_groupNumbers.l1 k x3 x5 x26 x27 (wrap64 (x28 + 1)) x378000 x378001 x378002) else (if 0 ≤ x6 then (if x6 < (x3.length : Int) then (impl_groupNumbers.l2 k (x3.set (x6 : Int).toNat x5) x5 (([x6] : List Int)) x26 x27 x28 x378000 x378001 x378002) else (none)) else (none))
def impl_groupNumbers.l2 : Nat → List Int → Int → List Int → List (S83) → Int → Int → Int → Int → List (S83) → Option (List Int)
  | 0, _, _, _, _, _, _, _, _, _ => none
  | k + 1, x3, x5, x8, x26, x27, x28, x378000, x378001, x378002 => if (x8.length : Int) > 0 then (if 0 < (x8.length : Int) then (if 1 ≤ (x8.length : Int) then ((impl_besideOf.f k x378000 x378001 x378002 (rd x8 0)).bind fun t394 => (impl_groupNumbers.l3 k x3 x5 (x8.drop (1 : Int).toNat) x26 x27 x28 t394 (t394.length : Int) 0 x378000 x378001 x378002)) else (none)) else (none)) else (impl_groupNumbers.l1 k x3 (wrap64 (x5 + 1)) x26 x27 (wrap64 (x28 + 1)) x378000 x378001 x378002)
def impl_groupNumbers.l3 : Nat → List Int → Int → List Int → List (S83) → Int → Int → List Int → Int → Int → Int → Int → List (S83) → Option (List Int)
  | 0, _, _, _, _, _, _, _, _, _, _, _, _ => none
  | k + 1, x3, x5, x8, x26, x27, x28, x59, x60, x61, x378000, x378001, x378002 => if x61 < x60 then (if 0 ≤ x61 then (if x61 < (x59.length : Int) then (if 0 ≤ (rd x59 x61) then (if (rd x59 x61) < (x378002.length : Int) then ((impl_isGeared.f ((rd_T83 x378002 (rd x59 x61)).f0) ((rd_T83 x378002 (rd x59 x61)).f1)).bind fun t399 => (if t399 = true then (if (rd x59 x61) < (x3.length : Int) then (if (rd x3 (rd x59 x61)) < 0 then (if x8.length < 17592186044416 then (impl_groupNumbers.l3 k (x3.set ((rd x59 x61) : Int).toNat x5) x5 (x8 ++ [rd x59 x61]) x26 x27 x28 x59 x60 (wrap64 (x61 + 1)) x378000 x378001 x378002) else (none)) else (impl_groupNumbers.l3 k x3 x5 x8 x26 x27 x28 x59 x60 (wrap64 (x61 + 1)) x378000 x378001 x378002)) else (none)) else (impl_groupNumbers.l3 k x3 x5 x8 x26 x27 x28 x59 x60 (wrap64 (x61 + 1)) x378000 x378001 x378002))) else (none)) else (none)) else (none)) else (none)) else (impl_groupNumbers.l2 k x3 x5 x8 x26 x27 x28 x378000 x378001 x378002)
end
def impl_groupNumbers.f (k : Nat) (a0_0 : Int) (a0_1 : Int) (l0_2 : List (S83)) : Option (List Int) := if 0 ≤ (l0_2.length : Int) then (if ((l0_2.length : Int) : Int).toNat ≤ 35184372088832 then ((some (List.replicate ((l0_2.length : Int) : Int).toNat 0 : List Int)).bind fun y378 => (impl_groupNumbers.l0 k y378 (y378.length : Int) 0 a0_0 a0_1 l0_2)) else (none)) else (none)
theorem impl_groupNumbers.mono_l : ∀ k, (∀ y0 y1 y2 y3 y4 y5, LeO (impl_groupNumbers.l0 k y0 y1 y2 y3 y4 y5) (impl_groupNumbers.l0 (k + 1) y0 y1 y2 y3 y4 y5)) ∧ (∀ y0 y1 y2 y3 y4 y5 y6 y7, LeO (impl_groupNumbers.l1 k y0 y1 y2 y3 y4 y5 y6 y7) (impl_groupNumbers.l1 (k + 1) y0 y1 y2 y3 y4 y5 y6 y7)) ∧ (∀ y0 y1 y2 y3 y4 y5 y6 y7 y8 y9, LeO (impl_groupNumbers.j2 k y0 y1 y2 y3 y4 y5 y6 y7 y8 y9) (impl_groupNumbers.j2 (k + 1) y0 y1 y2 y3 y4 y5 y6 y7 y8 y9)) ∧ (∀ y0 y1 y2 y3 y4 y5 y6 y7 y8, LeO (impl_groupNumbers.l2 k y0 y1 y2 y3 y4 y5 y6 y7 y8) (impl_groupNumbers.l2 (k + 1) y0 y1 y2 y3 y4 y5 y6 y7 y8)) ∧ (∀ y0 y1 y2 y3 y4 y5 y6 y7 y8 y9 y10 y11, LeO (impl_groupNumbers.l3 k y0 y1 y2 y3 y4 y5 y6 y7 y8 y9 y10 y11) (impl_groupNumbers.l3 (k + 1) y0 y1 y2 y3 y4 y5 y6 y7 y8 y9 y10 y11))
  | 0 => by refine ⟨?_, ?_, ?_, ?_, ?_⟩ <;> (intros; intro r h; first | (simp [impl_groupNumbers.l0] at h; done) | (simp [impl_groupNumbers.l1] at h; done) | (simp [impl_groupNumbers.j2] at h; done) | (simp [impl_groupNumbers.l2] at h; done) | (simp [impl_groupNumbers.l3] at h; done))
  | k + 1 => by
    obtain ⟨ih0, ih1, ih2, ih3, ih4⟩ := impl_groupNumbers.mono_l k
    refine ⟨?_, ?_, ?_, ?_, ?_⟩ <;> (
      intros
      first | unfold impl_groupNumbers.l0 | unfold impl_groupNumbers.l1 | unfold impl_groupNumbers.j2 | unfold impl_groupNumbers.l2 | unfold impl_groupNumbers.l3
      repeat' first | (with_reducible first | apply ih0 | apply ih1 | apply ih2 | apply ih3 | apply ih4 | apply impl_besideOf.mono | exact LeO.refl _ | exact LeO.none _ | refine LeO.ite ?_ ?_ | refine LeO.bind ?_ (fun _ => ?_)) | apply ih0 | apply ih1 | apply ih2 | apply ih3 | apply ih4 | apply impl_besideOf.mono | exact LeO.none _ | refine LeO.ite ?_ ?_ | refine LeO.bind ?_ (fun _ => ?_))
theorem impl_groupNumbers.mono : ∀ a0 a1 a2 k, LeO (impl_groupNumbers.f k a0 a1 a2) (impl_groupNumbers.f (k + 1) a0 a1 a2) := by
  intro a0 a1 a2 k
  obtain ⟨ih0, ih1, ih2, ih3, ih4⟩ := impl_groupNumbers.mono_l k
  unfold impl_groupNumbers.f
  repeat' first | (with_reducible first | apply ih0 | apply ih1 | apply ih2 | apply ih3 | apply ih4 | apply impl_besideOf.mono | exact LeO.refl _ | exact LeO.none _ | refine LeO.ite ?_ ?_ | refine LeO.bind ?_ (fun _ => ?_)) | apply ih0 | apply ih1 | apply ih2 | apply ih3 | apply ih4 | apply impl_besideOf.mono | exact LeO.none _ | refine LeO.ite ?_ ?_ | refine LeO.bind ?_ (fun _ => ?_)
set_option maxHeartbeats 8000000 in
set_option maxRecDepth 100000 in
theorem impl_groupNumbers.calls (k : Nat) (a0_0 : Int) (a0_1 : Int) (A0_2 : Option Addr) (c0_2 : Nat) (l0_2 : List (S83)) (r : List Int) (w : World) (hr0_2 : Kd.C k83 w A0_2 l0_2.length l0_2) (hc0_2 : l0_2.length ≤ c0_2) (h : impl_groupNumbers.f k a0_0 a0_1 l0_2 = some r) :
    Calls Try.prog 74 #[.agg #[.int .i64 a0_0, .int .i64 a0_1, .slice A0_2 l0_2.length c0_2]] w fun e w' => ∃ v0_ : Value, e = .returned (v0_) ∧ Kd.R (Kd.int .i64) 3 w' w.heap.size (fun _ => True) v0_ r ∧ Below w.heap.size w w' := by
  have hu30 := Try.underlying30
  have hu83 := Try.underlying83
  have HR0_2 := Aside0.mk hr0_2
  have HC0_2 := Aside0.mk hc0_2
  clear hr0_2 hc0_2
  have HB := Aside0.mk (Below.refl w.heap.size w)
  have H := h
  clear h
  unfold impl_groupNumbers.f at H
  replace H := ifP H; obtain ⟨c2, H⟩ := H
  have c2b0 := eq_true c2
  have c2b1 := decide_eq_true c2
  clear c2
  replace H := ifP H; obtain ⟨c3, H⟩ := H
  have c3b0 := eq_true c3
  have c3b1 := decide_eq_true c3
  clear c3
  replace H := nameB H; obtain ⟨y378, Ny378, H⟩ := H
  have H' := Aside0.mk H
  clear H
  go_enter Try.func74, Try.ntmps74
  go_wp2_with (first | ((with_reducible refine gate_dst (N := 1) rfl ?_); refine boxE (cs := #[.int .i64 a0_0, .int .i64 a0_1, .slice A0_2 l0_2.length c0_2]) (t := 30) ?_; intro gb377 hg w4 hbox hb; refine E4b HB.1 hg hbox hb ?_; clear HB; intro HB BK377 GW377 GE377; clear hb hbox hg; obtain ⟨hcz5_0, hcz5_1, hcz5_2, hfz5_0, hfz5_1, hfz5_2⟩ := cz3 BK377.1) | ((with_reducible refine gate_dst (N := 15) rfl ?_); refine Kd.R_make (Kd.int .i64) _ 3 rfl (N := 15) rfl 38 _ _ rfl (l0_2.length : Int) rfl rfl Try.underlying38 (.int .i64 0) 8 info3 rfl (by decide) (by omega) 0 (ok := fun _ => True) (okp := fun _ => True) rfl (fun _ hk => hk) trivial (OD) (Nat.le_trans (Nat.mul_le_mul_right _ (OD : (l0_2.length : Int).toNat ≤ 35184372088832)) (by omega)) (Below.refl _ _) (Nat.le_refl _) ?_; intro v379 w6 ho7 hb hg_ hnew_; clear hg_ hnew_; (first | rw [← Ny378.1] at ho7 | (simp only [Int.reduceToNat] at ho7; rw [← Ny378.1] at ho7)); refine E3 (Kd.R_lower ho7 (below_size (BL HB.1))) (bB BK377.1 hb) (below_step (BL HB.1) hb) ?_; clear BK377 HB; intro HO380 BK377 HB; clear hb ho7; obtain ⟨Ao8, co8, eo8⟩ := Kd.R_slice HO380.1; subst eo8))
  go_loopg [18] k (fun kq v18 w' => ∃ (x3_1 : List Int) (x18_1 : Int), v18 = .int .i64 x18_1 ∧ Aside0 (impl_groupNumbers.l0 kq x3_1 (y378.length : Int) x18_1 a0_0 a0_1 l0_2 = some r) ∧ Aside0 (kq ≤ k) ∧ Aside0 (Kd.R (Kd.int .i64) 3 w' w.heap.size (fun _ => True) (.slice Ao8 y378.length co8) x3_1) ∧ Aside0 (w'.heap[gb377]? = some (.cells #[.int .i64 a0_0, .int .i64 a0_1, (.slice A0_2 l0_2.length c0_2)] 30 (0, 0))) ∧ Aside0 (Below w.heap.size w w'))
  case atStart => exact ⟨(y378), (0), RG, H', ⟨Nat.le_refl _⟩, ⟨PR HO380.1⟩, ⟨PB BK377.1⟩, ⟨BL HB.1⟩⟩
  clear H'
  try clear c2b0; try clear c2b1; try clear c3b0; try clear c3b1; try clear hcz5_0; try clear hcz5_1; try clear hcz5_2; try clear hfz5_0; try clear hfz5_1; try clear hfz5_2
  obtain ⟨x3_1, x18_1, rfl, HA, HK1, HO_3, BK377, HB⟩ := hrel
  have hl3_1 := (Kd.R_reads' HO_3.1).1
  rw [hl3_1] at HO_3
  (try simp only [hl3_1])
  (try simp only [hl3_1] at BK377)
  cases gk with
  | zero => exact absurd HA.1 (by simp [impl_groupNumbers.l0])
  | succ k1 => ?_
  have H := HA.1
  clear HA
  simp only [impl_groupNumbers.l0] at H
  replace H := ifB H; rcases H with ⟨c9b0, H⟩ | ⟨c9b0, H⟩
  · replace H := ifN H; obtain ⟨c10b0, H⟩ := H
    replace H := ifN H; obtain ⟨c11b0, H⟩ := H
    generalize hy381 : ((x3_1.set (x18_1 : Int).toNat (-1)) : List Int) = y381 at H
    have Ny381 := Aside0.mk hy381.symm; clear hy381
    have H' := Aside0.mk H
    clear H
    have p12 : 0 ≤ (x18_1 : Int) := OD
    have q12 : (x18_1 : Int) < ((x3_1.length : Int) : Int) := OD
    obtain ⟨go12, co12, eo12, gb12, gl12, cl12, HG12⟩ := Kd.R_form HO_3.1 (by omega)
    (first | cases eo12 | (injection eo12 with ea_ en_ ec_; (first | subst ea_ | (injection ea_ with ea_; subst ea_)); subst ec_; clear en_))
    have GB12 := Aside0.mk gb12
    have GG12 := Aside0.mk HG12
    clear gb12 gl12 HG12
    obtain ⟨hx12_0, hf12_0⟩ := Kd.R_celln 0 HO_3.1 (x18_1 : Int) p12 q12
    replace p12 := eq_true p12
    replace q12 := eq_true q12
    have HP13 := Kd.R_putg HO_3.1 (x18_1 : Int) (-1)
    go_wp2_with (first | ((with_reducible refine gate_store (t := 3) (p := 23) rfl ?_); refine storeE (t := 3) (p := 23) (w1 := (wr.setCell ⟨go12, (x18_1 : Int).toNat, none⟩ (.int .i64 (-1)))) ?_; intro w14 hw; have hg : wr.grownBy w14 (some go12) := (by rw [hw]; exact HP13.2); have hp_ : Kd.R (Kd.int .i64) 3 w14 w.heap.size (fun _ => True) (.slice (some ⟨go12, 0, none⟩) x3_1.length co8) y381 := (by rw [hw, Ny381.1]; exact HP13.1); clear HP13; refine E3 (hp_) (bG BK377.1 hg (Kd.R_ne HO_3.1 BK377.1 (by decide))) ((by rw [hw]; exact below_set (HB.1) GB12.1 : Below w.heap.size w w14)) ?_; clear HO_3 BK377 HB; intro HO_3 BK377 HB; clear hg hw hp_))
    (try simp only [← hl3_1])
    go_roundg k1
    case measure => have := HK1.1; omega
    case rel => exact ⟨(y381), (wrap64 (x18_1 + 1)), RG, H', ⟨by have := HK1.1; omega⟩, ⟨PR1 HO_3.1 hl3_1⟩, ⟨PB1 BK377.1 hl3_1⟩, ⟨BL HB.1⟩⟩
  (try simp only [hl3_1] at c9b0)
  have H' := Aside0.mk H
  clear H
  obtain ⟨hcz15_0, hcz15_1, hcz15_2, hfz15_0, hfz15_1, hfz15_2⟩ := cz3 BK377.1
  go_wp2
  go_loopg [5, 28] k1 (fun kq v5 v28 w' => ∃ (x3_2 : List Int) (x5_2 : Int) (x28_2 : Int), v5 = .int .i64 x5_2 ∧ v28 = .int .i64 x28_2 ∧ Aside0 (impl_groupNumbers.l1 kq x3_2 x5_2 l0_2 (l0_2.length : Int) x28_2 a0_0 a0_1 l0_2 = some r) ∧ Aside0 (kq ≤ k1) ∧ Aside0 (Kd.R (Kd.int .i64) 3 w' w.heap.size (fun _ => True) (.slice Ao8 x3_1.length co8) x3_2) ∧ Aside0 (w'.heap[gb377]? = some (.cells #[.int .i64 a0_0, .int .i64 a0_1, (.slice A0_2 l0_2.length c0_2)] 30 (0, 0))) ∧ Aside0 (Below w.heap.size w w'))
  case atStart => exact ⟨(x3_1), (0), (0), RG, RG, H', ⟨Nat.le_refl _⟩, ⟨PR1 HO_3.1 hl3_1⟩, ⟨PB1 BK377.1 hl3_1⟩, ⟨BL HB.1⟩⟩
  clear H'
  try clear c9b0; try clear hcz15_0; try clear hcz15_1; try clear hcz15_2; try clear hfz15_0; try clear hfz15_1; try clear hfz15_2
  obtain ⟨x3_2, x5_2, x28_2, rfl, rfl, HA, HK2, HO_3, BK377, HB⟩ := hrel
  have hl3_2 := (Kd.R_reads' HO_3.1).1
  rw [hl3_2] at HO_3
  (try simp only [hl3_2])
  (try simp only [hl3_2] at BK377)
  cases gk with
  | zero => exact absurd HA.1 (by simp [impl_groupNumbers.l1])
  | succ k2 => ?_
  have H := HA.1
  clear HA
  simp only [impl_groupNumbers.l1] at H
  replace H := ifB H; rcases H with ⟨c16b0, H⟩ | ⟨c16b0, H⟩
  · replace H := ifN H; obtain ⟨c17b0, H⟩ := H
    replace H := ifN H; obtain ⟨c18b0, H⟩ := H
    have HC19 := Aside0.mk H
    clear H
    have p382 : 0 ≤ (x28_2 : Int) := OD
    have q382 : x28_2 < (l0_2.length : Int) := OD
    obtain ⟨ad382, e382, hx382_0, hx382_1⟩ := at_T83 HR0_2.1 x28_2 p382 q382
    cases e382
    replace hx382_0 := (HB.1.cell (World.block_lt_of_cell? w _ hx382_0)).trans hx382_0
    replace hx382_1 := (HB.1.cell (World.block_lt_of_cell? w _ hx382_1)).trans hx382_1
    replace p382 := eq_true p382
    replace q382 := eq_true q382
    go_upto_region 11 with (first | ((with_reducible refine gate_dst (N := 7) rfl ?_); refine boxE (cs := #[.int .i64 0, .int .i64 0]) (t := 83) ?_; intro gb383 hg w20 hbox hb; refine E8 (Kd.R_below (PR HO_3.1) hb) (bB BK377.1 hb) (below_step (BL HB.1) hb) (hbox) (gX HB.1 hg) (gX HB.1 hg) (nB BK377.1 hg) (nC BK377.1 hg) ?_; clear HO_3 BK377 HB; intro HO_3 BK377 HB BK383 GW383 GE383 NB377_383 NB383_377; clear hb hbox hg; have hnb21 := NB383_377.1; have hnc21 := NB377_383.1; obtain ⟨hcz22_0, hcz22_1, hfz22_0, hfz22_1⟩ := cz2 BK383.1))
    (try simp only [Act.put, List.setIfInBounds_toArray, List.set_cons_zero, List.set_cons_succ])
    go_cut [42] (fun v42 wc => ∃ (kq : Nat) (x42_18 : Bool), v42 = .bool x42_18 ∧ Aside0 (impl_groupNumbers.j2 kq x3_2 x5_2 x28_2 l0_2 (l0_2.length : Int) x28_2 x42_18 a0_0 a0_1 l0_2 = some r) ∧ Aside0 (kq ≤ k2) ∧ Aside0 (Kd.R (Kd.int .i64) 3 wc w.heap.size (fun _ => True) (.slice Ao8 x3_2.length co8) x3_2) ∧ Aside0 (wc.heap[gb377]? = some (.cells #[.int .i64 a0_0, .int .i64 a0_1, (.slice (some ad382) l0_2.length c0_2)] 30 (0, 0))) ∧ Aside0 (wc.heap[gb383]? = some (.cells #[.int .i64 ((rd_T83 l0_2 x28_2).f0), .int .i64 ((rd_T83 l0_2 x28_2).f1)] 83 (0, 0))) ∧ Aside0 (Below w.heap.size w wc))
    case first =>
      have H := HC19.1
      clear HC19
      replace H := bindA H; obtain ⟨t384, A23, H⟩ := H
      replace H := ifX H; rcases H with ⟨rfl, H⟩ | ⟨rfl, H⟩
      · replace H := ifN H; obtain ⟨c25b0, H⟩ := H
        (first | rw [c25b0] | (simp only [i64_w, i32_w]; rw [c25b0]) | skip)
        have H' := Aside0.mk H
        clear H
        obtain ⟨hcz27_0, hcz27_1, hfz27_0, hfz27_1⟩ := cz2 BK383.1
        go_wp2_with (first | ((with_reducible refine gate_callee (f := 87) rfl ?_); refine goesM (N := (some 34)) #[.agg #[.int .i64 ((rd_T83 l0_2 x28_2).f0), .int .i64 ((rd_T83 l0_2 x28_2).f1)]] Try.func87 ?_; (with_reducible refine (impl_isGeared.calls ((rd_T83 l0_2 x28_2).f0) ((rd_T83 l0_2 x28_2).f1) true _ A23.1).mono ?_); rintro e w28 ⟨rfl, hb⟩; refine ⟨_, rfl, ?_⟩; refine E4 (Kd.R_below (by (with_reducible repeat (first | apply Kd.R_alloc | apply Kd.R_drewN | apply Kd.R_drew)); exact (Kd.R_mono (Kd.R_far (p := ⟨gb383, 1, none⟩) (Kd.R_far (p := ⟨gb383, 0, none⟩) (Kd.R_types HO_3.1 BK383.1 (by decide)) (fun _ hk => hk.2) (.int .i64 ((rd_T83 l0_2 x28_2).f0))) (fun _ hk => hk.2) (.int .i64 ((rd_T83 l0_2 x28_2).f1))) (fun _ h_ => h_.1))) hb) (blk_below (g := gb377) (o := .cells #[.int .i64 a0_0, .int .i64 a0_1, .slice (some ad382) l0_2.length c0_2] 30 (0, 0)) (PF1 NB377_383.1 BK377.1) hb) (blk_below (g := gb383) (o := .cells #[.int .i64 ((rd_T83 l0_2 x28_2).f0), .int .i64 ((rd_T83 l0_2 x28_2).f1)] 83 (0, 0)) (PF0 BK383.1) hb) (below_step (BL HB.1) hb) ?_; clear HO_3 BK377 BK383 HB; intro HO_3 BK377 BK383 HB; (try clear hb); (try clear hk); have p385 : 0 ≤ (x28_2 : Int) := OD; have q385 : x28_2 < (x3_2.length : Int) := OD; obtain ⟨ad385, e385, hx385_0⟩ := Kd.at_int (Kd.R_reads' HO_3.1).2.2 x28_2 p385 q385; cases e385; replace p385 := eq_true p385; replace q385 := eq_true q385))
        go_meet
        case rel => exact ⟨_, (decide ((rd x3_2 x28_2) ≥ 0)), RG, H', ⟨by have := HK1.1; have := HK2.1; first | omega | exact Nat.le_refl _⟩, ⟨PR2 HO_3.1 hl3_1 hl3_2⟩, ⟨PB2 BK377.1 hl3_1 hl3_2⟩, ⟨PB2 BK383.1 hl3_1 hl3_2⟩, ⟨BL HB.1⟩⟩
      have H' := Aside0.mk H
      clear H
      obtain ⟨hcz30_0, hcz30_1, hfz30_0, hfz30_1⟩ := cz2 BK383.1
      go_wp2_with (first | ((with_reducible refine gate_callee (f := 87) rfl ?_); refine goesM (N := (some 34)) #[.agg #[.int .i64 ((rd_T83 l0_2 x28_2).f0), .int .i64 ((rd_T83 l0_2 x28_2).f1)]] Try.func87 ?_; (with_reducible refine (impl_isGeared.calls ((rd_T83 l0_2 x28_2).f0) ((rd_T83 l0_2 x28_2).f1) false _ A23.1).mono ?_); rintro e w31 ⟨rfl, hb⟩; refine ⟨_, rfl, ?_⟩; refine E4 (Kd.R_below (by (with_reducible repeat (first | apply Kd.R_alloc | apply Kd.R_drewN | apply Kd.R_drew)); exact (Kd.R_mono (Kd.R_far (p := ⟨gb383, 1, none⟩) (Kd.R_far (p := ⟨gb383, 0, none⟩) (Kd.R_types HO_3.1 BK383.1 (by decide)) (fun _ hk => hk.2) (.int .i64 ((rd_T83 l0_2 x28_2).f0))) (fun _ hk => hk.2) (.int .i64 ((rd_T83 l0_2 x28_2).f1))) (fun _ h_ => h_.1))) hb) (blk_below (g := gb377) (o := .cells #[.int .i64 a0_0, .int .i64 a0_1, .slice (some ad382) l0_2.length c0_2] 30 (0, 0)) (PF1 NB377_383.1 BK377.1) hb) (blk_below (g := gb383) (o := .cells #[.int .i64 ((rd_T83 l0_2 x28_2).f0), .int .i64 ((rd_T83 l0_2 x28_2).f1)] 83 (0, 0)) (PF0 BK383.1) hb) (below_step (BL HB.1) hb) ?_; clear HO_3 BK377 BK383 HB; intro HO_3 BK377 BK383 HB; (try clear hb); (try clear hk)))
      go_meet
      case rel => exact ⟨_, (true), RG, H', ⟨by have := HK1.1; have := HK2.1; first | omega | exact Nat.le_refl _⟩, ⟨PR2 HO_3.1 hl3_1 hl3_2⟩, ⟨PB2 BK377.1 hl3_1 hl3_2⟩, ⟨PB2 BK383.1 hl3_1 hl3_2⟩, ⟨BL HB.1⟩⟩
    clear HC19
    try clear c16b0; try clear c17b0; try clear c18b0; try clear hcz22_0; try clear hcz22_1; try clear hfz22_0; try clear hfz22_1; try clear hx382_0; try clear hx382_1; try clear p382; try clear q382
    obtain ⟨kq, x42_18, rfl, HA, HJ18, HO_3, BK377, BK383, HB⟩ := hcut
    cases kq with
    | zero => exact absurd HA.1 (by simp [impl_groupNumbers.j2])
    | succ kj18 => ?_
    have H := HA.1
    clear HA
    simp only [impl_groupNumbers.j2] at H
    replace H := ifX H; rcases H with ⟨rfl, H⟩ | ⟨rfl, H⟩
    · have H' := Aside0.mk H
      clear H
      go_wp2
      (try simp only [← hl3_2])
      go_roundg kj18
      case measure => have := HK1.1; have := HK2.1; have := HJ18.1; omega
      case rel => exact ⟨(x3_2), (x5_2), (wrap64 (x28_2 + 1)), RG, RG, H', ⟨by have := HK1.1; have := HK2.1; have := HJ18.1; omega⟩, ⟨PR2 HO_3.1 hl3_1 hl3_2⟩, ⟨PB2 BK377.1 hl3_1 hl3_2⟩, ⟨BL HB.1⟩⟩
    replace H := ifN H; obtain ⟨c33b0, H⟩ := H
    replace H := ifN H; obtain ⟨c34b0, H⟩ := H
    generalize hy386 : ((x3_2.set (x28_2 : Int).toNat x5_2) : List Int) = y386 at H
    have Ny386 := Aside0.mk hy386.symm; clear hy386
    generalize hy387 : ((([x28_2] : List Int)) : List Int) = y387 at H
    have Ny387 := Aside0.mk hy387.symm; clear hy387
    have H' := Aside0.mk H
    clear H
    have p35 : 0 ≤ (x28_2 : Int) := OD
    have q35 : (x28_2 : Int) < ((x3_2.length : Int) : Int) := OD
    obtain ⟨go35, co35, eo35, gb35, gl35, cl35, HG35⟩ := Kd.R_form HO_3.1 (by omega)
    (first | cases eo35 | (injection eo35 with ea_ en_ ec_; (first | subst ea_ | (injection ea_ with ea_; subst ea_)); subst ec_; clear en_))
    have GB35 := Aside0.mk gb35
    have GG35 := Aside0.mk HG35
    clear gb35 gl35 HG35
    obtain ⟨hx35_0, hf35_0⟩ := Kd.R_celln 0 HO_3.1 (x28_2 : Int) p35 q35
    replace p35 := eq_true p35
    replace q35 := eq_true q35
    have HP36 := Kd.R_putg HO_3.1 (x28_2 : Int) x5_2
    go_wp2_with (first | ((with_reducible refine gate_store (t := 3) (p := 46) rfl ?_); refine storeE (t := 3) (p := 46) (w1 := (wc.setCell ⟨go35, (x28_2 : Int).toNat, none⟩ (.int .i64 x5_2))) ?_; intro w37 hw; have hg : wc.grownBy w37 (some go35) := (by rw [hw]; exact HP36.2); have hp_ : Kd.R (Kd.int .i64) 3 w37 w.heap.size (fun _ => True) (.slice (some ⟨go35, 0, none⟩) x3_2.length co8) y386 := (by rw [hw, Ny386.1]; exact HP36.1); clear HP36; refine E4 (hp_) (bG BK377.1 hg (Kd.R_ne HO_3.1 BK377.1 (by decide))) (bG BK383.1 hg (Kd.R_ne HO_3.1 BK383.1 (by decide))) ((by rw [hw]; exact below_set (HB.1) GB35.1 : Below w.heap.size w w37)) ?_; clear HO_3 BK377 BK383 HB; intro HO_3 BK377 BK383 HB; clear hg hw hp_) | ((with_reducible refine gate_dst (N := 48) rfl ?_); refine Kd.R_lit (Kd.int .i64) _ 3 ?hg (N := 48) ?hd (xs := ([x28_2] : List Int)) (inner := [.int .i64 x28_2]) (ok := fun _ => True) (okp := fun _ => True) ?hr ?hp (fun _ hk => hk) trivial (Below.refl _ _) (Nat.le_refl _) (by simp) ?_; (case hd => rfl); (case hg => rfl); (case hr => first | (go_simp; done) | (go_simp; rfl)); (case hp => exact (Reps.one (show Kd.M (Kd.int .i64) _ _ _ x28_2 [.int .i64 x28_2] from rfl) (Reps.none _ _))); intro v388 w38 ho39 hb hg_ hnew_; clear hg_ hnew_; (first | rw [← Ny387.1] at ho39 | (simp only [Int.reduceToNat] at ho39; rw [← Ny387.1] at ho39)); refine E5 (Kd.R_elder' (PR HO_3.1) (Kd.R_base ho39) hb) (Kd.R_lower (Kd.R_new' ho39 (Kd.R_lt (PR HO_3.1))) (below_size (BL HB.1))) (bB BK377.1 hb) (bB BK383.1 hb) (below_step (BL HB.1) hb) ?_; clear HO_3 BK377 BK383 HB; intro HO_3 HO389 BK377 BK383 HB; clear hb ho39))
    go_loopg [8] kj18 (fun kq v8 w' => ∃ (x3_4 : List Int) (x8_4 : List Int), Aside0 (impl_groupNumbers.l2 kq x3_4 x5_2 x8_4 l0_2 (l0_2.length : Int) x28_2 a0_0 a0_1 l0_2 = some r) ∧ Aside0 (kq ≤ kj18) ∧ Aside0 (Kd.R (Kd.int .i64) 3 w' w.heap.size (fun k_ => some k_ ≠ (v8 : Value).ownBlock) (.slice (some ⟨go35, 0, none⟩) x3_2.length co8) x3_4) ∧ Aside0 (Kd.Q (Kd.int .i64) 3 w' w.heap.size (fun k_ => some k_ ≠ ((.slice (some ⟨go35, 0, none⟩) x3_2.length co8) : Value).ownBlock) v8 x8_4) ∧ Aside0 (w'.heap[gb377]? = some (.cells #[.int .i64 a0_0, .int .i64 a0_1, (.slice (some ad382) l0_2.length c0_2)] 30 (0, 0))) ∧ Aside0 (w'.heap[gb383]? = some (.cells #[.int .i64 ((rd_T83 l0_2 x28_2).f0), .int .i64 ((rd_T83 l0_2 x28_2).f1)] 83 (0, 0))) ∧ Aside0 (Below w.heap.size w w'))
    case atStart => exact ⟨(y386), (y387), H', ⟨Nat.le_refl _⟩, ⟨by (try simp only [hl3_1]); (try simp only [hl3_2]); (with_reducible repeat (first | apply Kd.R_alloc | apply Kd.R_drewN | apply Kd.R_drew)); exact Kd.R_mono HO_3.1 (fun _ hk => hk.2)⟩, ⟨Kd.Q_of_R (by (try simp only [hl3_1]); (try simp only [hl3_2]); (with_reducible repeat (first | apply Kd.R_alloc | apply Kd.R_drewN | apply Kd.R_drew)); exact Kd.R_mono HO389.1 (fun _ hk => hk.2))⟩, ⟨PB2 BK377.1 hl3_1 hl3_2⟩, ⟨PB2 BK383.1 hl3_1 hl3_2⟩, ⟨BL HB.1⟩⟩
    clear H'
    try clear c33b0; try clear c34b0; try clear p35; try clear q35; try clear hx35_0
    obtain ⟨x3_4, x8_4, HA, HK4, HO_3, HO_8, BK377, BK383, HB⟩ := hrel
    have hl3_4 := (Kd.R_reads' HO_3.1).1
    rw [hl3_4] at HO_3
    (try simp only [hl3_4])
    (try simp only [hl3_4] at BK377)
    (try simp only [hl3_4] at BK383)
    (try simp only [hl3_4] at HO_8)
    cases gk with
    | zero => exact absurd HA.1 (by simp [impl_groupNumbers.l2])
    | succ k4 => ?_
    have H := HA.1
    clear HA
    simp only [impl_groupNumbers.l2] at H
    replace H := ifQ H; rcases H with ⟨c40, H⟩ | ⟨c40, H⟩
    · have c40b0 : decide (0 < (x8_4.length : Int)) = true := decide_eq_true c40
      have c40b1 : decide (0 < x8_4.length) = true := decide_eq_true (by omega)
      clear c40
      replace H := ifP H; obtain ⟨c41, H⟩ := H
      have c41b0 := decide_eq_true c41
      have c41b1 : decide (0 < x8_4.length) = true := decide_eq_true (by omega)
      clear c41
      replace H := ifP H; obtain ⟨c42, H⟩ := H
      have c42b0 := eq_true c42
      have c42b1 := decide_eq_true c42
      clear c42
      generalize hy391 : ((x8_4.drop (1 : Int).toNat) : List Int) = y391 at H
      have Ny391 := Aside0.mk hy391.symm; clear hy391
      replace H := bindA H; obtain ⟨t394, A43, H⟩ := H
      have H' := Aside0.mk H
      clear H
      obtain ⟨Ao44, co44, eo44, _⟩ := Kd.Q_slice HO_8.1
      subst eo44
      have p390 : 0 ≤ (0 : Int) := (by omega)
      have q390 : 0 < (x8_4.length : Int) := OD
      obtain ⟨ad390, e390, hx390_0⟩ := Kd.at_int (Kd.Q_reads' HO_8.1).2.2 0 p390 q390
      cases e390
      have qi390 : (0 < x8_4.length) = True := eq_true (by omega)
      (try rw [show ((0 : Int)).toNat = 0 from rfl] at hx390_0)
      (try rw [Addr.add_zero'] at hx390_0)
      replace p390 := eq_true p390
      replace q390 := eq_true q390
      have q45 : (1 : Int) ≤ ((x8_4.length : Int) : Int) := OD
      obtain ⟨i045, hi045, _, hsz45, _⟩ := info_parts info3
      have hcut45 := cut_from (P := Try.prog) 38 3 .i64 Try.underlying38 hi045 1 hsz45 (some ad390) x8_4.length co44 1 (by omega) q45
      have hr45 := Kd.Q_drop (k := (1 : Int).toNat) HO_8.1 (by omega)
      obtain ⟨A45, hA45⟩ : ∃ A1, A1 = (if co44 = (1 : Int).toNat then (some ad390) else ((some ad390) : Option Addr).map (·.add ((1 : Int).toNat * 1))) := ⟨_, rfl⟩
      obtain ⟨c45, hc45⟩ : ∃ c1, c1 = co44 - (1 : Int).toNat := ⟨_, rfl⟩
      have hy45 : y391.length = x8_4.length - (1 : Int).toNat := (by rw [Ny391.1, List.length_drop])
      rw [← Ny391.1] at hr45
      rw [← hy45, ← hA45, ← hc45] at hcut45
      replace hr45 : Kd.Q (Kd.int .i64) 3 wr w.heap.size (fun k_ => some k_ ≠ (.slice (some ⟨go35, 0, none⟩) x3_4.length co8 : Value).ownBlock) (.slice A45 y391.length c45) y391 := (by rw [hA45, hc45, hy45]; exact hr45)
      have HE45 : Aside0 ((Value.slice A45 y391.length c45).ownBlock = (.slice (some ad390) x8_4.length co44 : Value).ownBlock) := ⟨by rw [hA45]; split <;> (cases ((some ad390) : Option Addr) <;> rfl)⟩
      clear hy45 hi045 hsz45 HO_8 hA45 hc45
      have HO393 := Aside0.mk hr45
      clear hr45
      replace q45 := eq_true q45
      have n_ := Aside0.mk (Kd.R_mono (ok' := fun k_ => some k_ ≠ (.slice A45 y391.length c45 : Value).ownBlock) HO_3.1 (fun k_ hk => (by rw [HE45.1]; exact hk)))
      clear HO_3
      have HO_3 := n_
      clear n_
      obtain ⟨hcz47_0, hcz47_1, hcz47_2, hfz47_0, hfz47_1, hfz47_2⟩ := cz3 BK377.1
      go_wp2_with (first | ((with_reducible refine gate_callee (f := 88) rfl ?_); refine goesM (N := (some 59)) #[.agg #[.int .i64 a0_0, .int .i64 a0_1, .slice (some ad382) l0_2.length c0_2], .int .i64 (rd x8_4 0)] Try.func88 ?_; (with_reducible refine (impl_besideOf.calls k4 a0_0 a0_1 _ _ l0_2 (rd x8_4 0) t394 _ ?side1 ?side2 A43.1).mono ?_); (case side1 => exact CB (Kd.C_below HR0_2.1 HB.1)); (case side2 => exact HC0_2.1); rintro e w48 ⟨v395, rfl, ho0, hb⟩; refine ⟨_, rfl, ?_⟩; refine E6 (Kd.R_elder' (PR HO_3.1) (Kd.R_base ho0) hb) (Kd.Q_elder' (by (with_reducible repeat (first | apply Kd.Q_alloc | apply Kd.Q_drewN | apply Kd.Q_drew)); exact HO393.1) (Kd.R_base ho0) hb) (Kd.R_lower (Kd.R_new' (Kd.R_new' ho0 (Kd.R_lt (PR HO_3.1))) (Kd.Q_lt (by (with_reducible repeat (first | apply Kd.Q_alloc | apply Kd.Q_drewN | apply Kd.Q_drew)); exact HO393.1))) (below_size (BL HB.1))) (bB BK377.1 hb) (bB BK383.1 hb) (below_step (BL HB.1) hb) ?_; clear HO_3 HO393 BK377 BK383 HB; intro HO_3 HO393 HO396 BK377 BK383 HB; (try clear hb); (try clear ho0); obtain ⟨Ao49, co49, eo49⟩ := Kd.R_slice HO396.1; subst eo49))
      go_loopg [8, 61] k4 (fun kq v8 v61 w' => ∃ (x3_5 : List Int) (x8_5 : List Int) (x61_5 : Int), v61 = .int .i64 x61_5 ∧ Aside0 (impl_groupNumbers.l3 kq x3_5 x5_2 x8_5 l0_2 (l0_2.length : Int) x28_2 t394 (t394.length : Int) x61_5 a0_0 a0_1 l0_2 = some r) ∧ Aside0 (kq ≤ k4) ∧ Aside0 (Kd.R (Kd.int .i64) 3 w' w.heap.size (fun k_ => some k_ ≠ (v8 : Value).ownBlock ∧ some k_ ≠ ((.slice Ao49 t394.length co49) : Value).ownBlock) (.slice (some ⟨go35, 0, none⟩) x3_4.length co8) x3_5) ∧ Aside0 (Kd.Q (Kd.int .i64) 3 w' w.heap.size (fun k_ => some k_ ≠ ((.slice (some ⟨go35, 0, none⟩) x3_4.length co8) : Value).ownBlock ∧ some k_ ≠ ((.slice Ao49 t394.length co49) : Value).ownBlock) v8 x8_5) ∧ Aside0 (Kd.R (Kd.int .i64) 3 w' w.heap.size (fun k_ => some k_ ≠ ((.slice (some ⟨go35, 0, none⟩) x3_4.length co8) : Value).ownBlock ∧ some k_ ≠ (v8 : Value).ownBlock) (.slice Ao49 t394.length co49) t394) ∧ Aside0 (w'.heap[gb377]? = some (.cells #[.int .i64 a0_0, .int .i64 a0_1, (.slice (some ad382) l0_2.length c0_2)] 30 (0, 0))) ∧ Aside0 (w'.heap[gb383]? = some (.cells #[.int .i64 ((rd_T83 l0_2 x28_2).f0), .int .i64 ((rd_T83 l0_2 x28_2).f1)] 83 (0, 0))) ∧ Aside0 (Below w.heap.size w w'))
      case atStart => exact ⟨(x3_4), (y391), (0), RG, H', ⟨Nat.le_refl _⟩, ⟨PR3 HO_3.1 hl3_1 hl3_2 hl3_4⟩, ⟨by (try simp only [hl3_1]); (try simp only [hl3_2]); (try simp only [hl3_4]); (with_reducible repeat (first | apply Kd.Q_alloc | apply Kd.Q_drewN | apply Kd.Q_drew)); exact HO393.1⟩, ⟨by (try simp only [hl3_1]); (try simp only [hl3_2]); (try simp only [hl3_4]); (with_reducible repeat (first | apply Kd.R_alloc | apply Kd.R_drewN | apply Kd.R_drew)); exact Kd.R_mono HO396.1 (fun _ hk => ⟨hk.1.2, hk.2⟩)⟩, ⟨PB3 BK377.1 hl3_1 hl3_2 hl3_4⟩, ⟨PB3 BK383.1 hl3_1 hl3_2 hl3_4⟩, ⟨BL HB.1⟩⟩
      clear H'
      try clear c1; try clear c40b0; try clear c40b1; try clear c41b0; try clear c41b1; try clear c42b0; try clear c42b1; try clear c45; try clear q45; try clear hcz47_0; try clear hcz47_1; try clear hcz47_2; try clear hfz47_0; try clear hfz47_1; try clear hfz47_2; try clear hx390_0; try clear p390; try clear q390
      obtain ⟨x3_5, x8_5, x61_5, rfl, HA, HK5, HO_3, HO_8, HO_59, BK377, BK383, HB⟩ := hrel
      have hl3_5 := (Kd.R_reads' HO_3.1).1
      rw [hl3_5] at HO_3
      (try simp only [hl3_5])
      (try simp only [hl3_5] at BK377)
      (try simp only [hl3_5] at BK383)
      (try simp only [hl3_5] at HO_8)
      (try simp only [hl3_5] at HO_59)
      cases gk with
      | zero => exact absurd HA.1 (by simp [impl_groupNumbers.l3])
      | succ k5 => ?_
      have H := HA.1
      clear HA
      simp only [impl_groupNumbers.l3] at H
      replace H := ifB H; rcases H with ⟨c50b0, H⟩ | ⟨c50b0, H⟩
      · replace H := ifN H; obtain ⟨c51b0, H⟩ := H
        replace H := ifN H; obtain ⟨c52b0, H⟩ := H
        replace H := ifN H; obtain ⟨c53b0, H⟩ := H
        replace H := ifN H; obtain ⟨c54b0, H⟩ := H
        replace H := bindA H; obtain ⟨t399, A55, H⟩ := H
        replace H := ifX H; rcases H with ⟨rfl, H⟩ | ⟨rfl, H⟩
        · replace H := ifN H; obtain ⟨c57b0, H⟩ := H
          replace H := ifB H; rcases H with ⟨c58b0, H⟩ | ⟨c58b0, H⟩
          · generalize hy401 : ((x3_5.set ((rd t394 x61_5) : Int).toNat x5_2) : List Int) = y401 at H
            have Ny401 := Aside0.mk hy401.symm; clear hy401
            replace H := ifP H; obtain ⟨c60, H⟩ := H
            have LMc60 := Aside0.mk c60
            clear c60
            generalize hy402 : ((x8_5 ++ [rd t394 x61_5]) : List Int) = y402 at H
            have Ny402 := Aside0.mk hy402.symm; clear hy402
            have H' := Aside0.mk H
            clear H
            have p397 : 0 ≤ (x61_5 : Int) := OD
            have q397 : x61_5 < (t394.length : Int) := OD
            obtain ⟨ad397, e397, hx397_0⟩ := Kd.at_int (Kd.R_reads' HO_59.1).2.2 x61_5 p397 q397
            cases e397
            replace p397 := eq_true p397
            replace q397 := eq_true q397
            obtain ⟨hcz62_0, hcz62_1, hcz62_2, hfz62_0, hfz62_1, hfz62_2⟩ := cz3 BK377.1
            have p398 : 0 ≤ ((rd t394 x61_5) : Int) := OD
            have q398 : (rd t394 x61_5) < (l0_2.length : Int) := OD
            obtain ⟨ad398, e398, hx398_0, hx398_1⟩ := at_T83 HR0_2.1 (rd t394 x61_5) p398 q398
            obtain rfl : ad382 = ad398 := (by injection e398)
            replace hx398_0 := (HB.1.cell (World.block_lt_of_cell? w _ hx398_0)).trans hx398_0
            replace hx398_1 := (HB.1.cell (World.block_lt_of_cell? w _ hx398_1)).trans hx398_1
            replace p398 := eq_true p398
            replace q398 := eq_true q398
            go_wp2_with (first | ((with_reducible refine gate_callee (f := 87) rfl ?_); refine goesM (N := (some 70)) #[.agg #[.int .i64 ((rd_T83 l0_2 (rd t394 x61_5)).f0), .int .i64 ((rd_T83 l0_2 (rd t394 x61_5)).f1)]] Try.func87 ?_; (with_reducible refine (impl_isGeared.calls ((rd_T83 l0_2 (rd t394 x61_5)).f0) ((rd_T83 l0_2 (rd t394 x61_5)).f1) true _ A55.1).mono ?_); rintro e w63 ⟨rfl, hb⟩; refine ⟨_, rfl, ?_⟩; refine E6 (Kd.R_below (PR HO_3.1) hb) (Kd.Q_below (by (with_reducible repeat (first | apply Kd.Q_alloc | apply Kd.Q_drewN | apply Kd.Q_drew)); exact HO_8.1) hb) (Kd.R_below (PR HO_59.1) hb) (bB BK377.1 hb) (bB BK383.1 hb) (below_step (BL HB.1) hb) ?_; clear HO_3 HO_8 HO_59 BK377 BK383 HB; intro HO_3 HO_8 HO_59 BK377 BK383 HB; (try clear hb); have p400 : 0 ≤ ((rd t394 x61_5) : Int) := OD; have q400 : (rd t394 x61_5) < (x3_5.length : Int) := OD; obtain ⟨ad400, e400, hx400_0⟩ := Kd.at_int (Kd.R_reads' HO_3.1).2.2 (rd t394 x61_5) p400 q400; obtain rfl : (⟨go35, 0, none⟩ : Addr) = ad400 := (by injection e400); (first | simp only [add_plain] at hx400_0 | simp only [add_at] at hx400_0 | simp only [Addr.add, Nat.zero_add] at hx400_0 | skip); replace p400 := eq_true p400; replace q400 := eq_true q400; have p59 : 0 ≤ ((rd t394 x61_5) : Int) := OD; have q59 : ((rd t394 x61_5) : Int) < ((x3_5.length : Int) : Int) := OD; obtain ⟨hx59_0, hf59_0⟩ := Kd.R_celln 0 HO_3.1 ((rd t394 x61_5) : Int) p59 q59; replace p59 := eq_true p59; replace q59 := eq_true q59; obtain ⟨hy64_, hz64_⟩ := Kd.R_celln 0 HO_3.1 ((rd t394 x61_5) : Int) (OD) (OD); have HP64 := Kd.R_putg HO_3.1 ((rd t394 x61_5) : Int) x5_2) | ((with_reducible refine gate_store (t := 3) (p := 81) rfl ?_); refine storeE (t := 3) (p := 81) (w1 := (w63.setCell ⟨go35, ((rd t394 x61_5) : Int).toNat, none⟩ (.int .i64 x5_2))) ?_; intro w65 hw; have hg : w63.grownBy w65 (some go35) := (by rw [hw]; exact HP64.2); have hp_ : Kd.R (Kd.int .i64) 3 w65 w.heap.size (fun k_ => some k_ ≠ (u8 : Value).ownBlock ∧ some k_ ≠ (.slice (some ad397) t394.length co49 : Value).ownBlock) (.slice (some ⟨go35, 0, none⟩) x3_5.length co8) y401 := (by rw [hw, Ny401.1]; exact HP64.1); clear HP64; refine E6 (hp_) (Kd.Q_after (v := (.slice (some ⟨go35, 0, none⟩) x3_5.length co8)) (v1 := (.slice (some ⟨go35, 0, none⟩) x3_5.length co8)) (ok := (fun k_ => some k_ ≠ (.slice (some ad397) t394.length co49 : Value).ownBlock)) (by (with_reducible repeat (first | apply Kd.Q_alloc | apply Kd.Q_drewN | apply Kd.Q_drew)); exact Kd.Q_mono HO_8.1 (fun _ hk => ⟨hk.2, hk.1⟩)) hg (.inl rfl)) (Kd.R_after (v := (.slice (some ⟨go35, 0, none⟩) x3_5.length co8)) (v1 := (.slice (some ⟨go35, 0, none⟩) x3_5.length co8)) (ok := (fun k_ => some k_ ≠ (u8 : Value).ownBlock)) (by (with_reducible repeat (first | apply Kd.R_alloc | apply Kd.R_drewN | apply Kd.R_drew)); exact Kd.R_mono HO_59.1 (fun _ hk => ⟨hk.2, hk.1⟩)) hg (.inl rfl)) (bG BK377.1 hg (Kd.R_ne HO_3.1 BK377.1 (by decide))) (bG BK383.1 hg (Kd.R_ne HO_3.1 BK383.1 (by decide))) ((by rw [hw]; exact below_set (HB.1) GB35.1 : Below w.heap.size w w65)) ?_; clear HO_3 HO_8 HO_59 BK377 BK383 HB; intro HO_3 HO_8 HO_59 BK377 BK383 HB; clear hg hw hp_) | ((with_reducible refine gate_builtin (b := .append) (xs := #[.tmp 82, .tmp 84]) rfl ?_); at_builtin; refine Kd.Q_append (Kd.int .i64) (w0 := w) w.heap.size rfl (.tmp 82) (.tmp 84) 38 3 (.int .i64 0) 8 rfl Try.underlying38 info3 rfl (by decide) (by omega) u8 x8_5 (rd t394 x61_5) [.int .i64 (rd t394 x61_5)] (fun k_ => some k_ ≠ (.slice (some ⟨go35, 0, none⟩) x3_5.length co8 : Value).ownBlock ∧ some k_ ≠ (.slice (some ad397) t394.length co49 : Value).ownBlock) (fun _ => False) rfl rfl ?aP (fun _ hk => hk.elim) ?aF ?aO ?aB ?aS ?aL ?_; (case aP => exact rfl); (case aB => exact (BL HB.1)); (case aF => exact (fun k_ hk => ⟨Kd.fresh' (Kd.R_lt (PR HO_3.1)) k_ hk, Kd.fresh' (Kd.R_lt (PR HO_59.1)) k_ hk⟩)); (case aO => exact (by (with_reducible repeat (first | apply Kd.Q_alloc | apply Kd.Q_drewN | apply Kd.Q_drew)); exact Kd.Q_mono HO_8.1 (fun _ hk => ⟨hk.2, hk.1⟩))); (case aS => exact (below_size (BL HB.1))); (case aL => have := LMc60.1; omega); intro v403 w66 ho hb hg hat; rw [← Ny402.1] at ho; refine E6 (Kd.R_after (ok := (fun k_ => some k_ ≠ (.slice (some ad397) t394.length co49 : Value).ownBlock)) (by (with_reducible repeat (first | apply Kd.R_alloc | apply Kd.R_drewN | apply Kd.R_drew)); exact Kd.R_mono HO_3.1 (fun _ hk => ⟨hk.2, hk.1⟩)) hg hat) (Kd.R_after (ok := (fun k_ => some k_ ≠ (.slice (some ⟨go35, 0, none⟩) x3_5.length co8 : Value).ownBlock)) (by (with_reducible repeat (first | apply Kd.R_alloc | apply Kd.R_drewN | apply Kd.R_drew)); exact Kd.R_mono HO_59.1 (fun _ hk => ⟨hk.2, hk.1⟩)) hg hat) (bG BK377.1 hg (Kd.Q_ne HO_8.1 BK377.1 (by decide))) (bG BK383.1 hg (Kd.Q_ne HO_8.1 BK383.1 (by decide))) (hb) (ho) ?_; clear HO_3 HO_59 BK377 BK383 HB HO_8; intro HO_3 HO_59 BK377 BK383 HB HO404; clear ho hb hg hat))
            (try simp only [← hl3_5])
            go_roundg k5
            case measure => have := HK1.1; have := HK2.1; have := HJ18.1; have := HK4.1; have := HK5.1; omega
            case rel => exact ⟨(y401), (y402), (wrap64 (x61_5 + 1)), RG, H', ⟨by have := HK1.1; have := HK2.1; have := HJ18.1; have := HK4.1; have := HK5.1; omega⟩, ⟨by (try simp only [hl3_1]); (try simp only [hl3_2]); (try simp only [hl3_4]); (try simp only [hl3_5]); (with_reducible repeat (first | apply Kd.R_alloc | apply Kd.R_drewN | apply Kd.R_drew)); exact Kd.R_mono HO_3.1 (fun _ hk => ⟨hk.2, hk.1⟩)⟩, ⟨by (try simp only [hl3_1]); (try simp only [hl3_2]); (try simp only [hl3_4]); (try simp only [hl3_5]); (with_reducible repeat (first | apply Kd.Q_alloc | apply Kd.Q_drewN | apply Kd.Q_drew)); exact HO404.1⟩, ⟨PR4 HO_59.1 hl3_1 hl3_2 hl3_4 hl3_5⟩, ⟨PB4 BK377.1 hl3_1 hl3_2 hl3_4 hl3_5⟩, ⟨PB4 BK383.1 hl3_1 hl3_2 hl3_4 hl3_5⟩, ⟨BL HB.1⟩⟩
          have H' := Aside0.mk H
          clear H
          have p397 : 0 ≤ (x61_5 : Int) := OD
          have q397 : x61_5 < (t394.length : Int) := OD
          obtain ⟨ad397, e397, hx397_0⟩ := Kd.at_int (Kd.R_reads' HO_59.1).2.2 x61_5 p397 q397
          cases e397
          replace p397 := eq_true p397
          replace q397 := eq_true q397
          obtain ⟨hcz68_0, hcz68_1, hcz68_2, hfz68_0, hfz68_1, hfz68_2⟩ := cz3 BK377.1
          have p398 : 0 ≤ ((rd t394 x61_5) : Int) := OD
          have q398 : (rd t394 x61_5) < (l0_2.length : Int) := OD
          obtain ⟨ad398, e398, hx398_0, hx398_1⟩ := at_T83 HR0_2.1 (rd t394 x61_5) p398 q398
          obtain rfl : ad382 = ad398 := (by injection e398)
          replace hx398_0 := (HB.1.cell (World.block_lt_of_cell? w _ hx398_0)).trans hx398_0
          replace hx398_1 := (HB.1.cell (World.block_lt_of_cell? w _ hx398_1)).trans hx398_1
          replace p398 := eq_true p398
          replace q398 := eq_true q398
          go_wp2_with (first | ((with_reducible refine gate_callee (f := 87) rfl ?_); refine goesM (N := (some 70)) #[.agg #[.int .i64 ((rd_T83 l0_2 (rd t394 x61_5)).f0), .int .i64 ((rd_T83 l0_2 (rd t394 x61_5)).f1)]] Try.func87 ?_; (with_reducible refine (impl_isGeared.calls ((rd_T83 l0_2 (rd t394 x61_5)).f0) ((rd_T83 l0_2 (rd t394 x61_5)).f1) true _ A55.1).mono ?_); rintro e w69 ⟨rfl, hb⟩; refine ⟨_, rfl, ?_⟩; refine E6 (Kd.R_below (PR HO_3.1) hb) (Kd.Q_below (by (with_reducible repeat (first | apply Kd.Q_alloc | apply Kd.Q_drewN | apply Kd.Q_drew)); exact HO_8.1) hb) (Kd.R_below (PR HO_59.1) hb) (bB BK377.1 hb) (bB BK383.1 hb) (below_step (BL HB.1) hb) ?_; clear HO_3 HO_8 HO_59 BK377 BK383 HB; intro HO_3 HO_8 HO_59 BK377 BK383 HB; (try clear hb); have p400 : 0 ≤ ((rd t394 x61_5) : Int) := OD; have q400 : (rd t394 x61_5) < (x3_5.length : Int) := OD; obtain ⟨ad400, e400, hx400_0⟩ := Kd.at_int (Kd.R_reads' HO_3.1).2.2 (rd t394 x61_5) p400 q400; obtain rfl : (⟨go35, 0, none⟩ : Addr) = ad400 := (by injection e400); (first | simp only [add_plain] at hx400_0 | simp only [add_at] at hx400_0 | simp only [Addr.add, Nat.zero_add] at hx400_0 | skip); replace p400 := eq_true p400; replace q400 := eq_true q400))
          (try simp only [← hl3_5])
          go_roundg k5
          case measure => have := HK1.1; have := HK2.1; have := HJ18.1; have := HK4.1; have := HK5.1; omega
          case rel => exact ⟨(x3_5), (x8_5), (wrap64 (x61_5 + 1)), RG, H', ⟨by have := HK1.1; have := HK2.1; have := HJ18.1; have := HK4.1; have := HK5.1; omega⟩, ⟨PR4 HO_3.1 hl3_1 hl3_2 hl3_4 hl3_5⟩, ⟨by (try simp only [hl3_1]); (try simp only [hl3_2]); (try simp only [hl3_4]); (try simp only [hl3_5]); (with_reducible repeat (first | apply Kd.Q_alloc | apply Kd.Q_drewN | apply Kd.Q_drew)); exact HO_8.1⟩, ⟨PR4 HO_59.1 hl3_1 hl3_2 hl3_4 hl3_5⟩, ⟨PB4 BK377.1 hl3_1 hl3_2 hl3_4 hl3_5⟩, ⟨PB4 BK383.1 hl3_1 hl3_2 hl3_4 hl3_5⟩, ⟨BL HB.1⟩⟩
        have H' := Aside0.mk H
        clear H
        have p397 : 0 ≤ (x61_5 : Int) := OD
        have q397 : x61_5 < (t394.length : Int) := OD
        obtain ⟨ad397, e397, hx397_0⟩ := Kd.at_int (Kd.R_reads' HO_59.1).2.2 x61_5 p397 q397
        cases e397
        replace p397 := eq_true p397
        replace q397 := eq_true q397
        obtain ⟨hcz71_0, hcz71_1, hcz71_2, hfz71_0, hfz71_1, hfz71_2⟩ := cz3 BK377.1
        have p398 : 0 ≤ ((rd t394 x61_5) : Int) := OD
        have q398 : (rd t394 x61_5) < (l0_2.length : Int) := OD
        obtain ⟨ad398, e398, hx398_0, hx398_1⟩ := at_T83 HR0_2.1 (rd t394 x61_5) p398 q398
        obtain rfl : ad382 = ad398 := (by injection e398)
        replace hx398_0 := (HB.1.cell (World.block_lt_of_cell? w _ hx398_0)).trans hx398_0
        replace hx398_1 := (HB.1.cell (World.block_lt_of_cell? w _ hx398_1)).trans hx398_1
        replace p398 := eq_true p398
        replace q398 := eq_true q398
        go_wp2_with (first | ((with_reducible refine gate_callee (f := 87) rfl ?_); refine goesM (N := (some 70)) #[.agg #[.int .i64 ((rd_T83 l0_2 (rd t394 x61_5)).f0), .int .i64 ((rd_T83 l0_2 (rd t394 x61_5)).f1)]] Try.func87 ?_; (with_reducible refine (impl_isGeared.calls ((rd_T83 l0_2 (rd t394 x61_5)).f0) ((rd_T83 l0_2 (rd t394 x61_5)).f1) false _ A55.1).mono ?_); rintro e w72 ⟨rfl, hb⟩; refine ⟨_, rfl, ?_⟩; refine E6 (Kd.R_below (PR HO_3.1) hb) (Kd.Q_below (by (with_reducible repeat (first | apply Kd.Q_alloc | apply Kd.Q_drewN | apply Kd.Q_drew)); exact HO_8.1) hb) (Kd.R_below (PR HO_59.1) hb) (bB BK377.1 hb) (bB BK383.1 hb) (below_step (BL HB.1) hb) ?_; clear HO_3 HO_8 HO_59 BK377 BK383 HB; intro HO_3 HO_8 HO_59 BK377 BK383 HB; (try clear hb)))
        (try simp only [← hl3_5])
        go_roundg k5
        case measure => have := HK1.1; have := HK2.1; have := HJ18.1; have := HK4.1; have := HK5.1; omega
        case rel => exact ⟨(x3_5), (x8_5), (wrap64 (x61_5 + 1)), RG, H', ⟨by have := HK1.1; have := HK2.1; have := HJ18.1; have := HK4.1; have := HK5.1; omega⟩, ⟨PR4 HO_3.1 hl3_1 hl3_2 hl3_4 hl3_5⟩, ⟨by (try simp only [hl3_1]); (try simp only [hl3_2]); (try simp only [hl3_4]); (try simp only [hl3_5]); (with_reducible repeat (first | apply Kd.Q_alloc | apply Kd.Q_drewN | apply Kd.Q_drew)); exact HO_8.1⟩, ⟨PR4 HO_59.1 hl3_1 hl3_2 hl3_4 hl3_5⟩, ⟨PB4 BK377.1 hl3_1 hl3_2 hl3_4 hl3_5⟩, ⟨PB4 BK383.1 hl3_1 hl3_2 hl3_4 hl3_5⟩, ⟨BL HB.1⟩⟩
      (try simp only [hl3_1, hl3_2, hl3_4, hl3_5] at c50b0)
      have H' := Aside0.mk H
      clear H
      go_wp2
      (try simp only [← hl3_4, ← hl3_5])
      go_roundg k5
      case measure => have := HK1.1; have := HK2.1; have := HJ18.1; have := HK4.1; have := HK5.1; omega
      case rel => exact ⟨(x3_5), (x8_5), H', ⟨by have := HK1.1; have := HK2.1; have := HJ18.1; have := HK4.1; have := HK5.1; omega⟩, ⟨by (try simp only [hl3_1]); (try simp only [hl3_2]); (try simp only [hl3_4]); (try simp only [hl3_5]); (with_reducible repeat (first | apply Kd.R_alloc | apply Kd.R_drewN | apply Kd.R_drew)); exact Kd.R_mono HO_3.1 (fun _ hk => hk.1)⟩, ⟨by (try simp only [hl3_1]); (try simp only [hl3_2]); (try simp only [hl3_4]); (try simp only [hl3_5]); (with_reducible repeat (first | apply Kd.Q_alloc | apply Kd.Q_drewN | apply Kd.Q_drew)); exact Kd.Q_mono HO_8.1 (fun _ hk => hk.1)⟩, ⟨PB4 BK377.1 hl3_1 hl3_2 hl3_4 hl3_5⟩, ⟨PB4 BK383.1 hl3_1 hl3_2 hl3_4 hl3_5⟩, ⟨BL HB.1⟩⟩
    have c40b0 : decide (0 < (x8_4.length : Int)) = false := decide_eq_false c40
    have c40b1 : decide (0 < x8_4.length) = false := decide_eq_false (by omega)
    clear c40
    (try simp only [hl3_1, hl3_2, hl3_4] at c40b1)
    have H' := Aside0.mk H
    clear H
    obtain ⟨Ao73, co73, eo73, _⟩ := Kd.Q_slice HO_8.1
    subst eo73
    go_wp2
    (try simp only [← hl3_2, ← hl3_4])
    go_roundg k4
    case measure => have := HK1.1; have := HK2.1; have := HJ18.1; have := HK4.1; omega
    case rel => exact ⟨(x3_4), (wrap64 (x5_2 + 1)), (wrap64 (x28_2 + 1)), RG, RG, H', ⟨by have := HK1.1; have := HK2.1; have := HJ18.1; have := HK4.1; omega⟩, ⟨by (try simp only [hl3_1]); (try simp only [hl3_2]); (try simp only [hl3_4]); (with_reducible repeat (first | apply Kd.R_alloc | apply Kd.R_drewN | apply Kd.R_drew)); exact Kd.R_mono HO_3.1 (fun _ hk => trivial)⟩, ⟨PB3 BK377.1 hl3_1 hl3_2 hl3_4⟩, ⟨BL HB.1⟩⟩
  (try simp only [hl3_1, hl3_2] at c16b0)
  obtain rfl := Option.some.inj H
  go_wp2
  go_ret
  exact ⟨_, RF, by (with_reducible repeat (first | apply Kd.R_alloc | apply Kd.R_drewN | apply Kd.R_drew)); exact HO_3.1, BL HB.1⟩
/-! ### impl_unitsOf: function 61 -/
def impl_unitsOf.l0 : Nat → List Int → List (List Int) → List (S83) → Int → Int → List (Int × Int) → Option ((List (List Int)))
  | 0, _, _, _, _, _, _ => none
  | k + 1, x3, x5, x15, x16, x17, xm => if x17 < x16 then (if 0 ≤ x17 then (if x17 < (x15.length : Int) then (if ((rd_T83 x15 x17).f0) = 3 then (if x5.length < 5864062014805 then (impl_unitsOf.l0 k x3 (x5 ++ [(([x17] : List Int))]) x15 x16 (wrap64 (x17 + 1)) xm) else (none)) else (if ((rd_T83 x15 x17).f0) = 6 then (if x17 < (x3.length : Int) then (if wrap64 (rd x3 x17) = (rd x3 x17) then (if mhas xm (rd x3 x17) = true then (if 0 ≤ (mget xm (rd x3 x17)) then (if (mget xm (rd x3 x17)) < (x5.length : Int) then (if (rd_L3 x5 (mget xm (rd x3 x17))).length < 17592186044416 then (impl_unitsOf.l0 k x3 (x5.set ((mget xm (rd x3 x17)) : Int).toNat ((rd_L3 x5 (mget xm (rd x3 x17))) ++ [x17])) x15 x16 (wrap64 (x17 + 1)) xm) else (none)) else (none)) else (none)) else (if xm.length < 17592186044416 then (if x5.length < 5864062014805 then ((some (x5 ++ [[]] : List (List Int))).bind fun y429 => (if 0 ≤ (x5.length : Int) then (if (x5.length : Int) < (y429.length : Int) then (if (rd_L3 y429 (x5.length : Int)).length < 17592186044416 then (impl_unitsOf.l0 k x3 (y429.set ((x5.length : Int) : Int).toNat ((rd_L3 y429 (x5.length : Int)) ++ [x17])) x15 x16 (wrap64 (x17 + 1)) (((rd x3 x17), (x5.length : Int)) :: xm)) else (none)) else (none)) else (none))) else (none)) else (none))) else (none)) else (none)) else (impl_unitsOf.l0 k x3 x5 x15 x16 (wrap64 (x17 + 1)) xm))) else (none)) else (none)) else (some x5)
def impl_unitsOf.f (k : Nat) (a0_0 : Int) (a0_1 : Int) (l0_2 : List (S83)) : Option ((List (List Int))) := (impl_groupNumbers.f k a0_0 a0_1 l0_2).bind fun t406 => (impl_unitsOf.l0 k t406 (([] : List (List Int))) l0_2 (l0_2.length : Int) 0 ([] : List (Int × Int)))
theorem impl_unitsOf.mono_l : ∀ k, (∀ y0 y1 y2 y3 y4 y5, LeO (impl_unitsOf.l0 k y0 y1 y2 y3 y4 y5) (impl_unitsOf.l0 (k + 1) y0 y1 y2 y3 y4 y5))
  | 0 => fun _ _ _ _ _ _ r h => by simp [impl_unitsOf.l0] at h
  | k + 1 => by
    have ih0 := impl_unitsOf.mono_l k
    intros
    first | unfold impl_unitsOf.l0
    repeat' first | (with_reducible first | apply ih0 | apply impl_groupNumbers.mono | exact LeO.refl _ | exact LeO.none _ | refine LeO.ite ?_ ?_ | refine LeO.bind ?_ (fun _ => ?_)) | apply ih0 | apply impl_groupNumbers.mono | exact LeO.none _ | refine LeO.ite ?_ ?_ | refine LeO.bind ?_ (fun _ => ?_)
theorem impl_unitsOf.mono : ∀ a0 a1 a2 k, LeO (impl_unitsOf.f k a0 a1 a2) (impl_unitsOf.f (k + 1) a0 a1 a2) := by
  intro a0 a1 a2 k
  have ih0 := impl_unitsOf.mono_l k
  unfold impl_unitsOf.f
  repeat' first | (with_reducible first | apply ih0 | apply impl_groupNumbers.mono | exact LeO.refl _ | exact LeO.none _ | refine LeO.ite ?_ ?_ | refine LeO.bind ?_ (fun _ => ?_)) | apply ih0 | apply impl_groupNumbers.mono | exact LeO.none _ | refine LeO.ite ?_ ?_ | refine LeO.bind ?_ (fun _ => ?_)
theorem impl_unitsOf.zero3 (w : World) : (zeroValue 3).run Try.prog w = .ok (.int .i64 0) w := by kernel_rfl
set_option maxHeartbeats 8000000 in
set_option maxRecDepth 100000 in
theorem impl_unitsOf.calls (k : Nat) (a0_0 : Int) (a0_1 : Int) (A0_2 : Option Addr) (c0_2 : Nat) (l0_2 : List (S83)) (r : List (List Int)) (w : World) (hr0_2 : Kd.C k83 w A0_2 l0_2.length l0_2) (hc0_2 : l0_2.length ≤ c0_2) (h : impl_unitsOf.f k a0_0 a0_1 l0_2 = some r) :
    Calls Try.prog 61 #[.agg #[.int .i64 a0_0, .int .i64 a0_1, .slice A0_2 l0_2.length c0_2]] w fun e w' => ∃ v0_ : Value, e = .returned (v0_) ∧ Kd.S (Kd.slice 3 (Kd.int .i64)) 38 w' w.heap.size (fun _ => True) v0_ r ∧ Below w.heap.size w w' := by
  have hu30 := Try.underlying30
  have hu83 := Try.underlying83
  have HR0_2 := Aside0.mk hr0_2
  have HC0_2 := Aside0.mk hc0_2
  clear hr0_2 hc0_2
  have HB := Aside0.mk (Below.refl w.heap.size w)
  have H := h
  clear h
  unfold impl_unitsOf.f at H
  replace H := bindA H; obtain ⟨t406, A2, H⟩ := H
  generalize hy410 : ((([] : List (List Int))) : List (List Int)) = y410 at H
  have Ny410 := Aside0.mk hy410.symm; clear hy410
  have H' := Aside0.mk H
  clear H
  go_enter Try.func61, Try.ntmps61
  go_wp2_with (first | ((with_reducible refine gate_dst (N := 1) rfl ?_); refine boxE (cs := #[.int .i64 a0_0, .int .i64 a0_1, .slice A0_2 l0_2.length c0_2]) (t := 30) ?_; intro gb405 hg w3 hbox hb; refine E4b HB.1 hg hbox hb ?_; clear HB; intro HB BK405 GW405 GE405; clear hb hbox hg; obtain ⟨hcz4_0, hcz4_1, hcz4_2, hfz4_0, hfz4_1, hfz4_2⟩ := cz3 BK405.1) | ((with_reducible refine gate_callee (f := 74) rfl ?_); refine goesM (N := (some 11)) #[.agg #[.int .i64 a0_0, .int .i64 a0_1, .slice A0_2 l0_2.length c0_2]] Try.func74 ?_; (with_reducible refine (impl_groupNumbers.calls k a0_0 a0_1 _ _ l0_2 t406 _ ?side1 ?side2 A2.1).mono ?_); (case side1 => exact CB (Kd.C_below HR0_2.1 HB.1)); (case side2 => exact HC0_2.1); rintro e w5 ⟨v407, rfl, ho0, hb⟩; refine ⟨_, rfl, ?_⟩; refine E3 (Kd.R_lower ho0 (below_size (BL HB.1))) (bB BK405.1 hb) (below_step (BL HB.1) hb) ?_; clear BK405 HB; intro HO408 BK405 HB; (try clear hb); (try clear ho0)) | ((with_reducible refine gate_dst (N := 12) rfl ?_); refine map_event ?hg (N := 12) ?hd ?hr ?_; (case hd => rfl); (case hg => rfl); (case hr => first | (go_simp; done) | (go_simp; rfl) | rfl); intro gb409 hg w6 hbox hb; have n0_ := Aside0.mk (Kd.R_below (PR HO408.1) hb); have n1_ := Aside0.mk (bB BK405.1 hb); have n2_ := Aside0.mk (below_step (BL HB.1) hb); have n3_ := Aside0.mk (hbox); have n4_ := Aside0.mk (gX HB.1 hg); have n5_ := Aside0.mk (gX HB.1 hg); have n6_ := Aside0.mk (nB BK405.1 hg); have n7_ := Aside0.mk (nC BK405.1 hg); clear HO408; clear BK405; clear HB; have HO408 := n0_; have BK405 := n1_; have HB := n2_; have HM409 : Aside0 (MapO Try.prog 3 (.map #[] 0) []) := ⟨mapO_made _ _⟩; have BK409 := n3_; have GW409 := n4_; have GE409 := n5_; have NB405_409 := n6_; have NB409_405 := n7_; clear n0_ n1_ n2_ n3_ n4_ n5_ n6_ n7_; clear hb hbox hg; have hnb7 := NB405_409.1; have hnc7 := NB409_405.1; obtain ⟨hcz8_0, hcz8_1, hcz8_2, hfz8_0, hfz8_1, hfz8_2⟩ := cz3 BK405.1) | ((with_reducible refine gate_dst (N := 13) rfl ?_); refine Kd.S_lit (Kd.slice 3 (Kd.int .i64)) _ 38 ?hg (N := 13) ?hd (xs := ([] : List (List Int))) (inner := []) (ok := fun _ => True) (okp := fun _ => True) ?hr ?hp (fun _ hk => hk) trivial (Below.refl _ _) (Nat.le_refl _) (by simp) ?_; (case hd => rfl); (case hg => rfl); (case hr => first | (go_simp; done) | (go_simp; rfl)); (case hp => exact (Reps.none _ _)); intro v411 w10 ho11 hb hg_ hnew_; clear hg_ hnew_; (first | rw [← Ny410.1] at ho11 | (simp only [Int.reduceToNat] at ho11; rw [← Ny410.1] at ho11)); refine E5 (Kd.R_below (PR HO408.1) hb) (Kd.S_lower (Kd.S_new' ho11 (Kd.R_lt (PR HO408.1))) (below_size (BL HB.1))) (bB BK405.1 hb) (bB BK409.1 hb) (below_step (BL HB.1) hb) ?_; clear HO408 BK405 BK409 HB; intro HO408 HO412 BK405 BK409 HB; clear hb ho11; obtain ⟨hcz12_0, hcz12_1, hcz12_2, hfz12_0, hfz12_1, hfz12_2⟩ := cz3 BK405.1))
  go_loopg [5, 17] k (fun kq v5 v17 w' => ∃ (x5_1 : List (List Int)) (x17_1 : Int) (xm_1 : List (Int × Int)) (om_1 : Obj), v17 = .int .i64 x17_1 ∧ Aside0 (impl_unitsOf.l0 kq t406 x5_1 l0_2 (l0_2.length : Int) x17_1 xm_1 = some r) ∧ Aside0 (kq ≤ k) ∧ Aside0 (Kd.R (Kd.int .i64) 3 w' w.heap.size (fun _ => True) v407 t406) ∧ Aside0 (Kd.S (Kd.slice 3 (Kd.int .i64)) 38 w' w.heap.size (fun k_ => some k_ ≠ (v407 : Value).ownBlock) v5 x5_1) ∧ Aside0 (w'.heap[gb405]? = some (.cells #[.int .i64 a0_0, .int .i64 a0_1, (.slice A0_2 l0_2.length c0_2)] 30 (0, 0))) ∧ Aside0 (w'.heap[gb409]? = some om_1) ∧ Aside0 (MapO Try.prog 3 om_1 xm_1) ∧ Aside0 (Below w.heap.size w w'))
  case atStart => exact ⟨(y410), (0), ([]), (.map #[] 0), RG, H', ⟨Nat.le_refl _⟩, ⟨PR HO408.1⟩, ⟨by (with_reducible repeat (first | apply Kd.S_alloc | apply Kd.S_drewN | apply Kd.S_drew)); exact Kd.S_mono HO412.1 (fun _ hk => hk.2)⟩, ⟨PB BK405.1⟩, ⟨PB BK409.1⟩, HM409, ⟨BL HB.1⟩⟩
  clear H'
  try clear hcz12_0; try clear hcz12_1; try clear hcz12_2; try clear hcz4_0; try clear hcz4_1; try clear hcz4_2; try clear hcz8_0; try clear hcz8_1; try clear hcz8_2; try clear hfz12_0; try clear hfz12_1; try clear hfz12_2; try clear hfz4_0; try clear hfz4_1; try clear hfz4_2; try clear hfz8_0; try clear hfz8_1; try clear hfz8_2
  obtain ⟨x5_1, x17_1, xm_1, om_1, rfl, HA, HK1, HO_3, HO_5, BK405, BK409, HM409, HB⟩ := hrel
  cases gk with
  | zero => exact absurd HA.1 (by simp [impl_unitsOf.l0])
  | succ k1 => ?_
  have H := HA.1
  clear HA
  simp only [impl_unitsOf.l0] at H
  replace H := ifB H; rcases H with ⟨c13b0, H⟩ | ⟨c13b0, H⟩
  · replace H := ifN H; obtain ⟨c14b0, H⟩ := H
    replace H := ifN H; obtain ⟨c15b0, H⟩ := H
    replace H := ifQ H; rcases H with ⟨c16, H⟩ | ⟨c16, H⟩
    · have c16b0 := beq_iff_eq.mpr c16
      have c16b1 := bne_eq_false_iff_eq.mpr c16
      clear c16
      generalize hy415 : ((([x17_1] : List Int)) : List Int) = y415 at H
      have Ny415 := Aside0.mk hy415.symm; clear hy415
      replace H := ifP H; obtain ⟨c17, H⟩ := H
      have LMc17 := Aside0.mk c17
      clear c17
      generalize hy418 : ((x5_1 ++ [y415]) : List (List Int)) = y418 at H
      have Ny418 := Aside0.mk hy418.symm; clear hy418
      have H' := Aside0.mk H
      clear H
      have p413 : 0 ≤ (x17_1 : Int) := OD
      have q413 : x17_1 < (l0_2.length : Int) := OD
      obtain ⟨ad413, e413, hx413_0, hx413_1⟩ := at_T83 HR0_2.1 x17_1 p413 q413
      cases e413
      replace hx413_0 := (HB.1.cell (World.block_lt_of_cell? w _ hx413_0)).trans hx413_0
      replace hx413_1 := (HB.1.cell (World.block_lt_of_cell? w _ hx413_1)).trans hx413_1
      replace p413 := eq_true p413
      replace q413 := eq_true q413
      go_wp2_with (first | ((with_reducible refine gate_dst (N := 7) rfl ?_); refine boxE (cs := #[.int .i64 0, .int .i64 0]) (t := 83) ?_; intro gb414 hg w18 hbox hb; refine E12 (Kd.R_below (PR HO_3.1) hb) (Kd.S_below (PS HO_5.1) hb) (bB BK405.1 hb) (bB BK409.1 hb) (below_step (BL HB.1) hb) (hbox) (gX HB.1 hg) (gX HB.1 hg) (nB BK405.1 hg) (nC BK405.1 hg) (nB BK409.1 hg) (nC BK409.1 hg) ?_; clear HO_3 HO_5 BK405 BK409 HB; intro HO_3 HO_5 BK405 BK409 HB BK414 GW414 GE414 NB405_414 NB414_405 NB409_414 NB414_409; clear hb hbox hg; have hnb19 := NB414_405.1; have hnc19 := NB405_414.1; have hnb20 := NB414_409.1; have hnc20 := NB409_414.1; obtain ⟨hcz21_0, hcz21_1, hfz21_0, hfz21_1⟩ := cz2 BK414.1) | ((with_reducible refine gate_dst (N := 39) rfl ?_); refine look_event (b := gb409) (om := om_1) (mm := xm_1) rfl (.tmp 34) (.tmp 38) 92 3 rfl Try.underlying92 Try.underlying3 ?hz (by first | exact BK409.1 | (refine obj_far ?_ NB409_414.1 _; refine obj_far ?_ NB409_414.1 _; exact BK409.1)) HM409.1 ?hm (rd t406 x17_1) ?hx HKY.1 ?_; (case hz => exact impl_unitsOf.zero3 _); (case hm => rfl); (case hx => first | rfl | (go_simp; done) | (go_simp; rfl))) | ((with_reducible refine gate_dst (N := 28) rfl ?_); refine Kd.R_lit (Kd.int .i64) _ 3 ?hg (N := 28) ?hd (xs := ([x17_1] : List Int)) (inner := [.int .i64 x17_1]) (ok := fun _ => True) (okp := fun _ => True) ?hr ?hp (fun _ hk => hk) trivial (Below.refl _ _) (Nat.le_refl _) (by simp) ?_; (case hd => rfl); (case hg => rfl); (case hr => first | (go_simp; done) | (go_simp; rfl)); (case hp => exact (Reps.one (show Kd.M (Kd.int .i64) _ _ _ x17_1 [.int .i64 x17_1] from rfl) (Reps.none _ _))); intro v416 w22 ho23 hb hg_ hnew_; clear hg_ hnew_; (first | rw [← Ny415.1] at ho23 | (simp only [Int.reduceToNat] at ho23; rw [← Ny415.1] at ho23)); refine E7 (Kd.R_elder' (by (with_reducible repeat (first | apply Kd.R_alloc | apply Kd.R_drewN | apply Kd.R_drew)); exact (Kd.R_mono (Kd.R_far (p := ⟨gb414, 1, none⟩) (Kd.R_far (p := ⟨gb414, 0, none⟩) (Kd.R_types HO_3.1 BK414.1 (by decide)) (fun _ hk => hk.2) (.int .i64 ((rd_T83 l0_2 x17_1).f0))) (fun _ hk => hk.2) (.int .i64 ((rd_T83 l0_2 x17_1).f1))) (fun _ h_ => h_.1))) (Kd.R_base ho23) hb) (Kd.S_elder' (by (with_reducible repeat (first | apply Kd.S_alloc | apply Kd.S_drewN | apply Kd.S_drew)); exact (Kd.S_mono (Kd.S_far (p := ⟨gb414, 1, none⟩) (Kd.S_far (p := ⟨gb414, 0, none⟩) (Kd.S_types HO_5.1 BK414.1 (by decide)) (fun _ hk => hk.2) (.int .i64 ((rd_T83 l0_2 x17_1).f0))) (fun _ hk => hk.2) (.int .i64 ((rd_T83 l0_2 x17_1).f1))) (fun _ h_ => h_.1))) (Kd.R_base ho23) hb) (Kd.R_lower (Kd.R_new' ho23 (Kd.R_lt (by (with_reducible repeat (first | apply Kd.R_alloc | apply Kd.R_drewN | apply Kd.R_drew)); exact (Kd.R_mono (Kd.R_far (p := ⟨gb414, 1, none⟩) (Kd.R_far (p := ⟨gb414, 0, none⟩) (Kd.R_types HO_3.1 BK414.1 (by decide)) (fun _ hk => hk.2) (.int .i64 ((rd_T83 l0_2 x17_1).f0))) (fun _ hk => hk.2) (.int .i64 ((rd_T83 l0_2 x17_1).f1))) (fun _ h_ => h_.1))))) (below_size (BL HB.1))) (blk_below (g := gb405) (o := .cells #[.int .i64 a0_0, .int .i64 a0_1, .slice (some ad413) l0_2.length c0_2] 30 (0, 0)) (PF1 NB405_414.1 BK405.1) hb) (blk_below (g := gb409) (o := om_1) (by (with_reducible repeat (first | refine blk_drewN ?_ _ | refine blk_drew ?_ | refine blk_alloc ?_ _)); refine obj_far ?_ NB409_414.1 _; (with_reducible repeat (first | refine blk_drewN ?_ _ | refine blk_drew ?_ | refine blk_alloc ?_ _)); refine obj_far ?_ NB409_414.1 _; (with_reducible repeat (first | refine blk_drewN ?_ _ | refine blk_drew ?_ | refine blk_alloc ?_ _)); exact BK409.1) hb) (blk_below (g := gb414) (o := .cells #[.int .i64 ((rd_T83 l0_2 x17_1).f0), .int .i64 ((rd_T83 l0_2 x17_1).f1)] 83 (0, 0)) (PF0 BK414.1) hb) (below_step (BL HB.1) hb) ?_; clear HO_3 HO_5 BK405 BK409 BK414 HB; intro HO_3 HO_5 HO417 BK405 BK409 BK414 HB; clear hb ho23; obtain ⟨Ao25, co25, eo25⟩ := Kd.R_slice HO417.1; subst eo25) | ((with_reducible refine gate_builtin (b := .append) (xs := #[.tmp 26, .tmp 29]) rfl ?_); at_builtin; refine Kd.S_append (Kd.slice 3 (Kd.int .i64)) (w0 := w) w.heap.size rfl (.tmp 26) (.tmp 29) 60 38 (.slice none 0 0) 24 rfl Try.underlying60 info38 rfl (by decide) (by omega) u5 x5_1 y415 [.slice Ao25 y415.length co25] (fun k_ => some k_ ≠ (v407 : Value).ownBlock) (fun k_ => some k_ = (.slice Ao25 y415.length co25 : Value).ownBlock) rfl rfl ?aP (fun k_ hk_ => ((Kd.R_mono (ok' := fun k_ => ((fun k_ => some k_ ≠ (v407 : Value).ownBlock)) k_ ∧ some k_ ≠ (u5 : Value).ownBlock) (Kd.R_apart' (HO417.1) (Kd.S_typed HO_5.1) (by decide)) (fun k_ hk => ⟨hk.1.2, hk.2⟩))).1 k_ hk_.symm) ?aF ?aO ?aB ?aS ?aL ?_; (case aP => exact Kd.M_row (Kd.R_mono (Kd.R_tight rfl (Kd.R_mono (ok' := fun k_ => ((fun k_ => some k_ ≠ (v407 : Value).ownBlock)) k_ ∧ some k_ ≠ (u5 : Value).ownBlock) (Kd.R_apart' (HO417.1) (Kd.S_typed HO_5.1) (by decide)) (fun k_ hk => ⟨hk.1.2, hk.2⟩))) (fun _ h_ => h_))); (case aB => exact (BL HB.1)); (case aF => exact (fun k_ hk => Kd.fresh' (Kd.R_lt (PR HO_3.1)) k_ hk)); (case aO => exact (by (with_reducible repeat (first | apply Kd.S_alloc | apply Kd.S_drewN | apply Kd.S_drew)); exact Kd.S_mono HO_5.1 (fun k_ hk => ⟨hk.1, fun e_ => hk.2 e_⟩))); (case aS => exact (below_size (BL HB.1))); (case aL => have := LMc17.1; omega); intro v419 w24 ho hb hg hat; rw [← Ny418.1] at ho; refine E6 (Kd.R_over' (PR HO_3.1) (Kd.S_typed (PS HO_5.1)) (by decide) hg) (bG BK405.1 hg (Kd.S_ne HO_5.1 BK405.1 (by decide))) (bG BK409.1 hg (map_ne (Kd.S_R HO_5.1) BK409.1 HM409.1)) (bG BK414.1 hg (Kd.S_ne HO_5.1 BK414.1 (by decide))) (hb) (ho) ?_; clear HO_3 BK405 BK409 BK414 HB HO_5 HO417; intro HO_3 BK405 BK409 BK414 HB HO420; clear ho hb hg hat))
      go_roundg k1
      case measure => have := HK1.1; omega
      case rel => exact ⟨(y418), (wrap64 (x17_1 + 1)), (xm_1), (om_1), RG, H', ⟨by have := HK1.1; omega⟩, ⟨by (with_reducible repeat (first | apply Kd.R_alloc | apply Kd.R_drewN | apply Kd.R_drew)); exact Kd.R_mono HO_3.1 (fun _ hk => trivial)⟩, ⟨PS HO420.1⟩, ⟨PB BK405.1⟩, ⟨PB BK409.1⟩, HM409, ⟨BL HB.1⟩⟩
    have c16b0 := beq_eq_false_iff_ne.mpr c16
    have c16b1 := bne_iff_ne.mpr c16
    replace H := ifQ H; rcases H with ⟨c26, H⟩ | ⟨c26, H⟩
    · have c26b0 := beq_iff_eq.mpr c26
      have c26b1 := bne_eq_false_iff_eq.mpr c26
      clear c26
      replace H := ifN H; obtain ⟨c27b0, H⟩ := H
      have c_k : wrap64 (rd t406 x17_1) = (rd t406 x17_1) := by
        apply Classical.byContradiction; intro h_; rw [if_neg h_] at H; exact absurd H (by simp)
      rw [if_pos c_k] at H
      have HKY := Aside0.mk c_k
      clear c_k
      replace H := ifQ H; rcases H with ⟨c28, H⟩ | ⟨c28, H⟩
      · have c28b0 : mhas xm_1 (rd t406 x17_1) = true := c28
        have c28b1 : (!mhas xm_1 (rd t406 x17_1)) = false := by rw [c28]; rfl
        clear c28
        replace H := ifN H; obtain ⟨c29b0, H⟩ := H
        replace H := ifN H; obtain ⟨c30b0, H⟩ := H
        replace H := ifP H; obtain ⟨c31, H⟩ := H
        have LMc31 := Aside0.mk c31
        clear c31
        generalize hy423 : (((rd_L3 x5_1 (mget xm_1 (rd t406 x17_1))) ++ [x17_1]) : List Int) = y423 at H
        have Ny423 := Aside0.mk hy423.symm; clear hy423
        generalize hy426 : ((x5_1.set ((mget xm_1 (rd t406 x17_1)) : Int).toNat y423) : List (List Int)) = y426 at H
        have Ny426 := Aside0.mk hy426.symm; clear hy426
        have H' := Aside0.mk H
        clear H
        have p413 : 0 ≤ (x17_1 : Int) := OD
        have q413 : x17_1 < (l0_2.length : Int) := OD
        obtain ⟨ad413, e413, hx413_0, hx413_1⟩ := at_T83 HR0_2.1 x17_1 p413 q413
        cases e413
        replace hx413_0 := (HB.1.cell (World.block_lt_of_cell? w _ hx413_0)).trans hx413_0
        replace hx413_1 := (HB.1.cell (World.block_lt_of_cell? w _ hx413_1)).trans hx413_1
        replace p413 := eq_true p413
        replace q413 := eq_true q413
        go_wp2_with (first | ((with_reducible refine gate_dst (N := 7) rfl ?_); refine boxE (cs := #[.int .i64 0, .int .i64 0]) (t := 83) ?_; intro gb414 hg w33 hbox hb; refine E12 (Kd.R_below (PR HO_3.1) hb) (Kd.S_below (PS HO_5.1) hb) (bB BK405.1 hb) (bB BK409.1 hb) (below_step (BL HB.1) hb) (hbox) (gX HB.1 hg) (gX HB.1 hg) (nB BK405.1 hg) (nC BK405.1 hg) (nB BK409.1 hg) (nC BK409.1 hg) ?_; clear HO_3 HO_5 BK405 BK409 HB; intro HO_3 HO_5 BK405 BK409 HB BK414 GW414 GE414 NB405_414 NB414_405 NB409_414 NB414_409; clear hb hbox hg; have hnb34 := NB414_405.1; have hnc34 := NB405_414.1; have hnb35 := NB414_409.1; have hnc35 := NB409_414.1; obtain ⟨hcz36_0, hcz36_1, hfz36_0, hfz36_1⟩ := cz2 BK414.1) | ((with_reducible refine gate_dst (N := 39) rfl ?_); refine look_event (b := gb409) (om := om_1) (mm := xm_1) rfl (.tmp 34) (.tmp 38) 92 3 rfl Try.underlying92 Try.underlying3 ?hz (by first | exact BK409.1 | (refine obj_far ?_ NB409_414.1 _; refine obj_far ?_ NB409_414.1 _; exact BK409.1)) HM409.1 ?hm (rd t406 x17_1) ?hx HKY.1 ?_; (case hz => exact impl_unitsOf.zero3 _); (case hm => rfl); (case hx => first | rfl | (go_simp; done) | (go_simp; rfl))) | ((with_reducible refine gate_store (t := 83) (p := 7) rfl ?_); refine storeE (t := 83) (p := 7) (w1 := ((w33.setCell ⟨gb414, 0, none⟩ (.int .i64 ((rd_T83 l0_2 x17_1).f0))).setCell ⟨gb414, 1, none⟩ (.int .i64 ((rd_T83 l0_2 x17_1).f1)))) ?_; intro w37 hw; have n0_ : Aside0 (Kd.R (Kd.int .i64) 3 w37 w.heap.size (fun _ => True) v407 t406) := ⟨(by rw [hw]; exact (by (with_reducible repeat (first | apply Kd.R_alloc | apply Kd.R_drewN | apply Kd.R_drew)); exact Kd.R_mono (Kd.R_far (p := ⟨gb414, 1, none⟩) (Kd.R_far (p := ⟨gb414, 0, none⟩) (Kd.R_types HO_3.1 BK414.1 (by decide)) (fun _ hk => hk.2) (.int .i64 ((rd_T83 l0_2 x17_1).f0))) (fun _ hk => hk.2) (.int .i64 ((rd_T83 l0_2 x17_1).f1))) (fun _ hk => trivial)))⟩; have n1_ : Aside0 (Kd.S (Kd.slice 3 (Kd.int .i64)) 38 w37 w.heap.size (fun k_ => some k_ ≠ (v407 : Value).ownBlock) u5 x5_1) := ⟨(by rw [hw]; exact (by (with_reducible repeat (first | apply Kd.S_alloc | apply Kd.S_drewN | apply Kd.S_drew)); exact Kd.S_mono (Kd.S_far (p := ⟨gb414, 1, none⟩) (Kd.S_far (p := ⟨gb414, 0, none⟩) (Kd.S_types HO_5.1 BK414.1 (by decide)) (fun _ hk => hk.2) (.int .i64 ((rd_T83 l0_2 x17_1).f0))) (fun _ hk => hk.2) (.int .i64 ((rd_T83 l0_2 x17_1).f1))) (fun _ hk => hk.1)))⟩; have n2_ : Aside0 (w37.heap[gb405]? = some (.cells #[.int .i64 a0_0, .int .i64 a0_1, .slice (some ad413) l0_2.length c0_2] 30 (0, 0))) := ⟨(by rw [hw]; exact (PF1 NB405_414.1 BK405.1))⟩; have n3_ : Aside0 (w37.heap[gb409]? = some om_1) := ⟨(by rw [hw]; exact (by (with_reducible repeat (first | refine blk_drewN ?_ _ | refine blk_drew ?_ | refine blk_alloc ?_ _)); refine obj_far ?_ NB409_414.1 _; (with_reducible repeat (first | refine blk_drewN ?_ _ | refine blk_drew ?_ | refine blk_alloc ?_ _)); refine obj_far ?_ NB409_414.1 _; (with_reducible repeat (first | refine blk_drewN ?_ _ | refine blk_drew ?_ | refine blk_alloc ?_ _)); exact BK409.1))⟩; have n4_ : Aside0 (w37.heap[gb414]? = some (.cells #[.int .i64 ((rd_T83 l0_2 x17_1).f0), .int .i64 ((rd_T83 l0_2 x17_1).f1)] 83 (0, 0))) := ⟨(by rw [hw]; exact (PF0 BK414.1))⟩; have n5_ : Aside0 (Below w.heap.size w w37) := ⟨(by rw [hw]; exact (BL HB.1))⟩; clear hw; clear HO_3; clear HO_5; clear BK405; clear BK409; clear BK414; clear HB; have HO_3 := n0_; have HO_5 := n1_; have BK405 := n2_; have BK409 := n3_; have BK414 := n4_; have HB := n5_; clear n0_ n1_ n2_ n3_ n4_ n5_; obtain ⟨hcz38_0, hcz38_1, hfz38_0, hfz38_1⟩ := cz2 BK414.1; obtain ⟨Ao39, co39, eo39⟩ := Kd.R_slice HO_3.1; subst eo39; have p421 : 0 ≤ (x17_1 : Int) := OD; have q421 : x17_1 < (t406.length : Int) := OD; obtain ⟨ad421, e421, hx421_0⟩ := Kd.at_int (Kd.R_reads' HO_3.1).2.2 x17_1 p421 q421; cases e421; replace p421 := eq_true p421; replace q421 := eq_true q421; have hnb40 := NB409_405.1; have hnc40 := NB405_409.1; obtain ⟨Ao42, co42, eo42⟩ := Kd.S_slice HO_5.1; subst eo42; have p422 : 0 ≤ ((mget xm_1 (rd t406 x17_1)) : Int) := OD; have q422 : (mget xm_1 (rd t406 x17_1)) < (x5_1.length : Int) := OD; obtain ⟨ad422, A422_0, c422_0, e422, hx422_0, hl422_0, hi422_0⟩ := at_L3 (Kd.S_reads' HO_5.1).2.2 (mget xm_1 (rd t406 x17_1)) p422 q422; cases e422; obtain ⟨ce422, hce422, hMe422, hcc422⟩ := Kd.S_get HO_5.1 [] (mget xm_1 (rd t406 x17_1)) p422 (by first | exact q422 | exact OD | (have e_ := (Kd.S_reads' HO_5.1).1; omega)); obtain ⟨ve422_0, rfl, ge422_0⟩ := hMe422; have hv422_0 := hcc422 0 _ rfl; rw [Nat.add_zero, show ((Kd.slice 3 (Kd.int .i64))).sz = 1 from rfl, Nat.mul_one] at hv422_0; replace hv422_0 := Option.some.inj (hv422_0.symm.trans hx422_0); rw [hv422_0] at ge422_0; have HL422_0 := Aside0.mk (show Kd.R (Kd.int .i64) 3 _ _ _ _ (rd_L3 x5_1 (mget xm_1 (rd t406 x17_1))) from ge422_0); clear hv422_0 ge422_0; have HX422_0 := Aside0.mk hx422_0; clear hcc422 hce422; have HR422_0 := Aside0.mk hi422_0; have HC422_0 := Aside0.mk hl422_0; clear hi422_0 hl422_0; replace p422 := eq_true p422; replace q422 := eq_true q422; obtain ⟨go43, co43, eo43, gb43, gl43, cl43, HG43⟩ := Kd.S_form HO_5.1 (by have h_ : ((mget xm_1 (rd t406 x17_1)) : Int) < ((x5_1.length : Int) : Int) := OD; have h2_ : 0 ≤ ((mget xm_1 (rd t406 x17_1)) : Int) := (OD); omega); (first | cases eo43 | (injection eo43 with ea_ en_ ec_; (first | subst ea_ | (injection ea_ with ea_; subst ea_)); subst ec_; clear en_)); have GB43 := Aside0.mk gb43; have GG43 := Aside0.mk HG43; clear gb43 gl43 HG43; (first | simp only [add_plain] at hx422_0 | skip); obtain ⟨oki43, ce43, hcl43, hM43, hcc43, _, _, hH43⟩ := Kd.S_elem HO_5.1 [] ((mget xm_1 (rd t406 x17_1)) : Int) (OD) (by have h_ : ((mget xm_1 (rd t406 x17_1)) : Int) < ((x5_1.length : Int) : Int) := OD; first | exact h_ | (have e_ := (Kd.S_reads' HO_5.1).1; omega) | simpa using h_); obtain ⟨ve43_0, rfl, ge43_0⟩ := hM43; have hv43 := hcc43 0 _ rfl; have hX43 := HX422_0.1; (try simp only [add_plain] at hX43); (try simp only [Nat.add_zero] at hv43); (try rw [show ((Kd.slice 3 (Kd.int .i64))).sz = 1 from rfl, Nat.mul_one] at hv43); replace hv43 := Option.some.inj (hv43.symm.trans hX43); subst hv43; clear hX43 hcc43 hcl43; have UU43 := Aside0.mk (show Kd.R (Kd.int .i64) 3 _ w.heap.size oki43 (.slice A422_0 (rd_L3 x5_1 (mget xm_1 (rd t406 x17_1))).length c422_0) (rd_L3 x5_1 (mget xm_1 (rd t406 x17_1))) from ge43_0); have HH43 := Aside0.mk hH43; have HN43 := Aside0.mk (Kd.S_reads' HO_5.1).1; clear hH43 ge43_0) | ((with_reducible refine gate_builtin (b := .append) (xs := #[.tmp 60, .tmp 62]) rfl ?_); at_builtin; refine Kd.R_append (Kd.int .i64) (w0 := w) w.heap.size rfl (.tmp 60) (.tmp 62) 38 3 (.int .i64 0) 8 rfl Try.underlying38 info3 rfl (by decide) (by omega) (.slice A422_0 (rd_L3 x5_1 (mget xm_1 (rd t406 x17_1))).length c422_0) (rd_L3 x5_1 (mget xm_1 (rd t406 x17_1))) x17_1 [.int .i64 x17_1] (fun k_ => oki43 k_ ∨ ((fun k_ => some k_ ≠ (.slice (some ad421) t406.length co39 : Value).ownBlock)) k_ ∧ w37.heap.size ≤ k_) (fun _ => False) rfl rfl ?aP (fun _ hk => hk.elim) ?aF ?aO ?aB ?aS ?aL ?_; (case aP => exact rfl); (case aB => exact (BL HB.1)); (case aF => exact (fun k_ hk => .inr ⟨Kd.fresh' (Kd.R_lt (PR HO_3.1)) k_ hk, hk⟩)); (case aO => exact (by (with_reducible repeat (first | apply Kd.R_alloc | apply Kd.R_drewN | apply Kd.R_drew)); exact Kd.R_mono UU43.1 (fun _ hk => .inl hk))); (case aS => exact (below_size (BL HB.1))); (case aL => have := LMc31.1; omega); intro v424 w44 ho hb hg hat; rw [← Ny423.1] at ho; refine E7 (Kd.R_grown2 (PR HO_3.1) rfl hg (fun k_ e_ => (HL422_0.1.1 k_ e_).1)) (bG BK405.1 hg (Kd.R_ne HL422_0.1 BK405.1 (by decide))) (bG BK409.1 hg (map_ne HL422_0.1 BK409.1 HM409.1)) (bG BK414.1 hg (Kd.R_ne HL422_0.1 BK414.1 (by decide))) (hb) (Kd.H_grown (Kd.H_widen (by repeat (first | exact HH43.1 | refine Kd.H_alloc ?_ _ | refine Kd.H_drewN ?_ _ | refine Kd.H_drew ?_))) hg (fun k_ e_ => .inl (UU43.1.1 k_ e_))) (ho) ?_; clear HO_3 BK405 BK409 BK414 HB HH43 HO_5 UU43 HL422_0; intro HO_3 BK405 BK409 BK414 HB HH43 HO425; clear ho hb hg hat; have p32 : 0 ≤ ((mget xm_1 (rd t406 x17_1)) : Int) := OD; have q32 : ((mget xm_1 (rd t406 x17_1)) : Int) < ((x5_1.length : Int) : Int) := OD; replace p32 := eq_true p32; replace q32 := eq_true q32; obtain ⟨Ao47, co47, eo47⟩ := Kd.R_slice HO425.1; subst eo47; obtain ⟨_, _, hraw45, _, _, hcc45, _⟩ := Kd.H_raw HH43.1 (OD) (by have h_ : ((mget xm_1 (rd t406 x17_1)) : Int) < ((x5_1.length : Int) : Int) := OD; first | exact h_ | (have e_ := (HN43.1); omega) | simpa using h_); obtain ⟨_, hfr45⟩ := Kd.H_at HH43.1 (OD) (by have h_ : ((mget xm_1 (rd t406 x17_1)) : Int) < ((x5_1.length : Int) : Int) := OD; first | exact h_ | (have e_ := (HN43.1); omega) | simpa using h_); have hx45_0 := hcc45 0 _ rfl; have hf45_0 := hfr45 0; (try simp only [Nat.add_zero] at hx45_0 hf45_0); (try rw [show ((Kd.slice 3 (Kd.int .i64))).sz = 1 from rfl, Nat.mul_one] at hx45_0); (try rw [show ((Kd.slice 3 (Kd.int .i64))).sz = 1 from rfl, Nat.mul_one] at hf45_0); (try simp only [Go.IntWalk.toNatUp] at hx45_0 hf45_0); have HP45 := Kd.S_seg0 HH43.1 (OD) (by have h_ : ((mget xm_1 (rd t406 x17_1)) : Int) < ((x5_1.length : Int) : Int) := OD; first | exact h_ | (have e_ := (HN43.1); omega) | simpa using h_) (seg := [.slice Ao47 y423.length co47]) (j := 0) (show 1 ≤ 1 from by decide) (x' := y423) (Kd.M_row HO425.1) (fun _ hk => hk); (try simp only [show ((Kd.slice 3 (Kd.int .i64))).sz = 1 from rfl, Nat.mul_one, Nat.add_zero] at HP45); clear hcc45 hfr45) | ((with_reducible refine gate_store (t := 38) (p := 64) rfl ?_); refine storeE (t := 38) (p := 64) (w1 := (w44.setCell ⟨go43, ((mget xm_1 (rd t406 x17_1)) : Int).toNat, none⟩ (.slice Ao47 y423.length co47))) ?_; intro w46 hw; have hg : w44.grownBy w46 (some go43) := (by rw [hw]; exact HP45.2); have hp_ : Kd.S (Kd.slice 3 (Kd.int .i64)) 38 w46 w.heap.size (fun k_ => some k_ ≠ (.slice (some ad421) t406.length co39 : Value).ownBlock) (.slice (some ⟨go43, 0, none⟩) x5_1.length co42) y426 := (by rw [hw, Ny426.1]; exact HP45.1); clear HP45; refine E6 (Kd.R_over' (v := (.slice (some ⟨go43, 0, none⟩) x5_1.length co42)) (PR HO_3.1) (Kd.R_typed hraw45) (by decide) hg) (bG BK405.1 hg (Kd.R_ne hraw45 BK405.1 (by decide))) (bG BK409.1 hg (map_ne hraw45 BK409.1 HM409.1)) (bG BK414.1 hg (Kd.R_ne hraw45 BK414.1 (by decide))) ((by rw [hw]; exact below_set HB.1 GB43.1 : Below w.heap.size w w46)) (hp_) ?_; clear HO_3 BK405 BK409 BK414 HB HO425 HH43; intro HO_3 BK405 BK409 BK414 HB HO_5; clear hg hw hp_ hraw45))
        go_roundg k1
        case measure => have := HK1.1; omega
        case rel => exact ⟨(y426), (wrap64 (x17_1 + 1)), (xm_1), (om_1), RG, H', ⟨by have := HK1.1; omega⟩, ⟨PR HO_3.1⟩, ⟨PS HO_5.1⟩, ⟨PB BK405.1⟩, ⟨PB BK409.1⟩, HM409, ⟨BL HB.1⟩⟩
      have c28b0 : mhas xm_1 (rd t406 x17_1) = false := by simpa using c28
      have c28b1 : (!mhas xm_1 (rd t406 x17_1)) = true := by rw [c28b0]; rfl
      have c_m : xm_1.length < 17592186044416 := by
        apply Classical.byContradiction; intro h_; rw [if_neg h_] at H; exact absurd H (by simp)
      rw [if_pos c_m] at H
      have HML := Aside0.mk c_m
      clear c_m
      replace H := ifP H; obtain ⟨c48, H⟩ := H
      have LMc48 := Aside0.mk c48
      clear c48
      replace H := nameB H; obtain ⟨y429, Ny429, H⟩ := H
      replace H := ifP H; obtain ⟨c49, H⟩ := H
      have c49b0 := decide_eq_true c49
      have c49b1 : decide (0 ≤ x5_1.length) = true := decide_eq_true (by omega)
      clear c49
      replace H := ifP H; obtain ⟨c50, H⟩ := H
      have c50b0 := decide_eq_true c50
      have c50b1 : decide (x5_1.length < y429.length) = true := decide_eq_true (Int.ofNat_lt.mp c50)
      clear c50
      replace H := ifP H; obtain ⟨c51, H⟩ := H
      have LMc51 := Aside0.mk c51
      clear c51
      generalize hy433 : (((rd_L3 y429 (x5_1.length : Int)) ++ [x17_1]) : List Int) = y433 at H
      have Ny433 := Aside0.mk hy433.symm; clear hy433
      generalize hy436 : ((y429.set ((x5_1.length : Int) : Int).toNat y433) : List (List Int)) = y436 at H
      have Ny436 := Aside0.mk hy436.symm; clear hy436
      have H' := Aside0.mk H
      clear H
      have p413 : 0 ≤ (x17_1 : Int) := OD
      have q413 : x17_1 < (l0_2.length : Int) := OD
      obtain ⟨ad413, e413, hx413_0, hx413_1⟩ := at_T83 HR0_2.1 x17_1 p413 q413
      cases e413
      replace hx413_0 := (HB.1.cell (World.block_lt_of_cell? w _ hx413_0)).trans hx413_0
      replace hx413_1 := (HB.1.cell (World.block_lt_of_cell? w _ hx413_1)).trans hx413_1
      replace p413 := eq_true p413
      replace q413 := eq_true q413
      go_wp2_with (first | ((with_reducible refine gate_dst (N := 7) rfl ?_); refine boxE (cs := #[.int .i64 0, .int .i64 0]) (t := 83) ?_; intro gb414 hg w53 hbox hb; refine E12 (Kd.R_below (PR HO_3.1) hb) (Kd.S_below (PS HO_5.1) hb) (bB BK405.1 hb) (bB BK409.1 hb) (below_step (BL HB.1) hb) (hbox) (gX HB.1 hg) (gX HB.1 hg) (nB BK405.1 hg) (nC BK405.1 hg) (nB BK409.1 hg) (nC BK409.1 hg) ?_; clear HO_3 HO_5 BK405 BK409 HB; intro HO_3 HO_5 BK405 BK409 HB BK414 GW414 GE414 NB405_414 NB414_405 NB409_414 NB414_409; clear hb hbox hg; have hnb54 := NB414_405.1; have hnc54 := NB405_414.1; have hnb55 := NB414_409.1; have hnc55 := NB409_414.1; obtain ⟨hcz56_0, hcz56_1, hfz56_0, hfz56_1⟩ := cz2 BK414.1; obtain ⟨Ao57, co57, eo57⟩ := Kd.R_slice HO_3.1; subst eo57; have p421 : 0 ≤ (x17_1 : Int) := OD; have q421 : x17_1 < (t406.length : Int) := OD; obtain ⟨ad421, e421, hx421_0⟩ := Kd.at_int (Kd.R_reads' HO_3.1).2.2 x17_1 p421 q421; cases e421; have hn421_0 : ad421.block ≠ gb414 := Kd.own_blk (Kd.R_ne HO_3.1 BK414.1 (by decide)); have hn421_1 : ad421.block ≠ gb414 := Kd.own_blk (Kd.R_ne HO_3.1 BK414.1 (by decide)); replace hx421_0 := (cell_far (p := ⟨gb414, 0, none⟩) (by first | (rw [add_block]; exact hn421_0) | (show (Addr.add _ _).block ≠ _; rw [add_block]; exact hn421_0) | exact hn421_0) (.int .i64 ((rd_T83 l0_2 x17_1).f0))).trans hx421_0; replace hx421_0 := (cell_far (p := ⟨gb414, 1, none⟩) (by first | (rw [add_block]; exact hn421_1) | (show (Addr.add _ _).block ≠ _; rw [add_block]; exact hn421_1) | exact hn421_1) (.int .i64 ((rd_T83 l0_2 x17_1).f1))).trans hx421_0; clear hn421_0; clear hn421_1; replace p421 := eq_true p421; replace q421 := eq_true q421; have hnb58 := NB409_405.1; have hnc58 := NB405_409.1; obtain ⟨Ao60, co60, eo60⟩ := Kd.S_slice HO_5.1; subst eo60; have p427 : 0 ≤ (x17_1 : Int) := OD; have q427 : x17_1 < (t406.length : Int) := OD; obtain ⟨ad427, e427, hx427_0⟩ := Kd.at_int (Kd.R_reads' HO_3.1).2.2 x17_1 p427 q427; obtain rfl : ad421 = ad427 := (by injection e427); have hn427_0 : ad421.block ≠ gb414 := Kd.own_blk (Kd.R_ne HO_3.1 BK414.1 (by decide)); have hn427_1 : ad421.block ≠ gb414 := Kd.own_blk (Kd.R_ne HO_3.1 BK414.1 (by decide)); replace hx427_0 := (cell_far (p := ⟨gb414, 0, none⟩) (by first | (rw [add_block]; exact hn427_0) | (show (Addr.add _ _).block ≠ _; rw [add_block]; exact hn427_0) | exact hn427_0) (.int .i64 ((rd_T83 l0_2 x17_1).f0))).trans hx427_0; replace hx427_0 := (cell_far (p := ⟨gb414, 1, none⟩) (by first | (rw [add_block]; exact hn427_1) | (show (Addr.add _ _).block ≠ _; rw [add_block]; exact hn427_1) | exact hn427_1) (.int .i64 ((rd_T83 l0_2 x17_1).f1))).trans hx427_0; clear hn427_0; clear hn427_1; replace p427 := eq_true p427; replace q427 := eq_true q427) | ((with_reducible refine gate_dst (N := 39) rfl ?_); refine look_event (b := gb409) (om := om_1) (mm := xm_1) rfl (.tmp 34) (.tmp 38) 92 3 rfl Try.underlying92 Try.underlying3 ?hz (by first | exact BK409.1 | (refine obj_far ?_ NB409_414.1 _; refine obj_far ?_ NB409_414.1 _; exact BK409.1)) HM409.1 ?hm (rd t406 x17_1) ?hx HKY.1 ?_; (case hz => exact impl_unitsOf.zero3 _); (case hm => rfl); (case hx => first | rfl | (go_simp; done) | (go_simp; rfl))) | ((with_reducible refine gate_put (T := 92) (m := .tmp 46) (x := .tmp 50) (v := .tmp 51) rfl ?_); refine put_event (b := gb409) (om := om_1) (mm := xm_1) rfl (.tmp 46) (.tmp 50) (.tmp 51) 92 3 rfl rfl Try.underlying92 Try.underlying3 (by (with_reducible repeat (first | refine blk_drewN ?_ _ | refine blk_drew ?_ | refine blk_alloc ?_ _)); refine obj_far ?_ NB409_414.1 _; (with_reducible repeat (first | refine blk_drewN ?_ _ | refine blk_drew ?_ | refine blk_alloc ?_ _)); refine obj_far ?_ NB409_414.1 _; (with_reducible repeat (first | refine blk_drewN ?_ _ | refine blk_drew ?_ | refine blk_alloc ?_ _)); exact BK409.1) HM409.1 HML.1 ?hm (rd t406 x17_1) (x5_1.length : Int) ?hx ?hv HKY.1 ?hw ?_; (case hm => rfl); (case hx => first | rfl | (go_simp; done) | (go_simp; rfl)); (case hv => first | rfl | (go_simp; done) | (go_simp; rfl)); (case hw => (have := LMc48.1; exact wrap64_nat (by omega))); intro w61 om2_ hbm hM2_ hg; have n0_ := Aside0.mk (R_put (g := gb409) (om := om_1) (by (with_reducible repeat (first | apply Kd.R_alloc | apply Kd.R_drewN | apply Kd.R_drew)); exact (Kd.R_mono (Kd.R_far (p := ⟨gb414, 1, none⟩) (Kd.R_far (p := ⟨gb414, 0, none⟩) (Kd.R_types HO_3.1 BK414.1 (by decide)) (fun _ hk => hk.2) (.int .i64 ((rd_T83 l0_2 x17_1).f0))) (fun _ hk => hk.2) (.int .i64 ((rd_T83 l0_2 x17_1).f1))) (fun _ h_ => h_.1))) (by (with_reducible repeat (first | refine blk_drewN ?_ _ | refine blk_drew ?_ | refine blk_alloc ?_ _)); refine obj_far ?_ NB409_414.1 _; (with_reducible repeat (first | refine blk_drewN ?_ _ | refine blk_drew ?_ | refine blk_alloc ?_ _)); refine obj_far ?_ NB409_414.1 _; (with_reducible repeat (first | refine blk_drewN ?_ _ | refine blk_drew ?_ | refine blk_alloc ?_ _)); exact BK409.1) HM409.1 hg); have n1_ := Aside0.mk (S_put (g := gb409) (om := om_1) (by (with_reducible repeat (first | apply Kd.S_alloc | apply Kd.S_drewN | apply Kd.S_drew)); exact (Kd.S_mono (Kd.S_far (p := ⟨gb414, 1, none⟩) (Kd.S_far (p := ⟨gb414, 0, none⟩) (Kd.S_types HO_5.1 BK414.1 (by decide)) (fun _ hk => hk.2) (.int .i64 ((rd_T83 l0_2 x17_1).f0))) (fun _ hk => hk.2) (.int .i64 ((rd_T83 l0_2 x17_1).f1))) (fun _ h_ => h_.1))) (by (with_reducible repeat (first | refine blk_drewN ?_ _ | refine blk_drew ?_ | refine blk_alloc ?_ _)); refine obj_far ?_ NB409_414.1 _; (with_reducible repeat (first | refine blk_drewN ?_ _ | refine blk_drew ?_ | refine blk_alloc ?_ _)); refine obj_far ?_ NB409_414.1 _; (with_reducible repeat (first | refine blk_drewN ?_ _ | refine blk_drew ?_ | refine blk_alloc ?_ _)); exact BK409.1) HM409.1 hg); have n2_ := Aside0.mk (blk_grown (g := gb405) (o := .cells #[.int .i64 a0_0, .int .i64 a0_1, .slice (some ad413) l0_2.length c0_2] 30 (0, 0)) (PF1 NB405_414.1 BK405.1) hg (fun e_ => NB405_409.1 (Option.some.inj e_))); have n3_ := Aside0.mk (hbm); have n4_ := Aside0.mk (blk_grown (g := gb414) (o := .cells #[.int .i64 ((rd_T83 l0_2 x17_1).f0), .int .i64 ((rd_T83 l0_2 x17_1).f1)] 83 (0, 0)) (PF0 BK414.1) hg (fun e_ => NB414_409.1 (Option.some.inj e_))); have n5_ := Aside0.mk (pw_below_grown (BL HB.1) _ (below_size (BL HB.1)) hg (fun k_ e_ => by cases e_; exact GE409.1)); clear HO_3; clear HO_5; clear BK405; clear BK409; clear BK414; clear HB; clear HM409; have HO_3 := n0_; have HO_5 := n1_; have BK405 := n2_; have BK409 := n3_; have BK414 := n4_; have HB := n5_; have HM409 := Aside0.mk hM2_; clear n0_ n1_ n2_ n3_ n4_ n5_; clear hbm hM2_ hg) | ((with_reducible refine gate_builtin (b := .append) (xs := #[.tmp 52, .tmp 53]) rfl ?_); at_builtin; refine Kd.S_append (Kd.slice 3 (Kd.int .i64)) (w0 := w) w.heap.size rfl (.tmp 52) (.tmp 53) 60 38 (.slice none 0 0) 24 rfl Try.underlying60 info38 rfl (by decide) (by omega) (.slice Ao60 x5_1.length co60) x5_1 [] [.slice none 0 0] (fun k_ => some k_ ≠ (.slice (some ad421) t406.length co57 : Value).ownBlock) (fun _ => False) rfl rfl ?aP (fun _ hk => hk.elim) ?aF ?aO ?aB ?aS ?aL ?_; (case aP => exact ⟨_, rfl, Kd.R_nil _ _ _ _ _⟩); (case aB => exact (BL HB.1)); (case aF => exact (fun k_ hk => Kd.fresh' (Kd.R_lt (PR HO_3.1)) k_ hk)); (case aO => exact (by (with_reducible repeat (first | apply Kd.S_alloc | apply Kd.S_drewN | apply Kd.S_drew)); exact Kd.S_mono HO_5.1 (fun k_ hk => ⟨hk, fun e_ => e_⟩))); (case aS => exact (below_size (BL HB.1))); (case aL => have := LMc48.1; omega); intro v430 w62 ho hb hg hat; rw [← Ny429.1] at ho; have n0_ := Aside0.mk (Kd.R_over' (PR HO_3.1) (Kd.S_typed (PS HO_5.1)) (by decide) hg); have n1_ := Aside0.mk (bG BK405.1 hg (Kd.S_ne HO_5.1 BK405.1 (by decide))); have n2_ := Aside0.mk (bG BK409.1 hg (map_ne (Kd.S_R HO_5.1) BK409.1 HM409.1)); have n3_ := Aside0.mk (bG BK414.1 hg (Kd.S_ne HO_5.1 BK414.1 (by decide))); have n5_ := Aside0.mk (hb); have n6_ := Aside0.mk (ho); clear HO_3; clear BK405; clear BK409; clear BK414; clear HB; clear HO_5; have HO_3 := n0_; have BK405 := n1_; have BK409 := n2_; have BK414 := n3_; have HB := n5_; have HO431 := n6_; clear n0_ n1_ n2_ n3_ n5_ n6_; clear ho hb hg hat; obtain ⟨Ao63, co63, eo63⟩ := Kd.S_slice HO431.1; subst eo63; have p432 : 0 ≤ ((x5_1.length : Int) : Int) := OD; have q432 : (x5_1.length : Int) < (y429.length : Int) := OD; obtain ⟨ad432, A432_0, c432_0, e432, hx432_0, hl432_0, hi432_0⟩ := at_L3 (Kd.S_reads' HO431.1).2.2 (x5_1.length : Int) p432 q432; cases e432; obtain ⟨ce432, hce432, hMe432, hcc432⟩ := Kd.S_get HO431.1 [] (x5_1.length : Int) p432 (by first | exact q432 | exact OD | (have e_ := (Kd.S_reads' HO431.1).1; omega)); obtain ⟨ve432_0, rfl, ge432_0⟩ := hMe432; have hv432_0 := hcc432 0 _ rfl; rw [Nat.add_zero, show ((Kd.slice 3 (Kd.int .i64))).sz = 1 from rfl, Nat.mul_one] at hv432_0; replace hv432_0 := Option.some.inj (hv432_0.symm.trans hx432_0); rw [hv432_0] at ge432_0; have HL432_0 := Aside0.mk (show Kd.R (Kd.int .i64) 3 _ _ _ _ (rd_L3 y429 (x5_1.length : Int)) from ge432_0); clear hv432_0 ge432_0; have HX432_0 := Aside0.mk hx432_0; clear hcc432 hce432; have HR432_0 := Aside0.mk hi432_0; have HC432_0 := Aside0.mk hl432_0; clear hi432_0 hl432_0; (try simp only [Go.IntWalk.toNatUp] at hx432_0); replace p432 := eq_true p432; replace q432 := eq_true q432; obtain ⟨go64, co64, eo64, gb64, gl64, cl64, HG64⟩ := Kd.S_form HO431.1 (by have h_ : ((x5_1.length : Int) : Int) < ((y429.length : Int) : Int) := OD; have h2_ : 0 ≤ ((x5_1.length : Int) : Int) := (OD); omega); (first | cases eo64 | (injection eo64 with ea_ en_ ec_; (first | subst ea_ | (injection ea_ with ea_; subst ea_)); subst ec_; clear en_)); have GB64 := Aside0.mk gb64; have GG64 := Aside0.mk HG64; clear gb64 gl64 HG64; (first | simp only [add_plain] at hx432_0 | skip); obtain ⟨oki64, ce64, hcl64, hM64, hcc64, _, _, hH64⟩ := Kd.S_elem HO431.1 [] ((x5_1.length : Int) : Int) (OD) (by have h_ : ((x5_1.length : Int) : Int) < ((y429.length : Int) : Int) := OD; first | exact h_ | (have e_ := (Kd.S_reads' HO431.1).1; omega) | simpa using h_); obtain ⟨ve64_0, rfl, ge64_0⟩ := hM64; have hv64 := hcc64 0 _ rfl; have hX64 := HX432_0.1; (try simp only [add_plain] at hX64); (try simp only [Nat.add_zero] at hv64); (try rw [show ((Kd.slice 3 (Kd.int .i64))).sz = 1 from rfl, Nat.mul_one] at hv64); replace hv64 := Option.some.inj (hv64.symm.trans hX64); subst hv64; clear hX64 hcc64 hcl64; have UU64 := Aside0.mk (show Kd.R (Kd.int .i64) 3 _ w.heap.size oki64 (.slice A432_0 (rd_L3 y429 (x5_1.length : Int)).length c432_0) (rd_L3 y429 (x5_1.length : Int)) from ge64_0); have HH64 := Aside0.mk hH64; have HN64 := Aside0.mk (Kd.S_reads' HO431.1).1; clear hH64 ge64_0) | ((with_reducible refine gate_builtin (b := .append) (xs := #[.tmp 60, .tmp 62]) rfl ?_); at_builtin; refine Kd.R_append (Kd.int .i64) (w0 := w) w.heap.size rfl (.tmp 60) (.tmp 62) 38 3 (.int .i64 0) 8 rfl Try.underlying38 info3 rfl (by decide) (by omega) (.slice A432_0 (rd_L3 y429 (x5_1.length : Int)).length c432_0) (rd_L3 y429 (x5_1.length : Int)) x17_1 [.int .i64 x17_1] (fun k_ => oki64 k_ ∨ ((fun k_ => some k_ ≠ (.slice (some ad421) t406.length co57 : Value).ownBlock)) k_ ∧ w62.heap.size ≤ k_) (fun _ => False) rfl rfl ?aP (fun _ hk => hk.elim) ?aF ?aO ?aB ?aS ?aL ?_; (case aP => exact rfl); (case aB => exact (BL HB.1)); (case aF => exact (fun k_ hk => .inr ⟨Kd.fresh' (Kd.R_lt (PR HO_3.1)) k_ hk, hk⟩)); (case aO => exact (by (with_reducible repeat (first | apply Kd.R_alloc | apply Kd.R_drewN | apply Kd.R_drew)); exact Kd.R_mono UU64.1 (fun _ hk => .inl hk))); (case aS => exact (below_size (BL HB.1))); (case aL => have := LMc51.1; omega); intro v434 w65 ho hb hg hat; rw [← Ny433.1] at ho; have n0_ := Aside0.mk (Kd.R_grown2 (PR HO_3.1) rfl hg (fun k_ e_ => (HL432_0.1.1 k_ e_).1)); have n1_ := Aside0.mk (bG BK405.1 hg (Kd.R_ne HL432_0.1 BK405.1 (by decide))); have n2_ := Aside0.mk (bG BK409.1 hg (map_ne HL432_0.1 BK409.1 HM409.1)); have n3_ := Aside0.mk (bG BK414.1 hg (Kd.R_ne HL432_0.1 BK414.1 (by decide))); have n5_ := Aside0.mk (hb); have n6_ := Aside0.mk (Kd.H_grown (Kd.H_widen (by repeat (first | exact HH64.1 | refine Kd.H_alloc ?_ _ | refine Kd.H_drewN ?_ _ | refine Kd.H_drew ?_))) hg (fun k_ e_ => .inl (UU64.1.1 k_ e_))); have n7_ := Aside0.mk (ho); clear HO_3; clear BK405; clear BK409; clear BK414; clear HB; clear HH64; clear HO431; clear UU64; clear HL432_0; have HO_3 := n0_; have BK405 := n1_; have BK409 := n2_; have BK414 := n3_; have HB := n5_; have HH64 := n6_; have HO435 := n7_; clear n0_ n1_ n2_ n3_ n5_ n6_ n7_; clear ho hb hg hat; have p52 : 0 ≤ ((x5_1.length : Int) : Int) := OD; have q52 : ((x5_1.length : Int) : Int) < ((y429.length : Int) : Int) := OD; replace p52 := eq_true p52; replace q52 := eq_true q52; obtain ⟨Ao68, co68, eo68⟩ := Kd.R_slice HO435.1; subst eo68; obtain ⟨_, _, hraw66, _, _, hcc66, _⟩ := Kd.H_raw HH64.1 (OD) (by have h_ : ((x5_1.length : Int) : Int) < ((y429.length : Int) : Int) := OD; first | exact h_ | (have e_ := (HN64.1); omega) | simpa using h_); obtain ⟨_, hfr66⟩ := Kd.H_at HH64.1 (OD) (by have h_ : ((x5_1.length : Int) : Int) < ((y429.length : Int) : Int) := OD; first | exact h_ | (have e_ := (HN64.1); omega) | simpa using h_); have hx66_0 := hcc66 0 _ rfl; have hf66_0 := hfr66 0; (try simp only [Nat.add_zero] at hx66_0 hf66_0); (try rw [show ((Kd.slice 3 (Kd.int .i64))).sz = 1 from rfl, Nat.mul_one] at hx66_0); (try rw [show ((Kd.slice 3 (Kd.int .i64))).sz = 1 from rfl, Nat.mul_one] at hf66_0); (try simp only [Go.IntWalk.toNatUp] at hx66_0 hf66_0); have HP66 := Kd.S_seg0 HH64.1 (OD) (by have h_ : ((x5_1.length : Int) : Int) < ((y429.length : Int) : Int) := OD; first | exact h_ | (have e_ := (HN64.1); omega) | simpa using h_) (seg := [.slice Ao68 y433.length co68]) (j := 0) (show 1 ≤ 1 from by decide) (x' := y433) (Kd.M_row HO435.1) (fun _ hk => hk); (try simp only [show ((Kd.slice 3 (Kd.int .i64))).sz = 1 from rfl, Nat.mul_one, Nat.add_zero] at HP66); clear hcc66 hfr66) | ((with_reducible refine gate_store (t := 38) (p := 64) rfl ?_); refine storeE (t := 38) (p := 64) (w1 := (w65.setCell ⟨go64, ((x5_1.length : Int) : Int).toNat, none⟩ (.slice Ao68 y433.length co68))) ?_; intro w67 hw; have hg : w65.grownBy w67 (some go64) := (by rw [hw]; exact HP66.2); have hp_ : Kd.S (Kd.slice 3 (Kd.int .i64)) 38 w67 w.heap.size (fun k_ => some k_ ≠ (.slice (some ad421) t406.length co57 : Value).ownBlock) (.slice (some ⟨go64, 0, none⟩) y429.length co63) y436 := (by rw [hw, Ny436.1]; exact HP66.1); clear HP66; have n0_ := Aside0.mk (Kd.R_over' (v := (.slice (some ⟨go64, 0, none⟩) y429.length co63)) (PR HO_3.1) (Kd.R_typed hraw66) (by decide) hg); have n1_ := Aside0.mk (bG BK405.1 hg (Kd.R_ne hraw66 BK405.1 (by decide))); have n2_ := Aside0.mk (bG BK409.1 hg (map_ne hraw66 BK409.1 HM409.1)); have n3_ := Aside0.mk (bG BK414.1 hg (Kd.R_ne hraw66 BK414.1 (by decide))); have n5_ := Aside0.mk ((by rw [hw]; exact below_set HB.1 GB64.1 : Below w.heap.size w w67)); have n6_ := Aside0.mk (hp_); clear HO_3; clear BK405; clear BK409; clear BK414; clear HB; clear HO435; clear HH64; have HO_3 := n0_; have BK405 := n1_; have BK409 := n2_; have BK414 := n3_; have HB := n5_; have HO431 := n6_; clear n0_ n1_ n2_ n3_ n5_ n6_; clear hg hw hp_ hraw66))
      go_roundg k1
      case measure => have := HK1.1; omega
      case rel => exact ⟨(y436), (wrap64 (x17_1 + 1)), (((rd t406 x17_1), (x5_1.length : Int)) :: xm_1), (_), RG, H', ⟨by have := HK1.1; omega⟩, ⟨PR HO_3.1⟩, ⟨PS HO431.1⟩, ⟨PB BK405.1⟩, ⟨PB BK409.1⟩, HM409, ⟨BL HB.1⟩⟩
    have c26b0 := beq_eq_false_iff_ne.mpr c26
    have c26b1 := bne_iff_ne.mpr c26
    have H' := Aside0.mk H
    clear H
    have p413 : 0 ≤ (x17_1 : Int) := OD
    have q413 : x17_1 < (l0_2.length : Int) := OD
    obtain ⟨ad413, e413, hx413_0, hx413_1⟩ := at_T83 HR0_2.1 x17_1 p413 q413
    cases e413
    replace hx413_0 := (HB.1.cell (World.block_lt_of_cell? w _ hx413_0)).trans hx413_0
    replace hx413_1 := (HB.1.cell (World.block_lt_of_cell? w _ hx413_1)).trans hx413_1
    replace p413 := eq_true p413
    replace q413 := eq_true q413
    go_wp2_with (first | ((with_reducible refine gate_dst (N := 7) rfl ?_); refine boxE (cs := #[.int .i64 0, .int .i64 0]) (t := 83) ?_; intro gb414 hg w69 hbox hb; refine E12 (Kd.R_below (PR HO_3.1) hb) (Kd.S_below (PS HO_5.1) hb) (bB BK405.1 hb) (bB BK409.1 hb) (below_step (BL HB.1) hb) (hbox) (gX HB.1 hg) (gX HB.1 hg) (nB BK405.1 hg) (nC BK405.1 hg) (nB BK409.1 hg) (nC BK409.1 hg) ?_; clear HO_3 HO_5 BK405 BK409 HB; intro HO_3 HO_5 BK405 BK409 HB BK414 GW414 GE414 NB405_414 NB414_405 NB409_414 NB414_409; clear hb hbox hg; have hnb70 := NB414_405.1; have hnc70 := NB405_414.1; have hnb71 := NB414_409.1; have hnc71 := NB409_414.1; obtain ⟨hcz72_0, hcz72_1, hfz72_0, hfz72_1⟩ := cz2 BK414.1) | ((with_reducible refine gate_dst (N := 39) rfl ?_); refine look_event (b := gb409) (om := om_1) (mm := xm_1) rfl (.tmp 34) (.tmp 38) 92 3 rfl Try.underlying92 Try.underlying3 ?hz (by first | exact BK409.1 | (refine obj_far ?_ NB409_414.1 _; refine obj_far ?_ NB409_414.1 _; exact BK409.1)) HM409.1 ?hm (rd t406 x17_1) ?hx HKY.1 ?_; (case hz => exact impl_unitsOf.zero3 _); (case hm => rfl); (case hx => first | rfl | (go_simp; done) | (go_simp; rfl))))
    go_roundg k1
    case measure => have := HK1.1; omega
    case rel => exact ⟨(x5_1), (wrap64 (x17_1 + 1)), (xm_1), (om_1), RG, H', ⟨by have := HK1.1; omega⟩, ⟨by (with_reducible repeat (first | apply Kd.R_alloc | apply Kd.R_drewN | apply Kd.R_drew)); exact Kd.R_mono (Kd.R_far (p := ⟨gb414, 1, none⟩) (Kd.R_far (p := ⟨gb414, 0, none⟩) (Kd.R_types HO_3.1 BK414.1 (by decide)) (fun _ hk => hk.2) (.int .i64 ((rd_T83 l0_2 x17_1).f0))) (fun _ hk => hk.2) (.int .i64 ((rd_T83 l0_2 x17_1).f1))) (fun _ hk => trivial)⟩, ⟨by (with_reducible repeat (first | apply Kd.S_alloc | apply Kd.S_drewN | apply Kd.S_drew)); exact Kd.S_mono (Kd.S_far (p := ⟨gb414, 1, none⟩) (Kd.S_far (p := ⟨gb414, 0, none⟩) (Kd.S_types HO_5.1 BK414.1 (by decide)) (fun _ hk => hk.2) (.int .i64 ((rd_T83 l0_2 x17_1).f0))) (fun _ hk => hk.2) (.int .i64 ((rd_T83 l0_2 x17_1).f1))) (fun _ hk => hk.1)⟩, ⟨by (with_reducible repeat (first | refine blk_drewN ?_ _ | refine blk_drew ?_ | refine blk_alloc ?_ _)); refine blk_far ?_ NB405_414.1 _; (with_reducible repeat (first | refine blk_drewN ?_ _ | refine blk_drew ?_ | refine blk_alloc ?_ _)); refine blk_far ?_ NB405_414.1 _; (with_reducible repeat (first | refine blk_drewN ?_ _ | refine blk_drew ?_ | refine blk_alloc ?_ _)); exact BK405.1⟩, ⟨by (with_reducible repeat (first | refine blk_drewN ?_ _ | refine blk_drew ?_ | refine blk_alloc ?_ _)); refine obj_far ?_ NB409_414.1 _; (with_reducible repeat (first | refine blk_drewN ?_ _ | refine blk_drew ?_ | refine blk_alloc ?_ _)); refine obj_far ?_ NB409_414.1 _; (with_reducible repeat (first | refine blk_drewN ?_ _ | refine blk_drew ?_ | refine blk_alloc ?_ _)); exact BK409.1⟩, HM409, ⟨BL HB.1⟩⟩
  obtain rfl := Option.some.inj H
  go_wp2
  go_ret
  exact ⟨_, RF, by (with_reducible repeat (first | apply Kd.S_alloc | apply Kd.S_drewN | apply Kd.S_drew)); exact Kd.S_mono HO_5.1 (fun _ hk => trivial), BL HB.1⟩
/-! ### impl_IsCell: function 99 -/
def impl_IsCell.f (a0_0 : Int) (a0_1 : Int) : Option (Bool) := if a0_0 < 0 then (some false) else (if a0_0 > 7 then (some false) else (if a0_1 < 0 then (some false) else (if a0_1 > 1 then (some false) else (if a0_1 = 0 then (some true) else (if a0_0 = 3 then (some true) else (some (a0_0 == 6)))))))
set_option maxHeartbeats 8000000 in
set_option maxRecDepth 100000 in
theorem impl_IsCell.calls (a0_0 : Int) (a0_1 : Int) (r : Bool) (w : World) (h : impl_IsCell.f a0_0 a0_1 = some r) :
    Calls Try.prog 99 #[.agg #[.int .i64 a0_0, .int .i64 a0_1]] w fun e w' => e = .returned (.bool r) ∧ Below w.heap.size w w' := by
  have hu83 := Try.underlying83
  have HB := Aside0.mk (Below.refl w.heap.size w)
  have H := h
  clear h
  unfold impl_IsCell.f at H
  replace H := ifB H; rcases H with ⟨c2b0, H⟩ | ⟨c2b0, H⟩
  · obtain rfl := Option.some.inj H
    go_enter Try.func99, Try.ntmps99
    go_wp2_with (first | ((with_reducible refine gate_dst (N := 1) rfl ?_); refine boxE (cs := #[.int .i64 a0_0, .int .i64 a0_1]) (t := 83) ?_; intro gb437 hg w3 hbox hb; refine E4b HB.1 hg hbox hb ?_; clear HB; intro HB BK437 GW437 GE437; clear hb hbox hg; obtain ⟨hcz4_0, hcz4_1, hfz4_0, hfz4_1⟩ := cz2 BK437.1))
    go_ret
    exact ⟨RF, BL HB.1⟩
  replace H := ifQ H; rcases H with ⟨c5, H⟩ | ⟨c5, H⟩
  · have c5b0 : decide (7 < a0_0) = true := decide_eq_true c5
    clear c5
    obtain rfl := Option.some.inj H
    go_enter Try.func99, Try.ntmps99
    go_wp2_with (first | ((with_reducible refine gate_dst (N := 1) rfl ?_); refine boxE (cs := #[.int .i64 a0_0, .int .i64 a0_1]) (t := 83) ?_; intro gb437 hg w6 hbox hb; refine E4b HB.1 hg hbox hb ?_; clear HB; intro HB BK437 GW437 GE437; clear hb hbox hg; obtain ⟨hcz7_0, hcz7_1, hfz7_0, hfz7_1⟩ := cz2 BK437.1))
    go_ret
    exact ⟨RF, BL HB.1⟩
  have c5b0 : decide (7 < a0_0) = false := decide_eq_false c5
  clear c5
  replace H := ifB H; rcases H with ⟨c8b0, H⟩ | ⟨c8b0, H⟩
  · obtain rfl := Option.some.inj H
    go_enter Try.func99, Try.ntmps99
    go_wp2_with (first | ((with_reducible refine gate_dst (N := 1) rfl ?_); refine boxE (cs := #[.int .i64 a0_0, .int .i64 a0_1]) (t := 83) ?_; intro gb437 hg w9 hbox hb; refine E4b HB.1 hg hbox hb ?_; clear HB; intro HB BK437 GW437 GE437; clear hb hbox hg; obtain ⟨hcz10_0, hcz10_1, hfz10_0, hfz10_1⟩ := cz2 BK437.1))
    go_ret
    exact ⟨RF, BL HB.1⟩
  replace H := ifQ H; rcases H with ⟨c11, H⟩ | ⟨c11, H⟩
  · have c11b0 : decide (1 < a0_1) = true := decide_eq_true c11
    clear c11
    obtain rfl := Option.some.inj H
    go_enter Try.func99, Try.ntmps99
    go_wp2_with (first | ((with_reducible refine gate_dst (N := 1) rfl ?_); refine boxE (cs := #[.int .i64 a0_0, .int .i64 a0_1]) (t := 83) ?_; intro gb437 hg w12 hbox hb; refine E4b HB.1 hg hbox hb ?_; clear HB; intro HB BK437 GW437 GE437; clear hb hbox hg; obtain ⟨hcz13_0, hcz13_1, hfz13_0, hfz13_1⟩ := cz2 BK437.1))
    go_ret
    exact ⟨RF, BL HB.1⟩
  have c11b0 : decide (1 < a0_1) = false := decide_eq_false c11
  clear c11
  replace H := ifQ H; rcases H with ⟨c14, H⟩ | ⟨c14, H⟩
  · have c14b0 := beq_iff_eq.mpr c14
    have c14b1 := bne_eq_false_iff_eq.mpr c14
    clear c14
    obtain rfl := Option.some.inj H
    go_enter Try.func99, Try.ntmps99
    go_wp2_with (first | ((with_reducible refine gate_dst (N := 1) rfl ?_); refine boxE (cs := #[.int .i64 a0_0, .int .i64 a0_1]) (t := 83) ?_; intro gb437 hg w15 hbox hb; refine E4b HB.1 hg hbox hb ?_; clear HB; intro HB BK437 GW437 GE437; clear hb hbox hg; obtain ⟨hcz16_0, hcz16_1, hfz16_0, hfz16_1⟩ := cz2 BK437.1))
    go_ret
    exact ⟨RF, BL HB.1⟩
  have c14b0 := beq_eq_false_iff_ne.mpr c14
  have c14b1 := bne_iff_ne.mpr c14
  replace H := ifQ H; rcases H with ⟨c17, H⟩ | ⟨c17, H⟩
  · have c17b0 := beq_iff_eq.mpr c17
    have c17b1 := bne_eq_false_iff_eq.mpr c17
    clear c17
    obtain rfl := Option.some.inj H
    go_enter Try.func99, Try.ntmps99
    go_wp2_with (first | ((with_reducible refine gate_dst (N := 1) rfl ?_); refine boxE (cs := #[.int .i64 a0_0, .int .i64 a0_1]) (t := 83) ?_; intro gb437 hg w18 hbox hb; refine E4b HB.1 hg hbox hb ?_; clear HB; intro HB BK437 GW437 GE437; clear hb hbox hg; obtain ⟨hcz19_0, hcz19_1, hfz19_0, hfz19_1⟩ := cz2 BK437.1))
    go_ret
    exact ⟨RF, BL HB.1⟩
  have c17b0 := beq_eq_false_iff_ne.mpr c17
  have c17b1 := bne_iff_ne.mpr c17
  obtain rfl := Option.some.inj H
  go_enter Try.func99, Try.ntmps99
  go_wp2_with (first | ((with_reducible refine gate_dst (N := 1) rfl ?_); refine boxE (cs := #[.int .i64 a0_0, .int .i64 a0_1]) (t := 83) ?_; intro gb437 hg w20 hbox hb; refine E4b HB.1 hg hbox hb ?_; clear HB; intro HB BK437 GW437 GE437; clear hb hbox hg; obtain ⟨hcz21_0, hcz21_1, hfz21_0, hfz21_1⟩ := cz2 BK437.1))
  go_ret
  exact ⟨RF, BL HB.1⟩
/-! ### impl_validCells: function 86 -/
def impl_validCells.l0 : Nat → List (S83) → Int → Int → Option (Bool)
  | 0, _, _, _ => none
  | k + 1, x8, x9, x10 => if x10 < x9 then (if 0 ≤ x10 then (if x10 < (x8.length : Int) then ((impl_IsCell.f ((rd_T83 x8 x10).f0) ((rd_T83 x8 x10).f1)).bind fun t440 => (if t440 = true then (impl_validCells.l0 k x8 x9 (wrap64 (x10 + 1))) else (some false))) else (none)) else (none)) else (some true)
def impl_validCells.f (k : Nat) (l0 : List (S83)) : Option (Bool) := if (l0.length : Int) > 90 then (some false) else (impl_validCells.l0 k l0 (l0.length : Int) 0)
theorem impl_validCells.mono_l : ∀ k, (∀ y0 y1 y2, LeO (impl_validCells.l0 k y0 y1 y2) (impl_validCells.l0 (k + 1) y0 y1 y2))
  | 0 => fun _ _ _ r h => by simp [impl_validCells.l0] at h
  | k + 1 => by
    have ih0 := impl_validCells.mono_l k
    intros
    first | unfold impl_validCells.l0
    repeat' first | (with_reducible first | apply ih0 | exact LeO.refl _ | exact LeO.none _ | refine LeO.ite ?_ ?_ | refine LeO.bind ?_ (fun _ => ?_)) | apply ih0 | exact LeO.none _ | refine LeO.ite ?_ ?_ | refine LeO.bind ?_ (fun _ => ?_)
theorem impl_validCells.mono : ∀ a0 k, LeO (impl_validCells.f k a0) (impl_validCells.f (k + 1) a0) := by
  intro a0 k
  have ih0 := impl_validCells.mono_l k
  unfold impl_validCells.f
  repeat' first | (with_reducible first | apply ih0 | exact LeO.refl _ | exact LeO.none _ | refine LeO.ite ?_ ?_ | refine LeO.bind ?_ (fun _ => ?_)) | apply ih0 | exact LeO.none _ | refine LeO.ite ?_ ?_ | refine LeO.bind ?_ (fun _ => ?_)
set_option maxHeartbeats 8000000 in
set_option maxRecDepth 100000 in
theorem impl_validCells.calls (k : Nat) (A0 : Option Addr) (c0 : Nat) (l0 : List (S83)) (r : Bool) (w : World) (hr0 : Kd.C k83 w A0 l0.length l0) (hc0 : l0.length ≤ c0) (h : impl_validCells.f k l0 = some r) :
    Calls Try.prog 86 #[.slice A0 l0.length c0] w fun e w' => e = .returned (.bool r) ∧ Below w.heap.size w w' := by
  have hu83 := Try.underlying83
  have HR0 := Aside0.mk hr0
  have HC0 := Aside0.mk hc0
  clear hr0 hc0
  have HB := Aside0.mk (Below.refl w.heap.size w)
  have H := h
  clear h
  unfold impl_validCells.f at H
  replace H := ifQ H; rcases H with ⟨c2, H⟩ | ⟨c2, H⟩
  · have c2b0 : decide (90 < (l0.length : Int)) = true := decide_eq_true c2
    have c2b1 : decide (90 < l0.length) = true := decide_eq_true (by omega)
    clear c2
    obtain rfl := Option.some.inj H
    go_enter Try.func86, Try.ntmps86
    go_wp2
    go_ret
    exact ⟨RF, BL HB.1⟩
  have c2b0 : decide (90 < (l0.length : Int)) = false := decide_eq_false c2
  have c2b1 : decide (90 < l0.length) = false := decide_eq_false (by omega)
  clear c2
  have H' := Aside0.mk H
  clear H
  go_enter Try.func86, Try.ntmps86
  go_wp2
  go_loopg [10] k (fun kq v10 w' => ∃ (x10_1 : Int), v10 = .int .i64 x10_1 ∧ Aside0 (impl_validCells.l0 kq l0 (l0.length : Int) x10_1 = some r) ∧ Aside0 (kq ≤ k) ∧ Aside0 (Below w.heap.size w w'))
  case atStart => exact ⟨(0), RG, H', ⟨Nat.le_refl _⟩, ⟨BL HB.1⟩⟩
  clear H'
  try clear c2b0; try clear c2b1
  obtain ⟨x10_1, rfl, HA, HK1, HB⟩ := hrel
  cases gk with
  | zero => exact absurd HA.1 (by simp [impl_validCells.l0])
  | succ k1 => ?_
  have H := HA.1
  clear HA
  simp only [impl_validCells.l0] at H
  replace H := ifB H; rcases H with ⟨c3b0, H⟩ | ⟨c3b0, H⟩
  · replace H := ifN H; obtain ⟨c4b0, H⟩ := H
    replace H := ifN H; obtain ⟨c5b0, H⟩ := H
    replace H := bindA H; obtain ⟨t440, A6, H⟩ := H
    replace H := ifX H; rcases H with ⟨rfl, H⟩ | ⟨rfl, H⟩
    · have H' := Aside0.mk H
      clear H
      have p438 : 0 ≤ (x10_1 : Int) := OD
      have q438 : x10_1 < (l0.length : Int) := OD
      obtain ⟨ad438, e438, hx438_0, hx438_1⟩ := at_T83 HR0.1 x10_1 p438 q438
      cases e438
      replace hx438_0 := (HB.1.cell (World.block_lt_of_cell? w _ hx438_0)).trans hx438_0
      replace hx438_1 := (HB.1.cell (World.block_lt_of_cell? w _ hx438_1)).trans hx438_1
      replace p438 := eq_true p438
      replace q438 := eq_true q438
      go_wp2_with (first | ((with_reducible refine gate_dst (N := 4) rfl ?_); refine boxE (cs := #[.int .i64 0, .int .i64 0]) (t := 83) ?_; intro gb439 hg w8 hbox hb; refine E4b HB.1 hg hbox hb ?_; clear HB; intro HB BK439 GW439 GE439; clear hb hbox hg; obtain ⟨hcz9_0, hcz9_1, hfz9_0, hfz9_1⟩ := cz2 BK439.1) | ((with_reducible refine gate_callee (f := 99) rfl ?_); refine goesM (N := (some 15)) #[.agg #[.int .i64 ((rd_T83 l0 x10_1).f0), .int .i64 ((rd_T83 l0 x10_1).f1)]] Try.func99 ?_; (with_reducible refine (impl_IsCell.calls ((rd_T83 l0 x10_1).f0) ((rd_T83 l0 x10_1).f1) true _ A6.1).mono ?_); rintro e w10 ⟨rfl, hb⟩; refine ⟨_, rfl, ?_⟩; refine E2 (blk_below (g := gb439) (o := .cells #[.int .i64 ((rd_T83 l0 x10_1).f0), .int .i64 ((rd_T83 l0 x10_1).f1)] 83 (0, 0)) (PF0 BK439.1) hb) (below_step (BL HB.1) hb) ?_; clear BK439 HB; intro BK439 HB; (try clear hb)))
      go_roundg k1
      case measure => have := HK1.1; omega
      case rel => exact ⟨(wrap64 (x10_1 + 1)), RG, H', ⟨by have := HK1.1; omega⟩, ⟨BL HB.1⟩⟩
    obtain rfl := Option.some.inj H
    have p438 : 0 ≤ (x10_1 : Int) := OD
    have q438 : x10_1 < (l0.length : Int) := OD
    obtain ⟨ad438, e438, hx438_0, hx438_1⟩ := at_T83 HR0.1 x10_1 p438 q438
    cases e438
    replace hx438_0 := (HB.1.cell (World.block_lt_of_cell? w _ hx438_0)).trans hx438_0
    replace hx438_1 := (HB.1.cell (World.block_lt_of_cell? w _ hx438_1)).trans hx438_1
    replace p438 := eq_true p438
    replace q438 := eq_true q438
    go_wp2_with (first | ((with_reducible refine gate_dst (N := 4) rfl ?_); refine boxE (cs := #[.int .i64 0, .int .i64 0]) (t := 83) ?_; intro gb439 hg w11 hbox hb; refine E4b HB.1 hg hbox hb ?_; clear HB; intro HB BK439 GW439 GE439; clear hb hbox hg; obtain ⟨hcz12_0, hcz12_1, hfz12_0, hfz12_1⟩ := cz2 BK439.1) | ((with_reducible refine gate_callee (f := 99) rfl ?_); refine goesM (N := (some 15)) #[.agg #[.int .i64 ((rd_T83 l0 x10_1).f0), .int .i64 ((rd_T83 l0 x10_1).f1)]] Try.func99 ?_; (with_reducible refine (impl_IsCell.calls ((rd_T83 l0 x10_1).f0) ((rd_T83 l0 x10_1).f1) false _ A6.1).mono ?_); rintro e w13 ⟨rfl, hb⟩; refine ⟨_, rfl, ?_⟩; refine E2 (blk_below (g := gb439) (o := .cells #[.int .i64 ((rd_T83 l0 x10_1).f0), .int .i64 ((rd_T83 l0 x10_1).f1)] 83 (0, 0)) (PF0 BK439.1) hb) (below_step (BL HB.1) hb) ?_; clear BK439 HB; intro BK439 HB; (try clear hb)))
    go_ret
    exact ⟨RF, BL HB.1⟩
  obtain rfl := Option.some.inj H
  go_wp2
  go_ret
  exact ⟨RF, BL HB.1⟩
/-! ### impl_IsBoard: function 73 -/
def impl_IsBoard.f (k : Nat) (a0_0 : Int) (a0_1 : Int) (l0_2 : List (S83)) : Option (Bool) := if a0_0 ≥ 1 then (if a0_0 ≤ 10 then (if a0_1 ≥ 1 then (if a0_1 ≤ 9 then (if (l0_2.length : Int) = (wrap64 (a0_0 * a0_1)) then ((impl_validCells.f k l0_2).bind fun t442 => (some t442)) else (some false)) else (some false)) else (some false)) else (some false)) else (some false)
theorem impl_IsBoard.mono : ∀ a0 a1 a2 k, LeO (impl_IsBoard.f k a0 a1 a2) (impl_IsBoard.f (k + 1) a0 a1 a2) := by
  intro a0 a1 a2 k
  unfold impl_IsBoard.f
  repeat' first
      | (with_reducible exact impl_validCells.mono _ _)
      | (with_reducible exact LeO.refl _)
      | (with_reducible exact LeO.none _)
      | (with_reducible refine LeO.ite ?_ ?_)
      | (with_reducible refine LeO.bind ?_ (fun _ => ?_))
      | exact impl_validCells.mono _ _
      | exact LeO.none _
      | refine LeO.ite ?_ ?_
      | refine LeO.bind ?_ (fun _ => ?_)
set_option maxHeartbeats 8000000 in
set_option maxRecDepth 100000 in
theorem impl_IsBoard.calls (k : Nat) (a0_0 : Int) (a0_1 : Int) (A0_2 : Option Addr) (c0_2 : Nat) (l0_2 : List (S83)) (r : Bool) (w : World) (hr0_2 : Kd.C k83 w A0_2 l0_2.length l0_2) (hc0_2 : l0_2.length ≤ c0_2) (h : impl_IsBoard.f k a0_0 a0_1 l0_2 = some r) :
    Calls Try.prog 73 #[.agg #[.int .i64 a0_0, .int .i64 a0_1, .slice A0_2 l0_2.length c0_2]] w fun e w' => e = .returned (.bool r) ∧ Below w.heap.size w w' := by
  have hu30 := Try.underlying30
  have HR0_2 := Aside0.mk hr0_2
  have HC0_2 := Aside0.mk hc0_2
  clear hr0_2 hc0_2
  have HB := Aside0.mk (Below.refl w.heap.size w)
  have H := h
  clear h
  unfold impl_IsBoard.f at H
  replace H := ifQ H; rcases H with ⟨c2, H⟩ | ⟨c2, H⟩
  · have c2b0 : decide (1 ≤ a0_0) = true := decide_eq_true c2
    clear c2
    replace H := ifB H; rcases H with ⟨c3b0, H⟩ | ⟨c3b0, H⟩
    · replace H := ifQ H; rcases H with ⟨c4, H⟩ | ⟨c4, H⟩
      · have c4b0 : decide (1 ≤ a0_1) = true := decide_eq_true c4
        clear c4
        replace H := ifB H; rcases H with ⟨c5b0, H⟩ | ⟨c5b0, H⟩
        · replace H := ifQ H; rcases H with ⟨c6, H⟩ | ⟨c6, H⟩
          · have c6b0 := beq_iff_eq.mpr c6
            have c6b1 := bne_eq_false_iff_eq.mpr c6
            clear c6
            replace H := bindA H; obtain ⟨t442, A7, H⟩ := H
            obtain rfl := Option.some.inj H
            go_enter Try.func73, Try.ntmps73
            go_wp2_with (first | ((with_reducible refine gate_dst (N := 1) rfl ?_); (try (refine gate_guard (by rfl) ?_; dsimp only)); refine boxE (cs := #[.int .i64 a0_0, .int .i64 a0_1, .slice A0_2 l0_2.length c0_2]) (t := 30) ?_; intro gb441 hg w8 hbox hb; refine E4b HB.1 hg hbox hb ?_; clear HB; intro HB BK441 GW441 GE441; clear hb hbox hg; obtain ⟨hcz9_0, hcz9_1, hcz9_2, hfz9_0, hfz9_1, hfz9_2⟩ := cz3 BK441.1) | (go_at_call 86; (with_reducible refine (impl_validCells.calls k _ _ l0_2 t442 _ ?side1 ?side2 A7.1).mono ?_); (case side1 => exact CB (Kd.C_below HR0_2.1 HB.1)); (case side2 => exact HC0_2.1); rintro e w10 ⟨rfl, hb⟩; refine E2 (bB BK441.1 hb) (below_step (BL HB.1) hb) ?_; clear BK441 HB; intro BK441 HB; (try clear hb)))
            go_ret
            exact ⟨RF, BL HB.1⟩
          have c6b0 := beq_eq_false_iff_ne.mpr c6
          have c6b1 := bne_iff_ne.mpr c6
          obtain rfl := Option.some.inj H
          go_enter Try.func73, Try.ntmps73
          go_wp2_with (first | ((with_reducible refine gate_dst (N := 1) rfl ?_); (try (refine gate_guard (by rfl) ?_; dsimp only)); refine boxE (cs := #[.int .i64 a0_0, .int .i64 a0_1, .slice A0_2 l0_2.length c0_2]) (t := 30) ?_; intro gb441 hg w11 hbox hb; refine E4b HB.1 hg hbox hb ?_; clear HB; intro HB BK441 GW441 GE441; clear hb hbox hg; obtain ⟨hcz12_0, hcz12_1, hcz12_2, hfz12_0, hfz12_1, hfz12_2⟩ := cz3 BK441.1))
          go_ret
          exact ⟨RF, BL HB.1⟩
        obtain rfl := Option.some.inj H
        go_enter Try.func73, Try.ntmps73
        go_wp2_with (first | ((with_reducible refine gate_dst (N := 1) rfl ?_); (try (refine gate_guard (by rfl) ?_; dsimp only)); refine boxE (cs := #[.int .i64 a0_0, .int .i64 a0_1, .slice A0_2 l0_2.length c0_2]) (t := 30) ?_; intro gb441 hg w13 hbox hb; refine E4b HB.1 hg hbox hb ?_; clear HB; intro HB BK441 GW441 GE441; clear hb hbox hg; obtain ⟨hcz14_0, hcz14_1, hcz14_2, hfz14_0, hfz14_1, hfz14_2⟩ := cz3 BK441.1))
        go_ret
        exact ⟨RF, BL HB.1⟩
      have c4b0 : decide (1 ≤ a0_1) = false := decide_eq_false c4
      clear c4
      obtain rfl := Option.some.inj H
      go_enter Try.func73, Try.ntmps73
      go_wp2_with (first | ((with_reducible refine gate_dst (N := 1) rfl ?_); (try (refine gate_guard (by rfl) ?_; dsimp only)); refine boxE (cs := #[.int .i64 a0_0, .int .i64 a0_1, .slice A0_2 l0_2.length c0_2]) (t := 30) ?_; intro gb441 hg w15 hbox hb; refine E4b HB.1 hg hbox hb ?_; clear HB; intro HB BK441 GW441 GE441; clear hb hbox hg; obtain ⟨hcz16_0, hcz16_1, hcz16_2, hfz16_0, hfz16_1, hfz16_2⟩ := cz3 BK441.1))
      go_ret
      exact ⟨RF, BL HB.1⟩
    obtain rfl := Option.some.inj H
    go_enter Try.func73, Try.ntmps73
    go_wp2_with (first | ((with_reducible refine gate_dst (N := 1) rfl ?_); (try (refine gate_guard (by rfl) ?_; dsimp only)); refine boxE (cs := #[.int .i64 a0_0, .int .i64 a0_1, .slice A0_2 l0_2.length c0_2]) (t := 30) ?_; intro gb441 hg w17 hbox hb; refine E4b HB.1 hg hbox hb ?_; clear HB; intro HB BK441 GW441 GE441; clear hb hbox hg; obtain ⟨hcz18_0, hcz18_1, hcz18_2, hfz18_0, hfz18_1, hfz18_2⟩ := cz3 BK441.1))
    go_ret
    exact ⟨RF, BL HB.1⟩
  have c2b0 : decide (1 ≤ a0_0) = false := decide_eq_false c2
  clear c2
  obtain rfl := Option.some.inj H
  go_enter Try.func73, Try.ntmps73
  go_wp2_with (first | ((with_reducible refine gate_dst (N := 1) rfl ?_); (try (refine gate_guard (by rfl) ?_; dsimp only)); refine boxE (cs := #[.int .i64 a0_0, .int .i64 a0_1, .slice A0_2 l0_2.length c0_2]) (t := 30) ?_; intro gb441 hg w19 hbox hb; refine E4b HB.1 hg hbox hb ?_; clear HB; intro HB BK441 GW441 GE441; clear hb hbox hg; obtain ⟨hcz20_0, hcz20_1, hcz20_2, hfz20_0, hfz20_1, hfz20_2⟩ := cz3 BK441.1))
  go_ret
  exact ⟨RF, BL HB.1⟩
/-! ### impl_fewUnits: function 46 -/
def impl_fewUnits.f (k : Nat) (a0_0 : Int) (a0_1 : Int) (l0_2 : List (S83)) : Option (Bool) := (impl_IsBoard.f k a0_0 a0_1 l0_2).bind fun t444 => (if t444 = true then ((impl_unitsOf.f k a0_0 a0_1 l0_2).bind fun t445 => (some (decide ((t445.length : Int) ≤ 8)))) else (some false))
theorem impl_fewUnits.mono : ∀ a0 a1 a2 k, LeO (impl_fewUnits.f k a0 a1 a2) (impl_fewUnits.f (k + 1) a0 a1 a2) := by
  intro a0 a1 a2 k
  unfold impl_fewUnits.f
  repeat' first
      | (with_reducible exact impl_IsBoard.mono _ _ _ _)
      | (with_reducible exact impl_unitsOf.mono _ _ _ _)
      | (with_reducible exact LeO.refl _)
      | (with_reducible exact LeO.none _)
      | (with_reducible refine LeO.ite ?_ ?_)
      | (with_reducible refine LeO.bind ?_ (fun _ => ?_))
      | exact impl_IsBoard.mono _ _ _ _
      | exact impl_unitsOf.mono _ _ _ _
      | exact LeO.none _
      | refine LeO.ite ?_ ?_
      | refine LeO.bind ?_ (fun _ => ?_)
set_option maxHeartbeats 8000000 in
set_option maxRecDepth 100000 in
theorem impl_fewUnits.calls (k : Nat) (a0_0 : Int) (a0_1 : Int) (A0_2 : Option Addr) (c0_2 : Nat) (l0_2 : List (S83)) (r : Bool) (w : World) (hr0_2 : Kd.C k83 w A0_2 l0_2.length l0_2) (hc0_2 : l0_2.length ≤ c0_2) (h : impl_fewUnits.f k a0_0 a0_1 l0_2 = some r) :
    Calls Try.prog 46 #[.agg #[.int .i64 a0_0, .int .i64 a0_1, .slice A0_2 l0_2.length c0_2]] w fun e w' => e = .returned (.bool r) ∧ Below w.heap.size w w' := by
  have hu30 := Try.underlying30
  have HR0_2 := Aside0.mk hr0_2
  have HC0_2 := Aside0.mk hc0_2
  clear hr0_2 hc0_2
  have HB := Aside0.mk (Below.refl w.heap.size w)
  have H := h
  clear h
  unfold impl_fewUnits.f at H
  replace H := bindA H; obtain ⟨t444, A2, H⟩ := H
  replace H := ifX H; rcases H with ⟨rfl, H⟩ | ⟨rfl, H⟩
  · replace H := bindA H; obtain ⟨t445, A4, H⟩ := H
    obtain rfl := Option.some.inj H
    go_enter Try.func46, Try.ntmps46
    go_wp2_with (first | ((with_reducible refine gate_dst (N := 1) rfl ?_); (try (refine gate_guard (by rfl) ?_; dsimp only)); refine boxE (cs := #[.int .i64 a0_0, .int .i64 a0_1, .slice A0_2 l0_2.length c0_2]) (t := 30) ?_; intro gb443 hg w5 hbox hb; refine E4b HB.1 hg hbox hb ?_; clear HB; intro HB BK443 GW443 GE443; clear hb hbox hg; obtain ⟨hcz6_0, hcz6_1, hcz6_2, hfz6_0, hfz6_1, hfz6_2⟩ := cz3 BK443.1) | ((with_reducible refine gate_callee (f := 73) rfl ?_); refine goesM (N := (some 4)) #[.agg #[.int .i64 a0_0, .int .i64 a0_1, .slice A0_2 l0_2.length c0_2]] Try.func73 ?_; (with_reducible refine (impl_IsBoard.calls k a0_0 a0_1 _ _ l0_2 true _ ?side1 ?side2 A2.1).mono ?_); (case side1 => exact CB (Kd.C_below HR0_2.1 HB.1)); (case side2 => exact HC0_2.1); rintro e w7 ⟨rfl, hb⟩; refine ⟨_, rfl, ?_⟩; refine E2 (bB BK443.1 hb) (below_step (BL HB.1) hb) ?_; clear BK443 HB; intro BK443 HB; (try clear hb); obtain ⟨hcz8_0, hcz8_1, hcz8_2, hfz8_0, hfz8_1, hfz8_2⟩ := cz3 BK443.1) | (go_at_call 61; (with_reducible refine (impl_unitsOf.calls k a0_0 a0_1 _ _ l0_2 t445 _ ?side1 ?side2 A4.1).mono ?_); (case side1 => exact CB (Kd.C_below HR0_2.1 HB.1)); (case side2 => exact HC0_2.1); rintro e w9 ⟨v446, rfl, ho0, hb⟩; refine E3 (Kd.S_lower ho0 (below_size (BL HB.1))) (bB BK443.1 hb) (below_step (BL HB.1) hb) ?_; clear BK443 HB; intro HO447 BK443 HB; (try clear hb); (try clear ho0); obtain ⟨Ao10, co10, eo10⟩ := Kd.S_slice HO447.1; subst eo10))
    go_ret
    exact ⟨RF, BL HB.1⟩
  obtain rfl := Option.some.inj H
  go_enter Try.func46, Try.ntmps46
  go_wp2_with (first | ((with_reducible refine gate_dst (N := 1) rfl ?_); (try (refine gate_guard (by rfl) ?_; dsimp only)); refine boxE (cs := #[.int .i64 a0_0, .int .i64 a0_1, .slice A0_2 l0_2.length c0_2]) (t := 30) ?_; intro gb443 hg w11 hbox hb; refine E4b HB.1 hg hbox hb ?_; clear HB; intro HB BK443 GW443 GE443; clear hb hbox hg; obtain ⟨hcz12_0, hcz12_1, hcz12_2, hfz12_0, hfz12_1, hfz12_2⟩ := cz3 BK443.1) | ((with_reducible refine gate_callee (f := 73) rfl ?_); refine goesM (N := (some 4)) #[.agg #[.int .i64 a0_0, .int .i64 a0_1, .slice A0_2 l0_2.length c0_2]] Try.func73 ?_; (with_reducible refine (impl_IsBoard.calls k a0_0 a0_1 _ _ l0_2 false _ ?side1 ?side2 A2.1).mono ?_); (case side1 => exact CB (Kd.C_below HR0_2.1 HB.1)); (case side2 => exact HC0_2.1); rintro e w13 ⟨rfl, hb⟩; refine ⟨_, rfl, ?_⟩; refine E2 (bB BK443.1 hb) (below_step (BL HB.1) hb) ?_; clear BK443 HB; intro BK443 HB; (try clear hb)))
  go_ret
  exact ⟨RF, BL HB.1⟩

/-! ### impl_numberOf: function 49 -/
def impl_numberOf.l0 : Nat → Int → List Int → Int → Int → Option (Int)
  | 0, _, _, _, _ => none
  | k + 1, x3, x6, x7, x8 => if x8 < x7 then (if 0 ≤ x8 then (if x8 < (x6.length : Int) then (impl_numberOf.l0 k (Go.bits .or .i64 x3 (shl .i64 (rd x6 x8) x8)) x6 x7 (wrap64 (x8 + 1))) else (none)) else (none)) else (some x3)
def impl_numberOf.f (k : Nat) (l0 : List Int) : Option (Int) := impl_numberOf.l0 k 0 l0 (l0.length : Int) 0
theorem impl_numberOf.mono_l : ∀ k, (∀ y0 y1 y2 y3, LeO (impl_numberOf.l0 k y0 y1 y2 y3) (impl_numberOf.l0 (k + 1) y0 y1 y2 y3))
  | 0 => fun _ _ _ _ r h => by simp [impl_numberOf.l0] at h
  | k + 1 => by
    have ih0 := impl_numberOf.mono_l k
    intros
    first | unfold impl_numberOf.l0
    repeat' first | (with_reducible first | apply ih0 | exact LeO.refl _ | exact LeO.none _ | refine LeO.ite ?_ ?_ | refine LeO.bind ?_ (fun _ => ?_)) | apply ih0 | exact LeO.none _ | refine LeO.ite ?_ ?_ | refine LeO.bind ?_ (fun _ => ?_)
theorem impl_numberOf.mono : ∀ a0 k, LeO (impl_numberOf.f k a0) (impl_numberOf.f (k + 1) a0) := by
  intro a0 k
  have ih0 := impl_numberOf.mono_l k
  unfold impl_numberOf.f
  repeat' first | (with_reducible first | apply ih0 | exact LeO.refl _ | exact LeO.none _ | refine LeO.ite ?_ ?_ | refine LeO.bind ?_ (fun _ => ?_)) | apply ih0 | exact LeO.none _ | refine LeO.ite ?_ ?_ | refine LeO.bind ?_ (fun _ => ?_)
set_option maxHeartbeats 8000000 in
set_option maxRecDepth 100000 in
theorem impl_numberOf.calls (k : Nat) (A0 : Option Addr) (c0 : Nat) (l0 : List Int) (r : Int) (w : World) (hr0 : Kd.C (Kd.int .i64) w A0 l0.length l0) (hc0 : l0.length ≤ c0) (h : impl_numberOf.f k l0 = some r) :
    Calls Try.prog 49 #[.slice A0 l0.length c0] w fun e w' => e = .returned (.int .i64 r) ∧ Drawn0 w w' := by
  have HR0 := Aside0.mk hr0
  have HC0 := Aside0.mk hc0
  clear hr0 hc0
  have H := h
  clear h
  unfold impl_numberOf.f at H
  have H' := Aside0.mk H
  clear H
  go_enter Try.func49, Try.ntmps49
  go_wp2
  go_loopg [3, 8] k (fun kq v3 v8 w' => ∃ (x3_1 : Int) (x8_1 : Int), v3 = .int .i64 x3_1 ∧ v8 = .int .i64 x8_1 ∧ Aside0 (impl_numberOf.l0 kq x3_1 l0 (l0.length : Int) x8_1 = some r) ∧ Aside0 (kq ≤ k) ∧ Drawn0 w w')
  case atStart => exact ⟨(0), (0), RG, RG, H', ⟨Nat.le_refl _⟩, DR⟩
  clear H'
  obtain ⟨x3_1, x8_1, rfl, rfl, HA, HK1, ⟨m1, rfl⟩⟩ := hrel
  cases gk with
  | zero => exact absurd HA.1 (by simp [impl_numberOf.l0])
  | succ k1 => ?_
  have H := HA.1
  clear HA
  simp only [impl_numberOf.l0] at H
  replace H := ifB H; rcases H with ⟨c2b0, H⟩ | ⟨c2b0, H⟩
  · replace H := ifN H; obtain ⟨c3b0, H⟩ := H
    replace H := ifN H; obtain ⟨c4b0, H⟩ := H
    have c5b0 := eq_true (OD : 0 ≤ x8_1)
    obtain ⟨ji6, hji6⟩ : ∃ j_ : Int, (shl .i64 (rd l0 x8_1) x8_1) = j_ := ⟨_, rfl⟩
    replace H : (impl_numberOf.l0 k1 (Go.bits .or .i64 x3_1 (ji6)) l0 (l0.length : Int) (wrap64 (x8_1 + 1))) = some r := by first | (rw [hji6] at H; exact H) | (simp only [hji6] at H ⊢; exact H)
    have hji6_ : (IntKind.i64.wrap ((rd l0 x8_1) * 2 ^ min x8_1.toNat 64)) = ji6 := hji6
    have hji6z : x8_1 ≤ 64 → (IntKind.i64.wrap ((rd l0 x8_1) * 2 ^ x8_1.toNat)) = ji6 := shl_small hji6
    have hji6y : (wrap64 ((rd l0 x8_1) * 2 ^ min x8_1.toNat 64)) = ji6 := (i64_w _).symm.trans hji6_
    have hji6x : x8_1 ≤ 64 → (wrap64 ((rd l0 x8_1) * 2 ^ x8_1.toNat)) = ji6 := fun h_ => (i64_w _).symm.trans (hji6z h_)
    have H' := Aside0.mk H
    clear H
    have p450 : 0 ≤ (x8_1 : Int) := OD
    have q450 : x8_1 < (l0.length : Int) := OD
    obtain ⟨ad450, e450, hx450_0⟩ := Kd.at_int HR0.1 x8_1 p450 q450
    cases e450
    replace p450 := eq_true p450
    replace q450 := eq_true q450
    go_wp2
    go_roundg k1
    case measure => have := HK1.1; omega
    case rel => exact ⟨(Go.bits .or .i64 x3_1 (ji6)), (wrap64 (x8_1 + 1)), (by first | rfl | (simp; done) | (simp only [← hji6] <;> (first | rfl | simp)) | (simp [*]; done)), RG, H', ⟨by have := HK1.1; omega⟩, DR⟩
  obtain rfl := Option.some.inj H
  go_wp2
  go_ret
  exact ⟨RG, DR⟩
/-! ### impl_copyBoard: function 75 -/
def impl_copyBoard.f (a0_0 : Int) (a0_1 : Int) (l0_2 : List (S83)) : Option (Int × Int × (List (S83))) := (some (([] : List (S83)) : List (S83))).bind fun y453 => (if y453.length + l0_2.length < 8796093022208 then (some (a0_0, a0_1, (y453 ++ l0_2))) else (none))
def impl_copyBoard.T1 : Bool × List (List Nat × List Nat) := (true, [([], []), ([0], [0]), ([], []), ([2], [2]), ([], []), ([], []), ([5], [5]), ([4, 6], [4, 6]), ([1, 3, 7], [1, 3, 7]), ([8, 7, 0, 1, 2, 3, 4, 5, 6, 7, 8], [8])])
def impl_copyBoard.B1 : List Nat := [0, 1, 0, 4, 0, 0, 32, 112, 255, 511]
theorem impl_copyBoard.tab1 : rtab .any (opsOf Try.f75 1) = impl_copyBoard.T1 := by kernel_rfl
theorem impl_copyBoard.bits1 : waitsOk impl_copyBoard.T1.2 impl_copyBoard.B1 = true := by kernel_rfl
set_option maxHeartbeats 8000000 in
set_option maxRecDepth 100000 in
theorem impl_copyBoard.calls (a0_0 : Int) (a0_1 : Int) (A0_2 : Option Addr) (c0_2 : Nat) (l0_2 : List (S83)) (r1 : Int) (r2 : Int) (r3 : List (S83)) (w : World) (hr0_2 : Kd.C k83 w A0_2 l0_2.length l0_2) (hc0_2 : l0_2.length ≤ c0_2) (h : impl_copyBoard.f a0_0 a0_1 l0_2 = some (r1, r2, r3)) :
    Calls Try.prog 75 #[.agg #[.int .i64 a0_0, .int .i64 a0_1, .slice A0_2 l0_2.length c0_2]] w fun e w' => ∃ v2_ : Value, e = .returned (.agg #[.int .i64 r1, .int .i64 r2, v2_]) ∧ Kd.R k83 83 w' w.heap.size (fun _ => True) v2_ r3 ∧ Below w.heap.size w w' := by
  have hu30 := Try.underlying30
  have HR0_2 := Aside0.mk hr0_2
  have HC0_2 := Aside0.mk hc0_2
  clear hr0_2 hc0_2
  have HB := Aside0.mk (Below.refl w.heap.size w)
  have H := h
  clear h
  unfold impl_copyBoard.f at H
  replace H := nameB H; obtain ⟨y453, Ny453, H⟩ := H
  replace H := ifP H; obtain ⟨c2, H⟩ := H
  have LMc2 := Aside0.mk c2
  clear c2
  generalize hy456 : ((y453 ++ l0_2) : List (S83)) = y456 at H
  have Ny456 := Aside0.mk hy456.symm; clear hy456
  simp only [Option.some.injEq, Prod.mk.injEq] at H
  obtain ⟨rfl, rfl, rfl⟩ := H
  go_enter Try.func75, Try.ntmps75
  try go_wp2_with (first | ((with_reducible refine gate_dst (N := 1) rfl ?_); refine boxE (cs := #[.int .i64 a0_0, .int .i64 a0_1, .slice A0_2 l0_2.length c0_2]) (t := 30) ?_; intro gb451 hg w3 hbox hb; refine E4b HB.1 hg hbox hb ?_; clear HB; intro HB BK451 GW451 GE451; clear hb hbox hg) | ((with_reducible refine gate_dst (N := 2) rfl ?_); refine boxE (cs := #[.int .i64 0, .int .i64 0, .slice none 0 0]) (t := 30) ?_; intro gb452 hg w4 hbox hb; refine E7 (bB BK451.1 hb) (below_step (BL HB.1) hb) (hbox) (gX HB.1 hg) (gX HB.1 hg) (nB BK451.1 hg) (nC BK451.1 hg) ?_; clear BK451 HB; intro BK451 HB BK452 GW452 GE452 NB451_452 NB452_451; clear hb hbox hg))
  refine E3 (blk_drew BK451.1) (blk_drew BK452.1) (below_drew1 HB.1) ?_
  clear BK451 BK452 HB
  intro BK451 BK452 HB
  refine start_ (n := 10) (S := fun w' => w'.cell? ⟨gb451, 0, none⟩ = some (.int .i64 a0_0) ∧ w'.cell? ⟨gb451, 1, none⟩ = some (.int .i64 a0_1) ∧ w'.cell? ⟨gb451, 2, none⟩ = some (.slice A0_2 l0_2.length c0_2)) (ds := []) #[Zz,Zz,Zz,Zz,Zz,Zz,Zz,Zz,Zz,Zz] (by kernel_rfl) rfl rfl ⟨(blk_cell BK451.1 0).trans rfl, (blk_cell BK451.1 1).trans rfl, (blk_cell BK451.1 2).trans rfl⟩ (fun hHeld => ?_); refine with_tabW impl_copyBoard.tab1 impl_copyBoard.bits1 (fun HT_ HW_ => ?_)
  generalize w4.drew = w5 at BK451 BK452 HB hHeld ⊢
  refine pureE (i := 0) (N := some 3) #[Yy,Zz,Zz,Zz,Zz,Zz,Zz,Zz,Zz,Zz] HT_.1 ?_
  refine pureE (i := 2) (N := some 5) #[Yy,Zz,Yy,Zz,Zz,Zz,Zz,Zz,Zz,Zz] HT_.1 ?_
  refine pureE (i := 5) (N := some 8) #[Yy,Zz,Yy,Zz,Zz,Yy,Zz,Zz,Zz,Zz] HT_.1 ?_
  refine take_ (i := 1) (N := some 4) (v := ?_) (a' := ?_) #[Yy,Yy,Yy,Zz,Zz,Yy,Zz,Zz,Zz,Zz] rfl rfl (take_ofW HT_.1 HW_.1 (by kernel_rfl)) (fun _ _ _ h => h) (Or.inl ⟨by rfl, ?_⟩) hHeld ?_ ?_
  rotate_left
  · rintro w' ⟨s0, s1, s2⟩
    go_simp
    with_reducible rfl
  rotate_left
  · simp only [Act.put, List.setIfInBounds_toArray, List.set_cons_zero, List.set_cons_succ, i64_w, i32_w]
    rfl
  refine take_ (i := 3) (N := some 6) (v := ?_) (a' := ?_) #[Yy,Yy,Yy,Yy,Zz,Yy,Zz,Zz,Zz,Zz] rfl rfl (take_ofW HT_.1 HW_.1 (by kernel_rfl)) (fun _ _ _ h => h) (Or.inl ⟨by rfl, ?_⟩) hHeld ?_ ?_
  rotate_left
  · rintro w' ⟨s0, s1, s2⟩
    go_simp
    with_reducible rfl
  rotate_left
  · simp only [Act.put, List.setIfInBounds_toArray, List.set_cons_zero, List.set_cons_succ, i64_w, i32_w]
    rfl
  refine take_ (i := 6) (N := some 9) (v := ?_) (a' := ?_) #[Yy,Yy,Yy,Yy,Zz,Yy,Yy,Zz,Zz,Zz] rfl rfl (take_ofW HT_.1 HW_.1 (by kernel_rfl)) (fun _ _ _ h => h) (Or.inl ⟨by rfl, ?_⟩) hHeld ?_ ?_
  rotate_left
  · rintro w' ⟨s0, s1, s2⟩
    go_simp
    with_reducible rfl
  rotate_left
  · simp only [Act.put, List.setIfInBounds_toArray, List.set_cons_zero, List.set_cons_succ, i64_w, i32_w]
    rfl
  refine one_ (i := 4) (N := some 7) #[Yy,Yy,Yy,Yy,Yy,Yy,Yy,Zz,Zz,Zz] rfl rfl (one_of HT_.1 (by kernel_rfl)) (by decide) (fun K hK => ?_)
  refine Kd.R_lit_step k83 _ 83 ?hg (N := 7) ?hd (xs := ([] : List (S83))) (inner := []) (ok := fun _ => True) (okp := fun _ => True) ?hr ?hp (fun _ hk => hk) trivial (Below.refl _ _) (Nat.le_refl _) (by simp) ?_; (case hd => rfl); (case hg => rfl); (case hr => first | (go_simp; done) | (go_simp; rfl)); (case hp => exact (Reps.none _ _))
  intro v454 w6 ho7 hb hg_ hnew_
  clear hg_ hnew_
  (first | rw [← Ny453.1] at ho7 | (simp only [Int.reduceToNat] at ho7; rw [← Ny453.1] at ho7))
  refine E4 (Kd.R_lower ho7 (below_size (BL HB.1))) (bB BK451.1 hb) (bB BK452.1 hb) (below_step (BL HB.1) hb) ?_
  clear BK451 BK452 HB
  intro HO455 BK451 BK452 HB
  clear hb ho7
  refine hK.out _ _ ⟨(blk_cell BK451.1 0).trans rfl, (blk_cell BK451.1 1).trans rfl, (blk_cell BK451.1 2).trans rfl⟩ (fun hHeld => ?_)
  clear hK K
  refine norm_ (a' := ?_) ?_ ?_
  rotate_left
  · show Act.put _ (some 7) _ = _
    simp only [Act.put, List.setIfInBounds_toArray, List.set_cons_zero, List.set_cons_succ, i64_w, i32_w]
    rfl
  refine one_ (i := 7) (N := some 10) #[Yy,Yy,Yy,Yy,Yy,Yy,Yy,Yy,Zz,Zz] rfl rfl (one_of HT_.1 (by kernel_rfl)) (by decide) (fun K hK => ?_)
  refine Kd.R_append_rows_step k83 (w0 := w) w.heap.size (by rfl) (.tmp 7) (.tmp 9) 28 83 (.agg #[(.int .i64 0), (.int .i64 0)]) 16 rfl Try.underlying28 info83 rfl (by decide) (by omega) v454 y453 l0_2 _ _ _ (fun _ => True) (fun _ => False) rfl rfl ?aO ?aR (fun _ _ h => h) (fun _ h => h.elim) ?aF ?aB ?aS ?aL ?_
  (case aR => repeat (first | exact (Kd.C_below HR0_2.1 HB.1) | (with_reducible refine Kd.C_alloc ?_ _) | (with_reducible refine Kd.C_drewN ?_ _) | (with_reducible refine Kd.C_drew ?_)))
  (case aB => exact (BL HB.1))
  (case aF => exact (fun _ _ => trivial))
  (case aO => exact (PR HO455.1))
  (case aS => exact (below_size (BL HB.1)))
  (case aL => have := LMc2.1; omega)
  intro v457 w8 ho hb hg hat
  rw [← Ny456.1] at ho
  refine E4 (bG BK451.1 hg (Kd.R_ne HO455.1 BK451.1 (by decide))) (bG BK452.1 hg (Kd.R_ne HO455.1 BK452.1 (by decide))) (hb) (ho) ?_
  clear BK451 BK452 HB HO455
  intro BK451 BK452 HB HO458
  clear ho hb hg hat
  obtain ⟨Ao9, co9, eo9⟩ := Kd.R_slice HO458.1
  (first | subst eo9 | (injection eo9 with f1_ f2_ f3_; have f4_ := f1_.symm; have f5_ := f3_.symm; clear f1_ f2_ f3_; subst f4_; subst f5_))
  refine hK.out _ _ ⟨(blk_cell BK451.1 0).trans rfl, (blk_cell BK451.1 1).trans rfl, (blk_cell BK451.1 2).trans rfl⟩ (fun hHeld => ?_)
  clear hK K
  refine norm_ (a' := ?_) ?_ ?_
  rotate_left
  · show Act.put _ (some 10) _ = _
    simp only [Act.put, List.setIfInBounds_toArray, List.set_cons_zero, List.set_cons_succ, i64_w, i32_w]
    rfl
  refine pureE (i := 8) (N := some 11) #[Yy,Yy,Yy,Yy,Yy,Yy,Yy,Yy,Yy,Zz] HT_.1 ?_
  refine one_ (i := 9) (N := none) #[Yy,Yy,Yy,Yy,Yy,Yy,Yy,Yy,Yy,Yy] rfl rfl (one_of HT_.1 (by kernel_rfl)) (by decide) (fun K hK => ?_)
  have hs10 : w8.cell? ⟨gb452, 0, none⟩ = some (.int .i64 0) := (blk_cell BK452.1 0).trans rfl
  have hfs10 := blk_frozen BK452.1 0
  have hns10_0 := NB451_452.1
  have hms10_0 := NB452_451.1
  have hs11 : w8.cell? ⟨gb452, 1, none⟩ = some (.int .i64 0) := (blk_cell BK452.1 1).trans rfl
  have hfs11 := blk_frozen BK452.1 1
  have hs12 : w8.cell? ⟨gb452, 2, none⟩ = some (.slice none 0 0) := (blk_cell BK452.1 2).trans rfl
  have hfs12 := blk_frozen BK452.1 2
  refine skip_ (w1 := ?_) (by rfl) rfl ?_ ?_
  rotate_left
  · go_simp
    rfl
  refine hK.out _ _ ⟨(CF3 NB451_452.1 hHeld.1), (CF3 NB451_452.1 hHeld.2.1), (CF3 NB451_452.1 hHeld.2.2)⟩ (fun hHeld => ?_)
  clear hK K
  refine done_ (done_of HT_.1 (by kernel_rfl)) ?_
  try go_wp2
  refine bodyPost_ret (results_cell_row rfl _ _ gb452 30 #[.int .i64 a0_0, .int .i64 a0_1, .slice Ao9 y456.length co9] (0, 0) _ rfl (PF0 BK452.1) Try.underlying30 rfl (by kernel_rfl)) rfl ?_
  exact ⟨_, RF, by (with_reducible repeat (first | apply Kd.R_alloc | apply Kd.R_drewN | apply Kd.R_drew)); exact Kd.R_mono (Kd.R_far (p := ⟨gb452, 2, none⟩) (Kd.R_far (p := ⟨gb452, 1, none⟩) (Kd.R_far (p := ⟨gb452, 0, none⟩) (Kd.R_types HO458.1 BK452.1 (by decide)) (fun _ hk => hk.2) (.int .i64 a0_0)) (fun _ hk => hk.2) (.int .i64 a0_1)) (fun _ hk => hk.2) (.slice Ao9 y456.length co9)) (fun _ hk => trivial), BL HB.1⟩
theorem foot_inner3 {w W : World} {S : Nat → Prop} {ad : Addr} {n : Nat} {xs : List (List Int)} {i : Int} {A : Option Addr} {c : Nat}
    (hr : ∀ W_, Kept w W_ S → Kd.C (Kd.slice 3 (Kd.int .i64)) W_ (some ad) n xs) (hk : Kept w W S) (h0 : 0 ≤ i) (h1 : i < n)
    (hx : W.cell? (ad.add i.toNat) = some (.slice A (rd_L3 xs i).length c)) : ∀ W_, Kept w W_ S → Kd.C (Kd.int .i64) W_ A (rd_L3 xs i).length (rd_L3 xs i) := by
  obtain ⟨ad1, A1, c1, e1, hw, _, _⟩ := at_L3 (hr w (Kept.refl w S)) i h0 h1
  cases e1
  have hne : ¬ S (ad.add i.toNat).block := by
    intro hS
    obtain ⟨ad2, A2, c2, e2, hw2, _, _⟩ := at_L3 (hr _ ((Kept.refl w S).setCell (p := ad.add i.toNat) (.inl hS) (.int .i64 0))) i h0 h1
    cases e2
    rw [World.cell?_setCell_same' _ _ _ (by rw [hw]; rfl)] at hw2
    cases hw2
  have a1 := cell_kept hw hk hne
  rw [a1] at hx
  injection hx with hx
  injection hx with hA _ _
  intro W_ hk_
  obtain ⟨ad2, A2, c2, e2, hw2, _, hC2⟩ := at_L3 (hr W_ hk_) i h0 h1
  cases e2
  have a2 := cell_kept hw hk_ hne
  rw [a2] at hw2
  injection hw2 with hw2
  injection hw2 with hA2 _ _
  rw [← hA, hA2]
  exact hC2
/-! ### impl_setBits: function 76 -/
mutual
def impl_setBits.l0 : Nat → List Int → List (List Int) → Int → Int → Int → Int → List (S83) → Option ((List (S83)))
  | 0, _, _, _, _, _, _, _ => none
  | k + 1, x2, x10, x11, x12, x460000, x460001, x460002 => if x12 < x11 then (if 0 ≤ x12 then (if x12 < (x10.length : Int) then (if 0 < ((rd_L3 x10 x12).length : Int) then (if 0 ≤ (rd (rd_L3 x10 x12) 0) then (if (rd (rd_L3 x10 x12) 0) < (x460002.length : Int) then (if x12 < (x2.length : Int) then (if ((rd_T83 x460002 (rd (rd_L3 x10 x12) 0)).f1) = (rd x2 x12) then (impl_setBits.l0 k x2 x10 x11 (wrap64 (x12 + 1)) x460000 x460001 x460002) else (impl_setBits.l1 k x2 x10 x11 x12 (rd_L3 x10 x12) ((rd_L3 x10 x12).length : Int) 0 x460000 x460001 x460002)) else (none)) else (none)) else (none)) else (none)) else (none)) else (none)) else (some x460002)
def impl_setBits.l1 : Nat → List Int → List (List Int) → Int → Int → List Int → Int → Int → Int → Int → List (S83) → Option ((List (S83)))
  | 0, _, _, _, _, _, _, _, _, _, _ => none
  | k + 1, x2, x10, x11, x12, x30, x31, x32, x460000, x460001, x460002 => if x32 < x31 then (if 0 ≤ x32 then (if x32 < (x30.length : Int) then (if 0 ≤ (rd x30 x32) then (if (rd x30 x32) < (x460002.length : Int) then (impl_setBits.l1 k x2 x10 x11 x12 x30 x31 (wrap64 (x32 + 1)) x460000 x460001 (x460002.set ((rd x30 x32) : Int).toNat (⟨(rd_T83 x460002 (rd x30 x32)).f0, wrap64 (1 - ((rd_T83 x460002 (rd x30 x32)).f1))⟩ : S83))) else (none)) else (none)) else (none)) else (none)) else (impl_setBits.l0 k x2 x10 x11 (wrap64 (x12 + 1)) x460000 x460001 x460002)
end
def impl_setBits.f (k : Nat) (a0_0 : Int) (a0_1 : Int) (l0_2 : List (S83)) (l1 : List (List Int)) (l2 : List Int) : Option ((List (S83))) := impl_setBits.l0 k l2 l1 (l1.length : Int) 0 a0_0 a0_1 l0_2
theorem impl_setBits.mono_l : ∀ k, (∀ y0 y1 y2 y3 y4 y5 y6, LeO (impl_setBits.l0 k y0 y1 y2 y3 y4 y5 y6) (impl_setBits.l0 (k + 1) y0 y1 y2 y3 y4 y5 y6)) ∧ (∀ y0 y1 y2 y3 y4 y5 y6 y7 y8 y9, LeO (impl_setBits.l1 k y0 y1 y2 y3 y4 y5 y6 y7 y8 y9) (impl_setBits.l1 (k + 1) y0 y1 y2 y3 y4 y5 y6 y7 y8 y9))
  | 0 => by refine ⟨?_, ?_⟩ <;> (intros; intro r h; first | (simp [impl_setBits.l0] at h; done) | (simp [impl_setBits.l1] at h; done))
  | k + 1 => by
    obtain ⟨ih0, ih1⟩ := impl_setBits.mono_l k
    refine ⟨?_, ?_⟩ <;> (
      intros
      first | unfold impl_setBits.l0 | unfold impl_setBits.l1
      repeat' first | (with_reducible first | apply ih0 | apply ih1 | exact LeO.refl _ | exact LeO.none _ | refine LeO.ite ?_ ?_ | refine LeO.bind ?_ (fun _ => ?_)) | apply ih0 | apply ih1 | exact LeO.none _ | refine LeO.ite ?_ ?_ | refine LeO.bind ?_ (fun _ => ?_))
theorem impl_setBits.mono : ∀ a0 a1 a2 a3 a4 k, LeO (impl_setBits.f k a0 a1 a2 a3 a4) (impl_setBits.f (k + 1) a0 a1 a2 a3 a4) := by
  intro a0 a1 a2 a3 a4 k
  obtain ⟨ih0, ih1⟩ := impl_setBits.mono_l k
  unfold impl_setBits.f
  repeat' first | (with_reducible first | apply ih0 | apply ih1 | exact LeO.refl _ | exact LeO.none _ | refine LeO.ite ?_ ?_ | refine LeO.bind ?_ (fun _ => ?_)) | apply ih0 | apply ih1 | exact LeO.none _ | refine LeO.ite ?_ ?_ | refine LeO.bind ?_ (fun _ => ?_)
def impl_setBits.T4 : Bool × List (List Nat × List Nat) := (true, [([], []), ([0], [0]), ([], []), ([2], [2]), ([3], [3]), ([1, 4], [1, 4]), ([5], [5]), ([6], [6]), ([], []), ([], []), ([8, 9], [8, 9]), ([10], [10]), ([7, 11], [7, 11])])
def impl_setBits.B4 : List Nat := [0, 1, 0, 4, 12, 31, 63, 127, 0, 0, 768, 1792, 4095]
theorem impl_setBits.tab4 : rtab .any (opsOf Try.f76 4) = impl_setBits.T4 := by kernel_rfl
theorem impl_setBits.bits4 : waitsOk impl_setBits.T4.2 impl_setBits.B4 = true := by kernel_rfl
def impl_setBits.T8 : Bool × List (List Nat × List Nat) := (true, [([], []), ([0], [0]), ([], []), ([], []), ([3], [3]), ([], []), ([4, 5], [4, 5]), ([6], [6]), ([7], [7]), ([8], [8]), ([1, 2, 0, 1, 2, 3, 4, 5, 6, 7, 8, 9], [1, 2]), ([10, 0, 1, 2, 3, 4, 5, 6, 7, 8, 9], [10]), ([11, 9, 0, 1, 2, 3, 4, 5, 6, 7, 8, 9], [9, 11])])
def impl_setBits.B8 : List Nat := [0, 1, 0, 0, 8, 0, 56, 120, 248, 504, 1023, 2047, 4095]
theorem impl_setBits.tab8 : rtab .any (opsOf Try.f76 8) = impl_setBits.T8 := by kernel_rfl
theorem impl_setBits.bits8 : waitsOk impl_setBits.T8.2 impl_setBits.B8 = true := by kernel_rfl
set_option maxHeartbeats 8000000 in
set_option maxRecDepth 100000 in
theorem impl_setBits.calls (k : Nat) (a0_0 : Int) (a0_1 : Int) (P0_2_ : Nat → Prop) (u9000_ : Value) (l0_2 : List (S83)) (A1 : Option Addr) (c1 : Nat) (l1 : List (List Int)) (A2 : Option Addr) (c2 : Nat) (l2 : List Int) (r : List (S83)) (w0 w : World) (hB : Below w0.heap.size w0 w) (ho0_2 : Kd.R k83 83 w w0.heap.size P0_2_ u9000_ l0_2) (hr1 : ∀ W_, Kept w W_ (fun k_ => P0_2_ k_) → Kd.C (Kd.slice 3 (Kd.int .i64)) W_ A1 l1.length l1) (hc1 : l1.length ≤ c1) (hr2 : ∀ W_, Kept w W_ (fun k_ => P0_2_ k_) → Kd.C (Kd.int .i64) W_ A2 l2.length l2) (hc2 : l2.length ≤ c2) (h : impl_setBits.f k a0_0 a0_1 l0_2 l1 l2 = some r) :
    Calls Try.prog 76 #[.agg #[.int .i64 a0_0, .int .i64 a0_1, u9000_], .slice A1 l1.length c1, .slice A2 l2.length c2] w fun e w' => e = .returned (.tuple #[]) ∧ Kd.R k83 83 w' w0.heap.size (fun k_ => (P0_2_ k_ ∨ w.heap.size ≤ k_)) u9000_ r ∧ Below w0.heap.size w0 w' ∧ Kept w w' (fun k_ => P0_2_ k_) := by
  have hu30 := Try.underlying30
  have HO0_2 := Aside0.mk (show Kd.R k83 83 w w0.heap.size (fun k_ => (P0_2_ k_ ∨ w.heap.size ≤ k_)) u9000_ l0_2 from Kd.R_mono ho0_2 (fun k_ hk => (.inl hk)))
  have HR1 := Aside0.mk hr1
  have HC1 := Aside0.mk hc1
  clear hr1 hc1
  have HR2 := Aside0.mk hr2
  have HC2 := Aside0.mk hc2
  clear hr2 hc2
  have HK := Aside0.mk (Kept.refl w (fun k_ => P0_2_ k_))
  have HW0 := Aside0.mk hB.size
  have HB := Aside0.mk hB
  clear hB
  have H := h
  clear h
  unfold impl_setBits.f at H
  have H' := Aside0.mk H
  clear H
  obtain ⟨Ao4, co4, eo4⟩ := Kd.R_slice HO0_2.1
  subst eo4
  go_enter Try.func76, Try.ntmps76
  go_wp2_with (first | ((with_reducible refine gate_dst (N := 3) rfl ?_); refine boxE (cs := #[.int .i64 a0_0, .int .i64 a0_1, .slice Ao4 l0_2.length co4]) (t := 30) ?_; intro gb459 hg w5 hbox hb; refine E6 (Kd.R_below (PR HO0_2.1) hb) (Kept.below (S := (fun k_ => P0_2_ k_)) (KL HK.1) hb) (below_step (BL HB.1) hb) (hbox) ((by rw [hg]; exact (by first | exact HK.1.1 | exact (show Kept w _ (fun k_ => P0_2_ k_) from KL HK.1).1) : w.heap.size ≤ gb459)) (gwM hg (below_size (BL HB.1)) : w0.heap.size ≤ gb459) ?_; clear HO0_2 HK HB; intro HO0_2 HK HB BK459 GW459 GE459; clear hb hbox hg))
  go_loopg [12] k (fun kq v12 w' => ∃ (x12_1 : Int) (x460002_1 : List (S83)), v12 = .int .i64 x12_1 ∧ Aside0 (impl_setBits.l0 kq l2 l1 (l1.length : Int) x12_1 a0_0 a0_1 x460002_1 = some r) ∧ Aside0 (kq ≤ k) ∧ Aside0 (Kd.R k83 83 w' w0.heap.size (fun k_ => (P0_2_ k_ ∨ w.heap.size ≤ k_)) (.slice Ao4 l0_2.length co4) x460002_1) ∧ Aside0 (w'.heap[gb459]? = some (.cells #[.int .i64 a0_0, .int .i64 a0_1, (.slice Ao4 l0_2.length co4)] 30 (0, 0))) ∧ Aside0 (Kept w w' (fun k_ => P0_2_ k_)) ∧ Aside0 (Below w0.heap.size w0 w'))
  case atStart => exact ⟨(0), (l0_2), RG, H', ⟨Nat.le_refl _⟩, ⟨PR HO0_2.1⟩, ⟨PB BK459.1⟩, ⟨KL HK.1⟩, ⟨BL HB.1⟩⟩
  clear H'
  try clear c1; try clear c2
  obtain ⟨x12_1, x460002_1, rfl, HA, HK1, HO_460002, BK459, HK, HB⟩ := hrel
  have hl460002_1 := (Kd.R_reads' HO_460002.1).1
  rw [hl460002_1] at HO_460002
  (try simp only [hl460002_1])
  (try simp only [hl460002_1] at BK459)
  cases gk with
  | zero => exact absurd HA.1 (by simp [impl_setBits.l0])
  | succ k1 => ?_
  have H := HA.1
  clear HA
  simp only [impl_setBits.l0] at H
  replace H := ifB H; rcases H with ⟨c6b0, H⟩ | ⟨c6b0, H⟩
  · replace H := ifN H; obtain ⟨c7b0, H⟩ := H
    replace H := ifN H; obtain ⟨c8b0, H⟩ := H
    replace H := ifP H; obtain ⟨c9, H⟩ := H
    have c9b0 := decide_eq_true c9
    have c9b1 : decide (0 < (rd_L3 l1 x12_1).length) = true := decide_eq_true (by omega)
    clear c9
    replace H := ifN H; obtain ⟨c10b0, H⟩ := H
    replace H := ifN H; obtain ⟨c11b0, H⟩ := H
    replace H := ifN H; obtain ⟨c12b0, H⟩ := H
    replace H := ifQ H; rcases H with ⟨c13, H⟩ | ⟨c13, H⟩
    · have c13b0 := beq_iff_eq.mpr c13
      have c13b1 := bne_eq_false_iff_eq.mpr c13
      clear c13
      have H' := Aside0.mk H
      clear H
      have p460 : 0 ≤ (x12_1 : Int) := OD
      have q460 : x12_1 < (l1.length : Int) := OD
      obtain ⟨ad460, A460_0, c460_0, e460, hx460_0, hl460_0, hi460_0⟩ := at_L3 (Kd.C_kept_now HR1.1 HK.1) x12_1 p460 q460
      cases e460
      have HR460_0 := Aside0.mk hi460_0
      have HS460_0 := Aside0.mk (foot_inner3 HR1.1 HK.1 p460 q460 hx460_0)
      have HC460_0 := Aside0.mk hl460_0
      clear hi460_0 hl460_0
      replace p460 := eq_true p460
      replace q460 := eq_true q460
      try go_wp2
      refine E5 (Kd.R_drew HO_460002.1) (blk_drew BK459.1) (Kd.C_drew HR460_0.1) (Kept.drew HK.1) (below_drew1 HB.1) ?_
      clear HO_460002 BK459 HR460_0 HK HB
      intro HO_460002 BK459 HR460_0 HK HB
      have p461 : 0 ≤ (0 : Int) := (by omega)
      have q461 : 0 < ((rd_L3 l1 x12_1).length : Int) := OD
      obtain ⟨ad461, e461, hx461_0⟩ := Kd.at_int (by repeat (first | (with_reducible exact HR460_0.1) | (with_reducible refine Kd.C_alloc ?_ _) | (with_reducible refine Kd.C_drewN ?_ _) | (with_reducible refine Kd.C_drew ?_) | exact HR460_0.1)) 0 p461 q461
      cases e461
      have qi461 : (0 < (rd_L3 l1 x12_1).length) = True := eq_true (by omega)
      (try rw [show ((0 : Int)).toNat = 0 from rfl] at hx461_0)
      (try rw [Addr.add_zero'] at hx461_0)
      replace p461 := eq_true p461
      replace q461 := eq_true q461
      have p462 : 0 ≤ ((rd (rd_L3 l1 x12_1) 0) : Int) := OD
      have q462 : (rd (rd_L3 l1 x12_1) 0) < (x460002_1.length : Int) := OD
      obtain ⟨ad462, e462, hx462_0, hx462_1⟩ := at_T83 (Kd.R_reads' HO_460002.1).2.2 (rd (rd_L3 l1 x12_1) 0) p462 q462
      cases e462
      replace p462 := eq_true p462
      replace q462 := eq_true q462
      have p463 : 0 ≤ (x12_1 : Int) := OD
      have q463 : x12_1 < (l2.length : Int) := OD
      obtain ⟨ad463, e463, hx463_0⟩ := Kd.at_int (Kd.C_kept_now HR2.1 HK.1) x12_1 p463 q463
      have hw463_0 := hx463_0
      cases e463
      replace p463 := eq_true p463
      replace q463 := eq_true q463
      refine start_ (n := 13) (S := fun w' => w'.cell? ⟨gb459, 0, none⟩ = some (.int .i64 a0_0) ∧ w'.cell? ⟨gb459, 1, none⟩ = some (.int .i64 a0_1) ∧ w'.cell? ⟨gb459, 2, none⟩ = some (.slice (some ad462) x460002_1.length co4) ∧ w'.cell? ad461 = some (.int .i64 (rd (rd_L3 l1 x12_1) 0)) ∧ w'.cell? (ad462.add (((rd (rd_L3 l1 x12_1) 0)).toNat * 2)) = some (.int .i64 ((rd_T83 x460002_1 (rd (rd_L3 l1 x12_1) 0)).f0)) ∧ w'.cell? ⟨(ad462.add (((rd (rd_L3 l1 x12_1) 0)).toNat * 2)).block, (ad462.add (((rd (rd_L3 l1 x12_1) 0)).toNat * 2)).off + 1, none⟩ = some (.int .i64 ((rd_T83 x460002_1 (rd (rd_L3 l1 x12_1) 0)).f1)) ∧ w'.cell? (ad463.add (x12_1).toNat) = some (.int .i64 (rd l2 x12_1))) (ds := []) #[Zz,Zz,Zz,Zz,Zz,Zz,Zz,Zz,Zz,Zz,Zz,Zz,Zz] (by kernel_rfl) rfl rfl ⟨(blk_cell BK459.1 0).trans rfl, (blk_cell BK459.1 1).trans rfl, (blk_cell BK459.1 2).trans rfl, hx461_0, hx462_0, hx462_1, (Kd.foot_int (HR2.1 _ (by repeat (first | exact HK.1 | apply Kept.alloc | apply Kept.drewN | apply Kept.drew))) x12_1 (of_eq_true p463) (of_eq_true q463))⟩ (fun hHeld => ?_); refine with_tabW impl_setBits.tab4 impl_setBits.bits4 (fun HT_ HW_ => ?_)
      generalize wr.drew = w14 at HO_460002 BK459 HR460_0 HK HB hx461_0 hx462_0 hx462_1 hx463_0 hHeld ⊢
      refine pureE (i := 0) (N := some 17) #[Yy,Zz,Zz,Zz,Zz,Zz,Zz,Zz,Zz,Zz,Zz,Zz,Zz] HT_.1 ?_
      refine pureE (i := 2) (N := some 19) #[Yy,Zz,Yy,Zz,Zz,Zz,Zz,Zz,Zz,Zz,Zz,Zz,Zz] HT_.1 ?_
      refine pureE (i := 3) (N := some 20) #[Yy,Zz,Yy,Yy,Zz,Zz,Zz,Zz,Zz,Zz,Zz,Zz,Zz] HT_.1 ?_
      refine pureE (i := 8) (N := some 25) #[Yy,Zz,Yy,Yy,Zz,Zz,Zz,Zz,Yy,Zz,Zz,Zz,Zz] HT_.1 ?_
      refine pureE (i := 9) (N := some 26) #[Yy,Zz,Yy,Yy,Zz,Zz,Zz,Zz,Yy,Yy,Zz,Zz,Zz] HT_.1 ?_
      refine pureE (i := 10) (N := some 27) #[Yy,Zz,Yy,Yy,Zz,Zz,Zz,Zz,Yy,Yy,Yy,Zz,Zz] HT_.1 ?_
      refine take_ (i := 1) (N := some 18) (v := ?_) (a' := ?_) #[Yy,Yy,Yy,Yy,Zz,Zz,Zz,Zz,Yy,Yy,Yy,Zz,Zz] rfl rfl (take_ofW HT_.1 HW_.1 (by kernel_rfl)) (fun _ _ _ h => h) (Or.inl ⟨by rfl, ?_⟩) hHeld ?_ ?_
      rotate_left
      · rintro w' ⟨s0, s1, s2, s3, s4, s5, s6⟩
        go_simp
        with_reducible rfl
      rotate_left
      · simp only [Act.put, List.setIfInBounds_toArray, List.set_cons_zero, List.set_cons_succ, i64_w, i32_w]
        rfl
      refine take_ (i := 4) (N := some 21) (v := ?_) (a' := ?_) #[Yy,Yy,Yy,Yy,Yy,Zz,Zz,Zz,Yy,Yy,Yy,Zz,Zz] rfl rfl (take_ofW HT_.1 HW_.1 (by kernel_rfl)) (fun _ _ _ h => h) (Or.inl ⟨by rfl, ?_⟩) hHeld ?_ ?_
      rotate_left
      · rintro w' ⟨s0, s1, s2, s3, s4, s5, s6⟩
        go_simp
        with_reducible rfl
      rotate_left
      · simp only [Act.put, List.setIfInBounds_toArray, List.set_cons_zero, List.set_cons_succ, i64_w, i32_w]
        rfl
      refine pureE (i := 5) (N := some 22) #[Yy,Yy,Yy,Yy,Yy,Yy,Zz,Zz,Yy,Yy,Yy,Zz,Zz] HT_.1 ?_
      refine pureE (i := 6) (N := some 23) #[Yy,Yy,Yy,Yy,Yy,Yy,Yy,Zz,Yy,Yy,Yy,Zz,Zz] HT_.1 ?_
      refine take_ (i := 7) (N := some 24) (v := ?_) (a' := ?_) #[Yy,Yy,Yy,Yy,Yy,Yy,Yy,Yy,Yy,Yy,Yy,Zz,Zz] rfl rfl (take_ofW HT_.1 HW_.1 (by kernel_rfl)) (fun _ _ _ h => h) (Or.inl ⟨by rfl, ?_⟩) hHeld ?_ ?_
      rotate_left
      · rintro w' ⟨s0, s1, s2, s3, s4, s5, s6⟩
        go_simp
        with_reducible rfl
      rotate_left
      · simp only [Act.put, List.setIfInBounds_toArray, List.set_cons_zero, List.set_cons_succ, i64_w, i32_w]
        rfl
      refine take_ (i := 11) (N := some 28) (v := ?_) (a' := ?_) #[Yy,Yy,Yy,Yy,Yy,Yy,Yy,Yy,Yy,Yy,Yy,Yy,Zz] rfl rfl (take_ofW HT_.1 HW_.1 (by kernel_rfl)) (fun _ _ _ h => h) (Or.inl ⟨by rfl, ?_⟩) hHeld ?_ ?_
      rotate_left
      · rintro w' ⟨s0, s1, s2, s3, s4, s5, s6⟩
        go_simp
        with_reducible rfl
      rotate_left
      · simp only [Act.put, List.setIfInBounds_toArray, List.set_cons_zero, List.set_cons_succ, i64_w, i32_w]
        rfl
      refine pureE (i := 12) (N := some 29) #[Yy,Yy,Yy,Yy,Yy,Yy,Yy,Yy,Yy,Yy,Yy,Yy,Yy] HT_.1 ?_
      refine done_ (done_of HT_.1 (by kernel_rfl)) ?_
      try go_wp2
      (try simp only [← hl460002_1])
      go_roundg k1
      case measure => have := HK1.1; omega
      case rel => exact ⟨(wrap64 (x12_1 + 1)), (x460002_1), RG, H', ⟨by have := HK1.1; omega⟩, ⟨PR1 HO_460002.1 hl460002_1⟩, ⟨PB1 BK459.1 hl460002_1⟩, ⟨KL HK.1⟩, ⟨BL HB.1⟩⟩
    have c13b0 := beq_eq_false_iff_ne.mpr c13
    have c13b1 := bne_iff_ne.mpr c13
    have H' := Aside0.mk H
    clear H
    have p460 : 0 ≤ (x12_1 : Int) := OD
    have q460 : x12_1 < (l1.length : Int) := OD
    obtain ⟨ad460, A460_0, c460_0, e460, hx460_0, hl460_0, hi460_0⟩ := at_L3 (Kd.C_kept_now HR1.1 HK.1) x12_1 p460 q460
    cases e460
    have HR460_0 := Aside0.mk hi460_0
    have HS460_0 := Aside0.mk (foot_inner3 HR1.1 HK.1 p460 q460 hx460_0)
    have HC460_0 := Aside0.mk hl460_0
    clear hi460_0 hl460_0
    replace p460 := eq_true p460
    replace q460 := eq_true q460
    try go_wp2
    refine E5 (Kd.R_drew HO_460002.1) (blk_drew BK459.1) (Kd.C_drew HR460_0.1) (Kept.drew HK.1) (below_drew1 HB.1) ?_
    clear HO_460002 BK459 HR460_0 HK HB
    intro HO_460002 BK459 HR460_0 HK HB
    have p461 : 0 ≤ (0 : Int) := (by omega)
    have q461 : 0 < ((rd_L3 l1 x12_1).length : Int) := OD
    obtain ⟨ad461, e461, hx461_0⟩ := Kd.at_int (by repeat (first | (with_reducible exact HR460_0.1) | (with_reducible refine Kd.C_alloc ?_ _) | (with_reducible refine Kd.C_drewN ?_ _) | (with_reducible refine Kd.C_drew ?_) | exact HR460_0.1)) 0 p461 q461
    cases e461
    have qi461 : (0 < (rd_L3 l1 x12_1).length) = True := eq_true (by omega)
    (try rw [show ((0 : Int)).toNat = 0 from rfl] at hx461_0)
    (try rw [Addr.add_zero'] at hx461_0)
    replace p461 := eq_true p461
    replace q461 := eq_true q461
    have p462 : 0 ≤ ((rd (rd_L3 l1 x12_1) 0) : Int) := OD
    have q462 : (rd (rd_L3 l1 x12_1) 0) < (x460002_1.length : Int) := OD
    obtain ⟨ad462, e462, hx462_0, hx462_1⟩ := at_T83 (Kd.R_reads' HO_460002.1).2.2 (rd (rd_L3 l1 x12_1) 0) p462 q462
    cases e462
    replace p462 := eq_true p462
    replace q462 := eq_true q462
    have p463 : 0 ≤ (x12_1 : Int) := OD
    have q463 : x12_1 < (l2.length : Int) := OD
    obtain ⟨ad463, e463, hx463_0⟩ := Kd.at_int (Kd.C_kept_now HR2.1 HK.1) x12_1 p463 q463
    have hw463_0 := hx463_0
    cases e463
    replace p463 := eq_true p463
    replace q463 := eq_true q463
    refine start_ (n := 13) (S := fun w' => w'.cell? ⟨gb459, 0, none⟩ = some (.int .i64 a0_0) ∧ w'.cell? ⟨gb459, 1, none⟩ = some (.int .i64 a0_1) ∧ w'.cell? ⟨gb459, 2, none⟩ = some (.slice (some ad462) x460002_1.length co4) ∧ w'.cell? ad461 = some (.int .i64 (rd (rd_L3 l1 x12_1) 0)) ∧ w'.cell? (ad462.add (((rd (rd_L3 l1 x12_1) 0)).toNat * 2)) = some (.int .i64 ((rd_T83 x460002_1 (rd (rd_L3 l1 x12_1) 0)).f0)) ∧ w'.cell? ⟨(ad462.add (((rd (rd_L3 l1 x12_1) 0)).toNat * 2)).block, (ad462.add (((rd (rd_L3 l1 x12_1) 0)).toNat * 2)).off + 1, none⟩ = some (.int .i64 ((rd_T83 x460002_1 (rd (rd_L3 l1 x12_1) 0)).f1)) ∧ w'.cell? (ad463.add (x12_1).toNat) = some (.int .i64 (rd l2 x12_1))) (ds := []) #[Zz,Zz,Zz,Zz,Zz,Zz,Zz,Zz,Zz,Zz,Zz,Zz,Zz] (by kernel_rfl) rfl rfl ⟨(blk_cell BK459.1 0).trans rfl, (blk_cell BK459.1 1).trans rfl, (blk_cell BK459.1 2).trans rfl, hx461_0, hx462_0, hx462_1, (Kd.foot_int (HR2.1 _ (by repeat (first | exact HK.1 | apply Kept.alloc | apply Kept.drewN | apply Kept.drew))) x12_1 (of_eq_true p463) (of_eq_true q463))⟩ (fun hHeld => ?_); refine with_tabW impl_setBits.tab4 impl_setBits.bits4 (fun HT_ HW_ => ?_)
    generalize wr.drew = w15 at HO_460002 BK459 HR460_0 HK HB hx461_0 hx462_0 hx462_1 hx463_0 hHeld ⊢
    refine pureE (i := 0) (N := some 17) #[Yy,Zz,Zz,Zz,Zz,Zz,Zz,Zz,Zz,Zz,Zz,Zz,Zz] HT_.1 ?_
    refine pureE (i := 2) (N := some 19) #[Yy,Zz,Yy,Zz,Zz,Zz,Zz,Zz,Zz,Zz,Zz,Zz,Zz] HT_.1 ?_
    refine pureE (i := 3) (N := some 20) #[Yy,Zz,Yy,Yy,Zz,Zz,Zz,Zz,Zz,Zz,Zz,Zz,Zz] HT_.1 ?_
    refine pureE (i := 8) (N := some 25) #[Yy,Zz,Yy,Yy,Zz,Zz,Zz,Zz,Yy,Zz,Zz,Zz,Zz] HT_.1 ?_
    refine pureE (i := 9) (N := some 26) #[Yy,Zz,Yy,Yy,Zz,Zz,Zz,Zz,Yy,Yy,Zz,Zz,Zz] HT_.1 ?_
    refine pureE (i := 10) (N := some 27) #[Yy,Zz,Yy,Yy,Zz,Zz,Zz,Zz,Yy,Yy,Yy,Zz,Zz] HT_.1 ?_
    refine take_ (i := 1) (N := some 18) (v := ?_) (a' := ?_) #[Yy,Yy,Yy,Yy,Zz,Zz,Zz,Zz,Yy,Yy,Yy,Zz,Zz] rfl rfl (take_ofW HT_.1 HW_.1 (by kernel_rfl)) (fun _ _ _ h => h) (Or.inl ⟨by rfl, ?_⟩) hHeld ?_ ?_
    rotate_left
    · rintro w' ⟨s0, s1, s2, s3, s4, s5, s6⟩
      go_simp
      with_reducible rfl
    rotate_left
    · simp only [Act.put, List.setIfInBounds_toArray, List.set_cons_zero, List.set_cons_succ, i64_w, i32_w]
      rfl
    refine take_ (i := 4) (N := some 21) (v := ?_) (a' := ?_) #[Yy,Yy,Yy,Yy,Yy,Zz,Zz,Zz,Yy,Yy,Yy,Zz,Zz] rfl rfl (take_ofW HT_.1 HW_.1 (by kernel_rfl)) (fun _ _ _ h => h) (Or.inl ⟨by rfl, ?_⟩) hHeld ?_ ?_
    rotate_left
    · rintro w' ⟨s0, s1, s2, s3, s4, s5, s6⟩
      go_simp
      with_reducible rfl
    rotate_left
    · simp only [Act.put, List.setIfInBounds_toArray, List.set_cons_zero, List.set_cons_succ, i64_w, i32_w]
      rfl
    refine pureE (i := 5) (N := some 22) #[Yy,Yy,Yy,Yy,Yy,Yy,Zz,Zz,Yy,Yy,Yy,Zz,Zz] HT_.1 ?_
    refine pureE (i := 6) (N := some 23) #[Yy,Yy,Yy,Yy,Yy,Yy,Yy,Zz,Yy,Yy,Yy,Zz,Zz] HT_.1 ?_
    refine take_ (i := 7) (N := some 24) (v := ?_) (a' := ?_) #[Yy,Yy,Yy,Yy,Yy,Yy,Yy,Yy,Yy,Yy,Yy,Zz,Zz] rfl rfl (take_ofW HT_.1 HW_.1 (by kernel_rfl)) (fun _ _ _ h => h) (Or.inl ⟨by rfl, ?_⟩) hHeld ?_ ?_
    rotate_left
    · rintro w' ⟨s0, s1, s2, s3, s4, s5, s6⟩
      go_simp
      with_reducible rfl
    rotate_left
    · simp only [Act.put, List.setIfInBounds_toArray, List.set_cons_zero, List.set_cons_succ, i64_w, i32_w]
      rfl
    refine take_ (i := 11) (N := some 28) (v := ?_) (a' := ?_) #[Yy,Yy,Yy,Yy,Yy,Yy,Yy,Yy,Yy,Yy,Yy,Yy,Zz] rfl rfl (take_ofW HT_.1 HW_.1 (by kernel_rfl)) (fun _ _ _ h => h) (Or.inl ⟨by rfl, ?_⟩) hHeld ?_ ?_
    rotate_left
    · rintro w' ⟨s0, s1, s2, s3, s4, s5, s6⟩
      go_simp
      with_reducible rfl
    rotate_left
    · simp only [Act.put, List.setIfInBounds_toArray, List.set_cons_zero, List.set_cons_succ, i64_w, i32_w]
      rfl
    refine pureE (i := 12) (N := some 29) #[Yy,Yy,Yy,Yy,Yy,Yy,Yy,Yy,Yy,Yy,Yy,Yy,Yy] HT_.1 ?_
    refine done_ (done_of HT_.1 (by kernel_rfl)) ?_
    try go_wp2
    generalize Value.pointer (some ⟨(ad462.add (((rd (rd_L3 l1 x12_1) 0)).toNat * 2)).block, (ad462.add (((rd (rd_L3 l1 x12_1) 0)).toNat * 2)).off + 1, none⟩) = p23_
    generalize Value.pointer (some (ad462.add (((rd (rd_L3 l1 x12_1) 0)).toNat * 2))) = p22_
    go_loopg [32] k1 (fun kq v32 w' => ∃ (x32_2 : Int) (x460002_2 : List (S83)), v32 = .int .i64 x32_2 ∧ Aside0 (impl_setBits.l1 kq l2 l1 (l1.length : Int) x12_1 (rd_L3 l1 x12_1) ((rd_L3 l1 x12_1).length : Int) x32_2 a0_0 a0_1 x460002_2 = some r) ∧ Aside0 (kq ≤ k1) ∧ Aside0 (Kd.R k83 83 w' w0.heap.size (fun k_ => (P0_2_ k_ ∨ w.heap.size ≤ k_)) (.slice (some ad462) x460002_1.length co4) x460002_2) ∧ Aside0 (w'.heap[gb459]? = some (.cells #[.int .i64 a0_0, .int .i64 a0_1, (.slice (some ad462) x460002_1.length co4)] 30 (0, 0))) ∧ Aside0 (Kd.C (Kd.int .i64) w' (some ad461) (rd_L3 l1 x12_1).length (rd_L3 l1 x12_1)) ∧ Aside0 (Kept w w' (fun k_ => P0_2_ k_)) ∧ Aside0 (Below w0.heap.size w0 w'))
    case atStart => exact ⟨(0), (x460002_1), RG, H', ⟨Nat.le_refl _⟩, ⟨PR1 HO_460002.1 hl460002_1⟩, ⟨PB1 BK459.1 hl460002_1⟩, ⟨by repeat (first | (with_reducible exact HR460_0.1) | (with_reducible refine Kd.C_alloc ?_ _) | (with_reducible refine Kd.C_drewN ?_ _) | (with_reducible refine Kd.C_drew ?_) | exact HR460_0.1)⟩, ⟨KL HK.1⟩, ⟨BL HB.1⟩⟩
    clear H'
    try clear c6b0; try clear c7b0; try clear c8b0; try clear c9b0; try clear c9b1; try clear c10b0; try clear c11b0; try clear c12b0; try clear c13; try clear c13b0; try clear c13b1; try clear hx460_0; try clear hx461_0; try clear hx462_0; try clear hx462_1; try clear hx463_0; try clear p460; try clear p461; try clear p462; try clear p463; try clear q460; try clear q461; try clear q462; try clear q463
    obtain ⟨x32_2, x460002_2, rfl, HA, HK2, HO_460002, BK459, HR460_0, HK, HB⟩ := hrel
    have hl460002_2 := (Kd.R_reads' HO_460002.1).1
    rw [hl460002_2] at HO_460002
    (try simp only [hl460002_2])
    (try simp only [hl460002_2] at BK459)
    cases gk with
    | zero => exact absurd HA.1 (by simp [impl_setBits.l1])
    | succ k2 => ?_
    have H := HA.1
    clear HA
    simp only [impl_setBits.l1] at H
    replace H := ifB H; rcases H with ⟨c16b0, H⟩ | ⟨c16b0, H⟩
    · replace H := ifN H; obtain ⟨c17b0, H⟩ := H
      replace H := ifN H; obtain ⟨c18b0, H⟩ := H
      replace H := ifN H; obtain ⟨c19b0, H⟩ := H
      replace H := ifN H; obtain ⟨c20b0, H⟩ := H
      generalize hy466 : ((x460002_2.set ((rd (rd_L3 l1 x12_1) x32_2) : Int).toNat (⟨(rd_T83 x460002_2 (rd (rd_L3 l1 x12_1) x32_2)).f0, wrap64 (1 - ((rd_T83 x460002_2 (rd (rd_L3 l1 x12_1) x32_2)).f1))⟩ : S83)) : List (S83)) = y466 at H
      have Ny466 := Aside0.mk hy466.symm; clear hy466
      have H' := Aside0.mk H
      clear H
      have p464 : 0 ≤ (x32_2 : Int) := OD
      have q464 : x32_2 < ((rd_L3 l1 x12_1).length : Int) := OD
      obtain ⟨ad464, e464, hx464_0⟩ := Kd.at_int HR460_0.1 x32_2 p464 q464
      obtain rfl : ad461 = ad464 := (by injection e464)
      replace p464 := eq_true p464
      replace q464 := eq_true q464
      try go_wp2
      refine E5 (Kd.R_drew HO_460002.1) (blk_drew BK459.1) (Kd.C_drew HR460_0.1) (Kept.drew HK.1) (below_drew1 HB.1) ?_
      clear HO_460002 BK459 HR460_0 HK HB
      intro HO_460002 BK459 HR460_0 HK HB
      have p465 : 0 ≤ ((rd (rd_L3 l1 x12_1) x32_2) : Int) := OD
      have q465 : (rd (rd_L3 l1 x12_1) x32_2) < (x460002_2.length : Int) := OD
      obtain ⟨ad465, e465, hx465_0, hx465_1⟩ := at_T83 (Kd.R_reads' HO_460002.1).2.2 (rd (rd_L3 l1 x12_1) x32_2) p465 q465
      obtain rfl : ad462 = ad465 := (by injection e465)
      replace p465 := eq_true p465
      replace q465 := eq_true q465
      have p21 : 0 ≤ ((rd (rd_L3 l1 x12_1) x32_2) : Int) := OD
      have q21 : ((rd (rd_L3 l1 x12_1) x32_2) : Int) < ((x460002_2.length : Int) : Int) := OD
      obtain ⟨go21, co21, eo21, gb21, gl21, cl21, HG21⟩ := Kd.R_form HO_460002.1 (by omega)
      (first | cases eo21 | (injection eo21 with ea_ en_ ec_; (first | subst ea_ | (injection ea_ with ea_; subst ea_)); subst ec_; clear en_))
      have GB21 := Aside0.mk gb21
      have GG21 := Aside0.mk HG21
      clear gb21 gl21 HG21
      have HMgo21 := Aside0.mk (show (P0_2_ go21 ∨ w.heap.size ≤ go21) from (HO_460002.1.1 _ rfl))
      (first | simp only [add_plain] at hx462_0 | skip)
      (first | simp only [add_plain] at hx462_1 | skip)
      (first | simp only [add_plain] at hx465_0 | skip)
      (first | simp only [add_plain] at hx465_1 | skip)
      obtain ⟨ce21, hcl21, hM21, hcc21, hfr21⟩ := Kd.R_elem HO_460002.1 z83 ((rd (rd_L3 l1 x12_1) x32_2) : Int) p21 q21
      obtain rfl := k83_openM hM21
      have hx21_0 : World.cell? _ ⟨go21, ((rd (rd_L3 l1 x12_1) x32_2) : Int).toNat * 2, none⟩ = some (.int .i64 ((rd_T83 x460002_2 (rd (rd_L3 l1 x12_1) x32_2)).f0)) := hcc21 0 _ rfl
      have hx21_1 : World.cell? _ ⟨go21, ((rd (rd_L3 l1 x12_1) x32_2) : Int).toNat * 2 + 1, none⟩ = some (.int .i64 ((rd_T83 x460002_2 (rd (rd_L3 l1 x12_1) x32_2)).f1)) := hcc21 1 _ rfl
      have hf21_0 : World.frozen? _ ⟨go21, ((rd (rd_L3 l1 x12_1) x32_2) : Int).toNat * 2, none⟩ = false := hfr21 0
      have hf21_1 : World.frozen? _ ⟨go21, ((rd (rd_L3 l1 x12_1) x32_2) : Int).toNat * 2 + 1, none⟩ = false := hfr21 1
      (try clear hM21); clear hcl21 hcc21 hfr21
      replace p21 := eq_true p21
      replace q21 := eq_true q21
      obtain ⟨ce23, hcl23, hM23, hcc23, hfr23⟩ := Kd.R_elem HO_460002.1 z83 ((rd (rd_L3 l1 x12_1) x32_2) : Int) (OD) (by have h_ : ((rd (rd_L3 l1 x12_1) x32_2) : Int) < ((x460002_2.length : Int) : Int) := OD; first | exact h_ | (have e_ := (Kd.R_reads' HO_460002.1).1; omega) | simpa using h_)
      obtain rfl := k83_openM hM23
      have HP23 := (Kd.R_seg HO_460002.1 ((rd (rd_L3 l1 x12_1) x32_2) : Int) (OD) (by have h_ : ((rd (rd_L3 l1 x12_1) x32_2) : Int) < ((x460002_2.length : Int) : Int) := OD; first | exact h_ | (have e_ := (Kd.R_reads' HO_460002.1).1; omega) | simpa using h_) (seg := [.int .i64 (wrap64 (1 - ((rd_T83 x460002_2 (rd (rd_L3 l1 x12_1) x32_2)).f1)))]) (j := 1) hcl23 hcc23 (show 2 ≤ 2 from by decide) (x' := (⟨(rd_T83 x460002_2 (rd (rd_L3 l1 x12_1) x32_2)).f0, wrap64 (1 - ((rd_T83 x460002_2 (rd (rd_L3 l1 x12_1) x32_2)).f1))⟩ : S83)) (k83_mkM _ _ _ (⟨(rd_T83 x460002_2 (rd (rd_L3 l1 x12_1) x32_2)).f0, wrap64 (1 - ((rd_T83 x460002_2 (rd (rd_L3 l1 x12_1) x32_2)).f1))⟩ : S83) ) (fun _ hk => hk)).1
      rw [← Ny466.1] at HP23
      have HQ23 := Aside0.mk HP23
      (try clear hM23); clear hcl23 hcc23 hfr23 HP23
      refine start_ (n := 13) (S := fun w' => w'.cell? ⟨gb459, 0, none⟩ = some (.int .i64 a0_0) ∧ w'.cell? ⟨gb459, 1, none⟩ = some (.int .i64 a0_1) ∧ w'.cell? ⟨gb459, 2, none⟩ = some (.slice (some ⟨go21, 0, none⟩) x460002_2.length co4) ∧ w'.cell? ⟨go21, ((rd (rd_L3 l1 x12_1) x32_2)).toNat * 2, none⟩ = some (.int .i64 ((rd_T83 x460002_2 (rd (rd_L3 l1 x12_1) x32_2)).f0)) ∧ w'.cell? ⟨go21, ((rd (rd_L3 l1 x12_1) x32_2)).toNat * 2 + 1, none⟩ = some (.int .i64 ((rd_T83 x460002_2 (rd (rd_L3 l1 x12_1) x32_2)).f1))) (ds := [12]) #[Zz,Zz,Zz,Zz,Zz,Zz,Zz,Zz,Zz,Zz,Zz,Zz,Zz] (by kernel_rfl) rfl rfl ⟨(blk_cell BK459.1 0).trans rfl, (blk_cell BK459.1 1).trans rfl, (blk_cell BK459.1 2).trans rfl, hx465_0, hx465_1⟩ (fun hHeld => ?_); refine with_tabW impl_setBits.tab8 impl_setBits.bits8 (fun HT_ HW_ => ?_)
      generalize wr.drew = w22 at HO_460002 BK459 HR460_0 HK HB GG21 HQ23 hf21_0 hf21_1 hx21_0 hx21_1 hx465_0 hx465_1 hHeld ⊢
      refine pureE (i := 0) (N := some 36) #[Yy,Zz,Zz,Zz,Zz,Zz,Zz,Zz,Zz,Zz,Zz,Zz,Zz] HT_.1 ?_
      refine pureE (i := 2) (N := some 38) #[Yy,Zz,Yy,Zz,Zz,Zz,Zz,Zz,Zz,Zz,Zz,Zz,Zz] HT_.1 ?_
      refine pureE (i := 3) (N := some 39) #[Yy,Zz,Yy,Yy,Zz,Zz,Zz,Zz,Zz,Zz,Zz,Zz,Zz] HT_.1 ?_
      refine pureE (i := 5) (N := some 41) #[Yy,Zz,Yy,Yy,Zz,Yy,Zz,Zz,Zz,Zz,Zz,Zz,Zz] HT_.1 ?_
      refine take_ (i := 1) (N := some 37) (v := ?_) (a' := ?_) #[Yy,Yy,Yy,Yy,Zz,Yy,Zz,Zz,Zz,Zz,Zz,Zz,Zz] rfl rfl (take_ofW HT_.1 HW_.1 (by kernel_rfl)) (fun _ _ _ h => h) (Or.inl ⟨by rfl, ?_⟩) hHeld ?_ ?_
      rotate_left
      · rintro w' ⟨s0, s1, s2, s3, s4⟩
        go_simp
        with_reducible rfl
      rotate_left
      · simp only [Act.put, List.setIfInBounds_toArray, List.set_cons_zero, List.set_cons_succ, i64_w, i32_w]
        rfl
      refine take_ (i := 4) (N := some 40) (v := ?_) (a' := ?_) #[Yy,Yy,Yy,Yy,Yy,Yy,Zz,Zz,Zz,Zz,Zz,Zz,Zz] rfl rfl (take_ofW HT_.1 HW_.1 (by kernel_rfl)) (fun _ _ _ h => h) (Or.inl ⟨by rfl, ?_⟩) hHeld ?_ ?_
      rotate_left
      · rintro w' ⟨s0, s1, s2, s3, s4⟩
        go_simp
        with_reducible rfl
      rotate_left
      · simp only [Act.put, List.setIfInBounds_toArray, List.set_cons_zero, List.set_cons_succ, i64_w, i32_w]
        rfl
      refine pureE (i := 6) (N := some 42) #[Yy,Yy,Yy,Yy,Yy,Yy,Yy,Zz,Zz,Zz,Zz,Zz,Zz] HT_.1 ?_
      refine pureE (i := 7) (N := some 43) #[Yy,Yy,Yy,Yy,Yy,Yy,Yy,Yy,Zz,Zz,Zz,Zz,Zz] HT_.1 ?_
      refine take_ (i := 8) (N := some 44) (v := ?_) (a' := ?_) #[Yy,Yy,Yy,Yy,Yy,Yy,Yy,Yy,Yy,Zz,Zz,Zz,Zz] rfl rfl (take_ofW HT_.1 HW_.1 (by kernel_rfl)) (fun _ _ _ h => h) (Or.inl ⟨by rfl, ?_⟩) hHeld ?_ ?_
      rotate_left
      · rintro w' ⟨s0, s1, s2, s3, s4⟩
        go_simp
        with_reducible rfl
      rotate_left
      · simp only [Act.put, List.setIfInBounds_toArray, List.set_cons_zero, List.set_cons_succ, i64_w, i32_w]
        rfl
      refine pureE (i := 9) (N := some 45) #[Yy,Yy,Yy,Yy,Yy,Yy,Yy,Yy,Yy,Yy,Zz,Zz,Zz] HT_.1 ?_
      refine pureE (i := 10) (N := some 46) #[Yy,Yy,Yy,Yy,Yy,Yy,Yy,Yy,Yy,Yy,Yy,Zz,Zz] HT_.1 ?_
      refine pureE (i := 11) (N := some 47) #[Yy,Yy,Yy,Yy,Yy,Yy,Yy,Yy,Yy,Yy,Yy,Yy,Zz] HT_.1 ?_
      refine last_ (i := 12) (N := none) #[Yy,Yy,Yy,Yy,Yy,Yy,Yy,Yy,Yy,Yy,Yy,Yy,Yy] rfl rfl (one_of HT_.1 (by kernel_rfl)) (by decide) (fun K hK => ?_)
      refine skip_ (w1 := ?_) (by rfl) rfl ?_ ?_
      rotate_left
      · go_simp
        rfl
      refine hK.out _ _ ?_
      clear hK K
      refine done_ (done_of HT_.1 (by kernel_rfl)) ?_
      try go_wp2
      (try simp only [← hl460002_2])
      go_roundg k2
      case measure => have := HK1.1; have := HK2.1; omega
      case rel => exact ⟨(wrap64 (x32_2 + 1)), (y466), RG, H', ⟨by have := HK1.1; have := HK2.1; omega⟩, ⟨PR2 HQ23.1 hl460002_1 hl460002_2⟩, ⟨by (try simp only [hl460002_1]); (try simp only [hl460002_2]); (with_reducible repeat (first | refine blk_drewN ?_ _ | refine blk_drew ?_ | refine blk_alloc ?_ _)); refine blk_far ?_ (by have h_ := Kd.R_ne HO_460002.1 BK459.1 (by decide); intro e_; exact h_ (by rw [e_]; rfl)) _; (with_reducible repeat (first | refine blk_drewN ?_ _ | refine blk_drew ?_ | refine blk_alloc ?_ _)); exact BK459.1⟩, ⟨HS460_0.1 _ (by repeat (first | (with_reducible first | exact HK.1 | apply Kept.alloc | apply Kept.drewN | apply Kept.drew | refine Kept.setCell ?_ HMgo21.1 _ | refine Kept.setCell ?_ (.inr GW459.1) _) | exact HK.1))⟩, ⟨by repeat (first | (with_reducible first | exact HK.1 | apply Kept.alloc | apply Kept.drewN | apply Kept.drew | refine Kept.setCell ?_ HMgo21.1 _ | refine Kept.setCell ?_ (.inr GW459.1) _) | exact HK.1)⟩, ⟨BL HB.1⟩⟩
    have H' := Aside0.mk H
    clear H
    go_wp2
    (try simp only [← hl460002_1, ← hl460002_2])
    go_roundg k2
    case measure => have := HK1.1; have := HK2.1; omega
    case rel => exact ⟨(wrap64 (x12_1 + 1)), (x460002_2), RG, H', ⟨by have := HK1.1; have := HK2.1; omega⟩, ⟨PR2 HO_460002.1 hl460002_1 hl460002_2⟩, ⟨PB2 BK459.1 hl460002_1 hl460002_2⟩, ⟨KL HK.1⟩, ⟨BL HB.1⟩⟩
  obtain rfl := Option.some.inj H
  go_wp2
  first | go_end0 | ((try simp only [Exit.inBlock, Exit.then]); refine bodyPost_ret (results_none rfl _ _ _) rfl ?_)
  exact ⟨RF, (by first | exact (PR HO_460002.1) | (simp only [hl460002_1]; exact (PR HO_460002.1))), BL HB.1, KL HK.1⟩
/-! ### impl_bitList: function 77 -/
def impl_bitList.l0 : Nat → Int → List Int → Int → Int → Option (List Int)
  | 0, _, _, _, _ => none
  | k + 1, x0, x5, x10, x11 => if x11 < x10 then (if 0 ≤ x11 then (if x11 < (x5.length : Int) then (impl_bitList.l0 k x0 (x5.set (x11 : Int).toNat (Go.bits .and .i64 (shr .i64 x0 x11) 1)) x10 (wrap64 (x11 + 1))) else (none)) else (none)) else (some x5)
def impl_bitList.f (k : Nat) (a0 : Int) (a1 : Int) : Option (List Int) := if 0 ≤ a1 then (if (a1 : Int).toNat ≤ 35184372088832 then ((some (List.replicate (a1 : Int).toNat 0 : List Int)).bind fun y467 => (impl_bitList.l0 k a0 y467 (y467.length : Int) 0)) else (none)) else (none)
theorem impl_bitList.mono_l : ∀ k, (∀ y0 y1 y2 y3, LeO (impl_bitList.l0 k y0 y1 y2 y3) (impl_bitList.l0 (k + 1) y0 y1 y2 y3))
  | 0 => fun _ _ _ _ r h => by simp [impl_bitList.l0] at h
  | k + 1 => by
    have ih0 := impl_bitList.mono_l k
    intros
    first | unfold impl_bitList.l0
    repeat' first | (with_reducible first | apply ih0 | exact LeO.refl _ | exact LeO.none _ | refine LeO.ite ?_ ?_ | refine LeO.bind ?_ (fun _ => ?_)) | apply ih0 | exact LeO.none _ | refine LeO.ite ?_ ?_ | refine LeO.bind ?_ (fun _ => ?_)
theorem impl_bitList.mono : ∀ a0 a1 k, LeO (impl_bitList.f k a0 a1) (impl_bitList.f (k + 1) a0 a1) := by
  intro a0 a1 k
  have ih0 := impl_bitList.mono_l k
  unfold impl_bitList.f
  repeat' first | (with_reducible first | apply ih0 | exact LeO.refl _ | exact LeO.none _ | refine LeO.ite ?_ ?_ | refine LeO.bind ?_ (fun _ => ?_)) | apply ih0 | exact LeO.none _ | refine LeO.ite ?_ ?_ | refine LeO.bind ?_ (fun _ => ?_)
set_option maxHeartbeats 8000000 in
set_option maxRecDepth 100000 in
theorem impl_bitList.calls (k : Nat) (a0 : Int) (a1 : Int) (r : List Int) (w : World) (h : impl_bitList.f k a0 a1 = some r) :
    Calls Try.prog 77 #[.int .i64 a0, .int .i64 a1] w fun e w' => ∃ v0_ : Value, e = .returned (v0_) ∧ Kd.R (Kd.int .i64) 3 w' w.heap.size (fun _ => True) v0_ r ∧ Below w.heap.size w w' := by
  have HB := Aside0.mk (Below.refl w.heap.size w)
  have H := h
  clear h
  unfold impl_bitList.f at H
  replace H := ifP H; obtain ⟨c3, H⟩ := H
  have c3b0 := eq_true c3
  have c3b1 := decide_eq_true c3
  clear c3
  replace H := ifP H; obtain ⟨c4, H⟩ := H
  have c4b0 := eq_true c4
  have c4b1 := decide_eq_true c4
  clear c4
  replace H := nameB H; obtain ⟨y467, Ny467, H⟩ := H
  have H' := Aside0.mk H
  clear H
  go_enter Try.func77, Try.ntmps77
  go_wp2_with (first | ((with_reducible refine gate_dst (N := 8) rfl ?_); refine Kd.R_make (Kd.int .i64) _ 3 rfl (N := 8) rfl 38 _ _ rfl a1 rfl rfl Try.underlying38 (.int .i64 0) 8 info3 rfl (by decide) (by omega) 0 (ok := fun _ => True) (okp := fun _ => True) rfl (fun _ hk => hk) trivial (OD) (Nat.le_trans (Nat.mul_le_mul_right _ (OD : a1.toNat ≤ 35184372088832)) (by omega)) (Below.refl _ _) (Nat.le_refl _) ?_; intro v468 w5 ho6 hb hg_ hnew_; clear hg_ hnew_; (first | rw [← Ny467.1] at ho6 | (simp only [Int.reduceToNat] at ho6; rw [← Ny467.1] at ho6)); refine E2 (Kd.R_lower ho6 (below_size (BL HB.1))) (below_step (BL HB.1) hb) ?_; clear HB; intro HO469 HB; clear hb ho6; obtain ⟨Ao7, co7, eo7⟩ := Kd.R_slice HO469.1; subst eo7))
  go_loopg [11] k (fun kq v11 w' => ∃ (x5_1 : List Int) (x11_1 : Int), v11 = .int .i64 x11_1 ∧ Aside0 (impl_bitList.l0 kq a0 x5_1 (y467.length : Int) x11_1 = some r) ∧ Aside0 (kq ≤ k) ∧ Aside0 (Kd.R (Kd.int .i64) 3 w' w.heap.size (fun _ => True) (.slice Ao7 y467.length co7) x5_1) ∧ Aside0 (Below w.heap.size w w'))
  case atStart => exact ⟨(y467), (0), RG, H', ⟨Nat.le_refl _⟩, ⟨PR HO469.1⟩, ⟨BL HB.1⟩⟩
  clear H'
  try clear c3b0; try clear c3b1; try clear c4b0; try clear c4b1
  obtain ⟨x5_1, x11_1, rfl, HA, HK1, HO_5, HB⟩ := hrel
  have hl5_1 := (Kd.R_reads' HO_5.1).1
  rw [hl5_1] at HO_5
  (try simp only [hl5_1])
  cases gk with
  | zero => exact absurd HA.1 (by simp [impl_bitList.l0])
  | succ k1 => ?_
  have H := HA.1
  clear HA
  simp only [impl_bitList.l0] at H
  replace H := ifB H; rcases H with ⟨c8b0, H⟩ | ⟨c8b0, H⟩
  · replace H := ifP H; obtain ⟨c9, H⟩ := H
    have c9b0 := eq_true c9
    have c9b1 := decide_eq_true c9
    clear c9
    obtain ⟨ji10, hji10⟩ : ∃ j_ : Int, (shr .i64 a0 x11_1) = j_ := ⟨_, rfl⟩
    replace H : (if x11_1 < (x5_1.length : Int) then (impl_bitList.l0 k1 a0 (x5_1.set (x11_1 : Int).toNat (Go.bits .and .i64 (ji10) 1)) (y467.length : Int) (wrap64 (x11_1 + 1))) else (none)) = some r := by first | (rw [hji10] at H; exact H) | (simp only [hji10] at H ⊢; exact H)
    have hji10_ : (a0 / 2 ^ min x11_1.toNat 64) = ji10 := hji10
    have hji10z : x11_1 ≤ 64 → (a0 / 2 ^ x11_1.toNat) = ji10 := shr_small hji10
    replace H := ifN H; obtain ⟨c11b0, H⟩ := H
    generalize hy470 : ((x5_1.set (x11_1 : Int).toNat (Go.bits .and .i64 (ji10) 1)) : List Int) = y470 at H
    have Ny470 := Aside0.mk hy470.symm; clear hy470
    have H' := Aside0.mk H
    clear H
    have p12 : 0 ≤ (x11_1 : Int) := OD
    have q12 : (x11_1 : Int) < ((x5_1.length : Int) : Int) := OD
    obtain ⟨go12, co12, eo12, gb12, gl12, cl12, HG12⟩ := Kd.R_form HO_5.1 (by omega)
    (first | cases eo12 | (injection eo12 with ea_ en_ ec_; (first | subst ea_ | (injection ea_ with ea_; subst ea_)); subst ec_; clear en_))
    have GB12 := Aside0.mk gb12
    have GG12 := Aside0.mk HG12
    clear gb12 gl12 HG12
    obtain ⟨hx12_0, hf12_0⟩ := Kd.R_celln 0 HO_5.1 (x11_1 : Int) p12 q12
    replace p12 := eq_true p12
    replace q12 := eq_true q12
    have HP13 := Kd.R_putg HO_5.1 (x11_1 : Int) (Go.bits .and .i64 (ji10) 1)
    go_wp2_with (first | ((with_reducible refine gate_store (t := 3) (p := 20) rfl ?_); refine storeE (t := 3) (p := 20) (w1 := (wr.setCell ⟨go12, (x11_1 : Int).toNat, none⟩ (.int .i64 (Go.bits .and .i64 (ji10) 1)))) ?_; intro w14 hw; have hg : wr.grownBy w14 (some go12) := (by rw [hw]; exact HP13.2); have hp_ : Kd.R (Kd.int .i64) 3 w14 w.heap.size (fun _ => True) (.slice (some ⟨go12, 0, none⟩) x5_1.length co7) y470 := (by rw [hw, Ny470.1]; exact HP13.1); clear HP13; refine E2 (hp_) ((by rw [hw]; exact below_set (HB.1) GB12.1 : Below w.heap.size w w14)) ?_; clear HO_5 HB; intro HO_5 HB; clear hg hw hp_))
    (try simp only [← hl5_1])
    go_roundg k1
    case measure => have := HK1.1; omega
    case rel => exact ⟨(y470), (wrap64 (x11_1 + 1)), RG, H', ⟨by have := HK1.1; omega⟩, ⟨PR1 HO_5.1 hl5_1⟩, ⟨BL HB.1⟩⟩
  (try simp only [hl5_1] at c8b0)
  obtain rfl := Option.some.inj H
  go_wp2
  go_ret
  exact ⟨_, RF, by (with_reducible repeat (first | apply Kd.R_alloc | apply Kd.R_drewN | apply Kd.R_drew)); exact HO_5.1, BL HB.1⟩
end Go.Proofs.Ytbpfdbjnnlmdjaa.P
