-- PRINTED by print.py (a twelfth state) out of the translation. Not trusted: Lean checks it.
import Derived.Test.YthnehlphifegaaaPx0
import Derived.Test.YthnehlphifegaaaPx6
namespace Go.Proofs.Ythnehlphifegaaa.P
open Go.RowKit Go.Proofs.YthnehlphifegaaaW.PrintWords Go.Proofs.YthnehlphifegaaaW.PrintLast Go.Proofs.YthnehlphifegaaaW.PrintMore
attribute [local go_sem] max2_int min2_int max_two min_two max_three min_three max_four min_four   -- for this text's walks alone
set_option linter.unusedVariables false
set_option linter.unusedSimpArgs false
set_option maxHeartbeats 8000000
set_option maxRecDepth 100000

/-! ### impl_copyMachine: function 52 -/
open Kd
def impl_copyMachine.f (a0_0 : Int) (a0_1 : Int) (l0_2 : List (S98)) (a0_3 : Int) (a0_4 : Int) (a0_5 : Int) (a0_6 : Int) (a0_7 : Int) : Option (Int × Int × (List (S98)) × Int × Int × Int × Int × Int) := (impl_copyBoard.f a0_0 a0_1 l0_2).bind fun bt332 => (some (bt332.1, bt332.2.1, bt332.2.2, a0_3, a0_4, a0_5, a0_6, a0_7))
theorem impl_copyMachine.calls (a0_0 : Int) (a0_1 : Int) (A0_2 : Option Addr) (c0_2 : Nat) (l0_2 : List (S98)) (a0_3 : Int) (a0_4 : Int) (a0_5 : Int) (a0_6 : Int) (a0_7 : Int) (r1 : Int) (r2 : Int) (r3 : List (S98)) (r4 : Int) (r5 : Int) (r6 : Int) (r7 : Int) (r8 : Int) (w : World) (hr0_2 : Kd.C k98 w A0_2 l0_2.length l0_2) (hc0_2 : l0_2.length <= c0_2) (h : impl_copyMachine.f a0_0 a0_1 l0_2 a0_3 a0_4 a0_5 a0_6 a0_7 = some (r1, r2, r3, r4, r5, r6, r7, r8)) :
 Calls Try.prog 52 #[.agg #[.int .i64 a0_0, .int .i64 a0_1, .slice A0_2 l0_2.length c0_2, .int .i64 a0_3, .int .i64 a0_4, .int .i64 a0_5, .int .i64 a0_6, .int .i64 a0_7]] w fun e w' => ∃ v2_ : Value, e = .returned (.agg #[.int .i64 r1, .int .i64 r2, v2_, .int .i64 r4, .int .i64 r5, .int .i64 r6, .int .i64 r7, .int .i64 r8]) /\ Kd.R k98 98 w' w.heap.size (fun _ => True) v2_ r3 /\ Below w.heap.size w w' := by
 have hu35 := Try.underlying35
 have hu33 := Try.underlying33
 have HR0_2 := Aside0.mk hr0_2
 have HC0_2 := Aside0.mk hc0_2
 clear hr0_2 hc0_2
 have HB := Aside0.mk (Below.refl w.heap.size w)
 have H := h
 clear h
 unfold impl_copyMachine.f at H
 replace H := bindA H; obtain ⟨⟨t332, t333, t334⟩, A2, H⟩ := H
 dsimp only at H
 simp only [Option.some.injEq, Prod.mk.injEq] at H
 obtain ⟨rfl, rfl, rfl, rfl, rfl, rfl, rfl, rfl⟩ := H
 go_enter Try.func52, Try.ntmps52
 go_wp2_with (first | ((with_reducible refine gate_dst (N := 1) rfl ?_); refine boxE (cs := #[.int .i64 a0_0, .int .i64 a0_1, .slice A0_2 l0_2.length c0_2, .int .i64 a0_3, .int .i64 a0_4, .int .i64 a0_5, .int .i64 a0_6, .int .i64 a0_7]) (t := 35) ?_; intro gb330 hg w3 hbox hb; refine E4b HB.1 hg hbox hb ?_; clear HB; intro HB BK330 GW330 GE330; clear hb hbox hg) | ((with_reducible refine gate_dst (N := 2) rfl ?_); refine boxE (cs := #[.int .i64 0, .int .i64 0, .slice none 0 0, .int .i64 0, .int .i64 0, .int .i64 0, .int .i64 0, .int .i64 0]) (t := 35) ?_; intro gb331 hg w4 hbox hb; refine E7 (bB BK330.1 hb) (bS HB.1 hb) (hbox) (gX HB.1 hg) (gX HB.1 hg) (nB BK330.1 hg) (nC BK330.1 hg) ?_; clear BK330 HB; intro BK330 HB BK331 GW331 GE331 NB330_331 NB331_330; clear hb hbox hg; have hnb5 := NB330_331.1; have hnc5 := NB331_330.1; obtain ⟨hcz6_0, hcz6_1, hcz6_2, hcz6_3, hcz6_4, hcz6_5, hcz6_6, hcz6_7, hfz6_0, hfz6_1, hfz6_2, hfz6_3, hfz6_4, hfz6_5, hfz6_6, hfz6_7⟩ := cz8 BK330.1) | ((with_reducible refine gate_callee (f := 66) rfl ?_); refine goesM (N := (some 5)) #[.agg #[.int .i64 a0_0, .int .i64 a0_1, .slice A0_2 l0_2.length c0_2]] Try.func66 ?_; (with_reducible refine (impl_copyBoard.calls a0_0 a0_1 _ _ l0_2 t332 t333 t334 _ ?side1 ?side2 A2.1).mono ?_); (case side1 => exact CB (C_below HR0_2.1 HB.1)); (case side2 => exact HC0_2.1); rintro e w7 ⟨v335, rfl, ho0, hb⟩; refine ⟨_, rfl, ?_⟩; refine E4 (R_lower ho0 (bZ HB.1)) (bB BK330.1 hb) (bB BK331.1 hb) (bS HB.1 hb) ?_; clear BK330 BK331 HB; intro HO336 BK330 BK331 HB; (try clear hb); (try clear ho0); obtain ⟨hcz8_0, hcz8_1, hcz8_2, hcz8_3, hcz8_4, hcz8_5, hcz8_6, hcz8_7, hfz8_0, hfz8_1, hfz8_2, hfz8_3, hfz8_4, hfz8_5, hfz8_6, hfz8_7⟩ := cz8 BK330.1; obtain ⟨Ao9, co9, eo9⟩ := R_slice HO336.1; subst eo9; obtain ⟨hcz10_0, hcz10_1, hcz10_2, hcz10_3, hcz10_4, hcz10_5, hcz10_6, hcz10_7, hfz10_0, hfz10_1, hfz10_2, hfz10_3, hfz10_4, hfz10_5, hfz10_6, hfz10_7⟩ := cz8 BK331.1))
 refine bodyPost_ret (results_cell_row rfl _ _ gb331 35 #[.int .i64 t332, .int .i64 t333, .slice Ao9 t334.length co9, .int .i64 a0_3, .int .i64 a0_4, .int .i64 a0_5, .int .i64 a0_6, .int .i64 a0_7] (0, 0) _ rfl (PF1 NB331_330.1 BK331.1) Try.underlying35 rfl (by kernel_rfl)) rfl ?_
 exact ⟨_, RF, by (with_reducible repeat (first | apply R_alloc | apply R_drewN | apply R_drew)); exact R_mono (RQ gb331 7 (RQ gb331 6 (RQ gb331 5 (RQ gb331 4 (RQ gb331 3 (RQ gb331 2 (RQ gb331 1 (RQ gb331 0 (R_far (p := ⟨gb330, 2, none⟩) (R_far (p := ⟨gb330, 1, none⟩) (R_far (p := ⟨gb330, 0, none⟩) (R_types (R_types HO336.1 BK330.1 (by decide)) BK331.1 (by decide)) (fun _ hk => hk.1.2) (.int .i64 t332)) (fun _ hk => hk.1.2) (.int .i64 t333)) (fun _ hk => hk.1.2) (.slice Ao9 t334.length co9)) _) _) _) _) _) _) _) _) (fun _ hk => trivial), BL HB.1⟩

/-! ### impl_isGeared: function 67 -/
open Kd
def impl_isGeared.f (a0_0 : Int) (a0_1 : Int) : Option (Bool) := if a0_0 = 6 then (some true) else (some (a0_0 == 7))
theorem impl_isGeared.calls (a0_0 : Int) (a0_1 : Int) (r : Bool) (w : World) (h : impl_isGeared.f a0_0 a0_1 = some r) :
 Calls Try.prog 67 #[.agg #[.int .i64 a0_0, .int .i64 a0_1]] w fun e w' => e = .returned (.bool r) /\ Below w.heap.size w w' := by
 have hu98 := Try.underlying98
 have HB := Aside0.mk (Below.refl w.heap.size w)
 have H := h
 clear h
 unfold impl_isGeared.f at H
 replace H := ifQ H; rcases H with ⟨c2, H⟩ | ⟨c2, H⟩
 · have c2b0 := beq_iff_eq.mpr c2
   have c2b1 := bne_eq_false_iff_eq.mpr c2
   clear c2
   obtain rfl := Option.some.inj H
   go_enter Try.func67, Try.ntmps67
   go_wp2_with (first | ((with_reducible refine gate_dst (N := 1) rfl ?_); refine boxE (cs := #[.int .i64 a0_0, .int .i64 a0_1]) (t := 98) ?_; intro gb337 hg w3 hbox hb; refine E4b HB.1 hg hbox hb ?_; clear HB; intro HB BK337 GW337 GE337; clear hb hbox hg; obtain ⟨hcz4_0, hcz4_1, hfz4_0, hfz4_1⟩ := cz2 BK337.1))
   go_ret
   exact ⟨RF, BL HB.1⟩
 have c2b0 := beq_eq_false_iff_ne.mpr c2
 have c2b1 := bne_iff_ne.mpr c2
 obtain rfl := Option.some.inj H
 go_enter Try.func67, Try.ntmps67
 go_wp2_with (first | ((with_reducible refine gate_dst (N := 1) rfl ?_); refine boxE (cs := #[.int .i64 a0_0, .int .i64 a0_1]) (t := 98) ?_; intro gb337 hg w5 hbox hb; refine E4b HB.1 hg hbox hb ?_; clear HB; intro HB BK337 GW337 GE337; clear hb hbox hg; obtain ⟨hcz6_0, hcz6_1, hfz6_0, hfz6_1⟩ := cz2 BK337.1))
 go_ret
 exact ⟨RF, BL HB.1⟩
/-! ### impl_besideOf: function 68 -/
open Kd
mutual
def impl_besideOf.j0 : Nat -> Int -> List Int -> Int -> Int -> Int -> Int -> List (S98) -> Option (List Int)
 | 0, _, _, _, _, _, _, _ => none
 | k + 1, x1, x5, x6, x7, x339000, x339001, x339002 => if x7 > 0 then (if x5.length < 17592186044416 then (impl_besideOf.j1 k x1 (x5 ++ [wrap64 (x1 - 1)]) x6 x7 x339000 x339001 x339002) else (none)) else (impl_besideOf.j1 k x1 x5 x6 x7 x339000 x339001 x339002)
def impl_besideOf.j1 : Nat -> Int -> List Int -> Int -> Int -> Int -> Int -> List (S98) -> Option (List Int)
 | 0, _, _, _, _, _, _, _ => none
 | k + 1, x1, x5, x6, x7, x339000, x339001, x339002 => if (wrap64 (x7 + 1)) < x339001 then (if x5.length < 17592186044416 then ((some (x5 ++ [wrap64 (x1 + 1)] : List Int)).bind fun y348 => (if (wrap64 (x6 + 1)) < x339000 then (if y348.length < 17592186044416 then (some (y348 ++ [wrap64 (x1 + x339001)])) else (none)) else (some y348))) else (none)) else (if (wrap64 (x6 + 1)) < x339000 then (if x5.length < 17592186044416 then (some (x5 ++ [wrap64 (x1 + x339001)])) else (none)) else (some x5))
end
def impl_besideOf.f (k : Nat) (a0_0 : Int) (a0_1 : Int) (l0_2 : List (S98)) (a1 : Int) : Option (List Int) := (some (([] : List Int) : List Int)).bind fun y339 => (if a0_1 = 0 then (none) else (if (wrap64 (Int.tdiv a1 a0_1)) > 0 then (if y339.length < 17592186044416 then (impl_besideOf.j0 k a1 (y339 ++ [wrap64 (a1 - a0_1)]) (wrap64 (Int.tdiv a1 a0_1)) (Int.tmod a1 a0_1) a0_0 a0_1 l0_2) else (none)) else (impl_besideOf.j0 k a1 y339 (wrap64 (Int.tdiv a1 a0_1)) (Int.tmod a1 a0_1) a0_0 a0_1 l0_2)))
theorem impl_besideOf.mono_l : ∀ k, (∀ y0 y1 y2 y3 y4 y5 y6, LeO (impl_besideOf.j0 k y0 y1 y2 y3 y4 y5 y6) (impl_besideOf.j0 (k + 1) y0 y1 y2 y3 y4 y5 y6)) /\ (∀ y0 y1 y2 y3 y4 y5 y6, LeO (impl_besideOf.j1 k y0 y1 y2 y3 y4 y5 y6) (impl_besideOf.j1 (k + 1) y0 y1 y2 y3 y4 y5 y6))
 | 0 => by refine ⟨?_, ?_⟩ <;> (intros; intro r h; first | (simp [impl_besideOf.j0] at h; done) | (simp [impl_besideOf.j1] at h; done))
 | k + 1 => by
  obtain ⟨ih0, ih1⟩ := impl_besideOf.mono_l k
  refine ⟨?_, ?_⟩ <;> (
   intros
   first | unfold impl_besideOf.j0 | unfold impl_besideOf.j1
   exact LM2 ih0 ih1)
theorem impl_besideOf.mono : ∀ a0 a1 a2 a3 k, LeO (impl_besideOf.f k a0 a1 a2 a3) (impl_besideOf.f (k + 1) a0 a1 a2 a3) := by
 intro a0 a1 a2 a3 k
 obtain ⟨ih0, ih1⟩ := impl_besideOf.mono_l k
 unfold impl_besideOf.f
 exact LM2 ih0 ih1
theorem impl_besideOf.calls (k : Nat) (a0_0 : Int) (a0_1 : Int) (A0_2 : Option Addr) (c0_2 : Nat) (l0_2 : List (S98)) (a1 : Int) (r : List Int) (w : World) (hr0_2 : Kd.C k98 w A0_2 l0_2.length l0_2) (hc0_2 : l0_2.length <= c0_2) (h : impl_besideOf.f k a0_0 a0_1 l0_2 a1 = some r) :
 Calls Try.prog 68 #[.agg #[.int .i64 a0_0, .int .i64 a0_1, .slice A0_2 l0_2.length c0_2], .int .i64 a1] w fun e w' => ∃ v0_ : Value, e = .returned (v0_) /\ Kd.R (Kd.int .i64) 3 w' w.heap.size (fun _ => True) v0_ r /\ Below w.heap.size w w' := by
 have hu33 := Try.underlying33
 have HR0_2 := Aside0.mk hr0_2
 have HC0_2 := Aside0.mk hc0_2
 clear hr0_2 hc0_2
 have HB := Aside0.mk (Below.refl w.heap.size w)
 have H := h
 clear h
 unfold impl_besideOf.f at H
 replace H := nameB H; obtain ⟨y339, Ny339, H⟩ := H
 replace H := ifQ H; rcases H with ⟨c3, H⟩ | ⟨c3, H⟩
 · exact absurd H (by simp)
 have c3b0 := beq_eq_false_iff_ne.mpr c3
 have c3b1 := bne_iff_ne.mpr c3
 have HC4 := Aside0.mk H
 clear H
 go_enter Try.func68, Try.ntmps68
 go_upto_if 18 with (first | ((with_reducible refine gate_dst (N := 2) rfl ?_); refine boxE (cs := #[.int .i64 a0_0, .int .i64 a0_1, .slice A0_2 l0_2.length c0_2]) (t := 33) ?_; intro gb338 hg w5 hbox hb; refine E4b HB.1 hg hbox hb ?_; clear HB; intro HB BK338 GW338 GE338; clear hb hbox hg) | ((with_reducible refine gate_dst (N := 8) rfl ?_); refine R_lit (Kd.int .i64) _ 3 ?hg (N := 8) ?hd (xs := ([] : List Int)) (inner := []) (ok := fun _ => True) (okp := fun _ => True) ?hr ?hp (fun _ hk => hk) trivial (Below.refl _ _) (Nat.le_refl _) (by simp) ?_; (case hd => rfl); (case hg => rfl); (case hr => first | (go_simp; done) | (go_simp; rfl)); (case hp => exact (Reps.none _ _)); intro v340 w6 ho7 hb hg_ hnew_; clear hg_ hnew_; (first | rw [<- Ny339.1] at ho7 | (simp only [Int.reduceToNat] at ho7; rw [<- Ny339.1] at ho7)); refine E3 (R_lower ho7 (bZ HB.1)) (bB BK338.1 hb) (bS HB.1 hb) ?_; clear BK338 HB; intro HO341 BK338 HB; clear hb ho7; obtain ⟨hcz8_0, hcz8_1, hcz8_2, hfz8_0, hfz8_1, hfz8_2⟩ := cz3 BK338.1))
 repeat (go_quiet (first | ((with_reducible refine gate_dst (N := 2) rfl ?_); refine boxE (cs := #[.int .i64 a0_0, .int .i64 a0_1, .slice A0_2 l0_2.length c0_2]) (t := 33) ?_; intro gb338 hg w5 hbox hb; refine E4b HB.1 hg hbox hb ?_; clear HB; intro HB BK338 GW338 GE338; clear hb hbox hg) | ((with_reducible refine gate_dst (N := 8) rfl ?_); refine R_lit (Kd.int .i64) _ 3 ?hg (N := 8) ?hd (xs := ([] : List Int)) (inner := []) (ok := fun _ => True) (okp := fun _ => True) ?hr ?hp (fun _ hk => hk) trivial (Below.refl _ _) (Nat.le_refl _) (by simp) ?_; (case hd => rfl); (case hg => rfl); (case hr => first | (go_simp; done) | (go_simp; rfl)); (case hp => exact (Reps.none _ _)); intro v340 w6 ho7 hb hg_ hnew_; clear hg_ hnew_; (first | rw [<- Ny339.1] at ho7 | (simp only [Int.reduceToNat] at ho7; rw [<- Ny339.1] at ho7)); refine E3 (R_lower ho7 (bZ HB.1)) (bB BK338.1 hb) (bS HB.1 hb) ?_; clear BK338 HB; intro HO341 BK338 HB; clear hb ho7; obtain ⟨hcz8_0, hcz8_1, hcz8_2, hfz8_0, hfz8_1, hfz8_2⟩ := cz3 BK338.1)); go_upto_if 18 with (first | ((with_reducible refine gate_dst (N := 2) rfl ?_); refine boxE (cs := #[.int .i64 a0_0, .int .i64 a0_1, .slice A0_2 l0_2.length c0_2]) (t := 33) ?_; intro gb338 hg w5 hbox hb; refine E4b HB.1 hg hbox hb ?_; clear HB; intro HB BK338 GW338 GE338; clear hb hbox hg) | ((with_reducible refine gate_dst (N := 8) rfl ?_); refine R_lit (Kd.int .i64) _ 3 ?hg (N := 8) ?hd (xs := ([] : List Int)) (inner := []) (ok := fun _ => True) (okp := fun _ => True) ?hr ?hp (fun _ hk => hk) trivial (Below.refl _ _) (Nat.le_refl _) (by simp) ?_; (case hd => rfl); (case hg => rfl); (case hr => first | (go_simp; done) | (go_simp; rfl)); (case hp => exact (Reps.none _ _)); intro v340 w6 ho7 hb hg_ hnew_; clear hg_ hnew_; (first | rw [<- Ny339.1] at ho7 | (simp only [Int.reduceToNat] at ho7; rw [<- Ny339.1] at ho7)); refine E3 (R_lower ho7 (bZ HB.1)) (bB BK338.1 hb) (bS HB.1 hb) ?_; clear BK338 HB; intro HO341 BK338 HB; clear hb ho7; obtain ⟨hcz8_0, hcz8_1, hcz8_2, hfz8_0, hfz8_1, hfz8_2⟩ := cz3 BK338.1)))
 (try simp only [Act.put, List.setIfInBounds_toArray, List.set_cons_zero, List.set_cons_succ])
 go_cut [5] (fun v5 wc => ∃ (kq : Nat) (x5_3 : List Int), Aside0 (impl_besideOf.j0 kq a1 x5_3 (wrap64 (Int.tdiv a1 a0_1)) (Int.tmod a1 a0_1) a0_0 a0_1 l0_2 = some r) /\ Aside0 (kq <= k) /\ Aside0 (Kd.R (Kd.int .i64) 3 wc w.heap.size (fun _ => True) v5 x5_3) /\ Aside0 (wc.heap[gb338]? = some (.cells #[.int .i64 a0_0, .int .i64 a0_1, (.slice A0_2 l0_2.length c0_2)] 33 (0, 0))) /\ Aside0 (Below w.heap.size w wc))
 case first =>
  have H := HC4.1
  clear HC4
  replace H := ifQ H; rcases H with ⟨c9, H⟩ | ⟨c9, H⟩
  · have c9b0 : decide (0 < (wrap64 (Int.tdiv a1 a0_1))) = true := decide_eq_true c9
    clear c9
    (first | rw [c9b0] | (simp only [i64_w, i32_w]; rw [c9b0]) | skip)
    replace H := ifP H; obtain ⟨c10, H⟩ := H
    have LMc10 := Aside0.mk c10
    clear c10
    generalize hy342 : ((y339 ++ [wrap64 (a1 - a0_1)]) : List Int) = y342 at H
    have Ny342 := Aside0.mk hy342.symm; clear hy342
    have H' := Aside0.mk H
    clear H
    obtain ⟨hcz11_0, hcz11_1, hcz11_2, hfz11_0, hfz11_1, hfz11_2⟩ := cz3 BK338.1
    go_wp2_with (first | ((with_reducible refine gate_builtin (b := .append) (xs := #[.tmp 19, .tmp 24]) rfl ?_); at_builtin; refine R_append (Kd.int .i64) (w0 := w) w.heap.size rfl (.tmp 19) (.tmp 24) 28 3 (.int .i64 0) 8 rfl Try.underlying28 info3 rfl (by decide) (by omega) v340 y339 (wrap64 (a1 - a0_1)) [.int .i64 (wrap64 (a1 - a0_1))] (fun _ => True) (fun _ => False) rfl rfl ?aP (fun _ hk => hk.elim) ?aF ?aO ?aB ?aS ?aL ?_; (case aP => exact rfl); (case aB => exact (BL HB.1)); (case aF => exact (fun _ _ => trivial)); (case aO => exact (PR HO341.1)); (case aS => exact (bZ HB.1)); (case aL => have := LMc10.1; omega); intro v343 w12 ho hb hg hat; rw [<- Ny342.1] at ho; refine E3 (bG BK338.1 hg (R_ne HO341.1 BK338.1 (by decide))) (hb) (ho) ?_; clear BK338 HB HO341; intro BK338 HB HO344; clear ho hb hg hat))
    repeat (go_quiet (first | ((with_reducible refine gate_builtin (b := .append) (xs := #[.tmp 19, .tmp 24]) rfl ?_); at_builtin; refine R_append (Kd.int .i64) (w0 := w) w.heap.size rfl (.tmp 19) (.tmp 24) 28 3 (.int .i64 0) 8 rfl Try.underlying28 info3 rfl (by decide) (by omega) v340 y339 (wrap64 (a1 - a0_1)) [.int .i64 (wrap64 (a1 - a0_1))] (fun _ => True) (fun _ => False) rfl rfl ?aP (fun _ hk => hk.elim) ?aF ?aO ?aB ?aS ?aL ?_; (case aP => exact rfl); (case aB => exact (BL HB.1)); (case aF => exact (fun _ _ => trivial)); (case aO => exact (PR HO341.1)); (case aS => exact (bZ HB.1)); (case aL => have := LMc10.1; omega); intro v343 w12 ho hb hg hat; rw [<- Ny342.1] at ho; refine E3 (bG BK338.1 hg (R_ne HO341.1 BK338.1 (by decide))) (hb) (ho) ?_; clear BK338 HB HO341; intro BK338 HB HO344; clear ho hb hg hat)); try go_wp2_with (first | ((with_reducible refine gate_builtin (b := .append) (xs := #[.tmp 19, .tmp 24]) rfl ?_); at_builtin; refine R_append (Kd.int .i64) (w0 := w) w.heap.size rfl (.tmp 19) (.tmp 24) 28 3 (.int .i64 0) 8 rfl Try.underlying28 info3 rfl (by decide) (by omega) v340 y339 (wrap64 (a1 - a0_1)) [.int .i64 (wrap64 (a1 - a0_1))] (fun _ => True) (fun _ => False) rfl rfl ?aP (fun _ hk => hk.elim) ?aF ?aO ?aB ?aS ?aL ?_; (case aP => exact rfl); (case aB => exact (BL HB.1)); (case aF => exact (fun _ _ => trivial)); (case aO => exact (PR HO341.1)); (case aS => exact (bZ HB.1)); (case aL => have := LMc10.1; omega); intro v343 w12 ho hb hg hat; rw [<- Ny342.1] at ho; refine E3 (bG BK338.1 hg (R_ne HO341.1 BK338.1 (by decide))) (hb) (ho) ?_; clear BK338 HB HO341; intro BK338 HB HO344; clear ho hb hg hat)))
    go_meet
    case rel => exact ⟨_, (y342), H', ⟨by first | omega | exact Nat.le_refl _⟩, ⟨PR HO344.1⟩, ⟨PB BK338.1⟩, ⟨BL HB.1⟩⟩
  have c9b0 : decide (0 < (wrap64 (Int.tdiv a1 a0_1))) = false := decide_eq_false c9
  clear c9
  (first | rw [c9b0] | (simp only [i64_w, i32_w]; rw [c9b0]) | skip)
  have H' := Aside0.mk H
  clear H
  go_wp2
  repeat (go_quiet (fail); try go_wp2)
  go_meet
  case rel => exact ⟨_, (y339), H', ⟨by first | omega | exact Nat.le_refl _⟩, ⟨PR HO341.1⟩, ⟨PB BK338.1⟩, ⟨BL HB.1⟩⟩
 clear HC4
 try clear c3; clear c3b0 c3b1 hcz8_0 hcz8_1 hcz8_2 hfz8_0 hfz8_1 hfz8_2
 obtain ⟨kq, x5_3, HA, HJ3, HO_5, BK338, HB⟩ := hcut
 cases kq with
 | zero => exact absurd HA.1 (by simp [impl_besideOf.j0])
 | succ kj3 => ?_
 have H := HA.1
 clear HA
 simp only [impl_besideOf.j0] at H
 have HC13 := Aside0.mk H
 clear H
 go_upto_if 27 with (fail)
 repeat (go_quiet (fail); go_upto_if 27 with (fail))
 go_cut [5] (fun v5 wc => ∃ (kq : Nat) (x5_12 : List Int), Aside0 (impl_besideOf.j1 kq a1 x5_12 (wrap64 (Int.tdiv a1 a0_1)) (Int.tmod a1 a0_1) a0_0 a0_1 l0_2 = some r) /\ Aside0 (kq <= kj3) /\ Aside0 (Kd.R (Kd.int .i64) 3 wc w.heap.size (fun _ => True) v5 x5_12) /\ Aside0 (wc.heap[gb338]? = some (.cells #[.int .i64 a0_0, .int .i64 a0_1, (.slice A0_2 l0_2.length c0_2)] 33 (0, 0))) /\ Aside0 (Below w.heap.size w wc))
 case first =>
  have H := HC13.1
  clear HC13
  replace H := ifQ H; rcases H with ⟨c14, H⟩ | ⟨c14, H⟩
  · have c14b0 : decide (0 < (Int.tmod a1 a0_1)) = true := decide_eq_true c14
    clear c14
    (first | rw [c14b0] | (simp only [i64_w, i32_w]; rw [c14b0]) | skip)
    replace H := ifP H; obtain ⟨c15, H⟩ := H
    have LMc15 := Aside0.mk c15
    clear c15
    generalize hy345 : ((x5_3 ++ [wrap64 (a1 - 1)]) : List Int) = y345 at H
    have Ny345 := Aside0.mk hy345.symm; clear hy345
    have H' := Aside0.mk H
    clear H
    go_wp2_with (first | ((with_reducible refine gate_builtin (b := .append) (xs := #[.tmp 28, .tmp 31]) rfl ?_); at_builtin; refine R_append (Kd.int .i64) (w0 := w) w.heap.size rfl (.tmp 28) (.tmp 31) 28 3 (.int .i64 0) 8 rfl Try.underlying28 info3 rfl (by decide) (by omega) u5 x5_3 (wrap64 (a1 - 1)) [.int .i64 (wrap64 (a1 - 1))] (fun _ => True) (fun _ => False) rfl rfl ?aP (fun _ hk => hk.elim) ?aF ?aO ?aB ?aS ?aL ?_; (case aP => exact rfl); (case aB => exact (BL HB.1)); (case aF => exact (fun _ _ => trivial)); (case aO => exact (PR HO_5.1)); (case aS => exact (bZ HB.1)); (case aL => have := LMc15.1; omega); intro v346 w16 ho hb hg hat; rw [<- Ny345.1] at ho; refine E3 (bG BK338.1 hg (R_ne HO_5.1 BK338.1 (by decide))) (hb) (ho) ?_; clear BK338 HB HO_5; intro BK338 HB HO347; clear ho hb hg hat))
    repeat (go_quiet (first | ((with_reducible refine gate_builtin (b := .append) (xs := #[.tmp 28, .tmp 31]) rfl ?_); at_builtin; refine R_append (Kd.int .i64) (w0 := w) w.heap.size rfl (.tmp 28) (.tmp 31) 28 3 (.int .i64 0) 8 rfl Try.underlying28 info3 rfl (by decide) (by omega) u5 x5_3 (wrap64 (a1 - 1)) [.int .i64 (wrap64 (a1 - 1))] (fun _ => True) (fun _ => False) rfl rfl ?aP (fun _ hk => hk.elim) ?aF ?aO ?aB ?aS ?aL ?_; (case aP => exact rfl); (case aB => exact (BL HB.1)); (case aF => exact (fun _ _ => trivial)); (case aO => exact (PR HO_5.1)); (case aS => exact (bZ HB.1)); (case aL => have := LMc15.1; omega); intro v346 w16 ho hb hg hat; rw [<- Ny345.1] at ho; refine E3 (bG BK338.1 hg (R_ne HO_5.1 BK338.1 (by decide))) (hb) (ho) ?_; clear BK338 HB HO_5; intro BK338 HB HO347; clear ho hb hg hat)); try go_wp2_with (first | ((with_reducible refine gate_builtin (b := .append) (xs := #[.tmp 28, .tmp 31]) rfl ?_); at_builtin; refine R_append (Kd.int .i64) (w0 := w) w.heap.size rfl (.tmp 28) (.tmp 31) 28 3 (.int .i64 0) 8 rfl Try.underlying28 info3 rfl (by decide) (by omega) u5 x5_3 (wrap64 (a1 - 1)) [.int .i64 (wrap64 (a1 - 1))] (fun _ => True) (fun _ => False) rfl rfl ?aP (fun _ hk => hk.elim) ?aF ?aO ?aB ?aS ?aL ?_; (case aP => exact rfl); (case aB => exact (BL HB.1)); (case aF => exact (fun _ _ => trivial)); (case aO => exact (PR HO_5.1)); (case aS => exact (bZ HB.1)); (case aL => have := LMc15.1; omega); intro v346 w16 ho hb hg hat; rw [<- Ny345.1] at ho; refine E3 (bG BK338.1 hg (R_ne HO_5.1 BK338.1 (by decide))) (hb) (ho) ?_; clear BK338 HB HO_5; intro BK338 HB HO347; clear ho hb hg hat)))
    go_meet
    case rel => exact ⟨_, (y345), H', ⟨by have := HJ3.1; first | omega | exact Nat.le_refl _⟩, ⟨PR HO347.1⟩, ⟨PB BK338.1⟩, ⟨BL HB.1⟩⟩
  have c14b0 : decide (0 < (Int.tmod a1 a0_1)) = false := decide_eq_false c14
  clear c14
  (first | rw [c14b0] | (simp only [i64_w, i32_w]; rw [c14b0]) | skip)
  have H' := Aside0.mk H
  clear H
  go_wp2
  repeat (go_quiet (fail); try go_wp2)
  go_meet
  case rel => exact ⟨_, (x5_3), H', ⟨by have := HJ3.1; first | omega | exact Nat.le_refl _⟩, ⟨PR HO_5.1⟩, ⟨PB BK338.1⟩, ⟨BL HB.1⟩⟩
 clear HC13
 obtain ⟨kq, x5_12, HA, HJ12, HO_5, BK338, HB⟩ := hcut
 cases kq with
 | zero => exact absurd HA.1 (by simp [impl_besideOf.j1])
 | succ kj12 => ?_
 have H := HA.1
 clear HA
 simp only [impl_besideOf.j1] at H
 replace H := ifB H; rcases H with ⟨c17b0, H⟩ | ⟨c17b0, H⟩
 · replace H := ifP H; obtain ⟨c18, H⟩ := H
   have LMc18 := Aside0.mk c18
   clear c18
   replace H := nameB H; obtain ⟨y348, Ny348, H⟩ := H
   replace H := ifB H; rcases H with ⟨c19b0, H⟩ | ⟨c19b0, H⟩
   · replace H := ifP H; obtain ⟨c20, H⟩ := H
     have LMc20 := Aside0.mk c20
     clear c20
     generalize hy351 : ((y348 ++ [wrap64 (a1 + a0_1)]) : List Int) = y351 at H
     have Ny351 := Aside0.mk hy351.symm; clear hy351
     obtain rfl := Option.some.inj H
     obtain ⟨hcz21_0, hcz21_1, hcz21_2, hfz21_0, hfz21_1, hfz21_2⟩ := cz3 BK338.1
     go_wp2_with (first | ((with_reducible refine gate_builtin (b := .append) (xs := #[.tmp 38, .tmp 41]) rfl ?_); at_builtin; refine R_append (Kd.int .i64) (w0 := w) w.heap.size rfl (.tmp 38) (.tmp 41) 28 3 (.int .i64 0) 8 rfl Try.underlying28 info3 rfl (by decide) (by omega) u5 x5_12 (wrap64 (a1 + 1)) [.int .i64 (wrap64 (a1 + 1))] (fun _ => True) (fun _ => False) rfl rfl ?aP (fun _ hk => hk.elim) ?aF ?aO ?aB ?aS ?aL ?_; (case aP => exact rfl); (case aB => exact (BL HB.1)); (case aF => exact (fun _ _ => trivial)); (case aO => exact (PR HO_5.1)); (case aS => exact (bZ HB.1)); (case aL => have := LMc18.1; omega); intro v349 w22 ho hb hg hat; rw [<- Ny348.1] at ho; refine E3 (bG BK338.1 hg (R_ne HO_5.1 BK338.1 (by decide))) (hb) (ho) ?_; clear BK338 HB HO_5; intro BK338 HB HO350; clear ho hb hg hat; obtain ⟨hcz23_0, hcz23_1, hcz23_2, hfz23_0, hfz23_1, hfz23_2⟩ := cz3 BK338.1) | ((with_reducible refine gate_builtin (b := .append) (xs := #[.tmp 48, .tmp 53]) rfl ?_); at_builtin; refine R_append (Kd.int .i64) (w0 := w) w.heap.size rfl (.tmp 48) (.tmp 53) 28 3 (.int .i64 0) 8 rfl Try.underlying28 info3 rfl (by decide) (by omega) v349 y348 (wrap64 (a1 + a0_1)) [.int .i64 (wrap64 (a1 + a0_1))] (fun _ => True) (fun _ => False) rfl rfl ?aP (fun _ hk => hk.elim) ?aF ?aO ?aB ?aS ?aL ?_; (case aP => exact rfl); (case aB => exact (BL HB.1)); (case aF => exact (fun _ _ => trivial)); (case aO => exact (PR HO350.1)); (case aS => exact (bZ HB.1)); (case aL => have := LMc20.1; omega); intro v352 w24 ho hb hg hat; rw [<- Ny351.1] at ho; refine E3 (bG BK338.1 hg (R_ne HO350.1 BK338.1 (by decide))) (hb) (ho) ?_; clear BK338 HB HO350; intro BK338 HB HO353; clear ho hb hg hat))
     repeat (go_quiet (first | ((with_reducible refine gate_builtin (b := .append) (xs := #[.tmp 38, .tmp 41]) rfl ?_); at_builtin; refine R_append (Kd.int .i64) (w0 := w) w.heap.size rfl (.tmp 38) (.tmp 41) 28 3 (.int .i64 0) 8 rfl Try.underlying28 info3 rfl (by decide) (by omega) u5 x5_12 (wrap64 (a1 + 1)) [.int .i64 (wrap64 (a1 + 1))] (fun _ => True) (fun _ => False) rfl rfl ?aP (fun _ hk => hk.elim) ?aF ?aO ?aB ?aS ?aL ?_; (case aP => exact rfl); (case aB => exact (BL HB.1)); (case aF => exact (fun _ _ => trivial)); (case aO => exact (PR HO_5.1)); (case aS => exact (bZ HB.1)); (case aL => have := LMc18.1; omega); intro v349 w22 ho hb hg hat; rw [<- Ny348.1] at ho; refine E3 (bG BK338.1 hg (R_ne HO_5.1 BK338.1 (by decide))) (hb) (ho) ?_; clear BK338 HB HO_5; intro BK338 HB HO350; clear ho hb hg hat; obtain ⟨hcz23_0, hcz23_1, hcz23_2, hfz23_0, hfz23_1, hfz23_2⟩ := cz3 BK338.1) | ((with_reducible refine gate_builtin (b := .append) (xs := #[.tmp 48, .tmp 53]) rfl ?_); at_builtin; refine R_append (Kd.int .i64) (w0 := w) w.heap.size rfl (.tmp 48) (.tmp 53) 28 3 (.int .i64 0) 8 rfl Try.underlying28 info3 rfl (by decide) (by omega) v349 y348 (wrap64 (a1 + a0_1)) [.int .i64 (wrap64 (a1 + a0_1))] (fun _ => True) (fun _ => False) rfl rfl ?aP (fun _ hk => hk.elim) ?aF ?aO ?aB ?aS ?aL ?_; (case aP => exact rfl); (case aB => exact (BL HB.1)); (case aF => exact (fun _ _ => trivial)); (case aO => exact (PR HO350.1)); (case aS => exact (bZ HB.1)); (case aL => have := LMc20.1; omega); intro v352 w24 ho hb hg hat; rw [<- Ny351.1] at ho; refine E3 (bG BK338.1 hg (R_ne HO350.1 BK338.1 (by decide))) (hb) (ho) ?_; clear BK338 HB HO350; intro BK338 HB HO353; clear ho hb hg hat)); try go_wp2_with (first | ((with_reducible refine gate_builtin (b := .append) (xs := #[.tmp 38, .tmp 41]) rfl ?_); at_builtin; refine R_append (Kd.int .i64) (w0 := w) w.heap.size rfl (.tmp 38) (.tmp 41) 28 3 (.int .i64 0) 8 rfl Try.underlying28 info3 rfl (by decide) (by omega) u5 x5_12 (wrap64 (a1 + 1)) [.int .i64 (wrap64 (a1 + 1))] (fun _ => True) (fun _ => False) rfl rfl ?aP (fun _ hk => hk.elim) ?aF ?aO ?aB ?aS ?aL ?_; (case aP => exact rfl); (case aB => exact (BL HB.1)); (case aF => exact (fun _ _ => trivial)); (case aO => exact (PR HO_5.1)); (case aS => exact (bZ HB.1)); (case aL => have := LMc18.1; omega); intro v349 w22 ho hb hg hat; rw [<- Ny348.1] at ho; refine E3 (bG BK338.1 hg (R_ne HO_5.1 BK338.1 (by decide))) (hb) (ho) ?_; clear BK338 HB HO_5; intro BK338 HB HO350; clear ho hb hg hat; obtain ⟨hcz23_0, hcz23_1, hcz23_2, hfz23_0, hfz23_1, hfz23_2⟩ := cz3 BK338.1) | ((with_reducible refine gate_builtin (b := .append) (xs := #[.tmp 48, .tmp 53]) rfl ?_); at_builtin; refine R_append (Kd.int .i64) (w0 := w) w.heap.size rfl (.tmp 48) (.tmp 53) 28 3 (.int .i64 0) 8 rfl Try.underlying28 info3 rfl (by decide) (by omega) v349 y348 (wrap64 (a1 + a0_1)) [.int .i64 (wrap64 (a1 + a0_1))] (fun _ => True) (fun _ => False) rfl rfl ?aP (fun _ hk => hk.elim) ?aF ?aO ?aB ?aS ?aL ?_; (case aP => exact rfl); (case aB => exact (BL HB.1)); (case aF => exact (fun _ _ => trivial)); (case aO => exact (PR HO350.1)); (case aS => exact (bZ HB.1)); (case aL => have := LMc20.1; omega); intro v352 w24 ho hb hg hat; rw [<- Ny351.1] at ho; refine E3 (bG BK338.1 hg (R_ne HO350.1 BK338.1 (by decide))) (hb) (ho) ?_; clear BK338 HB HO350; intro BK338 HB HO353; clear ho hb hg hat)))
     go_ret
     exact ⟨_, RF, RPE (HO353.1), BL HB.1⟩
   obtain rfl := Option.some.inj H
   obtain ⟨hcz25_0, hcz25_1, hcz25_2, hfz25_0, hfz25_1, hfz25_2⟩ := cz3 BK338.1
   go_wp2_with (first | ((with_reducible refine gate_builtin (b := .append) (xs := #[.tmp 38, .tmp 41]) rfl ?_); at_builtin; refine R_append (Kd.int .i64) (w0 := w) w.heap.size rfl (.tmp 38) (.tmp 41) 28 3 (.int .i64 0) 8 rfl Try.underlying28 info3 rfl (by decide) (by omega) u5 x5_12 (wrap64 (a1 + 1)) [.int .i64 (wrap64 (a1 + 1))] (fun _ => True) (fun _ => False) rfl rfl ?aP (fun _ hk => hk.elim) ?aF ?aO ?aB ?aS ?aL ?_; (case aP => exact rfl); (case aB => exact (BL HB.1)); (case aF => exact (fun _ _ => trivial)); (case aO => exact (PR HO_5.1)); (case aS => exact (bZ HB.1)); (case aL => have := LMc18.1; omega); intro v349 w26 ho hb hg hat; rw [<- Ny348.1] at ho; refine E3 (bG BK338.1 hg (R_ne HO_5.1 BK338.1 (by decide))) (hb) (ho) ?_; clear BK338 HB HO_5; intro BK338 HB HO350; clear ho hb hg hat; obtain ⟨hcz27_0, hcz27_1, hcz27_2, hfz27_0, hfz27_1, hfz27_2⟩ := cz3 BK338.1))
   repeat (go_quiet (first | ((with_reducible refine gate_builtin (b := .append) (xs := #[.tmp 38, .tmp 41]) rfl ?_); at_builtin; refine R_append (Kd.int .i64) (w0 := w) w.heap.size rfl (.tmp 38) (.tmp 41) 28 3 (.int .i64 0) 8 rfl Try.underlying28 info3 rfl (by decide) (by omega) u5 x5_12 (wrap64 (a1 + 1)) [.int .i64 (wrap64 (a1 + 1))] (fun _ => True) (fun _ => False) rfl rfl ?aP (fun _ hk => hk.elim) ?aF ?aO ?aB ?aS ?aL ?_; (case aP => exact rfl); (case aB => exact (BL HB.1)); (case aF => exact (fun _ _ => trivial)); (case aO => exact (PR HO_5.1)); (case aS => exact (bZ HB.1)); (case aL => have := LMc18.1; omega); intro v349 w26 ho hb hg hat; rw [<- Ny348.1] at ho; refine E3 (bG BK338.1 hg (R_ne HO_5.1 BK338.1 (by decide))) (hb) (ho) ?_; clear BK338 HB HO_5; intro BK338 HB HO350; clear ho hb hg hat; obtain ⟨hcz27_0, hcz27_1, hcz27_2, hfz27_0, hfz27_1, hfz27_2⟩ := cz3 BK338.1)); try go_wp2_with (first | ((with_reducible refine gate_builtin (b := .append) (xs := #[.tmp 38, .tmp 41]) rfl ?_); at_builtin; refine R_append (Kd.int .i64) (w0 := w) w.heap.size rfl (.tmp 38) (.tmp 41) 28 3 (.int .i64 0) 8 rfl Try.underlying28 info3 rfl (by decide) (by omega) u5 x5_12 (wrap64 (a1 + 1)) [.int .i64 (wrap64 (a1 + 1))] (fun _ => True) (fun _ => False) rfl rfl ?aP (fun _ hk => hk.elim) ?aF ?aO ?aB ?aS ?aL ?_; (case aP => exact rfl); (case aB => exact (BL HB.1)); (case aF => exact (fun _ _ => trivial)); (case aO => exact (PR HO_5.1)); (case aS => exact (bZ HB.1)); (case aL => have := LMc18.1; omega); intro v349 w26 ho hb hg hat; rw [<- Ny348.1] at ho; refine E3 (bG BK338.1 hg (R_ne HO_5.1 BK338.1 (by decide))) (hb) (ho) ?_; clear BK338 HB HO_5; intro BK338 HB HO350; clear ho hb hg hat; obtain ⟨hcz27_0, hcz27_1, hcz27_2, hfz27_0, hfz27_1, hfz27_2⟩ := cz3 BK338.1)))
   go_ret
   exact ⟨_, RF, RPE (HO350.1), BL HB.1⟩
 replace H := ifB H; rcases H with ⟨c28b0, H⟩ | ⟨c28b0, H⟩
 · replace H := ifP H; obtain ⟨c29, H⟩ := H
   have LMc29 := Aside0.mk c29
   clear c29
   generalize hy354 : ((x5_12 ++ [wrap64 (a1 + a0_1)]) : List Int) = y354 at H
   have Ny354 := Aside0.mk hy354.symm; clear hy354
   obtain rfl := Option.some.inj H
   obtain ⟨hcz30_0, hcz30_1, hcz30_2, hfz30_0, hfz30_1, hfz30_2⟩ := cz3 BK338.1
   go_wp2_with (first | ((with_reducible refine gate_builtin (b := .append) (xs := #[.tmp 48, .tmp 53]) rfl ?_); at_builtin; refine R_append (Kd.int .i64) (w0 := w) w.heap.size rfl (.tmp 48) (.tmp 53) 28 3 (.int .i64 0) 8 rfl Try.underlying28 info3 rfl (by decide) (by omega) u5 x5_12 (wrap64 (a1 + a0_1)) [.int .i64 (wrap64 (a1 + a0_1))] (fun _ => True) (fun _ => False) rfl rfl ?aP (fun _ hk => hk.elim) ?aF ?aO ?aB ?aS ?aL ?_; (case aP => exact rfl); (case aB => exact (BL HB.1)); (case aF => exact (fun _ _ => trivial)); (case aO => exact (PR HO_5.1)); (case aS => exact (bZ HB.1)); (case aL => have := LMc29.1; omega); intro v355 w31 ho hb hg hat; rw [<- Ny354.1] at ho; refine E3 (bG BK338.1 hg (R_ne HO_5.1 BK338.1 (by decide))) (hb) (ho) ?_; clear BK338 HB HO_5; intro BK338 HB HO356; clear ho hb hg hat))
   repeat (go_quiet (first | ((with_reducible refine gate_builtin (b := .append) (xs := #[.tmp 48, .tmp 53]) rfl ?_); at_builtin; refine R_append (Kd.int .i64) (w0 := w) w.heap.size rfl (.tmp 48) (.tmp 53) 28 3 (.int .i64 0) 8 rfl Try.underlying28 info3 rfl (by decide) (by omega) u5 x5_12 (wrap64 (a1 + a0_1)) [.int .i64 (wrap64 (a1 + a0_1))] (fun _ => True) (fun _ => False) rfl rfl ?aP (fun _ hk => hk.elim) ?aF ?aO ?aB ?aS ?aL ?_; (case aP => exact rfl); (case aB => exact (BL HB.1)); (case aF => exact (fun _ _ => trivial)); (case aO => exact (PR HO_5.1)); (case aS => exact (bZ HB.1)); (case aL => have := LMc29.1; omega); intro v355 w31 ho hb hg hat; rw [<- Ny354.1] at ho; refine E3 (bG BK338.1 hg (R_ne HO_5.1 BK338.1 (by decide))) (hb) (ho) ?_; clear BK338 HB HO_5; intro BK338 HB HO356; clear ho hb hg hat)); try go_wp2_with (first | ((with_reducible refine gate_builtin (b := .append) (xs := #[.tmp 48, .tmp 53]) rfl ?_); at_builtin; refine R_append (Kd.int .i64) (w0 := w) w.heap.size rfl (.tmp 48) (.tmp 53) 28 3 (.int .i64 0) 8 rfl Try.underlying28 info3 rfl (by decide) (by omega) u5 x5_12 (wrap64 (a1 + a0_1)) [.int .i64 (wrap64 (a1 + a0_1))] (fun _ => True) (fun _ => False) rfl rfl ?aP (fun _ hk => hk.elim) ?aF ?aO ?aB ?aS ?aL ?_; (case aP => exact rfl); (case aB => exact (BL HB.1)); (case aF => exact (fun _ _ => trivial)); (case aO => exact (PR HO_5.1)); (case aS => exact (bZ HB.1)); (case aL => have := LMc29.1; omega); intro v355 w31 ho hb hg hat; rw [<- Ny354.1] at ho; refine E3 (bG BK338.1 hg (R_ne HO_5.1 BK338.1 (by decide))) (hb) (ho) ?_; clear BK338 HB HO_5; intro BK338 HB HO356; clear ho hb hg hat)))
   go_ret
   exact ⟨_, RF, RPE (HO356.1), BL HB.1⟩
 obtain rfl := Option.some.inj H
 obtain ⟨hcz32_0, hcz32_1, hcz32_2, hfz32_0, hfz32_1, hfz32_2⟩ := cz3 BK338.1
 go_wp2
 repeat (go_quiet (fail); try go_wp2)
 go_ret
 exact ⟨_, RF, RPE (HO_5.1), BL HB.1⟩
/-! ### impl_groupNumbers: function 53 -/
open Kd
mutual
def impl_groupNumbers.l0 : Nat -> List Int -> Int -> Int -> Int -> Int -> List (S98) -> Option (List Int)
 | 0, _, _, _, _, _, _ => none
 | k + 1, x3, x17, x18, x358000, x358001, x358002 => if x18 < x17 then (if 0 <= x18 then (if x18 < (x3.length : Int) then (impl_groupNumbers.l0 k (x3.set (x18 : Int).toNat (-1)) x17 (wrap64 (x18 + 1)) x358000 x358001 x358002) else (none)) else (none)) else (impl_groupNumbers.l1 k x3 0 x358002 (x358002.length : Int) 0 x358000 x358001 x358002)
def impl_groupNumbers.l1 : Nat -> List Int -> Int -> List (S98) -> Int -> Int -> Int -> Int -> List (S98) -> Option (List Int)
 | 0, _, _, _, _, _, _, _, _ => none
 | k + 1, x3, x5, x26, x27, x28, x358000, x358001, x358002 => if x28 < x27 then (if 0 <= x28 then (if x28 < (x26.length : Int) then ((impl_isGeared.f ((rd_T98 x26 x28).f0) ((rd_T98 x26 x28).f1)).bind fun t364 => (if t364 = true then (if x28 < (x3.length : Int) then (impl_groupNumbers.j2 k x3 x5 x28 x26 x27 x28 (decide ((rd x3 x28) ≥ 0)) x358000 x358001 x358002) else (none)) else (impl_groupNumbers.j2 k x3 x5 x28 x26 x27 x28 true x358000 x358001 x358002))) else (none)) else (none)) else (some x3)
def impl_groupNumbers.j2 : Nat -> List Int -> Int -> Int -> List (S98) -> Int -> Int -> Bool -> Int -> Int -> List (S98) -> Option (List Int)
 | 0, _, _, _, _, _, _, _, _, _, _ => none
 | k + 1, x3, x5, x6, x26, x27, x28, x42, x358000, x358001, x358002 => if x42 = true then (impl_groupNumbers.l1 k x3 x5 x26 x27 (wrap64 (x28 + 1)) x358000 x358001 x358002) else (if 0 <= x6 then (if x6 < (x3.length : Int) then (impl_groupNumbers.l2 k (x3.set (x6 : Int).toNat x5) x5 (([x6] : List Int)) x26 x27 x28 x358000 x358001 x358002) else (none)) else (none))
def impl_groupNumbers.l2 : Nat -> List Int -> Int -> List Int -> List (S98) -> Int -> Int -> Int -> Int -> List (S98) -> Option (List Int)
 | 0, _, _, _, _, _, _, _, _, _ => none
 | k + 1, x3, x5, x8, x26, x27, x28, x358000, x358001, x358002 => if (x8.length : Int) > 0 then (if 0 < (x8.length : Int) then (if 1 <= (x8.length : Int) then ((impl_besideOf.f k x358000 x358001 x358002 (rd x8 0)).bind fun t374 => (impl_groupNumbers.l3 k x3 x5 (x8.drop (1 : Int).toNat) x26 x27 x28 t374 (t374.length : Int) 0 x358000 x358001 x358002)) else (none)) else (none)) else (impl_groupNumbers.l1 k x3 (wrap64 (x5 + 1)) x26 x27 (wrap64 (x28 + 1)) x358000 x358001 x358002)
def impl_groupNumbers.l3 : Nat -> List Int -> Int -> List Int -> List (S98) -> Int -> Int -> List Int -> Int -> Int -> Int -> Int -> List (S98) -> Option (List Int)
 | 0, _, _, _, _, _, _, _, _, _, _, _, _ => none
 | k + 1, x3, x5, x8, x26, x27, x28, x59, x60, x61, x358000, x358001, x358002 => if x61 < x60 then (if 0 <= x61 then (if x61 < (x59.length : Int) then (if 0 <= (rd x59 x61) then (if (rd x59 x61) < (x358002.length : Int) then ((impl_isGeared.f ((rd_T98 x358002 (rd x59 x61)).f0) ((rd_T98 x358002 (rd x59 x61)).f1)).bind fun t379 => (if t379 = true then (if (rd x59 x61) < (x3.length : Int) then (if (rd x3 (rd x59 x61)) < 0 then (if x8.length < 17592186044416 then (impl_groupNumbers.l3 k (x3.set ((rd x59 x61) : Int).toNat x5) x5 (x8 ++ [rd x59 x61]) x26 x27 x28 x59 x60 (wrap64 (x61 + 1)) x358000 x358001 x358002) else (none)) else (impl_groupNumbers.l3 k x3 x5 x8 x26 x27 x28 x59 x60 (wrap64 (x61 + 1)) x358000 x358001 x358002)) else (none)) else (impl_groupNumbers.l3 k x3 x5 x8 x26 x27 x28 x59 x60 (wrap64 (x61 + 1)) x358000 x358001 x358002))) else (none)) else (none)) else (none)) else (none)) else (impl_groupNumbers.l2 k x3 x5 x8 x26 x27 x28 x358000 x358001 x358002)
end
def impl_groupNumbers.f (k : Nat) (a0_0 : Int) (a0_1 : Int) (l0_2 : List (S98)) : Option (List Int) := if 0 <= (l0_2.length : Int) then (if ((l0_2.length : Int) : Int).toNat <= 35184372088832 then ((some (List.replicate ((l0_2.length : Int) : Int).toNat 0 : List Int)).bind fun y358 => (impl_groupNumbers.l0 k y358 (y358.length : Int) 0 a0_0 a0_1 l0_2)) else (none)) else (none)
theorem impl_groupNumbers.mono_l : ∀ k, (∀ y0 y1 y2 y3 y4 y5, LeO (impl_groupNumbers.l0 k y0 y1 y2 y3 y4 y5) (impl_groupNumbers.l0 (k + 1) y0 y1 y2 y3 y4 y5)) /\ (∀ y0 y1 y2 y3 y4 y5 y6 y7, LeO (impl_groupNumbers.l1 k y0 y1 y2 y3 y4 y5 y6 y7) (impl_groupNumbers.l1 (k + 1) y0 y1 y2 y3 y4 y5 y6 y7)) /\ (∀ y0 y1 y2 y3 y4 y5 y6 y7 y8 y9, LeO (impl_groupNumbers.j2 k y0 y1 y2 y3 y4 y5 y6 y7 y8 y9) (impl_groupNumbers.j2 (k + 1) y0 y1 y2 y3 y4 y5 y6 y7 y8 y9)) /\ (∀ y0 y1 y2 y3 y4 y5 y6 y7 y8, LeO (impl_groupNumbers.l2 k y0 y1 y2 y3 y4 y5 y6 y7 y8) (impl_groupNumbers.l2 (k + 1) y0 y1 y2 y3 y4 y5 y6 y7 y8)) /\ (∀ y0 y1 y2 y3 y4 y5 y6 y7 y8 y9 y10 y11, LeO (impl_groupNumbers.l3 k y0 y1 y2 y3 y4 y5 y6 y7 y8 y9 y10 y11) (impl_groupNumbers.l3 (k + 1) y0 y1 y2 y3 y4 y5 y6 y7 y8 y9 y10 y11))
 | 0 => by refine ⟨?_, ?_, ?_, ?_, ?_⟩ <;> (intros; intro r h; first | (simp [impl_groupNumbers.l0] at h; done) | (simp [impl_groupNumbers.l1] at h; done) | (simp [impl_groupNumbers.j2] at h; done) | (simp [impl_groupNumbers.l2] at h; done) | (simp [impl_groupNumbers.l3] at h; done))
 | k + 1 => by
  obtain ⟨ih0, ih1, ih2, ih3, ih4⟩ := impl_groupNumbers.mono_l k
  refine ⟨?_, ?_, ?_, ?_, ?_⟩ <;> (
   intros
   first | unfold impl_groupNumbers.l0 | unfold impl_groupNumbers.l1 | unfold impl_groupNumbers.j2 | unfold impl_groupNumbers.l2 | unfold impl_groupNumbers.l3
   exact LM6 ih0 ih1 ih2 ih3 ih4 impl_besideOf.mono)
theorem impl_groupNumbers.mono : ∀ a0 a1 a2 k, LeO (impl_groupNumbers.f k a0 a1 a2) (impl_groupNumbers.f (k + 1) a0 a1 a2) := by
 intro a0 a1 a2 k
 obtain ⟨ih0, ih1, ih2, ih3, ih4⟩ := impl_groupNumbers.mono_l k
 unfold impl_groupNumbers.f
 exact LM6 ih0 ih1 ih2 ih3 ih4 impl_besideOf.mono
theorem impl_groupNumbers.calls (k : Nat) (a0_0 : Int) (a0_1 : Int) (A0_2 : Option Addr) (c0_2 : Nat) (l0_2 : List (S98)) (r : List Int) (w : World) (hr0_2 : Kd.C k98 w A0_2 l0_2.length l0_2) (hc0_2 : l0_2.length <= c0_2) (h : impl_groupNumbers.f k a0_0 a0_1 l0_2 = some r) :
 Calls Try.prog 53 #[.agg #[.int .i64 a0_0, .int .i64 a0_1, .slice A0_2 l0_2.length c0_2]] w fun e w' => ∃ v0_ : Value, e = .returned (v0_) /\ Kd.R (Kd.int .i64) 3 w' w.heap.size (fun _ => True) v0_ r /\ Below w.heap.size w w' := by
 have hu33 := Try.underlying33
 have hu98 := Try.underlying98
 have HR0_2 := Aside0.mk hr0_2
 have HC0_2 := Aside0.mk hc0_2
 clear hr0_2 hc0_2
 have HB := Aside0.mk (Below.refl w.heap.size w)
 have H := h
 clear h
 unfold impl_groupNumbers.f at H
 replace H := ifP H; obtain ⟨c2, H⟩ := H
 have c2b0 := eq_true c2
 have c2b1 := decide_eq_true c2
 clear c2
 replace H := ifP H; obtain ⟨c3, H⟩ := H
 have c3b0 := eq_true c3
 have c3b1 := decide_eq_true c3
 clear c3
 replace H := nameB H; obtain ⟨y358, Ny358, H⟩ := H
 have H' := Aside0.mk H
 clear H
 go_enter Try.func53, Try.ntmps53
 go_wp2_with (first | ((with_reducible refine gate_dst (N := 1) rfl ?_); refine boxE (cs := #[.int .i64 a0_0, .int .i64 a0_1, .slice A0_2 l0_2.length c0_2]) (t := 33) ?_; intro gb357 hg w4 hbox hb; refine E4b HB.1 hg hbox hb ?_; clear HB; intro HB BK357 GW357 GE357; clear hb hbox hg; obtain ⟨hcz5_0, hcz5_1, hcz5_2, hfz5_0, hfz5_1, hfz5_2⟩ := cz3 BK357.1) | ((with_reducible refine gate_dst (N := 15) rfl ?_); refine R_make (Kd.int .i64) _ 3 rfl (N := 15) rfl 28 _ _ rfl (l0_2.length : Int) rfl rfl Try.underlying28 (.int .i64 0) 8 info3 rfl (by decide) (by omega) 0 (ok := fun _ => True) (okp := fun _ => True) rfl (fun _ hk => hk) trivial (OD) (Nat.le_trans (Nat.mul_le_mul_right _ (OD : (l0_2.length : Int).toNat <= 35184372088832)) (by omega)) (Below.refl _ _) (Nat.le_refl _) ?_; intro v359 w6 ho7 hb hg_ hnew_; clear hg_ hnew_; (first | rw [<- Ny358.1] at ho7 | (simp only [Int.reduceToNat] at ho7; rw [<- Ny358.1] at ho7)); refine E3 (R_lower ho7 (bZ HB.1)) (bB BK357.1 hb) (bS HB.1 hb) ?_; clear BK357 HB; intro HO360 BK357 HB; clear hb ho7; obtain ⟨Ao8, co8, eo8⟩ := R_slice HO360.1; subst eo8))
 go_loopg [18] k (fun kq v18 w' => ∃ (x3_1 : List Int) (x18_1 : Int), v18 = .int .i64 x18_1 /\ Aside0 (impl_groupNumbers.l0 kq x3_1 (y358.length : Int) x18_1 a0_0 a0_1 l0_2 = some r) /\ Aside0 (kq <= k) /\ Aside0 (Kd.R (Kd.int .i64) 3 w' w.heap.size (fun _ => True) (.slice Ao8 y358.length co8) x3_1) /\ Aside0 (w'.heap[gb357]? = some (.cells #[.int .i64 a0_0, .int .i64 a0_1, (.slice A0_2 l0_2.length c0_2)] 33 (0, 0))) /\ Aside0 (Below w.heap.size w w'))
 case atStart => exact ⟨(y358), (0), RG, H', ⟨Nat.le_refl _⟩, ⟨PR HO360.1⟩, ⟨PB BK357.1⟩, ⟨BL HB.1⟩⟩
 clear H'
 clear c2b0 c2b1 c3b0 c3b1 hcz5_0 hcz5_1 hcz5_2 hfz5_0 hfz5_1 hfz5_2
 obtain ⟨x3_1, x18_1, rfl, HA, HK1, HO_3, BK357, HB⟩ := hrel
 have hl3_1 := (R_reads' HO_3.1).1
 rw [hl3_1] at HO_3
 (try simp only [hl3_1])
 (try simp only [hl3_1] at BK357)
 cases gk with
 | zero => exact absurd HA.1 (by simp [impl_groupNumbers.l0])
 | succ k1 => ?_
 have H := HA.1
 clear HA
 simp only [impl_groupNumbers.l0] at H
 replace H := ifB H; rcases H with ⟨c9b0, H⟩ | ⟨c9b0, H⟩
 · replace H := ifN H; obtain ⟨c10b0, H⟩ := H
   replace H := ifN H; obtain ⟨c11b0, H⟩ := H
   generalize hy361 : ((x3_1.set (x18_1 : Int).toNat (-1)) : List Int) = y361 at H
   have Ny361 := Aside0.mk hy361.symm; clear hy361
   have H' := Aside0.mk H
   clear H
   have p12 : 0 <= (x18_1 : Int) := OD
   have q12 : (x18_1 : Int) < ((x3_1.length : Int) : Int) := OD
   obtain ⟨go12, co12, eo12, gb12, gl12, cl12, HG12⟩ := R_form HO_3.1 (by omega)
   (first | cases eo12 | (injection eo12 with ea_ en_ ec_; (first | subst ea_ | (injection ea_ with ea_; subst ea_)); subst ec_; clear en_))
   have GB12 := Aside0.mk gb12
   have GG12 := Aside0.mk HG12
   clear gb12 gl12 HG12
   obtain ⟨hx12_0, hf12_0⟩ := R_celln 0 HO_3.1 (x18_1 : Int) p12 q12
   replace p12 := eq_true p12
   replace q12 := eq_true q12
   have HP13 := R_putg HO_3.1 (x18_1 : Int) (-1)
   go_wp2_with (first | ((with_reducible refine gate_store (t := 3) (p := 23) rfl ?_); refine storeE (t := 3) (p := 23) (w1 := (wr.setCell ⟨go12, (x18_1 : Int).toNat, none⟩ (.int .i64 (-1)))) ?_; intro w14 hw; have hg : wr.grownBy w14 (some go12) := (by rw [hw]; exact HP13.2); have hp_ : Kd.R (Kd.int .i64) 3 w14 w.heap.size (fun _ => True) (.slice (some ⟨go12, 0, none⟩) x3_1.length co8) y361 := (by rw [hw, Ny361.1]; exact HP13.1); clear HP13; refine E3 (hp_) (bG BK357.1 hg (R_ne HO_3.1 BK357.1 (by decide))) ((by rw [hw]; exact below_set (HB.1) GB12.1 : Below w.heap.size w w14)) ?_; clear HO_3 BK357 HB; intro HO_3 BK357 HB; clear hg hw hp_))
   (try simp only [<- hl3_1])
   go_roundg k1
   case measure => have := HK1.1; omega
   case rel => exact ⟨(y361), (wrap64 (x18_1 + 1)), RG, H', ⟨by have := HK1.1; omega⟩, ⟨PR1 HO_3.1 hl3_1⟩, ⟨PB1 BK357.1 hl3_1⟩, ⟨BL HB.1⟩⟩
 (try simp only [hl3_1] at c9b0)
 have H' := Aside0.mk H
 clear H
 obtain ⟨hcz15_0, hcz15_1, hcz15_2, hfz15_0, hfz15_1, hfz15_2⟩ := cz3 BK357.1
 go_wp2
 go_loopg [5, 28] k1 (fun kq v5 v28 w' => ∃ (x3_2 : List Int) (x5_2 : Int) (x28_2 : Int), v5 = .int .i64 x5_2 /\ v28 = .int .i64 x28_2 /\ Aside0 (impl_groupNumbers.l1 kq x3_2 x5_2 l0_2 (l0_2.length : Int) x28_2 a0_0 a0_1 l0_2 = some r) /\ Aside0 (kq <= k1) /\ Aside0 (Kd.R (Kd.int .i64) 3 w' w.heap.size (fun _ => True) (.slice Ao8 x3_1.length co8) x3_2) /\ Aside0 (w'.heap[gb357]? = some (.cells #[.int .i64 a0_0, .int .i64 a0_1, (.slice A0_2 l0_2.length c0_2)] 33 (0, 0))) /\ Aside0 (Below w.heap.size w w'))
 case atStart => exact ⟨(x3_1), (0), (0), RG, RG, H', ⟨Nat.le_refl _⟩, ⟨PR1 HO_3.1 hl3_1⟩, ⟨PB1 BK357.1 hl3_1⟩, ⟨BL HB.1⟩⟩
 clear H'
 clear c9b0 hcz15_0 hcz15_1 hcz15_2 hfz15_0 hfz15_1 hfz15_2
 obtain ⟨x3_2, x5_2, x28_2, rfl, rfl, HA, HK2, HO_3, BK357, HB⟩ := hrel
 have hl3_2 := (R_reads' HO_3.1).1
 rw [hl3_2] at HO_3
 (try simp only [hl3_2])
 (try simp only [hl3_2] at BK357)
 cases gk with
 | zero => exact absurd HA.1 (by simp [impl_groupNumbers.l1])
 | succ k2 => ?_
 have H := HA.1
 clear HA
 simp only [impl_groupNumbers.l1] at H
 replace H := ifB H; rcases H with ⟨c16b0, H⟩ | ⟨c16b0, H⟩
 · replace H := ifN H; obtain ⟨c17b0, H⟩ := H
   replace H := ifN H; obtain ⟨c18b0, H⟩ := H
   have HC19 := Aside0.mk H
   clear H
   have p362 : 0 <= (x28_2 : Int) := OD
   have q362 : x28_2 < (l0_2.length : Int) := OD
   obtain ⟨ad362, e362, hx362_0, hx362_1⟩ := at_T98 HR0_2.1 x28_2 p362 q362
   cases e362
   replace hx362_0 := (HB.1.cell (World.block_lt_of_cell? w _ hx362_0)).trans hx362_0
   replace hx362_1 := (HB.1.cell (World.block_lt_of_cell? w _ hx362_1)).trans hx362_1
   replace p362 := eq_true p362
   replace q362 := eq_true q362
   go_upto_region 11 with (first | ((with_reducible refine gate_dst (N := 7) rfl ?_); refine boxE (cs := #[.int .i64 0, .int .i64 0]) (t := 98) ?_; intro gb363 hg w20 hbox hb; refine E8 (rB HO_3.1 hb) (bB BK357.1 hb) (bS HB.1 hb) (hbox) (gX HB.1 hg) (gX HB.1 hg) (nB BK357.1 hg) (nC BK357.1 hg) ?_; clear HO_3 BK357 HB; intro HO_3 BK357 HB BK363 GW363 GE363 NB357_363 NB363_357; clear hb hbox hg; have hnb21 := NB363_357.1; have hnc21 := NB357_363.1; obtain ⟨hcz22_0, hcz22_1, hfz22_0, hfz22_1⟩ := cz2 BK363.1))
   (try simp only [Act.put, List.setIfInBounds_toArray, List.set_cons_zero, List.set_cons_succ])
   go_cut [42] (fun v42 wc => ∃ (kq : Nat) (x42_18 : Bool), v42 = .bool x42_18 /\ Aside0 (impl_groupNumbers.j2 kq x3_2 x5_2 x28_2 l0_2 (l0_2.length : Int) x28_2 x42_18 a0_0 a0_1 l0_2 = some r) /\ Aside0 (kq <= k2) /\ Aside0 (Kd.R (Kd.int .i64) 3 wc w.heap.size (fun _ => True) (.slice Ao8 x3_2.length co8) x3_2) /\ Aside0 (wc.heap[gb357]? = some (.cells #[.int .i64 a0_0, .int .i64 a0_1, (.slice (some ad362) l0_2.length c0_2)] 33 (0, 0))) /\ Aside0 (wc.heap[gb363]? = some (.cells #[.int .i64 ((rd_T98 l0_2 x28_2).f0), .int .i64 ((rd_T98 l0_2 x28_2).f1)] 98 (0, 0))) /\ Aside0 (Below w.heap.size w wc))
   case first =>
    have H := HC19.1
    clear HC19
    replace H := bindA H; obtain ⟨t364, A23, H⟩ := H
    replace H := ifX H; rcases H with ⟨rfl, H⟩ | ⟨rfl, H⟩
    · replace H := ifN H; obtain ⟨c25b0, H⟩ := H
      (first | rw [c25b0] | (simp only [i64_w, i32_w]; rw [c25b0]) | skip)
      have H' := Aside0.mk H
      clear H
      obtain ⟨hcz27_0, hcz27_1, hfz27_0, hfz27_1⟩ := cz2 BK363.1
      go_wp2_with (first | ((with_reducible refine gate_callee (f := 67) rfl ?_); refine goesM (N := (some 34)) #[.agg #[.int .i64 ((rd_T98 l0_2 x28_2).f0), .int .i64 ((rd_T98 l0_2 x28_2).f1)]] Try.func67 ?_; (with_reducible refine (impl_isGeared.calls ((rd_T98 l0_2 x28_2).f0) ((rd_T98 l0_2 x28_2).f1) true _ A23.1).mono ?_); rintro e w28 ⟨rfl, hb⟩; refine ⟨_, rfl, ?_⟩; refine E4 (R_below (by (with_reducible repeat (first | apply R_alloc | apply R_drewN | apply R_drew)); exact (R_mono (RQ gb363 1 (RQ gb363 0 (R_types HO_3.1 BK363.1 (by decide)) _) _) (fun _ h_ => h_.1))) hb) (blk_below (g := gb357) (o := .cells #[.int .i64 a0_0, .int .i64 a0_1, .slice (some ad362) l0_2.length c0_2] 33 (0, 0)) (PF1 NB357_363.1 BK357.1) hb) (blk_below (g := gb363) (o := .cells #[.int .i64 ((rd_T98 l0_2 x28_2).f0), .int .i64 ((rd_T98 l0_2 x28_2).f1)] 98 (0, 0)) (PF0 BK363.1) hb) (bS HB.1 hb) ?_; clear HO_3 BK357 BK363 HB; intro HO_3 BK357 BK363 HB; (try clear hb); have p365 : 0 <= (x28_2 : Int) := OD; have q365 : x28_2 < (x3_2.length : Int) := OD; obtain ⟨ad365, e365, hx365_0⟩ := Kd.at_int (R_reads' HO_3.1).2.2 x28_2 p365 q365; cases e365; replace p365 := eq_true p365; replace q365 := eq_true q365))
      go_meet
      case rel => exact ⟨_, (decide ((rd x3_2 x28_2) ≥ 0)), RG, H', ⟨by have := HK1.1; have := HK2.1; first | omega | exact Nat.le_refl _⟩, ⟨PR2 HO_3.1 hl3_1 hl3_2⟩, ⟨PB2 BK357.1 hl3_1 hl3_2⟩, ⟨PB2 BK363.1 hl3_1 hl3_2⟩, ⟨BL HB.1⟩⟩
    have H' := Aside0.mk H
    clear H
    obtain ⟨hcz30_0, hcz30_1, hfz30_0, hfz30_1⟩ := cz2 BK363.1
    go_wp2_with (first | ((with_reducible refine gate_callee (f := 67) rfl ?_); refine goesM (N := (some 34)) #[.agg #[.int .i64 ((rd_T98 l0_2 x28_2).f0), .int .i64 ((rd_T98 l0_2 x28_2).f1)]] Try.func67 ?_; (with_reducible refine (impl_isGeared.calls ((rd_T98 l0_2 x28_2).f0) ((rd_T98 l0_2 x28_2).f1) false _ A23.1).mono ?_); rintro e w31 ⟨rfl, hb⟩; refine ⟨_, rfl, ?_⟩; refine E4 (R_below (by (with_reducible repeat (first | apply R_alloc | apply R_drewN | apply R_drew)); exact (R_mono (RQ gb363 1 (RQ gb363 0 (R_types HO_3.1 BK363.1 (by decide)) _) _) (fun _ h_ => h_.1))) hb) (blk_below (g := gb357) (o := .cells #[.int .i64 a0_0, .int .i64 a0_1, .slice (some ad362) l0_2.length c0_2] 33 (0, 0)) (PF1 NB357_363.1 BK357.1) hb) (blk_below (g := gb363) (o := .cells #[.int .i64 ((rd_T98 l0_2 x28_2).f0), .int .i64 ((rd_T98 l0_2 x28_2).f1)] 98 (0, 0)) (PF0 BK363.1) hb) (bS HB.1 hb) ?_; clear HO_3 BK357 BK363 HB; intro HO_3 BK357 BK363 HB; (try clear hb)))
    go_meet
    case rel => exact ⟨_, (true), RG, H', ⟨by have := HK1.1; have := HK2.1; first | omega | exact Nat.le_refl _⟩, ⟨PR2 HO_3.1 hl3_1 hl3_2⟩, ⟨PB2 BK357.1 hl3_1 hl3_2⟩, ⟨PB2 BK363.1 hl3_1 hl3_2⟩, ⟨BL HB.1⟩⟩
   clear HC19
   try clear hx362_0; try clear hx362_1; try clear p362; try clear q362; clear c16b0 c17b0 c18b0 hcz22_0 hcz22_1 hfz22_0 hfz22_1
   obtain ⟨kq, x42_18, rfl, HA, HJ18, HO_3, BK357, BK363, HB⟩ := hcut
   cases kq with
   | zero => exact absurd HA.1 (by simp [impl_groupNumbers.j2])
   | succ kj18 => ?_
   have H := HA.1
   clear HA
   simp only [impl_groupNumbers.j2] at H
   replace H := ifX H; rcases H with ⟨rfl, H⟩ | ⟨rfl, H⟩
   · have H' := Aside0.mk H
     clear H
     go_wp2
     (try simp only [<- hl3_2])
     go_roundg kj18
     case measure => have := HK1.1; have := HK2.1; have := HJ18.1; omega
     case rel => exact ⟨(x3_2), (x5_2), (wrap64 (x28_2 + 1)), RG, RG, H', ⟨by have := HK1.1; have := HK2.1; have := HJ18.1; omega⟩, ⟨PR2 HO_3.1 hl3_1 hl3_2⟩, ⟨PB2 BK357.1 hl3_1 hl3_2⟩, ⟨BL HB.1⟩⟩
   replace H := ifN H; obtain ⟨c33b0, H⟩ := H
   replace H := ifN H; obtain ⟨c34b0, H⟩ := H
   generalize hy366 : ((x3_2.set (x28_2 : Int).toNat x5_2) : List Int) = y366 at H
   have Ny366 := Aside0.mk hy366.symm; clear hy366
   generalize hy367 : ((([x28_2] : List Int)) : List Int) = y367 at H
   have Ny367 := Aside0.mk hy367.symm; clear hy367
   have H' := Aside0.mk H
   clear H
   have p35 : 0 <= (x28_2 : Int) := OD
   have q35 : (x28_2 : Int) < ((x3_2.length : Int) : Int) := OD
   obtain ⟨go35, co35, eo35, gb35, gl35, cl35, HG35⟩ := R_form HO_3.1 (by omega)
   (first | cases eo35 | (injection eo35 with ea_ en_ ec_; (first | subst ea_ | (injection ea_ with ea_; subst ea_)); subst ec_; clear en_))
   have GB35 := Aside0.mk gb35
   have GG35 := Aside0.mk HG35
   clear gb35 gl35 HG35
   obtain ⟨hx35_0, hf35_0⟩ := R_celln 0 HO_3.1 (x28_2 : Int) p35 q35
   replace p35 := eq_true p35
   replace q35 := eq_true q35
   have HP36 := R_putg HO_3.1 (x28_2 : Int) x5_2
   go_wp2_with (first | ((with_reducible refine gate_store (t := 3) (p := 46) rfl ?_); refine storeE (t := 3) (p := 46) (w1 := (wc.setCell ⟨go35, (x28_2 : Int).toNat, none⟩ (.int .i64 x5_2))) ?_; intro w37 hw; have hg : wc.grownBy w37 (some go35) := (by rw [hw]; exact HP36.2); have hp_ : Kd.R (Kd.int .i64) 3 w37 w.heap.size (fun _ => True) (.slice (some ⟨go35, 0, none⟩) x3_2.length co8) y366 := (by rw [hw, Ny366.1]; exact HP36.1); clear HP36; refine E4 (hp_) (bG BK357.1 hg (R_ne HO_3.1 BK357.1 (by decide))) (bG BK363.1 hg (R_ne HO_3.1 BK363.1 (by decide))) ((by rw [hw]; exact below_set (HB.1) GB35.1 : Below w.heap.size w w37)) ?_; clear HO_3 BK357 BK363 HB; intro HO_3 BK357 BK363 HB; clear hg hw hp_) | ((with_reducible refine gate_dst (N := 48) rfl ?_); refine R_lit (Kd.int .i64) _ 3 ?hg (N := 48) ?hd (xs := ([x28_2] : List Int)) (inner := [.int .i64 x28_2]) (ok := fun _ => True) (okp := fun _ => True) ?hr ?hp (fun _ hk => hk) trivial (Below.refl _ _) (Nat.le_refl _) (by simp) ?_; (case hd => rfl); (case hg => rfl); (case hr => first | (go_simp; done) | (go_simp; rfl)); (case hp => exact (Reps.one (show Kd.M (Kd.int .i64) _ _ _ x28_2 [.int .i64 x28_2] from rfl) (Reps.none _ _))); intro v368 w38 ho39 hb hg_ hnew_; clear hg_ hnew_; (first | rw [<- Ny367.1] at ho39 | (simp only [Int.reduceToNat] at ho39; rw [<- Ny367.1] at ho39)); refine E5 (R_elder' (PR HO_3.1) (R_base ho39) hb) (R_lower (R_new' ho39 (R_lt (PR HO_3.1))) (bZ HB.1)) (bB BK357.1 hb) (bB BK363.1 hb) (bS HB.1 hb) ?_; clear HO_3 BK357 BK363 HB; intro HO_3 HO369 BK357 BK363 HB; clear hb ho39))
   go_loopg [8] kj18 (fun kq v8 w' => ∃ (x3_4 : List Int) (x8_4 : List Int), Aside0 (impl_groupNumbers.l2 kq x3_4 x5_2 x8_4 l0_2 (l0_2.length : Int) x28_2 a0_0 a0_1 l0_2 = some r) /\ Aside0 (kq <= kj18) /\ Aside0 (Kd.R (Kd.int .i64) 3 w' w.heap.size (fun k_ => some k_ ≠ (v8 : Value).ownBlock) (.slice (some ⟨go35, 0, none⟩) x3_2.length co8) x3_4) /\ Aside0 (Kd.Q (Kd.int .i64) 3 w' w.heap.size (fun k_ => some k_ ≠ ((.slice (some ⟨go35, 0, none⟩) x3_2.length co8) : Value).ownBlock) v8 x8_4) /\ Aside0 (w'.heap[gb357]? = some (.cells #[.int .i64 a0_0, .int .i64 a0_1, (.slice (some ad362) l0_2.length c0_2)] 33 (0, 0))) /\ Aside0 (w'.heap[gb363]? = some (.cells #[.int .i64 ((rd_T98 l0_2 x28_2).f0), .int .i64 ((rd_T98 l0_2 x28_2).f1)] 98 (0, 0))) /\ Aside0 (Below w.heap.size w w'))
   case atStart => exact ⟨(y366), (y367), H', ⟨Nat.le_refl _⟩, ⟨by (try simp only [hl3_1]); (try simp only [hl3_2]); (with_reducible repeat (first | apply R_alloc | apply R_drewN | apply R_drew)); exact R_mono HO_3.1 (fun _ hk => hk.2)⟩, ⟨Q_of_R (by (try simp only [hl3_1]); (try simp only [hl3_2]); (with_reducible repeat (first | apply R_alloc | apply R_drewN | apply R_drew)); exact R_mono HO369.1 (fun _ hk => hk.2))⟩, ⟨PB2 BK357.1 hl3_1 hl3_2⟩, ⟨PB2 BK363.1 hl3_1 hl3_2⟩, ⟨BL HB.1⟩⟩
   clear H'
   try clear p35; try clear q35; try clear hx35_0; clear c33b0 c34b0
   obtain ⟨x3_4, x8_4, HA, HK4, HO_3, HO_8, BK357, BK363, HB⟩ := hrel
   have hl3_4 := (R_reads' HO_3.1).1
   rw [hl3_4] at HO_3
   (try simp only [hl3_4])
   (try simp only [hl3_4] at BK357)
   (try simp only [hl3_4] at BK363)
   (try simp only [hl3_4] at HO_8)
   cases gk with
   | zero => exact absurd HA.1 (by simp [impl_groupNumbers.l2])
   | succ k4 => ?_
   have H := HA.1
   clear HA
   simp only [impl_groupNumbers.l2] at H
   replace H := ifQ H; rcases H with ⟨c40, H⟩ | ⟨c40, H⟩
   · have c40b0 : decide (0 < (x8_4.length : Int)) = true := decide_eq_true c40
     have c40b1 : decide (0 < x8_4.length) = true := decide_eq_true (by omega)
     clear c40
     replace H := ifP H; obtain ⟨c41, H⟩ := H
     have c41b0 := decide_eq_true c41
     have c41b1 : decide (0 < x8_4.length) = true := decide_eq_true (by omega)
     clear c41
     replace H := ifP H; obtain ⟨c42, H⟩ := H
     have c42b0 := eq_true c42
     have c42b1 := decide_eq_true c42
     clear c42
     generalize hy371 : ((x8_4.drop (1 : Int).toNat) : List Int) = y371 at H
     have Ny371 := Aside0.mk hy371.symm; clear hy371
     replace H := bindA H; obtain ⟨t374, A43, H⟩ := H
     have H' := Aside0.mk H
     clear H
     obtain ⟨Ao44, co44, eo44, _⟩ := Q_slice HO_8.1
     subst eo44
     have p370 : 0 <= (0 : Int) := (by omega)
     have q370 : 0 < (x8_4.length : Int) := OD
     obtain ⟨ad370, e370, hx370_0⟩ := Kd.at_int (Q_reads' HO_8.1).2.2 0 p370 q370
     cases e370
     have qi370 : (0 < x8_4.length) = True := eq_true (by omega)
     (try rw [show ((0 : Int)).toNat = 0 from rfl] at hx370_0)
     (try rw [Addr.add_zero'] at hx370_0)
     replace p370 := eq_true p370
     replace q370 := eq_true q370
     have q45 : (1 : Int) <= ((x8_4.length : Int) : Int) := OD
     obtain ⟨i045, hi045, _, hsz45, _⟩ := info_parts info3
     have hcut45 := cut_from (P := Try.prog) 28 3 .i64 Try.underlying28 hi045 1 hsz45 (some ad370) x8_4.length co44 1 (by omega) q45
     have hr45 := Q_drop (k := (1 : Int).toNat) HO_8.1 (by omega)
     obtain ⟨A45, hA45⟩ : ∃ A1, A1 = (if co44 = (1 : Int).toNat then (some ad370) else ((some ad370) : Option Addr).map (·.add ((1 : Int).toNat * 1))) := ⟨_, rfl⟩
     obtain ⟨c45, hc45⟩ : ∃ c1, c1 = co44 - (1 : Int).toNat := ⟨_, rfl⟩
     have hy45 : y371.length = x8_4.length - (1 : Int).toNat := (by rw [Ny371.1, List.length_drop])
     rw [<- Ny371.1] at hr45
     rw [<- hy45, <- hA45, <- hc45] at hcut45
     replace hr45 : Kd.Q (Kd.int .i64) 3 wr w.heap.size (fun k_ => some k_ ≠ (.slice (some ⟨go35, 0, none⟩) x3_4.length co8 : Value).ownBlock) (.slice A45 y371.length c45) y371 := (by rw [hA45, hc45, hy45]; exact hr45)
     have HE45 : Aside0 ((Value.slice A45 y371.length c45).ownBlock = (.slice (some ad370) x8_4.length co44 : Value).ownBlock) := ⟨by rw [hA45]; split <;> (cases ((some ad370) : Option Addr) <;> rfl)⟩
     clear hy45 hi045 hsz45 HO_8 hA45 hc45
     have HO373 := Aside0.mk hr45
     clear hr45
     replace q45 := eq_true q45
     have n_ := Aside0.mk (R_mono (ok' := fun k_ => some k_ ≠ (.slice A45 y371.length c45 : Value).ownBlock) HO_3.1 (fun k_ hk => (by rw [HE45.1]; exact hk)))
     clear HO_3
     have HO_3 := n_
     clear n_
     obtain ⟨hcz47_0, hcz47_1, hcz47_2, hfz47_0, hfz47_1, hfz47_2⟩ := cz3 BK357.1
     go_wp2_with (first | ((with_reducible refine gate_callee (f := 68) rfl ?_); refine goesM (N := (some 59)) #[.agg #[.int .i64 a0_0, .int .i64 a0_1, .slice (some ad362) l0_2.length c0_2], .int .i64 (rd x8_4 0)] Try.func68 ?_; (with_reducible refine (impl_besideOf.calls k4 a0_0 a0_1 _ _ l0_2 (rd x8_4 0) t374 _ ?side1 ?side2 A43.1).mono ?_); (case side1 => exact CB (C_below HR0_2.1 HB.1)); (case side2 => exact HC0_2.1); rintro e w48 ⟨v375, rfl, ho0, hb⟩; refine ⟨_, rfl, ?_⟩; refine E6 (R_elder' (PR HO_3.1) (R_base ho0) hb) (Q_elder' (by (with_reducible repeat (first | apply Q_alloc | apply Q_drewN | apply Q_drew)); exact HO373.1) (R_base ho0) hb) (R_lower (R_new' (R_new' ho0 (R_lt (PR HO_3.1))) (Q_lt (by (with_reducible repeat (first | apply Q_alloc | apply Q_drewN | apply Q_drew)); exact HO373.1))) (bZ HB.1)) (bB BK357.1 hb) (bB BK363.1 hb) (bS HB.1 hb) ?_; clear HO_3 HO373 BK357 BK363 HB; intro HO_3 HO373 HO376 BK357 BK363 HB; (try clear hb); (try clear ho0); obtain ⟨Ao49, co49, eo49⟩ := R_slice HO376.1; subst eo49))
     go_loopg [8, 61] k4 (fun kq v8 v61 w' => ∃ (x3_5 : List Int) (x8_5 : List Int) (x61_5 : Int), v61 = .int .i64 x61_5 /\ Aside0 (impl_groupNumbers.l3 kq x3_5 x5_2 x8_5 l0_2 (l0_2.length : Int) x28_2 t374 (t374.length : Int) x61_5 a0_0 a0_1 l0_2 = some r) /\ Aside0 (kq <= k4) /\ Aside0 (Kd.R (Kd.int .i64) 3 w' w.heap.size (fun k_ => some k_ ≠ (v8 : Value).ownBlock /\ some k_ ≠ ((.slice Ao49 t374.length co49) : Value).ownBlock) (.slice (some ⟨go35, 0, none⟩) x3_4.length co8) x3_5) /\ Aside0 (Kd.Q (Kd.int .i64) 3 w' w.heap.size (fun k_ => some k_ ≠ ((.slice (some ⟨go35, 0, none⟩) x3_4.length co8) : Value).ownBlock /\ some k_ ≠ ((.slice Ao49 t374.length co49) : Value).ownBlock) v8 x8_5) /\ Aside0 (Kd.R (Kd.int .i64) 3 w' w.heap.size (fun k_ => some k_ ≠ ((.slice (some ⟨go35, 0, none⟩) x3_4.length co8) : Value).ownBlock /\ some k_ ≠ (v8 : Value).ownBlock) (.slice Ao49 t374.length co49) t374) /\ Aside0 (w'.heap[gb357]? = some (.cells #[.int .i64 a0_0, .int .i64 a0_1, (.slice (some ad362) l0_2.length c0_2)] 33 (0, 0))) /\ Aside0 (w'.heap[gb363]? = some (.cells #[.int .i64 ((rd_T98 l0_2 x28_2).f0), .int .i64 ((rd_T98 l0_2 x28_2).f1)] 98 (0, 0))) /\ Aside0 (Below w.heap.size w w'))
     case atStart => exact ⟨(x3_4), (y371), (0), RG, H', ⟨Nat.le_refl _⟩, ⟨PR3 HO_3.1 hl3_1 hl3_2 hl3_4⟩, ⟨by (try simp only [hl3_1]); (try simp only [hl3_2]); (try simp only [hl3_4]); (with_reducible repeat (first | apply Q_alloc | apply Q_drewN | apply Q_drew)); exact HO373.1⟩, ⟨by (try simp only [hl3_1]); (try simp only [hl3_2]); (try simp only [hl3_4]); (with_reducible repeat (first | apply R_alloc | apply R_drewN | apply R_drew)); exact R_mono HO376.1 (fun _ hk => ⟨hk.1.2, hk.2⟩)⟩, ⟨PB3 BK357.1 hl3_1 hl3_2 hl3_4⟩, ⟨PB3 BK363.1 hl3_1 hl3_2 hl3_4⟩, ⟨BL HB.1⟩⟩
     clear H'
     try clear c1; try clear c45; try clear q45; try clear hx370_0; try clear p370; try clear q370; clear c40b0 c40b1 c41b0 c41b1 c42b0 c42b1 hcz47_0 hcz47_1 hcz47_2 hfz47_0 hfz47_1 hfz47_2
     obtain ⟨x3_5, x8_5, x61_5, rfl, HA, HK5, HO_3, HO_8, HO_59, BK357, BK363, HB⟩ := hrel
     have hl3_5 := (R_reads' HO_3.1).1
     rw [hl3_5] at HO_3
     (try simp only [hl3_5])
     (try simp only [hl3_5] at BK357)
     (try simp only [hl3_5] at BK363)
     (try simp only [hl3_5] at HO_8)
     (try simp only [hl3_5] at HO_59)
     cases gk with
     | zero => exact absurd HA.1 (by simp [impl_groupNumbers.l3])
     | succ k5 => ?_
     have H := HA.1
     clear HA
     simp only [impl_groupNumbers.l3] at H
     replace H := ifB H; rcases H with ⟨c50b0, H⟩ | ⟨c50b0, H⟩
     · replace H := ifN H; obtain ⟨c51b0, H⟩ := H
       replace H := ifN H; obtain ⟨c52b0, H⟩ := H
       replace H := ifN H; obtain ⟨c53b0, H⟩ := H
       replace H := ifN H; obtain ⟨c54b0, H⟩ := H
       replace H := bindA H; obtain ⟨t379, A55, H⟩ := H
       replace H := ifX H; rcases H with ⟨rfl, H⟩ | ⟨rfl, H⟩
       · replace H := ifN H; obtain ⟨c57b0, H⟩ := H
         replace H := ifB H; rcases H with ⟨c58b0, H⟩ | ⟨c58b0, H⟩
         · generalize hy381 : ((x3_5.set ((rd t374 x61_5) : Int).toNat x5_2) : List Int) = y381 at H
           have Ny381 := Aside0.mk hy381.symm; clear hy381
           replace H := ifP H; obtain ⟨c60, H⟩ := H
           have LMc60 := Aside0.mk c60
           clear c60
           generalize hy382 : ((x8_5 ++ [rd t374 x61_5]) : List Int) = y382 at H
           have Ny382 := Aside0.mk hy382.symm; clear hy382
           have H' := Aside0.mk H
           clear H
           have p377 : 0 <= (x61_5 : Int) := OD
           have q377 : x61_5 < (t374.length : Int) := OD
           obtain ⟨ad377, e377, hx377_0⟩ := Kd.at_int (R_reads' HO_59.1).2.2 x61_5 p377 q377
           cases e377
           replace p377 := eq_true p377
           replace q377 := eq_true q377
           obtain ⟨hcz62_0, hcz62_1, hcz62_2, hfz62_0, hfz62_1, hfz62_2⟩ := cz3 BK357.1
           have p378 : 0 <= ((rd t374 x61_5) : Int) := OD
           have q378 : (rd t374 x61_5) < (l0_2.length : Int) := OD
           obtain ⟨ad378, e378, hx378_0, hx378_1⟩ := at_T98 HR0_2.1 (rd t374 x61_5) p378 q378
           obtain rfl : ad362 = ad378 := (by injection e378)
           replace hx378_0 := (HB.1.cell (World.block_lt_of_cell? w _ hx378_0)).trans hx378_0
           replace hx378_1 := (HB.1.cell (World.block_lt_of_cell? w _ hx378_1)).trans hx378_1
           replace p378 := eq_true p378
           replace q378 := eq_true q378
           go_wp2_with (first | ((with_reducible refine gate_callee (f := 67) rfl ?_); refine goesM (N := (some 70)) #[.agg #[.int .i64 ((rd_T98 l0_2 (rd t374 x61_5)).f0), .int .i64 ((rd_T98 l0_2 (rd t374 x61_5)).f1)]] Try.func67 ?_; (with_reducible refine (impl_isGeared.calls ((rd_T98 l0_2 (rd t374 x61_5)).f0) ((rd_T98 l0_2 (rd t374 x61_5)).f1) true _ A55.1).mono ?_); rintro e w63 ⟨rfl, hb⟩; refine ⟨_, rfl, ?_⟩; refine E6 (rB HO_3.1 hb) (Q_below (by (with_reducible repeat (first | apply Q_alloc | apply Q_drewN | apply Q_drew)); exact HO_8.1) hb) (rB HO_59.1 hb) (bB BK357.1 hb) (bB BK363.1 hb) (bS HB.1 hb) ?_; clear HO_3 HO_8 HO_59 BK357 BK363 HB; intro HO_3 HO_8 HO_59 BK357 BK363 HB; (try clear hb); have p380 : 0 <= ((rd t374 x61_5) : Int) := OD; have q380 : (rd t374 x61_5) < (x3_5.length : Int) := OD; obtain ⟨ad380, e380, hx380_0⟩ := Kd.at_int (R_reads' HO_3.1).2.2 (rd t374 x61_5) p380 q380; obtain rfl : (⟨go35, 0, none⟩ : Addr) = ad380 := (by injection e380); (first | simp only [add_plain] at hx380_0 | simp only [add_at] at hx380_0 | simp only [Addr.add, Nat.zero_add] at hx380_0 | skip); replace p380 := eq_true p380; replace q380 := eq_true q380; have p59 : 0 <= ((rd t374 x61_5) : Int) := OD; have q59 : ((rd t374 x61_5) : Int) < ((x3_5.length : Int) : Int) := OD; obtain ⟨hx59_0, hf59_0⟩ := R_celln 0 HO_3.1 ((rd t374 x61_5) : Int) p59 q59; replace p59 := eq_true p59; replace q59 := eq_true q59; obtain ⟨hy64_, hz64_⟩ := R_celln 0 HO_3.1 ((rd t374 x61_5) : Int) (OD) (OD); have HP64 := R_putg HO_3.1 ((rd t374 x61_5) : Int) x5_2) | ((with_reducible refine gate_store (t := 3) (p := 81) rfl ?_); refine storeE (t := 3) (p := 81) (w1 := (w63.setCell ⟨go35, ((rd t374 x61_5) : Int).toNat, none⟩ (.int .i64 x5_2))) ?_; intro w65 hw; have hg : w63.grownBy w65 (some go35) := (by rw [hw]; exact HP64.2); have hp_ : Kd.R (Kd.int .i64) 3 w65 w.heap.size (fun k_ => some k_ ≠ (u8 : Value).ownBlock /\ some k_ ≠ (.slice (some ad377) t374.length co49 : Value).ownBlock) (.slice (some ⟨go35, 0, none⟩) x3_5.length co8) y381 := (by rw [hw, Ny381.1]; exact HP64.1); clear HP64; refine E6 (hp_) (Q_after (v := (.slice (some ⟨go35, 0, none⟩) x3_5.length co8)) (v1 := (.slice (some ⟨go35, 0, none⟩) x3_5.length co8)) (ok := (fun k_ => some k_ ≠ (.slice (some ad377) t374.length co49 : Value).ownBlock)) (by (with_reducible repeat (first | apply Q_alloc | apply Q_drewN | apply Q_drew)); exact Q_mono HO_8.1 (fun _ hk => ⟨hk.2, hk.1⟩)) hg (.inl rfl)) (R_after (v := (.slice (some ⟨go35, 0, none⟩) x3_5.length co8)) (v1 := (.slice (some ⟨go35, 0, none⟩) x3_5.length co8)) (ok := (fun k_ => some k_ ≠ (u8 : Value).ownBlock)) (RPE (R_mono HO_59.1 (fun _ hk => ⟨hk.2, hk.1⟩))) hg (.inl rfl)) (bG BK357.1 hg (R_ne HO_3.1 BK357.1 (by decide))) (bG BK363.1 hg (R_ne HO_3.1 BK363.1 (by decide))) ((by rw [hw]; exact below_set (HB.1) GB35.1 : Below w.heap.size w w65)) ?_; clear HO_3 HO_8 HO_59 BK357 BK363 HB; intro HO_3 HO_8 HO_59 BK357 BK363 HB; clear hg hw hp_) | ((with_reducible refine gate_builtin (b := .append) (xs := #[.tmp 82, .tmp 84]) rfl ?_); at_builtin; refine Q_append (Kd.int .i64) (w0 := w) w.heap.size rfl (.tmp 82) (.tmp 84) 28 3 (.int .i64 0) 8 rfl Try.underlying28 info3 rfl (by decide) (by omega) u8 x8_5 (rd t374 x61_5) [.int .i64 (rd t374 x61_5)] (fun k_ => some k_ ≠ (.slice (some ⟨go35, 0, none⟩) x3_5.length co8 : Value).ownBlock /\ some k_ ≠ (.slice (some ad377) t374.length co49 : Value).ownBlock) (fun _ => False) rfl rfl ?aP (fun _ hk => hk.elim) ?aF ?aO ?aB ?aS ?aL ?_; (case aP => exact rfl); (case aB => exact (BL HB.1)); (case aF => exact (fun k_ hk => ⟨Kd.fresh' (R_lt (PR HO_3.1)) k_ hk, Kd.fresh' (R_lt (PR HO_59.1)) k_ hk⟩)); (case aO => exact (by (with_reducible repeat (first | apply Q_alloc | apply Q_drewN | apply Q_drew)); exact Q_mono HO_8.1 (fun _ hk => ⟨hk.2, hk.1⟩))); (case aS => exact (bZ HB.1)); (case aL => have := LMc60.1; omega); intro v383 w66 ho hb hg hat; rw [<- Ny382.1] at ho; refine E6 (R_after (ok := (fun k_ => some k_ ≠ (.slice (some ad377) t374.length co49 : Value).ownBlock)) (RPE (R_mono HO_3.1 (fun _ hk => ⟨hk.2, hk.1⟩))) hg hat) (R_after (ok := (fun k_ => some k_ ≠ (.slice (some ⟨go35, 0, none⟩) x3_5.length co8 : Value).ownBlock)) (RPE (R_mono HO_59.1 (fun _ hk => ⟨hk.2, hk.1⟩))) hg hat) (bG BK357.1 hg (Q_ne HO_8.1 BK357.1 (by decide))) (bG BK363.1 hg (Q_ne HO_8.1 BK363.1 (by decide))) (hb) (ho) ?_; clear HO_3 HO_59 BK357 BK363 HB HO_8; intro HO_3 HO_59 BK357 BK363 HB HO384; clear ho hb hg hat))
           (try simp only [<- hl3_5])
           go_roundg k5
           case measure => have := HK1.1; have := HK2.1; have := HJ18.1; have := HK4.1; have := HK5.1; omega
           case rel => exact ⟨(y381), (y382), (wrap64 (x61_5 + 1)), RG, H', ⟨by have := HK1.1; have := HK2.1; have := HJ18.1; have := HK4.1; have := HK5.1; omega⟩, ⟨by (try simp only [hl3_1]); (try simp only [hl3_2]); (try simp only [hl3_4]); (try simp only [hl3_5]); (with_reducible repeat (first | apply R_alloc | apply R_drewN | apply R_drew)); exact R_mono HO_3.1 (fun _ hk => ⟨hk.2, hk.1⟩)⟩, ⟨by (try simp only [hl3_1]); (try simp only [hl3_2]); (try simp only [hl3_4]); (try simp only [hl3_5]); (with_reducible repeat (first | apply Q_alloc | apply Q_drewN | apply Q_drew)); exact HO384.1⟩, ⟨PR4 HO_59.1 hl3_1 hl3_2 hl3_4 hl3_5⟩, ⟨PB4 BK357.1 hl3_1 hl3_2 hl3_4 hl3_5⟩, ⟨PB4 BK363.1 hl3_1 hl3_2 hl3_4 hl3_5⟩, ⟨BL HB.1⟩⟩
         have H' := Aside0.mk H
         clear H
         have p377 : 0 <= (x61_5 : Int) := OD
         have q377 : x61_5 < (t374.length : Int) := OD
         obtain ⟨ad377, e377, hx377_0⟩ := Kd.at_int (R_reads' HO_59.1).2.2 x61_5 p377 q377
         cases e377
         replace p377 := eq_true p377
         replace q377 := eq_true q377
         obtain ⟨hcz68_0, hcz68_1, hcz68_2, hfz68_0, hfz68_1, hfz68_2⟩ := cz3 BK357.1
         have p378 : 0 <= ((rd t374 x61_5) : Int) := OD
         have q378 : (rd t374 x61_5) < (l0_2.length : Int) := OD
         obtain ⟨ad378, e378, hx378_0, hx378_1⟩ := at_T98 HR0_2.1 (rd t374 x61_5) p378 q378
         obtain rfl : ad362 = ad378 := (by injection e378)
         replace hx378_0 := (HB.1.cell (World.block_lt_of_cell? w _ hx378_0)).trans hx378_0
         replace hx378_1 := (HB.1.cell (World.block_lt_of_cell? w _ hx378_1)).trans hx378_1
         replace p378 := eq_true p378
         replace q378 := eq_true q378
         go_wp2_with (first | ((with_reducible refine gate_callee (f := 67) rfl ?_); refine goesM (N := (some 70)) #[.agg #[.int .i64 ((rd_T98 l0_2 (rd t374 x61_5)).f0), .int .i64 ((rd_T98 l0_2 (rd t374 x61_5)).f1)]] Try.func67 ?_; (with_reducible refine (impl_isGeared.calls ((rd_T98 l0_2 (rd t374 x61_5)).f0) ((rd_T98 l0_2 (rd t374 x61_5)).f1) true _ A55.1).mono ?_); rintro e w69 ⟨rfl, hb⟩; refine ⟨_, rfl, ?_⟩; refine E6 (rB HO_3.1 hb) (Q_below (by (with_reducible repeat (first | apply Q_alloc | apply Q_drewN | apply Q_drew)); exact HO_8.1) hb) (rB HO_59.1 hb) (bB BK357.1 hb) (bB BK363.1 hb) (bS HB.1 hb) ?_; clear HO_3 HO_8 HO_59 BK357 BK363 HB; intro HO_3 HO_8 HO_59 BK357 BK363 HB; (try clear hb); have p380 : 0 <= ((rd t374 x61_5) : Int) := OD; have q380 : (rd t374 x61_5) < (x3_5.length : Int) := OD; obtain ⟨ad380, e380, hx380_0⟩ := Kd.at_int (R_reads' HO_3.1).2.2 (rd t374 x61_5) p380 q380; obtain rfl : (⟨go35, 0, none⟩ : Addr) = ad380 := (by injection e380); (first | simp only [add_plain] at hx380_0 | simp only [add_at] at hx380_0 | simp only [Addr.add, Nat.zero_add] at hx380_0 | skip); replace p380 := eq_true p380; replace q380 := eq_true q380))
         (try simp only [<- hl3_5])
         go_roundg k5
         case measure => have := HK1.1; have := HK2.1; have := HJ18.1; have := HK4.1; have := HK5.1; omega
         case rel => exact ⟨(x3_5), (x8_5), (wrap64 (x61_5 + 1)), RG, H', ⟨by have := HK1.1; have := HK2.1; have := HJ18.1; have := HK4.1; have := HK5.1; omega⟩, ⟨PR4 HO_3.1 hl3_1 hl3_2 hl3_4 hl3_5⟩, ⟨by (try simp only [hl3_1]); (try simp only [hl3_2]); (try simp only [hl3_4]); (try simp only [hl3_5]); (with_reducible repeat (first | apply Q_alloc | apply Q_drewN | apply Q_drew)); exact HO_8.1⟩, ⟨PR4 HO_59.1 hl3_1 hl3_2 hl3_4 hl3_5⟩, ⟨PB4 BK357.1 hl3_1 hl3_2 hl3_4 hl3_5⟩, ⟨PB4 BK363.1 hl3_1 hl3_2 hl3_4 hl3_5⟩, ⟨BL HB.1⟩⟩
       have H' := Aside0.mk H
       clear H
       have p377 : 0 <= (x61_5 : Int) := OD
       have q377 : x61_5 < (t374.length : Int) := OD
       obtain ⟨ad377, e377, hx377_0⟩ := Kd.at_int (R_reads' HO_59.1).2.2 x61_5 p377 q377
       cases e377
       replace p377 := eq_true p377
       replace q377 := eq_true q377
       obtain ⟨hcz71_0, hcz71_1, hcz71_2, hfz71_0, hfz71_1, hfz71_2⟩ := cz3 BK357.1
       have p378 : 0 <= ((rd t374 x61_5) : Int) := OD
       have q378 : (rd t374 x61_5) < (l0_2.length : Int) := OD
       obtain ⟨ad378, e378, hx378_0, hx378_1⟩ := at_T98 HR0_2.1 (rd t374 x61_5) p378 q378
       obtain rfl : ad362 = ad378 := (by injection e378)
       replace hx378_0 := (HB.1.cell (World.block_lt_of_cell? w _ hx378_0)).trans hx378_0
       replace hx378_1 := (HB.1.cell (World.block_lt_of_cell? w _ hx378_1)).trans hx378_1
       replace p378 := eq_true p378
       replace q378 := eq_true q378
       go_wp2_with (first | ((with_reducible refine gate_callee (f := 67) rfl ?_); refine goesM (N := (some 70)) #[.agg #[.int .i64 ((rd_T98 l0_2 (rd t374 x61_5)).f0), .int .i64 ((rd_T98 l0_2 (rd t374 x61_5)).f1)]] Try.func67 ?_; (with_reducible refine (impl_isGeared.calls ((rd_T98 l0_2 (rd t374 x61_5)).f0) ((rd_T98 l0_2 (rd t374 x61_5)).f1) false _ A55.1).mono ?_); rintro e w72 ⟨rfl, hb⟩; refine ⟨_, rfl, ?_⟩; refine E6 (rB HO_3.1 hb) (Q_below (by (with_reducible repeat (first | apply Q_alloc | apply Q_drewN | apply Q_drew)); exact HO_8.1) hb) (rB HO_59.1 hb) (bB BK357.1 hb) (bB BK363.1 hb) (bS HB.1 hb) ?_; clear HO_3 HO_8 HO_59 BK357 BK363 HB; intro HO_3 HO_8 HO_59 BK357 BK363 HB; (try clear hb)))
       (try simp only [<- hl3_5])
       go_roundg k5
       case measure => have := HK1.1; have := HK2.1; have := HJ18.1; have := HK4.1; have := HK5.1; omega
       case rel => exact ⟨(x3_5), (x8_5), (wrap64 (x61_5 + 1)), RG, H', ⟨by have := HK1.1; have := HK2.1; have := HJ18.1; have := HK4.1; have := HK5.1; omega⟩, ⟨PR4 HO_3.1 hl3_1 hl3_2 hl3_4 hl3_5⟩, ⟨by (try simp only [hl3_1]); (try simp only [hl3_2]); (try simp only [hl3_4]); (try simp only [hl3_5]); (with_reducible repeat (first | apply Q_alloc | apply Q_drewN | apply Q_drew)); exact HO_8.1⟩, ⟨PR4 HO_59.1 hl3_1 hl3_2 hl3_4 hl3_5⟩, ⟨PB4 BK357.1 hl3_1 hl3_2 hl3_4 hl3_5⟩, ⟨PB4 BK363.1 hl3_1 hl3_2 hl3_4 hl3_5⟩, ⟨BL HB.1⟩⟩
     (try simp only [hl3_1, hl3_2, hl3_4, hl3_5] at c50b0)
     have H' := Aside0.mk H
     clear H
     go_wp2
     (try simp only [<- hl3_4, <- hl3_5])
     go_roundg k5
     case measure => have := HK1.1; have := HK2.1; have := HJ18.1; have := HK4.1; have := HK5.1; omega
     case rel => exact ⟨(x3_5), (x8_5), H', ⟨by have := HK1.1; have := HK2.1; have := HJ18.1; have := HK4.1; have := HK5.1; omega⟩, ⟨by (try simp only [hl3_1]); (try simp only [hl3_2]); (try simp only [hl3_4]); (try simp only [hl3_5]); (with_reducible repeat (first | apply R_alloc | apply R_drewN | apply R_drew)); exact R_mono HO_3.1 (fun _ hk => hk.1)⟩, ⟨by (try simp only [hl3_1]); (try simp only [hl3_2]); (try simp only [hl3_4]); (try simp only [hl3_5]); (with_reducible repeat (first | apply Q_alloc | apply Q_drewN | apply Q_drew)); exact Q_mono HO_8.1 (fun _ hk => hk.1)⟩, ⟨PB4 BK357.1 hl3_1 hl3_2 hl3_4 hl3_5⟩, ⟨PB4 BK363.1 hl3_1 hl3_2 hl3_4 hl3_5⟩, ⟨BL HB.1⟩⟩
   have c40b0 : decide (0 < (x8_4.length : Int)) = false := decide_eq_false c40
   have c40b1 : decide (0 < x8_4.length) = false := decide_eq_false (by omega)
   clear c40
   (try simp only [hl3_1, hl3_2, hl3_4] at c40b1)
   have H' := Aside0.mk H
   clear H
   obtain ⟨Ao73, co73, eo73, _⟩ := Q_slice HO_8.1
   subst eo73
   go_wp2
   (try simp only [<- hl3_2, <- hl3_4])
   go_roundg k4
   case measure => have := HK1.1; have := HK2.1; have := HJ18.1; have := HK4.1; omega
   case rel => exact ⟨(x3_4), (wrap64 (x5_2 + 1)), (wrap64 (x28_2 + 1)), RG, RG, H', ⟨by have := HK1.1; have := HK2.1; have := HJ18.1; have := HK4.1; omega⟩, ⟨by (try simp only [hl3_1]); (try simp only [hl3_2]); (try simp only [hl3_4]); (with_reducible repeat (first | apply R_alloc | apply R_drewN | apply R_drew)); exact R_mono HO_3.1 (fun _ hk => trivial)⟩, ⟨PB3 BK357.1 hl3_1 hl3_2 hl3_4⟩, ⟨BL HB.1⟩⟩
 (try simp only [hl3_1, hl3_2] at c16b0)
 obtain rfl := Option.some.inj H
 go_wp2
 go_ret
 exact ⟨_, RF, RPE (HO_3.1), BL HB.1⟩
/-! ### impl_canStep: function 54 -/
open Kd
def impl_canStep.f (a0_0 : Int) (a0_1 : Int) (l0_2 : List (S98)) (a0_3 : Int) (a0_4 : Int) (a0_5 : Int) (a0_6 : Int) (a0_7 : Int) : Option (Bool) := if a0_7 = 0 then (if a0_5 > 0 then (some true) else (if a0_7 = 1 then (some (decide (a0_6 > 0))) else (some false))) else (if a0_7 = 1 then (some (decide (a0_6 > 0))) else (some false))
theorem impl_canStep.calls (a0_0 : Int) (a0_1 : Int) (A0_2 : Option Addr) (c0_2 : Nat) (l0_2 : List (S98)) (a0_3 : Int) (a0_4 : Int) (a0_5 : Int) (a0_6 : Int) (a0_7 : Int) (r : Bool) (w : World) (hr0_2 : Kd.C k98 w A0_2 l0_2.length l0_2) (hc0_2 : l0_2.length <= c0_2) (h : impl_canStep.f a0_0 a0_1 l0_2 a0_3 a0_4 a0_5 a0_6 a0_7 = some r) :
 Calls Try.prog 54 #[.agg #[.int .i64 a0_0, .int .i64 a0_1, .slice A0_2 l0_2.length c0_2, .int .i64 a0_3, .int .i64 a0_4, .int .i64 a0_5, .int .i64 a0_6, .int .i64 a0_7]] w fun e w' => e = .returned (.bool r) /\ Below w.heap.size w w' := by
 have hu35 := Try.underlying35
 have HR0_2 := Aside0.mk hr0_2
 have HC0_2 := Aside0.mk hc0_2
 clear hr0_2 hc0_2
 have HB := Aside0.mk (Below.refl w.heap.size w)
 have H := h
 clear h
 unfold impl_canStep.f at H
 replace H := ifQ H; rcases H with ⟨c2, H⟩ | ⟨c2, H⟩
 · have c2b0 := beq_iff_eq.mpr c2
   have c2b1 := bne_eq_false_iff_eq.mpr c2
   clear c2
   replace H := ifQ H; rcases H with ⟨c3, H⟩ | ⟨c3, H⟩
   · have c3b0 : decide (0 < a0_5) = true := decide_eq_true c3
     clear c3
     obtain rfl := Option.some.inj H
     go_enter Try.func54, Try.ntmps54
     go_wp2_with (first | ((with_reducible refine gate_dst (N := 1) rfl ?_); refine boxE (cs := #[.int .i64 a0_0, .int .i64 a0_1, .slice A0_2 l0_2.length c0_2, .int .i64 a0_3, .int .i64 a0_4, .int .i64 a0_5, .int .i64 a0_6, .int .i64 a0_7]) (t := 35) ?_; intro gb385 hg w4 hbox hb; refine E4b HB.1 hg hbox hb ?_; clear HB; intro HB BK385 GW385 GE385; clear hb hbox hg; obtain ⟨hcz5_0, hcz5_1, hcz5_2, hcz5_3, hcz5_4, hcz5_5, hcz5_6, hcz5_7, hfz5_0, hfz5_1, hfz5_2, hfz5_3, hfz5_4, hfz5_5, hfz5_6, hfz5_7⟩ := cz8 BK385.1))
     go_ret
     exact ⟨RF, BL HB.1⟩
   have c3b0 : decide (0 < a0_5) = false := decide_eq_false c3
   clear c3
   replace H := ifQ H; rcases H with ⟨c6, H⟩ | ⟨c6, H⟩
   · have c6b0 := beq_iff_eq.mpr c6
     have c6b1 := bne_eq_false_iff_eq.mpr c6
     clear c6
     obtain rfl := Option.some.inj H
     go_enter Try.func54, Try.ntmps54
     go_wp2_with (first | ((with_reducible refine gate_dst (N := 1) rfl ?_); refine boxE (cs := #[.int .i64 a0_0, .int .i64 a0_1, .slice A0_2 l0_2.length c0_2, .int .i64 a0_3, .int .i64 a0_4, .int .i64 a0_5, .int .i64 a0_6, .int .i64 a0_7]) (t := 35) ?_; intro gb385 hg w7 hbox hb; refine E4b HB.1 hg hbox hb ?_; clear HB; intro HB BK385 GW385 GE385; clear hb hbox hg; obtain ⟨hcz8_0, hcz8_1, hcz8_2, hcz8_3, hcz8_4, hcz8_5, hcz8_6, hcz8_7, hfz8_0, hfz8_1, hfz8_2, hfz8_3, hfz8_4, hfz8_5, hfz8_6, hfz8_7⟩ := cz8 BK385.1))
     go_ret
     exact ⟨RF, BL HB.1⟩
   have c6b0 := beq_eq_false_iff_ne.mpr c6
   have c6b1 := bne_iff_ne.mpr c6
   obtain rfl := Option.some.inj H
   go_enter Try.func54, Try.ntmps54
   go_wp2_with (first | ((with_reducible refine gate_dst (N := 1) rfl ?_); refine boxE (cs := #[.int .i64 a0_0, .int .i64 a0_1, .slice A0_2 l0_2.length c0_2, .int .i64 a0_3, .int .i64 a0_4, .int .i64 a0_5, .int .i64 a0_6, .int .i64 a0_7]) (t := 35) ?_; intro gb385 hg w9 hbox hb; refine E4b HB.1 hg hbox hb ?_; clear HB; intro HB BK385 GW385 GE385; clear hb hbox hg; obtain ⟨hcz10_0, hcz10_1, hcz10_2, hcz10_3, hcz10_4, hcz10_5, hcz10_6, hcz10_7, hfz10_0, hfz10_1, hfz10_2, hfz10_3, hfz10_4, hfz10_5, hfz10_6, hfz10_7⟩ := cz8 BK385.1))
   go_ret
   exact ⟨RF, BL HB.1⟩
 have c2b0 := beq_eq_false_iff_ne.mpr c2
 have c2b1 := bne_iff_ne.mpr c2
 replace H := ifQ H; rcases H with ⟨c11, H⟩ | ⟨c11, H⟩
 · have c11b0 := beq_iff_eq.mpr c11
   have c11b1 := bne_eq_false_iff_eq.mpr c11
   clear c11
   obtain rfl := Option.some.inj H
   go_enter Try.func54, Try.ntmps54
   go_wp2_with (first | ((with_reducible refine gate_dst (N := 1) rfl ?_); refine boxE (cs := #[.int .i64 a0_0, .int .i64 a0_1, .slice A0_2 l0_2.length c0_2, .int .i64 a0_3, .int .i64 a0_4, .int .i64 a0_5, .int .i64 a0_6, .int .i64 a0_7]) (t := 35) ?_; intro gb385 hg w12 hbox hb; refine E4b HB.1 hg hbox hb ?_; clear HB; intro HB BK385 GW385 GE385; clear hb hbox hg; obtain ⟨hcz13_0, hcz13_1, hcz13_2, hcz13_3, hcz13_4, hcz13_5, hcz13_6, hcz13_7, hfz13_0, hfz13_1, hfz13_2, hfz13_3, hfz13_4, hfz13_5, hfz13_6, hfz13_7⟩ := cz8 BK385.1))
   go_ret
   exact ⟨RF, BL HB.1⟩
 have c11b0 := beq_eq_false_iff_ne.mpr c11
 have c11b1 := bne_iff_ne.mpr c11
 obtain rfl := Option.some.inj H
 go_enter Try.func54, Try.ntmps54
 go_wp2_with (first | ((with_reducible refine gate_dst (N := 1) rfl ?_); refine boxE (cs := #[.int .i64 a0_0, .int .i64 a0_1, .slice A0_2 l0_2.length c0_2, .int .i64 a0_3, .int .i64 a0_4, .int .i64 a0_5, .int .i64 a0_6, .int .i64 a0_7]) (t := 35) ?_; intro gb385 hg w14 hbox hb; refine E4b HB.1 hg hbox hb ?_; clear HB; intro HB BK385 GW385 GE385; clear hb hbox hg; obtain ⟨hcz15_0, hcz15_1, hcz15_2, hcz15_3, hcz15_4, hcz15_5, hcz15_6, hcz15_7, hfz15_0, hfz15_1, hfz15_2, hfz15_3, hfz15_4, hfz15_5, hfz15_6, hfz15_7⟩ := cz8 BK385.1))
 go_ret
 exact ⟨RF, BL HB.1⟩
/-! ### impl_GoesTo: function 75 -/
open Kd
mutual
def impl_GoesTo.j0 : Nat -> Int -> Bool -> Int -> Int -> Option (Int × Bool)
 | 0, _, _, _, _ => none
 | k + 1, x1, x21, x387000, x387001 => if x21 = true then (some (0, false)) else (if x387000 = 1 then (some ((-1), true)) else (if x387000 = 2 then (some (1, true)) else (if x387000 = 3 then (impl_GoesTo.j1 k x1 x387000 (x387000 == 3) x387000 x387001) else (impl_GoesTo.j1 k x1 x387000 (x387000 == 6) x387000 x387001))))
def impl_GoesTo.j1 : Nat -> Int -> Int -> Bool -> Int -> Int -> Option (Int × Bool)
 | 0, _, _, _, _, _ => none
 | k + 1, x1, x23, x28, x387000, x387001 => if x28 = true then (some (wrap64 ((wrap64 (2 * x387001)) - 1), true)) else (if x23 = 4 then (some (wrap64 (-x1), true)) else (some (0, true)))
end
def impl_GoesTo.f (k : Nat) (a0_0 : Int) (a0_1 : Int) (a1 : Int) : Option (Int × Bool) := (impl_IsCell.f a0_0 a0_1).bind fun t387 => (if t387 = true then (if a1 < (-1) then (impl_GoesTo.j0 k a1 true a0_0 a0_1) else (if a1 > 1 then (impl_GoesTo.j0 k a1 true a0_0 a0_1) else (impl_GoesTo.j0 k a1 (a0_0 == 5) a0_0 a0_1))) else (impl_GoesTo.j0 k a1 true a0_0 a0_1))
theorem impl_GoesTo.mono_l : ∀ k, (∀ y0 y1 y2 y3, LeO (impl_GoesTo.j0 k y0 y1 y2 y3) (impl_GoesTo.j0 (k + 1) y0 y1 y2 y3)) /\ (∀ y0 y1 y2 y3 y4, LeO (impl_GoesTo.j1 k y0 y1 y2 y3 y4) (impl_GoesTo.j1 (k + 1) y0 y1 y2 y3 y4))
 | 0 => by refine ⟨?_, ?_⟩ <;> (intros; intro r h; first | (simp [impl_GoesTo.j0] at h; done) | (simp [impl_GoesTo.j1] at h; done))
 | k + 1 => by
  obtain ⟨ih0, ih1⟩ := impl_GoesTo.mono_l k
  refine ⟨?_, ?_⟩ <;> (
   intros
   first | unfold impl_GoesTo.j0 | unfold impl_GoesTo.j1
   exact LM2 ih0 ih1)
theorem impl_GoesTo.mono : ∀ a0 a1 a2 k, LeO (impl_GoesTo.f k a0 a1 a2) (impl_GoesTo.f (k + 1) a0 a1 a2) := by
 intro a0 a1 a2 k
 obtain ⟨ih0, ih1⟩ := impl_GoesTo.mono_l k
 unfold impl_GoesTo.f
 exact LM2 ih0 ih1
theorem impl_GoesTo.calls (k : Nat) (a0_0 : Int) (a0_1 : Int) (a1 : Int) (r1 : Int) (r2 : Bool) (w : World) (h : impl_GoesTo.f k a0_0 a0_1 a1 = some (r1, r2)) :
 Calls Try.prog 75 #[.agg #[.int .i64 a0_0, .int .i64 a0_1], .int .i64 a1] w fun e w' => e = .returned (.tuple #[.int .i64 r1, .bool r2]) /\ Below w.heap.size w w' := by
 have hu98 := Try.underlying98
 have HB := Aside0.mk (Below.refl w.heap.size w)
 have H := h
 clear h
 unfold impl_GoesTo.f at H
 have HC3 := Aside0.mk H
 clear H
 go_enter Try.func75, Try.ntmps75
 go_upto_region 1 with (first | ((with_reducible refine gate_dst (N := 2) rfl ?_); refine boxE (cs := #[.int .i64 a0_0, .int .i64 a0_1]) (t := 98) ?_; intro gb386 hg w4 hbox hb; refine E4b HB.1 hg hbox hb ?_; clear HB; intro HB BK386 GW386 GE386; clear hb hbox hg))
 (try simp only [Act.put, List.setIfInBounds_toArray, List.set_cons_zero, List.set_cons_succ])
 go_cut [21] (fun v21 wc => ∃ (kq : Nat) (x21_2 : Bool), v21 = .bool x21_2 /\ Aside0 (impl_GoesTo.j0 kq a1 x21_2 a0_0 a0_1 = some (r1, r2)) /\ Aside0 (kq <= k) /\ Aside0 (wc.heap[gb386]? = some (.cells #[.int .i64 a0_0, .int .i64 a0_1] 98 (0, 0))) /\ Aside0 (Below w.heap.size w wc))
 case first =>
  have H := HC3.1
  clear HC3
  replace H := bindA H; obtain ⟨t387, A5, H⟩ := H
  replace H := ifX H; rcases H with ⟨rfl, H⟩ | ⟨rfl, H⟩
  · replace H := ifB H; rcases H with ⟨c7b0, H⟩ | ⟨c7b0, H⟩
    · (first | rw [c7b0] | (simp only [i64_w, i32_w]; rw [c7b0]) | skip)
      have H' := Aside0.mk H
      clear H
      obtain ⟨hcz8_0, hcz8_1, hfz8_0, hfz8_1⟩ := cz2 BK386.1
      go_wp2_with (first | ((with_reducible refine gate_callee (f := 83) rfl ?_); refine goesM (N := (some 7)) #[.agg #[.int .i64 a0_0, .int .i64 a0_1]] Try.func83 ?_; (with_reducible refine (impl_IsCell.calls a0_0 a0_1 true _ A5.1).mono ?_); rintro e w9 ⟨rfl, hb⟩; refine ⟨_, rfl, ?_⟩; refine E2 (bB BK386.1 hb) (bS HB.1 hb) ?_; clear BK386 HB; intro BK386 HB; (try clear hb)))
      go_meet
      case rel => exact ⟨_, (true), RG, H', ⟨by first | omega | exact Nat.le_refl _⟩, ⟨PB BK386.1⟩, ⟨BL HB.1⟩⟩
    (first | rw [c7b0] | (simp only [i64_w, i32_w]; rw [c7b0]) | skip)
    replace H := ifQ H; rcases H with ⟨c10, H⟩ | ⟨c10, H⟩
    · have c10b0 : decide (1 < a1) = true := decide_eq_true c10
      clear c10
      have H' := Aside0.mk H
      clear H
      obtain ⟨hcz11_0, hcz11_1, hfz11_0, hfz11_1⟩ := cz2 BK386.1
      go_wp2_with (first | ((with_reducible refine gate_callee (f := 83) rfl ?_); refine goesM (N := (some 7)) #[.agg #[.int .i64 a0_0, .int .i64 a0_1]] Try.func83 ?_; (with_reducible refine (impl_IsCell.calls a0_0 a0_1 true _ A5.1).mono ?_); rintro e w12 ⟨rfl, hb⟩; refine ⟨_, rfl, ?_⟩; refine E2 (bB BK386.1 hb) (bS HB.1 hb) ?_; clear BK386 HB; intro BK386 HB; (try clear hb)))
      go_meet
      case rel => exact ⟨_, (true), RG, H', ⟨by first | omega | exact Nat.le_refl _⟩, ⟨PB BK386.1⟩, ⟨BL HB.1⟩⟩
    have c10b0 : decide (1 < a1) = false := decide_eq_false c10
    clear c10
    have H' := Aside0.mk H
    clear H
    obtain ⟨hcz13_0, hcz13_1, hfz13_0, hfz13_1⟩ := cz2 BK386.1
    go_wp2_with (first | ((with_reducible refine gate_callee (f := 83) rfl ?_); refine goesM (N := (some 7)) #[.agg #[.int .i64 a0_0, .int .i64 a0_1]] Try.func83 ?_; (with_reducible refine (impl_IsCell.calls a0_0 a0_1 true _ A5.1).mono ?_); rintro e w14 ⟨rfl, hb⟩; refine ⟨_, rfl, ?_⟩; refine E2 (bB BK386.1 hb) (bS HB.1 hb) ?_; clear BK386 HB; intro BK386 HB; (try clear hb); obtain ⟨hcz15_0, hcz15_1, hfz15_0, hfz15_1⟩ := cz2 BK386.1))
    go_meet
    case rel => exact ⟨_, ((a0_0 == 5)), RG, H', ⟨by first | omega | exact Nat.le_refl _⟩, ⟨PB BK386.1⟩, ⟨BL HB.1⟩⟩
  have H' := Aside0.mk H
  clear H
  obtain ⟨hcz16_0, hcz16_1, hfz16_0, hfz16_1⟩ := cz2 BK386.1
  go_wp2_with (first | ((with_reducible refine gate_callee (f := 83) rfl ?_); refine goesM (N := (some 7)) #[.agg #[.int .i64 a0_0, .int .i64 a0_1]] Try.func83 ?_; (with_reducible refine (impl_IsCell.calls a0_0 a0_1 false _ A5.1).mono ?_); rintro e w17 ⟨rfl, hb⟩; refine ⟨_, rfl, ?_⟩; refine E2 (bB BK386.1 hb) (bS HB.1 hb) ?_; clear BK386 HB; intro BK386 HB; (try clear hb)))
  go_meet
  case rel => exact ⟨_, (true), RG, H', ⟨by first | omega | exact Nat.le_refl _⟩, ⟨PB BK386.1⟩, ⟨BL HB.1⟩⟩
 clear HC3
 obtain ⟨kq, x21_2, rfl, HA, HJ2, BK386, HB⟩ := hcut
 cases kq with
 | zero => exact absurd HA.1 (by simp [impl_GoesTo.j0])
 | succ kj2 => ?_
 have H := HA.1
 clear HA
 simp only [impl_GoesTo.j0] at H
 replace H := ifX H; rcases H with ⟨rfl, H⟩ | ⟨rfl, H⟩
 · simp only [Option.some.injEq, Prod.mk.injEq] at H
   obtain ⟨rfl, rfl⟩ := H
   go_wp2
   go_ret2
   exact ⟨RF, BL HB.1⟩
 replace H := ifQ H; rcases H with ⟨c19, H⟩ | ⟨c19, H⟩
 · have c19b0 := beq_iff_eq.mpr c19
   have c19b1 := bne_eq_false_iff_eq.mpr c19
   clear c19
   simp only [Option.some.injEq, Prod.mk.injEq] at H
   obtain ⟨rfl, rfl⟩ := H
   obtain ⟨hcz20_0, hcz20_1, hfz20_0, hfz20_1⟩ := cz2 BK386.1
   go_wp2
   go_ret2
   exact ⟨RF, BL HB.1⟩
 have c19b0 := beq_eq_false_iff_ne.mpr c19
 have c19b1 := bne_iff_ne.mpr c19
 replace H := ifQ H; rcases H with ⟨c21, H⟩ | ⟨c21, H⟩
 · have c21b0 := beq_iff_eq.mpr c21
   have c21b1 := bne_eq_false_iff_eq.mpr c21
   clear c21
   simp only [Option.some.injEq, Prod.mk.injEq] at H
   obtain ⟨rfl, rfl⟩ := H
   obtain ⟨hcz22_0, hcz22_1, hfz22_0, hfz22_1⟩ := cz2 BK386.1
   go_wp2
   go_ret2
   exact ⟨RF, BL HB.1⟩
 have c21b0 := beq_eq_false_iff_ne.mpr c21
 have c21b1 := bne_iff_ne.mpr c21
 have HC23 := Aside0.mk H
 clear H
 obtain ⟨hcz24_0, hcz24_1, hfz24_0, hfz24_1⟩ := cz2 BK386.1
 go_upto_if 28 with (fail)
 go_cut [28] (fun v28 wc => ∃ (kq : Nat) (x28_22 : Bool), v28 = .bool x28_22 /\ Aside0 (impl_GoesTo.j1 kq a1 a0_0 x28_22 a0_0 a0_1 = some (r1, r2)) /\ Aside0 (kq <= kj2) /\ Aside0 (wc.heap[gb386]? = some (.cells #[.int .i64 a0_0, .int .i64 a0_1] 98 (0, 0))) /\ Aside0 (Below w.heap.size w wc))
 case first =>
  have H := HC23.1
  clear HC23
  replace H := ifQ H; rcases H with ⟨c25, H⟩ | ⟨c25, H⟩
  · have c25b0 := beq_iff_eq.mpr c25
    have c25b1 := bne_eq_false_iff_eq.mpr c25
    clear c25
    (first | rw [c25b0] | (simp only [i64_w, i32_w]; rw [c25b0]) | skip)
    have H' := Aside0.mk H
    clear H
    go_wp2
    go_meet
    case rel => exact ⟨_, ((a0_0 == 3)), RG, H', ⟨by have := HJ2.1; first | omega | exact Nat.le_refl _⟩, ⟨PB BK386.1⟩, ⟨BL HB.1⟩⟩
  have c25b0 := beq_eq_false_iff_ne.mpr c25
  have c25b1 := bne_iff_ne.mpr c25
  (first | rw [c25b0] | (simp only [i64_w, i32_w]; rw [c25b0]) | skip)
  have H' := Aside0.mk H
  clear H
  go_wp2
  go_meet
  case rel => exact ⟨_, ((a0_0 == 6)), RG, H', ⟨by have := HJ2.1; first | omega | exact Nat.le_refl _⟩, ⟨PB BK386.1⟩, ⟨BL HB.1⟩⟩
 clear HC23
 try clear c19; try clear c21; clear c19b0 c19b1 c21b0 c21b1 hcz24_0 hcz24_1 hfz24_0 hfz24_1
 obtain ⟨kq, x28_22, rfl, HA, HJ22, BK386, HB⟩ := hcut
 cases kq with
 | zero => exact absurd HA.1 (by simp [impl_GoesTo.j1])
 | succ kj22 => ?_
 have H := HA.1
 clear HA
 simp only [impl_GoesTo.j1] at H
 replace H := ifX H; rcases H with ⟨rfl, H⟩ | ⟨rfl, H⟩
 · simp only [Option.some.injEq, Prod.mk.injEq] at H
   obtain ⟨rfl, rfl⟩ := H
   obtain ⟨hcz27_0, hcz27_1, hfz27_0, hfz27_1⟩ := cz2 BK386.1
   go_wp2
   go_ret2
   exact ⟨RF, BL HB.1⟩
 replace H := ifQ H; rcases H with ⟨c28, H⟩ | ⟨c28, H⟩
 · have c28b0 := beq_iff_eq.mpr c28
   have c28b1 := bne_eq_false_iff_eq.mpr c28
   clear c28
   simp only [Option.some.injEq, Prod.mk.injEq] at H
   obtain ⟨rfl, rfl⟩ := H
   go_wp2
   go_ret2
   exact ⟨RF, BL HB.1⟩
 have c28b0 := beq_eq_false_iff_ne.mpr c28
 have c28b1 := bne_iff_ne.mpr c28
 simp only [Option.some.injEq, Prod.mk.injEq] at H
 obtain ⟨rfl, rfl⟩ := H
 go_wp2
 go_ret2
 exact ⟨RF, BL HB.1⟩
end Go.Proofs.Ythnehlphifegaaa.P
