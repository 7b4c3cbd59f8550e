-- PRINTED by print.py (a twelfth state) out of the translation. Not trusted: Lean checks it.
import Derived.Test.YtakihdabbpconaaPx0
import Derived.Test.YtakihdabbpconaaMapW
namespace Go.Proofs.Ytakihdabbpconaa.P
open Go.RowKit Go.Proofs.YtakihdabbpconaaW.PrintWords Go.Proofs.YtakihdabbpconaaW.PrintLast Go.Proofs.YtakihdabbpconaaW.PrintMore
attribute [local go_sem] max2_int min2_int max_two min_two max_three min_three max_four min_four   -- for this text's walks alone
set_option linter.unusedVariables false
set_option linter.unusedSimpArgs false

/-! ### impl_isGeared: function 87 -/
def impl_isGeared.f (a0_0 : Int) (a0_1 : Int) : Option (Bool) := if a0_0 = 6 then (some true) else (some (a0_0 == 7))
set_option maxHeartbeats 8000000 in
set_option maxRecDepth 100000 in
theorem impl_isGeared.calls (a0_0 : Int) (a0_1 : Int) (r : Bool) (w : World) (h : impl_isGeared.f a0_0 a0_1 = some r) :
    Calls Try.prog 87 #[.agg #[.int .i64 a0_0, .int .i64 a0_1]] w fun e w' => e = .returned (.bool r) ∧ Below w.heap.size w w' := by
  have hu73 := Try.underlying73
  have HB := Aside0.mk (Below.refl w.heap.size w)
  have H := h
  clear h
  unfold impl_isGeared.f at H
  replace H := ifQ H; rcases H with ⟨c2, H⟩ | ⟨c2, H⟩
  · have c2b0 := beq_iff_eq.mpr c2
    have c2b1 := bne_eq_false_iff_eq.mpr c2
    clear c2
    obtain rfl := Option.some.inj H
    go_enter Try.func87, Try.ntmps87
    go_wp2_with (first | ((with_reducible refine gate_dst (N := 1) rfl ?_); refine boxE (N := 1) (cs := #[.int .i64 a0_0, .int .i64 a0_1]) (t := 73) ?_; intro gb243 hg w3 hbox hb; refine E4b HB.out hg hbox hb ?_; clear HB; intro HB BK243 GW243 GE243; clear hb hbox hg; obtain ⟨hcz4_0, hcz4_1, hfz4_0, hfz4_1⟩ := cz2 BK243.out))
    go_ret
    exact ⟨RF, BL HB.out⟩
  have c2b0 := beq_eq_false_iff_ne.mpr c2
  have c2b1 := bne_iff_ne.mpr c2
  obtain rfl := Option.some.inj H
  go_enter Try.func87, Try.ntmps87
  go_wp2_with (first | ((with_reducible refine gate_dst (N := 1) rfl ?_); refine boxE (N := 1) (cs := #[.int .i64 a0_0, .int .i64 a0_1]) (t := 73) ?_; intro gb243 hg w5 hbox hb; refine E4b HB.out hg hbox hb ?_; clear HB; intro HB BK243 GW243 GE243; clear hb hbox hg; obtain ⟨hcz6_0, hcz6_1, hfz6_0, hfz6_1⟩ := cz2 BK243.out))
  go_ret
  exact ⟨RF, BL HB.out⟩
/-! ### impl_besideOf: function 88 -/
mutual
def impl_besideOf.j0 : Nat → Int → List Int → Int → Int → Int → Int → List (S73) → Option (List Int)
  | 0, _, _, _, _, _, _, _ => none
  | k + 1, x1, x5, x6, x7, x245000, x245001, x245002 => if x7 > 0 then (if x5.length < 17592186044416 then (impl_besideOf.j1 k x1 (x5 ++ [wrap64 (x1 - 1)]) x6 x7 x245000 x245001 x245002) else (none)) else (impl_besideOf.j1 k x1 x5 x6 x7 x245000 x245001 x245002)
def impl_besideOf.j1 : Nat → Int → List Int → Int → Int → Int → Int → List (S73) → Option (List Int)
  | 0, _, _, _, _, _, _, _ => none
  | k + 1, x1, x5, x6, x7, x245000, x245001, x245002 => if (wrap64 (x7 + 1)) < x245001 then (if x5.length < 17592186044416 then ((some (x5 ++ [wrap64 (x1 + 1)] : List Int)).bind fun y254 => (if (wrap64 (x6 + 1)) < x245000 then (if y254.length < 17592186044416 then (some (y254 ++ [wrap64 (x1 + x245001)])) else (none)) else (some y254))) else (none)) else (if (wrap64 (x6 + 1)) < x245000 then (if x5.length < 17592186044416 then (some (x5 ++ [wrap64 (x1 + x245001)])) else (none)) else (some x5))
end
def impl_besideOf.f (k : Nat) (a0_0 : Int) (a0_1 : Int) (l0_2 : List (S73)) (a1 : Int) : Option (List Int) := (some (([] : List Int) : List Int)).bind fun y245 => (if a0_1 = 0 then (none) else (if (wrap64 (Int.tdiv a1 a0_1)) > 0 then (if y245.length < 17592186044416 then (impl_besideOf.j0 k a1 (y245 ++ [wrap64 (a1 - a0_1)]) (wrap64 (Int.tdiv a1 a0_1)) (Int.tmod a1 a0_1) a0_0 a0_1 l0_2) else (none)) else (impl_besideOf.j0 k a1 y245 (wrap64 (Int.tdiv a1 a0_1)) (Int.tmod a1 a0_1) a0_0 a0_1 l0_2)))
theorem impl_besideOf.mono_l : ∀ k, (∀ y0 y1 y2 y3 y4 y5 y6, LeO (impl_besideOf.j0 k y0 y1 y2 y3 y4 y5 y6) (impl_besideOf.j0 (k + 1) y0 y1 y2 y3 y4 y5 y6)) ∧ (∀ y0 y1 y2 y3 y4 y5 y6, LeO (impl_besideOf.j1 k y0 y1 y2 y3 y4 y5 y6) (impl_besideOf.j1 (k + 1) y0 y1 y2 y3 y4 y5 y6))
  | 0 => by refine ⟨?_, ?_⟩ <;> (intros; intro r h; first | (simp [impl_besideOf.j0] at h; done) | (simp [impl_besideOf.j1] at h; done))
  | k + 1 => by
    obtain ⟨ih0, ih1⟩ := impl_besideOf.mono_l k
    refine ⟨?_, ?_⟩ <;> (
      intros
      first | unfold impl_besideOf.j0 | unfold impl_besideOf.j1
      repeat' first | (with_reducible first | apply ih0 | apply ih1 | exact LeO.refl _ | exact LeO.none _ | refine LeO.ite ?_ ?_ | refine LeO.bind ?_ (fun _ => ?_)) | apply ih0 | apply ih1 | exact LeO.none _ | refine LeO.ite ?_ ?_ | refine LeO.bind ?_ (fun _ => ?_))
theorem impl_besideOf.mono : ∀ a0 a1 a2 a3 k, LeO (impl_besideOf.f k a0 a1 a2 a3) (impl_besideOf.f (k + 1) a0 a1 a2 a3) := by
  intro a0 a1 a2 a3 k
  obtain ⟨ih0, ih1⟩ := impl_besideOf.mono_l k
  unfold impl_besideOf.f
  repeat' first | (with_reducible first | apply ih0 | apply ih1 | exact LeO.refl _ | exact LeO.none _ | refine LeO.ite ?_ ?_ | refine LeO.bind ?_ (fun _ => ?_)) | apply ih0 | apply ih1 | exact LeO.none _ | refine LeO.ite ?_ ?_ | refine LeO.bind ?_ (fun _ => ?_)
set_option maxHeartbeats 8000000 in
set_option maxRecDepth 100000 in
theorem impl_besideOf.calls (k : Nat) (a0_0 : Int) (a0_1 : Int) (A0_2 : Option Addr) (c0_2 : Nat) (l0_2 : List (S73)) (a1 : Int) (r : List Int) (w : World) (hr0_2 : Kd.C k73 w A0_2 l0_2.length l0_2) (hc0_2 : l0_2.length ≤ c0_2) (h : impl_besideOf.f k a0_0 a0_1 l0_2 a1 = some r) :
    Calls Try.prog 88 #[.agg #[.int .i64 a0_0, .int .i64 a0_1, .slice A0_2 l0_2.length c0_2], .int .i64 a1] w fun e w' => ∃ v0_ : Value, e = .returned (v0_) ∧ Kd.R (Kd.int .i64) 3 w' w.heap.size (fun _ => True) v0_ r ∧ Below w.heap.size w w' := by
  have hu30 := Try.underlying30
  have HR0_2 := Aside0.mk hr0_2
  have HC0_2 := Aside0.mk hc0_2
  clear hr0_2 hc0_2
  have HB := Aside0.mk (Below.refl w.heap.size w)
  have H := h
  clear h
  unfold impl_besideOf.f at H
  replace H := nameB H; obtain ⟨y245, Ny245, H⟩ := H
  replace H := ifQ H; rcases H with ⟨c3, H⟩ | ⟨c3, H⟩
  · exact absurd H (by simp)
  have c3b0 := beq_eq_false_iff_ne.mpr c3
  have c3b1 := bne_iff_ne.mpr c3
  have HC4 := Aside0.mk H
  clear H
  go_enter Try.func88, Try.ntmps88
  go_upto_if 18 with (first | ((with_reducible refine gate_dst (N := 2) rfl ?_); refine boxE (N := 2) (cs := #[.int .i64 a0_0, .int .i64 a0_1, .slice A0_2 l0_2.length c0_2]) (t := 30) ?_; intro gb244 hg w5 hbox hb; refine E4b HB.out hg hbox hb ?_; clear HB; intro HB BK244 GW244 GE244; clear hb hbox hg) | ((with_reducible refine gate_dst (N := 8) rfl ?_); refine Kd.R_lit (Kd.int .i64) _ 3 ?hg (N := 8) ?hd (xs := ([] : List Int)) (inner := []) (ok := fun _ => True) (okp := fun _ => True) ?hr ?hp (fun _ hk => hk) trivial (Below.refl _ _) (Nat.le_refl _) (by simp) ?_; (case hd => rfl); (case hg => rfl); (case hr => first | (go_simp; done) | (go_simp; rfl)); (case hp => exact (Reps.none _ _)); intro v246 w6 ho7 hb hg_ hnew_; clear hg_ hnew_; (first | rw [← Ny245.out] at ho7 | (simp only [Int.reduceToNat] at ho7; rw [← Ny245.out] at ho7)); refine E3 (Kd.R_lower ho7 (below_size (BL HB.out))) (bB BK244.out hb) (below_step (BL HB.out) hb) ?_; clear BK244 HB; intro HO247 BK244 HB; clear hb ho7; obtain ⟨hcz8_0, hcz8_1, hcz8_2, hfz8_0, hfz8_1, hfz8_2⟩ := cz3 BK244.out))
  repeat (go_quiet (first | ((with_reducible refine gate_dst (N := 2) rfl ?_); refine boxE (N := 2) (cs := #[.int .i64 a0_0, .int .i64 a0_1, .slice A0_2 l0_2.length c0_2]) (t := 30) ?_; intro gb244 hg w5 hbox hb; refine E4b HB.out hg hbox hb ?_; clear HB; intro HB BK244 GW244 GE244; clear hb hbox hg) | ((with_reducible refine gate_dst (N := 8) rfl ?_); refine Kd.R_lit (Kd.int .i64) _ 3 ?hg (N := 8) ?hd (xs := ([] : List Int)) (inner := []) (ok := fun _ => True) (okp := fun _ => True) ?hr ?hp (fun _ hk => hk) trivial (Below.refl _ _) (Nat.le_refl _) (by simp) ?_; (case hd => rfl); (case hg => rfl); (case hr => first | (go_simp; done) | (go_simp; rfl)); (case hp => exact (Reps.none _ _)); intro v246 w6 ho7 hb hg_ hnew_; clear hg_ hnew_; (first | rw [← Ny245.out] at ho7 | (simp only [Int.reduceToNat] at ho7; rw [← Ny245.out] at ho7)); refine E3 (Kd.R_lower ho7 (below_size (BL HB.out))) (bB BK244.out hb) (below_step (BL HB.out) hb) ?_; clear BK244 HB; intro HO247 BK244 HB; clear hb ho7; obtain ⟨hcz8_0, hcz8_1, hcz8_2, hfz8_0, hfz8_1, hfz8_2⟩ := cz3 BK244.out)); go_upto_if 18 with (first | ((with_reducible refine gate_dst (N := 2) rfl ?_); refine boxE (N := 2) (cs := #[.int .i64 a0_0, .int .i64 a0_1, .slice A0_2 l0_2.length c0_2]) (t := 30) ?_; intro gb244 hg w5 hbox hb; refine E4b HB.out hg hbox hb ?_; clear HB; intro HB BK244 GW244 GE244; clear hb hbox hg) | ((with_reducible refine gate_dst (N := 8) rfl ?_); refine Kd.R_lit (Kd.int .i64) _ 3 ?hg (N := 8) ?hd (xs := ([] : List Int)) (inner := []) (ok := fun _ => True) (okp := fun _ => True) ?hr ?hp (fun _ hk => hk) trivial (Below.refl _ _) (Nat.le_refl _) (by simp) ?_; (case hd => rfl); (case hg => rfl); (case hr => first | (go_simp; done) | (go_simp; rfl)); (case hp => exact (Reps.none _ _)); intro v246 w6 ho7 hb hg_ hnew_; clear hg_ hnew_; (first | rw [← Ny245.out] at ho7 | (simp only [Int.reduceToNat] at ho7; rw [← Ny245.out] at ho7)); refine E3 (Kd.R_lower ho7 (below_size (BL HB.out))) (bB BK244.out hb) (below_step (BL HB.out) hb) ?_; clear BK244 HB; intro HO247 BK244 HB; clear hb ho7; obtain ⟨hcz8_0, hcz8_1, hcz8_2, hfz8_0, hfz8_1, hfz8_2⟩ := cz3 BK244.out)))
  (try simp only [Act.put, List.setIfInBounds_toArray, List.set_cons_zero, List.set_cons_succ])
  go_cut [5] (fun v5 wc => ∃ (kq : Nat) (x5_3 : List Int), Aside0 (impl_besideOf.j0 kq a1 x5_3 (wrap64 (Int.tdiv a1 a0_1)) (Int.tmod a1 a0_1) a0_0 a0_1 l0_2 = some r) ∧ Aside0 (kq ≤ k) ∧ Aside0 (Kd.R (Kd.int .i64) 3 wc w.heap.size (fun _ => True) v5 x5_3) ∧ Aside0 (wc.heap[gb244]? = some (.cells #[.int .i64 a0_0, .int .i64 a0_1, (.slice A0_2 l0_2.length c0_2)] 30 (0, 0))) ∧ Aside0 (Below w.heap.size w wc))
  case first =>
    have H := HC4.out
    clear HC4
    replace H := ifQ H; rcases H with ⟨c9, H⟩ | ⟨c9, H⟩
    · have c9b0 : decide (0 < (wrap64 (Int.tdiv a1 a0_1))) = true := decide_eq_true c9
      clear c9
      (first | rw [c9b0] | (simp only [i64_w, i32_w]; rw [c9b0]) | skip)
      replace H := ifP H; obtain ⟨c10, H⟩ := H
      have LMc10 := Aside0.mk c10
      clear c10
      generalize hy248 : ((y245 ++ [wrap64 (a1 - a0_1)]) : List Int) = y248 at H
      have Ny248 := Aside0.mk hy248.symm; clear hy248
      have H' := Aside0.mk H
      clear H
      obtain ⟨hcz11_0, hcz11_1, hcz11_2, hfz11_0, hfz11_1, hfz11_2⟩ := cz3 BK244.out
      go_wp2_with (first | ((with_reducible refine gate_builtin (b := .append) (xs := #[.tmp 19, .tmp 24]) rfl ?_); at_builtin; refine Kd.R_append (Kd.int .i64) (w0 := w) w.heap.size rfl (.tmp 19) (.tmp 24) 36 3 (.int .i64 0) 8 rfl Try.underlying36 info3 rfl (by decide) (by omega) v246 y245 (wrap64 (a1 - a0_1)) [.int .i64 (wrap64 (a1 - a0_1))] (fun _ => True) (fun _ => False) rfl rfl ?aP (fun _ hk => hk.elim) ?aF ?aO ?aB ?aS ?aL ?_; (case aP => exact rfl); (case aB => exact (BL HB.out)); (case aF => exact (fun _ _ => trivial)); (case aO => exact (PR HO247.out)); (case aS => exact (below_size (BL HB.out))); (case aL => have := LMc10.out; omega); intro v249 w12 ho hb hg hat; rw [← Ny248.out] at ho; refine E3 (bG BK244.out hg (Kd.R_ne HO247.out BK244.out (by decide))) (hb) (ho) ?_; clear BK244 HB HO247; intro BK244 HB HO250; clear ho hb hg hat))
      repeat (go_quiet (first | ((with_reducible refine gate_builtin (b := .append) (xs := #[.tmp 19, .tmp 24]) rfl ?_); at_builtin; refine Kd.R_append (Kd.int .i64) (w0 := w) w.heap.size rfl (.tmp 19) (.tmp 24) 36 3 (.int .i64 0) 8 rfl Try.underlying36 info3 rfl (by decide) (by omega) v246 y245 (wrap64 (a1 - a0_1)) [.int .i64 (wrap64 (a1 - a0_1))] (fun _ => True) (fun _ => False) rfl rfl ?aP (fun _ hk => hk.elim) ?aF ?aO ?aB ?aS ?aL ?_; (case aP => exact rfl); (case aB => exact (BL HB.out)); (case aF => exact (fun _ _ => trivial)); (case aO => exact (PR HO247.out)); (case aS => exact (below_size (BL HB.out))); (case aL => have := LMc10.out; omega); intro v249 w12 ho hb hg hat; rw [← Ny248.out] at ho; refine E3 (bG BK244.out hg (Kd.R_ne HO247.out BK244.out (by decide))) (hb) (ho) ?_; clear BK244 HB HO247; intro BK244 HB HO250; clear ho hb hg hat)); try go_wp2_with (first | ((with_reducible refine gate_builtin (b := .append) (xs := #[.tmp 19, .tmp 24]) rfl ?_); at_builtin; refine Kd.R_append (Kd.int .i64) (w0 := w) w.heap.size rfl (.tmp 19) (.tmp 24) 36 3 (.int .i64 0) 8 rfl Try.underlying36 info3 rfl (by decide) (by omega) v246 y245 (wrap64 (a1 - a0_1)) [.int .i64 (wrap64 (a1 - a0_1))] (fun _ => True) (fun _ => False) rfl rfl ?aP (fun _ hk => hk.elim) ?aF ?aO ?aB ?aS ?aL ?_; (case aP => exact rfl); (case aB => exact (BL HB.out)); (case aF => exact (fun _ _ => trivial)); (case aO => exact (PR HO247.out)); (case aS => exact (below_size (BL HB.out))); (case aL => have := LMc10.out; omega); intro v249 w12 ho hb hg hat; rw [← Ny248.out] at ho; refine E3 (bG BK244.out hg (Kd.R_ne HO247.out BK244.out (by decide))) (hb) (ho) ?_; clear BK244 HB HO247; intro BK244 HB HO250; clear ho hb hg hat)))
      go_meet
      case rel => exact ⟨_, (y248), H', ⟨by first | omega | exact Nat.le_refl _⟩, ⟨PR HO250.out⟩, ⟨PB BK244.out⟩, ⟨BL HB.out⟩⟩
    have c9b0 : decide (0 < (wrap64 (Int.tdiv a1 a0_1))) = false := decide_eq_false c9
    clear c9
    (first | rw [c9b0] | (simp only [i64_w, i32_w]; rw [c9b0]) | skip)
    have H' := Aside0.mk H
    clear H
    go_wp2
    repeat (go_quiet (fail); try go_wp2)
    go_meet
    case rel => exact ⟨_, (y245), H', ⟨by first | omega | exact Nat.le_refl _⟩, ⟨PR HO247.out⟩, ⟨PB BK244.out⟩, ⟨BL HB.out⟩⟩
  clear HC4
  try clear c3; try clear c3b0; try clear c3b1; try clear hcz8_0; try clear hcz8_1; try clear hcz8_2; try clear hfz8_0; try clear hfz8_1; try clear hfz8_2
  obtain ⟨kq, x5_3, HA, HJ3, HO_5, BK244, HB⟩ := hcut
  cases kq with
  | zero => exact absurd HA.out (by simp [impl_besideOf.j0])
  | succ kj3 => ?_
  have H := HA.out
  clear HA
  simp only [impl_besideOf.j0] at H
  have HC13 := Aside0.mk H
  clear H
  go_upto_if 27 with (fail)
  repeat (go_quiet (fail); go_upto_if 27 with (fail))
  go_cut [5] (fun v5 wc => ∃ (kq : Nat) (x5_12 : List Int), Aside0 (impl_besideOf.j1 kq a1 x5_12 (wrap64 (Int.tdiv a1 a0_1)) (Int.tmod a1 a0_1) a0_0 a0_1 l0_2 = some r) ∧ Aside0 (kq ≤ kj3) ∧ Aside0 (Kd.R (Kd.int .i64) 3 wc w.heap.size (fun _ => True) v5 x5_12) ∧ Aside0 (wc.heap[gb244]? = some (.cells #[.int .i64 a0_0, .int .i64 a0_1, (.slice A0_2 l0_2.length c0_2)] 30 (0, 0))) ∧ Aside0 (Below w.heap.size w wc))
  case first =>
    have H := HC13.out
    clear HC13
    replace H := ifQ H; rcases H with ⟨c14, H⟩ | ⟨c14, H⟩
    · have c14b0 : decide (0 < (Int.tmod a1 a0_1)) = true := decide_eq_true c14
      clear c14
      (first | rw [c14b0] | (simp only [i64_w, i32_w]; rw [c14b0]) | skip)
      replace H := ifP H; obtain ⟨c15, H⟩ := H
      have LMc15 := Aside0.mk c15
      clear c15
      generalize hy251 : ((x5_3 ++ [wrap64 (a1 - 1)]) : List Int) = y251 at H
      have Ny251 := Aside0.mk hy251.symm; clear hy251
      have H' := Aside0.mk H
      clear H
      go_wp2_with (first | ((with_reducible refine gate_builtin (b := .append) (xs := #[.tmp 28, .tmp 31]) rfl ?_); at_builtin; refine Kd.R_append (Kd.int .i64) (w0 := w) w.heap.size rfl (.tmp 28) (.tmp 31) 36 3 (.int .i64 0) 8 rfl Try.underlying36 info3 rfl (by decide) (by omega) u5 x5_3 (wrap64 (a1 - 1)) [.int .i64 (wrap64 (a1 - 1))] (fun _ => True) (fun _ => False) rfl rfl ?aP (fun _ hk => hk.elim) ?aF ?aO ?aB ?aS ?aL ?_; (case aP => exact rfl); (case aB => exact (BL HB.out)); (case aF => exact (fun _ _ => trivial)); (case aO => exact (PR HO_5.out)); (case aS => exact (below_size (BL HB.out))); (case aL => have := LMc15.out; omega); intro v252 w16 ho hb hg hat; rw [← Ny251.out] at ho; refine E3 (bG BK244.out hg (Kd.R_ne HO_5.out BK244.out (by decide))) (hb) (ho) ?_; clear BK244 HB HO_5; intro BK244 HB HO253; clear ho hb hg hat))
      repeat (go_quiet (first | ((with_reducible refine gate_builtin (b := .append) (xs := #[.tmp 28, .tmp 31]) rfl ?_); at_builtin; refine Kd.R_append (Kd.int .i64) (w0 := w) w.heap.size rfl (.tmp 28) (.tmp 31) 36 3 (.int .i64 0) 8 rfl Try.underlying36 info3 rfl (by decide) (by omega) u5 x5_3 (wrap64 (a1 - 1)) [.int .i64 (wrap64 (a1 - 1))] (fun _ => True) (fun _ => False) rfl rfl ?aP (fun _ hk => hk.elim) ?aF ?aO ?aB ?aS ?aL ?_; (case aP => exact rfl); (case aB => exact (BL HB.out)); (case aF => exact (fun _ _ => trivial)); (case aO => exact (PR HO_5.out)); (case aS => exact (below_size (BL HB.out))); (case aL => have := LMc15.out; omega); intro v252 w16 ho hb hg hat; rw [← Ny251.out] at ho; refine E3 (bG BK244.out hg (Kd.R_ne HO_5.out BK244.out (by decide))) (hb) (ho) ?_; clear BK244 HB HO_5; intro BK244 HB HO253; clear ho hb hg hat)); try go_wp2_with (first | ((with_reducible refine gate_builtin (b := .append) (xs := #[.tmp 28, .tmp 31]) rfl ?_); at_builtin; refine Kd.R_append (Kd.int .i64) (w0 := w) w.heap.size rfl (.tmp 28) (.tmp 31) 36 3 (.int .i64 0) 8 rfl Try.underlying36 info3 rfl (by decide) (by omega) u5 x5_3 (wrap64 (a1 - 1)) [.int .i64 (wrap64 (a1 - 1))] (fun _ => True) (fun _ => False) rfl rfl ?aP (fun _ hk => hk.elim) ?aF ?aO ?aB ?aS ?aL ?_; (case aP => exact rfl); (case aB => exact (BL HB.out)); (case aF => exact (fun _ _ => trivial)); (case aO => exact (PR HO_5.out)); (case aS => exact (below_size (BL HB.out))); (case aL => have := LMc15.out; omega); intro v252 w16 ho hb hg hat; rw [← Ny251.out] at ho; refine E3 (bG BK244.out hg (Kd.R_ne HO_5.out BK244.out (by decide))) (hb) (ho) ?_; clear BK244 HB HO_5; intro BK244 HB HO253; clear ho hb hg hat)))
      go_meet
      case rel => exact ⟨_, (y251), H', ⟨by have := HJ3.out; first | omega | exact Nat.le_refl _⟩, ⟨PR HO253.out⟩, ⟨PB BK244.out⟩, ⟨BL HB.out⟩⟩
    have c14b0 : decide (0 < (Int.tmod a1 a0_1)) = false := decide_eq_false c14
    clear c14
    (first | rw [c14b0] | (simp only [i64_w, i32_w]; rw [c14b0]) | skip)
    have H' := Aside0.mk H
    clear H
    go_wp2
    repeat (go_quiet (fail); try go_wp2)
    go_meet
    case rel => exact ⟨_, (x5_3), H', ⟨by have := HJ3.out; first | omega | exact Nat.le_refl _⟩, ⟨PR HO_5.out⟩, ⟨PB BK244.out⟩, ⟨BL HB.out⟩⟩
  clear HC13
  obtain ⟨kq, x5_12, HA, HJ12, HO_5, BK244, HB⟩ := hcut
  cases kq with
  | zero => exact absurd HA.out (by simp [impl_besideOf.j1])
  | succ kj12 => ?_
  have H := HA.out
  clear HA
  simp only [impl_besideOf.j1] at H
  replace H := ifB H; rcases H with ⟨c17b0, H⟩ | ⟨c17b0, H⟩
  · replace H := ifP H; obtain ⟨c18, H⟩ := H
    have LMc18 := Aside0.mk c18
    clear c18
    replace H := nameB H; obtain ⟨y254, Ny254, H⟩ := H
    replace H := ifB H; rcases H with ⟨c19b0, H⟩ | ⟨c19b0, H⟩
    · replace H := ifP H; obtain ⟨c20, H⟩ := H
      have LMc20 := Aside0.mk c20
      clear c20
      generalize hy257 : ((y254 ++ [wrap64 (a1 + a0_1)]) : List Int) = y257 at H
      have Ny257 := Aside0.mk hy257.symm; clear hy257
      obtain rfl := Option.some.inj H
      obtain ⟨hcz21_0, hcz21_1, hcz21_2, hfz21_0, hfz21_1, hfz21_2⟩ := cz3 BK244.out
      go_wp2_with (first | ((with_reducible refine gate_builtin (b := .append) (xs := #[.tmp 38, .tmp 41]) rfl ?_); at_builtin; refine Kd.R_append (Kd.int .i64) (w0 := w) w.heap.size rfl (.tmp 38) (.tmp 41) 36 3 (.int .i64 0) 8 rfl Try.underlying36 info3 rfl (by decide) (by omega) u5 x5_12 (wrap64 (a1 + 1)) [.int .i64 (wrap64 (a1 + 1))] (fun _ => True) (fun _ => False) rfl rfl ?aP (fun _ hk => hk.elim) ?aF ?aO ?aB ?aS ?aL ?_; (case aP => exact rfl); (case aB => exact (BL HB.out)); (case aF => exact (fun _ _ => trivial)); (case aO => exact (PR HO_5.out)); (case aS => exact (below_size (BL HB.out))); (case aL => have := LMc18.out; omega); intro v255 w22 ho hb hg hat; rw [← Ny254.out] at ho; refine E3 (bG BK244.out hg (Kd.R_ne HO_5.out BK244.out (by decide))) (hb) (ho) ?_; clear BK244 HB HO_5; intro BK244 HB HO256; clear ho hb hg hat; obtain ⟨hcz23_0, hcz23_1, hcz23_2, hfz23_0, hfz23_1, hfz23_2⟩ := cz3 BK244.out) | ((with_reducible refine gate_builtin (b := .append) (xs := #[.tmp 48, .tmp 53]) rfl ?_); at_builtin; refine Kd.R_append (Kd.int .i64) (w0 := w) w.heap.size rfl (.tmp 48) (.tmp 53) 36 3 (.int .i64 0) 8 rfl Try.underlying36 info3 rfl (by decide) (by omega) v255 y254 (wrap64 (a1 + a0_1)) [.int .i64 (wrap64 (a1 + a0_1))] (fun _ => True) (fun _ => False) rfl rfl ?aP (fun _ hk => hk.elim) ?aF ?aO ?aB ?aS ?aL ?_; (case aP => exact rfl); (case aB => exact (BL HB.out)); (case aF => exact (fun _ _ => trivial)); (case aO => exact (PR HO256.out)); (case aS => exact (below_size (BL HB.out))); (case aL => have := LMc20.out; omega); intro v258 w24 ho hb hg hat; rw [← Ny257.out] at ho; refine E3 (bG BK244.out hg (Kd.R_ne HO256.out BK244.out (by decide))) (hb) (ho) ?_; clear BK244 HB HO256; intro BK244 HB HO259; clear ho hb hg hat))
      repeat (go_quiet (first | ((with_reducible refine gate_builtin (b := .append) (xs := #[.tmp 38, .tmp 41]) rfl ?_); at_builtin; refine Kd.R_append (Kd.int .i64) (w0 := w) w.heap.size rfl (.tmp 38) (.tmp 41) 36 3 (.int .i64 0) 8 rfl Try.underlying36 info3 rfl (by decide) (by omega) u5 x5_12 (wrap64 (a1 + 1)) [.int .i64 (wrap64 (a1 + 1))] (fun _ => True) (fun _ => False) rfl rfl ?aP (fun _ hk => hk.elim) ?aF ?aO ?aB ?aS ?aL ?_; (case aP => exact rfl); (case aB => exact (BL HB.out)); (case aF => exact (fun _ _ => trivial)); (case aO => exact (PR HO_5.out)); (case aS => exact (below_size (BL HB.out))); (case aL => have := LMc18.out; omega); intro v255 w22 ho hb hg hat; rw [← Ny254.out] at ho; refine E3 (bG BK244.out hg (Kd.R_ne HO_5.out BK244.out (by decide))) (hb) (ho) ?_; clear BK244 HB HO_5; intro BK244 HB HO256; clear ho hb hg hat; obtain ⟨hcz23_0, hcz23_1, hcz23_2, hfz23_0, hfz23_1, hfz23_2⟩ := cz3 BK244.out) | ((with_reducible refine gate_builtin (b := .append) (xs := #[.tmp 48, .tmp 53]) rfl ?_); at_builtin; refine Kd.R_append (Kd.int .i64) (w0 := w) w.heap.size rfl (.tmp 48) (.tmp 53) 36 3 (.int .i64 0) 8 rfl Try.underlying36 info3 rfl (by decide) (by omega) v255 y254 (wrap64 (a1 + a0_1)) [.int .i64 (wrap64 (a1 + a0_1))] (fun _ => True) (fun _ => False) rfl rfl ?aP (fun _ hk => hk.elim) ?aF ?aO ?aB ?aS ?aL ?_; (case aP => exact rfl); (case aB => exact (BL HB.out)); (case aF => exact (fun _ _ => trivial)); (case aO => exact (PR HO256.out)); (case aS => exact (below_size (BL HB.out))); (case aL => have := LMc20.out; omega); intro v258 w24 ho hb hg hat; rw [← Ny257.out] at ho; refine E3 (bG BK244.out hg (Kd.R_ne HO256.out BK244.out (by decide))) (hb) (ho) ?_; clear BK244 HB HO256; intro BK244 HB HO259; clear ho hb hg hat)); try go_wp2_with (first | ((with_reducible refine gate_builtin (b := .append) (xs := #[.tmp 38, .tmp 41]) rfl ?_); at_builtin; refine Kd.R_append (Kd.int .i64) (w0 := w) w.heap.size rfl (.tmp 38) (.tmp 41) 36 3 (.int .i64 0) 8 rfl Try.underlying36 info3 rfl (by decide) (by omega) u5 x5_12 (wrap64 (a1 + 1)) [.int .i64 (wrap64 (a1 + 1))] (fun _ => True) (fun _ => False) rfl rfl ?aP (fun _ hk => hk.elim) ?aF ?aO ?aB ?aS ?aL ?_; (case aP => exact rfl); (case aB => exact (BL HB.out)); (case aF => exact (fun _ _ => trivial)); (case aO => exact (PR HO_5.out)); (case aS => exact (below_size (BL HB.out))); (case aL => have := LMc18.out; omega); intro v255 w22 ho hb hg hat; rw [← Ny254.out] at ho; refine E3 (bG BK244.out hg (Kd.R_ne HO_5.out BK244.out (by decide))) (hb) (ho) ?_; clear BK244 HB HO_5; intro BK244 HB HO256; clear ho hb hg hat; obtain ⟨hcz23_0, hcz23_1, hcz23_2, hfz23_0, hfz23_1, hfz23_2⟩ := cz3 BK244.out) | ((with_reducible refine gate_builtin (b := .append) (xs := #[.tmp 48, .tmp 53]) rfl ?_); at_builtin; refine Kd.R_append (Kd.int .i64) (w0 := w) w.heap.size rfl (.tmp 48) (.tmp 53) 36 3 (.int .i64 0) 8 rfl Try.underlying36 info3 rfl (by decide) (by omega) v255 y254 (wrap64 (a1 + a0_1)) [.int .i64 (wrap64 (a1 + a0_1))] (fun _ => True) (fun _ => False) rfl rfl ?aP (fun _ hk => hk.elim) ?aF ?aO ?aB ?aS ?aL ?_; (case aP => exact rfl); (case aB => exact (BL HB.out)); (case aF => exact (fun _ _ => trivial)); (case aO => exact (PR HO256.out)); (case aS => exact (below_size (BL HB.out))); (case aL => have := LMc20.out; omega); intro v258 w24 ho hb hg hat; rw [← Ny257.out] at ho; refine E3 (bG BK244.out hg (Kd.R_ne HO256.out BK244.out (by decide))) (hb) (ho) ?_; clear BK244 HB HO256; intro BK244 HB HO259; clear ho hb hg hat)))
      go_ret
      exact ⟨_, RF, by (with_reducible repeat (first | apply Kd.R_alloc | apply Kd.R_drewN | apply Kd.R_drew)); exact HO259.out, BL HB.out⟩
    obtain rfl := Option.some.inj H
    obtain ⟨hcz25_0, hcz25_1, hcz25_2, hfz25_0, hfz25_1, hfz25_2⟩ := cz3 BK244.out
    go_wp2_with (first | ((with_reducible refine gate_builtin (b := .append) (xs := #[.tmp 38, .tmp 41]) rfl ?_); at_builtin; refine Kd.R_append (Kd.int .i64) (w0 := w) w.heap.size rfl (.tmp 38) (.tmp 41) 36 3 (.int .i64 0) 8 rfl Try.underlying36 info3 rfl (by decide) (by omega) u5 x5_12 (wrap64 (a1 + 1)) [.int .i64 (wrap64 (a1 + 1))] (fun _ => True) (fun _ => False) rfl rfl ?aP (fun _ hk => hk.elim) ?aF ?aO ?aB ?aS ?aL ?_; (case aP => exact rfl); (case aB => exact (BL HB.out)); (case aF => exact (fun _ _ => trivial)); (case aO => exact (PR HO_5.out)); (case aS => exact (below_size (BL HB.out))); (case aL => have := LMc18.out; omega); intro v255 w26 ho hb hg hat; rw [← Ny254.out] at ho; refine E3 (bG BK244.out hg (Kd.R_ne HO_5.out BK244.out (by decide))) (hb) (ho) ?_; clear BK244 HB HO_5; intro BK244 HB HO256; clear ho hb hg hat; obtain ⟨hcz27_0, hcz27_1, hcz27_2, hfz27_0, hfz27_1, hfz27_2⟩ := cz3 BK244.out))
    repeat (go_quiet (first | ((with_reducible refine gate_builtin (b := .append) (xs := #[.tmp 38, .tmp 41]) rfl ?_); at_builtin; refine Kd.R_append (Kd.int .i64) (w0 := w) w.heap.size rfl (.tmp 38) (.tmp 41) 36 3 (.int .i64 0) 8 rfl Try.underlying36 info3 rfl (by decide) (by omega) u5 x5_12 (wrap64 (a1 + 1)) [.int .i64 (wrap64 (a1 + 1))] (fun _ => True) (fun _ => False) rfl rfl ?aP (fun _ hk => hk.elim) ?aF ?aO ?aB ?aS ?aL ?_; (case aP => exact rfl); (case aB => exact (BL HB.out)); (case aF => exact (fun _ _ => trivial)); (case aO => exact (PR HO_5.out)); (case aS => exact (below_size (BL HB.out))); (case aL => have := LMc18.out; omega); intro v255 w26 ho hb hg hat; rw [← Ny254.out] at ho; refine E3 (bG BK244.out hg (Kd.R_ne HO_5.out BK244.out (by decide))) (hb) (ho) ?_; clear BK244 HB HO_5; intro BK244 HB HO256; clear ho hb hg hat; obtain ⟨hcz27_0, hcz27_1, hcz27_2, hfz27_0, hfz27_1, hfz27_2⟩ := cz3 BK244.out)); try go_wp2_with (first | ((with_reducible refine gate_builtin (b := .append) (xs := #[.tmp 38, .tmp 41]) rfl ?_); at_builtin; refine Kd.R_append (Kd.int .i64) (w0 := w) w.heap.size rfl (.tmp 38) (.tmp 41) 36 3 (.int .i64 0) 8 rfl Try.underlying36 info3 rfl (by decide) (by omega) u5 x5_12 (wrap64 (a1 + 1)) [.int .i64 (wrap64 (a1 + 1))] (fun _ => True) (fun _ => False) rfl rfl ?aP (fun _ hk => hk.elim) ?aF ?aO ?aB ?aS ?aL ?_; (case aP => exact rfl); (case aB => exact (BL HB.out)); (case aF => exact (fun _ _ => trivial)); (case aO => exact (PR HO_5.out)); (case aS => exact (below_size (BL HB.out))); (case aL => have := LMc18.out; omega); intro v255 w26 ho hb hg hat; rw [← Ny254.out] at ho; refine E3 (bG BK244.out hg (Kd.R_ne HO_5.out BK244.out (by decide))) (hb) (ho) ?_; clear BK244 HB HO_5; intro BK244 HB HO256; clear ho hb hg hat; obtain ⟨hcz27_0, hcz27_1, hcz27_2, hfz27_0, hfz27_1, hfz27_2⟩ := cz3 BK244.out)))
    go_ret
    exact ⟨_, RF, by (with_reducible repeat (first | apply Kd.R_alloc | apply Kd.R_drewN | apply Kd.R_drew)); exact HO256.out, BL HB.out⟩
  replace H := ifB H; rcases H with ⟨c28b0, H⟩ | ⟨c28b0, H⟩
  · replace H := ifP H; obtain ⟨c29, H⟩ := H
    have LMc29 := Aside0.mk c29
    clear c29
    generalize hy260 : ((x5_12 ++ [wrap64 (a1 + a0_1)]) : List Int) = y260 at H
    have Ny260 := Aside0.mk hy260.symm; clear hy260
    obtain rfl := Option.some.inj H
    obtain ⟨hcz30_0, hcz30_1, hcz30_2, hfz30_0, hfz30_1, hfz30_2⟩ := cz3 BK244.out
    go_wp2_with (first | ((with_reducible refine gate_builtin (b := .append) (xs := #[.tmp 48, .tmp 53]) rfl ?_); at_builtin; refine Kd.R_append (Kd.int .i64) (w0 := w) w.heap.size rfl (.tmp 48) (.tmp 53) 36 3 (.int .i64 0) 8 rfl Try.underlying36 info3 rfl (by decide) (by omega) u5 x5_12 (wrap64 (a1 + a0_1)) [.int .i64 (wrap64 (a1 + a0_1))] (fun _ => True) (fun _ => False) rfl rfl ?aP (fun _ hk => hk.elim) ?aF ?aO ?aB ?aS ?aL ?_; (case aP => exact rfl); (case aB => exact (BL HB.out)); (case aF => exact (fun _ _ => trivial)); (case aO => exact (PR HO_5.out)); (case aS => exact (below_size (BL HB.out))); (case aL => have := LMc29.out; omega); intro v261 w31 ho hb hg hat; rw [← Ny260.out] at ho; refine E3 (bG BK244.out hg (Kd.R_ne HO_5.out BK244.out (by decide))) (hb) (ho) ?_; clear BK244 HB HO_5; intro BK244 HB HO262; clear ho hb hg hat))
    repeat (go_quiet (first | ((with_reducible refine gate_builtin (b := .append) (xs := #[.tmp 48, .tmp 53]) rfl ?_); at_builtin; refine Kd.R_append (Kd.int .i64) (w0 := w) w.heap.size rfl (.tmp 48) (.tmp 53) 36 3 (.int .i64 0) 8 rfl Try.underlying36 info3 rfl (by decide) (by omega) u5 x5_12 (wrap64 (a1 + a0_1)) [.int .i64 (wrap64 (a1 + a0_1))] (fun _ => True) (fun _ => False) rfl rfl ?aP (fun _ hk => hk.elim) ?aF ?aO ?aB ?aS ?aL ?_; (case aP => exact rfl); (case aB => exact (BL HB.out)); (case aF => exact (fun _ _ => trivial)); (case aO => exact (PR HO_5.out)); (case aS => exact (below_size (BL HB.out))); (case aL => have := LMc29.out; omega); intro v261 w31 ho hb hg hat; rw [← Ny260.out] at ho; refine E3 (bG BK244.out hg (Kd.R_ne HO_5.out BK244.out (by decide))) (hb) (ho) ?_; clear BK244 HB HO_5; intro BK244 HB HO262; clear ho hb hg hat)); try go_wp2_with (first | ((with_reducible refine gate_builtin (b := .append) (xs := #[.tmp 48, .tmp 53]) rfl ?_); at_builtin; refine Kd.R_append (Kd.int .i64) (w0 := w) w.heap.size rfl (.tmp 48) (.tmp 53) 36 3 (.int .i64 0) 8 rfl Try.underlying36 info3 rfl (by decide) (by omega) u5 x5_12 (wrap64 (a1 + a0_1)) [.int .i64 (wrap64 (a1 + a0_1))] (fun _ => True) (fun _ => False) rfl rfl ?aP (fun _ hk => hk.elim) ?aF ?aO ?aB ?aS ?aL ?_; (case aP => exact rfl); (case aB => exact (BL HB.out)); (case aF => exact (fun _ _ => trivial)); (case aO => exact (PR HO_5.out)); (case aS => exact (below_size (BL HB.out))); (case aL => have := LMc29.out; omega); intro v261 w31 ho hb hg hat; rw [← Ny260.out] at ho; refine E3 (bG BK244.out hg (Kd.R_ne HO_5.out BK244.out (by decide))) (hb) (ho) ?_; clear BK244 HB HO_5; intro BK244 HB HO262; clear ho hb hg hat)))
    go_ret
    exact ⟨_, RF, by (with_reducible repeat (first | apply Kd.R_alloc | apply Kd.R_drewN | apply Kd.R_drew)); exact HO262.out, BL HB.out⟩
  obtain rfl := Option.some.inj H
  obtain ⟨hcz32_0, hcz32_1, hcz32_2, hfz32_0, hfz32_1, hfz32_2⟩ := cz3 BK244.out
  go_wp2
  repeat (go_quiet (fail); try go_wp2)
  go_ret
  exact ⟨_, RF, by (with_reducible repeat (first | apply Kd.R_alloc | apply Kd.R_drewN | apply Kd.R_drew)); exact HO_5.out, BL HB.out⟩
/-! ### impl_groupNumbers: function 80 -/
mutual
def impl_groupNumbers.l0 : Nat → List Int → Int → Int → Int → Int → List (S73) → Option (List Int)
  | 0, _, _, _, _, _, _ => none
  | k + 1, x3, x17, x18, x264000, x264001, x264002 => if x18 < x17 then (if 0 ≤ x18 then (if x18 < (x3.length : Int) then (impl_groupNumbers.l0 k (x3.set (x18 : Int).toNat (-1)) x17 (wrap64 (x18 + 1)) x264000 x264001 x264002) else (none)) else (none)) else (impl_groupNumbers.l1 k x3 0 x264002 (x264002.length : Int) 0 x264000 x264001 x264002)
def impl_groupNumbers.l1 : Nat → List Int → Int → List (S73) → Int → Int → Int → Int → List (S73) → Option (List Int)
  | 0, _, _, _, _, _, _, _, _ => none
  | k + 1, x3, x5, x26, x27, x28, x264000, x264001, x264002 => if x28 < x27 then (if 0 ≤ x28 then (if x28 < (x26.length : Int) then ((impl_isGeared.f ((rd_T73 x26 x28).f0) ((rd_T73 x26 x28).f1)).bind fun t270 => (if t270 = true then (if x28 < (x3.length : Int) then (impl_groupNumbers.j2 k x3 x5 x28 x26 x27 x28 (decide ((rd x3 x28) ≥ 0)) x264000 x264001 x264002) else (none)) else (impl_groupNumbers.j2 k x3 x5 x28 x26 x27 x28 true x264000 x264001 x264002))) else (none)) else (none)) else (some x3)
def impl_groupNumbers.j2 : Nat → List Int → Int → Int → List (S73) → Int → Int → Bool → Int → Int → List (S73) → Option (List Int)
  | 0, _, _, _, _, _, _, _, _, _, _ => none
  | k + 1, x3, x5, x6, x26, x27, x28, x42, x264000, x264001, x264002 => if x42 = true then (impl_groupNumbers.l1 k x3 x5 x26 x27 (wrap64 (x28 + 1)) x264000 x264001 x264002) else (if 0 ≤ x6 then (if x6 < (x3.length : Int) then (impl_groupNumbers.l2 k (x3.set (x6 : Int).toNat x5) x5 (([x6] : List Int)) x26 x27 x28 x264000 x264001 x264002) else (none)) else (none))
def impl_groupNumbers.l2 : Nat → List Int → Int → List Int → List (S73) → Int → Int → Int → Int → List (S73) → Option (List Int)
  | 0, _, _, _, _, _, _, _, _, _ => none
  | k + 1, x3, x5, x8, x26, x27, x28, x264000, x264001, x264002 => if (x8.length : Int) > 0 then (if 0 < (x8.length : Int) then (if 1 ≤ (x8.length : Int) then ((impl_besideOf.f k x264000 x264001 x264002 (rd x8 0)).bind fun t280 => (impl_groupNumbers.l3 k x3 x5 (x8.drop (1 : Int).toNat) x26 x27 x28 t280 (t280.length : Int) 0 x264000 x264001 x264002)) else (none)) else (none)) else (impl_groupNumbers.l1 k x3 (wrap64 (x5 + 1)) x26 x27 (wrap64 (x28 + 1)) x264000 x264001 x264002)
def impl_groupNumbers.l3 : Nat → List Int → Int → List Int → List (S73) → Int → Int → List Int → Int → Int → Int → Int → List (S73) → Option (List Int)
  | 0, _, _, _, _, _, _, _, _, _, _, _, _ => none
  | k + 1, x3, x5, x8, x26, x27, x28, x59, x60, x61, x264000, x264001, x264002 => if x61 < x60 then (if 0 ≤ x61 then (if x61 < (x59.length : Int) then (if 0 ≤ (rd x59 x61) then (if (rd x59 x61) < (x264002.length : Int) then ((impl_isGeared.f ((rd_T73 x264002 (rd x59 x61)).f0) ((rd_T73 x264002 (rd x59 x61)).f1)).bind fun t285 => (if t285 = true then (if (rd x59 x61) < (x3.length : Int) then (if (rd x3 (rd x59 x61)) < 0 then (if x8.length < 17592186044416 then (impl_groupNumbers.l3 k (x3.set ((rd x59 x61) : Int).toNat x5) x5 (x8 ++ [rd x59 x61]) x26 x27 x28 x59 x60 (wrap64 (x61 + 1)) x264000 x264001 x264002) else (none)) else (impl_groupNumbers.l3 k x3 x5 x8 x26 x27 x28 x59 x60 (wrap64 (x61 + 1)) x264000 x264001 x264002)) else (none)) else (impl_groupNumbers.l3 k x3 x5 x8 x26 x27 x28 x59 x60 (wrap64 (x61 + 1)) x264000 x264001 x264002))) else (none)) else (none)) else (none)) else (none)) else (impl_groupNumbers.l2 k x3 x5 x8 x26 x27 x28 x264000 x264001 x264002)
end
def impl_groupNumbers.f (k : Nat) (a0_0 : Int) (a0_1 : Int) (l0_2 : List (S73)) : Option (List Int) := if 0 ≤ (l0_2.length : Int) then (if ((l0_2.length : Int) : Int).toNat ≤ 35184372088832 then ((some (List.replicate ((l0_2.length : Int) : Int).toNat 0 : List Int)).bind fun y264 => (impl_groupNumbers.l0 k y264 (y264.length : Int) 0 a0_0 a0_1 l0_2)) else (none)) else (none)
theorem impl_groupNumbers.mono_l : ∀ k, (∀ y0 y1 y2 y3 y4 y5, LeO (impl_groupNumbers.l0 k y0 y1 y2 y3 y4 y5) (impl_groupNumbers.l0 (k + 1) y0 y1 y2 y3 y4 y5)) ∧ (∀ y0 y1 y2 y3 y4 y5 y6 y7, LeO (impl_groupNumbers.l1 k y0 y1 y2 y3 y4 y5 y6 y7) (impl_groupNumbers.l1 (k + 1) y0 y1 y2 y3 y4 y5 y6 y7)) ∧ (∀ y0 y1 y2 y3 y4 y5 y6 y7 y8 y9, LeO (impl_groupNumbers.j2 k y0 y1 y2 y3 y4 y5 y6 y7 y8 y9) (impl_groupNumbers.j2 (k + 1) y0 y1 y2 y3 y4 y5 y6 y7 y8 y9)) ∧ (∀ y0 y1 y2 y3 y4 y5 y6 y7 y8, LeO (impl_groupNumbers.l2 k y0 y1 y2 y3 y4 y5 y6 y7 y8) (impl_groupNumbers.l2 (k + 1) y0 y1 y2 y3 y4 y5 y6 y7 y8)) ∧ (∀ y0 y1 y2 y3 y4 y5 y6 y7 y8 y9 y10 y11, LeO (impl_groupNumbers.l3 k y0 y1 y2 y3 y4 y5 y6 y7 y8 y9 y10 y11) (impl_groupNumbers.l3 (k + 1) y0 y1 y2 y3 y4 y5 y6 y7 y8 y9 y10 y11))
  | 0 => by refine ⟨?_, ?_, ?_, ?_, ?_⟩ <;> (intros; intro r h; first | (simp [impl_groupNumbers.l0] at h; done) | (simp [impl_groupNumbers.l1] at h; done) | (simp [impl_groupNumbers.j2] at h; done) | (simp [impl_groupNumbers.l2] at h; done) | (simp [impl_groupNumbers.l3] at h; done))
  | k + 1 => by
    obtain ⟨ih0, ih1, ih2, ih3, ih4⟩ := impl_groupNumbers.mono_l k
    refine ⟨?_, ?_, ?_, ?_, ?_⟩ <;> (
      intros
      first | unfold impl_groupNumbers.l0 | unfold impl_groupNumbers.l1 | unfold impl_groupNumbers.j2 | unfold impl_groupNumbers.l2 | unfold impl_groupNumbers.l3
      repeat' first | (with_reducible first | apply ih0 | apply ih1 | apply ih2 | apply ih3 | apply ih4 | apply impl_besideOf.mono | exact LeO.refl _ | exact LeO.none _ | refine LeO.ite ?_ ?_ | refine LeO.bind ?_ (fun _ => ?_)) | apply ih0 | apply ih1 | apply ih2 | apply ih3 | apply ih4 | apply impl_besideOf.mono | exact LeO.none _ | refine LeO.ite ?_ ?_ | refine LeO.bind ?_ (fun _ => ?_))
theorem impl_groupNumbers.mono : ∀ a0 a1 a2 k, LeO (impl_groupNumbers.f k a0 a1 a2) (impl_groupNumbers.f (k + 1) a0 a1 a2) := by
  intro a0 a1 a2 k
  obtain ⟨ih0, ih1, ih2, ih3, ih4⟩ := impl_groupNumbers.mono_l k
  unfold impl_groupNumbers.f
  repeat' first | (with_reducible first | apply ih0 | apply ih1 | apply ih2 | apply ih3 | apply ih4 | apply impl_besideOf.mono | exact LeO.refl _ | exact LeO.none _ | refine LeO.ite ?_ ?_ | refine LeO.bind ?_ (fun _ => ?_)) | apply ih0 | apply ih1 | apply ih2 | apply ih3 | apply ih4 | apply impl_besideOf.mono | exact LeO.none _ | refine LeO.ite ?_ ?_ | refine LeO.bind ?_ (fun _ => ?_)
set_option maxHeartbeats 8000000 in
set_option maxRecDepth 100000 in
theorem impl_groupNumbers.calls (k : Nat) (a0_0 : Int) (a0_1 : Int) (A0_2 : Option Addr) (c0_2 : Nat) (l0_2 : List (S73)) (r : List Int) (w : World) (hr0_2 : Kd.C k73 w A0_2 l0_2.length l0_2) (hc0_2 : l0_2.length ≤ c0_2) (h : impl_groupNumbers.f k a0_0 a0_1 l0_2 = some r) :
    Calls Try.prog 80 #[.agg #[.int .i64 a0_0, .int .i64 a0_1, .slice A0_2 l0_2.length c0_2]] w fun e w' => ∃ v0_ : Value, e = .returned (v0_) ∧ Kd.R (Kd.int .i64) 3 w' w.heap.size (fun _ => True) v0_ r ∧ Below w.heap.size w w' := by
  have hu30 := Try.underlying30
  have hu73 := Try.underlying73
  have HR0_2 := Aside0.mk hr0_2
  have HC0_2 := Aside0.mk hc0_2
  clear hr0_2 hc0_2
  have HB := Aside0.mk (Below.refl w.heap.size w)
  have H := h
  clear h
  unfold impl_groupNumbers.f at H
  replace H := ifP H; obtain ⟨c2, H⟩ := H
  have c2b0 := eq_true c2
  have c2b1 := decide_eq_true c2
  clear c2
  replace H := ifP H; obtain ⟨c3, H⟩ := H
  have c3b0 := eq_true c3
  have c3b1 := decide_eq_true c3
  clear c3
  replace H := nameB H; obtain ⟨y264, Ny264, H⟩ := H
  have H' := Aside0.mk H
  clear H
  go_enter Try.func80, Try.ntmps80
  go_wp2_with (first | ((with_reducible refine gate_dst (N := 1) rfl ?_); refine boxE (N := 1) (cs := #[.int .i64 a0_0, .int .i64 a0_1, .slice A0_2 l0_2.length c0_2]) (t := 30) ?_; intro gb263 hg w4 hbox hb; refine E4b HB.out hg hbox hb ?_; clear HB; intro HB BK263 GW263 GE263; clear hb hbox hg; obtain ⟨hcz5_0, hcz5_1, hcz5_2, hfz5_0, hfz5_1, hfz5_2⟩ := cz3 BK263.out) | ((with_reducible refine gate_dst (N := 15) rfl ?_); refine Kd.R_make (Kd.int .i64) _ 3 rfl (N := 15) rfl 36 _ _ rfl (l0_2.length : Int) rfl rfl Try.underlying36 (.int .i64 0) 8 info3 rfl (by decide) (by omega) 0 (ok := fun _ => True) (okp := fun _ => True) rfl (fun _ hk => hk) trivial (OD) (Nat.le_trans (Nat.mul_le_mul_right _ (OD : (l0_2.length : Int).toNat ≤ 35184372088832)) (by omega)) (Below.refl _ _) (Nat.le_refl _) ?_; intro v265 w6 ho7 hb hg_ hnew_; clear hg_ hnew_; (first | rw [← Ny264.out] at ho7 | (simp only [Int.reduceToNat] at ho7; rw [← Ny264.out] at ho7)); refine E3 (Kd.R_lower ho7 (below_size (BL HB.out))) (bB BK263.out hb) (below_step (BL HB.out) hb) ?_; clear BK263 HB; intro HO266 BK263 HB; clear hb ho7; obtain ⟨Ao8, co8, eo8⟩ := Kd.R_slice HO266.out; subst eo8))
  go_loopg [18] k (fun kq v18 w' => ∃ (x3_1 : List Int) (x18_1 : Int), v18 = .int .i64 x18_1 ∧ Aside0 (impl_groupNumbers.l0 kq x3_1 (y264.length : Int) x18_1 a0_0 a0_1 l0_2 = some r) ∧ Aside0 (kq ≤ k) ∧ Aside0 (Kd.R (Kd.int .i64) 3 w' w.heap.size (fun _ => True) (.slice Ao8 y264.length co8) x3_1) ∧ Aside0 (w'.heap[gb263]? = some (.cells #[.int .i64 a0_0, .int .i64 a0_1, (.slice A0_2 l0_2.length c0_2)] 30 (0, 0))) ∧ Aside0 (Below w.heap.size w w'))
  case atStart => exact ⟨(y264), (0), RG, H', ⟨Nat.le_refl _⟩, ⟨PR HO266.out⟩, ⟨PB BK263.out⟩, ⟨BL HB.out⟩⟩
  clear H'
  try clear c2b0; try clear c2b1; try clear c3b0; try clear c3b1; try clear hcz5_0; try clear hcz5_1; try clear hcz5_2; try clear hfz5_0; try clear hfz5_1; try clear hfz5_2
  obtain ⟨x3_1, x18_1, rfl, HA, HK1, HO_3, BK263, HB⟩ := hrel
  have hl3_1 := (Kd.R_reads' HO_3.out).1
  rw [hl3_1] at HO_3
  (try simp only [hl3_1])
  (try simp only [hl3_1] at BK263)
  cases gk with
  | zero => exact absurd HA.out (by simp [impl_groupNumbers.l0])
  | succ k1 => ?_
  have H := HA.out
  clear HA
  simp only [impl_groupNumbers.l0] at H
  replace H := ifB H; rcases H with ⟨c9b0, H⟩ | ⟨c9b0, H⟩
  · replace H := ifN H; obtain ⟨c10b0, H⟩ := H
    replace H := ifN H; obtain ⟨c11b0, H⟩ := H
    generalize hy267 : ((x3_1.set (x18_1 : Int).toNat (-1)) : List Int) = y267 at H
    have Ny267 := Aside0.mk hy267.symm; clear hy267
    have H' := Aside0.mk H
    clear H
    have p12 : 0 ≤ (x18_1 : Int) := OD
    have q12 : (x18_1 : Int) < ((x3_1.length : Int) : Int) := OD
    obtain ⟨go12, co12, eo12, gb12, gl12, cl12, HG12⟩ := Kd.R_form HO_3.out (by omega)
    (first | cases eo12 | (injection eo12 with ea_ en_ ec_; (first | subst ea_ | (injection ea_ with ea_; subst ea_)); subst ec_; clear en_))
    have GB12 := Aside0.mk gb12
    have GG12 := Aside0.mk HG12
    clear gb12 gl12 HG12
    obtain ⟨hx12_0, hf12_0⟩ := Kd.R_celln 0 HO_3.out (x18_1 : Int) p12 q12
    replace p12 := eq_true p12
    replace q12 := eq_true q12
    have HP13 := Kd.R_putg HO_3.out (x18_1 : Int) (-1)
    go_wp2_with (first | ((with_reducible refine gate_store (t := 3) (p := 23) rfl ?_); refine storeE (t := 3) (p := 23) (w1 := (wr.setCell ⟨go12, (x18_1 : Int).toNat, none⟩ (.int .i64 (-1)))) ?_; intro w14 hw; have hg : wr.grownBy w14 (some go12) := (by rw [hw]; exact HP13.2); have hp_ : Kd.R (Kd.int .i64) 3 w14 w.heap.size (fun _ => True) (.slice (some ⟨go12, 0, none⟩) x3_1.length co8) y267 := (by rw [hw, Ny267.out]; exact HP13.1); clear HP13; refine E3 (hp_) (bG BK263.out hg (Kd.R_ne HO_3.out BK263.out (by decide))) ((by rw [hw]; exact below_set (HB.out) GB12.out : Below w.heap.size w w14)) ?_; clear HO_3 BK263 HB; intro HO_3 BK263 HB; clear hg hw hp_))
    (try simp only [← hl3_1])
    go_roundg k1
    case measure => have := HK1.out; omega
    case rel => exact ⟨(y267), (wrap64 (x18_1 + 1)), RG, H', ⟨by have := HK1.out; omega⟩, ⟨PR1 HO_3.out hl3_1⟩, ⟨PB1 BK263.out hl3_1⟩, ⟨BL HB.out⟩⟩
  (try simp only [hl3_1] at c9b0)
  have H' := Aside0.mk H
  clear H
  obtain ⟨hcz15_0, hcz15_1, hcz15_2, hfz15_0, hfz15_1, hfz15_2⟩ := cz3 BK263.out
  go_wp2
  go_loopg [5, 28] k1 (fun kq v5 v28 w' => ∃ (x3_2 : List Int) (x5_2 : Int) (x28_2 : Int), v5 = .int .i64 x5_2 ∧ v28 = .int .i64 x28_2 ∧ Aside0 (impl_groupNumbers.l1 kq x3_2 x5_2 l0_2 (l0_2.length : Int) x28_2 a0_0 a0_1 l0_2 = some r) ∧ Aside0 (kq ≤ k1) ∧ Aside0 (Kd.R (Kd.int .i64) 3 w' w.heap.size (fun _ => True) (.slice Ao8 x3_1.length co8) x3_2) ∧ Aside0 (w'.heap[gb263]? = some (.cells #[.int .i64 a0_0, .int .i64 a0_1, (.slice A0_2 l0_2.length c0_2)] 30 (0, 0))) ∧ Aside0 (Below w.heap.size w w'))
  case atStart => exact ⟨(x3_1), (0), (0), RG, RG, H', ⟨Nat.le_refl _⟩, ⟨PR1 HO_3.out hl3_1⟩, ⟨PB1 BK263.out hl3_1⟩, ⟨BL HB.out⟩⟩
  clear H'
  try clear c9b0; try clear hcz15_0; try clear hcz15_1; try clear hcz15_2; try clear hfz15_0; try clear hfz15_1; try clear hfz15_2
  obtain ⟨x3_2, x5_2, x28_2, rfl, rfl, HA, HK2, HO_3, BK263, HB⟩ := hrel
  have hl3_2 := (Kd.R_reads' HO_3.out).1
  rw [hl3_2] at HO_3
  (try simp only [hl3_2])
  (try simp only [hl3_2] at BK263)
  cases gk with
  | zero => exact absurd HA.out (by simp [impl_groupNumbers.l1])
  | succ k2 => ?_
  have H := HA.out
  clear HA
  simp only [impl_groupNumbers.l1] at H
  replace H := ifB H; rcases H with ⟨c16b0, H⟩ | ⟨c16b0, H⟩
  · replace H := ifN H; obtain ⟨c17b0, H⟩ := H
    replace H := ifN H; obtain ⟨c18b0, H⟩ := H
    have HC19 := Aside0.mk H
    clear H
    have p268 : 0 ≤ (x28_2 : Int) := OD
    have q268 : x28_2 < (l0_2.length : Int) := OD
    obtain ⟨ad268, e268, hx268_0, hx268_1⟩ := at_T73 HR0_2.out x28_2 p268 q268
    cases e268
    replace hx268_0 := (HB.out.cell (World.block_lt_of_cell? w _ hx268_0)).trans hx268_0
    replace hx268_1 := (HB.out.cell (World.block_lt_of_cell? w _ hx268_1)).trans hx268_1
    replace p268 := eq_true p268
    replace q268 := eq_true q268
    go_upto_region 11 with (first | ((with_reducible refine gate_dst (N := 7) rfl ?_); refine boxE (N := 7) (cs := #[.int .i64 0, .int .i64 0]) (t := 73) ?_; intro gb269 hg w20 hbox hb; refine E8 (Kd.R_below (PR HO_3.out) hb) (bB BK263.out hb) (below_step (BL HB.out) hb) (hbox) (gwM hg (below_size (BL HB.out)) : w.heap.size ≤ gb269) (gwM hg (below_size (BL HB.out)) : w.heap.size ≤ gb269) ((nB BK263.out hg : gb263 ≠ gb269)) ((nC BK263.out hg : gb269 ≠ gb263)) ?_; clear HO_3 BK263 HB; intro HO_3 BK263 HB BK269 GW269 GE269 NB263_269 NB269_263; clear hb hbox hg; have hnb21 := NB269_263.out; have hnc21 := NB263_269.out; obtain ⟨hcz22_0, hcz22_1, hfz22_0, hfz22_1⟩ := cz2 BK269.out))
    (try simp only [Act.put, List.setIfInBounds_toArray, List.set_cons_zero, List.set_cons_succ])
    go_cut [42] (fun v42 wc => ∃ (kq : Nat) (x42_18 : Bool), v42 = .bool x42_18 ∧ Aside0 (impl_groupNumbers.j2 kq x3_2 x5_2 x28_2 l0_2 (l0_2.length : Int) x28_2 x42_18 a0_0 a0_1 l0_2 = some r) ∧ Aside0 (kq ≤ k2) ∧ Aside0 (Kd.R (Kd.int .i64) 3 wc w.heap.size (fun _ => True) (.slice Ao8 x3_2.length co8) x3_2) ∧ Aside0 (wc.heap[gb263]? = some (.cells #[.int .i64 a0_0, .int .i64 a0_1, (.slice (some ad268) l0_2.length c0_2)] 30 (0, 0))) ∧ Aside0 (wc.heap[gb269]? = some (.cells #[.int .i64 ((rd_T73 l0_2 x28_2).f0), .int .i64 ((rd_T73 l0_2 x28_2).f1)] 73 (0, 0))) ∧ Aside0 (Below w.heap.size w wc))
    case first =>
      have H := HC19.out
      clear HC19
      replace H := bindA H; obtain ⟨t270, A23, H⟩ := H
      replace H := ifX H; rcases H with ⟨rfl, H⟩ | ⟨rfl, H⟩
      · replace H := ifN H; obtain ⟨c25b0, H⟩ := H
        (first | rw [c25b0] | (simp only [i64_w, i32_w]; rw [c25b0]) | skip)
        have H' := Aside0.mk H
        clear H
        have hnb26 := NB269_263.out
        have hnc26 := NB263_269.out
        obtain ⟨hcz27_0, hcz27_1, hfz27_0, hfz27_1⟩ := cz2 BK269.out
        go_wp2_with (first | ((with_reducible refine gate_callee (f := 87) rfl ?_); refine goesM (N := (some 34)) #[.agg #[.int .i64 ((rd_T73 l0_2 x28_2).f0), .int .i64 ((rd_T73 l0_2 x28_2).f1)]] Try.func87 ?_; (with_reducible refine (impl_isGeared.calls ((rd_T73 l0_2 x28_2).f0) ((rd_T73 l0_2 x28_2).f1) true _ A23.out).mono ?_); rintro e w28 ⟨rfl, hb⟩; refine ⟨_, rfl, ?_⟩; refine E4 (Kd.R_below (by (with_reducible repeat (first | apply Kd.R_alloc | apply Kd.R_drewN | apply Kd.R_drew)); exact (Kd.R_mono (Kd.R_far (p := ⟨gb269, 1, none⟩) (Kd.R_far (p := ⟨gb269, 0, none⟩) (Kd.R_types HO_3.out BK269.out (by decide)) (fun _ hk => hk.2) (.int .i64 ((rd_T73 l0_2 x28_2).f0))) (fun _ hk => hk.2) (.int .i64 ((rd_T73 l0_2 x28_2).f1))) (fun _ h_ => h_.1))) hb) (blk_below (g := gb263) (o := .cells #[.int .i64 a0_0, .int .i64 a0_1, .slice (some ad268) l0_2.length c0_2] 30 (0, 0)) (by (with_reducible repeat (first | refine blk_drewN ?_ _ | refine blk_drew ?_ | refine blk_alloc ?_ _)); refine blk_far ?_ NB263_269.out _; (with_reducible repeat (first | refine blk_drewN ?_ _ | refine blk_drew ?_ | refine blk_alloc ?_ _)); refine blk_far ?_ NB263_269.out _; (with_reducible repeat (first | refine blk_drewN ?_ _ | refine blk_drew ?_ | refine blk_alloc ?_ _)); exact BK263.out) hb) (blk_below (g := gb269) (o := .cells #[.int .i64 ((rd_T73 l0_2 x28_2).f0), .int .i64 ((rd_T73 l0_2 x28_2).f1)] 73 (0, 0)) (by (with_reducible repeat (first | refine blk_drewN ?_ _ | refine blk_drew ?_ | refine blk_alloc ?_ _)); refine blk_put (cs := #[.int .i64 ((rd_T73 l0_2 x28_2).f0), .int .i64 0]) ?_ 1 _ rfl; (with_reducible repeat (first | refine blk_drewN ?_ _ | refine blk_drew ?_ | refine blk_alloc ?_ _)); refine blk_put (cs := #[.int .i64 0, .int .i64 0]) ?_ 0 _ rfl; (with_reducible repeat (first | refine blk_drewN ?_ _ | refine blk_drew ?_ | refine blk_alloc ?_ _)); exact BK269.out) hb) (below_step (BL HB.out) hb) ?_; clear HO_3 BK263 BK269 HB; intro HO_3 BK263 BK269 HB; (try clear hb); (try clear hb2); (try clear hk); (try clear hi); have p271 : 0 ≤ (x28_2 : Int) := OD; have q271 : x28_2 < (x3_2.length : Int) := OD; obtain ⟨ad271, e271, hx271_0⟩ := Kd.at_int (Kd.R_reads' HO_3.out).2.2 x28_2 p271 q271; cases e271; replace p271 := eq_true p271; replace q271 := eq_true q271))
        go_meet
        case rel => exact ⟨_, (decide ((rd x3_2 x28_2) ≥ 0)), RG, H', ⟨by have := HK1.out; have := HK2.out; first | omega | exact Nat.le_refl _⟩, ⟨PR2 HO_3.out hl3_1 hl3_2⟩, ⟨PB2 BK263.out hl3_1 hl3_2⟩, ⟨PB2 BK269.out hl3_1 hl3_2⟩, ⟨BL HB.out⟩⟩
      have H' := Aside0.mk H
      clear H
      have hnb29 := NB269_263.out
      have hnc29 := NB263_269.out
      obtain ⟨hcz30_0, hcz30_1, hfz30_0, hfz30_1⟩ := cz2 BK269.out
      go_wp2_with (first | ((with_reducible refine gate_callee (f := 87) rfl ?_); refine goesM (N := (some 34)) #[.agg #[.int .i64 ((rd_T73 l0_2 x28_2).f0), .int .i64 ((rd_T73 l0_2 x28_2).f1)]] Try.func87 ?_; (with_reducible refine (impl_isGeared.calls ((rd_T73 l0_2 x28_2).f0) ((rd_T73 l0_2 x28_2).f1) false _ A23.out).mono ?_); rintro e w31 ⟨rfl, hb⟩; refine ⟨_, rfl, ?_⟩; refine E4 (Kd.R_below (by (with_reducible repeat (first | apply Kd.R_alloc | apply Kd.R_drewN | apply Kd.R_drew)); exact (Kd.R_mono (Kd.R_far (p := ⟨gb269, 1, none⟩) (Kd.R_far (p := ⟨gb269, 0, none⟩) (Kd.R_types HO_3.out BK269.out (by decide)) (fun _ hk => hk.2) (.int .i64 ((rd_T73 l0_2 x28_2).f0))) (fun _ hk => hk.2) (.int .i64 ((rd_T73 l0_2 x28_2).f1))) (fun _ h_ => h_.1))) hb) (blk_below (g := gb263) (o := .cells #[.int .i64 a0_0, .int .i64 a0_1, .slice (some ad268) l0_2.length c0_2] 30 (0, 0)) (by (with_reducible repeat (first | refine blk_drewN ?_ _ | refine blk_drew ?_ | refine blk_alloc ?_ _)); refine blk_far ?_ NB263_269.out _; (with_reducible repeat (first | refine blk_drewN ?_ _ | refine blk_drew ?_ | refine blk_alloc ?_ _)); refine blk_far ?_ NB263_269.out _; (with_reducible repeat (first | refine blk_drewN ?_ _ | refine blk_drew ?_ | refine blk_alloc ?_ _)); exact BK263.out) hb) (blk_below (g := gb269) (o := .cells #[.int .i64 ((rd_T73 l0_2 x28_2).f0), .int .i64 ((rd_T73 l0_2 x28_2).f1)] 73 (0, 0)) (by (with_reducible repeat (first | refine blk_drewN ?_ _ | refine blk_drew ?_ | refine blk_alloc ?_ _)); refine blk_put (cs := #[.int .i64 ((rd_T73 l0_2 x28_2).f0), .int .i64 0]) ?_ 1 _ rfl; (with_reducible repeat (first | refine blk_drewN ?_ _ | refine blk_drew ?_ | refine blk_alloc ?_ _)); refine blk_put (cs := #[.int .i64 0, .int .i64 0]) ?_ 0 _ rfl; (with_reducible repeat (first | refine blk_drewN ?_ _ | refine blk_drew ?_ | refine blk_alloc ?_ _)); exact BK269.out) hb) (below_step (BL HB.out) hb) ?_; clear HO_3 BK263 BK269 HB; intro HO_3 BK263 BK269 HB; (try clear hb); (try clear hb2); (try clear hk); (try clear hi)))
      go_meet
      case rel => exact ⟨_, (true), RG, H', ⟨by have := HK1.out; have := HK2.out; first | omega | exact Nat.le_refl _⟩, ⟨PR2 HO_3.out hl3_1 hl3_2⟩, ⟨PB2 BK263.out hl3_1 hl3_2⟩, ⟨PB2 BK269.out hl3_1 hl3_2⟩, ⟨BL HB.out⟩⟩
    clear HC19
    try clear c16b0; try clear c17b0; try clear c18b0; try clear hcz22_0; try clear hcz22_1; try clear hfz22_0; try clear hfz22_1; try clear hx268_0; try clear hx268_1; try clear p268; try clear q268
    obtain ⟨kq, x42_18, rfl, HA, HJ18, HO_3, BK263, BK269, HB⟩ := hcut
    cases kq with
    | zero => exact absurd HA.out (by simp [impl_groupNumbers.j2])
    | succ kj18 => ?_
    have H := HA.out
    clear HA
    simp only [impl_groupNumbers.j2] at H
    replace H := ifX H; rcases H with ⟨rfl, H⟩ | ⟨rfl, H⟩
    · have H' := Aside0.mk H
      clear H
      go_wp2
      (try simp only [← hl3_2])
      go_roundg kj18
      case measure => have := HK1.out; have := HK2.out; have := HJ18.out; omega
      case rel => exact ⟨(x3_2), (x5_2), (wrap64 (x28_2 + 1)), RG, RG, H', ⟨by have := HK1.out; have := HK2.out; have := HJ18.out; omega⟩, ⟨PR2 HO_3.out hl3_1 hl3_2⟩, ⟨PB2 BK263.out hl3_1 hl3_2⟩, ⟨BL HB.out⟩⟩
    replace H := ifN H; obtain ⟨c33b0, H⟩ := H
    replace H := ifN H; obtain ⟨c34b0, H⟩ := H
    generalize hy272 : ((x3_2.set (x28_2 : Int).toNat x5_2) : List Int) = y272 at H
    have Ny272 := Aside0.mk hy272.symm; clear hy272
    generalize hy273 : ((([x28_2] : List Int)) : List Int) = y273 at H
    have Ny273 := Aside0.mk hy273.symm; clear hy273
    have H' := Aside0.mk H
    clear H
    have p35 : 0 ≤ (x28_2 : Int) := OD
    have q35 : (x28_2 : Int) < ((x3_2.length : Int) : Int) := OD
    obtain ⟨go35, co35, eo35, gb35, gl35, cl35, HG35⟩ := Kd.R_form HO_3.out (by omega)
    (first | cases eo35 | (injection eo35 with ea_ en_ ec_; (first | subst ea_ | (injection ea_ with ea_; subst ea_)); subst ec_; clear en_))
    have GB35 := Aside0.mk gb35
    have GG35 := Aside0.mk HG35
    clear gb35 gl35 HG35
    obtain ⟨hx35_0, hf35_0⟩ := Kd.R_celln 0 HO_3.out (x28_2 : Int) p35 q35
    replace p35 := eq_true p35
    replace q35 := eq_true q35
    have HP36 := Kd.R_putg HO_3.out (x28_2 : Int) x5_2
    go_wp2_with (first | ((with_reducible refine gate_store (t := 3) (p := 46) rfl ?_); refine storeE (t := 3) (p := 46) (w1 := (wc.setCell ⟨go35, (x28_2 : Int).toNat, none⟩ (.int .i64 x5_2))) ?_; intro w37 hw; have hg : wc.grownBy w37 (some go35) := (by rw [hw]; exact HP36.2); have hp_ : Kd.R (Kd.int .i64) 3 w37 w.heap.size (fun _ => True) (.slice (some ⟨go35, 0, none⟩) x3_2.length co8) y272 := (by rw [hw, Ny272.out]; exact HP36.1); clear HP36; refine E4 (hp_) (bG BK263.out hg (Kd.R_ne HO_3.out BK263.out (by decide))) (bG BK269.out hg (Kd.R_ne HO_3.out BK269.out (by decide))) ((by rw [hw]; exact below_set (HB.out) GB35.out : Below w.heap.size w w37)) ?_; clear HO_3 BK263 BK269 HB; intro HO_3 BK263 BK269 HB; clear hg hw hp_) | ((with_reducible refine gate_dst (N := 48) rfl ?_); refine Kd.R_lit (Kd.int .i64) _ 3 ?hg (N := 48) ?hd (xs := ([x28_2] : List Int)) (inner := [.int .i64 x28_2]) (ok := fun _ => True) (okp := fun _ => True) ?hr ?hp (fun _ hk => hk) trivial (Below.refl _ _) (Nat.le_refl _) (by simp) ?_; (case hd => rfl); (case hg => rfl); (case hr => first | (go_simp; done) | (go_simp; rfl)); (case hp => exact (Reps.one (show Kd.M (Kd.int .i64) _ _ _ x28_2 [.int .i64 x28_2] from rfl) (Reps.none _ _))); intro v274 w38 ho39 hb hg_ hnew_; clear hg_ hnew_; (first | rw [← Ny273.out] at ho39 | (simp only [Int.reduceToNat] at ho39; rw [← Ny273.out] at ho39)); refine E5 (Kd.R_elder' (PR HO_3.out) (Kd.R_base ho39) hb) (Kd.R_lower (Kd.R_new' ho39 (Kd.R_lt (PR HO_3.out))) (below_size (BL HB.out))) (bB BK263.out hb) (bB BK269.out hb) (below_step (BL HB.out) hb) ?_; clear HO_3 BK263 BK269 HB; intro HO_3 HO275 BK263 BK269 HB; clear hb ho39))
    go_loopg [8] kj18 (fun kq v8 w' => ∃ (x3_4 : List Int) (x8_4 : List Int), Aside0 (impl_groupNumbers.l2 kq x3_4 x5_2 x8_4 l0_2 (l0_2.length : Int) x28_2 a0_0 a0_1 l0_2 = some r) ∧ Aside0 (kq ≤ kj18) ∧ Aside0 (Kd.R (Kd.int .i64) 3 w' w.heap.size (fun k_ => some k_ ≠ (v8 : Value).ownBlock) (.slice (some ⟨go35, 0, none⟩) x3_2.length co8) x3_4) ∧ Aside0 (Kd.Q (Kd.int .i64) 3 w' w.heap.size (fun k_ => some k_ ≠ ((.slice (some ⟨go35, 0, none⟩) x3_2.length co8) : Value).ownBlock) v8 x8_4) ∧ Aside0 (w'.heap[gb263]? = some (.cells #[.int .i64 a0_0, .int .i64 a0_1, (.slice (some ad268) l0_2.length c0_2)] 30 (0, 0))) ∧ Aside0 (w'.heap[gb269]? = some (.cells #[.int .i64 ((rd_T73 l0_2 x28_2).f0), .int .i64 ((rd_T73 l0_2 x28_2).f1)] 73 (0, 0))) ∧ Aside0 (Below w.heap.size w w'))
    case atStart => exact ⟨(y272), (y273), H', ⟨Nat.le_refl _⟩, ⟨by (try simp only [hl3_1]); (try simp only [hl3_2]); (with_reducible repeat (first | apply Kd.R_alloc | apply Kd.R_drewN | apply Kd.R_drew)); exact Kd.R_mono HO_3.out (fun _ hk => hk.2)⟩, ⟨Kd.Q_of_R (by (try simp only [hl3_1]); (try simp only [hl3_2]); (with_reducible repeat (first | apply Kd.R_alloc | apply Kd.R_drewN | apply Kd.R_drew)); exact Kd.R_mono HO275.out (fun _ hk => hk.2))⟩, ⟨PB2 BK263.out hl3_1 hl3_2⟩, ⟨PB2 BK269.out hl3_1 hl3_2⟩, ⟨BL HB.out⟩⟩
    clear H'
    try clear c33b0; try clear c34b0; try clear p35; try clear q35; try clear hx35_0
    obtain ⟨x3_4, x8_4, HA, HK4, HO_3, HO_8, BK263, BK269, HB⟩ := hrel
    have hl3_4 := (Kd.R_reads' HO_3.out).1
    rw [hl3_4] at HO_3
    (try simp only [hl3_4])
    (try simp only [hl3_4] at BK263)
    (try simp only [hl3_4] at BK269)
    (try simp only [hl3_4] at HO_8)
    cases gk with
    | zero => exact absurd HA.out (by simp [impl_groupNumbers.l2])
    | succ k4 => ?_
    have H := HA.out
    clear HA
    simp only [impl_groupNumbers.l2] at H
    replace H := ifQ H; rcases H with ⟨c40, H⟩ | ⟨c40, H⟩
    · have c40b0 : decide (0 < (x8_4.length : Int)) = true := decide_eq_true c40
      have c40b1 : decide (0 < x8_4.length) = true := decide_eq_true (by omega)
      clear c40
      replace H := ifP H; obtain ⟨c41, H⟩ := H
      have c41b0 := decide_eq_true c41
      have c41b1 : decide (0 < x8_4.length) = true := decide_eq_true (by omega)
      clear c41
      replace H := ifP H; obtain ⟨c42, H⟩ := H
      have c42b0 := eq_true c42
      have c42b1 := decide_eq_true c42
      clear c42
      generalize hy277 : ((x8_4.drop (1 : Int).toNat) : List Int) = y277 at H
      have Ny277 := Aside0.mk hy277.symm; clear hy277
      replace H := bindA H; obtain ⟨t280, A43, H⟩ := H
      have H' := Aside0.mk H
      clear H
      obtain ⟨Ao44, co44, eo44, _⟩ := Kd.Q_slice HO_8.out
      subst eo44
      have p276 : 0 ≤ (0 : Int) := (by omega)
      have q276 : 0 < (x8_4.length : Int) := OD
      obtain ⟨ad276, e276, hx276_0⟩ := Kd.at_int (Kd.Q_reads' HO_8.out).2.2 0 p276 q276
      cases e276
      have qi276 : (0 < x8_4.length) = True := eq_true (by omega)
      (try rw [show ((0 : Int)).toNat = 0 from rfl] at hx276_0)
      (try rw [Addr.add_zero'] at hx276_0)
      replace p276 := eq_true p276
      replace q276 := eq_true q276
      have q45 : (1 : Int) ≤ ((x8_4.length : Int) : Int) := OD
      obtain ⟨i045, hi045, _, hsz45, _⟩ := info_parts info3
      have hcut45 := cut_from (P := Try.prog) 36 3 .i64 Try.underlying36 hi045 1 hsz45 (some ad276) x8_4.length co44 1 (by omega) q45
      have hr45 := Kd.Q_drop (k := (1 : Int).toNat) HO_8.out (by omega)
      obtain ⟨A45, hA45⟩ : ∃ A1, A1 = (if co44 = (1 : Int).toNat then (some ad276) else ((some ad276) : Option Addr).map (·.add ((1 : Int).toNat * 1))) := ⟨_, rfl⟩
      obtain ⟨c45, hc45⟩ : ∃ c1, c1 = co44 - (1 : Int).toNat := ⟨_, rfl⟩
      have hy45 : y277.length = x8_4.length - (1 : Int).toNat := (by rw [Ny277.out, List.length_drop])
      rw [← Ny277.out] at hr45
      rw [← hy45, ← hA45, ← hc45] at hcut45
      replace hr45 : Kd.Q (Kd.int .i64) 3 wr w.heap.size (fun k_ => some k_ ≠ (.slice (some ⟨go35, 0, none⟩) x3_4.length co8 : Value).ownBlock) (.slice A45 y277.length c45) y277 := (by rw [hA45, hc45, hy45]; exact hr45)
      have HE45 : Aside0 ((Value.slice A45 y277.length c45).ownBlock = (.slice (some ad276) x8_4.length co44 : Value).ownBlock) := ⟨by rw [hA45]; split <;> (cases ((some ad276) : Option Addr) <;> rfl)⟩
      clear hy45 hi045 hsz45 HO_8 hA45 hc45
      have HO279 := Aside0.mk hr45
      clear hr45
      replace q45 := eq_true q45
      have n_ := Aside0.mk (Kd.R_mono (ok' := fun k_ => some k_ ≠ (.slice A45 y277.length c45 : Value).ownBlock) HO_3.out (fun k_ hk => (by rw [HE45.out]; exact hk)))
      clear HO_3
      have HO_3 := n_
      clear n_
      have hnb46 := NB263_269.out
      have hnc46 := NB269_263.out
      obtain ⟨hcz47_0, hcz47_1, hcz47_2, hfz47_0, hfz47_1, hfz47_2⟩ := cz3 BK263.out
      go_wp2_with (first | ((with_reducible refine gate_callee (f := 88) rfl ?_); refine goesM (N := (some 59)) #[.agg #[.int .i64 a0_0, .int .i64 a0_1, .slice (some ad268) l0_2.length c0_2], .int .i64 (rd x8_4 0)] Try.func88 ?_; (with_reducible refine (impl_besideOf.calls k4 a0_0 a0_1 _ _ l0_2 (rd x8_4 0) t280 _ ?side1 ?side2 A43.out).mono ?_); (case side1 => exact CB (Kd.C_below HR0_2.out HB.out)); (case side2 => exact HC0_2.out); rintro e w48 ⟨v281, rfl, ho0, hb⟩; refine ⟨_, rfl, ?_⟩; refine E6 (Kd.R_elder' (PR HO_3.out) (Kd.R_base ho0) hb) (Kd.Q_elder' (by (with_reducible repeat (first | apply Kd.Q_alloc | apply Kd.Q_drewN | apply Kd.Q_drew)); exact HO279.out) (Kd.R_base ho0) hb) (Kd.R_lower (Kd.R_new' (Kd.R_new' ho0 (Kd.R_lt (PR HO_3.out))) (Kd.Q_lt (by (with_reducible repeat (first | apply Kd.Q_alloc | apply Kd.Q_drewN | apply Kd.Q_drew)); exact HO279.out))) (below_size (BL HB.out))) (bB BK263.out hb) (bB BK269.out hb) (below_step (BL HB.out) hb) ?_; clear HO_3 HO279 BK263 BK269 HB; intro HO_3 HO279 HO282 BK263 BK269 HB; (try clear hb); (try clear hb2); (try clear hk); (try clear hi); (try clear ho0); obtain ⟨Ao49, co49, eo49⟩ := Kd.R_slice HO282.out; subst eo49))
      go_loopg [8, 61] k4 (fun kq v8 v61 w' => ∃ (x3_5 : List Int) (x8_5 : List Int) (x61_5 : Int), v61 = .int .i64 x61_5 ∧ Aside0 (impl_groupNumbers.l3 kq x3_5 x5_2 x8_5 l0_2 (l0_2.length : Int) x28_2 t280 (t280.length : Int) x61_5 a0_0 a0_1 l0_2 = some r) ∧ Aside0 (kq ≤ k4) ∧ Aside0 (Kd.R (Kd.int .i64) 3 w' w.heap.size (fun k_ => some k_ ≠ (v8 : Value).ownBlock ∧ some k_ ≠ ((.slice Ao49 t280.length co49) : Value).ownBlock) (.slice (some ⟨go35, 0, none⟩) x3_4.length co8) x3_5) ∧ Aside0 (Kd.Q (Kd.int .i64) 3 w' w.heap.size (fun k_ => some k_ ≠ ((.slice (some ⟨go35, 0, none⟩) x3_4.length co8) : Value).ownBlock ∧ some k_ ≠ ((.slice Ao49 t280.length co49) : Value).ownBlock) v8 x8_5) ∧ Aside0 (Kd.R (Kd.int .i64) 3 w' w.heap.size (fun k_ => some k_ ≠ ((.slice (some ⟨go35, 0, none⟩) x3_4.length co8) : Value).ownBlock ∧ some k_ ≠ (v8 : Value).ownBlock) (.slice Ao49 t280.length co49) t280) ∧ Aside0 (w'.heap[gb263]? = some (.cells #[.int .i64 a0_0, .int .i64 a0_1, (.slice (some ad268) l0_2.length c0_2)] 30 (0, 0))) ∧ Aside0 (w'.heap[gb269]? = some (.cells #[.int .i64 ((rd_T73 l0_2 x28_2).f0), .int .i64 ((rd_T73 l0_2 x28_2).f1)] 73 (0, 0))) ∧ Aside0 (Below w.heap.size w w'))
      case atStart => exact ⟨(x3_4), (y277), (0), RG, H', ⟨Nat.le_refl _⟩, ⟨PR3 HO_3.out hl3_1 hl3_2 hl3_4⟩, ⟨by (try simp only [hl3_1]); (try simp only [hl3_2]); (try simp only [hl3_4]); (with_reducible repeat (first | apply Kd.Q_alloc | apply Kd.Q_drewN | apply Kd.Q_drew)); exact HO279.out⟩, ⟨by (try simp only [hl3_1]); (try simp only [hl3_2]); (try simp only [hl3_4]); (with_reducible repeat (first | apply Kd.R_alloc | apply Kd.R_drewN | apply Kd.R_drew)); exact Kd.R_mono HO282.out (fun _ hk => ⟨hk.1.2, hk.2⟩)⟩, ⟨PB3 BK263.out hl3_1 hl3_2 hl3_4⟩, ⟨PB3 BK269.out hl3_1 hl3_2 hl3_4⟩, ⟨BL HB.out⟩⟩
      clear H'
      try clear c1; try clear c40b0; try clear c40b1; try clear c41b0; try clear c41b1; try clear c42b0; try clear c42b1; try clear c45; try clear q45; try clear hcz47_0; try clear hcz47_1; try clear hcz47_2; try clear hfz47_0; try clear hfz47_1; try clear hfz47_2; try clear hx276_0; try clear p276; try clear q276
      obtain ⟨x3_5, x8_5, x61_5, rfl, HA, HK5, HO_3, HO_8, HO_59, BK263, BK269, HB⟩ := hrel
      have hl3_5 := (Kd.R_reads' HO_3.out).1
      rw [hl3_5] at HO_3
      (try simp only [hl3_5])
      (try simp only [hl3_5] at BK263)
      (try simp only [hl3_5] at BK269)
      (try simp only [hl3_5] at HO_8)
      (try simp only [hl3_5] at HO_59)
      cases gk with
      | zero => exact absurd HA.out (by simp [impl_groupNumbers.l3])
      | succ k5 => ?_
      have H := HA.out
      clear HA
      simp only [impl_groupNumbers.l3] at H
      replace H := ifB H; rcases H with ⟨c50b0, H⟩ | ⟨c50b0, H⟩
      · replace H := ifN H; obtain ⟨c51b0, H⟩ := H
        replace H := ifN H; obtain ⟨c52b0, H⟩ := H
        replace H := ifN H; obtain ⟨c53b0, H⟩ := H
        replace H := ifN H; obtain ⟨c54b0, H⟩ := H
        replace H := bindA H; obtain ⟨t285, A55, H⟩ := H
        replace H := ifX H; rcases H with ⟨rfl, H⟩ | ⟨rfl, H⟩
        · replace H := ifN H; obtain ⟨c57b0, H⟩ := H
          replace H := ifB H; rcases H with ⟨c58b0, H⟩ | ⟨c58b0, H⟩
          · generalize hy287 : ((x3_5.set ((rd t280 x61_5) : Int).toNat x5_2) : List Int) = y287 at H
            have Ny287 := Aside0.mk hy287.symm; clear hy287
            replace H := ifP H; obtain ⟨c60, H⟩ := H
            have LMc60 := Aside0.mk c60
            clear c60
            generalize hy288 : ((x8_5 ++ [rd t280 x61_5]) : List Int) = y288 at H
            have Ny288 := Aside0.mk hy288.symm; clear hy288
            have H' := Aside0.mk H
            clear H
            have p283 : 0 ≤ (x61_5 : Int) := OD
            have q283 : x61_5 < (t280.length : Int) := OD
            obtain ⟨ad283, e283, hx283_0⟩ := Kd.at_int (Kd.R_reads' HO_59.out).2.2 x61_5 p283 q283
            cases e283
            replace p283 := eq_true p283
            replace q283 := eq_true q283
            have hnb61 := NB263_269.out
            have hnc61 := NB269_263.out
            obtain ⟨hcz62_0, hcz62_1, hcz62_2, hfz62_0, hfz62_1, hfz62_2⟩ := cz3 BK263.out
            have p284 : 0 ≤ ((rd t280 x61_5) : Int) := OD
            have q284 : (rd t280 x61_5) < (l0_2.length : Int) := OD
            obtain ⟨ad284, e284, hx284_0, hx284_1⟩ := at_T73 HR0_2.out (rd t280 x61_5) p284 q284
            obtain rfl : ad268 = ad284 := (by injection e284)
            replace hx284_0 := (HB.out.cell (World.block_lt_of_cell? w _ hx284_0)).trans hx284_0
            replace hx284_1 := (HB.out.cell (World.block_lt_of_cell? w _ hx284_1)).trans hx284_1
            replace p284 := eq_true p284
            replace q284 := eq_true q284
            go_wp2_with (first | ((with_reducible refine gate_callee (f := 87) rfl ?_); refine goesM (N := (some 70)) #[.agg #[.int .i64 ((rd_T73 l0_2 (rd t280 x61_5)).f0), .int .i64 ((rd_T73 l0_2 (rd t280 x61_5)).f1)]] Try.func87 ?_; (with_reducible refine (impl_isGeared.calls ((rd_T73 l0_2 (rd t280 x61_5)).f0) ((rd_T73 l0_2 (rd t280 x61_5)).f1) true _ A55.out).mono ?_); rintro e w63 ⟨rfl, hb⟩; refine ⟨_, rfl, ?_⟩; refine E6 (Kd.R_below (PR HO_3.out) hb) (Kd.Q_below (by (with_reducible repeat (first | apply Kd.Q_alloc | apply Kd.Q_drewN | apply Kd.Q_drew)); exact HO_8.out) hb) (Kd.R_below (PR HO_59.out) hb) (bB BK263.out hb) (bB BK269.out hb) (below_step (BL HB.out) hb) ?_; clear HO_3 HO_8 HO_59 BK263 BK269 HB; intro HO_3 HO_8 HO_59 BK263 BK269 HB; (try clear hb); (try clear hb2); (try clear hk); (try clear hi); have p286 : 0 ≤ ((rd t280 x61_5) : Int) := OD; have q286 : (rd t280 x61_5) < (x3_5.length : Int) := OD; obtain ⟨ad286, e286, hx286_0⟩ := Kd.at_int (Kd.R_reads' HO_3.out).2.2 (rd t280 x61_5) p286 q286; obtain rfl : (⟨go35, 0, none⟩ : Addr) = ad286 := (by injection e286); (first | simp only [add_plain] at hx286_0 | simp only [add_at] at hx286_0 | simp only [Addr.add, Nat.zero_add] at hx286_0 | skip); replace p286 := eq_true p286; replace q286 := eq_true q286; have p59 : 0 ≤ ((rd t280 x61_5) : Int) := OD; have q59 : ((rd t280 x61_5) : Int) < ((x3_5.length : Int) : Int) := OD; obtain ⟨hx59_0, hf59_0⟩ := Kd.R_celln 0 HO_3.out ((rd t280 x61_5) : Int) p59 q59; replace p59 := eq_true p59; replace q59 := eq_true q59; obtain ⟨hy64_, hz64_⟩ := Kd.R_celln 0 HO_3.out ((rd t280 x61_5) : Int) (OD) (OD); have HP64 := Kd.R_putg HO_3.out ((rd t280 x61_5) : Int) x5_2) | ((with_reducible refine gate_store (t := 3) (p := 81) rfl ?_); refine storeE (t := 3) (p := 81) (w1 := (w63.setCell ⟨go35, ((rd t280 x61_5) : Int).toNat, none⟩ (.int .i64 x5_2))) ?_; intro w65 hw; have hg : w63.grownBy w65 (some go35) := (by rw [hw]; exact HP64.2); have hp_ : Kd.R (Kd.int .i64) 3 w65 w.heap.size (fun k_ => some k_ ≠ (u8 : Value).ownBlock ∧ some k_ ≠ (.slice (some ad283) t280.length co49 : Value).ownBlock) (.slice (some ⟨go35, 0, none⟩) x3_5.length co8) y287 := (by rw [hw, Ny287.out]; exact HP64.1); clear HP64; refine E6 (hp_) (Kd.Q_after (v := (.slice (some ⟨go35, 0, none⟩) x3_5.length co8)) (v1 := (.slice (some ⟨go35, 0, none⟩) x3_5.length co8)) (ok := (fun k_ => some k_ ≠ (.slice (some ad283) t280.length co49 : Value).ownBlock)) (by (with_reducible repeat (first | apply Kd.Q_alloc | apply Kd.Q_drewN | apply Kd.Q_drew)); exact Kd.Q_mono HO_8.out (fun _ hk => ⟨hk.2, hk.1⟩)) hg (.inl rfl)) (Kd.R_after (v := (.slice (some ⟨go35, 0, none⟩) x3_5.length co8)) (v1 := (.slice (some ⟨go35, 0, none⟩) x3_5.length co8)) (ok := (fun k_ => some k_ ≠ (u8 : Value).ownBlock)) (by (with_reducible repeat (first | apply Kd.R_alloc | apply Kd.R_drewN | apply Kd.R_drew)); exact Kd.R_mono HO_59.out (fun _ hk => ⟨hk.2, hk.1⟩)) hg (.inl rfl)) (bG BK263.out hg (Kd.R_ne HO_3.out BK263.out (by decide))) (bG BK269.out hg (Kd.R_ne HO_3.out BK269.out (by decide))) ((by rw [hw]; exact below_set (HB.out) GB35.out : Below w.heap.size w w65)) ?_; clear HO_3 HO_8 HO_59 BK263 BK269 HB; intro HO_3 HO_8 HO_59 BK263 BK269 HB; clear hg hw hp_) | ((with_reducible refine gate_builtin (b := .append) (xs := #[.tmp 82, .tmp 84]) rfl ?_); at_builtin; refine Kd.Q_append (Kd.int .i64) (w0 := w) w.heap.size rfl (.tmp 82) (.tmp 84) 36 3 (.int .i64 0) 8 rfl Try.underlying36 info3 rfl (by decide) (by omega) u8 x8_5 (rd t280 x61_5) [.int .i64 (rd t280 x61_5)] (fun k_ => some k_ ≠ (.slice (some ⟨go35, 0, none⟩) x3_5.length co8 : Value).ownBlock ∧ some k_ ≠ (.slice (some ad283) t280.length co49 : Value).ownBlock) (fun _ => False) rfl rfl ?aP (fun _ hk => hk.elim) ?aF ?aO ?aB ?aS ?aL ?_; (case aP => exact rfl); (case aB => exact (BL HB.out)); (case aF => exact (fun k_ hk => ⟨Kd.fresh' (Kd.R_lt (PR HO_3.out)) k_ hk, Kd.fresh' (Kd.R_lt (PR HO_59.out)) k_ hk⟩)); (case aO => exact (by (with_reducible repeat (first | apply Kd.Q_alloc | apply Kd.Q_drewN | apply Kd.Q_drew)); exact Kd.Q_mono HO_8.out (fun _ hk => ⟨hk.2, hk.1⟩))); (case aS => exact (below_size (BL HB.out))); (case aL => have := LMc60.out; omega); intro v289 w66 ho hb hg hat; rw [← Ny288.out] at ho; refine E6 (Kd.R_after (ok := (fun k_ => some k_ ≠ (.slice (some ad283) t280.length co49 : Value).ownBlock)) (by (with_reducible repeat (first | apply Kd.R_alloc | apply Kd.R_drewN | apply Kd.R_drew)); exact Kd.R_mono HO_3.out (fun _ hk => ⟨hk.2, hk.1⟩)) hg hat) (Kd.R_after (ok := (fun k_ => some k_ ≠ (.slice (some ⟨go35, 0, none⟩) x3_5.length co8 : Value).ownBlock)) (by (with_reducible repeat (first | apply Kd.R_alloc | apply Kd.R_drewN | apply Kd.R_drew)); exact Kd.R_mono HO_59.out (fun _ hk => ⟨hk.2, hk.1⟩)) hg hat) (bG BK263.out hg (Kd.Q_ne HO_8.out BK263.out (by decide))) (bG BK269.out hg (Kd.Q_ne HO_8.out BK269.out (by decide))) (hb) (ho) ?_; clear HO_3 HO_59 BK263 BK269 HB HO_8; intro HO_3 HO_59 BK263 BK269 HB HO290; clear ho hb hg hat))
            (try simp only [← hl3_5])
            go_roundg k5
            case measure => have := HK1.out; have := HK2.out; have := HJ18.out; have := HK4.out; have := HK5.out; omega
            case rel => exact ⟨(y287), (y288), (wrap64 (x61_5 + 1)), RG, H', ⟨by have := HK1.out; have := HK2.out; have := HJ18.out; have := HK4.out; have := HK5.out; omega⟩, ⟨by (try simp only [hl3_1]); (try simp only [hl3_2]); (try simp only [hl3_4]); (try simp only [hl3_5]); (with_reducible repeat (first | apply Kd.R_alloc | apply Kd.R_drewN | apply Kd.R_drew)); exact Kd.R_mono HO_3.out (fun _ hk => ⟨hk.2, hk.1⟩)⟩, ⟨by (try simp only [hl3_1]); (try simp only [hl3_2]); (try simp only [hl3_4]); (try simp only [hl3_5]); (with_reducible repeat (first | apply Kd.Q_alloc | apply Kd.Q_drewN | apply Kd.Q_drew)); exact HO290.out⟩, ⟨PR4 HO_59.out hl3_1 hl3_2 hl3_4 hl3_5⟩, ⟨PB4 BK263.out hl3_1 hl3_2 hl3_4 hl3_5⟩, ⟨PB4 BK269.out hl3_1 hl3_2 hl3_4 hl3_5⟩, ⟨BL HB.out⟩⟩
          have H' := Aside0.mk H
          clear H
          have p283 : 0 ≤ (x61_5 : Int) := OD
          have q283 : x61_5 < (t280.length : Int) := OD
          obtain ⟨ad283, e283, hx283_0⟩ := Kd.at_int (Kd.R_reads' HO_59.out).2.2 x61_5 p283 q283
          cases e283
          replace p283 := eq_true p283
          replace q283 := eq_true q283
          have hnb67 := NB263_269.out
          have hnc67 := NB269_263.out
          obtain ⟨hcz68_0, hcz68_1, hcz68_2, hfz68_0, hfz68_1, hfz68_2⟩ := cz3 BK263.out
          have p284 : 0 ≤ ((rd t280 x61_5) : Int) := OD
          have q284 : (rd t280 x61_5) < (l0_2.length : Int) := OD
          obtain ⟨ad284, e284, hx284_0, hx284_1⟩ := at_T73 HR0_2.out (rd t280 x61_5) p284 q284
          obtain rfl : ad268 = ad284 := (by injection e284)
          replace hx284_0 := (HB.out.cell (World.block_lt_of_cell? w _ hx284_0)).trans hx284_0
          replace hx284_1 := (HB.out.cell (World.block_lt_of_cell? w _ hx284_1)).trans hx284_1
          replace p284 := eq_true p284
          replace q284 := eq_true q284
          go_wp2_with (first | ((with_reducible refine gate_callee (f := 87) rfl ?_); refine goesM (N := (some 70)) #[.agg #[.int .i64 ((rd_T73 l0_2 (rd t280 x61_5)).f0), .int .i64 ((rd_T73 l0_2 (rd t280 x61_5)).f1)]] Try.func87 ?_; (with_reducible refine (impl_isGeared.calls ((rd_T73 l0_2 (rd t280 x61_5)).f0) ((rd_T73 l0_2 (rd t280 x61_5)).f1) true _ A55.out).mono ?_); rintro e w69 ⟨rfl, hb⟩; refine ⟨_, rfl, ?_⟩; refine E6 (Kd.R_below (PR HO_3.out) hb) (Kd.Q_below (by (with_reducible repeat (first | apply Kd.Q_alloc | apply Kd.Q_drewN | apply Kd.Q_drew)); exact HO_8.out) hb) (Kd.R_below (PR HO_59.out) hb) (bB BK263.out hb) (bB BK269.out hb) (below_step (BL HB.out) hb) ?_; clear HO_3 HO_8 HO_59 BK263 BK269 HB; intro HO_3 HO_8 HO_59 BK263 BK269 HB; (try clear hb); (try clear hb2); (try clear hk); (try clear hi); have p286 : 0 ≤ ((rd t280 x61_5) : Int) := OD; have q286 : (rd t280 x61_5) < (x3_5.length : Int) := OD; obtain ⟨ad286, e286, hx286_0⟩ := Kd.at_int (Kd.R_reads' HO_3.out).2.2 (rd t280 x61_5) p286 q286; obtain rfl : (⟨go35, 0, none⟩ : Addr) = ad286 := (by injection e286); (first | simp only [add_plain] at hx286_0 | simp only [add_at] at hx286_0 | simp only [Addr.add, Nat.zero_add] at hx286_0 | skip); replace p286 := eq_true p286; replace q286 := eq_true q286))
          (try simp only [← hl3_5])
          go_roundg k5
          case measure => have := HK1.out; have := HK2.out; have := HJ18.out; have := HK4.out; have := HK5.out; omega
          case rel => exact ⟨(x3_5), (x8_5), (wrap64 (x61_5 + 1)), RG, H', ⟨by have := HK1.out; have := HK2.out; have := HJ18.out; have := HK4.out; have := HK5.out; omega⟩, ⟨PR4 HO_3.out hl3_1 hl3_2 hl3_4 hl3_5⟩, ⟨by (try simp only [hl3_1]); (try simp only [hl3_2]); (try simp only [hl3_4]); (try simp only [hl3_5]); (with_reducible repeat (first | apply Kd.Q_alloc | apply Kd.Q_drewN | apply Kd.Q_drew)); exact HO_8.out⟩, ⟨PR4 HO_59.out hl3_1 hl3_2 hl3_4 hl3_5⟩, ⟨PB4 BK263.out hl3_1 hl3_2 hl3_4 hl3_5⟩, ⟨PB4 BK269.out hl3_1 hl3_2 hl3_4 hl3_5⟩, ⟨BL HB.out⟩⟩
        have H' := Aside0.mk H
        clear H
        have p283 : 0 ≤ (x61_5 : Int) := OD
        have q283 : x61_5 < (t280.length : Int) := OD
        obtain ⟨ad283, e283, hx283_0⟩ := Kd.at_int (Kd.R_reads' HO_59.out).2.2 x61_5 p283 q283
        cases e283
        replace p283 := eq_true p283
        replace q283 := eq_true q283
        have hnb70 := NB263_269.out
        have hnc70 := NB269_263.out
        obtain ⟨hcz71_0, hcz71_1, hcz71_2, hfz71_0, hfz71_1, hfz71_2⟩ := cz3 BK263.out
        have p284 : 0 ≤ ((rd t280 x61_5) : Int) := OD
        have q284 : (rd t280 x61_5) < (l0_2.length : Int) := OD
        obtain ⟨ad284, e284, hx284_0, hx284_1⟩ := at_T73 HR0_2.out (rd t280 x61_5) p284 q284
        obtain rfl : ad268 = ad284 := (by injection e284)
        replace hx284_0 := (HB.out.cell (World.block_lt_of_cell? w _ hx284_0)).trans hx284_0
        replace hx284_1 := (HB.out.cell (World.block_lt_of_cell? w _ hx284_1)).trans hx284_1
        replace p284 := eq_true p284
        replace q284 := eq_true q284
        go_wp2_with (first | ((with_reducible refine gate_callee (f := 87) rfl ?_); refine goesM (N := (some 70)) #[.agg #[.int .i64 ((rd_T73 l0_2 (rd t280 x61_5)).f0), .int .i64 ((rd_T73 l0_2 (rd t280 x61_5)).f1)]] Try.func87 ?_; (with_reducible refine (impl_isGeared.calls ((rd_T73 l0_2 (rd t280 x61_5)).f0) ((rd_T73 l0_2 (rd t280 x61_5)).f1) false _ A55.out).mono ?_); rintro e w72 ⟨rfl, hb⟩; refine ⟨_, rfl, ?_⟩; refine E6 (Kd.R_below (PR HO_3.out) hb) (Kd.Q_below (by (with_reducible repeat (first | apply Kd.Q_alloc | apply Kd.Q_drewN | apply Kd.Q_drew)); exact HO_8.out) hb) (Kd.R_below (PR HO_59.out) hb) (bB BK263.out hb) (bB BK269.out hb) (below_step (BL HB.out) hb) ?_; clear HO_3 HO_8 HO_59 BK263 BK269 HB; intro HO_3 HO_8 HO_59 BK263 BK269 HB; (try clear hb); (try clear hb2); (try clear hk); (try clear hi)))
        (try simp only [← hl3_5])
        go_roundg k5
        case measure => have := HK1.out; have := HK2.out; have := HJ18.out; have := HK4.out; have := HK5.out; omega
        case rel => exact ⟨(x3_5), (x8_5), (wrap64 (x61_5 + 1)), RG, H', ⟨by have := HK1.out; have := HK2.out; have := HJ18.out; have := HK4.out; have := HK5.out; omega⟩, ⟨PR4 HO_3.out hl3_1 hl3_2 hl3_4 hl3_5⟩, ⟨by (try simp only [hl3_1]); (try simp only [hl3_2]); (try simp only [hl3_4]); (try simp only [hl3_5]); (with_reducible repeat (first | apply Kd.Q_alloc | apply Kd.Q_drewN | apply Kd.Q_drew)); exact HO_8.out⟩, ⟨PR4 HO_59.out hl3_1 hl3_2 hl3_4 hl3_5⟩, ⟨PB4 BK263.out hl3_1 hl3_2 hl3_4 hl3_5⟩, ⟨PB4 BK269.out hl3_1 hl3_2 hl3_4 hl3_5⟩, ⟨BL HB.out⟩⟩
      (try simp only [hl3_1, hl3_2, hl3_4, hl3_5] at c50b0)
      have H' := Aside0.mk H
      clear H
      go_wp2
      (try simp only [← hl3_4, ← hl3_5])
      go_roundg k5
      case measure => have := HK1.out; have := HK2.out; have := HJ18.out; have := HK4.out; have := HK5.out; omega
      case rel => exact ⟨(x3_5), (x8_5), H', ⟨by have := HK1.out; have := HK2.out; have := HJ18.out; have := HK4.out; have := HK5.out; omega⟩, ⟨by (try simp only [hl3_1]); (try simp only [hl3_2]); (try simp only [hl3_4]); (try simp only [hl3_5]); (with_reducible repeat (first | apply Kd.R_alloc | apply Kd.R_drewN | apply Kd.R_drew)); exact Kd.R_mono HO_3.out (fun _ hk => hk.1)⟩, ⟨by (try simp only [hl3_1]); (try simp only [hl3_2]); (try simp only [hl3_4]); (try simp only [hl3_5]); (with_reducible repeat (first | apply Kd.Q_alloc | apply Kd.Q_drewN | apply Kd.Q_drew)); exact Kd.Q_mono HO_8.out (fun _ hk => hk.1)⟩, ⟨PB4 BK263.out hl3_1 hl3_2 hl3_4 hl3_5⟩, ⟨PB4 BK269.out hl3_1 hl3_2 hl3_4 hl3_5⟩, ⟨BL HB.out⟩⟩
    have c40b0 : decide (0 < (x8_4.length : Int)) = false := decide_eq_false c40
    have c40b1 : decide (0 < x8_4.length) = false := decide_eq_false (by omega)
    clear c40
    (try simp only [hl3_1, hl3_2, hl3_4] at c40b1)
    have H' := Aside0.mk H
    clear H
    obtain ⟨Ao73, co73, eo73, _⟩ := Kd.Q_slice HO_8.out
    subst eo73
    go_wp2
    (try simp only [← hl3_2, ← hl3_4])
    go_roundg k4
    case measure => have := HK1.out; have := HK2.out; have := HJ18.out; have := HK4.out; omega
    case rel => exact ⟨(x3_4), (wrap64 (x5_2 + 1)), (wrap64 (x28_2 + 1)), RG, RG, H', ⟨by have := HK1.out; have := HK2.out; have := HJ18.out; have := HK4.out; omega⟩, ⟨by (try simp only [hl3_1]); (try simp only [hl3_2]); (try simp only [hl3_4]); (with_reducible repeat (first | apply Kd.R_alloc | apply Kd.R_drewN | apply Kd.R_drew)); exact Kd.R_mono HO_3.out (fun _ hk => trivial)⟩, ⟨PB3 BK263.out hl3_1 hl3_2 hl3_4⟩, ⟨BL HB.out⟩⟩
  (try simp only [hl3_1, hl3_2] at c16b0)
  obtain rfl := Option.some.inj H
  go_wp2
  go_ret
  exact ⟨_, RF, by (with_reducible repeat (first | apply Kd.R_alloc | apply Kd.R_drewN | apply Kd.R_drew)); exact HO_3.out, BL HB.out⟩
/-! ### impl_unitsOf: function 62 -/
def impl_unitsOf.l0 : Nat → List Int → List (List Int) → List (S73) → Int → Int → List (Int × Int) → Option ((List (List Int)))
  | 0, _, _, _, _, _, _ => none
  | k + 1, x3, x5, x15, x16, x17, xm => if x17 < x16 then (if 0 ≤ x17 then (if x17 < (x15.length : Int) then (if ((rd_T73 x15 x17).f0) = 3 then (if x5.length < 5864062014805 then (impl_unitsOf.l0 k x3 (x5 ++ [(([x17] : List Int))]) x15 x16 (wrap64 (x17 + 1)) xm) else (none)) else (if ((rd_T73 x15 x17).f0) = 6 then (if x17 < (x3.length : Int) then (if wrap64 (rd x3 x17) = (rd x3 x17) then (if mhas xm (rd x3 x17) = true then (if 0 ≤ (mget xm (rd x3 x17)) then (if (mget xm (rd x3 x17)) < (x5.length : Int) then (if (rd_L3 x5 (mget xm (rd x3 x17))).length < 17592186044416 then (impl_unitsOf.l0 k x3 (x5.set ((mget xm (rd x3 x17)) : Int).toNat ((rd_L3 x5 (mget xm (rd x3 x17))) ++ [x17])) x15 x16 (wrap64 (x17 + 1)) xm) else (none)) else (none)) else (none)) else (if xm.length < 17592186044416 then (if x5.length < 5864062014805 then ((some (x5 ++ [[]] : List (List Int))).bind fun y315 => (if 0 ≤ (x5.length : Int) then (if (x5.length : Int) < (y315.length : Int) then (if (rd_L3 y315 (x5.length : Int)).length < 17592186044416 then (impl_unitsOf.l0 k x3 (y315.set ((x5.length : Int) : Int).toNat ((rd_L3 y315 (x5.length : Int)) ++ [x17])) x15 x16 (wrap64 (x17 + 1)) (((rd x3 x17), (x5.length : Int)) :: xm)) else (none)) else (none)) else (none))) else (none)) else (none))) else (none)) else (none)) else (impl_unitsOf.l0 k x3 x5 x15 x16 (wrap64 (x17 + 1)) xm))) else (none)) else (none)) else (some x5)
def impl_unitsOf.f (k : Nat) (a0_0 : Int) (a0_1 : Int) (l0_2 : List (S73)) : Option ((List (List Int))) := (impl_groupNumbers.f k a0_0 a0_1 l0_2).bind fun t292 => (impl_unitsOf.l0 k t292 (([] : List (List Int))) l0_2 (l0_2.length : Int) 0 ([] : List (Int × Int)))
theorem impl_unitsOf.mono_l : ∀ k, (∀ y0 y1 y2 y3 y4 y5, LeO (impl_unitsOf.l0 k y0 y1 y2 y3 y4 y5) (impl_unitsOf.l0 (k + 1) y0 y1 y2 y3 y4 y5))
  | 0 => fun _ _ _ _ _ _ r h => by simp [impl_unitsOf.l0] at h
  | k + 1 => by
    have ih0 := impl_unitsOf.mono_l k
    intros
    first | unfold impl_unitsOf.l0
    repeat' first | (with_reducible first | apply ih0 | apply impl_groupNumbers.mono | exact LeO.refl _ | exact LeO.none _ | refine LeO.ite ?_ ?_ | refine LeO.bind ?_ (fun _ => ?_)) | apply ih0 | apply impl_groupNumbers.mono | exact LeO.none _ | refine LeO.ite ?_ ?_ | refine LeO.bind ?_ (fun _ => ?_)
theorem impl_unitsOf.mono : ∀ a0 a1 a2 k, LeO (impl_unitsOf.f k a0 a1 a2) (impl_unitsOf.f (k + 1) a0 a1 a2) := by
  intro a0 a1 a2 k
  have ih0 := impl_unitsOf.mono_l k
  unfold impl_unitsOf.f
  repeat' first | (with_reducible first | apply ih0 | apply impl_groupNumbers.mono | exact LeO.refl _ | exact LeO.none _ | refine LeO.ite ?_ ?_ | refine LeO.bind ?_ (fun _ => ?_)) | apply ih0 | apply impl_groupNumbers.mono | exact LeO.none _ | refine LeO.ite ?_ ?_ | refine LeO.bind ?_ (fun _ => ?_)
theorem impl_unitsOf.zero3 (w : World) : (zeroValue 3).run Try.prog w = .ok (.int .i64 0) w := by kernel_rfl
set_option maxHeartbeats 8000000 in
set_option maxRecDepth 100000 in
theorem impl_unitsOf.calls (k : Nat) (a0_0 : Int) (a0_1 : Int) (A0_2 : Option Addr) (c0_2 : Nat) (l0_2 : List (S73)) (r : List (List Int)) (w : World) (hr0_2 : Kd.C k73 w A0_2 l0_2.length l0_2) (hc0_2 : l0_2.length ≤ c0_2) (h : impl_unitsOf.f k a0_0 a0_1 l0_2 = some r) :
    Calls Try.prog 62 #[.agg #[.int .i64 a0_0, .int .i64 a0_1, .slice A0_2 l0_2.length c0_2]] w fun e w' => ∃ v0_ : Value, e = .returned (v0_) ∧ Kd.S (Kd.slice 3 (Kd.int .i64)) 36 w' w.heap.size (fun _ => True) v0_ r ∧ Below w.heap.size w w' := by
  have hu30 := Try.underlying30
  have hu73 := Try.underlying73
  have HR0_2 := Aside0.mk hr0_2
  have HC0_2 := Aside0.mk hc0_2
  clear hr0_2 hc0_2
  have HB := Aside0.mk (Below.refl w.heap.size w)
  have H := h
  clear h
  unfold impl_unitsOf.f at H
  replace H := bindA H; obtain ⟨t292, A2, H⟩ := H
  generalize hy296 : ((([] : List (List Int))) : List (List Int)) = y296 at H
  have Ny296 := Aside0.mk hy296.symm; clear hy296
  have H' := Aside0.mk H
  clear H
  go_enter Try.func62, Try.ntmps62
  go_wp2_with (first | ((with_reducible refine gate_dst (N := 1) rfl ?_); refine boxE (N := 1) (cs := #[.int .i64 a0_0, .int .i64 a0_1, .slice A0_2 l0_2.length c0_2]) (t := 30) ?_; intro gb291 hg w3 hbox hb; refine E4b HB.out hg hbox hb ?_; clear HB; intro HB BK291 GW291 GE291; clear hb hbox hg; obtain ⟨hcz4_0, hcz4_1, hcz4_2, hfz4_0, hfz4_1, hfz4_2⟩ := cz3 BK291.out) | ((with_reducible refine gate_callee (f := 80) rfl ?_); refine goesM (N := (some 11)) #[.agg #[.int .i64 a0_0, .int .i64 a0_1, .slice A0_2 l0_2.length c0_2]] Try.func80 ?_; (with_reducible refine (impl_groupNumbers.calls k a0_0 a0_1 _ _ l0_2 t292 _ ?side1 ?side2 A2.out).mono ?_); (case side1 => exact CB (Kd.C_below HR0_2.out HB.out)); (case side2 => exact HC0_2.out); rintro e w5 ⟨v293, rfl, ho0, hb⟩; refine ⟨_, rfl, ?_⟩; refine E3 (Kd.R_lower ho0 (below_size (BL HB.out))) (bB BK291.out hb) (below_step (BL HB.out) hb) ?_; clear BK291 HB; intro HO294 BK291 HB; (try clear hb); (try clear hb2); (try clear hk); (try clear hi); (try clear ho0)) | ((with_reducible refine gate_dst (N := 12) rfl ?_); refine map_event ?hg (N := 12) ?hd ?hr ?_; (case hd => rfl); (case hg => rfl); (case hr => first | (go_simp; done) | (go_simp; rfl) | rfl); intro gb295 hg w6 hbox hb; have n0_ := Aside0.mk (Kd.R_below (PR HO294.out) hb); have n1_ := Aside0.mk (bB BK291.out hb); have n2_ := Aside0.mk (below_step (BL HB.out) hb); have n3_ := Aside0.mk (hbox); have n4_ := Aside0.mk (gwM hg (below_size (BL HB.out)) : w.heap.size ≤ gb295); have n5_ := Aside0.mk (gwM hg (below_size (BL HB.out)) : w.heap.size ≤ gb295); have n6_ := Aside0.mk ((nB BK291.out hg : gb291 ≠ gb295)); have n7_ := Aside0.mk ((nC BK291.out hg : gb295 ≠ gb291)); clear HO294; clear BK291; clear HB; have HO294 := n0_; have BK291 := n1_; have HB := n2_; have HM295 : Aside0 (MapO Try.prog 3 (.map #[] 0) []) := ⟨mapO_made _ _⟩; have BK295 := n3_; have GW295 := n4_; have GE295 := n5_; have NB291_295 := n6_; have NB295_291 := n7_; clear n0_ n1_ n2_ n3_ n4_ n5_ n6_ n7_; clear hb hbox hg; have hnb7 := NB291_295.out; have hnc7 := NB295_291.out; obtain ⟨hcz8_0, hcz8_1, hcz8_2, hfz8_0, hfz8_1, hfz8_2⟩ := cz3 BK291.out) | ((with_reducible refine gate_dst (N := 13) rfl ?_); refine Kd.S_lit (Kd.slice 3 (Kd.int .i64)) _ 36 ?hg (N := 13) ?hd (xs := ([] : List (List Int))) (inner := []) (ok := fun _ => True) (okp := fun _ => True) ?hr ?hp (fun _ hk => hk) trivial (Below.refl _ _) (Nat.le_refl _) (by simp) ?_; (case hd => rfl); (case hg => rfl); (case hr => first | (go_simp; done) | (go_simp; rfl)); (case hp => exact (Reps.none _ _)); intro v297 w10 ho11 hb hg_ hnew_; clear hg_ hnew_; (first | rw [← Ny296.out] at ho11 | (simp only [Int.reduceToNat] at ho11; rw [← Ny296.out] at ho11)); refine E5 (Kd.R_below (PR HO294.out) hb) (Kd.S_lower (Kd.S_new' ho11 (Kd.R_lt (PR HO294.out))) (below_size (BL HB.out))) (bB BK291.out hb) (bB BK295.out hb) (below_step (BL HB.out) hb) ?_; clear HO294 BK291 BK295 HB; intro HO294 HO298 BK291 BK295 HB; clear hb ho11; obtain ⟨hcz12_0, hcz12_1, hcz12_2, hfz12_0, hfz12_1, hfz12_2⟩ := cz3 BK291.out))
  go_loopg [5, 17] k (fun kq v5 v17 w' => ∃ (x5_1 : List (List Int)) (x17_1 : Int) (xm_1 : List (Int × Int)) (om_1 : Obj), v17 = .int .i64 x17_1 ∧ Aside0 (impl_unitsOf.l0 kq t292 x5_1 l0_2 (l0_2.length : Int) x17_1 xm_1 = some r) ∧ Aside0 (kq ≤ k) ∧ Aside0 (Kd.R (Kd.int .i64) 3 w' w.heap.size (fun _ => True) v293 t292) ∧ Aside0 (Kd.S (Kd.slice 3 (Kd.int .i64)) 36 w' w.heap.size (fun k_ => some k_ ≠ (v293 : Value).ownBlock) v5 x5_1) ∧ Aside0 (w'.heap[gb291]? = some (.cells #[.int .i64 a0_0, .int .i64 a0_1, (.slice A0_2 l0_2.length c0_2)] 30 (0, 0))) ∧ Aside0 (w'.heap[gb295]? = some om_1) ∧ Aside0 (MapO Try.prog 3 om_1 xm_1) ∧ Aside0 (Below w.heap.size w w'))
  case atStart => exact ⟨(y296), (0), ([]), (.map #[] 0), RG, H', ⟨Nat.le_refl _⟩, ⟨PR HO294.out⟩, ⟨by (with_reducible repeat (first | apply Kd.S_alloc | apply Kd.S_drewN | apply Kd.S_drew)); exact Kd.S_mono HO298.out (fun _ hk => hk.2)⟩, ⟨PB BK291.out⟩, ⟨PB BK295.out⟩, HM295, ⟨BL HB.out⟩⟩
  clear H'
  try clear hcz12_0; try clear hcz12_1; try clear hcz12_2; try clear hcz4_0; try clear hcz4_1; try clear hcz4_2; try clear hcz8_0; try clear hcz8_1; try clear hcz8_2; try clear hfz12_0; try clear hfz12_1; try clear hfz12_2; try clear hfz4_0; try clear hfz4_1; try clear hfz4_2; try clear hfz8_0; try clear hfz8_1; try clear hfz8_2
  obtain ⟨x5_1, x17_1, xm_1, om_1, rfl, HA, HK1, HO_3, HO_5, BK291, BK295, HM295, HB⟩ := hrel
  cases gk with
  | zero => exact absurd HA.out (by simp [impl_unitsOf.l0])
  | succ k1 => ?_
  have H := HA.out
  clear HA
  simp only [impl_unitsOf.l0] at H
  replace H := ifB H; rcases H with ⟨c13b0, H⟩ | ⟨c13b0, H⟩
  · replace H := ifN H; obtain ⟨c14b0, H⟩ := H
    replace H := ifN H; obtain ⟨c15b0, H⟩ := H
    replace H := ifQ H; rcases H with ⟨c16, H⟩ | ⟨c16, H⟩
    · have c16b0 := beq_iff_eq.mpr c16
      have c16b1 := bne_eq_false_iff_eq.mpr c16
      clear c16
      generalize hy301 : ((([x17_1] : List Int)) : List Int) = y301 at H
      have Ny301 := Aside0.mk hy301.symm; clear hy301
      replace H := ifP H; obtain ⟨c17, H⟩ := H
      have LMc17 := Aside0.mk c17
      clear c17
      generalize hy304 : ((x5_1 ++ [y301]) : List (List Int)) = y304 at H
      have Ny304 := Aside0.mk hy304.symm; clear hy304
      have H' := Aside0.mk H
      clear H
      have p299 : 0 ≤ (x17_1 : Int) := OD
      have q299 : x17_1 < (l0_2.length : Int) := OD
      obtain ⟨ad299, e299, hx299_0, hx299_1⟩ := at_T73 HR0_2.out x17_1 p299 q299
      cases e299
      replace hx299_0 := (HB.out.cell (World.block_lt_of_cell? w _ hx299_0)).trans hx299_0
      replace hx299_1 := (HB.out.cell (World.block_lt_of_cell? w _ hx299_1)).trans hx299_1
      replace p299 := eq_true p299
      replace q299 := eq_true q299
      go_wp2_with (first | ((with_reducible refine gate_dst (N := 7) rfl ?_); refine boxE (N := 7) (cs := #[.int .i64 0, .int .i64 0]) (t := 73) ?_; intro gb300 hg w18 hbox hb; refine E12 (Kd.R_below (PR HO_3.out) hb) (Kd.S_below (PS HO_5.out) hb) (bB BK291.out hb) (bB BK295.out hb) (below_step (BL HB.out) hb) (hbox) (gwM hg (below_size (BL HB.out)) : w.heap.size ≤ gb300) (gwM hg (below_size (BL HB.out)) : w.heap.size ≤ gb300) ((nB BK291.out hg : gb291 ≠ gb300)) ((nC BK291.out hg : gb300 ≠ gb291)) ((nB BK295.out hg : gb295 ≠ gb300)) ((nC BK295.out hg : gb300 ≠ gb295)) ?_; clear HO_3 HO_5 BK291 BK295 HB; intro HO_3 HO_5 BK291 BK295 HB BK300 GW300 GE300 NB291_300 NB300_291 NB295_300 NB300_295; clear hb hbox hg; have hnb19 := NB300_291.out; have hnc19 := NB291_300.out; have hnb20 := NB300_295.out; have hnc20 := NB295_300.out; obtain ⟨hcz21_0, hcz21_1, hfz21_0, hfz21_1⟩ := cz2 BK300.out) | ((with_reducible refine gate_dst (N := 39) rfl ?_); refine look_event (b := gb295) (om := om_1) (mm := xm_1) rfl (.tmp 34) (.tmp 38) 88 3 rfl Try.underlying88 Try.underlying3 ?hz (by first | exact BK295.out | (refine obj_far ?_ NB295_300.out _; refine obj_far ?_ NB295_300.out _; exact BK295.out)) HM295.out ?hm (rd t292 x17_1) ?hx HKY.out ?_; (case hz => exact impl_unitsOf.zero3 _); (case hm => rfl); (case hx => first | rfl | (go_simp; done) | (go_simp; rfl))) | ((with_reducible refine gate_dst (N := 28) rfl ?_); refine Kd.R_lit (Kd.int .i64) _ 3 ?hg (N := 28) ?hd (xs := ([x17_1] : List Int)) (inner := [.int .i64 x17_1]) (ok := fun _ => True) (okp := fun _ => True) ?hr ?hp (fun _ hk => hk) trivial (Below.refl _ _) (Nat.le_refl _) (by simp) ?_; (case hd => rfl); (case hg => rfl); (case hr => first | (go_simp; done) | (go_simp; rfl)); (case hp => exact (Reps.one (show Kd.M (Kd.int .i64) _ _ _ x17_1 [.int .i64 x17_1] from rfl) (Reps.none _ _))); intro v302 w22 ho23 hb hg_ hnew_; clear hg_ hnew_; (first | rw [← Ny301.out] at ho23 | (simp only [Int.reduceToNat] at ho23; rw [← Ny301.out] at ho23)); refine E7 (Kd.R_elder' (by (with_reducible repeat (first | apply Kd.R_alloc | apply Kd.R_drewN | apply Kd.R_drew)); exact (Kd.R_mono (Kd.R_far (p := ⟨gb300, 1, none⟩) (Kd.R_far (p := ⟨gb300, 0, none⟩) (Kd.R_types HO_3.out BK300.out (by decide)) (fun _ hk => hk.2) (.int .i64 ((rd_T73 l0_2 x17_1).f0))) (fun _ hk => hk.2) (.int .i64 ((rd_T73 l0_2 x17_1).f1))) (fun _ h_ => h_.1))) (Kd.R_base ho23) hb) (Kd.S_elder' (by (with_reducible repeat (first | apply Kd.S_alloc | apply Kd.S_drewN | apply Kd.S_drew)); exact (Kd.S_mono (Kd.S_far (p := ⟨gb300, 1, none⟩) (Kd.S_far (p := ⟨gb300, 0, none⟩) (Kd.S_types HO_5.out BK300.out (by decide)) (fun _ hk => hk.2) (.int .i64 ((rd_T73 l0_2 x17_1).f0))) (fun _ hk => hk.2) (.int .i64 ((rd_T73 l0_2 x17_1).f1))) (fun _ h_ => h_.1))) (Kd.R_base ho23) hb) (Kd.R_lower (Kd.R_new' ho23 (Kd.R_lt (by (with_reducible repeat (first | apply Kd.R_alloc | apply Kd.R_drewN | apply Kd.R_drew)); exact (Kd.R_mono (Kd.R_far (p := ⟨gb300, 1, none⟩) (Kd.R_far (p := ⟨gb300, 0, none⟩) (Kd.R_types HO_3.out BK300.out (by decide)) (fun _ hk => hk.2) (.int .i64 ((rd_T73 l0_2 x17_1).f0))) (fun _ hk => hk.2) (.int .i64 ((rd_T73 l0_2 x17_1).f1))) (fun _ h_ => h_.1))))) (below_size (BL HB.out))) (blk_below (g := gb291) (o := .cells #[.int .i64 a0_0, .int .i64 a0_1, .slice (some ad299) l0_2.length c0_2] 30 (0, 0)) (by (with_reducible repeat (first | refine blk_drewN ?_ _ | refine blk_drew ?_ | refine blk_alloc ?_ _)); refine blk_far ?_ NB291_300.out _; (with_reducible repeat (first | refine blk_drewN ?_ _ | refine blk_drew ?_ | refine blk_alloc ?_ _)); refine blk_far ?_ NB291_300.out _; (with_reducible repeat (first | refine blk_drewN ?_ _ | refine blk_drew ?_ | refine blk_alloc ?_ _)); exact BK291.out) hb) (blk_below (g := gb295) (o := om_1) (by (with_reducible repeat (first | refine blk_drewN ?_ _ | refine blk_drew ?_ | refine blk_alloc ?_ _)); refine obj_far ?_ NB295_300.out _; (with_reducible repeat (first | refine blk_drewN ?_ _ | refine blk_drew ?_ | refine blk_alloc ?_ _)); refine obj_far ?_ NB295_300.out _; (with_reducible repeat (first | refine blk_drewN ?_ _ | refine blk_drew ?_ | refine blk_alloc ?_ _)); exact BK295.out) hb) (blk_below (g := gb300) (o := .cells #[.int .i64 ((rd_T73 l0_2 x17_1).f0), .int .i64 ((rd_T73 l0_2 x17_1).f1)] 73 (0, 0)) (by (with_reducible repeat (first | refine blk_drewN ?_ _ | refine blk_drew ?_ | refine blk_alloc ?_ _)); refine blk_put (cs := #[.int .i64 ((rd_T73 l0_2 x17_1).f0), .int .i64 0]) ?_ 1 _ rfl; (with_reducible repeat (first | refine blk_drewN ?_ _ | refine blk_drew ?_ | refine blk_alloc ?_ _)); refine blk_put (cs := #[.int .i64 0, .int .i64 0]) ?_ 0 _ rfl; (with_reducible repeat (first | refine blk_drewN ?_ _ | refine blk_drew ?_ | refine blk_alloc ?_ _)); exact BK300.out) hb) (below_step (BL HB.out) hb) ?_; clear HO_3 HO_5 BK291 BK295 BK300 HB; intro HO_3 HO_5 HO303 BK291 BK295 BK300 HB; clear hb ho23; obtain ⟨Ao25, co25, eo25⟩ := Kd.R_slice HO303.out; subst eo25) | ((with_reducible refine gate_builtin (b := .append) (xs := #[.tmp 26, .tmp 29]) rfl ?_); at_builtin; refine Kd.S_append (Kd.slice 3 (Kd.int .i64)) (w0 := w) w.heap.size rfl (.tmp 26) (.tmp 29) 48 36 (.slice none 0 0) 24 rfl Try.underlying48 info36 rfl (by decide) (by omega) u5 x5_1 y301 [.slice Ao25 y301.length co25] (fun k_ => some k_ ≠ (v293 : Value).ownBlock) (fun k_ => some k_ = (.slice Ao25 y301.length co25 : Value).ownBlock) rfl rfl ?aP (fun k_ hk_ => ((Kd.R_mono (ok' := fun k_ => ((fun k_ => some k_ ≠ (v293 : Value).ownBlock)) k_ ∧ some k_ ≠ (u5 : Value).ownBlock) (Kd.R_apart' (HO303.out) (Kd.S_typed HO_5.out) (by decide)) (fun k_ hk => ⟨hk.1.2, hk.2⟩))).1 k_ hk_.symm) ?aF ?aO ?aB ?aS ?aL ?_; (case aP => exact Kd.M_row (Kd.R_mono (Kd.R_tight rfl (Kd.R_mono (ok' := fun k_ => ((fun k_ => some k_ ≠ (v293 : Value).ownBlock)) k_ ∧ some k_ ≠ (u5 : Value).ownBlock) (Kd.R_apart' (HO303.out) (Kd.S_typed HO_5.out) (by decide)) (fun k_ hk => ⟨hk.1.2, hk.2⟩))) (fun _ h_ => h_))); (case aB => exact (BL HB.out)); (case aF => exact (fun k_ hk => Kd.fresh' (Kd.R_lt (PR HO_3.out)) k_ hk)); (case aO => exact (by (with_reducible repeat (first | apply Kd.S_alloc | apply Kd.S_drewN | apply Kd.S_drew)); exact Kd.S_mono HO_5.out (fun k_ hk => ⟨hk.1, fun e_ => hk.2 e_⟩))); (case aS => exact (below_size (BL HB.out))); (case aL => have := LMc17.out; omega); intro v305 w24 ho hb hg hat; rw [← Ny304.out] at ho; refine E6 (Kd.R_over' (PR HO_3.out) (Kd.S_typed (PS HO_5.out)) (by decide) hg) (bG BK291.out hg (Kd.S_ne HO_5.out BK291.out (by decide))) (bG BK295.out hg (map_ne (Kd.S_R HO_5.out) BK295.out HM295.out)) (bG BK300.out hg (Kd.S_ne HO_5.out BK300.out (by decide))) (hb) (ho) ?_; clear HO_3 BK291 BK295 BK300 HB HO_5 HO303; intro HO_3 BK291 BK295 BK300 HB HO306; clear ho hb hg hat))
      go_roundg k1
      case measure => have := HK1.out; omega
      case rel => exact ⟨(y304), (wrap64 (x17_1 + 1)), (xm_1), (om_1), RG, H', ⟨by have := HK1.out; omega⟩, ⟨by (with_reducible repeat (first | apply Kd.R_alloc | apply Kd.R_drewN | apply Kd.R_drew)); exact Kd.R_mono HO_3.out (fun _ hk => trivial)⟩, ⟨PS HO306.out⟩, ⟨PB BK291.out⟩, ⟨PB BK295.out⟩, HM295, ⟨BL HB.out⟩⟩
    have c16b0 := beq_eq_false_iff_ne.mpr c16
    have c16b1 := bne_iff_ne.mpr c16
    replace H := ifQ H; rcases H with ⟨c26, H⟩ | ⟨c26, H⟩
    · have c26b0 := beq_iff_eq.mpr c26
      have c26b1 := bne_eq_false_iff_eq.mpr c26
      clear c26
      replace H := ifN H; obtain ⟨c27b0, H⟩ := H
      have c_k : wrap64 (rd t292 x17_1) = (rd t292 x17_1) := by
        apply Classical.byContradiction; intro h_; rw [if_neg h_] at H; exact absurd H (by simp)
      rw [if_pos c_k] at H
      have HKY := Aside0.mk c_k
      clear c_k
      replace H := ifQ H; rcases H with ⟨c28, H⟩ | ⟨c28, H⟩
      · have c28b0 : mhas xm_1 (rd t292 x17_1) = true := c28
        have c28b1 : (!mhas xm_1 (rd t292 x17_1)) = false := by rw [c28]; rfl
        clear c28
        replace H := ifN H; obtain ⟨c29b0, H⟩ := H
        replace H := ifN H; obtain ⟨c30b0, H⟩ := H
        replace H := ifP H; obtain ⟨c31, H⟩ := H
        have LMc31 := Aside0.mk c31
        clear c31
        generalize hy309 : (((rd_L3 x5_1 (mget xm_1 (rd t292 x17_1))) ++ [x17_1]) : List Int) = y309 at H
        have Ny309 := Aside0.mk hy309.symm; clear hy309
        generalize hy312 : ((x5_1.set ((mget xm_1 (rd t292 x17_1)) : Int).toNat y309) : List (List Int)) = y312 at H
        have Ny312 := Aside0.mk hy312.symm; clear hy312
        have H' := Aside0.mk H
        clear H
        have p299 : 0 ≤ (x17_1 : Int) := OD
        have q299 : x17_1 < (l0_2.length : Int) := OD
        obtain ⟨ad299, e299, hx299_0, hx299_1⟩ := at_T73 HR0_2.out x17_1 p299 q299
        cases e299
        replace hx299_0 := (HB.out.cell (World.block_lt_of_cell? w _ hx299_0)).trans hx299_0
        replace hx299_1 := (HB.out.cell (World.block_lt_of_cell? w _ hx299_1)).trans hx299_1
        replace p299 := eq_true p299
        replace q299 := eq_true q299
        go_wp2_with (first | ((with_reducible refine gate_dst (N := 7) rfl ?_); refine boxE (N := 7) (cs := #[.int .i64 0, .int .i64 0]) (t := 73) ?_; intro gb300 hg w33 hbox hb; refine E12 (Kd.R_below (PR HO_3.out) hb) (Kd.S_below (PS HO_5.out) hb) (bB BK291.out hb) (bB BK295.out hb) (below_step (BL HB.out) hb) (hbox) (gwM hg (below_size (BL HB.out)) : w.heap.size ≤ gb300) (gwM hg (below_size (BL HB.out)) : w.heap.size ≤ gb300) ((nB BK291.out hg : gb291 ≠ gb300)) ((nC BK291.out hg : gb300 ≠ gb291)) ((nB BK295.out hg : gb295 ≠ gb300)) ((nC BK295.out hg : gb300 ≠ gb295)) ?_; clear HO_3 HO_5 BK291 BK295 HB; intro HO_3 HO_5 BK291 BK295 HB BK300 GW300 GE300 NB291_300 NB300_291 NB295_300 NB300_295; clear hb hbox hg; have hnb34 := NB300_291.out; have hnc34 := NB291_300.out; have hnb35 := NB300_295.out; have hnc35 := NB295_300.out; obtain ⟨hcz36_0, hcz36_1, hfz36_0, hfz36_1⟩ := cz2 BK300.out) | ((with_reducible refine gate_dst (N := 39) rfl ?_); refine look_event (b := gb295) (om := om_1) (mm := xm_1) rfl (.tmp 34) (.tmp 38) 88 3 rfl Try.underlying88 Try.underlying3 ?hz (by first | exact BK295.out | (refine obj_far ?_ NB295_300.out _; refine obj_far ?_ NB295_300.out _; exact BK295.out)) HM295.out ?hm (rd t292 x17_1) ?hx HKY.out ?_; (case hz => exact impl_unitsOf.zero3 _); (case hm => rfl); (case hx => first | rfl | (go_simp; done) | (go_simp; rfl))) | ((with_reducible refine gate_store (t := 73) (p := 7) rfl ?_); refine storeE (t := 73) (p := 7) (w1 := ((w33.setCell ⟨gb300, 0, none⟩ (.int .i64 ((rd_T73 l0_2 x17_1).f0))).setCell ⟨gb300, 1, none⟩ (.int .i64 ((rd_T73 l0_2 x17_1).f1)))) ?_; intro w37 hw; have n0_ : Aside0 (Kd.R (Kd.int .i64) 3 w37 w.heap.size (fun _ => True) v293 t292) := ⟨(by rw [hw]; exact (by (with_reducible repeat (first | apply Kd.R_alloc | apply Kd.R_drewN | apply Kd.R_drew)); exact Kd.R_mono (Kd.R_far (p := ⟨gb300, 1, none⟩) (Kd.R_far (p := ⟨gb300, 0, none⟩) (Kd.R_types HO_3.out BK300.out (by decide)) (fun _ hk => hk.2) (.int .i64 ((rd_T73 l0_2 x17_1).f0))) (fun _ hk => hk.2) (.int .i64 ((rd_T73 l0_2 x17_1).f1))) (fun _ hk => trivial)))⟩; have n1_ : Aside0 (Kd.S (Kd.slice 3 (Kd.int .i64)) 36 w37 w.heap.size (fun k_ => some k_ ≠ (v293 : Value).ownBlock) u5 x5_1) := ⟨(by rw [hw]; exact (by (with_reducible repeat (first | apply Kd.S_alloc | apply Kd.S_drewN | apply Kd.S_drew)); exact Kd.S_mono (Kd.S_far (p := ⟨gb300, 1, none⟩) (Kd.S_far (p := ⟨gb300, 0, none⟩) (Kd.S_types HO_5.out BK300.out (by decide)) (fun _ hk => hk.2) (.int .i64 ((rd_T73 l0_2 x17_1).f0))) (fun _ hk => hk.2) (.int .i64 ((rd_T73 l0_2 x17_1).f1))) (fun _ hk => hk.1)))⟩; have n2_ : Aside0 (w37.heap[gb291]? = some (.cells #[.int .i64 a0_0, .int .i64 a0_1, .slice (some ad299) l0_2.length c0_2] 30 (0, 0))) := ⟨(by rw [hw]; exact (by (with_reducible repeat (first | refine blk_drewN ?_ _ | refine blk_drew ?_ | refine blk_alloc ?_ _)); refine blk_far ?_ NB291_300.out _; (with_reducible repeat (first | refine blk_drewN ?_ _ | refine blk_drew ?_ | refine blk_alloc ?_ _)); refine blk_far ?_ NB291_300.out _; (with_reducible repeat (first | refine blk_drewN ?_ _ | refine blk_drew ?_ | refine blk_alloc ?_ _)); exact BK291.out))⟩; have n3_ : Aside0 (w37.heap[gb295]? = some om_1) := ⟨(by rw [hw]; exact (by (with_reducible repeat (first | refine blk_drewN ?_ _ | refine blk_drew ?_ | refine blk_alloc ?_ _)); refine obj_far ?_ NB295_300.out _; (with_reducible repeat (first | refine blk_drewN ?_ _ | refine blk_drew ?_ | refine blk_alloc ?_ _)); refine obj_far ?_ NB295_300.out _; (with_reducible repeat (first | refine blk_drewN ?_ _ | refine blk_drew ?_ | refine blk_alloc ?_ _)); exact BK295.out))⟩; have n4_ : Aside0 (w37.heap[gb300]? = some (.cells #[.int .i64 ((rd_T73 l0_2 x17_1).f0), .int .i64 ((rd_T73 l0_2 x17_1).f1)] 73 (0, 0))) := ⟨(by rw [hw]; exact (by (with_reducible repeat (first | refine blk_drewN ?_ _ | refine blk_drew ?_ | refine blk_alloc ?_ _)); refine blk_put (cs := #[.int .i64 ((rd_T73 l0_2 x17_1).f0), .int .i64 0]) ?_ 1 _ rfl; (with_reducible repeat (first | refine blk_drewN ?_ _ | refine blk_drew ?_ | refine blk_alloc ?_ _)); refine blk_put (cs := #[.int .i64 0, .int .i64 0]) ?_ 0 _ rfl; (with_reducible repeat (first | refine blk_drewN ?_ _ | refine blk_drew ?_ | refine blk_alloc ?_ _)); exact BK300.out))⟩; have n5_ : Aside0 (Below w.heap.size w w37) := ⟨(by rw [hw]; exact (BL HB.out))⟩; clear hw; clear HO_3; clear HO_5; clear BK291; clear BK295; clear BK300; clear HB; have HO_3 := n0_; have HO_5 := n1_; have BK291 := n2_; have BK295 := n3_; have BK300 := n4_; have HB := n5_; clear n0_ n1_ n2_ n3_ n4_ n5_; obtain ⟨hcz38_0, hcz38_1, hfz38_0, hfz38_1⟩ := cz2 BK300.out; obtain ⟨Ao39, co39, eo39⟩ := Kd.R_slice HO_3.out; subst eo39; have p307 : 0 ≤ (x17_1 : Int) := OD; have q307 : x17_1 < (t292.length : Int) := OD; obtain ⟨ad307, e307, hx307_0⟩ := Kd.at_int (Kd.R_reads' HO_3.out).2.2 x17_1 p307 q307; cases e307; replace p307 := eq_true p307; replace q307 := eq_true q307; have hnb40 := NB295_291.out; have hnc40 := NB291_295.out; obtain ⟨Ao42, co42, eo42⟩ := Kd.S_slice HO_5.out; subst eo42; have p308 : 0 ≤ ((mget xm_1 (rd t292 x17_1)) : Int) := OD; have q308 : (mget xm_1 (rd t292 x17_1)) < (x5_1.length : Int) := OD; obtain ⟨ad308, A308_0, c308_0, e308, hx308_0, hl308_0, hi308_0⟩ := at_L3 (Kd.S_reads' HO_5.out).2.2 (mget xm_1 (rd t292 x17_1)) p308 q308; cases e308; obtain ⟨ce308, hce308, hMe308, hcc308⟩ := Kd.S_get HO_5.out [] (mget xm_1 (rd t292 x17_1)) p308 (by first | exact q308 | exact OD | (have e_ := (Kd.S_reads' HO_5.out).1; omega)); obtain ⟨ve308_0, rfl, ge308_0⟩ := hMe308; have hv308_0 := hcc308 0 _ rfl; rw [Nat.add_zero, show ((Kd.slice 3 (Kd.int .i64))).sz = 1 from rfl, Nat.mul_one] at hv308_0; replace hv308_0 := Option.some.inj (hv308_0.symm.trans hx308_0); rw [hv308_0] at ge308_0; have HL308_0 := Aside0.mk (show Kd.R (Kd.int .i64) 3 _ _ _ _ (rd_L3 x5_1 (mget xm_1 (rd t292 x17_1))) from ge308_0); clear hv308_0 ge308_0; have HX308_0 := Aside0.mk hx308_0; clear hcc308 hce308; have HR308_0 := Aside0.mk hi308_0; have HC308_0 := Aside0.mk hl308_0; clear hi308_0 hl308_0; replace p308 := eq_true p308; replace q308 := eq_true q308; obtain ⟨go43, co43, eo43, gb43, gl43, cl43, HG43⟩ := Kd.S_form HO_5.out (by have h_ : ((mget xm_1 (rd t292 x17_1)) : Int) < ((x5_1.length : Int) : Int) := OD; have h2_ : 0 ≤ ((mget xm_1 (rd t292 x17_1)) : Int) := (OD); omega); (first | cases eo43 | (injection eo43 with ea_ en_ ec_; (first | subst ea_ | (injection ea_ with ea_; subst ea_)); subst ec_; clear en_)); have GB43 := Aside0.mk gb43; have GG43 := Aside0.mk HG43; clear gb43 gl43 HG43; (first | simp only [add_plain] at hx308_0 | skip); obtain ⟨oki43, ce43, hcl43, hM43, hcc43, _, _, hH43⟩ := Kd.S_elem HO_5.out [] ((mget xm_1 (rd t292 x17_1)) : Int) (OD) (by have h_ : ((mget xm_1 (rd t292 x17_1)) : Int) < ((x5_1.length : Int) : Int) := OD; first | exact h_ | (have e_ := (Kd.S_reads' HO_5.out).1; omega) | simpa using h_); obtain ⟨ve43_0, rfl, ge43_0⟩ := hM43; have hv43 := hcc43 0 _ rfl; have hX43 := HX308_0.out; (try simp only [add_plain] at hX43); (try simp only [Nat.add_zero] at hv43); (try rw [show ((Kd.slice 3 (Kd.int .i64))).sz = 1 from rfl, Nat.mul_one] at hv43); replace hv43 := Option.some.inj (hv43.symm.trans hX43); subst hv43; clear hX43 hcc43 hcl43; have UU43 := Aside0.mk (show Kd.R (Kd.int .i64) 3 _ w.heap.size oki43 (.slice A308_0 (rd_L3 x5_1 (mget xm_1 (rd t292 x17_1))).length c308_0) (rd_L3 x5_1 (mget xm_1 (rd t292 x17_1))) from ge43_0); have HH43 := Aside0.mk hH43; have HN43 := Aside0.mk (Kd.S_reads' HO_5.out).1; clear hH43 ge43_0) | ((with_reducible refine gate_builtin (b := .append) (xs := #[.tmp 60, .tmp 62]) rfl ?_); at_builtin; refine Kd.R_append (Kd.int .i64) (w0 := w) w.heap.size rfl (.tmp 60) (.tmp 62) 36 3 (.int .i64 0) 8 rfl Try.underlying36 info3 rfl (by decide) (by omega) (.slice A308_0 (rd_L3 x5_1 (mget xm_1 (rd t292 x17_1))).length c308_0) (rd_L3 x5_1 (mget xm_1 (rd t292 x17_1))) x17_1 [.int .i64 x17_1] (fun k_ => oki43 k_ ∨ ((fun k_ => some k_ ≠ (.slice (some ad307) t292.length co39 : Value).ownBlock)) k_ ∧ w37.heap.size ≤ k_) (fun _ => False) rfl rfl ?aP (fun _ hk => hk.elim) ?aF ?aO ?aB ?aS ?aL ?_; (case aP => exact rfl); (case aB => exact (BL HB.out)); (case aF => exact (fun k_ hk => .inr ⟨Kd.fresh' (Kd.R_lt (PR HO_3.out)) k_ hk, hk⟩)); (case aO => exact (by (with_reducible repeat (first | apply Kd.R_alloc | apply Kd.R_drewN | apply Kd.R_drew)); exact Kd.R_mono UU43.out (fun _ hk => .inl hk))); (case aS => exact (below_size (BL HB.out))); (case aL => have := LMc31.out; omega); intro v310 w44 ho hb hg hat; rw [← Ny309.out] at ho; refine E7 (Kd.R_grown2 (PR HO_3.out) rfl hg (fun k_ e_ => (HL308_0.out.1 k_ e_).1)) (bG BK291.out hg (Kd.R_ne HL308_0.out BK291.out (by decide))) (bG BK295.out hg (map_ne HL308_0.out BK295.out HM295.out)) (bG BK300.out hg (Kd.R_ne HL308_0.out BK300.out (by decide))) (hb) (Kd.H_grown (Kd.H_widen (by repeat (first | exact HH43.out | refine Kd.H_alloc ?_ _ | refine Kd.H_drewN ?_ _ | refine Kd.H_drew ?_))) hg (fun k_ e_ => .inl (UU43.out.1 k_ e_))) (ho) ?_; clear HO_3 BK291 BK295 BK300 HB HH43 HO_5 UU43 HL308_0; intro HO_3 BK291 BK295 BK300 HB HH43 HO311; clear ho hb hg hat; have p32 : 0 ≤ ((mget xm_1 (rd t292 x17_1)) : Int) := OD; have q32 : ((mget xm_1 (rd t292 x17_1)) : Int) < ((x5_1.length : Int) : Int) := OD; replace p32 := eq_true p32; replace q32 := eq_true q32; obtain ⟨Ao47, co47, eo47⟩ := Kd.R_slice HO311.out; subst eo47; obtain ⟨_, _, hraw45, _, _, hcc45, _⟩ := Kd.H_raw HH43.out (OD) (by have h_ : ((mget xm_1 (rd t292 x17_1)) : Int) < ((x5_1.length : Int) : Int) := OD; first | exact h_ | (have e_ := (HN43.out); omega) | simpa using h_); obtain ⟨_, hfr45⟩ := Kd.H_at HH43.out (OD) (by have h_ : ((mget xm_1 (rd t292 x17_1)) : Int) < ((x5_1.length : Int) : Int) := OD; first | exact h_ | (have e_ := (HN43.out); omega) | simpa using h_); have hx45_0 := hcc45 0 _ rfl; have hf45_0 := hfr45 0; (try simp only [Nat.add_zero] at hx45_0 hf45_0); (try rw [show ((Kd.slice 3 (Kd.int .i64))).sz = 1 from rfl, Nat.mul_one] at hx45_0); (try rw [show ((Kd.slice 3 (Kd.int .i64))).sz = 1 from rfl, Nat.mul_one] at hf45_0); (try simp only [Go.IntWalk.toNatUp] at hx45_0 hf45_0); have HP45 := Kd.S_seg0 HH43.out (OD) (by have h_ : ((mget xm_1 (rd t292 x17_1)) : Int) < ((x5_1.length : Int) : Int) := OD; first | exact h_ | (have e_ := (HN43.out); omega) | simpa using h_) (seg := [.slice Ao47 y309.length co47]) (j := 0) (show 1 ≤ 1 from by decide) (x' := y309) (Kd.M_row HO311.out) (fun _ hk => hk); (try simp only [show ((Kd.slice 3 (Kd.int .i64))).sz = 1 from rfl, Nat.mul_one, Nat.add_zero] at HP45); clear hcc45 hfr45) | ((with_reducible refine gate_store (t := 36) (p := 64) rfl ?_); refine storeE (t := 36) (p := 64) (w1 := (w44.setCell ⟨go43, ((mget xm_1 (rd t292 x17_1)) : Int).toNat, none⟩ (.slice Ao47 y309.length co47))) ?_; intro w46 hw; have hg : w44.grownBy w46 (some go43) := (by rw [hw]; exact HP45.2); have hp_ : Kd.S (Kd.slice 3 (Kd.int .i64)) 36 w46 w.heap.size (fun k_ => some k_ ≠ (.slice (some ad307) t292.length co39 : Value).ownBlock) (.slice (some ⟨go43, 0, none⟩) x5_1.length co42) y312 := (by rw [hw, Ny312.out]; exact HP45.1); clear HP45; refine E6 (Kd.R_over' (v := (.slice (some ⟨go43, 0, none⟩) x5_1.length co42)) (PR HO_3.out) (Kd.R_typed hraw45) (by decide) hg) (bG BK291.out hg (Kd.R_ne hraw45 BK291.out (by decide))) (bG BK295.out hg (map_ne hraw45 BK295.out HM295.out)) (bG BK300.out hg (Kd.R_ne hraw45 BK300.out (by decide))) ((by rw [hw]; exact below_set HB.out GB43.out : Below w.heap.size w w46)) (hp_) ?_; clear HO_3 BK291 BK295 BK300 HB HO311 HH43; intro HO_3 BK291 BK295 BK300 HB HO_5; clear hg hw hp_ hraw45))
        go_roundg k1
        case measure => have := HK1.out; omega
        case rel => exact ⟨(y312), (wrap64 (x17_1 + 1)), (xm_1), (om_1), RG, H', ⟨by have := HK1.out; omega⟩, ⟨PR HO_3.out⟩, ⟨PS HO_5.out⟩, ⟨PB BK291.out⟩, ⟨PB BK295.out⟩, HM295, ⟨BL HB.out⟩⟩
      have c28b0 : mhas xm_1 (rd t292 x17_1) = false := by simpa using c28
      have c28b1 : (!mhas xm_1 (rd t292 x17_1)) = true := by rw [c28b0]; rfl
      have c_m : xm_1.length < 17592186044416 := by
        apply Classical.byContradiction; intro h_; rw [if_neg h_] at H; exact absurd H (by simp)
      rw [if_pos c_m] at H
      have HML := Aside0.mk c_m
      clear c_m
      replace H := ifP H; obtain ⟨c48, H⟩ := H
      have LMc48 := Aside0.mk c48
      clear c48
      replace H := nameB H; obtain ⟨y315, Ny315, H⟩ := H
      replace H := ifP H; obtain ⟨c49, H⟩ := H
      have c49b0 := decide_eq_true c49
      have c49b1 : decide (0 ≤ x5_1.length) = true := decide_eq_true (by omega)
      clear c49
      replace H := ifP H; obtain ⟨c50, H⟩ := H
      have c50b0 := decide_eq_true c50
      have c50b1 : decide (x5_1.length < y315.length) = true := decide_eq_true (Int.ofNat_lt.mp c50)
      clear c50
      replace H := ifP H; obtain ⟨c51, H⟩ := H
      have LMc51 := Aside0.mk c51
      clear c51
      generalize hy319 : (((rd_L3 y315 (x5_1.length : Int)) ++ [x17_1]) : List Int) = y319 at H
      have Ny319 := Aside0.mk hy319.symm; clear hy319
      generalize hy322 : ((y315.set ((x5_1.length : Int) : Int).toNat y319) : List (List Int)) = y322 at H
      have Ny322 := Aside0.mk hy322.symm; clear hy322
      have H' := Aside0.mk H
      clear H
      have p299 : 0 ≤ (x17_1 : Int) := OD
      have q299 : x17_1 < (l0_2.length : Int) := OD
      obtain ⟨ad299, e299, hx299_0, hx299_1⟩ := at_T73 HR0_2.out x17_1 p299 q299
      cases e299
      replace hx299_0 := (HB.out.cell (World.block_lt_of_cell? w _ hx299_0)).trans hx299_0
      replace hx299_1 := (HB.out.cell (World.block_lt_of_cell? w _ hx299_1)).trans hx299_1
      replace p299 := eq_true p299
      replace q299 := eq_true q299
      go_wp2_with (first | ((with_reducible refine gate_dst (N := 7) rfl ?_); refine boxE (N := 7) (cs := #[.int .i64 0, .int .i64 0]) (t := 73) ?_; intro gb300 hg w53 hbox hb; refine E12 (Kd.R_below (PR HO_3.out) hb) (Kd.S_below (PS HO_5.out) hb) (bB BK291.out hb) (bB BK295.out hb) (below_step (BL HB.out) hb) (hbox) (gwM hg (below_size (BL HB.out)) : w.heap.size ≤ gb300) (gwM hg (below_size (BL HB.out)) : w.heap.size ≤ gb300) ((nB BK291.out hg : gb291 ≠ gb300)) ((nC BK291.out hg : gb300 ≠ gb291)) ((nB BK295.out hg : gb295 ≠ gb300)) ((nC BK295.out hg : gb300 ≠ gb295)) ?_; clear HO_3 HO_5 BK291 BK295 HB; intro HO_3 HO_5 BK291 BK295 HB BK300 GW300 GE300 NB291_300 NB300_291 NB295_300 NB300_295; clear hb hbox hg; have hnb54 := NB300_291.out; have hnc54 := NB291_300.out; have hnb55 := NB300_295.out; have hnc55 := NB295_300.out; obtain ⟨hcz56_0, hcz56_1, hfz56_0, hfz56_1⟩ := cz2 BK300.out; obtain ⟨Ao57, co57, eo57⟩ := Kd.R_slice HO_3.out; subst eo57; have p307 : 0 ≤ (x17_1 : Int) := OD; have q307 : x17_1 < (t292.length : Int) := OD; obtain ⟨ad307, e307, hx307_0⟩ := Kd.at_int (Kd.R_reads' HO_3.out).2.2 x17_1 p307 q307; cases e307; have hn307_0 : ad307.block ≠ gb300 := Kd.own_blk (Kd.R_ne HO_3.out BK300.out (by decide)); have hn307_1 : ad307.block ≠ gb300 := Kd.own_blk (Kd.R_ne HO_3.out BK300.out (by decide)); replace hx307_0 := (cell_far (p := ⟨gb300, 0, none⟩) (by first | (rw [add_block]; exact hn307_0) | (show (Addr.add _ _).block ≠ _; rw [add_block]; exact hn307_0) | exact hn307_0) (.int .i64 ((rd_T73 l0_2 x17_1).f0))).trans hx307_0; replace hx307_0 := (cell_far (p := ⟨gb300, 1, none⟩) (by first | (rw [add_block]; exact hn307_1) | (show (Addr.add _ _).block ≠ _; rw [add_block]; exact hn307_1) | exact hn307_1) (.int .i64 ((rd_T73 l0_2 x17_1).f1))).trans hx307_0; clear hn307_0; clear hn307_1; replace p307 := eq_true p307; replace q307 := eq_true q307; have hnb58 := NB295_291.out; have hnc58 := NB291_295.out; obtain ⟨Ao60, co60, eo60⟩ := Kd.S_slice HO_5.out; subst eo60; have p313 : 0 ≤ (x17_1 : Int) := OD; have q313 : x17_1 < (t292.length : Int) := OD; obtain ⟨ad313, e313, hx313_0⟩ := Kd.at_int (Kd.R_reads' HO_3.out).2.2 x17_1 p313 q313; obtain rfl : ad307 = ad313 := (by injection e313); have hn313_0 : ad307.block ≠ gb300 := Kd.own_blk (Kd.R_ne HO_3.out BK300.out (by decide)); have hn313_1 : ad307.block ≠ gb300 := Kd.own_blk (Kd.R_ne HO_3.out BK300.out (by decide)); replace hx313_0 := (cell_far (p := ⟨gb300, 0, none⟩) (by first | (rw [add_block]; exact hn313_0) | (show (Addr.add _ _).block ≠ _; rw [add_block]; exact hn313_0) | exact hn313_0) (.int .i64 ((rd_T73 l0_2 x17_1).f0))).trans hx313_0; replace hx313_0 := (cell_far (p := ⟨gb300, 1, none⟩) (by first | (rw [add_block]; exact hn313_1) | (show (Addr.add _ _).block ≠ _; rw [add_block]; exact hn313_1) | exact hn313_1) (.int .i64 ((rd_T73 l0_2 x17_1).f1))).trans hx313_0; clear hn313_0; clear hn313_1; replace p313 := eq_true p313; replace q313 := eq_true q313) | ((with_reducible refine gate_dst (N := 39) rfl ?_); refine look_event (b := gb295) (om := om_1) (mm := xm_1) rfl (.tmp 34) (.tmp 38) 88 3 rfl Try.underlying88 Try.underlying3 ?hz (by first | exact BK295.out | (refine obj_far ?_ NB295_300.out _; refine obj_far ?_ NB295_300.out _; exact BK295.out)) HM295.out ?hm (rd t292 x17_1) ?hx HKY.out ?_; (case hz => exact impl_unitsOf.zero3 _); (case hm => rfl); (case hx => first | rfl | (go_simp; done) | (go_simp; rfl))) | ((with_reducible refine gate_put (T := 88) (m := .tmp 46) (x := .tmp 50) (v := .tmp 51) rfl ?_); refine put_event (b := gb295) (om := om_1) (mm := xm_1) rfl (.tmp 46) (.tmp 50) (.tmp 51) 88 3 rfl rfl Try.underlying88 Try.underlying3 (by (with_reducible repeat (first | refine blk_drewN ?_ _ | refine blk_drew ?_ | refine blk_alloc ?_ _)); refine obj_far ?_ NB295_300.out _; (with_reducible repeat (first | refine blk_drewN ?_ _ | refine blk_drew ?_ | refine blk_alloc ?_ _)); refine obj_far ?_ NB295_300.out _; (with_reducible repeat (first | refine blk_drewN ?_ _ | refine blk_drew ?_ | refine blk_alloc ?_ _)); exact BK295.out) HM295.out HML.out ?hm (rd t292 x17_1) (x5_1.length : Int) ?hx ?hv HKY.out ?hw ?_; (case hm => rfl); (case hx => first | rfl | (go_simp; done) | (go_simp; rfl)); (case hv => first | rfl | (go_simp; done) | (go_simp; rfl)); (case hw => (have := LMc48.out; exact wrap64_nat (by omega))); intro w61 om2_ hbm hM2_ hg; have n0_ := Aside0.mk (R_put (g := gb295) (om := om_1) (by (with_reducible repeat (first | apply Kd.R_alloc | apply Kd.R_drewN | apply Kd.R_drew)); exact (Kd.R_mono (Kd.R_far (p := ⟨gb300, 1, none⟩) (Kd.R_far (p := ⟨gb300, 0, none⟩) (Kd.R_types HO_3.out BK300.out (by decide)) (fun _ hk => hk.2) (.int .i64 ((rd_T73 l0_2 x17_1).f0))) (fun _ hk => hk.2) (.int .i64 ((rd_T73 l0_2 x17_1).f1))) (fun _ h_ => h_.1))) (by (with_reducible repeat (first | refine blk_drewN ?_ _ | refine blk_drew ?_ | refine blk_alloc ?_ _)); refine obj_far ?_ NB295_300.out _; (with_reducible repeat (first | refine blk_drewN ?_ _ | refine blk_drew ?_ | refine blk_alloc ?_ _)); refine obj_far ?_ NB295_300.out _; (with_reducible repeat (first | refine blk_drewN ?_ _ | refine blk_drew ?_ | refine blk_alloc ?_ _)); exact BK295.out) HM295.out hg); have n1_ := Aside0.mk (S_put (g := gb295) (om := om_1) (by (with_reducible repeat (first | apply Kd.S_alloc | apply Kd.S_drewN | apply Kd.S_drew)); exact (Kd.S_mono (Kd.S_far (p := ⟨gb300, 1, none⟩) (Kd.S_far (p := ⟨gb300, 0, none⟩) (Kd.S_types HO_5.out BK300.out (by decide)) (fun _ hk => hk.2) (.int .i64 ((rd_T73 l0_2 x17_1).f0))) (fun _ hk => hk.2) (.int .i64 ((rd_T73 l0_2 x17_1).f1))) (fun _ h_ => h_.1))) (by (with_reducible repeat (first | refine blk_drewN ?_ _ | refine blk_drew ?_ | refine blk_alloc ?_ _)); refine obj_far ?_ NB295_300.out _; (with_reducible repeat (first | refine blk_drewN ?_ _ | refine blk_drew ?_ | refine blk_alloc ?_ _)); refine obj_far ?_ NB295_300.out _; (with_reducible repeat (first | refine blk_drewN ?_ _ | refine blk_drew ?_ | refine blk_alloc ?_ _)); exact BK295.out) HM295.out hg); have n2_ := Aside0.mk (blk_grown (g := gb291) (o := .cells #[.int .i64 a0_0, .int .i64 a0_1, .slice (some ad299) l0_2.length c0_2] 30 (0, 0)) (by (with_reducible repeat (first | refine blk_drewN ?_ _ | refine blk_drew ?_ | refine blk_alloc ?_ _)); refine blk_far ?_ NB291_300.out _; (with_reducible repeat (first | refine blk_drewN ?_ _ | refine blk_drew ?_ | refine blk_alloc ?_ _)); refine blk_far ?_ NB291_300.out _; (with_reducible repeat (first | refine blk_drewN ?_ _ | refine blk_drew ?_ | refine blk_alloc ?_ _)); exact BK291.out) hg (fun e_ => NB291_295.out (Option.some.inj e_))); have n3_ := Aside0.mk (hbm); have n4_ := Aside0.mk (blk_grown (g := gb300) (o := .cells #[.int .i64 ((rd_T73 l0_2 x17_1).f0), .int .i64 ((rd_T73 l0_2 x17_1).f1)] 73 (0, 0)) (by (with_reducible repeat (first | refine blk_drewN ?_ _ | refine blk_drew ?_ | refine blk_alloc ?_ _)); refine blk_put (cs := #[.int .i64 ((rd_T73 l0_2 x17_1).f0), .int .i64 0]) ?_ 1 _ rfl; (with_reducible repeat (first | refine blk_drewN ?_ _ | refine blk_drew ?_ | refine blk_alloc ?_ _)); refine blk_put (cs := #[.int .i64 0, .int .i64 0]) ?_ 0 _ rfl; (with_reducible repeat (first | refine blk_drewN ?_ _ | refine blk_drew ?_ | refine blk_alloc ?_ _)); exact BK300.out) hg (fun e_ => NB300_295.out (Option.some.inj e_))); have n5_ := Aside0.mk (pw_below_grown (BL HB.out) _ (below_size (BL HB.out)) hg (fun k_ e_ => by cases e_; exact GE295.out)); clear HO_3; clear HO_5; clear BK291; clear BK295; clear BK300; clear HB; clear HM295; have HO_3 := n0_; have HO_5 := n1_; have BK291 := n2_; have BK295 := n3_; have BK300 := n4_; have HB := n5_; have HM295 := Aside0.mk hM2_; clear n0_ n1_ n2_ n3_ n4_ n5_; clear hbm hM2_ hg) | ((with_reducible refine gate_builtin (b := .append) (xs := #[.tmp 52, .tmp 53]) rfl ?_); at_builtin; refine Kd.S_append (Kd.slice 3 (Kd.int .i64)) (w0 := w) w.heap.size rfl (.tmp 52) (.tmp 53) 48 36 (.slice none 0 0) 24 rfl Try.underlying48 info36 rfl (by decide) (by omega) (.slice Ao60 x5_1.length co60) x5_1 [] [.slice none 0 0] (fun k_ => some k_ ≠ (.slice (some ad307) t292.length co57 : Value).ownBlock) (fun _ => False) rfl rfl ?aP (fun _ hk => hk.elim) ?aF ?aO ?aB ?aS ?aL ?_; (case aP => exact ⟨_, rfl, Kd.R_nil _ _ _ _ _⟩); (case aB => exact (BL HB.out)); (case aF => exact (fun k_ hk => Kd.fresh' (Kd.R_lt (PR HO_3.out)) k_ hk)); (case aO => exact (by (with_reducible repeat (first | apply Kd.S_alloc | apply Kd.S_drewN | apply Kd.S_drew)); exact Kd.S_mono HO_5.out (fun k_ hk => ⟨hk, fun e_ => e_⟩))); (case aS => exact (below_size (BL HB.out))); (case aL => have := LMc48.out; omega); intro v316 w62 ho hb hg hat; rw [← Ny315.out] at ho; have n0_ := Aside0.mk (Kd.R_over' (PR HO_3.out) (Kd.S_typed (PS HO_5.out)) (by decide) hg); have n1_ := Aside0.mk (bG BK291.out hg (Kd.S_ne HO_5.out BK291.out (by decide))); have n2_ := Aside0.mk (bG BK295.out hg (map_ne (Kd.S_R HO_5.out) BK295.out HM295.out)); have n3_ := Aside0.mk (bG BK300.out hg (Kd.S_ne HO_5.out BK300.out (by decide))); have n5_ := Aside0.mk (hb); have n6_ := Aside0.mk (ho); clear HO_3; clear BK291; clear BK295; clear BK300; clear HB; clear HO_5; have HO_3 := n0_; have BK291 := n1_; have BK295 := n2_; have BK300 := n3_; have HB := n5_; have HO317 := n6_; clear n0_ n1_ n2_ n3_ n5_ n6_; clear ho hb hg hat; obtain ⟨Ao63, co63, eo63⟩ := Kd.S_slice HO317.out; subst eo63; have p318 : 0 ≤ ((x5_1.length : Int) : Int) := OD; have q318 : (x5_1.length : Int) < (y315.length : Int) := OD; obtain ⟨ad318, A318_0, c318_0, e318, hx318_0, hl318_0, hi318_0⟩ := at_L3 (Kd.S_reads' HO317.out).2.2 (x5_1.length : Int) p318 q318; cases e318; obtain ⟨ce318, hce318, hMe318, hcc318⟩ := Kd.S_get HO317.out [] (x5_1.length : Int) p318 (by first | exact q318 | exact OD | (have e_ := (Kd.S_reads' HO317.out).1; omega)); obtain ⟨ve318_0, rfl, ge318_0⟩ := hMe318; have hv318_0 := hcc318 0 _ rfl; rw [Nat.add_zero, show ((Kd.slice 3 (Kd.int .i64))).sz = 1 from rfl, Nat.mul_one] at hv318_0; replace hv318_0 := Option.some.inj (hv318_0.symm.trans hx318_0); rw [hv318_0] at ge318_0; have HL318_0 := Aside0.mk (show Kd.R (Kd.int .i64) 3 _ _ _ _ (rd_L3 y315 (x5_1.length : Int)) from ge318_0); clear hv318_0 ge318_0; have HX318_0 := Aside0.mk hx318_0; clear hcc318 hce318; have HR318_0 := Aside0.mk hi318_0; have HC318_0 := Aside0.mk hl318_0; clear hi318_0 hl318_0; (try simp only [Go.IntWalk.toNatUp] at hx318_0); replace p318 := eq_true p318; replace q318 := eq_true q318; obtain ⟨go64, co64, eo64, gb64, gl64, cl64, HG64⟩ := Kd.S_form HO317.out (by have h_ : ((x5_1.length : Int) : Int) < ((y315.length : Int) : Int) := OD; have h2_ : 0 ≤ ((x5_1.length : Int) : Int) := (OD); omega); (first | cases eo64 | (injection eo64 with ea_ en_ ec_; (first | subst ea_ | (injection ea_ with ea_; subst ea_)); subst ec_; clear en_)); have GB64 := Aside0.mk gb64; have GG64 := Aside0.mk HG64; clear gb64 gl64 HG64; (first | simp only [add_plain] at hx318_0 | skip); obtain ⟨oki64, ce64, hcl64, hM64, hcc64, _, _, hH64⟩ := Kd.S_elem HO317.out [] ((x5_1.length : Int) : Int) (OD) (by have h_ : ((x5_1.length : Int) : Int) < ((y315.length : Int) : Int) := OD; first | exact h_ | (have e_ := (Kd.S_reads' HO317.out).1; omega) | simpa using h_); obtain ⟨ve64_0, rfl, ge64_0⟩ := hM64; have hv64 := hcc64 0 _ rfl; have hX64 := HX318_0.out; (try simp only [add_plain] at hX64); (try simp only [Nat.add_zero] at hv64); (try rw [show ((Kd.slice 3 (Kd.int .i64))).sz = 1 from rfl, Nat.mul_one] at hv64); replace hv64 := Option.some.inj (hv64.symm.trans hX64); subst hv64; clear hX64 hcc64 hcl64; have UU64 := Aside0.mk (show Kd.R (Kd.int .i64) 3 _ w.heap.size oki64 (.slice A318_0 (rd_L3 y315 (x5_1.length : Int)).length c318_0) (rd_L3 y315 (x5_1.length : Int)) from ge64_0); have HH64 := Aside0.mk hH64; have HN64 := Aside0.mk (Kd.S_reads' HO317.out).1; clear hH64 ge64_0) | ((with_reducible refine gate_builtin (b := .append) (xs := #[.tmp 60, .tmp 62]) rfl ?_); at_builtin; refine Kd.R_append (Kd.int .i64) (w0 := w) w.heap.size rfl (.tmp 60) (.tmp 62) 36 3 (.int .i64 0) 8 rfl Try.underlying36 info3 rfl (by decide) (by omega) (.slice A318_0 (rd_L3 y315 (x5_1.length : Int)).length c318_0) (rd_L3 y315 (x5_1.length : Int)) x17_1 [.int .i64 x17_1] (fun k_ => oki64 k_ ∨ ((fun k_ => some k_ ≠ (.slice (some ad307) t292.length co57 : Value).ownBlock)) k_ ∧ w62.heap.size ≤ k_) (fun _ => False) rfl rfl ?aP (fun _ hk => hk.elim) ?aF ?aO ?aB ?aS ?aL ?_; (case aP => exact rfl); (case aB => exact (BL HB.out)); (case aF => exact (fun k_ hk => .inr ⟨Kd.fresh' (Kd.R_lt (PR HO_3.out)) k_ hk, hk⟩)); (case aO => exact (by (with_reducible repeat (first | apply Kd.R_alloc | apply Kd.R_drewN | apply Kd.R_drew)); exact Kd.R_mono UU64.out (fun _ hk => .inl hk))); (case aS => exact (below_size (BL HB.out))); (case aL => have := LMc51.out; omega); intro v320 w65 ho hb hg hat; rw [← Ny319.out] at ho; have n0_ := Aside0.mk (Kd.R_grown2 (PR HO_3.out) rfl hg (fun k_ e_ => (HL318_0.out.1 k_ e_).1)); have n1_ := Aside0.mk (bG BK291.out hg (Kd.R_ne HL318_0.out BK291.out (by decide))); have n2_ := Aside0.mk (bG BK295.out hg (map_ne HL318_0.out BK295.out HM295.out)); have n3_ := Aside0.mk (bG BK300.out hg (Kd.R_ne HL318_0.out BK300.out (by decide))); have n5_ := Aside0.mk (hb); have n6_ := Aside0.mk (Kd.H_grown (Kd.H_widen (by repeat (first | exact HH64.out | refine Kd.H_alloc ?_ _ | refine Kd.H_drewN ?_ _ | refine Kd.H_drew ?_))) hg (fun k_ e_ => .inl (UU64.out.1 k_ e_))); have n7_ := Aside0.mk (ho); clear HO_3; clear BK291; clear BK295; clear BK300; clear HB; clear HH64; clear HO317; clear UU64; clear HL318_0; have HO_3 := n0_; have BK291 := n1_; have BK295 := n2_; have BK300 := n3_; have HB := n5_; have HH64 := n6_; have HO321 := n7_; clear n0_ n1_ n2_ n3_ n5_ n6_ n7_; clear ho hb hg hat; have p52 : 0 ≤ ((x5_1.length : Int) : Int) := OD; have q52 : ((x5_1.length : Int) : Int) < ((y315.length : Int) : Int) := OD; replace p52 := eq_true p52; replace q52 := eq_true q52; obtain ⟨Ao68, co68, eo68⟩ := Kd.R_slice HO321.out; subst eo68; obtain ⟨_, _, hraw66, _, _, hcc66, _⟩ := Kd.H_raw HH64.out (OD) (by have h_ : ((x5_1.length : Int) : Int) < ((y315.length : Int) : Int) := OD; first | exact h_ | (have e_ := (HN64.out); omega) | simpa using h_); obtain ⟨_, hfr66⟩ := Kd.H_at HH64.out (OD) (by have h_ : ((x5_1.length : Int) : Int) < ((y315.length : Int) : Int) := OD; first | exact h_ | (have e_ := (HN64.out); omega) | simpa using h_); have hx66_0 := hcc66 0 _ rfl; have hf66_0 := hfr66 0; (try simp only [Nat.add_zero] at hx66_0 hf66_0); (try rw [show ((Kd.slice 3 (Kd.int .i64))).sz = 1 from rfl, Nat.mul_one] at hx66_0); (try rw [show ((Kd.slice 3 (Kd.int .i64))).sz = 1 from rfl, Nat.mul_one] at hf66_0); (try simp only [Go.IntWalk.toNatUp] at hx66_0 hf66_0); have HP66 := Kd.S_seg0 HH64.out (OD) (by have h_ : ((x5_1.length : Int) : Int) < ((y315.length : Int) : Int) := OD; first | exact h_ | (have e_ := (HN64.out); omega) | simpa using h_) (seg := [.slice Ao68 y319.length co68]) (j := 0) (show 1 ≤ 1 from by decide) (x' := y319) (Kd.M_row HO321.out) (fun _ hk => hk); (try simp only [show ((Kd.slice 3 (Kd.int .i64))).sz = 1 from rfl, Nat.mul_one, Nat.add_zero] at HP66); clear hcc66 hfr66) | ((with_reducible refine gate_store (t := 36) (p := 64) rfl ?_); refine storeE (t := 36) (p := 64) (w1 := (w65.setCell ⟨go64, ((x5_1.length : Int) : Int).toNat, none⟩ (.slice Ao68 y319.length co68))) ?_; intro w67 hw; have hg : w65.grownBy w67 (some go64) := (by rw [hw]; exact HP66.2); have hp_ : Kd.S (Kd.slice 3 (Kd.int .i64)) 36 w67 w.heap.size (fun k_ => some k_ ≠ (.slice (some ad307) t292.length co57 : Value).ownBlock) (.slice (some ⟨go64, 0, none⟩) y315.length co63) y322 := (by rw [hw, Ny322.out]; exact HP66.1); clear HP66; have n0_ := Aside0.mk (Kd.R_over' (v := (.slice (some ⟨go64, 0, none⟩) y315.length co63)) (PR HO_3.out) (Kd.R_typed hraw66) (by decide) hg); have n1_ := Aside0.mk (bG BK291.out hg (Kd.R_ne hraw66 BK291.out (by decide))); have n2_ := Aside0.mk (bG BK295.out hg (map_ne hraw66 BK295.out HM295.out)); have n3_ := Aside0.mk (bG BK300.out hg (Kd.R_ne hraw66 BK300.out (by decide))); have n5_ := Aside0.mk ((by rw [hw]; exact below_set HB.out GB64.out : Below w.heap.size w w67)); have n6_ := Aside0.mk (hp_); clear HO_3; clear BK291; clear BK295; clear BK300; clear HB; clear HO321; clear HH64; have HO_3 := n0_; have BK291 := n1_; have BK295 := n2_; have BK300 := n3_; have HB := n5_; have HO317 := n6_; clear n0_ n1_ n2_ n3_ n5_ n6_; clear hg hw hp_ hraw66))
      go_roundg k1
      case measure => have := HK1.out; omega
      case rel => exact ⟨(y322), (wrap64 (x17_1 + 1)), (((rd t292 x17_1), (x5_1.length : Int)) :: xm_1), (_), RG, H', ⟨by have := HK1.out; omega⟩, ⟨PR HO_3.out⟩, ⟨PS HO317.out⟩, ⟨PB BK291.out⟩, ⟨PB BK295.out⟩, HM295, ⟨BL HB.out⟩⟩
    have c26b0 := beq_eq_false_iff_ne.mpr c26
    have c26b1 := bne_iff_ne.mpr c26
    have H' := Aside0.mk H
    clear H
    have p299 : 0 ≤ (x17_1 : Int) := OD
    have q299 : x17_1 < (l0_2.length : Int) := OD
    obtain ⟨ad299, e299, hx299_0, hx299_1⟩ := at_T73 HR0_2.out x17_1 p299 q299
    cases e299
    replace hx299_0 := (HB.out.cell (World.block_lt_of_cell? w _ hx299_0)).trans hx299_0
    replace hx299_1 := (HB.out.cell (World.block_lt_of_cell? w _ hx299_1)).trans hx299_1
    replace p299 := eq_true p299
    replace q299 := eq_true q299
    go_wp2_with (first | ((with_reducible refine gate_dst (N := 7) rfl ?_); refine boxE (N := 7) (cs := #[.int .i64 0, .int .i64 0]) (t := 73) ?_; intro gb300 hg w69 hbox hb; refine E12 (Kd.R_below (PR HO_3.out) hb) (Kd.S_below (PS HO_5.out) hb) (bB BK291.out hb) (bB BK295.out hb) (below_step (BL HB.out) hb) (hbox) (gwM hg (below_size (BL HB.out)) : w.heap.size ≤ gb300) (gwM hg (below_size (BL HB.out)) : w.heap.size ≤ gb300) ((nB BK291.out hg : gb291 ≠ gb300)) ((nC BK291.out hg : gb300 ≠ gb291)) ((nB BK295.out hg : gb295 ≠ gb300)) ((nC BK295.out hg : gb300 ≠ gb295)) ?_; clear HO_3 HO_5 BK291 BK295 HB; intro HO_3 HO_5 BK291 BK295 HB BK300 GW300 GE300 NB291_300 NB300_291 NB295_300 NB300_295; clear hb hbox hg; have hnb70 := NB300_291.out; have hnc70 := NB291_300.out; have hnb71 := NB300_295.out; have hnc71 := NB295_300.out; obtain ⟨hcz72_0, hcz72_1, hfz72_0, hfz72_1⟩ := cz2 BK300.out) | ((with_reducible refine gate_dst (N := 39) rfl ?_); refine look_event (b := gb295) (om := om_1) (mm := xm_1) rfl (.tmp 34) (.tmp 38) 88 3 rfl Try.underlying88 Try.underlying3 ?hz (by first | exact BK295.out | (refine obj_far ?_ NB295_300.out _; refine obj_far ?_ NB295_300.out _; exact BK295.out)) HM295.out ?hm (rd t292 x17_1) ?hx HKY.out ?_; (case hz => exact impl_unitsOf.zero3 _); (case hm => rfl); (case hx => first | rfl | (go_simp; done) | (go_simp; rfl))))
    go_roundg k1
    case measure => have := HK1.out; omega
    case rel => exact ⟨(x5_1), (wrap64 (x17_1 + 1)), (xm_1), (om_1), RG, H', ⟨by have := HK1.out; omega⟩, ⟨by (with_reducible repeat (first | apply Kd.R_alloc | apply Kd.R_drewN | apply Kd.R_drew)); exact Kd.R_mono (Kd.R_far (p := ⟨gb300, 1, none⟩) (Kd.R_far (p := ⟨gb300, 0, none⟩) (Kd.R_types HO_3.out BK300.out (by decide)) (fun _ hk => hk.2) (.int .i64 ((rd_T73 l0_2 x17_1).f0))) (fun _ hk => hk.2) (.int .i64 ((rd_T73 l0_2 x17_1).f1))) (fun _ hk => trivial)⟩, ⟨by (with_reducible repeat (first | apply Kd.S_alloc | apply Kd.S_drewN | apply Kd.S_drew)); exact Kd.S_mono (Kd.S_far (p := ⟨gb300, 1, none⟩) (Kd.S_far (p := ⟨gb300, 0, none⟩) (Kd.S_types HO_5.out BK300.out (by decide)) (fun _ hk => hk.2) (.int .i64 ((rd_T73 l0_2 x17_1).f0))) (fun _ hk => hk.2) (.int .i64 ((rd_T73 l0_2 x17_1).f1))) (fun _ hk => hk.1)⟩, ⟨by (with_reducible repeat (first | refine blk_drewN ?_ _ | refine blk_drew ?_ | refine blk_alloc ?_ _)); refine blk_far ?_ NB291_300.out _; (with_reducible repeat (first | refine blk_drewN ?_ _ | refine blk_drew ?_ | refine blk_alloc ?_ _)); refine blk_far ?_ NB291_300.out _; (with_reducible repeat (first | refine blk_drewN ?_ _ | refine blk_drew ?_ | refine blk_alloc ?_ _)); exact BK291.out⟩, ⟨by (with_reducible repeat (first | refine blk_drewN ?_ _ | refine blk_drew ?_ | refine blk_alloc ?_ _)); refine obj_far ?_ NB295_300.out _; (with_reducible repeat (first | refine blk_drewN ?_ _ | refine blk_drew ?_ | refine blk_alloc ?_ _)); refine obj_far ?_ NB295_300.out _; (with_reducible repeat (first | refine blk_drewN ?_ _ | refine blk_drew ?_ | refine blk_alloc ?_ _)); exact BK295.out⟩, HM295, ⟨BL HB.out⟩⟩
  obtain rfl := Option.some.inj H
  go_wp2
  go_ret
  exact ⟨_, RF, by (with_reducible repeat (first | apply Kd.S_alloc | apply Kd.S_drewN | apply Kd.S_drew)); exact Kd.S_mono HO_5.out (fun _ hk => trivial), BL HB.out⟩
/-! ### laws_eqCell: function 77 -/
def laws_eqCell.f (a0_0 : Int) (a0_1 : Int) (a1_0 : Int) (a1_1 : Int) : Option (Bool) := if a0_0 = a1_0 then (if a0_1 = a1_1 then (some true) else (some false)) else (some false)
set_option maxHeartbeats 8000000 in
set_option maxRecDepth 100000 in
theorem laws_eqCell.calls (a0_0 : Int) (a0_1 : Int) (a1_0 : Int) (a1_1 : Int) (r : Bool) (w : World) (h : laws_eqCell.f a0_0 a0_1 a1_0 a1_1 = some r) :
    Calls Try.prog 77 #[.agg #[.int .i64 a0_0, .int .i64 a0_1], .agg #[.int .i64 a1_0, .int .i64 a1_1]] w fun e w' => e = .returned (.bool r) ∧ Below w.heap.size w w' := by
  have hu73 := Try.underlying73
  have HB := Aside0.mk (Below.refl w.heap.size w)
  have H := h
  clear h
  unfold laws_eqCell.f at H
  replace H := ifQ H; rcases H with ⟨c3, H⟩ | ⟨c3, H⟩
  · have c3b0 := beq_iff_eq.mpr c3
    have c3b1 := bne_eq_false_iff_eq.mpr c3
    clear c3
    replace H := ifQ H; rcases H with ⟨c4, H⟩ | ⟨c4, H⟩
    · have c4b0 := beq_iff_eq.mpr c4
      have c4b1 := bne_eq_false_iff_eq.mpr c4
      clear c4
      obtain rfl := Option.some.inj H
      go_enter Try.func77, Try.ntmps77
      go_wp2_with (first | ((with_reducible refine gate_dst (N := 2) rfl ?_); refine boxE (N := 2) (cs := #[.int .i64 a0_0, .int .i64 a0_1]) (t := 73) ?_; intro gb342 hg w5 hbox hb; refine E4b HB.out hg hbox hb ?_; clear HB; intro HB BK342 GW342 GE342; clear hb hbox hg) | ((with_reducible refine gate_dst (N := 3) rfl ?_); refine boxE (N := 3) (cs := #[.int .i64 a1_0, .int .i64 a1_1]) (t := 73) ?_; intro gb343 hg w6 hbox hb; refine E7 (bB BK342.out hb) (below_step (BL HB.out) hb) (hbox) (gwM hg (below_size (BL HB.out)) : w.heap.size ≤ gb343) (gwM hg (below_size (BL HB.out)) : w.heap.size ≤ gb343) ((nB BK342.out hg : gb342 ≠ gb343)) ((nC BK342.out hg : gb343 ≠ gb342)) ?_; clear BK342 HB; intro BK342 HB BK343 GW343 GE343 NB342_343 NB343_342; clear hb hbox hg; have hnb7 := NB342_343.out; have hnc7 := NB343_342.out; obtain ⟨hcz8_0, hcz8_1, hfz8_0, hfz8_1⟩ := cz2 BK342.out; obtain ⟨hcz9_0, hcz9_1, hfz9_0, hfz9_1⟩ := cz2 BK343.out))
      go_ret
      exact ⟨RF, BL HB.out⟩
    have c4b0 := beq_eq_false_iff_ne.mpr c4
    have c4b1 := bne_iff_ne.mpr c4
    obtain rfl := Option.some.inj H
    go_enter Try.func77, Try.ntmps77
    go_wp2_with (first | ((with_reducible refine gate_dst (N := 2) rfl ?_); refine boxE (N := 2) (cs := #[.int .i64 a0_0, .int .i64 a0_1]) (t := 73) ?_; intro gb342 hg w10 hbox hb; refine E4b HB.out hg hbox hb ?_; clear HB; intro HB BK342 GW342 GE342; clear hb hbox hg) | ((with_reducible refine gate_dst (N := 3) rfl ?_); refine boxE (N := 3) (cs := #[.int .i64 a1_0, .int .i64 a1_1]) (t := 73) ?_; intro gb343 hg w11 hbox hb; refine E7 (bB BK342.out hb) (below_step (BL HB.out) hb) (hbox) (gwM hg (below_size (BL HB.out)) : w.heap.size ≤ gb343) (gwM hg (below_size (BL HB.out)) : w.heap.size ≤ gb343) ((nB BK342.out hg : gb342 ≠ gb343)) ((nC BK342.out hg : gb343 ≠ gb342)) ?_; clear BK342 HB; intro BK342 HB BK343 GW343 GE343 NB342_343 NB343_342; clear hb hbox hg; have hnb12 := NB342_343.out; have hnc12 := NB343_342.out; obtain ⟨hcz13_0, hcz13_1, hfz13_0, hfz13_1⟩ := cz2 BK342.out; obtain ⟨hcz14_0, hcz14_1, hfz14_0, hfz14_1⟩ := cz2 BK343.out))
    go_ret
    exact ⟨RF, BL HB.out⟩
  have c3b0 := beq_eq_false_iff_ne.mpr c3
  have c3b1 := bne_iff_ne.mpr c3
  obtain rfl := Option.some.inj H
  go_enter Try.func77, Try.ntmps77
  go_wp2_with (first | ((with_reducible refine gate_dst (N := 2) rfl ?_); refine boxE (N := 2) (cs := #[.int .i64 a0_0, .int .i64 a0_1]) (t := 73) ?_; intro gb342 hg w15 hbox hb; refine E4b HB.out hg hbox hb ?_; clear HB; intro HB BK342 GW342 GE342; clear hb hbox hg) | ((with_reducible refine gate_dst (N := 3) rfl ?_); refine boxE (N := 3) (cs := #[.int .i64 a1_0, .int .i64 a1_1]) (t := 73) ?_; intro gb343 hg w16 hbox hb; refine E7 (bB BK342.out hb) (below_step (BL HB.out) hb) (hbox) (gwM hg (below_size (BL HB.out)) : w.heap.size ≤ gb343) (gwM hg (below_size (BL HB.out)) : w.heap.size ≤ gb343) ((nB BK342.out hg : gb342 ≠ gb343)) ((nC BK342.out hg : gb343 ≠ gb342)) ?_; clear BK342 HB; intro BK342 HB BK343 GW343 GE343 NB342_343 NB343_342; clear hb hbox hg; have hnb17 := NB342_343.out; have hnc17 := NB343_342.out; obtain ⟨hcz18_0, hcz18_1, hfz18_0, hfz18_1⟩ := cz2 BK342.out; obtain ⟨hcz19_0, hcz19_1, hfz19_0, hfz19_1⟩ := cz2 BK343.out))
  go_ret
  exact ⟨RF, BL HB.out⟩
end Go.Proofs.Ytakihdabbpconaa.P
