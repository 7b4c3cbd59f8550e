-- PRINTED by print.py (a twelfth state) out of the translation. Not trusted: Lean checks it.
import Derived.Test.YtakihdabbpconaaPx0
import Derived.Test.YtakihdabbpconaaPx1
import Derived.Test.YtakihdabbpconaaPx2
import Derived.Test.YtakihdabbpconaaPx3
import Derived.Test.YtakihdabbpconaaPx7
namespace Go.Proofs.Ytakihdabbpconaa.P
open Go.RowKit Go.Proofs.YtakihdabbpconaaW.PrintWords Go.Proofs.YtakihdabbpconaaW.PrintLast Go.Proofs.YtakihdabbpconaaW.PrintMore
attribute [local go_sem] max2_int min2_int max_two min_two max_three min_three max_four min_four   -- for this text's walks alone
set_option linter.unusedVariables false
set_option linter.unusedSimpArgs false

attribute [local go_sem high] eqA73
/-! ### spec_boSize: function 65 -/
def spec_boSize.f (k : Nat) (a0_0 : Int) (a0_1 : Int) (l0_2 : List (S73)) (a1_0 : Int) (a1_1 : Int) (l1_2 : List (S73)) : Option (Bool) := (spec_boGood.f k a0_0 a0_1 l0_2).bind fun t598 => (if t598 = true then ((spec_boGood.f k a1_0 a1_1 l1_2).bind fun t599 => (if t599 = true then (if a0_0 = a1_0 then (some (a0_1 == a1_1)) else (some false)) else (some false))) else (some false))
theorem spec_boSize.mono : ∀ a0 a1 a2 a3 a4 a5 k, LeO (spec_boSize.f k a0 a1 a2 a3 a4 a5) (spec_boSize.f (k + 1) a0 a1 a2 a3 a4 a5) := by
  intro a0 a1 a2 a3 a4 a5 k
  unfold spec_boSize.f
  repeat' first
      | (with_reducible exact spec_boGood.mono _ _ _ _)
      | (with_reducible exact LeO.refl _)
      | (with_reducible exact LeO.none _)
      | (with_reducible refine LeO.ite ?_ ?_)
      | (with_reducible refine LeO.bind ?_ (fun _ => ?_))
      | exact spec_boGood.mono _ _ _ _
      | exact LeO.none _
      | refine LeO.ite ?_ ?_
      | refine LeO.bind ?_ (fun _ => ?_)
set_option maxHeartbeats 8000000 in
set_option maxRecDepth 100000 in
theorem spec_boSize.calls (k : Nat) (a0_0 : Int) (a0_1 : Int) (A0_2 : Option Addr) (c0_2 : Nat) (l0_2 : List (S73)) (a1_0 : Int) (a1_1 : Int) (A1_2 : Option Addr) (c1_2 : Nat) (l1_2 : List (S73)) (r : Bool) (w : World) (hr0_2 : Kd.C k73 w A0_2 l0_2.length l0_2) (hc0_2 : l0_2.length ≤ c0_2) (hr1_2 : Kd.C k73 w A1_2 l1_2.length l1_2) (hc1_2 : l1_2.length ≤ c1_2) (h : spec_boSize.f k a0_0 a0_1 l0_2 a1_0 a1_1 l1_2 = some r) :
    Calls Try.prog 65 #[.agg #[.int .i64 a0_0, .int .i64 a0_1, .slice A0_2 l0_2.length c0_2], .agg #[.int .i64 a1_0, .int .i64 a1_1, .slice A1_2 l1_2.length c1_2]] w fun e w' => e = .returned (.bool r) ∧ Below w.heap.size w w' := by
  have hu30 := Try.underlying30
  have HR0_2 := Aside0.mk hr0_2
  have HC0_2 := Aside0.mk hc0_2
  clear hr0_2 hc0_2
  have HR1_2 := Aside0.mk hr1_2
  have HC1_2 := Aside0.mk hc1_2
  clear hr1_2 hc1_2
  have HB := Aside0.mk (Below.refl w.heap.size w)
  have H := h
  clear h
  unfold spec_boSize.f at H
  replace H := bindA H; obtain ⟨t598, A3, H⟩ := H
  replace H := ifX H; rcases H with ⟨rfl, H⟩ | ⟨rfl, H⟩
  · replace H := bindA H; obtain ⟨t599, A5, H⟩ := H
    replace H := ifX H; rcases H with ⟨rfl, H⟩ | ⟨rfl, H⟩
    · replace H := ifQ H; rcases H with ⟨c7, H⟩ | ⟨c7, H⟩
      · have c7b0 := beq_iff_eq.mpr c7
        have c7b1 := bne_eq_false_iff_eq.mpr c7
        clear c7
        obtain rfl := Option.some.inj H
        go_enter Try.func65, Try.ntmps65
        go_wp2_with (first | ((with_reducible refine gate_dst (N := 2) rfl ?_); refine boxE (N := 2) (cs := #[.int .i64 a0_0, .int .i64 a0_1, .slice A0_2 l0_2.length c0_2]) (t := 30) ?_; intro gb596 hg w8 hbox hb; refine E4b HB.out hg hbox hb ?_; clear HB; intro HB BK596 GW596 GE596; clear hb hbox hg) | ((with_reducible refine gate_dst (N := 3) rfl ?_); refine boxE (N := 3) (cs := #[.int .i64 a1_0, .int .i64 a1_1, .slice A1_2 l1_2.length c1_2]) (t := 30) ?_; intro gb597 hg w9 hbox hb; refine E7 (bB BK596.out hb) (below_step (BL HB.out) hb) (hbox) (gwM hg (below_size (BL HB.out)) : w.heap.size ≤ gb597) (gwM hg (below_size (BL HB.out)) : w.heap.size ≤ gb597) ((nB BK596.out hg : gb596 ≠ gb597)) ((nC BK596.out hg : gb597 ≠ gb596)) ?_; clear BK596 HB; intro BK596 HB BK597 GW597 GE597 NB596_597 NB597_596; clear hb hbox hg; have hnb10 := NB596_597.out; have hnc10 := NB597_596.out; obtain ⟨hcz11_0, hcz11_1, hcz11_2, hfz11_0, hfz11_1, hfz11_2⟩ := cz3 BK596.out) | ((with_reducible refine gate_callee (f := 46) rfl ?_); refine goesM (N := (some 6)) #[.agg #[.int .i64 a0_0, .int .i64 a0_1, .slice A0_2 l0_2.length c0_2]] Try.func46 ?_; (with_reducible refine (spec_boGood.calls k a0_0 a0_1 _ _ l0_2 true _ ?side1 ?side2 A3.out).mono ?_); (case side1 => exact CB (Kd.C_below HR0_2.out HB.out)); (case side2 => exact HC0_2.out); rintro e w12 ⟨rfl, hb⟩; refine ⟨_, rfl, ?_⟩; refine E3 (bB BK596.out hb) (bB BK597.out hb) (below_step (BL HB.out) hb) ?_; clear BK596 BK597 HB; intro BK596 BK597 HB; (try clear hb); (try clear hb2); (try clear hk); (try clear hi); obtain ⟨hcz13_0, hcz13_1, hcz13_2, hfz13_0, hfz13_1, hfz13_2⟩ := cz3 BK597.out) | (go_at_call 46; (with_reducible refine (spec_boGood.calls k a1_0 a1_1 _ _ l1_2 true _ ?side1 ?side2 A5.out).mono ?_); (case side1 => exact CB (Kd.C_below HR1_2.out HB.out)); (case side2 => exact HC1_2.out); rintro e w14 ⟨rfl, hb⟩; refine E3 (bB BK596.out hb) (bB BK597.out hb) (below_step (BL HB.out) hb) ?_; clear BK596 BK597 HB; intro BK596 BK597 HB; (try clear hb); (try clear hb2); (try clear hk); (try clear hi); obtain ⟨hcz15_0, hcz15_1, hcz15_2, hfz15_0, hfz15_1, hfz15_2⟩ := cz3 BK596.out; obtain ⟨hcz16_0, hcz16_1, hcz16_2, hfz16_0, hfz16_1, hfz16_2⟩ := cz3 BK597.out))
        go_ret
        exact ⟨RF, BL HB.out⟩
      have c7b0 := beq_eq_false_iff_ne.mpr c7
      have c7b1 := bne_iff_ne.mpr c7
      obtain rfl := Option.some.inj H
      go_enter Try.func65, Try.ntmps65
      go_wp2_with (first | ((with_reducible refine gate_dst (N := 2) rfl ?_); refine boxE (N := 2) (cs := #[.int .i64 a0_0, .int .i64 a0_1, .slice A0_2 l0_2.length c0_2]) (t := 30) ?_; intro gb596 hg w17 hbox hb; refine E4b HB.out hg hbox hb ?_; clear HB; intro HB BK596 GW596 GE596; clear hb hbox hg) | ((with_reducible refine gate_dst (N := 3) rfl ?_); refine boxE (N := 3) (cs := #[.int .i64 a1_0, .int .i64 a1_1, .slice A1_2 l1_2.length c1_2]) (t := 30) ?_; intro gb597 hg w18 hbox hb; refine E7 (bB BK596.out hb) (below_step (BL HB.out) hb) (hbox) (gwM hg (below_size (BL HB.out)) : w.heap.size ≤ gb597) (gwM hg (below_size (BL HB.out)) : w.heap.size ≤ gb597) ((nB BK596.out hg : gb596 ≠ gb597)) ((nC BK596.out hg : gb597 ≠ gb596)) ?_; clear BK596 HB; intro BK596 HB BK597 GW597 GE597 NB596_597 NB597_596; clear hb hbox hg; have hnb19 := NB596_597.out; have hnc19 := NB597_596.out; obtain ⟨hcz20_0, hcz20_1, hcz20_2, hfz20_0, hfz20_1, hfz20_2⟩ := cz3 BK596.out) | ((with_reducible refine gate_callee (f := 46) rfl ?_); refine goesM (N := (some 6)) #[.agg #[.int .i64 a0_0, .int .i64 a0_1, .slice A0_2 l0_2.length c0_2]] Try.func46 ?_; (with_reducible refine (spec_boGood.calls k a0_0 a0_1 _ _ l0_2 true _ ?side1 ?side2 A3.out).mono ?_); (case side1 => exact CB (Kd.C_below HR0_2.out HB.out)); (case side2 => exact HC0_2.out); rintro e w21 ⟨rfl, hb⟩; refine ⟨_, rfl, ?_⟩; refine E3 (bB BK596.out hb) (bB BK597.out hb) (below_step (BL HB.out) hb) ?_; clear BK596 BK597 HB; intro BK596 BK597 HB; (try clear hb); (try clear hb2); (try clear hk); (try clear hi); obtain ⟨hcz22_0, hcz22_1, hcz22_2, hfz22_0, hfz22_1, hfz22_2⟩ := cz3 BK597.out) | (go_at_call 46; (with_reducible refine (spec_boGood.calls k a1_0 a1_1 _ _ l1_2 true _ ?side1 ?side2 A5.out).mono ?_); (case side1 => exact CB (Kd.C_below HR1_2.out HB.out)); (case side2 => exact HC1_2.out); rintro e w23 ⟨rfl, hb⟩; refine E3 (bB BK596.out hb) (bB BK597.out hb) (below_step (BL HB.out) hb) ?_; clear BK596 BK597 HB; intro BK596 BK597 HB; (try clear hb); (try clear hb2); (try clear hk); (try clear hi); obtain ⟨hcz24_0, hcz24_1, hcz24_2, hfz24_0, hfz24_1, hfz24_2⟩ := cz3 BK596.out; obtain ⟨hcz25_0, hcz25_1, hcz25_2, hfz25_0, hfz25_1, hfz25_2⟩ := cz3 BK597.out))
      go_ret
      exact ⟨RF, BL HB.out⟩
    obtain rfl := Option.some.inj H
    go_enter Try.func65, Try.ntmps65
    go_wp2_with (first | ((with_reducible refine gate_dst (N := 2) rfl ?_); refine boxE (N := 2) (cs := #[.int .i64 a0_0, .int .i64 a0_1, .slice A0_2 l0_2.length c0_2]) (t := 30) ?_; intro gb596 hg w26 hbox hb; refine E4b HB.out hg hbox hb ?_; clear HB; intro HB BK596 GW596 GE596; clear hb hbox hg) | ((with_reducible refine gate_dst (N := 3) rfl ?_); refine boxE (N := 3) (cs := #[.int .i64 a1_0, .int .i64 a1_1, .slice A1_2 l1_2.length c1_2]) (t := 30) ?_; intro gb597 hg w27 hbox hb; refine E7 (bB BK596.out hb) (below_step (BL HB.out) hb) (hbox) (gwM hg (below_size (BL HB.out)) : w.heap.size ≤ gb597) (gwM hg (below_size (BL HB.out)) : w.heap.size ≤ gb597) ((nB BK596.out hg : gb596 ≠ gb597)) ((nC BK596.out hg : gb597 ≠ gb596)) ?_; clear BK596 HB; intro BK596 HB BK597 GW597 GE597 NB596_597 NB597_596; clear hb hbox hg; have hnb28 := NB596_597.out; have hnc28 := NB597_596.out; obtain ⟨hcz29_0, hcz29_1, hcz29_2, hfz29_0, hfz29_1, hfz29_2⟩ := cz3 BK596.out) | ((with_reducible refine gate_callee (f := 46) rfl ?_); refine goesM (N := (some 6)) #[.agg #[.int .i64 a0_0, .int .i64 a0_1, .slice A0_2 l0_2.length c0_2]] Try.func46 ?_; (with_reducible refine (spec_boGood.calls k a0_0 a0_1 _ _ l0_2 true _ ?side1 ?side2 A3.out).mono ?_); (case side1 => exact CB (Kd.C_below HR0_2.out HB.out)); (case side2 => exact HC0_2.out); rintro e w30 ⟨rfl, hb⟩; refine ⟨_, rfl, ?_⟩; refine E3 (bB BK596.out hb) (bB BK597.out hb) (below_step (BL HB.out) hb) ?_; clear BK596 BK597 HB; intro BK596 BK597 HB; (try clear hb); (try clear hb2); (try clear hk); (try clear hi); obtain ⟨hcz31_0, hcz31_1, hcz31_2, hfz31_0, hfz31_1, hfz31_2⟩ := cz3 BK597.out) | (go_at_call 46; (with_reducible refine (spec_boGood.calls k a1_0 a1_1 _ _ l1_2 false _ ?side1 ?side2 A5.out).mono ?_); (case side1 => exact CB (Kd.C_below HR1_2.out HB.out)); (case side2 => exact HC1_2.out); rintro e w32 ⟨rfl, hb⟩; refine E3 (bB BK596.out hb) (bB BK597.out hb) (below_step (BL HB.out) hb) ?_; clear BK596 BK597 HB; intro BK596 BK597 HB; (try clear hb); (try clear hb2); (try clear hk); (try clear hi)))
    go_ret
    exact ⟨RF, BL HB.out⟩
  obtain rfl := Option.some.inj H
  go_enter Try.func65, Try.ntmps65
  go_wp2_with (first | ((with_reducible refine gate_dst (N := 2) rfl ?_); refine boxE (N := 2) (cs := #[.int .i64 a0_0, .int .i64 a0_1, .slice A0_2 l0_2.length c0_2]) (t := 30) ?_; intro gb596 hg w33 hbox hb; refine E4b HB.out hg hbox hb ?_; clear HB; intro HB BK596 GW596 GE596; clear hb hbox hg) | ((with_reducible refine gate_dst (N := 3) rfl ?_); refine boxE (N := 3) (cs := #[.int .i64 a1_0, .int .i64 a1_1, .slice A1_2 l1_2.length c1_2]) (t := 30) ?_; intro gb597 hg w34 hbox hb; refine E7 (bB BK596.out hb) (below_step (BL HB.out) hb) (hbox) (gwM hg (below_size (BL HB.out)) : w.heap.size ≤ gb597) (gwM hg (below_size (BL HB.out)) : w.heap.size ≤ gb597) ((nB BK596.out hg : gb596 ≠ gb597)) ((nC BK596.out hg : gb597 ≠ gb596)) ?_; clear BK596 HB; intro BK596 HB BK597 GW597 GE597 NB596_597 NB597_596; clear hb hbox hg; have hnb35 := NB596_597.out; have hnc35 := NB597_596.out; obtain ⟨hcz36_0, hcz36_1, hcz36_2, hfz36_0, hfz36_1, hfz36_2⟩ := cz3 BK596.out) | ((with_reducible refine gate_callee (f := 46) rfl ?_); refine goesM (N := (some 6)) #[.agg #[.int .i64 a0_0, .int .i64 a0_1, .slice A0_2 l0_2.length c0_2]] Try.func46 ?_; (with_reducible refine (spec_boGood.calls k a0_0 a0_1 _ _ l0_2 false _ ?side1 ?side2 A3.out).mono ?_); (case side1 => exact CB (Kd.C_below HR0_2.out HB.out)); (case side2 => exact HC0_2.out); rintro e w37 ⟨rfl, hb⟩; refine ⟨_, rfl, ?_⟩; refine E3 (bB BK596.out hb) (bB BK597.out hb) (below_step (BL HB.out) hb) ?_; clear BK596 BK597 HB; intro BK596 BK597 HB; (try clear hb); (try clear hb2); (try clear hk); (try clear hi)))
  go_ret
  exact ⟨RF, BL HB.out⟩

/-! ### spec_boDifferent: function 81 -/
def spec_boDifferent.l0 : Nat → List Int → List (S73) → Int → Int → Int → Int → List (S73) → Option (List Int)
  | 0, _, _, _, _, _, _, _ => none
  | k + 1, x5, x9, x10, x11, x602000, x602001, x602002 => if x11 < x10 then (if 0 ≤ x11 then (if x11 < (x9.length : Int) then (if x11 < (x602002.length : Int) then (if (!(((rd_T73 x9 x11).f0) == ((rd_T73 x602002 x11).f0)) || (!(((rd_T73 x9 x11).f1) == ((rd_T73 x602002 x11).f1)))) = true then (if x5.length < 17592186044416 then (spec_boDifferent.l0 k (x5 ++ [x11]) x9 x10 (wrap64 (x11 + 1)) x602000 x602001 x602002) else (none)) else (spec_boDifferent.l0 k x5 x9 x10 (wrap64 (x11 + 1)) x602000 x602001 x602002)) else (none)) else (none)) else (none)) else (some x5)
def spec_boDifferent.f (k : Nat) (a0_0 : Int) (a0_1 : Int) (l0_2 : List (S73)) (a1_0 : Int) (a1_1 : Int) (l1_2 : List (S73)) : Option (List Int) := spec_boDifferent.l0 k ([] : List Int) l0_2 (l0_2.length : Int) 0 a1_0 a1_1 l1_2
theorem spec_boDifferent.mono_l : ∀ k, (∀ y0 y1 y2 y3 y4 y5 y6, LeO (spec_boDifferent.l0 k y0 y1 y2 y3 y4 y5 y6) (spec_boDifferent.l0 (k + 1) y0 y1 y2 y3 y4 y5 y6))
  | 0 => fun _ _ _ _ _ _ _ r h => by simp [spec_boDifferent.l0] at h
  | k + 1 => by
    have ih0 := spec_boDifferent.mono_l k
    intros
    first | unfold spec_boDifferent.l0
    repeat' first | (with_reducible first | apply ih0 | exact LeO.refl _ | exact LeO.none _ | refine LeO.ite ?_ ?_ | refine LeO.bind ?_ (fun _ => ?_)) | apply ih0 | exact LeO.none _ | refine LeO.ite ?_ ?_ | refine LeO.bind ?_ (fun _ => ?_)
theorem spec_boDifferent.mono : ∀ a0 a1 a2 a3 a4 a5 k, LeO (spec_boDifferent.f k a0 a1 a2 a3 a4 a5) (spec_boDifferent.f (k + 1) a0 a1 a2 a3 a4 a5) := by
  intro a0 a1 a2 a3 a4 a5 k
  have ih0 := spec_boDifferent.mono_l k
  unfold spec_boDifferent.f
  repeat' first | (with_reducible first | apply ih0 | exact LeO.refl _ | exact LeO.none _ | refine LeO.ite ?_ ?_ | refine LeO.bind ?_ (fun _ => ?_)) | apply ih0 | exact LeO.none _ | refine LeO.ite ?_ ?_ | refine LeO.bind ?_ (fun _ => ?_)
set_option maxHeartbeats 8000000 in
set_option maxRecDepth 100000 in
theorem spec_boDifferent.calls (k : Nat) (a0_0 : Int) (a0_1 : Int) (A0_2 : Option Addr) (c0_2 : Nat) (l0_2 : List (S73)) (a1_0 : Int) (a1_1 : Int) (A1_2 : Option Addr) (c1_2 : Nat) (l1_2 : List (S73)) (r : List Int) (w : World) (hr0_2 : Kd.C k73 w A0_2 l0_2.length l0_2) (hc0_2 : l0_2.length ≤ c0_2) (hr1_2 : Kd.C k73 w A1_2 l1_2.length l1_2) (hc1_2 : l1_2.length ≤ c1_2) (h : spec_boDifferent.f k a0_0 a0_1 l0_2 a1_0 a1_1 l1_2 = some r) :
    Calls Try.prog 81 #[.agg #[.int .i64 a0_0, .int .i64 a0_1, .slice A0_2 l0_2.length c0_2], .agg #[.int .i64 a1_0, .int .i64 a1_1, .slice A1_2 l1_2.length c1_2]] w fun e w' => ∃ v0_ : Value, e = .returned (v0_) ∧ Kd.R (Kd.int .i64) 3 w' w.heap.size (fun _ => True) v0_ r ∧ Below w.heap.size w w' := by
  have hu30 := Try.underlying30
  have hu73 := Try.underlying73
  have HR0_2 := Aside0.mk hr0_2
  have HC0_2 := Aside0.mk hc0_2
  clear hr0_2 hc0_2
  have HR1_2 := Aside0.mk hr1_2
  have HC1_2 := Aside0.mk hc1_2
  clear hr1_2 hc1_2
  have HB := Aside0.mk (Below.refl w.heap.size w)
  have H := h
  clear h
  unfold spec_boDifferent.f at H
  have H' := Aside0.mk H
  clear H
  go_enter Try.func81, Try.ntmps81
  go_wp2_with (first | ((with_reducible refine gate_dst (N := 2) rfl ?_); refine boxE (N := 2) (cs := #[.int .i64 a0_0, .int .i64 a0_1, .slice A0_2 l0_2.length c0_2]) (t := 30) ?_; intro gb600 hg w3 hbox hb; refine E4b HB.out hg hbox hb ?_; clear HB; intro HB BK600 GW600 GE600; clear hb hbox hg) | ((with_reducible refine gate_dst (N := 3) rfl ?_); refine boxE (N := 3) (cs := #[.int .i64 a1_0, .int .i64 a1_1, .slice A1_2 l1_2.length c1_2]) (t := 30) ?_; intro gb601 hg w4 hbox hb; refine E7 (bB BK600.out hb) (below_step (BL HB.out) hb) (hbox) (gwM hg (below_size (BL HB.out)) : w.heap.size ≤ gb601) (gwM hg (below_size (BL HB.out)) : w.heap.size ≤ gb601) ((nB BK600.out hg : gb600 ≠ gb601)) ((nC BK600.out hg : gb601 ≠ gb600)) ?_; clear BK600 HB; intro BK600 HB BK601 GW601 GE601 NB600_601 NB601_600; clear hb hbox hg; have hnb5 := NB600_601.out; have hnc5 := NB601_600.out; obtain ⟨hcz6_0, hcz6_1, hcz6_2, hfz6_0, hfz6_1, hfz6_2⟩ := cz3 BK600.out))
  repeat (go_quiet (first | ((with_reducible refine gate_dst (N := 2) rfl ?_); refine boxE (N := 2) (cs := #[.int .i64 a0_0, .int .i64 a0_1, .slice A0_2 l0_2.length c0_2]) (t := 30) ?_; intro gb600 hg w3 hbox hb; refine E4b HB.out hg hbox hb ?_; clear HB; intro HB BK600 GW600 GE600; clear hb hbox hg) | ((with_reducible refine gate_dst (N := 3) rfl ?_); refine boxE (N := 3) (cs := #[.int .i64 a1_0, .int .i64 a1_1, .slice A1_2 l1_2.length c1_2]) (t := 30) ?_; intro gb601 hg w4 hbox hb; refine E7 (bB BK600.out hb) (below_step (BL HB.out) hb) (hbox) (gwM hg (below_size (BL HB.out)) : w.heap.size ≤ gb601) (gwM hg (below_size (BL HB.out)) : w.heap.size ≤ gb601) ((nB BK600.out hg : gb600 ≠ gb601)) ((nC BK600.out hg : gb601 ≠ gb600)) ?_; clear BK600 HB; intro BK600 HB BK601 GW601 GE601 NB600_601 NB601_600; clear hb hbox hg; have hnb5 := NB600_601.out; have hnc5 := NB601_600.out; obtain ⟨hcz6_0, hcz6_1, hcz6_2, hfz6_0, hfz6_1, hfz6_2⟩ := cz3 BK600.out)); try go_wp2_with (first | ((with_reducible refine gate_dst (N := 2) rfl ?_); refine boxE (N := 2) (cs := #[.int .i64 a0_0, .int .i64 a0_1, .slice A0_2 l0_2.length c0_2]) (t := 30) ?_; intro gb600 hg w3 hbox hb; refine E4b HB.out hg hbox hb ?_; clear HB; intro HB BK600 GW600 GE600; clear hb hbox hg) | ((with_reducible refine gate_dst (N := 3) rfl ?_); refine boxE (N := 3) (cs := #[.int .i64 a1_0, .int .i64 a1_1, .slice A1_2 l1_2.length c1_2]) (t := 30) ?_; intro gb601 hg w4 hbox hb; refine E7 (bB BK600.out hb) (below_step (BL HB.out) hb) (hbox) (gwM hg (below_size (BL HB.out)) : w.heap.size ≤ gb601) (gwM hg (below_size (BL HB.out)) : w.heap.size ≤ gb601) ((nB BK600.out hg : gb600 ≠ gb601)) ((nC BK600.out hg : gb601 ≠ gb600)) ?_; clear BK600 HB; intro BK600 HB BK601 GW601 GE601 NB600_601 NB601_600; clear hb hbox hg; have hnb5 := NB600_601.out; have hnc5 := NB601_600.out; obtain ⟨hcz6_0, hcz6_1, hcz6_2, hfz6_0, hfz6_1, hfz6_2⟩ := cz3 BK600.out)))
  go_loopg [5, 11] k (fun kq v5 v11 w' => ∃ (x5_1 : List Int) (x11_1 : Int), v11 = .int .i64 x11_1 ∧ Aside0 (spec_boDifferent.l0 kq x5_1 l0_2 (l0_2.length : Int) x11_1 a1_0 a1_1 l1_2 = some r) ∧ Aside0 (kq ≤ k) ∧ Aside0 (Kd.R (Kd.int .i64) 3 w' w.heap.size (fun _ => True) v5 x5_1) ∧ Aside0 (w'.heap[gb600]? = some (.cells #[.int .i64 a0_0, .int .i64 a0_1, (.slice A0_2 l0_2.length c0_2)] 30 (0, 0))) ∧ Aside0 (w'.heap[gb601]? = some (.cells #[.int .i64 a1_0, .int .i64 a1_1, (.slice A1_2 l1_2.length c1_2)] 30 (0, 0))) ∧ Aside0 (Below w.heap.size w w'))
  case atStart => exact ⟨(([] : List Int)), (0), RG, H', ⟨Nat.le_refl _⟩, ⟨by first | exact Kd.R_nil _ _ _ _ _ | exact Kd.N_nil _ _ _ _ _ | exact Kd.V_nil _ _ _ _ _ | exact Kd.Q_nil _ _ _ _ _ | exact Kd.S_nil _ _ _ _ _⟩, ⟨PB BK600.out⟩, ⟨PB BK601.out⟩, ⟨BL HB.out⟩⟩
  clear H'
  try clear hcz6_0; try clear hcz6_1; try clear hcz6_2; try clear hfz6_0; try clear hfz6_1; try clear hfz6_2
  obtain ⟨x5_1, x11_1, rfl, HA, HK1, HO_5, BK600, BK601, HB⟩ := hrel
  cases gk with
  | zero => exact absurd HA.out (by simp [spec_boDifferent.l0])
  | succ k1 => ?_
  have H := HA.out
  clear HA
  simp only [spec_boDifferent.l0] at H
  replace H := ifB H; rcases H with ⟨c7b0, H⟩ | ⟨c7b0, H⟩
  · replace H := ifN H; obtain ⟨c8b0, H⟩ := H
    replace H := ifN H; obtain ⟨c9b0, H⟩ := H
    replace H := ifN H; obtain ⟨c10b0, H⟩ := H
    replace H := ifQ H; rcases H with ⟨c11, H⟩ | ⟨c11, H⟩
    · have c11b0 : (!(((rd_T73 l0_2 x11_1).f0) == ((rd_T73 l1_2 x11_1).f0)) || (!(((rd_T73 l0_2 x11_1).f1) == ((rd_T73 l1_2 x11_1).f1)))) = true := c11
      clear c11
      replace H := ifP H; obtain ⟨c12, H⟩ := H
      have LMc12 := Aside0.mk c12
      clear c12
      generalize hy605 : ((x5_1 ++ [x11_1]) : List Int) = y605 at H
      have Ny605 := Aside0.mk hy605.symm; clear hy605
      have H' := Aside0.mk H
      clear H
      have p602 : 0 ≤ (x11_1 : Int) := OD
      have q602 : x11_1 < (l0_2.length : Int) := OD
      obtain ⟨ad602, e602, hx602_0, hx602_1⟩ := at_T73 HR0_2.out x11_1 p602 q602
      cases e602
      replace hx602_0 := (HB.out.cell (World.block_lt_of_cell? w _ hx602_0)).trans hx602_0
      replace hx602_1 := (HB.out.cell (World.block_lt_of_cell? w _ hx602_1)).trans hx602_1
      replace p602 := eq_true p602
      replace q602 := eq_true q602
      go_wp2_with (first | ((with_reducible refine gate_dst (N := 7) rfl ?_); refine boxE (N := 7) (cs := #[.int .i64 0, .int .i64 0]) (t := 73) ?_; intro gb603 hg w13 hbox hb; refine E11 (Kd.R_below (PR HO_5.out) hb) (bB BK600.out hb) (bB BK601.out hb) (below_step (BL HB.out) hb) (hbox) (gwM hg (below_size (BL HB.out)) : w.heap.size ≤ gb603) (gwM hg (below_size (BL HB.out)) : w.heap.size ≤ gb603) ((nB BK600.out hg : gb600 ≠ gb603)) ((nC BK600.out hg : gb603 ≠ gb600)) ((nB BK601.out hg : gb601 ≠ gb603)) ((nC BK601.out hg : gb603 ≠ gb601)) ?_; clear HO_5 BK600 BK601 HB; intro HO_5 BK600 BK601 HB BK603 GW603 GE603 NB600_603 NB603_600 NB601_603 NB603_601; clear hb hbox hg; have hnb14 := NB603_600.out; have hnc14 := NB600_603.out; have hnb15 := NB603_601.out; have hnc15 := NB601_603.out; obtain ⟨hcz16_0, hcz16_1, hfz16_0, hfz16_1⟩ := cz2 BK603.out; have hnb17 := NB601_600.out; have hnc17 := NB600_601.out; obtain ⟨hcz18_0, hcz18_1, hcz18_2, hfz18_0, hfz18_1, hfz18_2⟩ := cz3 BK601.out; have p604 : 0 ≤ (x11_1 : Int) := OD; have q604 : x11_1 < (l1_2.length : Int) := OD; obtain ⟨ad604, e604, hx604_0, hx604_1⟩ := at_T73 HR1_2.out x11_1 p604 q604; cases e604; have hn604_0 : ad604.block ≠ gb603 := Nat.ne_of_lt (Nat.lt_of_lt_of_le (by have := World.block_lt_of_cell? _ _ hx604_0; first | rwa [add_block] at this | exact this) GW603.out); have hn604_1 : ad604.block ≠ gb603 := Nat.ne_of_lt (Nat.lt_of_lt_of_le (by have := World.block_lt_of_cell? _ _ hx604_0; first | rwa [add_block] at this | exact this) GW603.out); replace hx604_0 := (HB.out.cell (World.block_lt_of_cell? w _ hx604_0)).trans hx604_0; replace hx604_1 := (HB.out.cell (World.block_lt_of_cell? w _ hx604_1)).trans hx604_1; replace hx604_0 := (cell_far (p := ⟨gb603, 0, none⟩) (by first | (rw [add_block]; exact hn604_0) | (show (Addr.add _ _).block ≠ _; rw [add_block]; exact hn604_0) | exact hn604_0) (.int .i64 ((rd_T73 l0_2 x11_1).f0))).trans hx604_0; replace hx604_1 := (cell_far (p := ⟨gb603, 0, none⟩) (by first | (rw [add_block]; exact hn604_0) | (show (Addr.add _ _).block ≠ _; rw [add_block]; exact hn604_0) | exact hn604_0) (.int .i64 ((rd_T73 l0_2 x11_1).f0))).trans hx604_1; replace hx604_0 := (cell_far (p := ⟨gb603, 1, none⟩) (by first | (rw [add_block]; exact hn604_1) | (show (Addr.add _ _).block ≠ _; rw [add_block]; exact hn604_1) | exact hn604_1) (.int .i64 ((rd_T73 l0_2 x11_1).f1))).trans hx604_0; replace hx604_1 := (cell_far (p := ⟨gb603, 1, none⟩) (by first | (rw [add_block]; exact hn604_1) | (show (Addr.add _ _).block ≠ _; rw [add_block]; exact hn604_1) | exact hn604_1) (.int .i64 ((rd_T73 l0_2 x11_1).f1))).trans hx604_1; (try have hy604_0 := fun (n_ : Nat) => (show ((((w13.drewN n_).setCell ⟨gb603, 0, none⟩ (.int .i64 ((rd_T73 l0_2 x11_1).f0))).setCell ⟨gb603, 1, none⟩ (.int .i64 ((rd_T73 l0_2 x11_1).f1)))).cell? _ = some _ from hx604_0)); (try have hy604_1 := fun (n_ : Nat) => (show ((((w13.drewN n_).setCell ⟨gb603, 0, none⟩ (.int .i64 ((rd_T73 l0_2 x11_1).f0))).setCell ⟨gb603, 1, none⟩ (.int .i64 ((rd_T73 l0_2 x11_1).f1)))).cell? _ = some _ from hx604_1)); clear hn604_0; clear hn604_1; replace p604 := eq_true p604; replace q604 := eq_true q604) | ((with_reducible refine gate_builtin (b := .append) (xs := #[.tmp 23, .tmp 25]) rfl ?_); at_builtin; refine Kd.R_append (Kd.int .i64) (w0 := w) w.heap.size rfl (.tmp 23) (.tmp 25) 36 3 (.int .i64 0) 8 rfl Try.underlying36 info3 rfl (by decide) (by omega) u5 x5_1 x11_1 [.int .i64 x11_1] (fun _ => True) (fun _ => False) rfl (by first | (go_simp; done) | (go_simp; rfl)) ?aP (fun _ hk => hk.elim) ?aF ?aO ?aB ?aS ?aL ?_; (case aP => exact rfl); (case aB => exact (BL HB.out)); (case aF => exact (fun _ _ => trivial)); (case aO => exact (by (with_reducible repeat (first | apply Kd.R_alloc | apply Kd.R_drewN | apply Kd.R_drew)); exact Kd.R_mono (Kd.R_far (p := ⟨gb603, 1, none⟩) (Kd.R_far (p := ⟨gb603, 0, none⟩) (Kd.R_types HO_5.out BK603.out (by decide)) (fun _ hk => hk.2) (.int .i64 ((rd_T73 l0_2 x11_1).f0))) (fun _ hk => hk.2) (.int .i64 ((rd_T73 l0_2 x11_1).f1))) (fun _ hk => trivial))); (case aS => exact (below_size (BL HB.out))); (case aL => have := LMc12.out; omega); intro v606 w19 ho hb hg hat; rw [← Ny605.out] at ho; refine E5 (blk_grown (g := gb600) (o := .cells #[.int .i64 a0_0, .int .i64 a0_1, .slice (some ad602) l0_2.length c0_2] 30 (0, 0)) (by (with_reducible repeat (first | refine blk_drewN ?_ _ | refine blk_drew ?_ | refine blk_alloc ?_ _)); refine blk_far ?_ NB600_603.out _; (with_reducible repeat (first | refine blk_drewN ?_ _ | refine blk_drew ?_ | refine blk_alloc ?_ _)); refine blk_far ?_ NB600_603.out _; (with_reducible repeat (first | refine blk_drewN ?_ _ | refine blk_drew ?_ | refine blk_alloc ?_ _)); exact BK600.out) hg (Kd.R_ne HO_5.out BK600.out (by decide))) (blk_grown (g := gb601) (o := .cells #[.int .i64 a1_0, .int .i64 a1_1, .slice (some ad604) l1_2.length c1_2] 30 (0, 0)) (by (with_reducible repeat (first | refine blk_drewN ?_ _ | refine blk_drew ?_ | refine blk_alloc ?_ _)); refine blk_far ?_ NB601_603.out _; (with_reducible repeat (first | refine blk_drewN ?_ _ | refine blk_drew ?_ | refine blk_alloc ?_ _)); refine blk_far ?_ NB601_603.out _; (with_reducible repeat (first | refine blk_drewN ?_ _ | refine blk_drew ?_ | refine blk_alloc ?_ _)); exact BK601.out) hg (Kd.R_ne HO_5.out BK601.out (by decide))) (blk_grown (g := gb603) (o := .cells #[.int .i64 ((rd_T73 l0_2 x11_1).f0), .int .i64 ((rd_T73 l0_2 x11_1).f1)] 73 (0, 0)) (by (with_reducible repeat (first | refine blk_drewN ?_ _ | refine blk_drew ?_ | refine blk_alloc ?_ _)); refine blk_put (cs := #[.int .i64 ((rd_T73 l0_2 x11_1).f0), .int .i64 0]) ?_ 1 _ rfl; (with_reducible repeat (first | refine blk_drewN ?_ _ | refine blk_drew ?_ | refine blk_alloc ?_ _)); refine blk_put (cs := #[.int .i64 0, .int .i64 0]) ?_ 0 _ rfl; (with_reducible repeat (first | refine blk_drewN ?_ _ | refine blk_drew ?_ | refine blk_alloc ?_ _)); exact BK603.out) hg (Kd.R_ne HO_5.out BK603.out (by decide))) (hb) (ho) ?_; clear BK600 BK601 BK603 HB HO_5; intro BK600 BK601 BK603 HB HO607; clear ho hb hg hat))
      repeat (go_quiet (first | ((with_reducible refine gate_dst (N := 7) rfl ?_); refine boxE (N := 7) (cs := #[.int .i64 0, .int .i64 0]) (t := 73) ?_; intro gb603 hg w13 hbox hb; refine E11 (Kd.R_below (PR HO_5.out) hb) (bB BK600.out hb) (bB BK601.out hb) (below_step (BL HB.out) hb) (hbox) (gwM hg (below_size (BL HB.out)) : w.heap.size ≤ gb603) (gwM hg (below_size (BL HB.out)) : w.heap.size ≤ gb603) ((nB BK600.out hg : gb600 ≠ gb603)) ((nC BK600.out hg : gb603 ≠ gb600)) ((nB BK601.out hg : gb601 ≠ gb603)) ((nC BK601.out hg : gb603 ≠ gb601)) ?_; clear HO_5 BK600 BK601 HB; intro HO_5 BK600 BK601 HB BK603 GW603 GE603 NB600_603 NB603_600 NB601_603 NB603_601; clear hb hbox hg; have hnb14 := NB603_600.out; have hnc14 := NB600_603.out; have hnb15 := NB603_601.out; have hnc15 := NB601_603.out; obtain ⟨hcz16_0, hcz16_1, hfz16_0, hfz16_1⟩ := cz2 BK603.out; have hnb17 := NB601_600.out; have hnc17 := NB600_601.out; obtain ⟨hcz18_0, hcz18_1, hcz18_2, hfz18_0, hfz18_1, hfz18_2⟩ := cz3 BK601.out; have p604 : 0 ≤ (x11_1 : Int) := OD; have q604 : x11_1 < (l1_2.length : Int) := OD; obtain ⟨ad604, e604, hx604_0, hx604_1⟩ := at_T73 HR1_2.out x11_1 p604 q604; cases e604; have hn604_0 : ad604.block ≠ gb603 := Nat.ne_of_lt (Nat.lt_of_lt_of_le (by have := World.block_lt_of_cell? _ _ hx604_0; first | rwa [add_block] at this | exact this) GW603.out); have hn604_1 : ad604.block ≠ gb603 := Nat.ne_of_lt (Nat.lt_of_lt_of_le (by have := World.block_lt_of_cell? _ _ hx604_0; first | rwa [add_block] at this | exact this) GW603.out); replace hx604_0 := (HB.out.cell (World.block_lt_of_cell? w _ hx604_0)).trans hx604_0; replace hx604_1 := (HB.out.cell (World.block_lt_of_cell? w _ hx604_1)).trans hx604_1; replace hx604_0 := (cell_far (p := ⟨gb603, 0, none⟩) (by first | (rw [add_block]; exact hn604_0) | (show (Addr.add _ _).block ≠ _; rw [add_block]; exact hn604_0) | exact hn604_0) (.int .i64 ((rd_T73 l0_2 x11_1).f0))).trans hx604_0; replace hx604_1 := (cell_far (p := ⟨gb603, 0, none⟩) (by first | (rw [add_block]; exact hn604_0) | (show (Addr.add _ _).block ≠ _; rw [add_block]; exact hn604_0) | exact hn604_0) (.int .i64 ((rd_T73 l0_2 x11_1).f0))).trans hx604_1; replace hx604_0 := (cell_far (p := ⟨gb603, 1, none⟩) (by first | (rw [add_block]; exact hn604_1) | (show (Addr.add _ _).block ≠ _; rw [add_block]; exact hn604_1) | exact hn604_1) (.int .i64 ((rd_T73 l0_2 x11_1).f1))).trans hx604_0; replace hx604_1 := (cell_far (p := ⟨gb603, 1, none⟩) (by first | (rw [add_block]; exact hn604_1) | (show (Addr.add _ _).block ≠ _; rw [add_block]; exact hn604_1) | exact hn604_1) (.int .i64 ((rd_T73 l0_2 x11_1).f1))).trans hx604_1; (try have hy604_0 := fun (n_ : Nat) => (show ((((w13.drewN n_).setCell ⟨gb603, 0, none⟩ (.int .i64 ((rd_T73 l0_2 x11_1).f0))).setCell ⟨gb603, 1, none⟩ (.int .i64 ((rd_T73 l0_2 x11_1).f1)))).cell? _ = some _ from hx604_0)); (try have hy604_1 := fun (n_ : Nat) => (show ((((w13.drewN n_).setCell ⟨gb603, 0, none⟩ (.int .i64 ((rd_T73 l0_2 x11_1).f0))).setCell ⟨gb603, 1, none⟩ (.int .i64 ((rd_T73 l0_2 x11_1).f1)))).cell? _ = some _ from hx604_1)); clear hn604_0; clear hn604_1; replace p604 := eq_true p604; replace q604 := eq_true q604) | ((with_reducible refine gate_builtin (b := .append) (xs := #[.tmp 23, .tmp 25]) rfl ?_); at_builtin; refine Kd.R_append (Kd.int .i64) (w0 := w) w.heap.size rfl (.tmp 23) (.tmp 25) 36 3 (.int .i64 0) 8 rfl Try.underlying36 info3 rfl (by decide) (by omega) u5 x5_1 x11_1 [.int .i64 x11_1] (fun _ => True) (fun _ => False) rfl (by first | (go_simp; done) | (go_simp; rfl)) ?aP (fun _ hk => hk.elim) ?aF ?aO ?aB ?aS ?aL ?_; (case aP => exact rfl); (case aB => exact (BL HB.out)); (case aF => exact (fun _ _ => trivial)); (case aO => exact (by (with_reducible repeat (first | apply Kd.R_alloc | apply Kd.R_drewN | apply Kd.R_drew)); exact Kd.R_mono (Kd.R_far (p := ⟨gb603, 1, none⟩) (Kd.R_far (p := ⟨gb603, 0, none⟩) (Kd.R_types HO_5.out BK603.out (by decide)) (fun _ hk => hk.2) (.int .i64 ((rd_T73 l0_2 x11_1).f0))) (fun _ hk => hk.2) (.int .i64 ((rd_T73 l0_2 x11_1).f1))) (fun _ hk => trivial))); (case aS => exact (below_size (BL HB.out))); (case aL => have := LMc12.out; omega); intro v606 w19 ho hb hg hat; rw [← Ny605.out] at ho; refine E5 (blk_grown (g := gb600) (o := .cells #[.int .i64 a0_0, .int .i64 a0_1, .slice (some ad602) l0_2.length c0_2] 30 (0, 0)) (by (with_reducible repeat (first | refine blk_drewN ?_ _ | refine blk_drew ?_ | refine blk_alloc ?_ _)); refine blk_far ?_ NB600_603.out _; (with_reducible repeat (first | refine blk_drewN ?_ _ | refine blk_drew ?_ | refine blk_alloc ?_ _)); refine blk_far ?_ NB600_603.out _; (with_reducible repeat (first | refine blk_drewN ?_ _ | refine blk_drew ?_ | refine blk_alloc ?_ _)); exact BK600.out) hg (Kd.R_ne HO_5.out BK600.out (by decide))) (blk_grown (g := gb601) (o := .cells #[.int .i64 a1_0, .int .i64 a1_1, .slice (some ad604) l1_2.length c1_2] 30 (0, 0)) (by (with_reducible repeat (first | refine blk_drewN ?_ _ | refine blk_drew ?_ | refine blk_alloc ?_ _)); refine blk_far ?_ NB601_603.out _; (with_reducible repeat (first | refine blk_drewN ?_ _ | refine blk_drew ?_ | refine blk_alloc ?_ _)); refine blk_far ?_ NB601_603.out _; (with_reducible repeat (first | refine blk_drewN ?_ _ | refine blk_drew ?_ | refine blk_alloc ?_ _)); exact BK601.out) hg (Kd.R_ne HO_5.out BK601.out (by decide))) (blk_grown (g := gb603) (o := .cells #[.int .i64 ((rd_T73 l0_2 x11_1).f0), .int .i64 ((rd_T73 l0_2 x11_1).f1)] 73 (0, 0)) (by (with_reducible repeat (first | refine blk_drewN ?_ _ | refine blk_drew ?_ | refine blk_alloc ?_ _)); refine blk_put (cs := #[.int .i64 ((rd_T73 l0_2 x11_1).f0), .int .i64 0]) ?_ 1 _ rfl; (with_reducible repeat (first | refine blk_drewN ?_ _ | refine blk_drew ?_ | refine blk_alloc ?_ _)); refine blk_put (cs := #[.int .i64 0, .int .i64 0]) ?_ 0 _ rfl; (with_reducible repeat (first | refine blk_drewN ?_ _ | refine blk_drew ?_ | refine blk_alloc ?_ _)); exact BK603.out) hg (Kd.R_ne HO_5.out BK603.out (by decide))) (hb) (ho) ?_; clear BK600 BK601 BK603 HB HO_5; intro BK600 BK601 BK603 HB HO607; clear ho hb hg hat)); try go_wp2_with (first | ((with_reducible refine gate_dst (N := 7) rfl ?_); refine boxE (N := 7) (cs := #[.int .i64 0, .int .i64 0]) (t := 73) ?_; intro gb603 hg w13 hbox hb; refine E11 (Kd.R_below (PR HO_5.out) hb) (bB BK600.out hb) (bB BK601.out hb) (below_step (BL HB.out) hb) (hbox) (gwM hg (below_size (BL HB.out)) : w.heap.size ≤ gb603) (gwM hg (below_size (BL HB.out)) : w.heap.size ≤ gb603) ((nB BK600.out hg : gb600 ≠ gb603)) ((nC BK600.out hg : gb603 ≠ gb600)) ((nB BK601.out hg : gb601 ≠ gb603)) ((nC BK601.out hg : gb603 ≠ gb601)) ?_; clear HO_5 BK600 BK601 HB; intro HO_5 BK600 BK601 HB BK603 GW603 GE603 NB600_603 NB603_600 NB601_603 NB603_601; clear hb hbox hg; have hnb14 := NB603_600.out; have hnc14 := NB600_603.out; have hnb15 := NB603_601.out; have hnc15 := NB601_603.out; obtain ⟨hcz16_0, hcz16_1, hfz16_0, hfz16_1⟩ := cz2 BK603.out; have hnb17 := NB601_600.out; have hnc17 := NB600_601.out; obtain ⟨hcz18_0, hcz18_1, hcz18_2, hfz18_0, hfz18_1, hfz18_2⟩ := cz3 BK601.out; have p604 : 0 ≤ (x11_1 : Int) := OD; have q604 : x11_1 < (l1_2.length : Int) := OD; obtain ⟨ad604, e604, hx604_0, hx604_1⟩ := at_T73 HR1_2.out x11_1 p604 q604; cases e604; have hn604_0 : ad604.block ≠ gb603 := Nat.ne_of_lt (Nat.lt_of_lt_of_le (by have := World.block_lt_of_cell? _ _ hx604_0; first | rwa [add_block] at this | exact this) GW603.out); have hn604_1 : ad604.block ≠ gb603 := Nat.ne_of_lt (Nat.lt_of_lt_of_le (by have := World.block_lt_of_cell? _ _ hx604_0; first | rwa [add_block] at this | exact this) GW603.out); replace hx604_0 := (HB.out.cell (World.block_lt_of_cell? w _ hx604_0)).trans hx604_0; replace hx604_1 := (HB.out.cell (World.block_lt_of_cell? w _ hx604_1)).trans hx604_1; replace hx604_0 := (cell_far (p := ⟨gb603, 0, none⟩) (by first | (rw [add_block]; exact hn604_0) | (show (Addr.add _ _).block ≠ _; rw [add_block]; exact hn604_0) | exact hn604_0) (.int .i64 ((rd_T73 l0_2 x11_1).f0))).trans hx604_0; replace hx604_1 := (cell_far (p := ⟨gb603, 0, none⟩) (by first | (rw [add_block]; exact hn604_0) | (show (Addr.add _ _).block ≠ _; rw [add_block]; exact hn604_0) | exact hn604_0) (.int .i64 ((rd_T73 l0_2 x11_1).f0))).trans hx604_1; replace hx604_0 := (cell_far (p := ⟨gb603, 1, none⟩) (by first | (rw [add_block]; exact hn604_1) | (show (Addr.add _ _).block ≠ _; rw [add_block]; exact hn604_1) | exact hn604_1) (.int .i64 ((rd_T73 l0_2 x11_1).f1))).trans hx604_0; replace hx604_1 := (cell_far (p := ⟨gb603, 1, none⟩) (by first | (rw [add_block]; exact hn604_1) | (show (Addr.add _ _).block ≠ _; rw [add_block]; exact hn604_1) | exact hn604_1) (.int .i64 ((rd_T73 l0_2 x11_1).f1))).trans hx604_1; (try have hy604_0 := fun (n_ : Nat) => (show ((((w13.drewN n_).setCell ⟨gb603, 0, none⟩ (.int .i64 ((rd_T73 l0_2 x11_1).f0))).setCell ⟨gb603, 1, none⟩ (.int .i64 ((rd_T73 l0_2 x11_1).f1)))).cell? _ = some _ from hx604_0)); (try have hy604_1 := fun (n_ : Nat) => (show ((((w13.drewN n_).setCell ⟨gb603, 0, none⟩ (.int .i64 ((rd_T73 l0_2 x11_1).f0))).setCell ⟨gb603, 1, none⟩ (.int .i64 ((rd_T73 l0_2 x11_1).f1)))).cell? _ = some _ from hx604_1)); clear hn604_0; clear hn604_1; replace p604 := eq_true p604; replace q604 := eq_true q604) | ((with_reducible refine gate_builtin (b := .append) (xs := #[.tmp 23, .tmp 25]) rfl ?_); at_builtin; refine Kd.R_append (Kd.int .i64) (w0 := w) w.heap.size rfl (.tmp 23) (.tmp 25) 36 3 (.int .i64 0) 8 rfl Try.underlying36 info3 rfl (by decide) (by omega) u5 x5_1 x11_1 [.int .i64 x11_1] (fun _ => True) (fun _ => False) rfl (by first | (go_simp; done) | (go_simp; rfl)) ?aP (fun _ hk => hk.elim) ?aF ?aO ?aB ?aS ?aL ?_; (case aP => exact rfl); (case aB => exact (BL HB.out)); (case aF => exact (fun _ _ => trivial)); (case aO => exact (by (with_reducible repeat (first | apply Kd.R_alloc | apply Kd.R_drewN | apply Kd.R_drew)); exact Kd.R_mono (Kd.R_far (p := ⟨gb603, 1, none⟩) (Kd.R_far (p := ⟨gb603, 0, none⟩) (Kd.R_types HO_5.out BK603.out (by decide)) (fun _ hk => hk.2) (.int .i64 ((rd_T73 l0_2 x11_1).f0))) (fun _ hk => hk.2) (.int .i64 ((rd_T73 l0_2 x11_1).f1))) (fun _ hk => trivial))); (case aS => exact (below_size (BL HB.out))); (case aL => have := LMc12.out; omega); intro v606 w19 ho hb hg hat; rw [← Ny605.out] at ho; refine E5 (blk_grown (g := gb600) (o := .cells #[.int .i64 a0_0, .int .i64 a0_1, .slice (some ad602) l0_2.length c0_2] 30 (0, 0)) (by (with_reducible repeat (first | refine blk_drewN ?_ _ | refine blk_drew ?_ | refine blk_alloc ?_ _)); refine blk_far ?_ NB600_603.out _; (with_reducible repeat (first | refine blk_drewN ?_ _ | refine blk_drew ?_ | refine blk_alloc ?_ _)); refine blk_far ?_ NB600_603.out _; (with_reducible repeat (first | refine blk_drewN ?_ _ | refine blk_drew ?_ | refine blk_alloc ?_ _)); exact BK600.out) hg (Kd.R_ne HO_5.out BK600.out (by decide))) (blk_grown (g := gb601) (o := .cells #[.int .i64 a1_0, .int .i64 a1_1, .slice (some ad604) l1_2.length c1_2] 30 (0, 0)) (by (with_reducible repeat (first | refine blk_drewN ?_ _ | refine blk_drew ?_ | refine blk_alloc ?_ _)); refine blk_far ?_ NB601_603.out _; (with_reducible repeat (first | refine blk_drewN ?_ _ | refine blk_drew ?_ | refine blk_alloc ?_ _)); refine blk_far ?_ NB601_603.out _; (with_reducible repeat (first | refine blk_drewN ?_ _ | refine blk_drew ?_ | refine blk_alloc ?_ _)); exact BK601.out) hg (Kd.R_ne HO_5.out BK601.out (by decide))) (blk_grown (g := gb603) (o := .cells #[.int .i64 ((rd_T73 l0_2 x11_1).f0), .int .i64 ((rd_T73 l0_2 x11_1).f1)] 73 (0, 0)) (by (with_reducible repeat (first | refine blk_drewN ?_ _ | refine blk_drew ?_ | refine blk_alloc ?_ _)); refine blk_put (cs := #[.int .i64 ((rd_T73 l0_2 x11_1).f0), .int .i64 0]) ?_ 1 _ rfl; (with_reducible repeat (first | refine blk_drewN ?_ _ | refine blk_drew ?_ | refine blk_alloc ?_ _)); refine blk_put (cs := #[.int .i64 0, .int .i64 0]) ?_ 0 _ rfl; (with_reducible repeat (first | refine blk_drewN ?_ _ | refine blk_drew ?_ | refine blk_alloc ?_ _)); exact BK603.out) hg (Kd.R_ne HO_5.out BK603.out (by decide))) (hb) (ho) ?_; clear BK600 BK601 BK603 HB HO_5; intro BK600 BK601 BK603 HB HO607; clear ho hb hg hat)))
      go_roundg k1
      case measure => have := HK1.out; omega
      case rel => exact ⟨(y605), (wrap64 (x11_1 + 1)), RG, H', ⟨by have := HK1.out; omega⟩, ⟨PR HO607.out⟩, ⟨PB BK600.out⟩, ⟨PB BK601.out⟩, ⟨BL HB.out⟩⟩
    have c11b0 : (!(((rd_T73 l0_2 x11_1).f0) == ((rd_T73 l1_2 x11_1).f0)) || (!(((rd_T73 l0_2 x11_1).f1) == ((rd_T73 l1_2 x11_1).f1)))) = false := by simpa using c11
    clear c11
    have H' := Aside0.mk H
    clear H
    have p602 : 0 ≤ (x11_1 : Int) := OD
    have q602 : x11_1 < (l0_2.length : Int) := OD
    obtain ⟨ad602, e602, hx602_0, hx602_1⟩ := at_T73 HR0_2.out x11_1 p602 q602
    cases e602
    replace hx602_0 := (HB.out.cell (World.block_lt_of_cell? w _ hx602_0)).trans hx602_0
    replace hx602_1 := (HB.out.cell (World.block_lt_of_cell? w _ hx602_1)).trans hx602_1
    replace p602 := eq_true p602
    replace q602 := eq_true q602
    go_wp2_with (first | ((with_reducible refine gate_dst (N := 7) rfl ?_); refine boxE (N := 7) (cs := #[.int .i64 0, .int .i64 0]) (t := 73) ?_; intro gb603 hg w20 hbox hb; refine E11 (Kd.R_below (PR HO_5.out) hb) (bB BK600.out hb) (bB BK601.out hb) (below_step (BL HB.out) hb) (hbox) (gwM hg (below_size (BL HB.out)) : w.heap.size ≤ gb603) (gwM hg (below_size (BL HB.out)) : w.heap.size ≤ gb603) ((nB BK600.out hg : gb600 ≠ gb603)) ((nC BK600.out hg : gb603 ≠ gb600)) ((nB BK601.out hg : gb601 ≠ gb603)) ((nC BK601.out hg : gb603 ≠ gb601)) ?_; clear HO_5 BK600 BK601 HB; intro HO_5 BK600 BK601 HB BK603 GW603 GE603 NB600_603 NB603_600 NB601_603 NB603_601; clear hb hbox hg; have hnb21 := NB603_600.out; have hnc21 := NB600_603.out; have hnb22 := NB603_601.out; have hnc22 := NB601_603.out; obtain ⟨hcz23_0, hcz23_1, hfz23_0, hfz23_1⟩ := cz2 BK603.out; have hnb24 := NB601_600.out; have hnc24 := NB600_601.out; obtain ⟨hcz25_0, hcz25_1, hcz25_2, hfz25_0, hfz25_1, hfz25_2⟩ := cz3 BK601.out; have p604 : 0 ≤ (x11_1 : Int) := OD; have q604 : x11_1 < (l1_2.length : Int) := OD; obtain ⟨ad604, e604, hx604_0, hx604_1⟩ := at_T73 HR1_2.out x11_1 p604 q604; cases e604; have hn604_0 : ad604.block ≠ gb603 := Nat.ne_of_lt (Nat.lt_of_lt_of_le (by have := World.block_lt_of_cell? _ _ hx604_0; first | rwa [add_block] at this | exact this) GW603.out); have hn604_1 : ad604.block ≠ gb603 := Nat.ne_of_lt (Nat.lt_of_lt_of_le (by have := World.block_lt_of_cell? _ _ hx604_0; first | rwa [add_block] at this | exact this) GW603.out); replace hx604_0 := (HB.out.cell (World.block_lt_of_cell? w _ hx604_0)).trans hx604_0; replace hx604_1 := (HB.out.cell (World.block_lt_of_cell? w _ hx604_1)).trans hx604_1; replace hx604_0 := (cell_far (p := ⟨gb603, 0, none⟩) (by first | (rw [add_block]; exact hn604_0) | (show (Addr.add _ _).block ≠ _; rw [add_block]; exact hn604_0) | exact hn604_0) (.int .i64 ((rd_T73 l0_2 x11_1).f0))).trans hx604_0; replace hx604_1 := (cell_far (p := ⟨gb603, 0, none⟩) (by first | (rw [add_block]; exact hn604_0) | (show (Addr.add _ _).block ≠ _; rw [add_block]; exact hn604_0) | exact hn604_0) (.int .i64 ((rd_T73 l0_2 x11_1).f0))).trans hx604_1; replace hx604_0 := (cell_far (p := ⟨gb603, 1, none⟩) (by first | (rw [add_block]; exact hn604_1) | (show (Addr.add _ _).block ≠ _; rw [add_block]; exact hn604_1) | exact hn604_1) (.int .i64 ((rd_T73 l0_2 x11_1).f1))).trans hx604_0; replace hx604_1 := (cell_far (p := ⟨gb603, 1, none⟩) (by first | (rw [add_block]; exact hn604_1) | (show (Addr.add _ _).block ≠ _; rw [add_block]; exact hn604_1) | exact hn604_1) (.int .i64 ((rd_T73 l0_2 x11_1).f1))).trans hx604_1; (try have hy604_0 := fun (n_ : Nat) => (show ((((w20.drewN n_).setCell ⟨gb603, 0, none⟩ (.int .i64 ((rd_T73 l0_2 x11_1).f0))).setCell ⟨gb603, 1, none⟩ (.int .i64 ((rd_T73 l0_2 x11_1).f1)))).cell? _ = some _ from hx604_0)); (try have hy604_1 := fun (n_ : Nat) => (show ((((w20.drewN n_).setCell ⟨gb603, 0, none⟩ (.int .i64 ((rd_T73 l0_2 x11_1).f0))).setCell ⟨gb603, 1, none⟩ (.int .i64 ((rd_T73 l0_2 x11_1).f1)))).cell? _ = some _ from hx604_1)); clear hn604_0; clear hn604_1; replace p604 := eq_true p604; replace q604 := eq_true q604))
    repeat (go_quiet (first | ((with_reducible refine gate_dst (N := 7) rfl ?_); refine boxE (N := 7) (cs := #[.int .i64 0, .int .i64 0]) (t := 73) ?_; intro gb603 hg w20 hbox hb; refine E11 (Kd.R_below (PR HO_5.out) hb) (bB BK600.out hb) (bB BK601.out hb) (below_step (BL HB.out) hb) (hbox) (gwM hg (below_size (BL HB.out)) : w.heap.size ≤ gb603) (gwM hg (below_size (BL HB.out)) : w.heap.size ≤ gb603) ((nB BK600.out hg : gb600 ≠ gb603)) ((nC BK600.out hg : gb603 ≠ gb600)) ((nB BK601.out hg : gb601 ≠ gb603)) ((nC BK601.out hg : gb603 ≠ gb601)) ?_; clear HO_5 BK600 BK601 HB; intro HO_5 BK600 BK601 HB BK603 GW603 GE603 NB600_603 NB603_600 NB601_603 NB603_601; clear hb hbox hg; have hnb21 := NB603_600.out; have hnc21 := NB600_603.out; have hnb22 := NB603_601.out; have hnc22 := NB601_603.out; obtain ⟨hcz23_0, hcz23_1, hfz23_0, hfz23_1⟩ := cz2 BK603.out; have hnb24 := NB601_600.out; have hnc24 := NB600_601.out; obtain ⟨hcz25_0, hcz25_1, hcz25_2, hfz25_0, hfz25_1, hfz25_2⟩ := cz3 BK601.out; have p604 : 0 ≤ (x11_1 : Int) := OD; have q604 : x11_1 < (l1_2.length : Int) := OD; obtain ⟨ad604, e604, hx604_0, hx604_1⟩ := at_T73 HR1_2.out x11_1 p604 q604; cases e604; have hn604_0 : ad604.block ≠ gb603 := Nat.ne_of_lt (Nat.lt_of_lt_of_le (by have := World.block_lt_of_cell? _ _ hx604_0; first | rwa [add_block] at this | exact this) GW603.out); have hn604_1 : ad604.block ≠ gb603 := Nat.ne_of_lt (Nat.lt_of_lt_of_le (by have := World.block_lt_of_cell? _ _ hx604_0; first | rwa [add_block] at this | exact this) GW603.out); replace hx604_0 := (HB.out.cell (World.block_lt_of_cell? w _ hx604_0)).trans hx604_0; replace hx604_1 := (HB.out.cell (World.block_lt_of_cell? w _ hx604_1)).trans hx604_1; replace hx604_0 := (cell_far (p := ⟨gb603, 0, none⟩) (by first | (rw [add_block]; exact hn604_0) | (show (Addr.add _ _).block ≠ _; rw [add_block]; exact hn604_0) | exact hn604_0) (.int .i64 ((rd_T73 l0_2 x11_1).f0))).trans hx604_0; replace hx604_1 := (cell_far (p := ⟨gb603, 0, none⟩) (by first | (rw [add_block]; exact hn604_0) | (show (Addr.add _ _).block ≠ _; rw [add_block]; exact hn604_0) | exact hn604_0) (.int .i64 ((rd_T73 l0_2 x11_1).f0))).trans hx604_1; replace hx604_0 := (cell_far (p := ⟨gb603, 1, none⟩) (by first | (rw [add_block]; exact hn604_1) | (show (Addr.add _ _).block ≠ _; rw [add_block]; exact hn604_1) | exact hn604_1) (.int .i64 ((rd_T73 l0_2 x11_1).f1))).trans hx604_0; replace hx604_1 := (cell_far (p := ⟨gb603, 1, none⟩) (by first | (rw [add_block]; exact hn604_1) | (show (Addr.add _ _).block ≠ _; rw [add_block]; exact hn604_1) | exact hn604_1) (.int .i64 ((rd_T73 l0_2 x11_1).f1))).trans hx604_1; (try have hy604_0 := fun (n_ : Nat) => (show ((((w20.drewN n_).setCell ⟨gb603, 0, none⟩ (.int .i64 ((rd_T73 l0_2 x11_1).f0))).setCell ⟨gb603, 1, none⟩ (.int .i64 ((rd_T73 l0_2 x11_1).f1)))).cell? _ = some _ from hx604_0)); (try have hy604_1 := fun (n_ : Nat) => (show ((((w20.drewN n_).setCell ⟨gb603, 0, none⟩ (.int .i64 ((rd_T73 l0_2 x11_1).f0))).setCell ⟨gb603, 1, none⟩ (.int .i64 ((rd_T73 l0_2 x11_1).f1)))).cell? _ = some _ from hx604_1)); clear hn604_0; clear hn604_1; replace p604 := eq_true p604; replace q604 := eq_true q604)); try go_wp2_with (first | ((with_reducible refine gate_dst (N := 7) rfl ?_); refine boxE (N := 7) (cs := #[.int .i64 0, .int .i64 0]) (t := 73) ?_; intro gb603 hg w20 hbox hb; refine E11 (Kd.R_below (PR HO_5.out) hb) (bB BK600.out hb) (bB BK601.out hb) (below_step (BL HB.out) hb) (hbox) (gwM hg (below_size (BL HB.out)) : w.heap.size ≤ gb603) (gwM hg (below_size (BL HB.out)) : w.heap.size ≤ gb603) ((nB BK600.out hg : gb600 ≠ gb603)) ((nC BK600.out hg : gb603 ≠ gb600)) ((nB BK601.out hg : gb601 ≠ gb603)) ((nC BK601.out hg : gb603 ≠ gb601)) ?_; clear HO_5 BK600 BK601 HB; intro HO_5 BK600 BK601 HB BK603 GW603 GE603 NB600_603 NB603_600 NB601_603 NB603_601; clear hb hbox hg; have hnb21 := NB603_600.out; have hnc21 := NB600_603.out; have hnb22 := NB603_601.out; have hnc22 := NB601_603.out; obtain ⟨hcz23_0, hcz23_1, hfz23_0, hfz23_1⟩ := cz2 BK603.out; have hnb24 := NB601_600.out; have hnc24 := NB600_601.out; obtain ⟨hcz25_0, hcz25_1, hcz25_2, hfz25_0, hfz25_1, hfz25_2⟩ := cz3 BK601.out; have p604 : 0 ≤ (x11_1 : Int) := OD; have q604 : x11_1 < (l1_2.length : Int) := OD; obtain ⟨ad604, e604, hx604_0, hx604_1⟩ := at_T73 HR1_2.out x11_1 p604 q604; cases e604; have hn604_0 : ad604.block ≠ gb603 := Nat.ne_of_lt (Nat.lt_of_lt_of_le (by have := World.block_lt_of_cell? _ _ hx604_0; first | rwa [add_block] at this | exact this) GW603.out); have hn604_1 : ad604.block ≠ gb603 := Nat.ne_of_lt (Nat.lt_of_lt_of_le (by have := World.block_lt_of_cell? _ _ hx604_0; first | rwa [add_block] at this | exact this) GW603.out); replace hx604_0 := (HB.out.cell (World.block_lt_of_cell? w _ hx604_0)).trans hx604_0; replace hx604_1 := (HB.out.cell (World.block_lt_of_cell? w _ hx604_1)).trans hx604_1; replace hx604_0 := (cell_far (p := ⟨gb603, 0, none⟩) (by first | (rw [add_block]; exact hn604_0) | (show (Addr.add _ _).block ≠ _; rw [add_block]; exact hn604_0) | exact hn604_0) (.int .i64 ((rd_T73 l0_2 x11_1).f0))).trans hx604_0; replace hx604_1 := (cell_far (p := ⟨gb603, 0, none⟩) (by first | (rw [add_block]; exact hn604_0) | (show (Addr.add _ _).block ≠ _; rw [add_block]; exact hn604_0) | exact hn604_0) (.int .i64 ((rd_T73 l0_2 x11_1).f0))).trans hx604_1; replace hx604_0 := (cell_far (p := ⟨gb603, 1, none⟩) (by first | (rw [add_block]; exact hn604_1) | (show (Addr.add _ _).block ≠ _; rw [add_block]; exact hn604_1) | exact hn604_1) (.int .i64 ((rd_T73 l0_2 x11_1).f1))).trans hx604_0; replace hx604_1 := (cell_far (p := ⟨gb603, 1, none⟩) (by first | (rw [add_block]; exact hn604_1) | (show (Addr.add _ _).block ≠ _; rw [add_block]; exact hn604_1) | exact hn604_1) (.int .i64 ((rd_T73 l0_2 x11_1).f1))).trans hx604_1; (try have hy604_0 := fun (n_ : Nat) => (show ((((w20.drewN n_).setCell ⟨gb603, 0, none⟩ (.int .i64 ((rd_T73 l0_2 x11_1).f0))).setCell ⟨gb603, 1, none⟩ (.int .i64 ((rd_T73 l0_2 x11_1).f1)))).cell? _ = some _ from hx604_0)); (try have hy604_1 := fun (n_ : Nat) => (show ((((w20.drewN n_).setCell ⟨gb603, 0, none⟩ (.int .i64 ((rd_T73 l0_2 x11_1).f0))).setCell ⟨gb603, 1, none⟩ (.int .i64 ((rd_T73 l0_2 x11_1).f1)))).cell? _ = some _ from hx604_1)); clear hn604_0; clear hn604_1; replace p604 := eq_true p604; replace q604 := eq_true q604)))
    go_roundg k1
    case measure => have := HK1.out; omega
    case rel => exact ⟨(x5_1), (wrap64 (x11_1 + 1)), RG, H', ⟨by have := HK1.out; omega⟩, ⟨by (with_reducible repeat (first | apply Kd.R_alloc | apply Kd.R_drewN | apply Kd.R_drew)); exact Kd.R_mono (Kd.R_far (p := ⟨gb603, 1, none⟩) (Kd.R_far (p := ⟨gb603, 0, none⟩) (Kd.R_types HO_5.out BK603.out (by decide)) (fun _ hk => hk.2) (.int .i64 ((rd_T73 l0_2 x11_1).f0))) (fun _ hk => hk.2) (.int .i64 ((rd_T73 l0_2 x11_1).f1))) (fun _ hk => trivial)⟩, ⟨by (with_reducible repeat (first | refine blk_drewN ?_ _ | refine blk_drew ?_ | refine blk_alloc ?_ _)); refine blk_far ?_ NB600_603.out _; (with_reducible repeat (first | refine blk_drewN ?_ _ | refine blk_drew ?_ | refine blk_alloc ?_ _)); refine blk_far ?_ NB600_603.out _; (with_reducible repeat (first | refine blk_drewN ?_ _ | refine blk_drew ?_ | refine blk_alloc ?_ _)); exact BK600.out⟩, ⟨by (with_reducible repeat (first | refine blk_drewN ?_ _ | refine blk_drew ?_ | refine blk_alloc ?_ _)); refine blk_far ?_ NB601_603.out _; (with_reducible repeat (first | refine blk_drewN ?_ _ | refine blk_drew ?_ | refine blk_alloc ?_ _)); refine blk_far ?_ NB601_603.out _; (with_reducible repeat (first | refine blk_drewN ?_ _ | refine blk_drew ?_ | refine blk_alloc ?_ _)); exact BK601.out⟩, ⟨BL HB.out⟩⟩
  obtain rfl := Option.some.inj H
  go_wp2
  repeat (go_quiet (fail); try go_wp2)
  go_ret
  exact ⟨_, RF, by (with_reducible repeat (first | apply Kd.R_alloc | apply Kd.R_drewN | apply Kd.R_drew)); exact HO_5.out, BL HB.out⟩
/-! ### spec_saTurned: function 66 -/
def spec_saTurned.l0 : Nat → List Int → List (List Int) → Int → Int → Int → Int → List (S73) → Int → Int → List (S73) → Int → Int → List (S73) → Option (List Int × Bool)
  | 0, _, _, _, _, _, _, _, _, _, _, _, _, _ => none
  | k + 1, x7, x13, x14, x15, x609000, x609001, x609002, x610000, x610001, x610002, x616000, x616001, x616002 => if x15 < x14 then (if 0 ≤ x15 then (if x15 < (x13.length : Int) then (if 0 < ((rd_L3 x13 x15).length : Int) then (if 0 ≤ (rd (rd_L3 x13 x15) 0) then (if (rd (rd_L3 x13 x15) 0) < (x609002.length : Int) then (if (rd (rd_L3 x13 x15) 0) < (x610002.length : Int) then (if (!(((rd_T73 x609002 (rd (rd_L3 x13 x15) 0)).f0) == ((rd_T73 x610002 (rd (rd_L3 x13 x15) 0)).f0)) || (!(((rd_T73 x609002 (rd (rd_L3 x13 x15) 0)).f1) == ((rd_T73 x610002 (rd (rd_L3 x13 x15) 0)).f1)))) = true then ((spec_saTurn.f k x616000 x616001 x616002 (rd_L3 x13 x15)).bind fun t624 => (if x7.length < 17592186044416 then (spec_saTurned.l0 k (x7 ++ [x15]) x13 x14 (wrap64 (x15 + 1)) x609000 x609001 x609002 x610000 x610001 x610002 x616000 x616001 t624) else (none))) else (spec_saTurned.l0 k x7 x13 x14 (wrap64 (x15 + 1)) x609000 x609001 x609002 x610000 x610001 x610002 x616000 x616001 x616002)) else (none)) else (none)) else (none)) else (none)) else (none)) else (none)) else ((spec_boDifferent.f k x616000 x616001 x616002 x610000 x610001 x610002).bind fun t628 => (some (x7, ((t628.length : Int) == 0))))
def spec_saTurned.f (k : Nat) (a0_0 : Int) (a0_1 : Int) (l0_2 : List (S73)) (a1_0 : Int) (a1_1 : Int) (l1_2 : List (S73)) : Option (List Int × Bool) := (spec_boOwn.f a0_0 a0_1 l0_2).bind fun bt610 => ((spec_saUnits.f k a0_0 a0_1 l0_2).bind fun t616 => (spec_saTurned.l0 k ([] : List Int) t616 (t616.length : Int) 0 a0_0 a0_1 l0_2 a1_0 a1_1 l1_2 bt610.1 bt610.2.1 bt610.2.2))
theorem spec_saTurned.mono_l : ∀ k, (∀ y0 y1 y2 y3 y4 y5 y6 y7 y8 y9 y10 y11 y12, LeO (spec_saTurned.l0 k y0 y1 y2 y3 y4 y5 y6 y7 y8 y9 y10 y11 y12) (spec_saTurned.l0 (k + 1) y0 y1 y2 y3 y4 y5 y6 y7 y8 y9 y10 y11 y12))
  | 0 => fun _ _ _ _ _ _ _ _ _ _ _ _ _ r h => by simp [spec_saTurned.l0] at h
  | k + 1 => by
    have ih0 := spec_saTurned.mono_l k
    intros
    first | unfold spec_saTurned.l0
    repeat' first | (with_reducible first | apply ih0 | apply spec_boDifferent.mono | apply spec_saTurn.mono | apply spec_saUnits.mono | exact LeO.refl _ | exact LeO.none _ | refine LeO.ite ?_ ?_ | refine LeO.bind ?_ (fun _ => ?_)) | apply ih0 | apply spec_boDifferent.mono | apply spec_saTurn.mono | apply spec_saUnits.mono | exact LeO.none _ | refine LeO.ite ?_ ?_ | refine LeO.bind ?_ (fun _ => ?_)
theorem spec_saTurned.mono : ∀ a0 a1 a2 a3 a4 a5 k, LeO (spec_saTurned.f k a0 a1 a2 a3 a4 a5) (spec_saTurned.f (k + 1) a0 a1 a2 a3 a4 a5) := by
  intro a0 a1 a2 a3 a4 a5 k
  have ih0 := spec_saTurned.mono_l k
  unfold spec_saTurned.f
  repeat' first | (with_reducible first | apply ih0 | apply spec_boDifferent.mono | apply spec_saTurn.mono | apply spec_saUnits.mono | exact LeO.refl _ | exact LeO.none _ | refine LeO.ite ?_ ?_ | refine LeO.bind ?_ (fun _ => ?_)) | apply ih0 | apply spec_boDifferent.mono | apply spec_saTurn.mono | apply spec_saUnits.mono | exact LeO.none _ | refine LeO.ite ?_ ?_ | refine LeO.bind ?_ (fun _ => ?_)
set_option maxHeartbeats 8000000 in
set_option maxRecDepth 100000 in
theorem spec_saTurned.calls (k : Nat) (a0_0 : Int) (a0_1 : Int) (A0_2 : Option Addr) (c0_2 : Nat) (l0_2 : List (S73)) (a1_0 : Int) (a1_1 : Int) (A1_2 : Option Addr) (c1_2 : Nat) (l1_2 : List (S73)) (r1 : List Int) (r2 : Bool) (w : World) (hr0_2 : Kd.C k73 w A0_2 l0_2.length l0_2) (hc0_2 : l0_2.length ≤ c0_2) (hr1_2 : Kd.C k73 w A1_2 l1_2.length l1_2) (hc1_2 : l1_2.length ≤ c1_2) (h : spec_saTurned.f k a0_0 a0_1 l0_2 a1_0 a1_1 l1_2 = some (r1, r2)) :
    Calls Try.prog 66 #[.agg #[.int .i64 a0_0, .int .i64 a0_1, .slice A0_2 l0_2.length c0_2], .agg #[.int .i64 a1_0, .int .i64 a1_1, .slice A1_2 l1_2.length c1_2]] w fun e w' => ∃ v0_ : Value, e = .returned (.tuple #[v0_, .bool r2]) ∧ Kd.R (Kd.int .i64) 3 w' w.heap.size (fun _ => True) v0_ r1 ∧ Below w.heap.size w w' := by
  have hu30 := Try.underlying30
  have hu73 := Try.underlying73
  have HR0_2 := Aside0.mk hr0_2
  have HC0_2 := Aside0.mk hc0_2
  clear hr0_2 hc0_2
  have HR1_2 := Aside0.mk hr1_2
  have HC1_2 := Aside0.mk hc1_2
  clear hr1_2 hc1_2
  have HB := Aside0.mk (Below.refl w.heap.size w)
  have H := h
  clear h
  unfold spec_saTurned.f at H
  replace H := bindA H; obtain ⟨⟨t610, t611, t612⟩, A3, H⟩ := H
  dsimp only at H
  replace H := bindA H; obtain ⟨t616, A4, H⟩ := H
  have H' := Aside0.mk H
  clear H
  go_enter Try.func66, Try.ntmps66
  go_wp2_with (first | ((with_reducible refine gate_dst (N := 2) rfl ?_); refine boxE (N := 2) (cs := #[.int .i64 a0_0, .int .i64 a0_1, .slice A0_2 l0_2.length c0_2]) (t := 30) ?_; intro gb608 hg w5 hbox hb; refine E4b HB.out hg hbox hb ?_; clear HB; intro HB BK608 GW608 GE608; clear hb hbox hg) | ((with_reducible refine gate_dst (N := 3) rfl ?_); refine boxE (N := 3) (cs := #[.int .i64 a1_0, .int .i64 a1_1, .slice A1_2 l1_2.length c1_2]) (t := 30) ?_; intro gb609 hg w6 hbox hb; refine E7 (bB BK608.out hb) (below_step (BL HB.out) hb) (hbox) (gwM hg (below_size (BL HB.out)) : w.heap.size ≤ gb609) (gwM hg (below_size (BL HB.out)) : w.heap.size ≤ gb609) ((nB BK608.out hg : gb608 ≠ gb609)) ((nC BK608.out hg : gb609 ≠ gb608)) ?_; clear BK608 HB; intro BK608 HB BK609 GW609 GE609 NB608_609 NB609_608; clear hb hbox hg; have hnb7 := NB608_609.out; have hnc7 := NB609_608.out; obtain ⟨hcz8_0, hcz8_1, hcz8_2, hfz8_0, hfz8_1, hfz8_2⟩ := cz3 BK608.out) | (go_at_call 60; (with_reducible refine (spec_boOwn.calls a0_0 a0_1 _ _ l0_2 t610 t611 t612 _ ?side1 ?side2 A3.out).mono ?_); (case side1 => exact CB (Kd.C_below HR0_2.out HB.out)); (case side2 => exact HC0_2.out); rintro e w9 ⟨v613, rfl, ho0, hb⟩; refine E4 (Kd.R_lower ho0 (below_size (BL HB.out))) (bB BK608.out hb) (bB BK609.out hb) (below_step (BL HB.out) hb) ?_; clear BK608 BK609 HB; intro HO614 BK608 BK609 HB; (try clear hb); (try clear hb2); (try clear hk); (try clear hi); (try clear ho0)) | ((with_reducible refine gate_dst (N := 6) rfl ?_); refine boxE (N := 6) (cs := #[.int .i64 0, .int .i64 0, .slice none 0 0]) (t := 30) ?_; intro gb615 hg w10 hbox hb; refine E11 (Kd.R_below (PR HO614.out) hb) (bB BK608.out hb) (bB BK609.out hb) (below_step (BL HB.out) hb) (hbox) (gwM hg (below_size (BL HB.out)) : w.heap.size ≤ gb615) (gwM hg (below_size (BL HB.out)) : w.heap.size ≤ gb615) ((nB BK608.out hg : gb608 ≠ gb615)) ((nC BK608.out hg : gb615 ≠ gb608)) ((nB BK609.out hg : gb609 ≠ gb615)) ((nC BK609.out hg : gb615 ≠ gb609)) ?_; clear HO614 BK608 BK609 HB; intro HO614 BK608 BK609 HB BK615 GW615 GE615 NB608_615 NB615_608 NB609_615 NB615_609; clear hb hbox hg; have hnb11 := NB615_608.out; have hnc11 := NB608_615.out; have hnb12 := NB615_609.out; have hnc12 := NB609_615.out; obtain ⟨hcz13_0, hcz13_1, hcz13_2, hfz13_0, hfz13_1, hfz13_2⟩ := cz3 BK615.out; obtain ⟨Ao14, co14, eo14⟩ := Kd.R_slice HO614.out; subst eo14; obtain ⟨hcz15_0, hcz15_1, hcz15_2, hfz15_0, hfz15_1, hfz15_2⟩ := cz3 BK608.out) | (go_at_call 59; (with_reducible refine (spec_saUnits.calls k a0_0 a0_1 _ _ l0_2 t616 _ ?side1 ?side2 A4.out).mono ?_); (case side1 => exact Kd.C_below HR0_2.out (BL HB.out)); (case side2 => exact HC0_2.out); rintro e w16 ⟨v617, rfl, ho0, hb⟩; refine E6 (Kd.R_below (by (with_reducible repeat (first | apply Kd.R_alloc | apply Kd.R_drewN | apply Kd.R_drew)); exact (Kd.R_mono (Kd.R_far (p := ⟨gb615, 2, none⟩) (Kd.R_far (p := ⟨gb615, 1, none⟩) (Kd.R_far (p := ⟨gb615, 0, none⟩) (Kd.R_types HO614.out BK615.out (by decide)) (fun _ hk => hk.2) (.int .i64 t610)) (fun _ hk => hk.2) (.int .i64 t611)) (fun _ hk => hk.2) (.slice Ao14 t612.length co14)) (fun _ h_ => h_.1))) hb) (Kd.S_lower ho0 (below_size (BL HB.out))) (blk_below (g := gb608) (o := .cells #[.int .i64 a0_0, .int .i64 a0_1, .slice A0_2 l0_2.length c0_2] 30 (0, 0)) (by (with_reducible repeat (first | refine blk_drewN ?_ _ | refine blk_drew ?_ | refine blk_alloc ?_ _)); refine blk_far ?_ NB608_615.out _; (with_reducible repeat (first | refine blk_drewN ?_ _ | refine blk_drew ?_ | refine blk_alloc ?_ _)); refine blk_far ?_ NB608_615.out _; (with_reducible repeat (first | refine blk_drewN ?_ _ | refine blk_drew ?_ | refine blk_alloc ?_ _)); refine blk_far ?_ NB608_615.out _; (with_reducible repeat (first | refine blk_drewN ?_ _ | refine blk_drew ?_ | refine blk_alloc ?_ _)); exact BK608.out) hb) (blk_below (g := gb609) (o := .cells #[.int .i64 a1_0, .int .i64 a1_1, .slice A1_2 l1_2.length c1_2] 30 (0, 0)) (by (with_reducible repeat (first | refine blk_drewN ?_ _ | refine blk_drew ?_ | refine blk_alloc ?_ _)); refine blk_far ?_ NB609_615.out _; (with_reducible repeat (first | refine blk_drewN ?_ _ | refine blk_drew ?_ | refine blk_alloc ?_ _)); refine blk_far ?_ NB609_615.out _; (with_reducible repeat (first | refine blk_drewN ?_ _ | refine blk_drew ?_ | refine blk_alloc ?_ _)); refine blk_far ?_ NB609_615.out _; (with_reducible repeat (first | refine blk_drewN ?_ _ | refine blk_drew ?_ | refine blk_alloc ?_ _)); exact BK609.out) hb) (blk_below (g := gb615) (o := .cells #[.int .i64 t610, .int .i64 t611, .slice Ao14 t612.length co14] 30 (0, 0)) (by (with_reducible repeat (first | refine blk_drewN ?_ _ | refine blk_drew ?_ | refine blk_alloc ?_ _)); refine blk_put (cs := #[.int .i64 t610, .int .i64 t611, .slice none 0 0]) ?_ 2 _ rfl; (with_reducible repeat (first | refine blk_drewN ?_ _ | refine blk_drew ?_ | refine blk_alloc ?_ _)); refine blk_put (cs := #[.int .i64 t610, .int .i64 0, .slice none 0 0]) ?_ 1 _ rfl; (with_reducible repeat (first | refine blk_drewN ?_ _ | refine blk_drew ?_ | refine blk_alloc ?_ _)); refine blk_put (cs := #[.int .i64 0, .int .i64 0, .slice none 0 0]) ?_ 0 _ rfl; (with_reducible repeat (first | refine blk_drewN ?_ _ | refine blk_drew ?_ | refine blk_alloc ?_ _)); exact BK615.out) hb) (below_step (BL HB.out) hb) ?_; clear HO614 BK608 BK609 BK615 HB; intro HO614 HO618 BK608 BK609 BK615 HB; (try clear hb); (try clear hb2); (try clear hk); (try clear hi); (try clear ho0); obtain ⟨Ao17, co17, eo17⟩ := Kd.S_slice HO618.out; subst eo17))
  repeat (go_quiet (first | ((with_reducible refine gate_dst (N := 2) rfl ?_); refine boxE (N := 2) (cs := #[.int .i64 a0_0, .int .i64 a0_1, .slice A0_2 l0_2.length c0_2]) (t := 30) ?_; intro gb608 hg w5 hbox hb; refine E4b HB.out hg hbox hb ?_; clear HB; intro HB BK608 GW608 GE608; clear hb hbox hg) | ((with_reducible refine gate_dst (N := 3) rfl ?_); refine boxE (N := 3) (cs := #[.int .i64 a1_0, .int .i64 a1_1, .slice A1_2 l1_2.length c1_2]) (t := 30) ?_; intro gb609 hg w6 hbox hb; refine E7 (bB BK608.out hb) (below_step (BL HB.out) hb) (hbox) (gwM hg (below_size (BL HB.out)) : w.heap.size ≤ gb609) (gwM hg (below_size (BL HB.out)) : w.heap.size ≤ gb609) ((nB BK608.out hg : gb608 ≠ gb609)) ((nC BK608.out hg : gb609 ≠ gb608)) ?_; clear BK608 HB; intro BK608 HB BK609 GW609 GE609 NB608_609 NB609_608; clear hb hbox hg; have hnb7 := NB608_609.out; have hnc7 := NB609_608.out; obtain ⟨hcz8_0, hcz8_1, hcz8_2, hfz8_0, hfz8_1, hfz8_2⟩ := cz3 BK608.out) | (go_at_call 60; (with_reducible refine (spec_boOwn.calls a0_0 a0_1 _ _ l0_2 t610 t611 t612 _ ?side1 ?side2 A3.out).mono ?_); (case side1 => exact CB (Kd.C_below HR0_2.out HB.out)); (case side2 => exact HC0_2.out); rintro e w9 ⟨v613, rfl, ho0, hb⟩; refine E4 (Kd.R_lower ho0 (below_size (BL HB.out))) (bB BK608.out hb) (bB BK609.out hb) (below_step (BL HB.out) hb) ?_; clear BK608 BK609 HB; intro HO614 BK608 BK609 HB; (try clear hb); (try clear hb2); (try clear hk); (try clear hi); (try clear ho0)) | ((with_reducible refine gate_dst (N := 6) rfl ?_); refine boxE (N := 6) (cs := #[.int .i64 0, .int .i64 0, .slice none 0 0]) (t := 30) ?_; intro gb615 hg w10 hbox hb; refine E11 (Kd.R_below (PR HO614.out) hb) (bB BK608.out hb) (bB BK609.out hb) (below_step (BL HB.out) hb) (hbox) (gwM hg (below_size (BL HB.out)) : w.heap.size ≤ gb615) (gwM hg (below_size (BL HB.out)) : w.heap.size ≤ gb615) ((nB BK608.out hg : gb608 ≠ gb615)) ((nC BK608.out hg : gb615 ≠ gb608)) ((nB BK609.out hg : gb609 ≠ gb615)) ((nC BK609.out hg : gb615 ≠ gb609)) ?_; clear HO614 BK608 BK609 HB; intro HO614 BK608 BK609 HB BK615 GW615 GE615 NB608_615 NB615_608 NB609_615 NB615_609; clear hb hbox hg; have hnb11 := NB615_608.out; have hnc11 := NB608_615.out; have hnb12 := NB615_609.out; have hnc12 := NB609_615.out; obtain ⟨hcz13_0, hcz13_1, hcz13_2, hfz13_0, hfz13_1, hfz13_2⟩ := cz3 BK615.out; obtain ⟨Ao14, co14, eo14⟩ := Kd.R_slice HO614.out; subst eo14; obtain ⟨hcz15_0, hcz15_1, hcz15_2, hfz15_0, hfz15_1, hfz15_2⟩ := cz3 BK608.out) | (go_at_call 59; (with_reducible refine (spec_saUnits.calls k a0_0 a0_1 _ _ l0_2 t616 _ ?side1 ?side2 A4.out).mono ?_); (case side1 => exact Kd.C_below HR0_2.out (BL HB.out)); (case side2 => exact HC0_2.out); rintro e w16 ⟨v617, rfl, ho0, hb⟩; refine E6 (Kd.R_below (by (with_reducible repeat (first | apply Kd.R_alloc | apply Kd.R_drewN | apply Kd.R_drew)); exact (Kd.R_mono (Kd.R_far (p := ⟨gb615, 2, none⟩) (Kd.R_far (p := ⟨gb615, 1, none⟩) (Kd.R_far (p := ⟨gb615, 0, none⟩) (Kd.R_types HO614.out BK615.out (by decide)) (fun _ hk => hk.2) (.int .i64 t610)) (fun _ hk => hk.2) (.int .i64 t611)) (fun _ hk => hk.2) (.slice Ao14 t612.length co14)) (fun _ h_ => h_.1))) hb) (Kd.S_lower ho0 (below_size (BL HB.out))) (blk_below (g := gb608) (o := .cells #[.int .i64 a0_0, .int .i64 a0_1, .slice A0_2 l0_2.length c0_2] 30 (0, 0)) (by (with_reducible repeat (first | refine blk_drewN ?_ _ | refine blk_drew ?_ | refine blk_alloc ?_ _)); refine blk_far ?_ NB608_615.out _; (with_reducible repeat (first | refine blk_drewN ?_ _ | refine blk_drew ?_ | refine blk_alloc ?_ _)); refine blk_far ?_ NB608_615.out _; (with_reducible repeat (first | refine blk_drewN ?_ _ | refine blk_drew ?_ | refine blk_alloc ?_ _)); refine blk_far ?_ NB608_615.out _; (with_reducible repeat (first | refine blk_drewN ?_ _ | refine blk_drew ?_ | refine blk_alloc ?_ _)); exact BK608.out) hb) (blk_below (g := gb609) (o := .cells #[.int .i64 a1_0, .int .i64 a1_1, .slice A1_2 l1_2.length c1_2] 30 (0, 0)) (by (with_reducible repeat (first | refine blk_drewN ?_ _ | refine blk_drew ?_ | refine blk_alloc ?_ _)); refine blk_far ?_ NB609_615.out _; (with_reducible repeat (first | refine blk_drewN ?_ _ | refine blk_drew ?_ | refine blk_alloc ?_ _)); refine blk_far ?_ NB609_615.out _; (with_reducible repeat (first | refine blk_drewN ?_ _ | refine blk_drew ?_ | refine blk_alloc ?_ _)); refine blk_far ?_ NB609_615.out _; (with_reducible repeat (first | refine blk_drewN ?_ _ | refine blk_drew ?_ | refine blk_alloc ?_ _)); exact BK609.out) hb) (blk_below (g := gb615) (o := .cells #[.int .i64 t610, .int .i64 t611, .slice Ao14 t612.length co14] 30 (0, 0)) (by (with_reducible repeat (first | refine blk_drewN ?_ _ | refine blk_drew ?_ | refine blk_alloc ?_ _)); refine blk_put (cs := #[.int .i64 t610, .int .i64 t611, .slice none 0 0]) ?_ 2 _ rfl; (with_reducible repeat (first | refine blk_drewN ?_ _ | refine blk_drew ?_ | refine blk_alloc ?_ _)); refine blk_put (cs := #[.int .i64 t610, .int .i64 0, .slice none 0 0]) ?_ 1 _ rfl; (with_reducible repeat (first | refine blk_drewN ?_ _ | refine blk_drew ?_ | refine blk_alloc ?_ _)); refine blk_put (cs := #[.int .i64 0, .int .i64 0, .slice none 0 0]) ?_ 0 _ rfl; (with_reducible repeat (first | refine blk_drewN ?_ _ | refine blk_drew ?_ | refine blk_alloc ?_ _)); exact BK615.out) hb) (below_step (BL HB.out) hb) ?_; clear HO614 BK608 BK609 BK615 HB; intro HO614 HO618 BK608 BK609 BK615 HB; (try clear hb); (try clear hb2); (try clear hk); (try clear hi); (try clear ho0); obtain ⟨Ao17, co17, eo17⟩ := Kd.S_slice HO618.out; subst eo17)); try go_wp2_with (first | ((with_reducible refine gate_dst (N := 2) rfl ?_); refine boxE (N := 2) (cs := #[.int .i64 a0_0, .int .i64 a0_1, .slice A0_2 l0_2.length c0_2]) (t := 30) ?_; intro gb608 hg w5 hbox hb; refine E4b HB.out hg hbox hb ?_; clear HB; intro HB BK608 GW608 GE608; clear hb hbox hg) | ((with_reducible refine gate_dst (N := 3) rfl ?_); refine boxE (N := 3) (cs := #[.int .i64 a1_0, .int .i64 a1_1, .slice A1_2 l1_2.length c1_2]) (t := 30) ?_; intro gb609 hg w6 hbox hb; refine E7 (bB BK608.out hb) (below_step (BL HB.out) hb) (hbox) (gwM hg (below_size (BL HB.out)) : w.heap.size ≤ gb609) (gwM hg (below_size (BL HB.out)) : w.heap.size ≤ gb609) ((nB BK608.out hg : gb608 ≠ gb609)) ((nC BK608.out hg : gb609 ≠ gb608)) ?_; clear BK608 HB; intro BK608 HB BK609 GW609 GE609 NB608_609 NB609_608; clear hb hbox hg; have hnb7 := NB608_609.out; have hnc7 := NB609_608.out; obtain ⟨hcz8_0, hcz8_1, hcz8_2, hfz8_0, hfz8_1, hfz8_2⟩ := cz3 BK608.out) | (go_at_call 60; (with_reducible refine (spec_boOwn.calls a0_0 a0_1 _ _ l0_2 t610 t611 t612 _ ?side1 ?side2 A3.out).mono ?_); (case side1 => exact CB (Kd.C_below HR0_2.out HB.out)); (case side2 => exact HC0_2.out); rintro e w9 ⟨v613, rfl, ho0, hb⟩; refine E4 (Kd.R_lower ho0 (below_size (BL HB.out))) (bB BK608.out hb) (bB BK609.out hb) (below_step (BL HB.out) hb) ?_; clear BK608 BK609 HB; intro HO614 BK608 BK609 HB; (try clear hb); (try clear hb2); (try clear hk); (try clear hi); (try clear ho0)) | ((with_reducible refine gate_dst (N := 6) rfl ?_); refine boxE (N := 6) (cs := #[.int .i64 0, .int .i64 0, .slice none 0 0]) (t := 30) ?_; intro gb615 hg w10 hbox hb; refine E11 (Kd.R_below (PR HO614.out) hb) (bB BK608.out hb) (bB BK609.out hb) (below_step (BL HB.out) hb) (hbox) (gwM hg (below_size (BL HB.out)) : w.heap.size ≤ gb615) (gwM hg (below_size (BL HB.out)) : w.heap.size ≤ gb615) ((nB BK608.out hg : gb608 ≠ gb615)) ((nC BK608.out hg : gb615 ≠ gb608)) ((nB BK609.out hg : gb609 ≠ gb615)) ((nC BK609.out hg : gb615 ≠ gb609)) ?_; clear HO614 BK608 BK609 HB; intro HO614 BK608 BK609 HB BK615 GW615 GE615 NB608_615 NB615_608 NB609_615 NB615_609; clear hb hbox hg; have hnb11 := NB615_608.out; have hnc11 := NB608_615.out; have hnb12 := NB615_609.out; have hnc12 := NB609_615.out; obtain ⟨hcz13_0, hcz13_1, hcz13_2, hfz13_0, hfz13_1, hfz13_2⟩ := cz3 BK615.out; obtain ⟨Ao14, co14, eo14⟩ := Kd.R_slice HO614.out; subst eo14; obtain ⟨hcz15_0, hcz15_1, hcz15_2, hfz15_0, hfz15_1, hfz15_2⟩ := cz3 BK608.out) | (go_at_call 59; (with_reducible refine (spec_saUnits.calls k a0_0 a0_1 _ _ l0_2 t616 _ ?side1 ?side2 A4.out).mono ?_); (case side1 => exact Kd.C_below HR0_2.out (BL HB.out)); (case side2 => exact HC0_2.out); rintro e w16 ⟨v617, rfl, ho0, hb⟩; refine E6 (Kd.R_below (by (with_reducible repeat (first | apply Kd.R_alloc | apply Kd.R_drewN | apply Kd.R_drew)); exact (Kd.R_mono (Kd.R_far (p := ⟨gb615, 2, none⟩) (Kd.R_far (p := ⟨gb615, 1, none⟩) (Kd.R_far (p := ⟨gb615, 0, none⟩) (Kd.R_types HO614.out BK615.out (by decide)) (fun _ hk => hk.2) (.int .i64 t610)) (fun _ hk => hk.2) (.int .i64 t611)) (fun _ hk => hk.2) (.slice Ao14 t612.length co14)) (fun _ h_ => h_.1))) hb) (Kd.S_lower ho0 (below_size (BL HB.out))) (blk_below (g := gb608) (o := .cells #[.int .i64 a0_0, .int .i64 a0_1, .slice A0_2 l0_2.length c0_2] 30 (0, 0)) (by (with_reducible repeat (first | refine blk_drewN ?_ _ | refine blk_drew ?_ | refine blk_alloc ?_ _)); refine blk_far ?_ NB608_615.out _; (with_reducible repeat (first | refine blk_drewN ?_ _ | refine blk_drew ?_ | refine blk_alloc ?_ _)); refine blk_far ?_ NB608_615.out _; (with_reducible repeat (first | refine blk_drewN ?_ _ | refine blk_drew ?_ | refine blk_alloc ?_ _)); refine blk_far ?_ NB608_615.out _; (with_reducible repeat (first | refine blk_drewN ?_ _ | refine blk_drew ?_ | refine blk_alloc ?_ _)); exact BK608.out) hb) (blk_below (g := gb609) (o := .cells #[.int .i64 a1_0, .int .i64 a1_1, .slice A1_2 l1_2.length c1_2] 30 (0, 0)) (by (with_reducible repeat (first | refine blk_drewN ?_ _ | refine blk_drew ?_ | refine blk_alloc ?_ _)); refine blk_far ?_ NB609_615.out _; (with_reducible repeat (first | refine blk_drewN ?_ _ | refine blk_drew ?_ | refine blk_alloc ?_ _)); refine blk_far ?_ NB609_615.out _; (with_reducible repeat (first | refine blk_drewN ?_ _ | refine blk_drew ?_ | refine blk_alloc ?_ _)); refine blk_far ?_ NB609_615.out _; (with_reducible repeat (first | refine blk_drewN ?_ _ | refine blk_drew ?_ | refine blk_alloc ?_ _)); exact BK609.out) hb) (blk_below (g := gb615) (o := .cells #[.int .i64 t610, .int .i64 t611, .slice Ao14 t612.length co14] 30 (0, 0)) (by (with_reducible repeat (first | refine blk_drewN ?_ _ | refine blk_drew ?_ | refine blk_alloc ?_ _)); refine blk_put (cs := #[.int .i64 t610, .int .i64 t611, .slice none 0 0]) ?_ 2 _ rfl; (with_reducible repeat (first | refine blk_drewN ?_ _ | refine blk_drew ?_ | refine blk_alloc ?_ _)); refine blk_put (cs := #[.int .i64 t610, .int .i64 0, .slice none 0 0]) ?_ 1 _ rfl; (with_reducible repeat (first | refine blk_drewN ?_ _ | refine blk_drew ?_ | refine blk_alloc ?_ _)); refine blk_put (cs := #[.int .i64 0, .int .i64 0, .slice none 0 0]) ?_ 0 _ rfl; (with_reducible repeat (first | refine blk_drewN ?_ _ | refine blk_drew ?_ | refine blk_alloc ?_ _)); exact BK615.out) hb) (below_step (BL HB.out) hb) ?_; clear HO614 BK608 BK609 BK615 HB; intro HO614 HO618 BK608 BK609 BK615 HB; (try clear hb); (try clear hb2); (try clear hk); (try clear hi); (try clear ho0); obtain ⟨Ao17, co17, eo17⟩ := Kd.S_slice HO618.out; subst eo17)))
  go_loopg [7, 15] k (fun kq v7 v15 w' => ∃ (x7_1 : List Int) (x15_1 : Int) (x616002_1 : List (S73)) (u616002 : Value), v15 = .int .i64 x15_1 ∧ Aside0 (spec_saTurned.l0 kq x7_1 t616 (t616.length : Int) x15_1 a0_0 a0_1 l0_2 a1_0 a1_1 l1_2 t610 t611 x616002_1 = some (r1, r2)) ∧ Aside0 (kq ≤ k) ∧ Aside0 (Kd.R (Kd.int .i64) 3 w' w.heap.size (fun _ => True) v7 x7_1) ∧ Aside0 (Kd.S (Kd.slice 3 (Kd.int .i64)) 36 w' w.heap.size (fun k_ => some k_ ≠ (v7 : Value).ownBlock) (.slice Ao17 t616.length co17) t616) ∧ Aside0 (Kd.R k73 73 w' w.heap.size (fun _ => True) u616002 x616002_1) ∧ Aside0 (w'.heap[gb608]? = some (.cells #[.int .i64 a0_0, .int .i64 a0_1, (.slice A0_2 l0_2.length c0_2)] 30 (0, 0))) ∧ Aside0 (w'.heap[gb609]? = some (.cells #[.int .i64 a1_0, .int .i64 a1_1, (.slice A1_2 l1_2.length c1_2)] 30 (0, 0))) ∧ Aside0 (w'.heap[gb615]? = some (.cells #[.int .i64 t610, .int .i64 t611, u616002] 30 (0, 0))) ∧ Aside0 (Below w.heap.size w w'))
  case atStart => exact ⟨(([] : List Int)), (0), (t612), (.slice Ao14 t612.length co14), RG, H', ⟨Nat.le_refl _⟩, ⟨by first | exact Kd.R_nil _ _ _ _ _ | exact Kd.N_nil _ _ _ _ _ | exact Kd.V_nil _ _ _ _ _ | exact Kd.Q_nil _ _ _ _ _ | exact Kd.S_nil _ _ _ _ _⟩, ⟨by (with_reducible repeat (first | apply Kd.S_alloc | apply Kd.S_drewN | apply Kd.S_drew)); exact Kd.S_mono HO618.out (fun _ hk => (by simp [Value.ownBlock]))⟩, ⟨PR HO614.out⟩, ⟨PB BK608.out⟩, ⟨PB BK609.out⟩, ⟨PB BK615.out⟩, ⟨BL HB.out⟩⟩
  clear H'
  try clear hcz13_0; try clear hcz13_1; try clear hcz13_2; try clear hcz15_0; try clear hcz15_1; try clear hcz15_2; try clear hcz8_0; try clear hcz8_1; try clear hcz8_2; try clear hfz13_0; try clear hfz13_1; try clear hfz13_2; try clear hfz15_0; try clear hfz15_1; try clear hfz15_2; try clear hfz8_0; try clear hfz8_1; try clear hfz8_2
  obtain ⟨x7_1, x15_1, x616002_1, u616002, rfl, HA, HK1, HO_7, HO_13, HO_616002, BK608, BK609, BK615, HB⟩ := hrel
  cases gk with
  | zero => exact absurd HA.out (by simp [spec_saTurned.l0])
  | succ k1 => ?_
  have H := HA.out
  clear HA
  simp only [spec_saTurned.l0] at H
  replace H := ifB H; rcases H with ⟨c18b0, H⟩ | ⟨c18b0, H⟩
  · replace H := ifN H; obtain ⟨c19b0, H⟩ := H
    replace H := ifN H; obtain ⟨c20b0, H⟩ := H
    replace H := ifP H; obtain ⟨c21, H⟩ := H
    have c21b0 := decide_eq_true c21
    have c21b1 : decide (0 < (rd_L3 t616 x15_1).length) = true := decide_eq_true (by omega)
    clear c21
    replace H := ifN H; obtain ⟨c22b0, H⟩ := H
    replace H := ifN H; obtain ⟨c23b0, H⟩ := H
    replace H := ifN H; obtain ⟨c24b0, H⟩ := H
    replace H := ifQ H; rcases H with ⟨c25, H⟩ | ⟨c25, H⟩
    · have c25b0 : (!(((rd_T73 l0_2 (rd (rd_L3 t616 x15_1) 0)).f0) == ((rd_T73 l1_2 (rd (rd_L3 t616 x15_1) 0)).f0)) || (!(((rd_T73 l0_2 (rd (rd_L3 t616 x15_1) 0)).f1) == ((rd_T73 l1_2 (rd (rd_L3 t616 x15_1) 0)).f1)))) = true := c25
      clear c25
      replace H := bindA H; obtain ⟨t624, A26, H⟩ := H
      replace H := ifP H; obtain ⟨c27, H⟩ := H
      have LMc27 := Aside0.mk c27
      clear c27
      generalize hy625 : ((x7_1 ++ [x15_1]) : List Int) = y625 at H
      have Ny625 := Aside0.mk hy625.symm; clear hy625
      have H' := Aside0.mk H
      clear H
      have p619 : 0 ≤ (x15_1 : Int) := OD
      have q619 : x15_1 < (t616.length : Int) := OD
      obtain ⟨ad619, A619_0, c619_0, e619, hx619_0, hl619_0, hi619_0⟩ := at_L3 (Kd.S_reads' HO_13.out).2.2 x15_1 p619 q619
      cases e619
      obtain ⟨ce619, hce619, hMe619, hcc619⟩ := Kd.S_get HO_13.out [] x15_1 p619 (by first | exact q619 | exact OD | (have e_ := (Kd.S_reads' HO_13.out).1; omega))
      obtain ⟨ve619_0, rfl, ge619_0⟩ := hMe619
      have hv619_0 := hcc619 0 _ rfl
      rw [Nat.add_zero, show ((Kd.slice 3 (Kd.int .i64))).sz = 1 from rfl, Nat.mul_one] at hv619_0
      replace hv619_0 := Option.some.inj (hv619_0.symm.trans hx619_0)
      rw [hv619_0] at ge619_0
      have HL619_0 := Aside0.mk (show Kd.R (Kd.int .i64) 3 _ _ _ _ (rd_L3 t616 x15_1) from ge619_0)
      clear hv619_0 ge619_0
      clear hcc619 hce619
      have HR619_0 := Aside0.mk hi619_0
      have HC619_0 := Aside0.mk hl619_0
      clear hi619_0 hl619_0
      replace p619 := eq_true p619
      replace q619 := eq_true q619
      have hnb28 := NB608_609.out
      have hnc28 := NB609_608.out
      have hnb29 := NB608_615.out
      have hnc29 := NB615_608.out
      obtain ⟨hcz30_0, hcz30_1, hcz30_2, hfz30_0, hfz30_1, hfz30_2⟩ := cz3 BK608.out
      have p620 : 0 ≤ (0 : Int) := (by omega)
      have q620 : 0 < ((rd_L3 t616 x15_1).length : Int) := OD
      obtain ⟨ad620, e620, hx620_0⟩ := Kd.at_int (by repeat (first | (with_reducible exact HR619_0.out) | (with_reducible refine Kd.C_alloc ?_ _) | (with_reducible refine Kd.C_drewN ?_ _) | (with_reducible refine Kd.C_drew ?_) | exact HR619_0.out)) 0 p620 q620
      cases e620
      have qi620 : (0 < (rd_L3 t616 x15_1).length) = True := eq_true (by omega)
      (try rw [show ((0 : Int)).toNat = 0 from rfl] at hx620_0)
      (try rw [Addr.add_zero'] at hx620_0)
      replace p620 := eq_true p620
      replace q620 := eq_true q620
      have p621 : 0 ≤ ((rd (rd_L3 t616 x15_1) 0) : Int) := OD
      have q621 : (rd (rd_L3 t616 x15_1) 0) < (l0_2.length : Int) := OD
      obtain ⟨ad621, e621, hx621_0, hx621_1⟩ := at_T73 HR0_2.out (rd (rd_L3 t616 x15_1) 0) p621 q621
      cases e621
      replace hx621_0 := (HB.out.cell (World.block_lt_of_cell? w _ hx621_0)).trans hx621_0
      replace hx621_1 := (HB.out.cell (World.block_lt_of_cell? w _ hx621_1)).trans hx621_1
      replace p621 := eq_true p621
      replace q621 := eq_true q621
      have hnb31 := NB609_615.out
      have hnc31 := NB615_609.out
      obtain ⟨hcz32_0, hcz32_1, hcz32_2, hfz32_0, hfz32_1, hfz32_2⟩ := cz3 BK609.out
      have p622 : 0 ≤ (0 : Int) := (by omega)
      have q622 : 0 < ((rd_L3 t616 x15_1).length : Int) := OD
      obtain ⟨ad622, e622, hx622_0⟩ := Kd.at_int (by repeat (first | (with_reducible exact HR619_0.out) | (with_reducible refine Kd.C_alloc ?_ _) | (with_reducible refine Kd.C_drewN ?_ _) | (with_reducible refine Kd.C_drew ?_) | exact HR619_0.out)) 0 p622 q622
      obtain rfl : ad620 = ad622 := (by injection e622)
      have qi622 : (0 < (rd_L3 t616 x15_1).length) = True := eq_true (by omega)
      (try rw [show ((0 : Int)).toNat = 0 from rfl] at hx622_0)
      (try rw [Addr.add_zero'] at hx622_0)
      replace p622 := eq_true p622
      replace q622 := eq_true q622
      have p623 : 0 ≤ ((rd (rd_L3 t616 x15_1) 0) : Int) := OD
      have q623 : (rd (rd_L3 t616 x15_1) 0) < (l1_2.length : Int) := OD
      obtain ⟨ad623, e623, hx623_0, hx623_1⟩ := at_T73 HR1_2.out (rd (rd_L3 t616 x15_1) 0) p623 q623
      cases e623
      replace hx623_0 := (HB.out.cell (World.block_lt_of_cell? w _ hx623_0)).trans hx623_0
      replace hx623_1 := (HB.out.cell (World.block_lt_of_cell? w _ hx623_1)).trans hx623_1
      replace p623 := eq_true p623
      replace q623 := eq_true q623
      obtain ⟨hcz33_0, hcz33_1, hcz33_2, hfz33_0, hfz33_1, hfz33_2⟩ := cz3 BK615.out
      obtain ⟨Ao34, co34, eo34⟩ := Kd.R_slice HO_616002.out
      subst eo34
      go_wp2_with (first | (go_at_call 61; (with_reducible refine (spec_saTurn.calls k1 t610 t611 (fun k_ => some k_ = (.slice Ao34 x616002_1.length co34 : Value).ownBlock) (.slice Ao34 x616002_1.length co34) x616002_1 _ _ (rd_L3 t616 x15_1) t624 w _ ?side1 ?side2 ?side3 ?side4 A26.out).mono ?_); (case side1 => repeat (first | (with_reducible first | exact HB.out | apply below_alloc | apply pw_below_drewN | apply below_drew1 | refine below_set ?_ GE608.out | refine below_set ?_ GE609.out | refine below_set ?_ GE615.out) | exact HB.out)); (case side2 => exact Kd.R_tight rfl HO_616002.out); (case side3 => exact Kd.C_kept_own ((Kd.R_apart' HL619_0.out (Kd.R_typed HO_616002.out) (by decide))) (fun k_ hk_ hs_ => (hk_.2) hs_)); (case side4 => exact HC619_0.out); rintro e w35 ⟨rfl, hy0, hb, hkp⟩; refine E7 (Kd.R_mono (ok' := fun k_ => True) (Kd.R_keptB ((Kd.R_apart' HO_7.out (Kd.R_typed HO_616002.out) (by decide))) hkp (fun k_ hk_ hs_ => (hk_.2) hs_)) (fun k_ hk_ => trivial)) (Kd.S_mono (ok' := fun k_ => some k_ ≠ (u7 : Value).ownBlock) (Kd.S_keptB ((Kd.S_apart' HO_13.out (Kd.R_typed HO_616002.out) (by decide))) hkp (fun k_ hk_ hs_ => (hk_.2) hs_)) (fun k_ hk_ => hk_.1.1)) (Kd.R_reok rfl hy0 (fun k_ e_ => HO_616002.out.1 k_ e_)) (blk_kept (PB BK608.out) hkp (fun hs_ => (fun e_ => (Kd.R_ne HO_616002.out BK608.out (by decide)) e_) hs_)) (blk_kept (PB BK609.out) hkp (fun hs_ => (fun e_ => (Kd.R_ne HO_616002.out BK609.out (by decide)) e_) hs_)) (blk_kept (PB BK615.out) hkp (fun hs_ => (fun e_ => (Kd.R_ne HO_616002.out BK615.out (by decide)) e_) hs_)) (hb) ?_; clear HO_7 HO_13 HO_616002 BK608 BK609 BK615 HB HL619_0; intro HO_7 HO_13 HO_616002 BK608 BK609 BK615 HB; (try clear hb); (try clear hkp); (try clear hy0)) | ((with_reducible refine gate_builtin (b := .append) (xs := #[.tmp 38, .tmp 40]) rfl ?_); at_builtin; refine Kd.R_append (Kd.int .i64) (w0 := w) w.heap.size rfl (.tmp 38) (.tmp 40) 36 3 (.int .i64 0) 8 rfl Try.underlying36 info3 rfl (by decide) (by omega) u7 x7_1 x15_1 [.int .i64 x15_1] (fun _ => True) (fun _ => False) rfl rfl ?aP (fun _ hk => hk.elim) ?aF ?aO ?aB ?aS ?aL ?_; (case aP => exact rfl); (case aB => exact (BL HB.out)); (case aF => exact (fun _ _ => trivial)); (case aO => exact (PR HO_7.out)); (case aS => exact (below_size (BL HB.out))); (case aL => have := LMc27.out; omega); intro v626 w36 ho hb hg hat; rw [← Ny625.out] at ho; refine E7 (Kd.S_after (ok := (fun _ => True)) (by (with_reducible repeat (first | apply Kd.S_alloc | apply Kd.S_drewN | apply Kd.S_drew)); exact Kd.S_mono HO_13.out (fun _ hk => ⟨trivial, hk⟩)) hg hat) (Kd.R_over' (PR HO_616002.out) (Kd.R_typed (PR HO_7.out)) (by decide) hg) (bG BK608.out hg (Kd.R_ne HO_7.out BK608.out (by decide))) (bG BK609.out hg (Kd.R_ne HO_7.out BK609.out (by decide))) (bG BK615.out hg (Kd.R_ne HO_7.out BK615.out (by decide))) (hb) (ho) ?_; clear HO_13 HO_616002 BK608 BK609 BK615 HB HO_7; intro HO_13 HO_616002 BK608 BK609 BK615 HB HO627; clear ho hb hg hat))
      repeat (go_quiet (first | (go_at_call 61; (with_reducible refine (spec_saTurn.calls k1 t610 t611 (fun k_ => some k_ = (.slice Ao34 x616002_1.length co34 : Value).ownBlock) (.slice Ao34 x616002_1.length co34) x616002_1 _ _ (rd_L3 t616 x15_1) t624 w _ ?side1 ?side2 ?side3 ?side4 A26.out).mono ?_); (case side1 => repeat (first | (with_reducible first | exact HB.out | apply below_alloc | apply pw_below_drewN | apply below_drew1 | refine below_set ?_ GE608.out | refine below_set ?_ GE609.out | refine below_set ?_ GE615.out) | exact HB.out)); (case side2 => exact Kd.R_tight rfl HO_616002.out); (case side3 => exact Kd.C_kept_own ((Kd.R_apart' HL619_0.out (Kd.R_typed HO_616002.out) (by decide))) (fun k_ hk_ hs_ => (hk_.2) hs_)); (case side4 => exact HC619_0.out); rintro e w35 ⟨rfl, hy0, hb, hkp⟩; refine E7 (Kd.R_mono (ok' := fun k_ => True) (Kd.R_keptB ((Kd.R_apart' HO_7.out (Kd.R_typed HO_616002.out) (by decide))) hkp (fun k_ hk_ hs_ => (hk_.2) hs_)) (fun k_ hk_ => trivial)) (Kd.S_mono (ok' := fun k_ => some k_ ≠ (u7 : Value).ownBlock) (Kd.S_keptB ((Kd.S_apart' HO_13.out (Kd.R_typed HO_616002.out) (by decide))) hkp (fun k_ hk_ hs_ => (hk_.2) hs_)) (fun k_ hk_ => hk_.1.1)) (Kd.R_reok rfl hy0 (fun k_ e_ => HO_616002.out.1 k_ e_)) (blk_kept (PB BK608.out) hkp (fun hs_ => (fun e_ => (Kd.R_ne HO_616002.out BK608.out (by decide)) e_) hs_)) (blk_kept (PB BK609.out) hkp (fun hs_ => (fun e_ => (Kd.R_ne HO_616002.out BK609.out (by decide)) e_) hs_)) (blk_kept (PB BK615.out) hkp (fun hs_ => (fun e_ => (Kd.R_ne HO_616002.out BK615.out (by decide)) e_) hs_)) (hb) ?_; clear HO_7 HO_13 HO_616002 BK608 BK609 BK615 HB HL619_0; intro HO_7 HO_13 HO_616002 BK608 BK609 BK615 HB; (try clear hb); (try clear hkp); (try clear hy0)) | ((with_reducible refine gate_builtin (b := .append) (xs := #[.tmp 38, .tmp 40]) rfl ?_); at_builtin; refine Kd.R_append (Kd.int .i64) (w0 := w) w.heap.size rfl (.tmp 38) (.tmp 40) 36 3 (.int .i64 0) 8 rfl Try.underlying36 info3 rfl (by decide) (by omega) u7 x7_1 x15_1 [.int .i64 x15_1] (fun _ => True) (fun _ => False) rfl rfl ?aP (fun _ hk => hk.elim) ?aF ?aO ?aB ?aS ?aL ?_; (case aP => exact rfl); (case aB => exact (BL HB.out)); (case aF => exact (fun _ _ => trivial)); (case aO => exact (PR HO_7.out)); (case aS => exact (below_size (BL HB.out))); (case aL => have := LMc27.out; omega); intro v626 w36 ho hb hg hat; rw [← Ny625.out] at ho; refine E7 (Kd.S_after (ok := (fun _ => True)) (by (with_reducible repeat (first | apply Kd.S_alloc | apply Kd.S_drewN | apply Kd.S_drew)); exact Kd.S_mono HO_13.out (fun _ hk => ⟨trivial, hk⟩)) hg hat) (Kd.R_over' (PR HO_616002.out) (Kd.R_typed (PR HO_7.out)) (by decide) hg) (bG BK608.out hg (Kd.R_ne HO_7.out BK608.out (by decide))) (bG BK609.out hg (Kd.R_ne HO_7.out BK609.out (by decide))) (bG BK615.out hg (Kd.R_ne HO_7.out BK615.out (by decide))) (hb) (ho) ?_; clear HO_13 HO_616002 BK608 BK609 BK615 HB HO_7; intro HO_13 HO_616002 BK608 BK609 BK615 HB HO627; clear ho hb hg hat)); try go_wp2_with (first | (go_at_call 61; (with_reducible refine (spec_saTurn.calls k1 t610 t611 (fun k_ => some k_ = (.slice Ao34 x616002_1.length co34 : Value).ownBlock) (.slice Ao34 x616002_1.length co34) x616002_1 _ _ (rd_L3 t616 x15_1) t624 w _ ?side1 ?side2 ?side3 ?side4 A26.out).mono ?_); (case side1 => repeat (first | (with_reducible first | exact HB.out | apply below_alloc | apply pw_below_drewN | apply below_drew1 | refine below_set ?_ GE608.out | refine below_set ?_ GE609.out | refine below_set ?_ GE615.out) | exact HB.out)); (case side2 => exact Kd.R_tight rfl HO_616002.out); (case side3 => exact Kd.C_kept_own ((Kd.R_apart' HL619_0.out (Kd.R_typed HO_616002.out) (by decide))) (fun k_ hk_ hs_ => (hk_.2) hs_)); (case side4 => exact HC619_0.out); rintro e w35 ⟨rfl, hy0, hb, hkp⟩; refine E7 (Kd.R_mono (ok' := fun k_ => True) (Kd.R_keptB ((Kd.R_apart' HO_7.out (Kd.R_typed HO_616002.out) (by decide))) hkp (fun k_ hk_ hs_ => (hk_.2) hs_)) (fun k_ hk_ => trivial)) (Kd.S_mono (ok' := fun k_ => some k_ ≠ (u7 : Value).ownBlock) (Kd.S_keptB ((Kd.S_apart' HO_13.out (Kd.R_typed HO_616002.out) (by decide))) hkp (fun k_ hk_ hs_ => (hk_.2) hs_)) (fun k_ hk_ => hk_.1.1)) (Kd.R_reok rfl hy0 (fun k_ e_ => HO_616002.out.1 k_ e_)) (blk_kept (PB BK608.out) hkp (fun hs_ => (fun e_ => (Kd.R_ne HO_616002.out BK608.out (by decide)) e_) hs_)) (blk_kept (PB BK609.out) hkp (fun hs_ => (fun e_ => (Kd.R_ne HO_616002.out BK609.out (by decide)) e_) hs_)) (blk_kept (PB BK615.out) hkp (fun hs_ => (fun e_ => (Kd.R_ne HO_616002.out BK615.out (by decide)) e_) hs_)) (hb) ?_; clear HO_7 HO_13 HO_616002 BK608 BK609 BK615 HB HL619_0; intro HO_7 HO_13 HO_616002 BK608 BK609 BK615 HB; (try clear hb); (try clear hkp); (try clear hy0)) | ((with_reducible refine gate_builtin (b := .append) (xs := #[.tmp 38, .tmp 40]) rfl ?_); at_builtin; refine Kd.R_append (Kd.int .i64) (w0 := w) w.heap.size rfl (.tmp 38) (.tmp 40) 36 3 (.int .i64 0) 8 rfl Try.underlying36 info3 rfl (by decide) (by omega) u7 x7_1 x15_1 [.int .i64 x15_1] (fun _ => True) (fun _ => False) rfl rfl ?aP (fun _ hk => hk.elim) ?aF ?aO ?aB ?aS ?aL ?_; (case aP => exact rfl); (case aB => exact (BL HB.out)); (case aF => exact (fun _ _ => trivial)); (case aO => exact (PR HO_7.out)); (case aS => exact (below_size (BL HB.out))); (case aL => have := LMc27.out; omega); intro v626 w36 ho hb hg hat; rw [← Ny625.out] at ho; refine E7 (Kd.S_after (ok := (fun _ => True)) (by (with_reducible repeat (first | apply Kd.S_alloc | apply Kd.S_drewN | apply Kd.S_drew)); exact Kd.S_mono HO_13.out (fun _ hk => ⟨trivial, hk⟩)) hg hat) (Kd.R_over' (PR HO_616002.out) (Kd.R_typed (PR HO_7.out)) (by decide) hg) (bG BK608.out hg (Kd.R_ne HO_7.out BK608.out (by decide))) (bG BK609.out hg (Kd.R_ne HO_7.out BK609.out (by decide))) (bG BK615.out hg (Kd.R_ne HO_7.out BK615.out (by decide))) (hb) (ho) ?_; clear HO_13 HO_616002 BK608 BK609 BK615 HB HO_7; intro HO_13 HO_616002 BK608 BK609 BK615 HB HO627; clear ho hb hg hat)))
      go_roundg k1
      case measure => have := HK1.out; omega
      case rel => exact ⟨(y625), (wrap64 (x15_1 + 1)), (t624), (.slice Ao34 x616002_1.length co34), RG, H', ⟨by have := HK1.out; omega⟩, ⟨PR HO627.out⟩, ⟨by (with_reducible repeat (first | apply Kd.S_alloc | apply Kd.S_drewN | apply Kd.S_drew)); exact Kd.S_mono HO_13.out (fun _ hk => hk.2)⟩, ⟨PR HO_616002.out⟩, ⟨PB BK608.out⟩, ⟨PB BK609.out⟩, ⟨PB BK615.out⟩, ⟨BL HB.out⟩⟩
    have c25b0 : (!(((rd_T73 l0_2 (rd (rd_L3 t616 x15_1) 0)).f0) == ((rd_T73 l1_2 (rd (rd_L3 t616 x15_1) 0)).f0)) || (!(((rd_T73 l0_2 (rd (rd_L3 t616 x15_1) 0)).f1) == ((rd_T73 l1_2 (rd (rd_L3 t616 x15_1) 0)).f1)))) = false := by simpa using c25
    clear c25
    have H' := Aside0.mk H
    clear H
    have p619 : 0 ≤ (x15_1 : Int) := OD
    have q619 : x15_1 < (t616.length : Int) := OD
    obtain ⟨ad619, A619_0, c619_0, e619, hx619_0, hl619_0, hi619_0⟩ := at_L3 (Kd.S_reads' HO_13.out).2.2 x15_1 p619 q619
    cases e619
    obtain ⟨ce619, hce619, hMe619, hcc619⟩ := Kd.S_get HO_13.out [] x15_1 p619 (by first | exact q619 | exact OD | (have e_ := (Kd.S_reads' HO_13.out).1; omega))
    obtain ⟨ve619_0, rfl, ge619_0⟩ := hMe619
    have hv619_0 := hcc619 0 _ rfl
    rw [Nat.add_zero, show ((Kd.slice 3 (Kd.int .i64))).sz = 1 from rfl, Nat.mul_one] at hv619_0
    replace hv619_0 := Option.some.inj (hv619_0.symm.trans hx619_0)
    rw [hv619_0] at ge619_0
    have HL619_0 := Aside0.mk (show Kd.R (Kd.int .i64) 3 _ _ _ _ (rd_L3 t616 x15_1) from ge619_0)
    clear hv619_0 ge619_0
    clear hcc619 hce619
    have HR619_0 := Aside0.mk hi619_0
    have HC619_0 := Aside0.mk hl619_0
    clear hi619_0 hl619_0
    replace p619 := eq_true p619
    replace q619 := eq_true q619
    have hnb37 := NB608_609.out
    have hnc37 := NB609_608.out
    have hnb38 := NB608_615.out
    have hnc38 := NB615_608.out
    obtain ⟨hcz39_0, hcz39_1, hcz39_2, hfz39_0, hfz39_1, hfz39_2⟩ := cz3 BK608.out
    have p620 : 0 ≤ (0 : Int) := (by omega)
    have q620 : 0 < ((rd_L3 t616 x15_1).length : Int) := OD
    obtain ⟨ad620, e620, hx620_0⟩ := Kd.at_int (by repeat (first | (with_reducible exact HR619_0.out) | (with_reducible refine Kd.C_alloc ?_ _) | (with_reducible refine Kd.C_drewN ?_ _) | (with_reducible refine Kd.C_drew ?_) | exact HR619_0.out)) 0 p620 q620
    cases e620
    have qi620 : (0 < (rd_L3 t616 x15_1).length) = True := eq_true (by omega)
    (try rw [show ((0 : Int)).toNat = 0 from rfl] at hx620_0)
    (try rw [Addr.add_zero'] at hx620_0)
    replace p620 := eq_true p620
    replace q620 := eq_true q620
    have p621 : 0 ≤ ((rd (rd_L3 t616 x15_1) 0) : Int) := OD
    have q621 : (rd (rd_L3 t616 x15_1) 0) < (l0_2.length : Int) := OD
    obtain ⟨ad621, e621, hx621_0, hx621_1⟩ := at_T73 HR0_2.out (rd (rd_L3 t616 x15_1) 0) p621 q621
    cases e621
    replace hx621_0 := (HB.out.cell (World.block_lt_of_cell? w _ hx621_0)).trans hx621_0
    replace hx621_1 := (HB.out.cell (World.block_lt_of_cell? w _ hx621_1)).trans hx621_1
    replace p621 := eq_true p621
    replace q621 := eq_true q621
    have hnb40 := NB609_615.out
    have hnc40 := NB615_609.out
    obtain ⟨hcz41_0, hcz41_1, hcz41_2, hfz41_0, hfz41_1, hfz41_2⟩ := cz3 BK609.out
    have p622 : 0 ≤ (0 : Int) := (by omega)
    have q622 : 0 < ((rd_L3 t616 x15_1).length : Int) := OD
    obtain ⟨ad622, e622, hx622_0⟩ := Kd.at_int (by repeat (first | (with_reducible exact HR619_0.out) | (with_reducible refine Kd.C_alloc ?_ _) | (with_reducible refine Kd.C_drewN ?_ _) | (with_reducible refine Kd.C_drew ?_) | exact HR619_0.out)) 0 p622 q622
    obtain rfl : ad620 = ad622 := (by injection e622)
    have qi622 : (0 < (rd_L3 t616 x15_1).length) = True := eq_true (by omega)
    (try rw [show ((0 : Int)).toNat = 0 from rfl] at hx622_0)
    (try rw [Addr.add_zero'] at hx622_0)
    replace p622 := eq_true p622
    replace q622 := eq_true q622
    have p623 : 0 ≤ ((rd (rd_L3 t616 x15_1) 0) : Int) := OD
    have q623 : (rd (rd_L3 t616 x15_1) 0) < (l1_2.length : Int) := OD
    obtain ⟨ad623, e623, hx623_0, hx623_1⟩ := at_T73 HR1_2.out (rd (rd_L3 t616 x15_1) 0) p623 q623
    cases e623
    replace hx623_0 := (HB.out.cell (World.block_lt_of_cell? w _ hx623_0)).trans hx623_0
    replace hx623_1 := (HB.out.cell (World.block_lt_of_cell? w _ hx623_1)).trans hx623_1
    replace p623 := eq_true p623
    replace q623 := eq_true q623
    go_wp2
    repeat (go_quiet (fail); try go_wp2)
    go_roundg k1
    case measure => have := HK1.out; omega
    case rel => exact ⟨(x7_1), (wrap64 (x15_1 + 1)), (x616002_1), (u616002), RG, H', ⟨by have := HK1.out; omega⟩, ⟨PR HO_7.out⟩, ⟨PS HO_13.out⟩, ⟨PR HO_616002.out⟩, ⟨PB BK608.out⟩, ⟨PB BK609.out⟩, ⟨PB BK615.out⟩, ⟨BL HB.out⟩⟩
  replace H := bindA H; obtain ⟨t628, A42, H⟩ := H
  simp only [Option.some.injEq, Prod.mk.injEq] at H
  obtain ⟨rfl, rfl⟩ := H
  have hnb43 := NB615_608.out
  have hnc43 := NB608_615.out
  have hnb44 := NB615_609.out
  have hnc44 := NB609_615.out
  obtain ⟨hcz45_0, hcz45_1, hcz45_2, hfz45_0, hfz45_1, hfz45_2⟩ := cz3 BK615.out
  have hnb46 := NB609_608.out
  have hnc46 := NB608_609.out
  obtain ⟨hcz47_0, hcz47_1, hcz47_2, hfz47_0, hfz47_1, hfz47_2⟩ := cz3 BK609.out
  obtain ⟨Ao48, co48, eo48⟩ := Kd.R_slice HO_616002.out
  subst eo48
  go_wp2_with (first | (go_at_call 81; (with_reducible refine (spec_boDifferent.calls k1 t610 t611 _ _ x616002_1 a1_0 a1_1 _ _ l1_2 t628 _ ?side1 ?side2 ?side3 ?side4 A42.out).mono ?_); (case side1 => repeat (first | exact (Kd.R_reads' HO_616002.out).2.2 | (with_reducible refine Kd.C_alloc ?_ _) | (with_reducible refine Kd.C_drewN ?_ _) | (with_reducible refine Kd.C_drew ?_))); (case side2 => exact (Kd.R_reads' HO_616002.out).2.1); (case side3 => exact CB (Kd.C_below HR1_2.out HB.out)); (case side4 => exact HC1_2.out); rintro e w49 ⟨v629, rfl, ho0, hb⟩; refine E8 (Kd.R_elder' (PR HO_7.out) (Kd.R_base ho0) hb) (Kd.S_elder' (PS HO_13.out) (Kd.R_base ho0) hb) (Kd.R_below (PR HO_616002.out) hb) (Kd.R_lower (Kd.R_new' ho0 (Kd.R_lt (PR HO_7.out))) (below_size (BL HB.out))) (bB BK608.out hb) (bB BK609.out hb) (bB BK615.out hb) (below_step (BL HB.out) hb) ?_; clear HO_7 HO_13 HO_616002 BK608 BK609 BK615 HB; intro HO_7 HO_13 HO_616002 HO630 BK608 BK609 BK615 HB; (try clear hb); (try clear hb2); (try clear hk); (try clear hi); (try clear ho0); obtain ⟨Ao50, co50, eo50⟩ := Kd.R_slice HO630.out; subst eo50))
  repeat (go_quiet (first | (go_at_call 81; (with_reducible refine (spec_boDifferent.calls k1 t610 t611 _ _ x616002_1 a1_0 a1_1 _ _ l1_2 t628 _ ?side1 ?side2 ?side3 ?side4 A42.out).mono ?_); (case side1 => repeat (first | exact (Kd.R_reads' HO_616002.out).2.2 | (with_reducible refine Kd.C_alloc ?_ _) | (with_reducible refine Kd.C_drewN ?_ _) | (with_reducible refine Kd.C_drew ?_))); (case side2 => exact (Kd.R_reads' HO_616002.out).2.1); (case side3 => exact CB (Kd.C_below HR1_2.out HB.out)); (case side4 => exact HC1_2.out); rintro e w49 ⟨v629, rfl, ho0, hb⟩; refine E8 (Kd.R_elder' (PR HO_7.out) (Kd.R_base ho0) hb) (Kd.S_elder' (PS HO_13.out) (Kd.R_base ho0) hb) (Kd.R_below (PR HO_616002.out) hb) (Kd.R_lower (Kd.R_new' ho0 (Kd.R_lt (PR HO_7.out))) (below_size (BL HB.out))) (bB BK608.out hb) (bB BK609.out hb) (bB BK615.out hb) (below_step (BL HB.out) hb) ?_; clear HO_7 HO_13 HO_616002 BK608 BK609 BK615 HB; intro HO_7 HO_13 HO_616002 HO630 BK608 BK609 BK615 HB; (try clear hb); (try clear hb2); (try clear hk); (try clear hi); (try clear ho0); obtain ⟨Ao50, co50, eo50⟩ := Kd.R_slice HO630.out; subst eo50)); try go_wp2_with (first | (go_at_call 81; (with_reducible refine (spec_boDifferent.calls k1 t610 t611 _ _ x616002_1 a1_0 a1_1 _ _ l1_2 t628 _ ?side1 ?side2 ?side3 ?side4 A42.out).mono ?_); (case side1 => repeat (first | exact (Kd.R_reads' HO_616002.out).2.2 | (with_reducible refine Kd.C_alloc ?_ _) | (with_reducible refine Kd.C_drewN ?_ _) | (with_reducible refine Kd.C_drew ?_))); (case side2 => exact (Kd.R_reads' HO_616002.out).2.1); (case side3 => exact CB (Kd.C_below HR1_2.out HB.out)); (case side4 => exact HC1_2.out); rintro e w49 ⟨v629, rfl, ho0, hb⟩; refine E8 (Kd.R_elder' (PR HO_7.out) (Kd.R_base ho0) hb) (Kd.S_elder' (PS HO_13.out) (Kd.R_base ho0) hb) (Kd.R_below (PR HO_616002.out) hb) (Kd.R_lower (Kd.R_new' ho0 (Kd.R_lt (PR HO_7.out))) (below_size (BL HB.out))) (bB BK608.out hb) (bB BK609.out hb) (bB BK615.out hb) (below_step (BL HB.out) hb) ?_; clear HO_7 HO_13 HO_616002 BK608 BK609 BK615 HB; intro HO_7 HO_13 HO_616002 HO630 BK608 BK609 BK615 HB; (try clear hb); (try clear hb2); (try clear hk); (try clear hi); (try clear ho0); obtain ⟨Ao50, co50, eo50⟩ := Kd.R_slice HO630.out; subst eo50)))
  go_ret2
  exact ⟨_, RF, by (with_reducible repeat (first | apply Kd.R_alloc | apply Kd.R_drewN | apply Kd.R_drew)); exact Kd.R_mono HO_7.out (fun _ hk => trivial), BL HB.out⟩
/-! ### impl_sameBoard: function 82 -/
mutual
def impl_sameBoard.j0 : Nat → Bool → Int → Int → List (S73) → Int → Int → List (S73) → Option (Bool)
  | 0, _, _, _, _, _, _, _ => none
  | k + 1, x26, x639000, x639001, x639002, x640000, x640001, x640002 => if x26 = true then (some false) else (impl_sameBoard.l0 k (x639002.length : Int) 0 x639000 x639001 x639002 x640000 x640001 x640002)
def impl_sameBoard.l0 : Nat → Int → Int → Int → Int → List (S73) → Int → Int → List (S73) → Option (Bool)
  | 0, _, _, _, _, _, _, _, _ => none
  | k + 1, x29, x30, x639000, x639001, x639002, x640000, x640001, x640002 => if x30 < x29 then (if 0 ≤ x30 then (if x30 < (x639002.length : Int) then (if x30 < (x640002.length : Int) then (if (!(((rd_T73 x639002 x30).f0) == ((rd_T73 x640002 x30).f0)) || (!(((rd_T73 x639002 x30).f1) == ((rd_T73 x640002 x30).f1)))) = true then (some false) else (impl_sameBoard.l0 k x29 (wrap64 (x30 + 1)) x639000 x639001 x639002 x640000 x640001 x640002)) else (none)) else (none)) else (none)) else (some true)
end
def impl_sameBoard.f (k : Nat) (a0_0 : Int) (a0_1 : Int) (l0_2 : List (S73)) (a1_0 : Int) (a1_1 : Int) (l1_2 : List (S73)) : Option (Bool) := if a0_0 = a1_0 then (if a0_1 = a1_1 then (impl_sameBoard.j0 k ((l0_2.length : Int) != (l1_2.length : Int)) a0_0 a0_1 l0_2 a1_0 a1_1 l1_2) else (impl_sameBoard.j0 k true a0_0 a0_1 l0_2 a1_0 a1_1 l1_2)) else (impl_sameBoard.j0 k true a0_0 a0_1 l0_2 a1_0 a1_1 l1_2)
theorem impl_sameBoard.mono_l : ∀ k, (∀ y0 y1 y2 y3 y4 y5 y6, LeO (impl_sameBoard.j0 k y0 y1 y2 y3 y4 y5 y6) (impl_sameBoard.j0 (k + 1) y0 y1 y2 y3 y4 y5 y6)) ∧ (∀ y0 y1 y2 y3 y4 y5 y6 y7, LeO (impl_sameBoard.l0 k y0 y1 y2 y3 y4 y5 y6 y7) (impl_sameBoard.l0 (k + 1) y0 y1 y2 y3 y4 y5 y6 y7))
  | 0 => by refine ⟨?_, ?_⟩ <;> (intros; intro r h; first | (simp [impl_sameBoard.j0] at h; done) | (simp [impl_sameBoard.l0] at h; done))
  | k + 1 => by
    obtain ⟨ih0, ih1⟩ := impl_sameBoard.mono_l k
    refine ⟨?_, ?_⟩ <;> (
      intros
      first | unfold impl_sameBoard.j0 | unfold impl_sameBoard.l0
      repeat' first | (with_reducible first | apply ih0 | apply ih1 | exact LeO.refl _ | exact LeO.none _ | refine LeO.ite ?_ ?_ | refine LeO.bind ?_ (fun _ => ?_)) | apply ih0 | apply ih1 | exact LeO.none _ | refine LeO.ite ?_ ?_ | refine LeO.bind ?_ (fun _ => ?_))
theorem impl_sameBoard.mono : ∀ a0 a1 a2 a3 a4 a5 k, LeO (impl_sameBoard.f k a0 a1 a2 a3 a4 a5) (impl_sameBoard.f (k + 1) a0 a1 a2 a3 a4 a5) := by
  intro a0 a1 a2 a3 a4 a5 k
  obtain ⟨ih0, ih1⟩ := impl_sameBoard.mono_l k
  unfold impl_sameBoard.f
  repeat' first | (with_reducible first | apply ih0 | apply ih1 | exact LeO.refl _ | exact LeO.none _ | refine LeO.ite ?_ ?_ | refine LeO.bind ?_ (fun _ => ?_)) | apply ih0 | apply ih1 | exact LeO.none _ | refine LeO.ite ?_ ?_ | refine LeO.bind ?_ (fun _ => ?_)
set_option maxHeartbeats 8000000 in
set_option maxRecDepth 100000 in
theorem impl_sameBoard.calls (k : Nat) (a0_0 : Int) (a0_1 : Int) (A0_2 : Option Addr) (c0_2 : Nat) (l0_2 : List (S73)) (a1_0 : Int) (a1_1 : Int) (A1_2 : Option Addr) (c1_2 : Nat) (l1_2 : List (S73)) (r : Bool) (w : World) (hr0_2 : Kd.C k73 w A0_2 l0_2.length l0_2) (hc0_2 : l0_2.length ≤ c0_2) (hr1_2 : Kd.C k73 w A1_2 l1_2.length l1_2) (hc1_2 : l1_2.length ≤ c1_2) (h : impl_sameBoard.f k a0_0 a0_1 l0_2 a1_0 a1_1 l1_2 = some r) :
    Calls Try.prog 82 #[.agg #[.int .i64 a0_0, .int .i64 a0_1, .slice A0_2 l0_2.length c0_2], .agg #[.int .i64 a1_0, .int .i64 a1_1, .slice A1_2 l1_2.length c1_2]] w fun e w' => e = .returned (.bool r) ∧ Below w.heap.size w w' := by
  have hu30 := Try.underlying30
  have hu73 := Try.underlying73
  have HR0_2 := Aside0.mk hr0_2
  have HC0_2 := Aside0.mk hc0_2
  clear hr0_2 hc0_2
  have HR1_2 := Aside0.mk hr1_2
  have HC1_2 := Aside0.mk hc1_2
  clear hr1_2 hc1_2
  have HB := Aside0.mk (Below.refl w.heap.size w)
  have H := h
  clear h
  unfold impl_sameBoard.f at H
  have HC3 := Aside0.mk H
  clear H
  go_enter Try.func82, Try.ntmps82
  go_upto_region 1 with (first | ((with_reducible refine gate_dst (N := 2) rfl ?_); (try (refine gate_guard (by rfl) ?_; dsimp only)); refine boxE (N := 2) (cs := #[.int .i64 a0_0, .int .i64 a0_1, .slice A0_2 l0_2.length c0_2]) (t := 30) ?_; intro gb638 hg w4 hbox hb; refine E4b HB.out hg hbox hb ?_; clear HB; intro HB BK638 GW638 GE638; clear hb hbox hg) | ((with_reducible refine gate_dst (N := 3) rfl ?_); (try (refine gate_guard (by rfl) ?_; dsimp only)); refine boxE (N := 3) (cs := #[.int .i64 a1_0, .int .i64 a1_1, .slice A1_2 l1_2.length c1_2]) (t := 30) ?_; intro gb639 hg w5 hbox hb; refine E7 (bB BK638.out hb) (below_step (BL HB.out) hb) (hbox) (gwM hg (below_size (BL HB.out)) : w.heap.size ≤ gb639) (gwM hg (below_size (BL HB.out)) : w.heap.size ≤ gb639) ((nB BK638.out hg : gb638 ≠ gb639)) ((nC BK638.out hg : gb639 ≠ gb638)) ?_; clear BK638 HB; intro BK638 HB BK639 GW639 GE639 NB638_639 NB639_638; clear hb hbox hg))
  repeat (go_quiet (first | ((with_reducible refine gate_dst (N := 2) rfl ?_); (try (refine gate_guard (by rfl) ?_; dsimp only)); refine boxE (N := 2) (cs := #[.int .i64 a0_0, .int .i64 a0_1, .slice A0_2 l0_2.length c0_2]) (t := 30) ?_; intro gb638 hg w4 hbox hb; refine E4b HB.out hg hbox hb ?_; clear HB; intro HB BK638 GW638 GE638; clear hb hbox hg) | ((with_reducible refine gate_dst (N := 3) rfl ?_); (try (refine gate_guard (by rfl) ?_; dsimp only)); refine boxE (N := 3) (cs := #[.int .i64 a1_0, .int .i64 a1_1, .slice A1_2 l1_2.length c1_2]) (t := 30) ?_; intro gb639 hg w5 hbox hb; refine E7 (bB BK638.out hb) (below_step (BL HB.out) hb) (hbox) (gwM hg (below_size (BL HB.out)) : w.heap.size ≤ gb639) (gwM hg (below_size (BL HB.out)) : w.heap.size ≤ gb639) ((nB BK638.out hg : gb638 ≠ gb639)) ((nC BK638.out hg : gb639 ≠ gb638)) ?_; clear BK638 HB; intro BK638 HB BK639 GW639 GE639 NB638_639 NB639_638; clear hb hbox hg)); go_upto_region 1 with (first | ((with_reducible refine gate_dst (N := 2) rfl ?_); (try (refine gate_guard (by rfl) ?_; dsimp only)); refine boxE (N := 2) (cs := #[.int .i64 a0_0, .int .i64 a0_1, .slice A0_2 l0_2.length c0_2]) (t := 30) ?_; intro gb638 hg w4 hbox hb; refine E4b HB.out hg hbox hb ?_; clear HB; intro HB BK638 GW638 GE638; clear hb hbox hg) | ((with_reducible refine gate_dst (N := 3) rfl ?_); (try (refine gate_guard (by rfl) ?_; dsimp only)); refine boxE (N := 3) (cs := #[.int .i64 a1_0, .int .i64 a1_1, .slice A1_2 l1_2.length c1_2]) (t := 30) ?_; intro gb639 hg w5 hbox hb; refine E7 (bB BK638.out hb) (below_step (BL HB.out) hb) (hbox) (gwM hg (below_size (BL HB.out)) : w.heap.size ≤ gb639) (gwM hg (below_size (BL HB.out)) : w.heap.size ≤ gb639) ((nB BK638.out hg : gb638 ≠ gb639)) ((nC BK638.out hg : gb639 ≠ gb638)) ?_; clear BK638 HB; intro BK638 HB BK639 GW639 GE639 NB638_639 NB639_638; clear hb hbox hg)))
  (try simp only [Act.put, List.setIfInBounds_toArray, List.set_cons_zero, List.set_cons_succ])
  go_cut [26] (fun v26 wc => ∃ (kq : Nat) (x26_2 : Bool), v26 = .bool x26_2 ∧ Aside0 (impl_sameBoard.j0 kq x26_2 a0_0 a0_1 l0_2 a1_0 a1_1 l1_2 = some r) ∧ Aside0 (kq ≤ k) ∧ Aside0 (wc.heap[gb638]? = some (.cells #[.int .i64 a0_0, .int .i64 a0_1, (.slice A0_2 l0_2.length c0_2)] 30 (0, 0))) ∧ Aside0 (wc.heap[gb639]? = some (.cells #[.int .i64 a1_0, .int .i64 a1_1, (.slice A1_2 l1_2.length c1_2)] 30 (0, 0))) ∧ Aside0 (Below w.heap.size w wc))
  case first =>
    have H := HC3.out
    clear HC3
    replace H := ifQ H; rcases H with ⟨c6, H⟩ | ⟨c6, H⟩
    · have c6b0 := beq_iff_eq.mpr c6
      have c6b1 := bne_eq_false_iff_eq.mpr c6
      clear c6
      (first | rw [c6b0] | (simp only [i64_w, i32_w]; rw [c6b0]) | skip)
      replace H := ifQ H; rcases H with ⟨c7, H⟩ | ⟨c7, H⟩
      · have c7b0 := beq_iff_eq.mpr c7
        have c7b1 := bne_eq_false_iff_eq.mpr c7
        clear c7
        have H' := Aside0.mk H
        clear H
        have hnb8 := NB638_639.out
        have hnc8 := NB639_638.out
        obtain ⟨hcz9_0, hcz9_1, hcz9_2, hfz9_0, hfz9_1, hfz9_2⟩ := cz3 BK638.out
        obtain ⟨hcz10_0, hcz10_1, hcz10_2, hfz10_0, hfz10_1, hfz10_2⟩ := cz3 BK639.out
        go_wp2
        repeat (go_quiet (fail); try go_wp2)
        go_meet
        case rel => exact ⟨_, (((l0_2.length : Int) != (l1_2.length : Int))), RG, H', ⟨by first | omega | exact Nat.le_refl _⟩, ⟨PB BK638.out⟩, ⟨PB BK639.out⟩, ⟨BL HB.out⟩⟩
      have c7b0 := beq_eq_false_iff_ne.mpr c7
      have c7b1 := bne_iff_ne.mpr c7
      have H' := Aside0.mk H
      clear H
      have hnb11 := NB638_639.out
      have hnc11 := NB639_638.out
      obtain ⟨hcz12_0, hcz12_1, hcz12_2, hfz12_0, hfz12_1, hfz12_2⟩ := cz3 BK638.out
      obtain ⟨hcz13_0, hcz13_1, hcz13_2, hfz13_0, hfz13_1, hfz13_2⟩ := cz3 BK639.out
      go_wp2
      repeat (go_quiet (fail); try go_wp2)
      go_meet
      case rel => exact ⟨_, (true), RG, H', ⟨by first | omega | exact Nat.le_refl _⟩, ⟨PB BK638.out⟩, ⟨PB BK639.out⟩, ⟨BL HB.out⟩⟩
    have c6b0 := beq_eq_false_iff_ne.mpr c6
    have c6b1 := bne_iff_ne.mpr c6
    (first | rw [c6b0] | (simp only [i64_w, i32_w]; rw [c6b0]) | skip)
    have H' := Aside0.mk H
    clear H
    have hnb14 := NB638_639.out
    have hnc14 := NB639_638.out
    obtain ⟨hcz15_0, hcz15_1, hcz15_2, hfz15_0, hfz15_1, hfz15_2⟩ := cz3 BK638.out
    obtain ⟨hcz16_0, hcz16_1, hcz16_2, hfz16_0, hfz16_1, hfz16_2⟩ := cz3 BK639.out
    go_wp2
    repeat (go_quiet (fail); try go_wp2)
    go_meet
    case rel => exact ⟨_, (true), RG, H', ⟨by first | omega | exact Nat.le_refl _⟩, ⟨PB BK638.out⟩, ⟨PB BK639.out⟩, ⟨BL HB.out⟩⟩
  clear HC3
  obtain ⟨kq, x26_2, rfl, HA, HJ2, BK638, BK639, HB⟩ := hcut
  cases kq with
  | zero => exact absurd HA.out (by simp [impl_sameBoard.j0])
  | succ kj2 => ?_
  have H := HA.out
  clear HA
  simp only [impl_sameBoard.j0] at H
  replace H := ifX H; rcases H with ⟨rfl, H⟩ | ⟨rfl, H⟩
  · obtain rfl := Option.some.inj H
    go_wp2
    repeat (go_quiet (fail); try go_wp2)
    go_ret
    exact ⟨RF, BL HB.out⟩
  have H' := Aside0.mk H
  clear H
  have hnb18 := NB638_639.out
  have hnc18 := NB639_638.out
  obtain ⟨hcz19_0, hcz19_1, hcz19_2, hfz19_0, hfz19_1, hfz19_2⟩ := cz3 BK638.out
  go_wp2
  repeat (go_quiet (fail); try go_wp2)
  go_loopg [30] kj2 (fun kq v30 w' => ∃ (x30_2 : Int), v30 = .int .i64 x30_2 ∧ Aside0 (impl_sameBoard.l0 kq (l0_2.length : Int) x30_2 a0_0 a0_1 l0_2 a1_0 a1_1 l1_2 = some r) ∧ Aside0 (kq ≤ kj2) ∧ Aside0 (w'.heap[gb638]? = some (.cells #[.int .i64 a0_0, .int .i64 a0_1, (.slice A0_2 l0_2.length c0_2)] 30 (0, 0))) ∧ Aside0 (w'.heap[gb639]? = some (.cells #[.int .i64 a1_0, .int .i64 a1_1, (.slice A1_2 l1_2.length c1_2)] 30 (0, 0))) ∧ Aside0 (Below w.heap.size w w'))
  case atStart => exact ⟨(0), RG, H', ⟨Nat.le_refl _⟩, ⟨PB BK638.out⟩, ⟨PB BK639.out⟩, ⟨BL HB.out⟩⟩
  clear H'
  try clear hcz19_0; try clear hcz19_1; try clear hcz19_2; try clear hfz19_0; try clear hfz19_1; try clear hfz19_2
  obtain ⟨x30_2, rfl, HA, HK2, BK638, BK639, HB⟩ := hrel
  cases gk with
  | zero => exact absurd HA.out (by simp [impl_sameBoard.l0])
  | succ k2 => ?_
  have H := HA.out
  clear HA
  simp only [impl_sameBoard.l0] at H
  replace H := ifB H; rcases H with ⟨c20b0, H⟩ | ⟨c20b0, H⟩
  · replace H := ifN H; obtain ⟨c21b0, H⟩ := H
    replace H := ifN H; obtain ⟨c22b0, H⟩ := H
    replace H := ifN H; obtain ⟨c23b0, H⟩ := H
    replace H := ifQ H; rcases H with ⟨c24, H⟩ | ⟨c24, H⟩
    · have c24b0 : (!(((rd_T73 l0_2 x30_2).f0) == ((rd_T73 l1_2 x30_2).f0)) || (!(((rd_T73 l0_2 x30_2).f1) == ((rd_T73 l1_2 x30_2).f1)))) = true := c24
      clear c24
      obtain rfl := Option.some.inj H
      have hnb25 := NB638_639.out
      have hnc25 := NB639_638.out
      obtain ⟨hcz26_0, hcz26_1, hcz26_2, hfz26_0, hfz26_1, hfz26_2⟩ := cz3 BK638.out
      have p640 : 0 ≤ (x30_2 : Int) := OD
      have q640 : x30_2 < (l0_2.length : Int) := OD
      obtain ⟨ad640, e640, hx640_0, hx640_1⟩ := at_T73 HR0_2.out x30_2 p640 q640
      cases e640
      replace hx640_0 := (HB.out.cell (World.block_lt_of_cell? w _ hx640_0)).trans hx640_0
      replace hx640_1 := (HB.out.cell (World.block_lt_of_cell? w _ hx640_1)).trans hx640_1
      replace p640 := eq_true p640
      replace q640 := eq_true q640
      obtain ⟨hcz27_0, hcz27_1, hcz27_2, hfz27_0, hfz27_1, hfz27_2⟩ := cz3 BK639.out
      have p641 : 0 ≤ (x30_2 : Int) := OD
      have q641 : x30_2 < (l1_2.length : Int) := OD
      obtain ⟨ad641, e641, hx641_0, hx641_1⟩ := at_T73 HR1_2.out x30_2 p641 q641
      cases e641
      replace hx641_0 := (HB.out.cell (World.block_lt_of_cell? w _ hx641_0)).trans hx641_0
      replace hx641_1 := (HB.out.cell (World.block_lt_of_cell? w _ hx641_1)).trans hx641_1
      replace p641 := eq_true p641
      replace q641 := eq_true q641
      go_wp2
      repeat (go_quiet (fail); try go_wp2)
      go_ret
      exact ⟨RF, BL HB.out⟩
    have c24b0 : (!(((rd_T73 l0_2 x30_2).f0) == ((rd_T73 l1_2 x30_2).f0)) || (!(((rd_T73 l0_2 x30_2).f1) == ((rd_T73 l1_2 x30_2).f1)))) = false := by simpa using c24
    clear c24
    have H' := Aside0.mk H
    clear H
    have hnb28 := NB638_639.out
    have hnc28 := NB639_638.out
    obtain ⟨hcz29_0, hcz29_1, hcz29_2, hfz29_0, hfz29_1, hfz29_2⟩ := cz3 BK638.out
    have p640 : 0 ≤ (x30_2 : Int) := OD
    have q640 : x30_2 < (l0_2.length : Int) := OD
    obtain ⟨ad640, e640, hx640_0, hx640_1⟩ := at_T73 HR0_2.out x30_2 p640 q640
    cases e640
    replace hx640_0 := (HB.out.cell (World.block_lt_of_cell? w _ hx640_0)).trans hx640_0
    replace hx640_1 := (HB.out.cell (World.block_lt_of_cell? w _ hx640_1)).trans hx640_1
    replace p640 := eq_true p640
    replace q640 := eq_true q640
    obtain ⟨hcz30_0, hcz30_1, hcz30_2, hfz30_0, hfz30_1, hfz30_2⟩ := cz3 BK639.out
    have p641 : 0 ≤ (x30_2 : Int) := OD
    have q641 : x30_2 < (l1_2.length : Int) := OD
    obtain ⟨ad641, e641, hx641_0, hx641_1⟩ := at_T73 HR1_2.out x30_2 p641 q641
    cases e641
    replace hx641_0 := (HB.out.cell (World.block_lt_of_cell? w _ hx641_0)).trans hx641_0
    replace hx641_1 := (HB.out.cell (World.block_lt_of_cell? w _ hx641_1)).trans hx641_1
    replace p641 := eq_true p641
    replace q641 := eq_true q641
    go_wp2
    repeat (go_quiet (fail); try go_wp2)
    go_roundg k2
    case measure => have := HJ2.out; have := HK2.out; omega
    case rel => exact ⟨(wrap64 (x30_2 + 1)), RG, H', ⟨by have := HJ2.out; have := HK2.out; omega⟩, ⟨PB BK638.out⟩, ⟨PB BK639.out⟩, ⟨BL HB.out⟩⟩
  obtain rfl := Option.some.inj H
  go_wp2
  repeat (go_quiet (fail); try go_wp2)
  go_ret
  exact ⟨RF, BL HB.out⟩
end Go.Proofs.Ytakihdabbpconaa.P
