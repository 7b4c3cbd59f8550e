-- PRINTED by print.py (a twelfth state) out of the translation. Not trusted: Lean checks it.
import Derived.Test.YtakihdabbpconaaPx0
import Derived.Test.YtakihdabbpconaaPx2
import Derived.Test.YtakihdabbpconaaPx3
import Derived.Test.YtakihdabbpconaaPx5
import Derived.Test.YtakihdabbpconaaPx14
import Derived.Test.YtakihdabbpconaaPx15
namespace Go.Proofs.Ytakihdabbpconaa.P
open Go.RowKit Go.Proofs.YtakihdabbpconaaW.PrintWords Go.Proofs.YtakihdabbpconaaW.PrintLast Go.Proofs.YtakihdabbpconaaW.PrintMore
attribute [local go_sem] max2_int min2_int max_two min_two max_three min_three max_four min_four   -- for this text's walks alone
set_option linter.unusedVariables false
set_option linter.unusedSimpArgs false

/-! ### spec_AreStates: function 29 -/
def spec_AreStates.f (k : Nat) (a0_0 : Int) (a0_1 : Int) (l0_2 : List (S73)) (a1_0 : Int) (a1_1 : Int) (l1_2 : List (S73)) : Option (Bool × Bool) := (spec_boSize.f k a0_0 a0_1 l0_2 a1_0 a1_1 l1_2).bind fun t633 => (if t633 = true then ((spec_saTurned.f k a0_0 a0_1 l0_2 a1_0 a1_1 l1_2).bind fun bt634 => (some (bt634.2, true))) else (some (false, false)))
theorem spec_AreStates.mono : ∀ a0 a1 a2 a3 a4 a5 k, LeO (spec_AreStates.f k a0 a1 a2 a3 a4 a5) (spec_AreStates.f (k + 1) a0 a1 a2 a3 a4 a5) := by
  intro a0 a1 a2 a3 a4 a5 k
  unfold spec_AreStates.f
  repeat' first
      | (with_reducible exact spec_boSize.mono _ _ _ _ _ _ _)
      | (with_reducible exact spec_saTurned.mono _ _ _ _ _ _ _)
      | (with_reducible exact LeO.refl _)
      | (with_reducible exact LeO.none _)
      | (with_reducible refine LeO.ite ?_ ?_)
      | (with_reducible refine LeO.bind ?_ (fun _ => ?_))
      | exact spec_boSize.mono _ _ _ _ _ _ _
      | exact spec_saTurned.mono _ _ _ _ _ _ _
      | exact LeO.none _
      | refine LeO.ite ?_ ?_
      | refine LeO.bind ?_ (fun _ => ?_)
set_option maxHeartbeats 8000000 in
set_option maxRecDepth 100000 in
theorem spec_AreStates.calls (k : Nat) (a0_0 : Int) (a0_1 : Int) (A0_2 : Option Addr) (c0_2 : Nat) (l0_2 : List (S73)) (a1_0 : Int) (a1_1 : Int) (A1_2 : Option Addr) (c1_2 : Nat) (l1_2 : List (S73)) (r1 : Bool) (r2 : Bool) (w : World) (hr0_2 : Kd.C k73 w A0_2 l0_2.length l0_2) (hc0_2 : l0_2.length ≤ c0_2) (hr1_2 : Kd.C k73 w A1_2 l1_2.length l1_2) (hc1_2 : l1_2.length ≤ c1_2) (h : spec_AreStates.f k a0_0 a0_1 l0_2 a1_0 a1_1 l1_2 = some (r1, r2)) :
    Calls Try.prog 29 #[.agg #[.int .i64 a0_0, .int .i64 a0_1, .slice A0_2 l0_2.length c0_2], .agg #[.int .i64 a1_0, .int .i64 a1_1, .slice A1_2 l1_2.length c1_2]] w fun e w' => e = .returned (.tuple #[.bool r1, .bool r2]) ∧ Below w.heap.size w w' := by
  have hu30 := Try.underlying30
  have HR0_2 := Aside0.mk hr0_2
  have HC0_2 := Aside0.mk hc0_2
  clear hr0_2 hc0_2
  have HR1_2 := Aside0.mk hr1_2
  have HC1_2 := Aside0.mk hc1_2
  clear hr1_2 hc1_2
  have HB := Aside0.mk (Below.refl w.heap.size w)
  have H := h
  clear h
  unfold spec_AreStates.f at H
  replace H := bindA H; obtain ⟨t633, A3, H⟩ := H
  replace H := ifX H; rcases H with ⟨rfl, H⟩ | ⟨rfl, H⟩
  · replace H := bindA H; obtain ⟨⟨t634, t637⟩, A5, H⟩ := H
    dsimp only at H
    simp only [Option.some.injEq, Prod.mk.injEq] at H
    obtain ⟨rfl, rfl⟩ := H
    go_enter Try.func29, Try.ntmps29
    go_wp2_with (first | ((with_reducible refine gate_dst (N := 2) rfl ?_); refine boxE (N := 2) (cs := #[.int .i64 a0_0, .int .i64 a0_1, .slice A0_2 l0_2.length c0_2]) (t := 30) ?_; intro gb631 hg w6 hbox hb; refine E4b HB.out hg hbox hb ?_; clear HB; intro HB BK631 GW631 GE631; clear hb hbox hg) | ((with_reducible refine gate_dst (N := 3) rfl ?_); refine boxE (N := 3) (cs := #[.int .i64 a1_0, .int .i64 a1_1, .slice A1_2 l1_2.length c1_2]) (t := 30) ?_; intro gb632 hg w7 hbox hb; refine E7 (bB BK631.out hb) (below_step (BL HB.out) hb) (hbox) (gwM hg (below_size (BL HB.out)) : w.heap.size ≤ gb632) (gwM hg (below_size (BL HB.out)) : w.heap.size ≤ gb632) ((nB BK631.out hg : gb631 ≠ gb632)) ((nC BK631.out hg : gb632 ≠ gb631)) ?_; clear BK631 HB; intro BK631 HB BK632 GW632 GE632 NB631_632 NB632_631; clear hb hbox hg; have hnb8 := NB631_632.out; have hnc8 := NB632_631.out; obtain ⟨hcz9_0, hcz9_1, hcz9_2, hfz9_0, hfz9_1, hfz9_2⟩ := cz3 BK631.out; obtain ⟨hcz10_0, hcz10_1, hcz10_2, hfz10_0, hfz10_1, hfz10_2⟩ := cz3 BK632.out) | ((with_reducible refine gate_callee (f := 65) rfl ?_); refine goesM (N := (some 10)) #[.agg #[.int .i64 a0_0, .int .i64 a0_1, .slice A0_2 l0_2.length c0_2], .agg #[.int .i64 a1_0, .int .i64 a1_1, .slice A1_2 l1_2.length c1_2]] Try.func65 ?_; (with_reducible refine (spec_boSize.calls k a0_0 a0_1 _ _ l0_2 a1_0 a1_1 _ _ l1_2 true _ ?side1 ?side2 ?side3 ?side4 A3.out).mono ?_); (case side1 => exact CB (Kd.C_below HR0_2.out HB.out)); (case side2 => exact HC0_2.out); (case side3 => exact CB (Kd.C_below HR1_2.out HB.out)); (case side4 => exact HC1_2.out); rintro e w11 ⟨rfl, hb⟩; refine ⟨_, rfl, ?_⟩; refine E3 (bB BK631.out hb) (bB BK632.out hb) (below_step (BL HB.out) hb) ?_; clear BK631 BK632 HB; intro BK631 BK632 HB; (try clear hb); (try clear hb2); (try clear hk); (try clear hi); obtain ⟨hcz12_0, hcz12_1, hcz12_2, hfz12_0, hfz12_1, hfz12_2⟩ := cz3 BK631.out; obtain ⟨hcz13_0, hcz13_1, hcz13_2, hfz13_0, hfz13_1, hfz13_2⟩ := cz3 BK632.out) | ((with_reducible refine gate_callee (f := 66) rfl ?_); refine goesM (N := (some 15)) #[.agg #[.int .i64 a0_0, .int .i64 a0_1, .slice A0_2 l0_2.length c0_2], .agg #[.int .i64 a1_0, .int .i64 a1_1, .slice A1_2 l1_2.length c1_2]] Try.func66 ?_; (with_reducible refine (spec_saTurned.calls k a0_0 a0_1 _ _ l0_2 a1_0 a1_1 _ _ l1_2 t634 t637 _ ?side1 ?side2 ?side3 ?side4 A5.out).mono ?_); (case side1 => exact CB (Kd.C_below HR0_2.out HB.out)); (case side2 => exact HC0_2.out); (case side3 => exact CB (Kd.C_below HR1_2.out HB.out)); (case side4 => exact HC1_2.out); rintro e w14 ⟨v635, rfl, ho0, hb⟩; refine ⟨_, rfl, ?_⟩; refine E4 (Kd.R_lower ho0 (below_size (BL HB.out))) (bB BK631.out hb) (bB BK632.out hb) (below_step (BL HB.out) hb) ?_; clear BK631 BK632 HB; intro HO636 BK631 BK632 HB; (try clear hb); (try clear hb2); (try clear hk); (try clear hi); (try clear ho0)))
    go_ret2
    exact ⟨RF, BL HB.out⟩
  simp only [Option.some.injEq, Prod.mk.injEq] at H
  obtain ⟨rfl, rfl⟩ := H
  go_enter Try.func29, Try.ntmps29
  go_wp2_with (first | ((with_reducible refine gate_dst (N := 2) rfl ?_); refine boxE (N := 2) (cs := #[.int .i64 a0_0, .int .i64 a0_1, .slice A0_2 l0_2.length c0_2]) (t := 30) ?_; intro gb631 hg w15 hbox hb; refine E4b HB.out hg hbox hb ?_; clear HB; intro HB BK631 GW631 GE631; clear hb hbox hg) | ((with_reducible refine gate_dst (N := 3) rfl ?_); refine boxE (N := 3) (cs := #[.int .i64 a1_0, .int .i64 a1_1, .slice A1_2 l1_2.length c1_2]) (t := 30) ?_; intro gb632 hg w16 hbox hb; refine E7 (bB BK631.out hb) (below_step (BL HB.out) hb) (hbox) (gwM hg (below_size (BL HB.out)) : w.heap.size ≤ gb632) (gwM hg (below_size (BL HB.out)) : w.heap.size ≤ gb632) ((nB BK631.out hg : gb631 ≠ gb632)) ((nC BK631.out hg : gb632 ≠ gb631)) ?_; clear BK631 HB; intro BK631 HB BK632 GW632 GE632 NB631_632 NB632_631; clear hb hbox hg; have hnb17 := NB631_632.out; have hnc17 := NB632_631.out; obtain ⟨hcz18_0, hcz18_1, hcz18_2, hfz18_0, hfz18_1, hfz18_2⟩ := cz3 BK631.out; obtain ⟨hcz19_0, hcz19_1, hcz19_2, hfz19_0, hfz19_1, hfz19_2⟩ := cz3 BK632.out) | ((with_reducible refine gate_callee (f := 65) rfl ?_); refine goesM (N := (some 10)) #[.agg #[.int .i64 a0_0, .int .i64 a0_1, .slice A0_2 l0_2.length c0_2], .agg #[.int .i64 a1_0, .int .i64 a1_1, .slice A1_2 l1_2.length c1_2]] Try.func65 ?_; (with_reducible refine (spec_boSize.calls k a0_0 a0_1 _ _ l0_2 a1_0 a1_1 _ _ l1_2 false _ ?side1 ?side2 ?side3 ?side4 A3.out).mono ?_); (case side1 => exact CB (Kd.C_below HR0_2.out HB.out)); (case side2 => exact HC0_2.out); (case side3 => exact CB (Kd.C_below HR1_2.out HB.out)); (case side4 => exact HC1_2.out); rintro e w20 ⟨rfl, hb⟩; refine ⟨_, rfl, ?_⟩; refine E3 (bB BK631.out hb) (bB BK632.out hb) (below_step (BL HB.out) hb) ?_; clear BK631 BK632 HB; intro BK631 BK632 HB; (try clear hb); (try clear hb2); (try clear hk); (try clear hi)))
  go_ret2
  exact ⟨RF, BL HB.out⟩

/-! ### impl_AreStates: function 30 -/
def impl_AreStates.f (k : Nat) (a0_0 : Int) (a0_1 : Int) (l0_2 : List (S73)) (a1_0 : Int) (a1_1 : Int) (l1_2 : List (S73)) : Option (Bool × Bool) := (impl_IsBoard.f k a0_0 a0_1 l0_2).bind fun t670 => (if t670 = true then ((impl_IsBoard.f k a1_0 a1_1 l1_2).bind fun t671 => (if t671 = true then (if a0_0 = a1_0 then (if a0_1 = a1_1 then ((impl_turnedUnits.f k a0_0 a0_1 l0_2 a1_0 a1_1 l1_2).bind fun bt672 => (some (bt672.2, true))) else (some (false, false))) else (some (false, false))) else (some (false, false)))) else (some (false, false)))
theorem impl_AreStates.mono : ∀ a0 a1 a2 a3 a4 a5 k, LeO (impl_AreStates.f k a0 a1 a2 a3 a4 a5) (impl_AreStates.f (k + 1) a0 a1 a2 a3 a4 a5) := by
  intro a0 a1 a2 a3 a4 a5 k
  unfold impl_AreStates.f
  repeat' first
      | (with_reducible exact impl_IsBoard.mono _ _ _ _)
      | (with_reducible exact impl_turnedUnits.mono _ _ _ _ _ _ _)
      | (with_reducible exact LeO.refl _)
      | (with_reducible exact LeO.none _)
      | (with_reducible refine LeO.ite ?_ ?_)
      | (with_reducible refine LeO.bind ?_ (fun _ => ?_))
      | exact impl_IsBoard.mono _ _ _ _
      | exact impl_turnedUnits.mono _ _ _ _ _ _ _
      | exact LeO.none _
      | refine LeO.ite ?_ ?_
      | refine LeO.bind ?_ (fun _ => ?_)
set_option maxHeartbeats 8000000 in
set_option maxRecDepth 100000 in
theorem impl_AreStates.calls (k : Nat) (a0_0 : Int) (a0_1 : Int) (A0_2 : Option Addr) (c0_2 : Nat) (l0_2 : List (S73)) (a1_0 : Int) (a1_1 : Int) (A1_2 : Option Addr) (c1_2 : Nat) (l1_2 : List (S73)) (r1 : Bool) (r2 : Bool) (w : World) (hr0_2 : Kd.C k73 w A0_2 l0_2.length l0_2) (hc0_2 : l0_2.length ≤ c0_2) (hr1_2 : Kd.C k73 w A1_2 l1_2.length l1_2) (hc1_2 : l1_2.length ≤ c1_2) (h : impl_AreStates.f k a0_0 a0_1 l0_2 a1_0 a1_1 l1_2 = some (r1, r2)) :
    Calls Try.prog 30 #[.agg #[.int .i64 a0_0, .int .i64 a0_1, .slice A0_2 l0_2.length c0_2], .agg #[.int .i64 a1_0, .int .i64 a1_1, .slice A1_2 l1_2.length c1_2]] w fun e w' => e = .returned (.tuple #[.bool r1, .bool r2]) ∧ Below w.heap.size w w' := by
  have hu30 := Try.underlying30
  have HR0_2 := Aside0.mk hr0_2
  have HC0_2 := Aside0.mk hc0_2
  clear hr0_2 hc0_2
  have HR1_2 := Aside0.mk hr1_2
  have HC1_2 := Aside0.mk hc1_2
  clear hr1_2 hc1_2
  have HB := Aside0.mk (Below.refl w.heap.size w)
  have H := h
  clear h
  unfold impl_AreStates.f at H
  replace H := bindA H; obtain ⟨t670, A3, H⟩ := H
  replace H := ifX H; rcases H with ⟨rfl, H⟩ | ⟨rfl, H⟩
  · replace H := bindA H; obtain ⟨t671, A5, H⟩ := H
    replace H := ifX H; rcases H with ⟨rfl, H⟩ | ⟨rfl, H⟩
    · replace H := ifQ H; rcases H with ⟨c7, H⟩ | ⟨c7, H⟩
      · have c7b0 := beq_iff_eq.mpr c7
        have c7b1 := bne_eq_false_iff_eq.mpr c7
        clear c7
        replace H := ifQ H; rcases H with ⟨c8, H⟩ | ⟨c8, H⟩
        · have c8b0 := beq_iff_eq.mpr c8
          have c8b1 := bne_eq_false_iff_eq.mpr c8
          clear c8
          replace H := bindA H; obtain ⟨⟨t672, t675⟩, A9, H⟩ := H
          dsimp only at H
          simp only [Option.some.injEq, Prod.mk.injEq] at H
          obtain ⟨rfl, rfl⟩ := H
          go_enter Try.func30, Try.ntmps30
          go_wp2_with (first | ((with_reducible refine gate_dst (N := 2) rfl ?_); refine boxE (N := 2) (cs := #[.int .i64 a0_0, .int .i64 a0_1, .slice A0_2 l0_2.length c0_2]) (t := 30) ?_; intro gb668 hg w10 hbox hb; refine E4b HB.out hg hbox hb ?_; clear HB; intro HB BK668 GW668 GE668; clear hb hbox hg) | ((with_reducible refine gate_dst (N := 3) rfl ?_); refine boxE (N := 3) (cs := #[.int .i64 a1_0, .int .i64 a1_1, .slice A1_2 l1_2.length c1_2]) (t := 30) ?_; intro gb669 hg w11 hbox hb; refine E7 (bB BK668.out hb) (below_step (BL HB.out) hb) (hbox) (gwM hg (below_size (BL HB.out)) : w.heap.size ≤ gb669) (gwM hg (below_size (BL HB.out)) : w.heap.size ≤ gb669) ((nB BK668.out hg : gb668 ≠ gb669)) ((nC BK668.out hg : gb669 ≠ gb668)) ?_; clear BK668 HB; intro BK668 HB BK669 GW669 GE669 NB668_669 NB669_668; clear hb hbox hg; have hnb12 := NB668_669.out; have hnc12 := NB669_668.out; obtain ⟨hcz13_0, hcz13_1, hcz13_2, hfz13_0, hfz13_1, hfz13_2⟩ := cz3 BK668.out) | ((with_reducible refine gate_callee (f := 50) rfl ?_); refine goesM (N := (some 9)) #[.agg #[.int .i64 a0_0, .int .i64 a0_1, .slice A0_2 l0_2.length c0_2]] Try.func50 ?_; (with_reducible refine (impl_IsBoard.calls k a0_0 a0_1 _ _ l0_2 true _ ?side1 ?side2 A3.out).mono ?_); (case side1 => exact CB (Kd.C_below HR0_2.out HB.out)); (case side2 => exact HC0_2.out); rintro e w14 ⟨rfl, hb⟩; refine ⟨_, rfl, ?_⟩; refine E3 (bB BK668.out hb) (bB BK669.out hb) (below_step (BL HB.out) hb) ?_; clear BK668 BK669 HB; intro BK668 BK669 HB; (try clear hb); (try clear hb2); (try clear hk); (try clear hi); obtain ⟨hcz15_0, hcz15_1, hcz15_2, hfz15_0, hfz15_1, hfz15_2⟩ := cz3 BK669.out) | (go_at_call 50; (with_reducible refine (impl_IsBoard.calls k a1_0 a1_1 _ _ l1_2 true _ ?side1 ?side2 A5.out).mono ?_); (case side1 => exact CB (Kd.C_below HR1_2.out HB.out)); (case side2 => exact HC1_2.out); rintro e w16 ⟨rfl, hb⟩; refine E3 (bB BK668.out hb) (bB BK669.out hb) (below_step (BL HB.out) hb) ?_; clear BK668 BK669 HB; intro BK668 BK669 HB; (try clear hb); (try clear hb2); (try clear hk); (try clear hi); obtain ⟨hcz17_0, hcz17_1, hcz17_2, hfz17_0, hfz17_1, hfz17_2⟩ := cz3 BK668.out; obtain ⟨hcz18_0, hcz18_1, hcz18_2, hfz18_0, hfz18_1, hfz18_2⟩ := cz3 BK669.out) | ((with_reducible refine gate_callee (f := 67) rfl ?_); refine goesM (N := (some 33)) #[.agg #[.int .i64 a0_0, .int .i64 a0_1, .slice A0_2 l0_2.length c0_2], .agg #[.int .i64 a1_0, .int .i64 a1_1, .slice A1_2 l1_2.length c1_2]] Try.func67 ?_; (with_reducible refine (impl_turnedUnits.calls k a0_0 a0_1 _ _ l0_2 a1_0 a1_1 _ _ l1_2 t672 t675 _ ?side1 ?side2 ?side3 ?side4 A9.out).mono ?_); (case side1 => exact CB (Kd.C_below HR0_2.out HB.out)); (case side2 => exact HC0_2.out); (case side3 => exact CB (Kd.C_below HR1_2.out HB.out)); (case side4 => exact HC1_2.out); rintro e w19 ⟨v673, rfl, ho0, hb⟩; refine ⟨_, rfl, ?_⟩; refine E4 (Kd.R_lower ho0 (below_size (BL HB.out))) (bB BK668.out hb) (bB BK669.out hb) (below_step (BL HB.out) hb) ?_; clear BK668 BK669 HB; intro HO674 BK668 BK669 HB; (try clear hb); (try clear hb2); (try clear hk); (try clear hi); (try clear ho0)))
          go_ret2
          exact ⟨RF, BL HB.out⟩
        have c8b0 := beq_eq_false_iff_ne.mpr c8
        have c8b1 := bne_iff_ne.mpr c8
        simp only [Option.some.injEq, Prod.mk.injEq] at H
        obtain ⟨rfl, rfl⟩ := H
        go_enter Try.func30, Try.ntmps30
        go_wp2_with (first | ((with_reducible refine gate_dst (N := 2) rfl ?_); refine boxE (N := 2) (cs := #[.int .i64 a0_0, .int .i64 a0_1, .slice A0_2 l0_2.length c0_2]) (t := 30) ?_; intro gb668 hg w20 hbox hb; refine E4b HB.out hg hbox hb ?_; clear HB; intro HB BK668 GW668 GE668; clear hb hbox hg) | ((with_reducible refine gate_dst (N := 3) rfl ?_); refine boxE (N := 3) (cs := #[.int .i64 a1_0, .int .i64 a1_1, .slice A1_2 l1_2.length c1_2]) (t := 30) ?_; intro gb669 hg w21 hbox hb; refine E7 (bB BK668.out hb) (below_step (BL HB.out) hb) (hbox) (gwM hg (below_size (BL HB.out)) : w.heap.size ≤ gb669) (gwM hg (below_size (BL HB.out)) : w.heap.size ≤ gb669) ((nB BK668.out hg : gb668 ≠ gb669)) ((nC BK668.out hg : gb669 ≠ gb668)) ?_; clear BK668 HB; intro BK668 HB BK669 GW669 GE669 NB668_669 NB669_668; clear hb hbox hg; have hnb22 := NB668_669.out; have hnc22 := NB669_668.out; obtain ⟨hcz23_0, hcz23_1, hcz23_2, hfz23_0, hfz23_1, hfz23_2⟩ := cz3 BK668.out) | ((with_reducible refine gate_callee (f := 50) rfl ?_); refine goesM (N := (some 9)) #[.agg #[.int .i64 a0_0, .int .i64 a0_1, .slice A0_2 l0_2.length c0_2]] Try.func50 ?_; (with_reducible refine (impl_IsBoard.calls k a0_0 a0_1 _ _ l0_2 true _ ?side1 ?side2 A3.out).mono ?_); (case side1 => exact CB (Kd.C_below HR0_2.out HB.out)); (case side2 => exact HC0_2.out); rintro e w24 ⟨rfl, hb⟩; refine ⟨_, rfl, ?_⟩; refine E3 (bB BK668.out hb) (bB BK669.out hb) (below_step (BL HB.out) hb) ?_; clear BK668 BK669 HB; intro BK668 BK669 HB; (try clear hb); (try clear hb2); (try clear hk); (try clear hi); obtain ⟨hcz25_0, hcz25_1, hcz25_2, hfz25_0, hfz25_1, hfz25_2⟩ := cz3 BK669.out) | (go_at_call 50; (with_reducible refine (impl_IsBoard.calls k a1_0 a1_1 _ _ l1_2 true _ ?side1 ?side2 A5.out).mono ?_); (case side1 => exact CB (Kd.C_below HR1_2.out HB.out)); (case side2 => exact HC1_2.out); rintro e w26 ⟨rfl, hb⟩; refine E3 (bB BK668.out hb) (bB BK669.out hb) (below_step (BL HB.out) hb) ?_; clear BK668 BK669 HB; intro BK668 BK669 HB; (try clear hb); (try clear hb2); (try clear hk); (try clear hi); obtain ⟨hcz27_0, hcz27_1, hcz27_2, hfz27_0, hfz27_1, hfz27_2⟩ := cz3 BK668.out; obtain ⟨hcz28_0, hcz28_1, hcz28_2, hfz28_0, hfz28_1, hfz28_2⟩ := cz3 BK669.out))
        go_ret2
        exact ⟨RF, BL HB.out⟩
      have c7b0 := beq_eq_false_iff_ne.mpr c7
      have c7b1 := bne_iff_ne.mpr c7
      simp only [Option.some.injEq, Prod.mk.injEq] at H
      obtain ⟨rfl, rfl⟩ := H
      go_enter Try.func30, Try.ntmps30
      go_wp2_with (first | ((with_reducible refine gate_dst (N := 2) rfl ?_); refine boxE (N := 2) (cs := #[.int .i64 a0_0, .int .i64 a0_1, .slice A0_2 l0_2.length c0_2]) (t := 30) ?_; intro gb668 hg w29 hbox hb; refine E4b HB.out hg hbox hb ?_; clear HB; intro HB BK668 GW668 GE668; clear hb hbox hg) | ((with_reducible refine gate_dst (N := 3) rfl ?_); refine boxE (N := 3) (cs := #[.int .i64 a1_0, .int .i64 a1_1, .slice A1_2 l1_2.length c1_2]) (t := 30) ?_; intro gb669 hg w30 hbox hb; refine E7 (bB BK668.out hb) (below_step (BL HB.out) hb) (hbox) (gwM hg (below_size (BL HB.out)) : w.heap.size ≤ gb669) (gwM hg (below_size (BL HB.out)) : w.heap.size ≤ gb669) ((nB BK668.out hg : gb668 ≠ gb669)) ((nC BK668.out hg : gb669 ≠ gb668)) ?_; clear BK668 HB; intro BK668 HB BK669 GW669 GE669 NB668_669 NB669_668; clear hb hbox hg; have hnb31 := NB668_669.out; have hnc31 := NB669_668.out; obtain ⟨hcz32_0, hcz32_1, hcz32_2, hfz32_0, hfz32_1, hfz32_2⟩ := cz3 BK668.out) | ((with_reducible refine gate_callee (f := 50) rfl ?_); refine goesM (N := (some 9)) #[.agg #[.int .i64 a0_0, .int .i64 a0_1, .slice A0_2 l0_2.length c0_2]] Try.func50 ?_; (with_reducible refine (impl_IsBoard.calls k a0_0 a0_1 _ _ l0_2 true _ ?side1 ?side2 A3.out).mono ?_); (case side1 => exact CB (Kd.C_below HR0_2.out HB.out)); (case side2 => exact HC0_2.out); rintro e w33 ⟨rfl, hb⟩; refine ⟨_, rfl, ?_⟩; refine E3 (bB BK668.out hb) (bB BK669.out hb) (below_step (BL HB.out) hb) ?_; clear BK668 BK669 HB; intro BK668 BK669 HB; (try clear hb); (try clear hb2); (try clear hk); (try clear hi); obtain ⟨hcz34_0, hcz34_1, hcz34_2, hfz34_0, hfz34_1, hfz34_2⟩ := cz3 BK669.out) | (go_at_call 50; (with_reducible refine (impl_IsBoard.calls k a1_0 a1_1 _ _ l1_2 true _ ?side1 ?side2 A5.out).mono ?_); (case side1 => exact CB (Kd.C_below HR1_2.out HB.out)); (case side2 => exact HC1_2.out); rintro e w35 ⟨rfl, hb⟩; refine E3 (bB BK668.out hb) (bB BK669.out hb) (below_step (BL HB.out) hb) ?_; clear BK668 BK669 HB; intro BK668 BK669 HB; (try clear hb); (try clear hb2); (try clear hk); (try clear hi); obtain ⟨hcz36_0, hcz36_1, hcz36_2, hfz36_0, hfz36_1, hfz36_2⟩ := cz3 BK668.out; obtain ⟨hcz37_0, hcz37_1, hcz37_2, hfz37_0, hfz37_1, hfz37_2⟩ := cz3 BK669.out))
      go_ret2
      exact ⟨RF, BL HB.out⟩
    simp only [Option.some.injEq, Prod.mk.injEq] at H
    obtain ⟨rfl, rfl⟩ := H
    go_enter Try.func30, Try.ntmps30
    go_wp2_with (first | ((with_reducible refine gate_dst (N := 2) rfl ?_); refine boxE (N := 2) (cs := #[.int .i64 a0_0, .int .i64 a0_1, .slice A0_2 l0_2.length c0_2]) (t := 30) ?_; intro gb668 hg w38 hbox hb; refine E4b HB.out hg hbox hb ?_; clear HB; intro HB BK668 GW668 GE668; clear hb hbox hg) | ((with_reducible refine gate_dst (N := 3) rfl ?_); refine boxE (N := 3) (cs := #[.int .i64 a1_0, .int .i64 a1_1, .slice A1_2 l1_2.length c1_2]) (t := 30) ?_; intro gb669 hg w39 hbox hb; refine E7 (bB BK668.out hb) (below_step (BL HB.out) hb) (hbox) (gwM hg (below_size (BL HB.out)) : w.heap.size ≤ gb669) (gwM hg (below_size (BL HB.out)) : w.heap.size ≤ gb669) ((nB BK668.out hg : gb668 ≠ gb669)) ((nC BK668.out hg : gb669 ≠ gb668)) ?_; clear BK668 HB; intro BK668 HB BK669 GW669 GE669 NB668_669 NB669_668; clear hb hbox hg; have hnb40 := NB668_669.out; have hnc40 := NB669_668.out; obtain ⟨hcz41_0, hcz41_1, hcz41_2, hfz41_0, hfz41_1, hfz41_2⟩ := cz3 BK668.out) | ((with_reducible refine gate_callee (f := 50) rfl ?_); refine goesM (N := (some 9)) #[.agg #[.int .i64 a0_0, .int .i64 a0_1, .slice A0_2 l0_2.length c0_2]] Try.func50 ?_; (with_reducible refine (impl_IsBoard.calls k a0_0 a0_1 _ _ l0_2 true _ ?side1 ?side2 A3.out).mono ?_); (case side1 => exact CB (Kd.C_below HR0_2.out HB.out)); (case side2 => exact HC0_2.out); rintro e w42 ⟨rfl, hb⟩; refine ⟨_, rfl, ?_⟩; refine E3 (bB BK668.out hb) (bB BK669.out hb) (below_step (BL HB.out) hb) ?_; clear BK668 BK669 HB; intro BK668 BK669 HB; (try clear hb); (try clear hb2); (try clear hk); (try clear hi); obtain ⟨hcz43_0, hcz43_1, hcz43_2, hfz43_0, hfz43_1, hfz43_2⟩ := cz3 BK669.out) | (go_at_call 50; (with_reducible refine (impl_IsBoard.calls k a1_0 a1_1 _ _ l1_2 false _ ?side1 ?side2 A5.out).mono ?_); (case side1 => exact CB (Kd.C_below HR1_2.out HB.out)); (case side2 => exact HC1_2.out); rintro e w44 ⟨rfl, hb⟩; refine E3 (bB BK668.out hb) (bB BK669.out hb) (below_step (BL HB.out) hb) ?_; clear BK668 BK669 HB; intro BK668 BK669 HB; (try clear hb); (try clear hb2); (try clear hk); (try clear hi)))
    go_ret2
    exact ⟨RF, BL HB.out⟩
  simp only [Option.some.injEq, Prod.mk.injEq] at H
  obtain ⟨rfl, rfl⟩ := H
  go_enter Try.func30, Try.ntmps30
  go_wp2_with (first | ((with_reducible refine gate_dst (N := 2) rfl ?_); refine boxE (N := 2) (cs := #[.int .i64 a0_0, .int .i64 a0_1, .slice A0_2 l0_2.length c0_2]) (t := 30) ?_; intro gb668 hg w45 hbox hb; refine E4b HB.out hg hbox hb ?_; clear HB; intro HB BK668 GW668 GE668; clear hb hbox hg) | ((with_reducible refine gate_dst (N := 3) rfl ?_); refine boxE (N := 3) (cs := #[.int .i64 a1_0, .int .i64 a1_1, .slice A1_2 l1_2.length c1_2]) (t := 30) ?_; intro gb669 hg w46 hbox hb; refine E7 (bB BK668.out hb) (below_step (BL HB.out) hb) (hbox) (gwM hg (below_size (BL HB.out)) : w.heap.size ≤ gb669) (gwM hg (below_size (BL HB.out)) : w.heap.size ≤ gb669) ((nB BK668.out hg : gb668 ≠ gb669)) ((nC BK668.out hg : gb669 ≠ gb668)) ?_; clear BK668 HB; intro BK668 HB BK669 GW669 GE669 NB668_669 NB669_668; clear hb hbox hg; have hnb47 := NB668_669.out; have hnc47 := NB669_668.out; obtain ⟨hcz48_0, hcz48_1, hcz48_2, hfz48_0, hfz48_1, hfz48_2⟩ := cz3 BK668.out) | ((with_reducible refine gate_callee (f := 50) rfl ?_); refine goesM (N := (some 9)) #[.agg #[.int .i64 a0_0, .int .i64 a0_1, .slice A0_2 l0_2.length c0_2]] Try.func50 ?_; (with_reducible refine (impl_IsBoard.calls k a0_0 a0_1 _ _ l0_2 false _ ?side1 ?side2 A3.out).mono ?_); (case side1 => exact CB (Kd.C_below HR0_2.out HB.out)); (case side2 => exact HC0_2.out); rintro e w49 ⟨rfl, hb⟩; refine ⟨_, rfl, ?_⟩; refine E3 (bB BK668.out hb) (bB BK669.out hb) (below_step (BL HB.out) hb) ?_; clear BK668 BK669 HB; intro BK668 BK669 HB; (try clear hb); (try clear hb2); (try clear hk); (try clear hi)))
  go_ret2
  exact ⟨RF, BL HB.out⟩

/-! ### laws_FnExactAreStates: function 7 -/
def laws_FnExactAreStates.j0 : Nat → Bool → Int → Int → List (S84) → Int → Int → List (S84) → Int → Int → List (S73) → Int → Int → List (S73) → Option (Bool)
  | 0, _, _, _, _, _, _, _, _, _, _, _, _, _ => none
  | k + 1, x47, x677000, x677001, x677002, x678000, x678001, x678002, x698000, x698001, x698002, x704000, x704001, x704002 => if x47 = true then (some false) else ((laws_toBoard.f k x677000 x677001 x677002).bind fun bt706 => ((laws_eqBoard.f k x698000 x698001 x698002 bt706.1 bt706.2.1 bt706.2.2).bind fun t711 => (if t711 = true then ((laws_toBoard.f k x678000 x678001 x678002).bind fun bt712 => ((laws_eqBoard.f k x704000 x704001 x704002 bt712.1 bt712.2.1 bt712.2.2).bind fun t717 => (if t717 = true then (some true) else (some false)))) else (some false))))
def laws_FnExactAreStates.f (k : Nat) (a0_0 : Int) (a0_1 : Int) (l0_2 : List (S84)) (a1_0 : Int) (a1_1 : Int) (l1_2 : List (S84)) : Option (Bool) := (laws_szBoard.f a0_0 a0_1 l0_2 1048576).bind fun t678 => (if t678 < 0 then (some true) else ((laws_szBoard.f a1_0 a1_1 l1_2 t678).bind fun t679 => (if t679 < 0 then (some true) else ((laws_toBoard.f k a0_0 a0_1 l0_2).bind fun bt680 => ((laws_toBoard.f k a1_0 a1_1 l1_2).bind fun bt685 => ((spec_AreStates.f k bt680.1 bt680.2.1 bt680.2.2 bt685.1 bt685.2.1 bt685.2.2).bind fun bt690 => ((laws_toBoard.f k a0_0 a0_1 l0_2).bind fun bt692 => ((laws_toBoard.f k a1_0 a1_1 l1_2).bind fun bt698 => ((impl_AreStates.f k bt692.1 bt692.2.1 bt692.2.2 bt698.1 bt698.2.1 bt698.2.2).bind fun bt704 => (if (bt704.1 != bt690.1) = true then (laws_FnExactAreStates.j0 k true a0_0 a0_1 l0_2 a1_0 a1_1 l1_2 bt692.1 bt692.2.1 bt692.2.2 bt698.1 bt698.2.1 bt698.2.2) else (laws_FnExactAreStates.j0 k (bt704.2 != bt690.2) a0_0 a0_1 l0_2 a1_0 a1_1 l1_2 bt692.1 bt692.2.1 bt692.2.2 bt698.1 bt698.2.1 bt698.2.2)))))))))))
theorem laws_FnExactAreStates.mono_l : ∀ k, (∀ y0 y1 y2 y3 y4 y5 y6 y7 y8 y9 y10 y11 y12, LeO (laws_FnExactAreStates.j0 k y0 y1 y2 y3 y4 y5 y6 y7 y8 y9 y10 y11 y12) (laws_FnExactAreStates.j0 (k + 1) y0 y1 y2 y3 y4 y5 y6 y7 y8 y9 y10 y11 y12))
  | 0 => fun _ _ _ _ _ _ _ _ _ _ _ _ _ r h => by simp [laws_FnExactAreStates.j0] at h
  | k + 1 => by
    have ih0 := laws_FnExactAreStates.mono_l k
    intros
    first | unfold laws_FnExactAreStates.j0
    repeat' first | (with_reducible first | apply ih0 | apply impl_AreStates.mono | apply laws_eqBoard.mono | apply laws_toBoard.mono | apply spec_AreStates.mono | exact LeO.refl _ | exact LeO.none _ | refine LeO.ite ?_ ?_ | refine LeO.bind ?_ (fun _ => ?_)) | apply ih0 | apply impl_AreStates.mono | apply laws_eqBoard.mono | apply laws_toBoard.mono | apply spec_AreStates.mono | exact LeO.none _ | refine LeO.ite ?_ ?_ | refine LeO.bind ?_ (fun _ => ?_)
theorem laws_FnExactAreStates.mono : ∀ a0 a1 a2 a3 a4 a5 k, LeO (laws_FnExactAreStates.f k a0 a1 a2 a3 a4 a5) (laws_FnExactAreStates.f (k + 1) a0 a1 a2 a3 a4 a5) := by
  intro a0 a1 a2 a3 a4 a5 k
  have ih0 := laws_FnExactAreStates.mono_l k
  unfold laws_FnExactAreStates.f
  repeat' first | (with_reducible first | apply ih0 | apply impl_AreStates.mono | apply laws_eqBoard.mono | apply laws_toBoard.mono | apply spec_AreStates.mono | exact LeO.refl _ | exact LeO.none _ | refine LeO.ite ?_ ?_ | refine LeO.bind ?_ (fun _ => ?_)) | apply ih0 | apply impl_AreStates.mono | apply laws_eqBoard.mono | apply laws_toBoard.mono | apply spec_AreStates.mono | exact LeO.none _ | refine LeO.ite ?_ ?_ | refine LeO.bind ?_ (fun _ => ?_)
def laws_FnExactAreStates.T8 : Bool × List (List Nat × List Nat) := (true, [([], []), ([0], [0]), ([], []), ([2, 1], [2]), ([1, 3, 3], [1, 3]), ([4], [4]), ([5], [5]), ([5], [5]), ([6, 4, 0, 1, 2, 3, 4, 5, 6], [6]), ([7, 8, 0, 1, 2, 3, 4, 5, 6, 7, 8], [7])])
def laws_FnExactAreStates.B8 : List Nat := [0, 1, 0, 7, 15, 31, 63, 63, 127, 511]
theorem laws_FnExactAreStates.tab8 : rtab .any (opsOf Try.f7 8) = laws_FnExactAreStates.T8 := by kernel_rfl
theorem laws_FnExactAreStates.bits8 : waitsOk laws_FnExactAreStates.T8.2 laws_FnExactAreStates.B8 = true := by kernel_rfl
set_option maxHeartbeats 8000000 in
set_option maxRecDepth 100000 in
theorem laws_FnExactAreStates.calls (k : Nat) (a0_0 : Int) (a0_1 : Int) (A0_2 : Option Addr) (c0_2 : Nat) (l0_2 : List (S84)) (a1_0 : Int) (a1_1 : Int) (A1_2 : Option Addr) (c1_2 : Nat) (l1_2 : List (S84)) (w : World) (hr0_2 : Kd.C k84 w A0_2 l0_2.length l0_2) (hc0_2 : l0_2.length ≤ c0_2) (hr1_2 : Kd.C k84 w A1_2 l1_2.length l1_2) (hc1_2 : l1_2.length ≤ c1_2) (h : laws_FnExactAreStates.f k a0_0 a0_1 l0_2 a1_0 a1_1 l1_2 = some true) :
    Calls Try.prog 7 #[.agg #[.int .i64 a0_0, .int .i64 a0_1, .slice A0_2 l0_2.length c0_2], .agg #[.int .i64 a1_0, .int .i64 a1_1, .slice A1_2 l1_2.length c1_2]] w fun e w' => e = .returned (.bool true) ∧ Below w.heap.size w w' := by
  have hu24 := Try.underlying24
  have hu30 := Try.underlying30
  have HR0_2 := Aside0.mk hr0_2
  have HC0_2 := Aside0.mk hc0_2
  clear hr0_2 hc0_2
  have HR1_2 := Aside0.mk hr1_2
  have HC1_2 := Aside0.mk hc1_2
  clear hr1_2 hc1_2
  have HB := Aside0.mk (Below.refl w.heap.size w)
  have H := h
  clear h
  unfold laws_FnExactAreStates.f at H
  replace H := bindA H; obtain ⟨t678, A3, H⟩ := H
  replace H := ifB H; rcases H with ⟨c4b0, H⟩ | ⟨c4b0, H⟩
  · first | (obtain rfl := Option.some.inj H) | clear H
    go_enter Try.func7, Try.ntmps7
    go_wp2_with (first | ((with_reducible refine gate_dst (N := 2) rfl ?_); refine boxE (N := 2) (cs := #[.int .i64 a0_0, .int .i64 a0_1, .slice A0_2 l0_2.length c0_2]) (t := 24) ?_; intro gb676 hg w5 hbox hb; refine E4b HB.out hg hbox hb ?_; clear HB; intro HB BK676 GW676 GE676; clear hb hbox hg) | ((with_reducible refine gate_dst (N := 3) rfl ?_); refine boxE (N := 3) (cs := #[.int .i64 a1_0, .int .i64 a1_1, .slice A1_2 l1_2.length c1_2]) (t := 24) ?_; intro gb677 hg w6 hbox hb; refine E7 (bB BK676.out hb) (below_step (BL HB.out) hb) (hbox) (gwM hg (below_size (BL HB.out)) : w.heap.size ≤ gb677) (gwM hg (below_size (BL HB.out)) : w.heap.size ≤ gb677) ((nB BK676.out hg : gb676 ≠ gb677)) ((nC BK676.out hg : gb677 ≠ gb676)) ?_; clear BK676 HB; intro BK676 HB BK677 GW677 GE677 NB676_677 NB677_676; clear hb hbox hg; have hnb7 := NB676_677.out; have hnc7 := NB677_676.out; obtain ⟨hcz8_0, hcz8_1, hcz8_2, hfz8_0, hfz8_1, hfz8_2⟩ := cz3 BK676.out) | ((with_reducible refine gate_callee (f := 13) rfl ?_); refine goesM (N := (some 14)) #[.agg #[.int .i64 a0_0, .int .i64 a0_1, .slice A0_2 l0_2.length c0_2], .int .i64 1048576] Try.func13 ?_; (with_reducible refine (laws_szBoard.calls a0_0 a0_1 _ _ l0_2 1048576 t678 _ ?side1 ?side2 A3.out).mono ?_); (case side1 => exact CB (Kd.C_below HR0_2.out HB.out)); (case side2 => exact HC0_2.out); rintro e w9 ⟨rfl, hb⟩; refine ⟨_, rfl, ?_⟩; refine E3 (bB BK676.out hb) (bB BK677.out hb) (below_step (BL HB.out) hb) ?_; clear BK676 BK677 HB; intro BK676 BK677 HB; (try clear hb); (try clear hb2); (try clear hk); (try clear hi)))
    go_ret
    exact ⟨RF, BL HB.out⟩
  replace H := bindA H; obtain ⟨t679, A10, H⟩ := H
  replace H := ifB H; rcases H with ⟨c11b0, H⟩ | ⟨c11b0, H⟩
  · first | (obtain rfl := Option.some.inj H) | clear H
    go_enter Try.func7, Try.ntmps7
    go_wp2_with (first | ((with_reducible refine gate_dst (N := 2) rfl ?_); refine boxE (N := 2) (cs := #[.int .i64 a0_0, .int .i64 a0_1, .slice A0_2 l0_2.length c0_2]) (t := 24) ?_; intro gb676 hg w12 hbox hb; refine E4b HB.out hg hbox hb ?_; clear HB; intro HB BK676 GW676 GE676; clear hb hbox hg) | ((with_reducible refine gate_dst (N := 3) rfl ?_); refine boxE (N := 3) (cs := #[.int .i64 a1_0, .int .i64 a1_1, .slice A1_2 l1_2.length c1_2]) (t := 24) ?_; intro gb677 hg w13 hbox hb; refine E7 (bB BK676.out hb) (below_step (BL HB.out) hb) (hbox) (gwM hg (below_size (BL HB.out)) : w.heap.size ≤ gb677) (gwM hg (below_size (BL HB.out)) : w.heap.size ≤ gb677) ((nB BK676.out hg : gb676 ≠ gb677)) ((nC BK676.out hg : gb677 ≠ gb676)) ?_; clear BK676 HB; intro BK676 HB BK677 GW677 GE677 NB676_677 NB677_676; clear hb hbox hg; have hnb14 := NB676_677.out; have hnc14 := NB677_676.out; obtain ⟨hcz15_0, hcz15_1, hcz15_2, hfz15_0, hfz15_1, hfz15_2⟩ := cz3 BK676.out) | ((with_reducible refine gate_callee (f := 13) rfl ?_); refine goesM (N := (some 14)) #[.agg #[.int .i64 a0_0, .int .i64 a0_1, .slice A0_2 l0_2.length c0_2], .int .i64 1048576] Try.func13 ?_; (with_reducible refine (laws_szBoard.calls a0_0 a0_1 _ _ l0_2 1048576 t678 _ ?side1 ?side2 A3.out).mono ?_); (case side1 => exact CB (Kd.C_below HR0_2.out HB.out)); (case side2 => exact HC0_2.out); rintro e w16 ⟨rfl, hb⟩; refine ⟨_, rfl, ?_⟩; refine E3 (bB BK676.out hb) (bB BK677.out hb) (below_step (BL HB.out) hb) ?_; clear BK676 BK677 HB; intro BK676 BK677 HB; (try clear hb); (try clear hb2); (try clear hk); (try clear hi); obtain ⟨hcz17_0, hcz17_1, hcz17_2, hfz17_0, hfz17_1, hfz17_2⟩ := cz3 BK677.out) | ((with_reducible refine gate_callee (f := 13) rfl ?_); refine goesM (N := (some 19)) #[.agg #[.int .i64 a1_0, .int .i64 a1_1, .slice A1_2 l1_2.length c1_2], .int .i64 t678] Try.func13 ?_; (with_reducible refine (laws_szBoard.calls a1_0 a1_1 _ _ l1_2 t678 t679 _ ?side1 ?side2 A10.out).mono ?_); (case side1 => exact CB (Kd.C_below HR1_2.out HB.out)); (case side2 => exact HC1_2.out); rintro e w18 ⟨rfl, hb⟩; refine ⟨_, rfl, ?_⟩; refine E3 (bB BK676.out hb) (bB BK677.out hb) (below_step (BL HB.out) hb) ?_; clear BK676 BK677 HB; intro BK676 BK677 HB; (try clear hb); (try clear hb2); (try clear hk); (try clear hi)))
    go_ret
    exact ⟨RF, BL HB.out⟩
  replace H := bindA H; obtain ⟨⟨t680, t681, t682⟩, A19, H⟩ := H
  dsimp only at H
  replace H := bindA H; obtain ⟨⟨t685, t686, t687⟩, A20, H⟩ := H
  dsimp only at H
  replace H := bindA H; obtain ⟨⟨t690, t691⟩, A21, H⟩ := H
  dsimp only at H
  replace H := bindA H; obtain ⟨⟨t692, t693, t694⟩, A22, H⟩ := H
  dsimp only at H
  replace H := bindA H; obtain ⟨⟨t698, t699, t700⟩, A23, H⟩ := H
  dsimp only at H
  replace H := bindA H; obtain ⟨⟨t704, t705⟩, A24, H⟩ := H
  dsimp only at H
  have HC25 := Aside0.mk H
  clear H
  go_enter Try.func7, Try.ntmps7
  try go_wp2_with (first | ((with_reducible refine gate_dst (N := 2) rfl ?_); refine boxE (N := 2) (cs := #[.int .i64 a0_0, .int .i64 a0_1, .slice A0_2 l0_2.length c0_2]) (t := 24) ?_; intro gb676 hg w26 hbox hb; refine E4b HB.out hg hbox hb ?_; clear HB; intro HB BK676 GW676 GE676; clear hb hbox hg) | ((with_reducible refine gate_dst (N := 3) rfl ?_); refine boxE (N := 3) (cs := #[.int .i64 a1_0, .int .i64 a1_1, .slice A1_2 l1_2.length c1_2]) (t := 24) ?_; intro gb677 hg w27 hbox hb; refine E7 (bB BK676.out hb) (below_step (BL HB.out) hb) (hbox) (gwM hg (below_size (BL HB.out)) : w.heap.size ≤ gb677) (gwM hg (below_size (BL HB.out)) : w.heap.size ≤ gb677) ((nB BK676.out hg : gb676 ≠ gb677)) ((nC BK676.out hg : gb677 ≠ gb676)) ?_; clear BK676 HB; intro BK676 HB BK677 GW677 GE677 NB676_677 NB677_676; clear hb hbox hg; have hnb28 := NB676_677.out; have hnc28 := NB677_676.out; obtain ⟨hcz29_0, hcz29_1, hcz29_2, hfz29_0, hfz29_1, hfz29_2⟩ := cz3 BK676.out) | ((with_reducible refine gate_callee (f := 13) rfl ?_); refine goesM (N := (some 14)) #[.agg #[.int .i64 a0_0, .int .i64 a0_1, .slice A0_2 l0_2.length c0_2], .int .i64 1048576] Try.func13 ?_; (with_reducible refine (laws_szBoard.calls a0_0 a0_1 _ _ l0_2 1048576 t678 _ ?side1 ?side2 A3.out).mono ?_); (case side1 => exact CB (Kd.C_below HR0_2.out HB.out)); (case side2 => exact HC0_2.out); rintro e w30 ⟨rfl, hb⟩; refine ⟨_, rfl, ?_⟩; refine E3 (bB BK676.out hb) (bB BK677.out hb) (below_step (BL HB.out) hb) ?_; clear BK676 BK677 HB; intro BK676 BK677 HB; (try clear hb); (try clear hb2); (try clear hk); (try clear hi); obtain ⟨hcz31_0, hcz31_1, hcz31_2, hfz31_0, hfz31_1, hfz31_2⟩ := cz3 BK677.out) | ((with_reducible refine gate_callee (f := 13) rfl ?_); refine goesM (N := (some 19)) #[.agg #[.int .i64 a1_0, .int .i64 a1_1, .slice A1_2 l1_2.length c1_2], .int .i64 t678] Try.func13 ?_; (with_reducible refine (laws_szBoard.calls a1_0 a1_1 _ _ l1_2 t678 t679 _ ?side1 ?side2 A10.out).mono ?_); (case side1 => exact CB (Kd.C_below HR1_2.out HB.out)); (case side2 => exact HC1_2.out); rintro e w32 ⟨rfl, hb⟩; refine ⟨_, rfl, ?_⟩; refine E3 (bB BK676.out hb) (bB BK677.out hb) (below_step (BL HB.out) hb) ?_; clear BK676 BK677 HB; intro BK676 BK677 HB; (try clear hb); (try clear hb2); (try clear hk); (try clear hi)))
  refine E3 (blk_drew BK676.out) (blk_drew BK677.out) (below_drew1 HB.out) ?_
  clear BK676 BK677 HB
  intro BK676 BK677 HB
  refine start_ (n := 10) (S := fun w' => w'.cell? ⟨gb676, 0, none⟩ = some (.int .i64 a0_0) ∧ w'.cell? ⟨gb676, 1, none⟩ = some (.int .i64 a0_1) ∧ w'.cell? ⟨gb676, 2, none⟩ = some (.slice A0_2 l0_2.length c0_2) ∧ w'.cell? ⟨gb677, 0, none⟩ = some (.int .i64 a1_0) ∧ w'.cell? ⟨gb677, 1, none⟩ = some (.int .i64 a1_1) ∧ w'.cell? ⟨gb677, 2, none⟩ = some (.slice A1_2 l1_2.length c1_2)) (ds := []) #[false, false, false, false, false, false, false, false, false, false] (by kernel_rfl) rfl rfl ⟨(blk_cell BK676.out 0).trans rfl, (blk_cell BK676.out 1).trans rfl, (blk_cell BK676.out 2).trans rfl, (blk_cell BK677.out 0).trans rfl, (blk_cell BK677.out 1).trans rfl, (blk_cell BK677.out 2).trans rfl⟩ (fun hHeld => ?_); refine with_tabW laws_FnExactAreStates.tab8 laws_FnExactAreStates.bits8 (fun HT_ HW_ => ?_)
  generalize w32.drew = w33 at BK676 BK677 HB hHeld ⊢
  refine take_ (i := 0) (N := some 23) (v := ?_) (a' := ?_) #[true, false, false, false, false, false, false, false, false, false] rfl rfl (take_ofW HT_.out HW_.out (by kernel_rfl)) (fun _ _ _ h => h) (Or.inl ⟨by rfl, ?_⟩) hHeld ?_ ?_
  rotate_left
  · rintro w' ⟨s0, s1, s2, s3, s4, s5⟩
    go_simp
    with_reducible rfl
  rotate_left
  · simp only [Act.put, List.setIfInBounds_toArray, List.set_cons_zero, List.set_cons_succ, i64_w, i32_w]
    rfl
  refine take_ (i := 2) (N := some 25) (v := ?_) (a' := ?_) #[true, false, true, false, false, false, false, false, false, false] rfl rfl (take_ofW HT_.out HW_.out (by kernel_rfl)) (fun _ _ _ h => h) (Or.inl ⟨by rfl, ?_⟩) hHeld ?_ ?_
  rotate_left
  · rintro w' ⟨s0, s1, s2, s3, s4, s5⟩
    go_simp
    with_reducible rfl
  rotate_left
  · simp only [Act.put, List.setIfInBounds_toArray, List.set_cons_zero, List.set_cons_succ, i64_w, i32_w]
    rfl
  refine one_ (i := 1) (N := some 24) #[true, true, true, false, false, false, false, false, false, false] rfl rfl (one_of HT_.out (by kernel_rfl)) (by decide) (fun K hK => ?_)
  refine goes_ Try.func15 (by kernel_rfl) rfl #[.agg #[.int .i64 a0_0, .int .i64 a0_1, .slice A0_2 l0_2.length c0_2]] (by rfl) rfl rfl (by (try simp only [List.map_toArray, List.map_cons, List.map_nil]); first | done | rfl | (simp only [List.length_drop, List.length_take]; rfl)) ?_
  with_reducible refine (laws_toBoard.calls k a0_0 a0_1 _ _ l0_2 t680 t681 t682 _ ?side1 ?side2 A19.out).mono ?_
  (case side1 => exact CB (Kd.C_below HR0_2.out HB.out))
  (case side2 => exact HC0_2.out)
  rintro e w34 ⟨v683, rfl, ho0, hb⟩
  refine ⟨_, rfl, ?_⟩
  refine E4 (Kd.R_lower ho0 (below_size (BL HB.out))) (bB BK676.out hb) (bB BK677.out hb) (below_step (BL HB.out) hb) ?_
  clear BK676 BK677 HB
  intro HO684 BK676 BK677 HB
  (try clear hb)
  (try clear hb2)
  (try clear hk)
  (try clear hi)
  (try clear ho0)
  refine hK.out _ _ ⟨(blk_cell BK676.out 0).trans rfl, (blk_cell BK676.out 1).trans rfl, (blk_cell BK676.out 2).trans rfl, (blk_cell BK677.out 0).trans rfl, (blk_cell BK677.out 1).trans rfl, (blk_cell BK677.out 2).trans rfl⟩ (fun hHeld => ?_)
  clear hK K
  refine norm_ (a' := ?_) ?_ ?_
  rotate_left
  · show Act.put _ (some 24) _ = _
    simp only [Act.put, List.setIfInBounds_toArray, List.set_cons_zero, List.set_cons_succ, i64_w, i32_w]
    rfl
  refine one_ (i := 3) (N := some 26) #[true, true, true, true, false, false, false, false, false, false] rfl rfl (one_of HT_.out (by kernel_rfl)) (by decide) (fun K hK => ?_)
  refine goes_ Try.func15 (by kernel_rfl) rfl #[.agg #[.int .i64 a1_0, .int .i64 a1_1, .slice A1_2 l1_2.length c1_2]] (by rfl) rfl rfl (by (try simp only [List.map_toArray, List.map_cons, List.map_nil]); first | done | rfl | (simp only [List.length_drop, List.length_take]; rfl)) ?_
  with_reducible refine (laws_toBoard.calls k a1_0 a1_1 _ _ l1_2 t685 t686 t687 _ ?side1 ?side2 A20.out).mono ?_
  (case side1 => exact CB (Kd.C_below HR1_2.out HB.out))
  (case side2 => exact HC1_2.out)
  rintro e w35 ⟨v688, rfl, ho0, hb⟩
  refine ⟨_, rfl, ?_⟩
  refine E5 (Kd.R_elder' (PR HO684.out) (Kd.R_base ho0) hb) (Kd.R_lower (Kd.R_new' ho0 (Kd.R_lt (PR HO684.out))) (below_size (BL HB.out))) (bB BK676.out hb) (bB BK677.out hb) (below_step (BL HB.out) hb) ?_
  clear HO684 BK676 BK677 HB
  intro HO684 HO689 BK676 BK677 HB
  (try clear hb)
  (try clear hb2)
  (try clear hk)
  (try clear hi)
  (try clear ho0)
  obtain ⟨Ao36, co36, eo36⟩ := Kd.R_slice HO684.out
  (first | subst eo36 | (injection eo36 with f1_ f2_ f3_; have f4_ := f1_.symm; have f5_ := f3_.symm; clear f1_ f2_ f3_; subst f4_; subst f5_))
  obtain ⟨Ao37, co37, eo37⟩ := Kd.R_slice HO689.out
  (first | subst eo37 | (injection eo37 with f1_ f2_ f3_; have f4_ := f1_.symm; have f5_ := f3_.symm; clear f1_ f2_ f3_; subst f4_; subst f5_))
  refine hK.out _ _ ⟨(blk_cell BK676.out 0).trans rfl, (blk_cell BK676.out 1).trans rfl, (blk_cell BK676.out 2).trans rfl, (blk_cell BK677.out 0).trans rfl, (blk_cell BK677.out 1).trans rfl, (blk_cell BK677.out 2).trans rfl⟩ (fun hHeld => ?_)
  clear hK K
  refine norm_ (a' := ?_) ?_ ?_
  rotate_left
  · show Act.put _ (some 26) _ = _
    simp only [Act.put, List.setIfInBounds_toArray, List.set_cons_zero, List.set_cons_succ, i64_w, i32_w]
    rfl
  refine one_ (i := 4) (N := some 27) #[true, true, true, true, true, false, false, false, false, false] rfl rfl (one_of HT_.out (by kernel_rfl)) (by decide) (fun K hK => ?_)
  refine goes_ Try.func29 (by kernel_rfl) rfl #[.agg #[.int .i64 t680, .int .i64 t681, .slice Ao36 t682.length co36], .agg #[.int .i64 t685, .int .i64 t686, .slice Ao37 t687.length co37]] (by rfl) rfl rfl (by (try simp only [List.map_toArray, List.map_cons, List.map_nil]); first | done | rfl | (simp only [List.length_drop, List.length_take]; rfl)) ?_
  with_reducible refine (spec_AreStates.calls k t680 t681 _ _ t682 t685 t686 _ _ t687 t690 t691 _ ?side1 ?side2 ?side3 ?side4 A21.out).mono ?_
  (case side1 => repeat (first | exact (Kd.R_reads' HO684.out).2.2 | (with_reducible refine Kd.C_alloc ?_ _) | (with_reducible refine Kd.C_drewN ?_ _) | (with_reducible refine Kd.C_drew ?_)))
  (case side2 => exact (Kd.R_reads' HO684.out).2.1)
  (case side3 => repeat (first | exact (Kd.R_reads' HO689.out).2.2 | (with_reducible refine Kd.C_alloc ?_ _) | (with_reducible refine Kd.C_drewN ?_ _) | (with_reducible refine Kd.C_drew ?_)))
  (case side4 => exact (Kd.R_reads' HO689.out).2.1)
  rintro e w38 ⟨rfl, hb⟩
  refine ⟨_, rfl, ?_⟩
  refine E5 (Kd.R_below (PR HO684.out) hb) (Kd.R_below (PR HO689.out) hb) (bB BK676.out hb) (bB BK677.out hb) (below_step (BL HB.out) hb) ?_
  clear HO684 HO689 BK676 BK677 HB
  intro HO684 HO689 BK676 BK677 HB
  (try clear hb)
  (try clear hb2)
  (try clear hk)
  (try clear hi)
  refine hK.out _ _ ⟨(blk_cell BK676.out 0).trans rfl, (blk_cell BK676.out 1).trans rfl, (blk_cell BK676.out 2).trans rfl, (blk_cell BK677.out 0).trans rfl, (blk_cell BK677.out 1).trans rfl, (blk_cell BK677.out 2).trans rfl⟩ (fun hHeld => ?_)
  clear hK K
  refine norm_ (a' := ?_) ?_ ?_
  rotate_left
  · show Act.put _ (some 27) _ = _
    simp only [Act.put, List.setIfInBounds_toArray, List.set_cons_zero, List.set_cons_succ, i64_w, i32_w]
    rfl
  refine pureE (i := 5) (N := some 22) #[true, true, true, true, true, true, false, false, false, false] HT_.out ?_
  refine pureE (i := 6) (N := some 28) #[true, true, true, true, true, true, true, false, false, false] HT_.out ?_
  refine pureE (i := 7) (N := some 29) #[true, true, true, true, true, true, true, true, false, false] HT_.out ?_
  refine pureE (i := 8) (N := some 6) #[true, true, true, true, true, true, true, true, true, false] HT_.out ?_
  refine pureE (i := 9) (N := some 7) #[true, true, true, true, true, true, true, true, true, true] HT_.out ?_
  refine done_ (done_of HT_.out (by kernel_rfl)) ?_
  obtain ⟨hcz39_0, hcz39_1, hcz39_2, hfz39_0, hfz39_1, hfz39_2⟩ := cz3 BK676.out
  go_upto_region 12 with (first | ((with_reducible refine gate_callee (f := 15) rfl ?_); refine goesM (N := (some 31)) #[.agg #[.int .i64 a0_0, .int .i64 a0_1, .slice A0_2 l0_2.length c0_2]] Try.func15 ?_; (with_reducible refine (laws_toBoard.calls k a0_0 a0_1 _ _ l0_2 t692 t693 t694 _ ?side1 ?side2 A22.out).mono ?_); (case side1 => exact CB (Kd.C_below HR0_2.out HB.out)); (case side2 => exact HC0_2.out); rintro e w40 ⟨v695, rfl, ho0, hb⟩; refine ⟨_, rfl, ?_⟩; refine E6 (Kd.R_elder' (PR HO684.out) (Kd.R_base ho0) hb) (Kd.R_elder' (PR HO689.out) (Kd.R_base ho0) hb) (Kd.R_lower (Kd.R_new' (Kd.R_new' ho0 (Kd.R_lt (PR HO684.out))) (Kd.R_lt (PR HO689.out))) (below_size (BL HB.out))) (bB BK676.out hb) (bB BK677.out hb) (below_step (BL HB.out) hb) ?_; clear HO684 HO689 BK676 BK677 HB; intro HO684 HO689 HO696 BK676 BK677 HB; (try clear hb); (try clear hb2); (try clear hk); (try clear hi); (try clear ho0)) | ((with_reducible refine gate_dst (N := 8) rfl ?_); refine boxE (N := 8) (cs := #[.int .i64 0, .int .i64 0, .slice none 0 0]) (t := 30) ?_; intro gb697 hg w41 hbox hb; refine E13 (Kd.R_below (PR HO684.out) hb) (Kd.R_below (PR HO689.out) hb) (Kd.R_below (PR HO696.out) hb) (bB BK676.out hb) (bB BK677.out hb) (below_step (BL HB.out) hb) (hbox) (gwM hg (below_size (BL HB.out)) : w.heap.size ≤ gb697) (gwM hg (below_size (BL HB.out)) : w.heap.size ≤ gb697) ((nB BK676.out hg : gb676 ≠ gb697)) ((nC BK676.out hg : gb697 ≠ gb676)) ((nB BK677.out hg : gb677 ≠ gb697)) ((nC BK677.out hg : gb697 ≠ gb677)) ?_; clear HO684 HO689 HO696 BK676 BK677 HB; intro HO684 HO689 HO696 BK676 BK677 HB BK697 GW697 GE697 NB676_697 NB697_676 NB677_697 NB697_677; clear hb hbox hg; have hnb42 := NB697_676.out; have hnc42 := NB676_697.out; have hnb43 := NB697_677.out; have hnc43 := NB677_697.out; obtain ⟨hcz44_0, hcz44_1, hcz44_2, hfz44_0, hfz44_1, hfz44_2⟩ := cz3 BK697.out; obtain ⟨Ao45, co45, eo45⟩ := Kd.R_slice HO696.out; subst eo45; obtain ⟨hcz46_0, hcz46_1, hcz46_2, hfz46_0, hfz46_1, hfz46_2⟩ := cz3 BK677.out) | ((with_reducible refine gate_callee (f := 15) rfl ?_); refine goesM (N := (some 33)) #[.agg #[.int .i64 a1_0, .int .i64 a1_1, .slice A1_2 l1_2.length c1_2]] Try.func15 ?_; (with_reducible refine (laws_toBoard.calls k a1_0 a1_1 _ _ l1_2 t698 t699 t700 _ ?side1 ?side2 A23.out).mono ?_); (case side1 => exact Kd.C_below HR1_2.out (BL HB.out)); (case side2 => exact HC1_2.out); rintro e w47 ⟨v701, rfl, ho0, hb⟩; refine ⟨_, rfl, ?_⟩; refine E8 (Kd.R_elder' (by (with_reducible repeat (first | apply Kd.R_alloc | apply Kd.R_drewN | apply Kd.R_drew)); exact (Kd.R_mono (Kd.R_far (p := ⟨gb697, 2, none⟩) (Kd.R_far (p := ⟨gb697, 1, none⟩) (Kd.R_far (p := ⟨gb697, 0, none⟩) (Kd.R_types HO684.out BK697.out (by decide)) (fun _ hk => hk.2) (.int .i64 t692)) (fun _ hk => hk.2) (.int .i64 t693)) (fun _ hk => hk.2) (.slice Ao45 t694.length co45)) (fun _ h_ => h_.1))) (Kd.R_base ho0) hb) (Kd.R_elder' (by (with_reducible repeat (first | apply Kd.R_alloc | apply Kd.R_drewN | apply Kd.R_drew)); exact (Kd.R_mono (Kd.R_far (p := ⟨gb697, 2, none⟩) (Kd.R_far (p := ⟨gb697, 1, none⟩) (Kd.R_far (p := ⟨gb697, 0, none⟩) (Kd.R_types HO689.out BK697.out (by decide)) (fun _ hk => hk.2) (.int .i64 t692)) (fun _ hk => hk.2) (.int .i64 t693)) (fun _ hk => hk.2) (.slice Ao45 t694.length co45)) (fun _ h_ => h_.1))) (Kd.R_base ho0) hb) (Kd.R_elder' (by (with_reducible repeat (first | apply Kd.R_alloc | apply Kd.R_drewN | apply Kd.R_drew)); exact (Kd.R_mono (Kd.R_far (p := ⟨gb697, 2, none⟩) (Kd.R_far (p := ⟨gb697, 1, none⟩) (Kd.R_far (p := ⟨gb697, 0, none⟩) (Kd.R_types HO696.out BK697.out (by decide)) (fun _ hk => hk.2) (.int .i64 t692)) (fun _ hk => hk.2) (.int .i64 t693)) (fun _ hk => hk.2) (.slice Ao45 t694.length co45)) (fun _ h_ => h_.1))) (Kd.R_base ho0) hb) (Kd.R_lower (Kd.R_new' (Kd.R_new' (Kd.R_new' ho0 (Kd.R_lt (by (with_reducible repeat (first | apply Kd.R_alloc | apply Kd.R_drewN | apply Kd.R_drew)); exact (Kd.R_mono (Kd.R_far (p := ⟨gb697, 2, none⟩) (Kd.R_far (p := ⟨gb697, 1, none⟩) (Kd.R_far (p := ⟨gb697, 0, none⟩) (Kd.R_types HO684.out BK697.out (by decide)) (fun _ hk => hk.2) (.int .i64 t692)) (fun _ hk => hk.2) (.int .i64 t693)) (fun _ hk => hk.2) (.slice Ao45 t694.length co45)) (fun _ h_ => h_.1))))) (Kd.R_lt (by (with_reducible repeat (first | apply Kd.R_alloc | apply Kd.R_drewN | apply Kd.R_drew)); exact (Kd.R_mono (Kd.R_far (p := ⟨gb697, 2, none⟩) (Kd.R_far (p := ⟨gb697, 1, none⟩) (Kd.R_far (p := ⟨gb697, 0, none⟩) (Kd.R_types HO689.out BK697.out (by decide)) (fun _ hk => hk.2) (.int .i64 t692)) (fun _ hk => hk.2) (.int .i64 t693)) (fun _ hk => hk.2) (.slice Ao45 t694.length co45)) (fun _ h_ => h_.1))))) (Kd.R_lt (by (with_reducible repeat (first | apply Kd.R_alloc | apply Kd.R_drewN | apply Kd.R_drew)); exact (Kd.R_mono (Kd.R_far (p := ⟨gb697, 2, none⟩) (Kd.R_far (p := ⟨gb697, 1, none⟩) (Kd.R_far (p := ⟨gb697, 0, none⟩) (Kd.R_types HO696.out BK697.out (by decide)) (fun _ hk => hk.2) (.int .i64 t692)) (fun _ hk => hk.2) (.int .i64 t693)) (fun _ hk => hk.2) (.slice Ao45 t694.length co45)) (fun _ h_ => h_.1))))) (below_size (BL HB.out))) (blk_below (g := gb676) (o := .cells #[.int .i64 a0_0, .int .i64 a0_1, .slice A0_2 l0_2.length c0_2] 24 (0, 0)) (by (with_reducible repeat (first | refine blk_drewN ?_ _ | refine blk_drew ?_ | refine blk_alloc ?_ _)); refine blk_far ?_ NB676_697.out _; (with_reducible repeat (first | refine blk_drewN ?_ _ | refine blk_drew ?_ | refine blk_alloc ?_ _)); refine blk_far ?_ NB676_697.out _; (with_reducible repeat (first | refine blk_drewN ?_ _ | refine blk_drew ?_ | refine blk_alloc ?_ _)); refine blk_far ?_ NB676_697.out _; (with_reducible repeat (first | refine blk_drewN ?_ _ | refine blk_drew ?_ | refine blk_alloc ?_ _)); exact BK676.out) hb) (blk_below (g := gb677) (o := .cells #[.int .i64 a1_0, .int .i64 a1_1, .slice A1_2 l1_2.length c1_2] 24 (0, 0)) (by (with_reducible repeat (first | refine blk_drewN ?_ _ | refine blk_drew ?_ | refine blk_alloc ?_ _)); refine blk_far ?_ NB677_697.out _; (with_reducible repeat (first | refine blk_drewN ?_ _ | refine blk_drew ?_ | refine blk_alloc ?_ _)); refine blk_far ?_ NB677_697.out _; (with_reducible repeat (first | refine blk_drewN ?_ _ | refine blk_drew ?_ | refine blk_alloc ?_ _)); refine blk_far ?_ NB677_697.out _; (with_reducible repeat (first | refine blk_drewN ?_ _ | refine blk_drew ?_ | refine blk_alloc ?_ _)); exact BK677.out) hb) (blk_below (g := gb697) (o := .cells #[.int .i64 t692, .int .i64 t693, .slice Ao45 t694.length co45] 30 (0, 0)) (by (with_reducible repeat (first | refine blk_drewN ?_ _ | refine blk_drew ?_ | refine blk_alloc ?_ _)); refine blk_put (cs := #[.int .i64 t692, .int .i64 t693, .slice none 0 0]) ?_ 2 _ rfl; (with_reducible repeat (first | refine blk_drewN ?_ _ | refine blk_drew ?_ | refine blk_alloc ?_ _)); refine blk_put (cs := #[.int .i64 t692, .int .i64 0, .slice none 0 0]) ?_ 1 _ rfl; (with_reducible repeat (first | refine blk_drewN ?_ _ | refine blk_drew ?_ | refine blk_alloc ?_ _)); refine blk_put (cs := #[.int .i64 0, .int .i64 0, .slice none 0 0]) ?_ 0 _ rfl; (with_reducible repeat (first | refine blk_drewN ?_ _ | refine blk_drew ?_ | refine blk_alloc ?_ _)); exact BK697.out) hb) (below_step (BL HB.out) hb) ?_; clear HO684 HO689 HO696 BK676 BK677 BK697 HB; intro HO684 HO689 HO696 HO702 BK676 BK677 BK697 HB; (try clear hb); (try clear hb2); (try clear hk); (try clear hi); (try clear ho0)) | ((with_reducible refine gate_dst (N := 9) rfl ?_); refine boxE (N := 9) (cs := #[.int .i64 0, .int .i64 0, .slice none 0 0]) (t := 30) ?_; intro gb703 hg w48 hbox hb; refine E17 (Kd.R_below (PR HO684.out) hb) (Kd.R_below (PR HO689.out) hb) (Kd.R_below (PR HO696.out) hb) (Kd.R_below (PR HO702.out) hb) (bB BK676.out hb) (bB BK677.out hb) (bB BK697.out hb) (below_step (BL HB.out) hb) (hbox) (gwM hg (below_size (BL HB.out)) : w.heap.size ≤ gb703) (gwM hg (below_size (BL HB.out)) : w.heap.size ≤ gb703) ((nB BK676.out hg : gb676 ≠ gb703)) ((nC BK676.out hg : gb703 ≠ gb676)) ((nB BK677.out hg : gb677 ≠ gb703)) ((nC BK677.out hg : gb703 ≠ gb677)) ((nB BK697.out hg : gb697 ≠ gb703)) ((nC BK697.out hg : gb703 ≠ gb697)) ?_; clear HO684 HO689 HO696 HO702 BK676 BK677 BK697 HB; intro HO684 HO689 HO696 HO702 BK676 BK677 BK697 HB BK703 GW703 GE703 NB676_703 NB703_676 NB677_703 NB703_677 NB697_703 NB703_697; clear hb hbox hg; have hnb49 := NB703_676.out; have hnc49 := NB676_703.out; have hnb50 := NB703_677.out; have hnc50 := NB677_703.out; have hnb51 := NB703_697.out; have hnc51 := NB697_703.out; obtain ⟨hcz52_0, hcz52_1, hcz52_2, hfz52_0, hfz52_1, hfz52_2⟩ := cz3 BK703.out; obtain ⟨Ao53, co53, eo53⟩ := Kd.R_slice HO702.out; subst eo53; obtain ⟨hcz54_0, hcz54_1, hcz54_2, hfz54_0, hfz54_1, hfz54_2⟩ := cz3 BK697.out) | ((with_reducible refine gate_callee (f := 30) rfl ?_); refine goesM (N := (some 37)) #[.agg #[.int .i64 t692, .int .i64 t693, .slice Ao45 t694.length co45], .agg #[.int .i64 t698, .int .i64 t699, .slice Ao53 t700.length co53]] Try.func30 ?_; (with_reducible refine (impl_AreStates.calls k t692 t693 _ _ t694 t698 t699 _ _ t700 t704 t705 _ ?side1 ?side2 ?side3 ?side4 A24.out).mono ?_); (case side1 => refine (Kd.R_reads' (e := 73) (base := w.heap.size) (ok := fun k_ => (((True ∧ some k_ ≠ (.slice Ao36 t682.length co36 : Value).ownBlock) ∧ some k_ ≠ (.slice Ao37 t687.length co37 : Value).ownBlock) ∧ some k_ ≠ (.slice Ao53 t700.length co53 : Value).ownBlock)) (n := t694.length) (c := co45) ?_).2.2; exact (by (with_reducible repeat (first | apply Kd.R_alloc | apply Kd.R_drewN | apply Kd.R_drew)); exact (Kd.R_mono (Kd.R_far (p := ⟨gb703, 2, none⟩) (Kd.R_far (p := ⟨gb703, 1, none⟩) (Kd.R_far (p := ⟨gb703, 0, none⟩) (Kd.R_types HO696.out BK703.out (by decide)) (fun _ hk => hk.2) (.int .i64 t698)) (fun _ hk => hk.2) (.int .i64 t699)) (fun _ hk => hk.2) (.slice Ao53 t700.length co53)) (fun _ h_ => h_.1)))); (case side2 => exact (Kd.R_reads' HO696.out).2.1); (case side3 => refine (Kd.R_reads' (e := 73) (base := w.heap.size) (ok := fun k_ => (((True ∧ some k_ ≠ (.slice Ao36 t682.length co36 : Value).ownBlock) ∧ some k_ ≠ (.slice Ao37 t687.length co37 : Value).ownBlock) ∧ some k_ ≠ (.slice Ao45 t694.length co45 : Value).ownBlock)) (n := t700.length) (c := co53) ?_).2.2; exact (by (with_reducible repeat (first | apply Kd.R_alloc | apply Kd.R_drewN | apply Kd.R_drew)); exact (Kd.R_mono (Kd.R_far (p := ⟨gb703, 2, none⟩) (Kd.R_far (p := ⟨gb703, 1, none⟩) (Kd.R_far (p := ⟨gb703, 0, none⟩) (Kd.R_types HO702.out BK703.out (by decide)) (fun _ hk => hk.2) (.int .i64 t698)) (fun _ hk => hk.2) (.int .i64 t699)) (fun _ hk => hk.2) (.slice Ao53 t700.length co53)) (fun _ h_ => h_.1)))); (case side4 => exact (Kd.R_reads' HO702.out).2.1); rintro e w55 ⟨rfl, hb⟩; refine ⟨_, rfl, ?_⟩; refine E9 (Kd.R_below (by (with_reducible repeat (first | apply Kd.R_alloc | apply Kd.R_drewN | apply Kd.R_drew)); exact (Kd.R_mono (Kd.R_far (p := ⟨gb703, 2, none⟩) (Kd.R_far (p := ⟨gb703, 1, none⟩) (Kd.R_far (p := ⟨gb703, 0, none⟩) (Kd.R_types HO684.out BK703.out (by decide)) (fun _ hk => hk.2) (.int .i64 t698)) (fun _ hk => hk.2) (.int .i64 t699)) (fun _ hk => hk.2) (.slice Ao53 t700.length co53)) (fun _ h_ => h_.1))) hb) (Kd.R_below (by (with_reducible repeat (first | apply Kd.R_alloc | apply Kd.R_drewN | apply Kd.R_drew)); exact (Kd.R_mono (Kd.R_far (p := ⟨gb703, 2, none⟩) (Kd.R_far (p := ⟨gb703, 1, none⟩) (Kd.R_far (p := ⟨gb703, 0, none⟩) (Kd.R_types HO689.out BK703.out (by decide)) (fun _ hk => hk.2) (.int .i64 t698)) (fun _ hk => hk.2) (.int .i64 t699)) (fun _ hk => hk.2) (.slice Ao53 t700.length co53)) (fun _ h_ => h_.1))) hb) (Kd.R_below (by (with_reducible repeat (first | apply Kd.R_alloc | apply Kd.R_drewN | apply Kd.R_drew)); exact (Kd.R_mono (Kd.R_far (p := ⟨gb703, 2, none⟩) (Kd.R_far (p := ⟨gb703, 1, none⟩) (Kd.R_far (p := ⟨gb703, 0, none⟩) (Kd.R_types HO696.out BK703.out (by decide)) (fun _ hk => hk.2) (.int .i64 t698)) (fun _ hk => hk.2) (.int .i64 t699)) (fun _ hk => hk.2) (.slice Ao53 t700.length co53)) (fun _ h_ => h_.1))) hb) (Kd.R_below (by (with_reducible repeat (first | apply Kd.R_alloc | apply Kd.R_drewN | apply Kd.R_drew)); exact (Kd.R_mono (Kd.R_far (p := ⟨gb703, 2, none⟩) (Kd.R_far (p := ⟨gb703, 1, none⟩) (Kd.R_far (p := ⟨gb703, 0, none⟩) (Kd.R_types HO702.out BK703.out (by decide)) (fun _ hk => hk.2) (.int .i64 t698)) (fun _ hk => hk.2) (.int .i64 t699)) (fun _ hk => hk.2) (.slice Ao53 t700.length co53)) (fun _ h_ => h_.1))) hb) (blk_below (g := gb676) (o := .cells #[.int .i64 a0_0, .int .i64 a0_1, .slice A0_2 l0_2.length c0_2] 24 (0, 0)) (by (with_reducible repeat (first | refine blk_drewN ?_ _ | refine blk_drew ?_ | refine blk_alloc ?_ _)); refine blk_far ?_ NB676_703.out _; (with_reducible repeat (first | refine blk_drewN ?_ _ | refine blk_drew ?_ | refine blk_alloc ?_ _)); refine blk_far ?_ NB676_703.out _; (with_reducible repeat (first | refine blk_drewN ?_ _ | refine blk_drew ?_ | refine blk_alloc ?_ _)); refine blk_far ?_ NB676_703.out _; (with_reducible repeat (first | refine blk_drewN ?_ _ | refine blk_drew ?_ | refine blk_alloc ?_ _)); exact BK676.out) hb) (blk_below (g := gb677) (o := .cells #[.int .i64 a1_0, .int .i64 a1_1, .slice A1_2 l1_2.length c1_2] 24 (0, 0)) (by (with_reducible repeat (first | refine blk_drewN ?_ _ | refine blk_drew ?_ | refine blk_alloc ?_ _)); refine blk_far ?_ NB677_703.out _; (with_reducible repeat (first | refine blk_drewN ?_ _ | refine blk_drew ?_ | refine blk_alloc ?_ _)); refine blk_far ?_ NB677_703.out _; (with_reducible repeat (first | refine blk_drewN ?_ _ | refine blk_drew ?_ | refine blk_alloc ?_ _)); refine blk_far ?_ NB677_703.out _; (with_reducible repeat (first | refine blk_drewN ?_ _ | refine blk_drew ?_ | refine blk_alloc ?_ _)); exact BK677.out) hb) (blk_below (g := gb697) (o := .cells #[.int .i64 t692, .int .i64 t693, .slice Ao45 t694.length co45] 30 (0, 0)) (by (with_reducible repeat (first | refine blk_drewN ?_ _ | refine blk_drew ?_ | refine blk_alloc ?_ _)); refine blk_far ?_ NB697_703.out _; (with_reducible repeat (first | refine blk_drewN ?_ _ | refine blk_drew ?_ | refine blk_alloc ?_ _)); refine blk_far ?_ NB697_703.out _; (with_reducible repeat (first | refine blk_drewN ?_ _ | refine blk_drew ?_ | refine blk_alloc ?_ _)); refine blk_far ?_ NB697_703.out _; (with_reducible repeat (first | refine blk_drewN ?_ _ | refine blk_drew ?_ | refine blk_alloc ?_ _)); exact BK697.out) hb) (blk_below (g := gb703) (o := .cells #[.int .i64 t698, .int .i64 t699, .slice Ao53 t700.length co53] 30 (0, 0)) (by (with_reducible repeat (first | refine blk_drewN ?_ _ | refine blk_drew ?_ | refine blk_alloc ?_ _)); refine blk_put (cs := #[.int .i64 t698, .int .i64 t699, .slice none 0 0]) ?_ 2 _ rfl; (with_reducible repeat (first | refine blk_drewN ?_ _ | refine blk_drew ?_ | refine blk_alloc ?_ _)); refine blk_put (cs := #[.int .i64 t698, .int .i64 0, .slice none 0 0]) ?_ 1 _ rfl; (with_reducible repeat (first | refine blk_drewN ?_ _ | refine blk_drew ?_ | refine blk_alloc ?_ _)); refine blk_put (cs := #[.int .i64 0, .int .i64 0, .slice none 0 0]) ?_ 0 _ rfl; (with_reducible repeat (first | refine blk_drewN ?_ _ | refine blk_drew ?_ | refine blk_alloc ?_ _)); exact BK703.out) hb) (below_step (BL HB.out) hb) ?_; clear HO684 HO689 HO696 HO702 BK676 BK677 BK697 BK703 HB; intro HO684 HO689 HO696 HO702 BK676 BK677 BK697 BK703 HB; (try clear hb); (try clear hb2); (try clear hk); (try clear hi)))
  (try simp only [Act.put, List.setIfInBounds_toArray, List.set_cons_zero, List.set_cons_succ])
  go_cut [47] (fun v47 wc => ∃ (kq : Nat) (x47_24 : Bool), v47 = .bool x47_24 ∧ Aside0 (laws_FnExactAreStates.j0 kq x47_24 a0_0 a0_1 l0_2 a1_0 a1_1 l1_2 t692 t693 t694 t698 t699 t700 = some true) ∧ Aside0 (kq ≤ k) ∧ Aside0 (Kd.R k73 73 wc w.heap.size (fun k_ => some k_ ≠ ((.slice Ao53 t700.length co53) : Value).ownBlock) (.slice Ao45 t694.length co45) t694) ∧ Aside0 (Kd.R k73 73 wc w.heap.size (fun k_ => some k_ ≠ ((.slice Ao45 t694.length co45) : Value).ownBlock) (.slice Ao53 t700.length co53) t700) ∧ Aside0 (wc.heap[gb676]? = some (.cells #[.int .i64 a0_0, .int .i64 a0_1, (.slice A0_2 l0_2.length c0_2)] 24 (0, 0))) ∧ Aside0 (wc.heap[gb677]? = some (.cells #[.int .i64 a1_0, .int .i64 a1_1, (.slice A1_2 l1_2.length c1_2)] 24 (0, 0))) ∧ Aside0 (wc.heap[gb697]? = some (.cells #[.int .i64 t692, .int .i64 t693, (.slice Ao45 t694.length co45)] 30 (0, 0))) ∧ Aside0 (wc.heap[gb703]? = some (.cells #[.int .i64 t698, .int .i64 t699, (.slice Ao53 t700.length co53)] 30 (0, 0))) ∧ Aside0 (Below w.heap.size w wc))
  case first =>
    have H := HC25.out
    clear HC25
    replace H := ifQ H; rcases H with ⟨c56, H⟩ | ⟨c56, H⟩
    · exact absurd H (by cases k <;> simp [laws_FnExactAreStates.j0])
    have c56b0 : (t704 != t690) = false := by simpa using c56
    (try (have c56b1 : decide (t704 = t690) = true := by simpa using c56))
    (try (have c56b2 : (t704 == t690) = true := by simpa using c56))
    clear c56
    (first | rw [c56b0] | (simp only [i64_w, i32_w]; rw [c56b0]) | skip)
    have H' := Aside0.mk H
    clear H
    go_wp2
    go_meet
    case rel => exact ⟨_, ((t705 != t691)), RG, H', ⟨by first | omega | exact Nat.le_refl _⟩, ⟨by (with_reducible repeat (first | apply Kd.R_alloc | apply Kd.R_drewN | apply Kd.R_drew)); exact Kd.R_mono HO696.out (fun _ hk => hk.2)⟩, ⟨by (with_reducible repeat (first | apply Kd.R_alloc | apply Kd.R_drewN | apply Kd.R_drew)); exact Kd.R_mono HO702.out (fun _ hk => hk.2)⟩, ⟨PB BK676.out⟩, ⟨PB BK677.out⟩, ⟨PB BK697.out⟩, ⟨PB BK703.out⟩, ⟨BL HB.out⟩⟩
  clear HC25
  try clear c4b0; try clear c11b0; try clear hcz29_0; try clear hcz29_1; try clear hcz29_2; try clear hcz31_0; try clear hcz31_1; try clear hcz31_2; try clear hcz39_0; try clear hcz39_1; try clear hcz39_2; try clear hcz44_0; try clear hcz44_1; try clear hcz44_2; try clear hcz46_0; try clear hcz46_1; try clear hcz46_2; try clear hcz52_0; try clear hcz52_1; try clear hcz52_2; try clear hcz54_0; try clear hcz54_1; try clear hcz54_2; try clear hfz29_0; try clear hfz29_1; try clear hfz29_2; try clear hfz31_0; try clear hfz31_1; try clear hfz31_2; try clear hfz39_0; try clear hfz39_1; try clear hfz39_2; try clear hfz44_0; try clear hfz44_1; try clear hfz44_2; try clear hfz46_0; try clear hfz46_1; try clear hfz46_2; try clear hfz52_0; try clear hfz52_1; try clear hfz52_2; try clear hfz54_0; try clear hfz54_1; try clear hfz54_2
  obtain ⟨kq, x47_24, rfl, HA, HJ24, HO_698002, HO_704002, BK676, BK677, BK697, BK703, HB⟩ := hcut
  cases kq with
  | zero => exact absurd HA.out (by simp [laws_FnExactAreStates.j0])
  | succ kj24 => ?_
  have H := HA.out
  clear HA
  simp only [laws_FnExactAreStates.j0] at H
  by_cases c57 : x47_24 = true
  · subst c57
    have H1 : (some false) = some true := by rw [if_pos rfl] at H; exact H
    exact absurd H1 (by simp)
  replace c57 := Bool.eq_false_iff.mpr c57
  subst c57
  have H1 : ((laws_toBoard.f kj24 a0_0 a0_1 l0_2).bind fun bt706 => ((laws_eqBoard.f kj24 t692 t693 t694 bt706.1 bt706.2.1 bt706.2.2).bind fun t711 => (if t711 = true then ((laws_toBoard.f kj24 a1_0 a1_1 l1_2).bind fun bt712 => ((laws_eqBoard.f kj24 t698 t699 t700 bt712.1 bt712.2.1 bt712.2.2).bind fun t717 => (if t717 = true then (some true) else (some false)))) else (some false)))) = some true := by rw [if_neg (show ¬ (false = true) by decide)] at H; exact H
  clear H
  have H := H1
  clear H1
  replace H := bindA H; obtain ⟨⟨t706, t707, t708⟩, A58, H⟩ := H
  dsimp only at H
  replace H := bindA H; obtain ⟨t711, A59, H⟩ := H
  by_cases c60 : t711 = true
  · subst c60
    have H1 : ((laws_toBoard.f kj24 a1_0 a1_1 l1_2).bind fun bt712 => ((laws_eqBoard.f kj24 t698 t699 t700 bt712.1 bt712.2.1 bt712.2.2).bind fun t717 => (if t717 = true then (some true) else (some false)))) = some true := by rw [if_pos rfl] at H; exact H
    clear H
    have H := H1
    clear H1
    replace H := bindA H; obtain ⟨⟨t712, t713, t714⟩, A61, H⟩ := H
    dsimp only at H
    replace H := bindA H; obtain ⟨t717, A62, H⟩ := H
    by_cases c63 : t717 = true
    · subst c63
      have H1 : (some true) = some true := by first | (rw [if_pos rfl] at H; exact H) | rfl
      clear H
      have H := H1
      clear H1
      first | (obtain rfl := Option.some.inj H) | clear H
      try go_wp2
      refine E7 (Kd.R_drew HO_698002.out) (Kd.R_drew HO_704002.out) (blk_drew BK676.out) (blk_drew BK677.out) (blk_drew BK697.out) (blk_drew BK703.out) (below_drew1 HB.out) ?_
      clear HO_698002 HO_704002 BK676 BK677 BK697 BK703 HB
      intro HO_698002 HO_704002 BK676 BK677 BK697 BK703 HB
      refine start_ (n := 5) (S := fun w' => w'.cell? ⟨gb697, 0, none⟩ = some (.int .i64 t692) ∧ w'.cell? ⟨gb697, 1, none⟩ = some (.int .i64 t693) ∧ w'.cell? ⟨gb697, 2, none⟩ = some (.slice Ao45 t694.length co45) ∧ w'.cell? ⟨gb676, 0, none⟩ = some (.int .i64 a0_0) ∧ w'.cell? ⟨gb676, 1, none⟩ = some (.int .i64 a0_1) ∧ w'.cell? ⟨gb676, 2, none⟩ = some (.slice A0_2 l0_2.length c0_2)) (ds := []) #[false, false, false, false, false] (by kernel_rfl) rfl rfl ⟨(blk_cell BK697.out 0).trans rfl, (blk_cell BK697.out 1).trans rfl, (blk_cell BK697.out 2).trans rfl, (blk_cell BK676.out 0).trans rfl, (blk_cell BK676.out 1).trans rfl, (blk_cell BK676.out 2).trans rfl⟩ (fun hHeld => ?_)
      generalize wc.drew = w64 at HO_698002 HO_704002 BK676 BK677 BK697 BK703 HB hHeld ⊢
      refine take_ (i := 0) (N := some 48) (v := ?_) (a' := ?_) #[true, false, false, false, false] rfl rfl (by kernel_rfl) (fun _ _ _ h => h) (Or.inl ⟨by rfl, ?_⟩) hHeld ?_ ?_
      rotate_left
      · rintro w' ⟨s0, s1, s2, s3, s4, s5⟩
        go_simp
        with_reducible rfl
      rotate_left
      · simp only [Act.put, List.setIfInBounds_toArray, List.set_cons_zero, List.set_cons_succ, i64_w, i32_w]
        rfl
      refine take_ (i := 1) (N := some 49) (v := ?_) (a' := ?_) #[true, true, false, false, false] rfl rfl (by kernel_rfl) (fun _ _ _ h => h) (Or.inl ⟨by rfl, ?_⟩) hHeld ?_ ?_
      rotate_left
      · rintro w' ⟨s0, s1, s2, s3, s4, s5⟩
        go_simp
        with_reducible rfl
      rotate_left
      · simp only [Act.put, List.setIfInBounds_toArray, List.set_cons_zero, List.set_cons_succ, i64_w, i32_w]
        rfl
      refine one_ (i := 2) (N := some 50) #[true, true, true, false, false] rfl rfl (by kernel_rfl) (by decide) (fun K hK => ?_)
      refine goes_ Try.func15 (by kernel_rfl) rfl #[.agg #[.int .i64 a0_0, .int .i64 a0_1, .slice A0_2 l0_2.length c0_2]] (by rfl) rfl rfl (by (try simp only [List.map_toArray, List.map_cons, List.map_nil]); first | done | rfl | (simp only [List.length_drop, List.length_take]; rfl)) ?_
      with_reducible refine (laws_toBoard.calls kj24 a0_0 a0_1 _ _ l0_2 t706 t707 t708 _ ?side1 ?side2 A58.out).mono ?_
      (case side1 => exact CB (Kd.C_below HR0_2.out HB.out))
      (case side2 => exact HC0_2.out)
      rintro e w65 ⟨v709, rfl, ho0, hb⟩
      refine ⟨_, rfl, ?_⟩
      refine E8 (Kd.R_elder' (PR HO_698002.out) (Kd.R_base ho0) hb) (Kd.R_elder' (PR HO_704002.out) (Kd.R_base ho0) hb) (Kd.R_lower (Kd.R_new' (Kd.R_new' ho0 (Kd.R_lt (PR HO_698002.out))) (Kd.R_lt (PR HO_704002.out))) (below_size (BL HB.out))) (bB BK676.out hb) (bB BK677.out hb) (bB BK697.out hb) (bB BK703.out hb) (below_step (BL HB.out) hb) ?_
      clear HO_698002 HO_704002 BK676 BK677 BK697 BK703 HB
      intro HO_698002 HO_704002 HO710 BK676 BK677 BK697 BK703 HB
      (try clear hb)
      (try clear hb2)
      (try clear hk)
      (try clear hi)
      (try clear ho0)
      obtain ⟨Ao66, co66, eo66⟩ := Kd.R_slice HO710.out
      (first | subst eo66 | (injection eo66 with f1_ f2_ f3_; have f4_ := f1_.symm; have f5_ := f3_.symm; clear f1_ f2_ f3_; subst f4_; subst f5_))
      refine hK.out _ _ ⟨(blk_cell BK697.out 0).trans rfl, (blk_cell BK697.out 1).trans rfl, (blk_cell BK697.out 2).trans rfl, (blk_cell BK676.out 0).trans rfl, (blk_cell BK676.out 1).trans rfl, (blk_cell BK676.out 2).trans rfl⟩ (fun hHeld => ?_)
      clear hK K
      refine norm_ (a' := ?_) ?_ ?_
      rotate_left
      · show Act.put _ (some 50) _ = _
        simp only [Act.put, List.setIfInBounds_toArray, List.set_cons_zero, List.set_cons_succ, i64_w, i32_w]
        rfl
      refine one_ (i := 3) (N := some 51) #[true, true, true, true, false] rfl rfl (by kernel_rfl) (by decide) (fun K hK => ?_)
      refine goes_ Try.func17 (by kernel_rfl) rfl #[.agg #[.int .i64 t692, .int .i64 t693, .slice Ao45 t694.length co45], .agg #[.int .i64 t706, .int .i64 t707, .slice Ao66 t708.length co66]] (by rfl) rfl rfl (by (try simp only [List.map_toArray, List.map_cons, List.map_nil]); first | done | rfl | (simp only [List.length_drop, List.length_take]; rfl)) ?_
      with_reducible refine (laws_eqBoard.calls kj24 t692 t693 _ _ t694 t706 t707 _ _ t708 true _ ?side1 ?side2 ?side3 ?side4 A59.out).mono ?_
      (case side1 => repeat (first | exact (Kd.R_reads' HO_698002.out).2.2 | (with_reducible refine Kd.C_alloc ?_ _) | (with_reducible refine Kd.C_drewN ?_ _) | (with_reducible refine Kd.C_drew ?_)))
      (case side2 => exact (Kd.R_reads' HO_698002.out).2.1)
      (case side3 => repeat (first | exact (Kd.R_reads' HO710.out).2.2 | (with_reducible refine Kd.C_alloc ?_ _) | (with_reducible refine Kd.C_drewN ?_ _) | (with_reducible refine Kd.C_drew ?_)))
      (case side4 => exact (Kd.R_reads' HO710.out).2.1)
      rintro e w67 ⟨rfl, hb⟩
      refine ⟨_, rfl, ?_⟩
      refine E8 (Kd.R_below (PR HO_698002.out) hb) (Kd.R_below (PR HO_704002.out) hb) (Kd.R_below (PR HO710.out) hb) (bB BK676.out hb) (bB BK677.out hb) (bB BK697.out hb) (bB BK703.out hb) (below_step (BL HB.out) hb) ?_
      clear HO_698002 HO_704002 HO710 BK676 BK677 BK697 BK703 HB
      intro HO_698002 HO_704002 HO710 BK676 BK677 BK697 BK703 HB
      (try clear hb)
      (try clear hb2)
      (try clear hk)
      (try clear hi)
      refine hK.out _ _ ⟨(blk_cell BK697.out 0).trans rfl, (blk_cell BK697.out 1).trans rfl, (blk_cell BK697.out 2).trans rfl, (blk_cell BK676.out 0).trans rfl, (blk_cell BK676.out 1).trans rfl, (blk_cell BK676.out 2).trans rfl⟩ (fun hHeld => ?_)
      clear hK K
      refine norm_ (a' := ?_) ?_ ?_
      rotate_left
      · show Act.put _ (some 51) _ = _
        simp only [Act.put, List.setIfInBounds_toArray, List.set_cons_zero, List.set_cons_succ, i64_w, i32_w]
        rfl
      refine pure_ (i := 4) (N := some 52) (v := ?_) (a' := ?_) #[true, true, true, true, true] rfl rfl (by kernel_rfl) (fun _ _ _ h => h) (Or.inl ⟨by rfl, ?_⟩) ?_ ?_
      rotate_left
      · intro w'
        go_simp
        with_reducible rfl
      rotate_left
      · simp only [Act.put, List.setIfInBounds_toArray, List.set_cons_zero, List.set_cons_succ, i64_w, i32_w]
        rfl
      refine done_ (by kernel_rfl) ?_
      try go_wp2
      refine E8 (Kd.R_drew HO_698002.out) (Kd.R_drew HO_704002.out) (Kd.R_drew HO710.out) (blk_drew BK676.out) (blk_drew BK677.out) (blk_drew BK697.out) (blk_drew BK703.out) (below_drew1 HB.out) ?_
      clear HO_698002 HO_704002 HO710 BK676 BK677 BK697 BK703 HB
      intro HO_698002 HO_704002 HO710 BK676 BK677 BK697 BK703 HB
      refine start_ (n := 5) (S := fun w' => w'.cell? ⟨gb703, 0, none⟩ = some (.int .i64 t698) ∧ w'.cell? ⟨gb703, 1, none⟩ = some (.int .i64 t699) ∧ w'.cell? ⟨gb703, 2, none⟩ = some (.slice Ao53 t700.length co53) ∧ w'.cell? ⟨gb677, 0, none⟩ = some (.int .i64 a1_0) ∧ w'.cell? ⟨gb677, 1, none⟩ = some (.int .i64 a1_1) ∧ w'.cell? ⟨gb677, 2, none⟩ = some (.slice A1_2 l1_2.length c1_2)) (ds := []) #[false, false, false, false, false] (by kernel_rfl) rfl rfl ⟨(blk_cell BK703.out 0).trans rfl, (blk_cell BK703.out 1).trans rfl, (blk_cell BK703.out 2).trans rfl, (blk_cell BK677.out 0).trans rfl, (blk_cell BK677.out 1).trans rfl, (blk_cell BK677.out 2).trans rfl⟩ (fun hHeld => ?_)
      generalize w67.drew = w68 at HO_698002 HO_704002 HO710 BK676 BK677 BK697 BK703 HB hHeld ⊢
      refine take_ (i := 0) (N := some 53) (v := ?_) (a' := ?_) #[true, false, false, false, false] rfl rfl (by kernel_rfl) (fun _ _ _ h => h) (Or.inl ⟨by rfl, ?_⟩) hHeld ?_ ?_
      rotate_left
      · rintro w' ⟨s0, s1, s2, s3, s4, s5⟩
        go_simp
        with_reducible rfl
      rotate_left
      · simp only [Act.put, List.setIfInBounds_toArray, List.set_cons_zero, List.set_cons_succ, i64_w, i32_w]
        rfl
      refine take_ (i := 1) (N := some 54) (v := ?_) (a' := ?_) #[true, true, false, false, false] rfl rfl (by kernel_rfl) (fun _ _ _ h => h) (Or.inl ⟨by rfl, ?_⟩) hHeld ?_ ?_
      rotate_left
      · rintro w' ⟨s0, s1, s2, s3, s4, s5⟩
        go_simp
        with_reducible rfl
      rotate_left
      · simp only [Act.put, List.setIfInBounds_toArray, List.set_cons_zero, List.set_cons_succ, i64_w, i32_w]
        rfl
      refine one_ (i := 2) (N := some 55) #[true, true, true, false, false] rfl rfl (by kernel_rfl) (by decide) (fun K hK => ?_)
      refine goes_ Try.func15 (by kernel_rfl) rfl #[.agg #[.int .i64 a1_0, .int .i64 a1_1, .slice A1_2 l1_2.length c1_2]] (by rfl) rfl rfl (by (try simp only [List.map_toArray, List.map_cons, List.map_nil]); first | done | rfl | (simp only [List.length_drop, List.length_take]; rfl)) ?_
      with_reducible refine (laws_toBoard.calls kj24 a1_0 a1_1 _ _ l1_2 t712 t713 t714 _ ?side1 ?side2 A61.out).mono ?_
      (case side1 => exact CB (Kd.C_below HR1_2.out HB.out))
      (case side2 => exact HC1_2.out)
      rintro e w69 ⟨v715, rfl, ho0, hb⟩
      refine ⟨_, rfl, ?_⟩
      refine E9 (Kd.R_elder' (PR HO_698002.out) (Kd.R_base ho0) hb) (Kd.R_elder' (PR HO_704002.out) (Kd.R_base ho0) hb) (Kd.R_elder' (PR HO710.out) (Kd.R_base ho0) hb) (Kd.R_lower (Kd.R_new' (Kd.R_new' (Kd.R_new' ho0 (Kd.R_lt (PR HO_698002.out))) (Kd.R_lt (PR HO_704002.out))) (Kd.R_lt (PR HO710.out))) (below_size (BL HB.out))) (bB BK676.out hb) (bB BK677.out hb) (bB BK697.out hb) (bB BK703.out hb) (below_step (BL HB.out) hb) ?_
      clear HO_698002 HO_704002 HO710 BK676 BK677 BK697 BK703 HB
      intro HO_698002 HO_704002 HO710 HO716 BK676 BK677 BK697 BK703 HB
      (try clear hb)
      (try clear hb2)
      (try clear hk)
      (try clear hi)
      (try clear ho0)
      obtain ⟨Ao70, co70, eo70⟩ := Kd.R_slice HO716.out
      (first | subst eo70 | (injection eo70 with f1_ f2_ f3_; have f4_ := f1_.symm; have f5_ := f3_.symm; clear f1_ f2_ f3_; subst f4_; subst f5_))
      refine hK.out _ _ ⟨(blk_cell BK703.out 0).trans rfl, (blk_cell BK703.out 1).trans rfl, (blk_cell BK703.out 2).trans rfl, (blk_cell BK677.out 0).trans rfl, (blk_cell BK677.out 1).trans rfl, (blk_cell BK677.out 2).trans rfl⟩ (fun hHeld => ?_)
      clear hK K
      refine norm_ (a' := ?_) ?_ ?_
      rotate_left
      · show Act.put _ (some 55) _ = _
        simp only [Act.put, List.setIfInBounds_toArray, List.set_cons_zero, List.set_cons_succ, i64_w, i32_w]
        rfl
      refine one_ (i := 3) (N := some 56) #[true, true, true, true, false] rfl rfl (by kernel_rfl) (by decide) (fun K hK => ?_)
      refine goes_ Try.func17 (by kernel_rfl) rfl #[.agg #[.int .i64 t698, .int .i64 t699, .slice Ao53 t700.length co53], .agg #[.int .i64 t712, .int .i64 t713, .slice Ao70 t714.length co70]] (by rfl) rfl rfl (by (try simp only [List.map_toArray, List.map_cons, List.map_nil]); first | done | rfl | (simp only [List.length_drop, List.length_take]; rfl)) ?_
      with_reducible refine (laws_eqBoard.calls kj24 t698 t699 _ _ t700 t712 t713 _ _ t714 true _ ?side1 ?side2 ?side3 ?side4 A62.out).mono ?_
      (case side1 => repeat (first | exact (Kd.R_reads' HO_704002.out).2.2 | (with_reducible refine Kd.C_alloc ?_ _) | (with_reducible refine Kd.C_drewN ?_ _) | (with_reducible refine Kd.C_drew ?_)))
      (case side2 => exact (Kd.R_reads' HO_704002.out).2.1)
      (case side3 => repeat (first | exact (Kd.R_reads' HO716.out).2.2 | (with_reducible refine Kd.C_alloc ?_ _) | (with_reducible refine Kd.C_drewN ?_ _) | (with_reducible refine Kd.C_drew ?_)))
      (case side4 => exact (Kd.R_reads' HO716.out).2.1)
      rintro e w71 ⟨rfl, hb⟩
      refine ⟨_, rfl, ?_⟩
      refine E9 (Kd.R_below (PR HO_698002.out) hb) (Kd.R_below (PR HO_704002.out) hb) (Kd.R_below (PR HO710.out) hb) (Kd.R_below (PR HO716.out) hb) (bB BK676.out hb) (bB BK677.out hb) (bB BK697.out hb) (bB BK703.out hb) (below_step (BL HB.out) hb) ?_
      clear HO_698002 HO_704002 HO710 HO716 BK676 BK677 BK697 BK703 HB
      intro HO_698002 HO_704002 HO710 HO716 BK676 BK677 BK697 BK703 HB
      (try clear hb)
      (try clear hb2)
      (try clear hk)
      (try clear hi)
      refine hK.out _ _ ⟨(blk_cell BK703.out 0).trans rfl, (blk_cell BK703.out 1).trans rfl, (blk_cell BK703.out 2).trans rfl, (blk_cell BK677.out 0).trans rfl, (blk_cell BK677.out 1).trans rfl, (blk_cell BK677.out 2).trans rfl⟩ (fun hHeld => ?_)
      clear hK K
      refine norm_ (a' := ?_) ?_ ?_
      rotate_left
      · show Act.put _ (some 56) _ = _
        simp only [Act.put, List.setIfInBounds_toArray, List.set_cons_zero, List.set_cons_succ, i64_w, i32_w]
        rfl
      refine pure_ (i := 4) (N := some 57) (v := ?_) (a' := ?_) #[true, true, true, true, true] rfl rfl (by kernel_rfl) (fun _ _ _ h => h) (Or.inl ⟨by rfl, ?_⟩) ?_ ?_
      rotate_left
      · intro w'
        go_simp
        with_reducible rfl
      rotate_left
      · simp only [Act.put, List.setIfInBounds_toArray, List.set_cons_zero, List.set_cons_succ, i64_w, i32_w]
        rfl
      refine done_ (by kernel_rfl) ?_
      try go_wp2
      go_ret
      exact ⟨RF, BL HB.out⟩
    replace c63 := Bool.eq_false_iff.mpr c63
    subst c63
    have H1 : (some false) = some true := by rw [if_neg (show ¬ (false = true) by decide)] at H; exact H
    exact absurd H1 (by simp)
  replace c60 := Bool.eq_false_iff.mpr c60
  subst c60
  have H1 : (some false) = some true := by rw [if_neg (show ¬ (false = true) by decide)] at H; exact H
  exact absurd H1 (by simp)
end Go.Proofs.Ytakihdabbpconaa.P
