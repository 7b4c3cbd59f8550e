-- PRINTED by print.py (a twelfth state) out of the translation. Not trusted: Lean checks it.
import Derived.Test.YtakihdabbpconaaPx0
import Derived.Test.YtakihdabbpconaaPx2
import Derived.Test.YtakihdabbpconaaPx3
import Derived.Test.YtakihdabbpconaaPx5
import Derived.Test.YtakihdabbpconaaPx6
import Derived.Test.YtakihdabbpconaaPx8
import Derived.Test.YtakihdabbpconaaPx11
import Derived.Test.YtakihdabbpconaaPx14
import Derived.Test.YtakihdabbpconaaPx15
namespace Go.Proofs.Ytakihdabbpconaa.P
open Go.RowKit Go.Proofs.YtakihdabbpconaaW.PrintWords Go.Proofs.YtakihdabbpconaaW.PrintLast Go.Proofs.YtakihdabbpconaaW.PrintMore
attribute [local go_sem] max2_int min2_int max_two min_two max_three min_three max_four min_four   -- for this text's walks alone
set_option linter.unusedVariables false
set_option linter.unusedSimpArgs false

/-! ### spec_TurnedUnits: function 40 -/
def spec_TurnedUnits.f (k : Nat) (a0_0 : Int) (a0_1 : Int) (l0_2 : List (S73)) (a1_0 : Int) (a1_1 : Int) (l1_2 : List (S73)) : Option (List Int × Bool) := (spec_boSize.f k a0_0 a0_1 l0_2 a1_0 a1_1 l1_2).bind fun t974 => (if t974 = true then ((spec_saTurned.f k a0_0 a0_1 l0_2 a1_0 a1_1 l1_2).bind fun bt975 => (if bt975.2 = true then (some (bt975.1, true)) else (some (([] : List Int), false)))) else (some (([] : List Int), false)))
theorem spec_TurnedUnits.mono : ∀ a0 a1 a2 a3 a4 a5 k, LeO (spec_TurnedUnits.f k a0 a1 a2 a3 a4 a5) (spec_TurnedUnits.f (k + 1) a0 a1 a2 a3 a4 a5) := by
  intro a0 a1 a2 a3 a4 a5 k
  unfold spec_TurnedUnits.f
  repeat' first
      | (with_reducible exact spec_boSize.mono _ _ _ _ _ _ _)
      | (with_reducible exact spec_saTurned.mono _ _ _ _ _ _ _)
      | (with_reducible exact LeO.refl _)
      | (with_reducible exact LeO.none _)
      | (with_reducible refine LeO.ite ?_ ?_)
      | (with_reducible refine LeO.bind ?_ (fun _ => ?_))
      | exact spec_boSize.mono _ _ _ _ _ _ _
      | exact spec_saTurned.mono _ _ _ _ _ _ _
      | exact LeO.none _
      | refine LeO.ite ?_ ?_
      | refine LeO.bind ?_ (fun _ => ?_)
set_option maxHeartbeats 8000000 in
set_option maxRecDepth 100000 in
theorem spec_TurnedUnits.calls (k : Nat) (a0_0 : Int) (a0_1 : Int) (A0_2 : Option Addr) (c0_2 : Nat) (l0_2 : List (S73)) (a1_0 : Int) (a1_1 : Int) (A1_2 : Option Addr) (c1_2 : Nat) (l1_2 : List (S73)) (r1 : List Int) (r2 : Bool) (w : World) (hr0_2 : Kd.C k73 w A0_2 l0_2.length l0_2) (hc0_2 : l0_2.length ≤ c0_2) (hr1_2 : Kd.C k73 w A1_2 l1_2.length l1_2) (hc1_2 : l1_2.length ≤ c1_2) (h : spec_TurnedUnits.f k a0_0 a0_1 l0_2 a1_0 a1_1 l1_2 = some (r1, r2)) :
    Calls Try.prog 40 #[.agg #[.int .i64 a0_0, .int .i64 a0_1, .slice A0_2 l0_2.length c0_2], .agg #[.int .i64 a1_0, .int .i64 a1_1, .slice A1_2 l1_2.length c1_2]] w fun e w' => ∃ v0_ : Value, e = .returned (.tuple #[v0_, .bool r2]) ∧ Kd.R (Kd.int .i64) 3 w' w.heap.size (fun _ => True) v0_ r1 ∧ Below w.heap.size w w' := by
  have hu30 := Try.underlying30
  have HR0_2 := Aside0.mk hr0_2
  have HC0_2 := Aside0.mk hc0_2
  clear hr0_2 hc0_2
  have HR1_2 := Aside0.mk hr1_2
  have HC1_2 := Aside0.mk hc1_2
  clear hr1_2 hc1_2
  have HB := Aside0.mk (Below.refl w.heap.size w)
  have H := h
  clear h
  unfold spec_TurnedUnits.f at H
  replace H := bindA H; obtain ⟨t974, A3, H⟩ := H
  replace H := ifX H; rcases H with ⟨rfl, H⟩ | ⟨rfl, H⟩
  · replace H := bindA H; obtain ⟨⟨t975, t978⟩, A5, H⟩ := H
    dsimp only at H
    replace H := ifX H; rcases H with ⟨rfl, H⟩ | ⟨rfl, H⟩
    · simp only [Option.some.injEq, Prod.mk.injEq] at H
      obtain ⟨rfl, rfl⟩ := H
      go_enter Try.func40, Try.ntmps40
      go_wp2_with (first | ((with_reducible refine gate_dst (N := 2) rfl ?_); refine boxE (N := 2) (cs := #[.int .i64 a0_0, .int .i64 a0_1, .slice A0_2 l0_2.length c0_2]) (t := 30) ?_; intro gb972 hg w7 hbox hb; refine E4b HB.out hg hbox hb ?_; clear HB; intro HB BK972 GW972 GE972; clear hb hbox hg) | ((with_reducible refine gate_dst (N := 3) rfl ?_); refine boxE (N := 3) (cs := #[.int .i64 a1_0, .int .i64 a1_1, .slice A1_2 l1_2.length c1_2]) (t := 30) ?_; intro gb973 hg w8 hbox hb; refine E7 (bB BK972.out hb) (below_step (BL HB.out) hb) (hbox) (gwM hg (below_size (BL HB.out)) : w.heap.size ≤ gb973) (gwM hg (below_size (BL HB.out)) : w.heap.size ≤ gb973) ((nB BK972.out hg : gb972 ≠ gb973)) ((nC BK972.out hg : gb973 ≠ gb972)) ?_; clear BK972 HB; intro BK972 HB BK973 GW973 GE973 NB972_973 NB973_972; clear hb hbox hg; have hnb9 := NB972_973.out; have hnc9 := NB973_972.out; obtain ⟨hcz10_0, hcz10_1, hcz10_2, hfz10_0, hfz10_1, hfz10_2⟩ := cz3 BK972.out; obtain ⟨hcz11_0, hcz11_1, hcz11_2, hfz11_0, hfz11_1, hfz11_2⟩ := cz3 BK973.out) | ((with_reducible refine gate_callee (f := 65) rfl ?_); refine goesM (N := (some 10)) #[.agg #[.int .i64 a0_0, .int .i64 a0_1, .slice A0_2 l0_2.length c0_2], .agg #[.int .i64 a1_0, .int .i64 a1_1, .slice A1_2 l1_2.length c1_2]] Try.func65 ?_; (with_reducible refine (spec_boSize.calls k a0_0 a0_1 _ _ l0_2 a1_0 a1_1 _ _ l1_2 true _ ?side1 ?side2 ?side3 ?side4 A3.out).mono ?_); (case side1 => exact CB (Kd.C_below HR0_2.out HB.out)); (case side2 => exact HC0_2.out); (case side3 => exact CB (Kd.C_below HR1_2.out HB.out)); (case side4 => exact HC1_2.out); rintro e w12 ⟨rfl, hb⟩; refine ⟨_, rfl, ?_⟩; refine E3 (bB BK972.out hb) (bB BK973.out hb) (below_step (BL HB.out) hb) ?_; clear BK972 BK973 HB; intro BK972 BK973 HB; (try clear hb); (try clear hb2); (try clear hk); (try clear hi); obtain ⟨hcz13_0, hcz13_1, hcz13_2, hfz13_0, hfz13_1, hfz13_2⟩ := cz3 BK972.out; obtain ⟨hcz14_0, hcz14_1, hcz14_2, hfz14_0, hfz14_1, hfz14_2⟩ := cz3 BK973.out) | ((with_reducible refine gate_callee (f := 66) rfl ?_); refine goesM (N := (some 15)) #[.agg #[.int .i64 a0_0, .int .i64 a0_1, .slice A0_2 l0_2.length c0_2], .agg #[.int .i64 a1_0, .int .i64 a1_1, .slice A1_2 l1_2.length c1_2]] Try.func66 ?_; (with_reducible refine (spec_saTurned.calls k a0_0 a0_1 _ _ l0_2 a1_0 a1_1 _ _ l1_2 t975 true _ ?side1 ?side2 ?side3 ?side4 A5.out).mono ?_); (case side1 => exact CB (Kd.C_below HR0_2.out HB.out)); (case side2 => exact HC0_2.out); (case side3 => exact CB (Kd.C_below HR1_2.out HB.out)); (case side4 => exact HC1_2.out); rintro e w15 ⟨v976, rfl, ho0, hb⟩; refine ⟨_, rfl, ?_⟩; refine E4 (Kd.R_lower ho0 (below_size (BL HB.out))) (bB BK972.out hb) (bB BK973.out hb) (below_step (BL HB.out) hb) ?_; clear BK972 BK973 HB; intro HO977 BK972 BK973 HB; (try clear hb); (try clear hb2); (try clear hk); (try clear hi); (try clear ho0)))
      go_ret2
      exact ⟨_, RF, by (with_reducible repeat (first | apply Kd.R_alloc | apply Kd.R_drewN | apply Kd.R_drew)); exact HO977.out, BL HB.out⟩
    simp only [Option.some.injEq, Prod.mk.injEq] at H
    obtain ⟨rfl, rfl⟩ := H
    go_enter Try.func40, Try.ntmps40
    go_wp2_with (first | ((with_reducible refine gate_dst (N := 2) rfl ?_); refine boxE (N := 2) (cs := #[.int .i64 a0_0, .int .i64 a0_1, .slice A0_2 l0_2.length c0_2]) (t := 30) ?_; intro gb972 hg w16 hbox hb; refine E4b HB.out hg hbox hb ?_; clear HB; intro HB BK972 GW972 GE972; clear hb hbox hg) | ((with_reducible refine gate_dst (N := 3) rfl ?_); refine boxE (N := 3) (cs := #[.int .i64 a1_0, .int .i64 a1_1, .slice A1_2 l1_2.length c1_2]) (t := 30) ?_; intro gb973 hg w17 hbox hb; refine E7 (bB BK972.out hb) (below_step (BL HB.out) hb) (hbox) (gwM hg (below_size (BL HB.out)) : w.heap.size ≤ gb973) (gwM hg (below_size (BL HB.out)) : w.heap.size ≤ gb973) ((nB BK972.out hg : gb972 ≠ gb973)) ((nC BK972.out hg : gb973 ≠ gb972)) ?_; clear BK972 HB; intro BK972 HB BK973 GW973 GE973 NB972_973 NB973_972; clear hb hbox hg; have hnb18 := NB972_973.out; have hnc18 := NB973_972.out; obtain ⟨hcz19_0, hcz19_1, hcz19_2, hfz19_0, hfz19_1, hfz19_2⟩ := cz3 BK972.out; obtain ⟨hcz20_0, hcz20_1, hcz20_2, hfz20_0, hfz20_1, hfz20_2⟩ := cz3 BK973.out) | ((with_reducible refine gate_callee (f := 65) rfl ?_); refine goesM (N := (some 10)) #[.agg #[.int .i64 a0_0, .int .i64 a0_1, .slice A0_2 l0_2.length c0_2], .agg #[.int .i64 a1_0, .int .i64 a1_1, .slice A1_2 l1_2.length c1_2]] Try.func65 ?_; (with_reducible refine (spec_boSize.calls k a0_0 a0_1 _ _ l0_2 a1_0 a1_1 _ _ l1_2 true _ ?side1 ?side2 ?side3 ?side4 A3.out).mono ?_); (case side1 => exact CB (Kd.C_below HR0_2.out HB.out)); (case side2 => exact HC0_2.out); (case side3 => exact CB (Kd.C_below HR1_2.out HB.out)); (case side4 => exact HC1_2.out); rintro e w21 ⟨rfl, hb⟩; refine ⟨_, rfl, ?_⟩; refine E3 (bB BK972.out hb) (bB BK973.out hb) (below_step (BL HB.out) hb) ?_; clear BK972 BK973 HB; intro BK972 BK973 HB; (try clear hb); (try clear hb2); (try clear hk); (try clear hi); obtain ⟨hcz22_0, hcz22_1, hcz22_2, hfz22_0, hfz22_1, hfz22_2⟩ := cz3 BK972.out; obtain ⟨hcz23_0, hcz23_1, hcz23_2, hfz23_0, hfz23_1, hfz23_2⟩ := cz3 BK973.out) | ((with_reducible refine gate_callee (f := 66) rfl ?_); refine goesM (N := (some 15)) #[.agg #[.int .i64 a0_0, .int .i64 a0_1, .slice A0_2 l0_2.length c0_2], .agg #[.int .i64 a1_0, .int .i64 a1_1, .slice A1_2 l1_2.length c1_2]] Try.func66 ?_; (with_reducible refine (spec_saTurned.calls k a0_0 a0_1 _ _ l0_2 a1_0 a1_1 _ _ l1_2 t975 false _ ?side1 ?side2 ?side3 ?side4 A5.out).mono ?_); (case side1 => exact CB (Kd.C_below HR0_2.out HB.out)); (case side2 => exact HC0_2.out); (case side3 => exact CB (Kd.C_below HR1_2.out HB.out)); (case side4 => exact HC1_2.out); rintro e w24 ⟨v976, rfl, ho0, hb⟩; refine ⟨_, rfl, ?_⟩; refine E4 (Kd.R_lower ho0 (below_size (BL HB.out))) (bB BK972.out hb) (bB BK973.out hb) (below_step (BL HB.out) hb) ?_; clear BK972 BK973 HB; intro HO977 BK972 BK973 HB; (try clear hb); (try clear hb2); (try clear hk); (try clear hi); (try clear ho0)))
    go_ret2
    exact ⟨_, RF, by first | exact Kd.R_nil _ _ _ _ _ | exact Kd.N_nil _ _ _ _ _ | exact Kd.V_nil _ _ _ _ _ | exact Kd.Q_nil _ _ _ _ _ | exact Kd.S_nil _ _ _ _ _, BL HB.out⟩
  simp only [Option.some.injEq, Prod.mk.injEq] at H
  obtain ⟨rfl, rfl⟩ := H
  go_enter Try.func40, Try.ntmps40
  go_wp2_with (first | ((with_reducible refine gate_dst (N := 2) rfl ?_); refine boxE (N := 2) (cs := #[.int .i64 a0_0, .int .i64 a0_1, .slice A0_2 l0_2.length c0_2]) (t := 30) ?_; intro gb972 hg w25 hbox hb; refine E4b HB.out hg hbox hb ?_; clear HB; intro HB BK972 GW972 GE972; clear hb hbox hg) | ((with_reducible refine gate_dst (N := 3) rfl ?_); refine boxE (N := 3) (cs := #[.int .i64 a1_0, .int .i64 a1_1, .slice A1_2 l1_2.length c1_2]) (t := 30) ?_; intro gb973 hg w26 hbox hb; refine E7 (bB BK972.out hb) (below_step (BL HB.out) hb) (hbox) (gwM hg (below_size (BL HB.out)) : w.heap.size ≤ gb973) (gwM hg (below_size (BL HB.out)) : w.heap.size ≤ gb973) ((nB BK972.out hg : gb972 ≠ gb973)) ((nC BK972.out hg : gb973 ≠ gb972)) ?_; clear BK972 HB; intro BK972 HB BK973 GW973 GE973 NB972_973 NB973_972; clear hb hbox hg; have hnb27 := NB972_973.out; have hnc27 := NB973_972.out; obtain ⟨hcz28_0, hcz28_1, hcz28_2, hfz28_0, hfz28_1, hfz28_2⟩ := cz3 BK972.out; obtain ⟨hcz29_0, hcz29_1, hcz29_2, hfz29_0, hfz29_1, hfz29_2⟩ := cz3 BK973.out) | ((with_reducible refine gate_callee (f := 65) rfl ?_); refine goesM (N := (some 10)) #[.agg #[.int .i64 a0_0, .int .i64 a0_1, .slice A0_2 l0_2.length c0_2], .agg #[.int .i64 a1_0, .int .i64 a1_1, .slice A1_2 l1_2.length c1_2]] Try.func65 ?_; (with_reducible refine (spec_boSize.calls k a0_0 a0_1 _ _ l0_2 a1_0 a1_1 _ _ l1_2 false _ ?side1 ?side2 ?side3 ?side4 A3.out).mono ?_); (case side1 => exact CB (Kd.C_below HR0_2.out HB.out)); (case side2 => exact HC0_2.out); (case side3 => exact CB (Kd.C_below HR1_2.out HB.out)); (case side4 => exact HC1_2.out); rintro e w30 ⟨rfl, hb⟩; refine ⟨_, rfl, ?_⟩; refine E3 (bB BK972.out hb) (bB BK973.out hb) (below_step (BL HB.out) hb) ?_; clear BK972 BK973 HB; intro BK972 BK973 HB; (try clear hb); (try clear hb2); (try clear hk); (try clear hi)))
  go_ret2
  exact ⟨_, RF, by first | exact Kd.R_nil _ _ _ _ _ | exact Kd.N_nil _ _ _ _ _ | exact Kd.V_nil _ _ _ _ _ | exact Kd.Q_nil _ _ _ _ _ | exact Kd.S_nil _ _ _ _ _, BL HB.out⟩

/-! ### impl_TurnedUnits: function 41 -/
def impl_TurnedUnits.f (k : Nat) (a0_0 : Int) (a0_1 : Int) (l0_2 : List (S73)) (a1_0 : Int) (a1_1 : Int) (l1_2 : List (S73)) : Option (List Int × Bool) := (impl_IsBoard.f k a0_0 a0_1 l0_2).bind fun t981 => (if t981 = true then ((impl_IsBoard.f k a1_0 a1_1 l1_2).bind fun t982 => (if t982 = true then (if a0_0 = a1_0 then (if a0_1 = a1_1 then ((impl_turnedUnits.f k a0_0 a0_1 l0_2 a1_0 a1_1 l1_2).bind fun bt983 => (some (bt983.1, bt983.2))) else (some (([] : List Int), false))) else (some (([] : List Int), false))) else (some (([] : List Int), false)))) else (some (([] : List Int), false)))
theorem impl_TurnedUnits.mono : ∀ a0 a1 a2 a3 a4 a5 k, LeO (impl_TurnedUnits.f k a0 a1 a2 a3 a4 a5) (impl_TurnedUnits.f (k + 1) a0 a1 a2 a3 a4 a5) := by
  intro a0 a1 a2 a3 a4 a5 k
  unfold impl_TurnedUnits.f
  repeat' first
      | (with_reducible exact impl_IsBoard.mono _ _ _ _)
      | (with_reducible exact impl_turnedUnits.mono _ _ _ _ _ _ _)
      | (with_reducible exact LeO.refl _)
      | (with_reducible exact LeO.none _)
      | (with_reducible refine LeO.ite ?_ ?_)
      | (with_reducible refine LeO.bind ?_ (fun _ => ?_))
      | exact impl_IsBoard.mono _ _ _ _
      | exact impl_turnedUnits.mono _ _ _ _ _ _ _
      | exact LeO.none _
      | refine LeO.ite ?_ ?_
      | refine LeO.bind ?_ (fun _ => ?_)
set_option maxHeartbeats 8000000 in
set_option maxRecDepth 100000 in
theorem impl_TurnedUnits.calls (k : Nat) (a0_0 : Int) (a0_1 : Int) (A0_2 : Option Addr) (c0_2 : Nat) (l0_2 : List (S73)) (a1_0 : Int) (a1_1 : Int) (A1_2 : Option Addr) (c1_2 : Nat) (l1_2 : List (S73)) (r1 : List Int) (r2 : Bool) (w : World) (hr0_2 : Kd.C k73 w A0_2 l0_2.length l0_2) (hc0_2 : l0_2.length ≤ c0_2) (hr1_2 : Kd.C k73 w A1_2 l1_2.length l1_2) (hc1_2 : l1_2.length ≤ c1_2) (h : impl_TurnedUnits.f k a0_0 a0_1 l0_2 a1_0 a1_1 l1_2 = some (r1, r2)) :
    Calls Try.prog 41 #[.agg #[.int .i64 a0_0, .int .i64 a0_1, .slice A0_2 l0_2.length c0_2], .agg #[.int .i64 a1_0, .int .i64 a1_1, .slice A1_2 l1_2.length c1_2]] w fun e w' => ∃ v0_ : Value, e = .returned (.tuple #[v0_, .bool r2]) ∧ Kd.R (Kd.int .i64) 3 w' w.heap.size (fun _ => True) v0_ r1 ∧ Below w.heap.size w w' := by
  have hu30 := Try.underlying30
  have HR0_2 := Aside0.mk hr0_2
  have HC0_2 := Aside0.mk hc0_2
  clear hr0_2 hc0_2
  have HR1_2 := Aside0.mk hr1_2
  have HC1_2 := Aside0.mk hc1_2
  clear hr1_2 hc1_2
  have HB := Aside0.mk (Below.refl w.heap.size w)
  have H := h
  clear h
  unfold impl_TurnedUnits.f at H
  replace H := bindA H; obtain ⟨t981, A3, H⟩ := H
  replace H := ifX H; rcases H with ⟨rfl, H⟩ | ⟨rfl, H⟩
  · replace H := bindA H; obtain ⟨t982, A5, H⟩ := H
    replace H := ifX H; rcases H with ⟨rfl, H⟩ | ⟨rfl, H⟩
    · replace H := ifQ H; rcases H with ⟨c7, H⟩ | ⟨c7, H⟩
      · have c7b0 := beq_iff_eq.mpr c7
        have c7b1 := bne_eq_false_iff_eq.mpr c7
        clear c7
        replace H := ifQ H; rcases H with ⟨c8, H⟩ | ⟨c8, H⟩
        · have c8b0 := beq_iff_eq.mpr c8
          have c8b1 := bne_eq_false_iff_eq.mpr c8
          clear c8
          replace H := bindA H; obtain ⟨⟨t983, t986⟩, A9, H⟩ := H
          dsimp only at H
          simp only [Option.some.injEq, Prod.mk.injEq] at H
          obtain ⟨rfl, rfl⟩ := H
          go_enter Try.func41, Try.ntmps41
          go_wp2_with (first | ((with_reducible refine gate_dst (N := 2) rfl ?_); refine boxE (N := 2) (cs := #[.int .i64 a0_0, .int .i64 a0_1, .slice A0_2 l0_2.length c0_2]) (t := 30) ?_; intro gb979 hg w10 hbox hb; refine E4b HB.out hg hbox hb ?_; clear HB; intro HB BK979 GW979 GE979; clear hb hbox hg) | ((with_reducible refine gate_dst (N := 3) rfl ?_); refine boxE (N := 3) (cs := #[.int .i64 a1_0, .int .i64 a1_1, .slice A1_2 l1_2.length c1_2]) (t := 30) ?_; intro gb980 hg w11 hbox hb; refine E7 (bB BK979.out hb) (below_step (BL HB.out) hb) (hbox) (gwM hg (below_size (BL HB.out)) : w.heap.size ≤ gb980) (gwM hg (below_size (BL HB.out)) : w.heap.size ≤ gb980) ((nB BK979.out hg : gb979 ≠ gb980)) ((nC BK979.out hg : gb980 ≠ gb979)) ?_; clear BK979 HB; intro BK979 HB BK980 GW980 GE980 NB979_980 NB980_979; clear hb hbox hg; have hnb12 := NB979_980.out; have hnc12 := NB980_979.out; obtain ⟨hcz13_0, hcz13_1, hcz13_2, hfz13_0, hfz13_1, hfz13_2⟩ := cz3 BK979.out) | ((with_reducible refine gate_callee (f := 50) rfl ?_); refine goesM (N := (some 7)) #[.agg #[.int .i64 a0_0, .int .i64 a0_1, .slice A0_2 l0_2.length c0_2]] Try.func50 ?_; (with_reducible refine (impl_IsBoard.calls k a0_0 a0_1 _ _ l0_2 true _ ?side1 ?side2 A3.out).mono ?_); (case side1 => exact CB (Kd.C_below HR0_2.out HB.out)); (case side2 => exact HC0_2.out); rintro e w14 ⟨rfl, hb⟩; refine ⟨_, rfl, ?_⟩; refine E3 (bB BK979.out hb) (bB BK980.out hb) (below_step (BL HB.out) hb) ?_; clear BK979 BK980 HB; intro BK979 BK980 HB; (try clear hb); (try clear hb2); (try clear hk); (try clear hi); obtain ⟨hcz15_0, hcz15_1, hcz15_2, hfz15_0, hfz15_1, hfz15_2⟩ := cz3 BK980.out) | (go_at_call 50; (with_reducible refine (impl_IsBoard.calls k a1_0 a1_1 _ _ l1_2 true _ ?side1 ?side2 A5.out).mono ?_); (case side1 => exact CB (Kd.C_below HR1_2.out HB.out)); (case side2 => exact HC1_2.out); rintro e w16 ⟨rfl, hb⟩; refine E3 (bB BK979.out hb) (bB BK980.out hb) (below_step (BL HB.out) hb) ?_; clear BK979 BK980 HB; intro BK979 BK980 HB; (try clear hb); (try clear hb2); (try clear hk); (try clear hi); obtain ⟨hcz17_0, hcz17_1, hcz17_2, hfz17_0, hfz17_1, hfz17_2⟩ := cz3 BK979.out; obtain ⟨hcz18_0, hcz18_1, hcz18_2, hfz18_0, hfz18_1, hfz18_2⟩ := cz3 BK980.out) | ((with_reducible refine gate_callee (f := 67) rfl ?_); refine goesM (N := (some 30)) #[.agg #[.int .i64 a0_0, .int .i64 a0_1, .slice A0_2 l0_2.length c0_2], .agg #[.int .i64 a1_0, .int .i64 a1_1, .slice A1_2 l1_2.length c1_2]] Try.func67 ?_; (with_reducible refine (impl_turnedUnits.calls k a0_0 a0_1 _ _ l0_2 a1_0 a1_1 _ _ l1_2 t983 t986 _ ?side1 ?side2 ?side3 ?side4 A9.out).mono ?_); (case side1 => exact CB (Kd.C_below HR0_2.out HB.out)); (case side2 => exact HC0_2.out); (case side3 => exact CB (Kd.C_below HR1_2.out HB.out)); (case side4 => exact HC1_2.out); rintro e w19 ⟨v984, rfl, ho0, hb⟩; refine ⟨_, rfl, ?_⟩; refine E4 (Kd.R_lower ho0 (below_size (BL HB.out))) (bB BK979.out hb) (bB BK980.out hb) (below_step (BL HB.out) hb) ?_; clear BK979 BK980 HB; intro HO985 BK979 BK980 HB; (try clear hb); (try clear hb2); (try clear hk); (try clear hi); (try clear ho0)))
          go_ret2
          exact ⟨_, RF, by (with_reducible repeat (first | apply Kd.R_alloc | apply Kd.R_drewN | apply Kd.R_drew)); exact HO985.out, BL HB.out⟩
        have c8b0 := beq_eq_false_iff_ne.mpr c8
        have c8b1 := bne_iff_ne.mpr c8
        simp only [Option.some.injEq, Prod.mk.injEq] at H
        obtain ⟨rfl, rfl⟩ := H
        go_enter Try.func41, Try.ntmps41
        go_wp2_with (first | ((with_reducible refine gate_dst (N := 2) rfl ?_); refine boxE (N := 2) (cs := #[.int .i64 a0_0, .int .i64 a0_1, .slice A0_2 l0_2.length c0_2]) (t := 30) ?_; intro gb979 hg w20 hbox hb; refine E4b HB.out hg hbox hb ?_; clear HB; intro HB BK979 GW979 GE979; clear hb hbox hg) | ((with_reducible refine gate_dst (N := 3) rfl ?_); refine boxE (N := 3) (cs := #[.int .i64 a1_0, .int .i64 a1_1, .slice A1_2 l1_2.length c1_2]) (t := 30) ?_; intro gb980 hg w21 hbox hb; refine E7 (bB BK979.out hb) (below_step (BL HB.out) hb) (hbox) (gwM hg (below_size (BL HB.out)) : w.heap.size ≤ gb980) (gwM hg (below_size (BL HB.out)) : w.heap.size ≤ gb980) ((nB BK979.out hg : gb979 ≠ gb980)) ((nC BK979.out hg : gb980 ≠ gb979)) ?_; clear BK979 HB; intro BK979 HB BK980 GW980 GE980 NB979_980 NB980_979; clear hb hbox hg; have hnb22 := NB979_980.out; have hnc22 := NB980_979.out; obtain ⟨hcz23_0, hcz23_1, hcz23_2, hfz23_0, hfz23_1, hfz23_2⟩ := cz3 BK979.out) | ((with_reducible refine gate_callee (f := 50) rfl ?_); refine goesM (N := (some 7)) #[.agg #[.int .i64 a0_0, .int .i64 a0_1, .slice A0_2 l0_2.length c0_2]] Try.func50 ?_; (with_reducible refine (impl_IsBoard.calls k a0_0 a0_1 _ _ l0_2 true _ ?side1 ?side2 A3.out).mono ?_); (case side1 => exact CB (Kd.C_below HR0_2.out HB.out)); (case side2 => exact HC0_2.out); rintro e w24 ⟨rfl, hb⟩; refine ⟨_, rfl, ?_⟩; refine E3 (bB BK979.out hb) (bB BK980.out hb) (below_step (BL HB.out) hb) ?_; clear BK979 BK980 HB; intro BK979 BK980 HB; (try clear hb); (try clear hb2); (try clear hk); (try clear hi); obtain ⟨hcz25_0, hcz25_1, hcz25_2, hfz25_0, hfz25_1, hfz25_2⟩ := cz3 BK980.out) | (go_at_call 50; (with_reducible refine (impl_IsBoard.calls k a1_0 a1_1 _ _ l1_2 true _ ?side1 ?side2 A5.out).mono ?_); (case side1 => exact CB (Kd.C_below HR1_2.out HB.out)); (case side2 => exact HC1_2.out); rintro e w26 ⟨rfl, hb⟩; refine E3 (bB BK979.out hb) (bB BK980.out hb) (below_step (BL HB.out) hb) ?_; clear BK979 BK980 HB; intro BK979 BK980 HB; (try clear hb); (try clear hb2); (try clear hk); (try clear hi); obtain ⟨hcz27_0, hcz27_1, hcz27_2, hfz27_0, hfz27_1, hfz27_2⟩ := cz3 BK979.out; obtain ⟨hcz28_0, hcz28_1, hcz28_2, hfz28_0, hfz28_1, hfz28_2⟩ := cz3 BK980.out))
        go_ret2
        exact ⟨_, RF, by first | exact Kd.R_nil _ _ _ _ _ | exact Kd.N_nil _ _ _ _ _ | exact Kd.V_nil _ _ _ _ _ | exact Kd.Q_nil _ _ _ _ _ | exact Kd.S_nil _ _ _ _ _, BL HB.out⟩
      have c7b0 := beq_eq_false_iff_ne.mpr c7
      have c7b1 := bne_iff_ne.mpr c7
      simp only [Option.some.injEq, Prod.mk.injEq] at H
      obtain ⟨rfl, rfl⟩ := H
      go_enter Try.func41, Try.ntmps41
      go_wp2_with (first | ((with_reducible refine gate_dst (N := 2) rfl ?_); refine boxE (N := 2) (cs := #[.int .i64 a0_0, .int .i64 a0_1, .slice A0_2 l0_2.length c0_2]) (t := 30) ?_; intro gb979 hg w29 hbox hb; refine E4b HB.out hg hbox hb ?_; clear HB; intro HB BK979 GW979 GE979; clear hb hbox hg) | ((with_reducible refine gate_dst (N := 3) rfl ?_); refine boxE (N := 3) (cs := #[.int .i64 a1_0, .int .i64 a1_1, .slice A1_2 l1_2.length c1_2]) (t := 30) ?_; intro gb980 hg w30 hbox hb; refine E7 (bB BK979.out hb) (below_step (BL HB.out) hb) (hbox) (gwM hg (below_size (BL HB.out)) : w.heap.size ≤ gb980) (gwM hg (below_size (BL HB.out)) : w.heap.size ≤ gb980) ((nB BK979.out hg : gb979 ≠ gb980)) ((nC BK979.out hg : gb980 ≠ gb979)) ?_; clear BK979 HB; intro BK979 HB BK980 GW980 GE980 NB979_980 NB980_979; clear hb hbox hg; have hnb31 := NB979_980.out; have hnc31 := NB980_979.out; obtain ⟨hcz32_0, hcz32_1, hcz32_2, hfz32_0, hfz32_1, hfz32_2⟩ := cz3 BK979.out) | ((with_reducible refine gate_callee (f := 50) rfl ?_); refine goesM (N := (some 7)) #[.agg #[.int .i64 a0_0, .int .i64 a0_1, .slice A0_2 l0_2.length c0_2]] Try.func50 ?_; (with_reducible refine (impl_IsBoard.calls k a0_0 a0_1 _ _ l0_2 true _ ?side1 ?side2 A3.out).mono ?_); (case side1 => exact CB (Kd.C_below HR0_2.out HB.out)); (case side2 => exact HC0_2.out); rintro e w33 ⟨rfl, hb⟩; refine ⟨_, rfl, ?_⟩; refine E3 (bB BK979.out hb) (bB BK980.out hb) (below_step (BL HB.out) hb) ?_; clear BK979 BK980 HB; intro BK979 BK980 HB; (try clear hb); (try clear hb2); (try clear hk); (try clear hi); obtain ⟨hcz34_0, hcz34_1, hcz34_2, hfz34_0, hfz34_1, hfz34_2⟩ := cz3 BK980.out) | (go_at_call 50; (with_reducible refine (impl_IsBoard.calls k a1_0 a1_1 _ _ l1_2 true _ ?side1 ?side2 A5.out).mono ?_); (case side1 => exact CB (Kd.C_below HR1_2.out HB.out)); (case side2 => exact HC1_2.out); rintro e w35 ⟨rfl, hb⟩; refine E3 (bB BK979.out hb) (bB BK980.out hb) (below_step (BL HB.out) hb) ?_; clear BK979 BK980 HB; intro BK979 BK980 HB; (try clear hb); (try clear hb2); (try clear hk); (try clear hi); obtain ⟨hcz36_0, hcz36_1, hcz36_2, hfz36_0, hfz36_1, hfz36_2⟩ := cz3 BK979.out; obtain ⟨hcz37_0, hcz37_1, hcz37_2, hfz37_0, hfz37_1, hfz37_2⟩ := cz3 BK980.out))
      go_ret2
      exact ⟨_, RF, by first | exact Kd.R_nil _ _ _ _ _ | exact Kd.N_nil _ _ _ _ _ | exact Kd.V_nil _ _ _ _ _ | exact Kd.Q_nil _ _ _ _ _ | exact Kd.S_nil _ _ _ _ _, BL HB.out⟩
    simp only [Option.some.injEq, Prod.mk.injEq] at H
    obtain ⟨rfl, rfl⟩ := H
    go_enter Try.func41, Try.ntmps41
    go_wp2_with (first | ((with_reducible refine gate_dst (N := 2) rfl ?_); refine boxE (N := 2) (cs := #[.int .i64 a0_0, .int .i64 a0_1, .slice A0_2 l0_2.length c0_2]) (t := 30) ?_; intro gb979 hg w38 hbox hb; refine E4b HB.out hg hbox hb ?_; clear HB; intro HB BK979 GW979 GE979; clear hb hbox hg) | ((with_reducible refine gate_dst (N := 3) rfl ?_); refine boxE (N := 3) (cs := #[.int .i64 a1_0, .int .i64 a1_1, .slice A1_2 l1_2.length c1_2]) (t := 30) ?_; intro gb980 hg w39 hbox hb; refine E7 (bB BK979.out hb) (below_step (BL HB.out) hb) (hbox) (gwM hg (below_size (BL HB.out)) : w.heap.size ≤ gb980) (gwM hg (below_size (BL HB.out)) : w.heap.size ≤ gb980) ((nB BK979.out hg : gb979 ≠ gb980)) ((nC BK979.out hg : gb980 ≠ gb979)) ?_; clear BK979 HB; intro BK979 HB BK980 GW980 GE980 NB979_980 NB980_979; clear hb hbox hg; have hnb40 := NB979_980.out; have hnc40 := NB980_979.out; obtain ⟨hcz41_0, hcz41_1, hcz41_2, hfz41_0, hfz41_1, hfz41_2⟩ := cz3 BK979.out) | ((with_reducible refine gate_callee (f := 50) rfl ?_); refine goesM (N := (some 7)) #[.agg #[.int .i64 a0_0, .int .i64 a0_1, .slice A0_2 l0_2.length c0_2]] Try.func50 ?_; (with_reducible refine (impl_IsBoard.calls k a0_0 a0_1 _ _ l0_2 true _ ?side1 ?side2 A3.out).mono ?_); (case side1 => exact CB (Kd.C_below HR0_2.out HB.out)); (case side2 => exact HC0_2.out); rintro e w42 ⟨rfl, hb⟩; refine ⟨_, rfl, ?_⟩; refine E3 (bB BK979.out hb) (bB BK980.out hb) (below_step (BL HB.out) hb) ?_; clear BK979 BK980 HB; intro BK979 BK980 HB; (try clear hb); (try clear hb2); (try clear hk); (try clear hi); obtain ⟨hcz43_0, hcz43_1, hcz43_2, hfz43_0, hfz43_1, hfz43_2⟩ := cz3 BK980.out) | (go_at_call 50; (with_reducible refine (impl_IsBoard.calls k a1_0 a1_1 _ _ l1_2 false _ ?side1 ?side2 A5.out).mono ?_); (case side1 => exact CB (Kd.C_below HR1_2.out HB.out)); (case side2 => exact HC1_2.out); rintro e w44 ⟨rfl, hb⟩; refine E3 (bB BK979.out hb) (bB BK980.out hb) (below_step (BL HB.out) hb) ?_; clear BK979 BK980 HB; intro BK979 BK980 HB; (try clear hb); (try clear hb2); (try clear hk); (try clear hi)))
    go_ret2
    exact ⟨_, RF, by first | exact Kd.R_nil _ _ _ _ _ | exact Kd.N_nil _ _ _ _ _ | exact Kd.V_nil _ _ _ _ _ | exact Kd.Q_nil _ _ _ _ _ | exact Kd.S_nil _ _ _ _ _, BL HB.out⟩
  simp only [Option.some.injEq, Prod.mk.injEq] at H
  obtain ⟨rfl, rfl⟩ := H
  go_enter Try.func41, Try.ntmps41
  go_wp2_with (first | ((with_reducible refine gate_dst (N := 2) rfl ?_); refine boxE (N := 2) (cs := #[.int .i64 a0_0, .int .i64 a0_1, .slice A0_2 l0_2.length c0_2]) (t := 30) ?_; intro gb979 hg w45 hbox hb; refine E4b HB.out hg hbox hb ?_; clear HB; intro HB BK979 GW979 GE979; clear hb hbox hg) | ((with_reducible refine gate_dst (N := 3) rfl ?_); refine boxE (N := 3) (cs := #[.int .i64 a1_0, .int .i64 a1_1, .slice A1_2 l1_2.length c1_2]) (t := 30) ?_; intro gb980 hg w46 hbox hb; refine E7 (bB BK979.out hb) (below_step (BL HB.out) hb) (hbox) (gwM hg (below_size (BL HB.out)) : w.heap.size ≤ gb980) (gwM hg (below_size (BL HB.out)) : w.heap.size ≤ gb980) ((nB BK979.out hg : gb979 ≠ gb980)) ((nC BK979.out hg : gb980 ≠ gb979)) ?_; clear BK979 HB; intro BK979 HB BK980 GW980 GE980 NB979_980 NB980_979; clear hb hbox hg; have hnb47 := NB979_980.out; have hnc47 := NB980_979.out; obtain ⟨hcz48_0, hcz48_1, hcz48_2, hfz48_0, hfz48_1, hfz48_2⟩ := cz3 BK979.out) | ((with_reducible refine gate_callee (f := 50) rfl ?_); refine goesM (N := (some 7)) #[.agg #[.int .i64 a0_0, .int .i64 a0_1, .slice A0_2 l0_2.length c0_2]] Try.func50 ?_; (with_reducible refine (impl_IsBoard.calls k a0_0 a0_1 _ _ l0_2 false _ ?side1 ?side2 A3.out).mono ?_); (case side1 => exact CB (Kd.C_below HR0_2.out HB.out)); (case side2 => exact HC0_2.out); rintro e w49 ⟨rfl, hb⟩; refine ⟨_, rfl, ?_⟩; refine E3 (bB BK979.out hb) (bB BK980.out hb) (below_step (BL HB.out) hb) ?_; clear BK979 BK980 HB; intro BK979 BK980 HB; (try clear hb); (try clear hb2); (try clear hk); (try clear hi)))
  go_ret2
  exact ⟨_, RF, by first | exact Kd.R_nil _ _ _ _ _ | exact Kd.N_nil _ _ _ _ _ | exact Kd.V_nil _ _ _ _ _ | exact Kd.Q_nil _ _ _ _ _ | exact Kd.S_nil _ _ _ _ _, BL HB.out⟩

/-! ### laws_FnExactTurnedUnits: function 11 -/
mutual
def laws_FnExactTurnedUnits.j0 : Nat → List Int → Bool → List Int → Bool → Bool → Int → Int → List (S84) → Int → Int → List (S84) → Int → Int → List (S73) → Int → Int → List (S73) → Option (Bool)
  | 0, _, _, _, _, _, _, _, _, _, _, _, _, _, _, _, _, _ => none
  | k + 1, x6, x7, x10, x11, x53, x988000, x988001, x988002, x989000, x989001, x989002, x1011000, x1011001, x1011002, x1017000, x1017001, x1017002 => if x53 = true then (some false) else ((laws_toBoard.f k x988000 x988001 x988002).bind fun bt1022 => ((laws_eqBoard.f k x1011000 x1011001 x1011002 bt1022.1 bt1022.2.1 bt1022.2.2).bind fun t1027 => (if t1027 = true then ((laws_toBoard.f k x989000 x989001 x989002).bind fun bt1028 => ((laws_eqBoard.f k x1017000 x1017001 x1017002 bt1028.1 bt1028.2.1 bt1028.2.2).bind fun t1033 => (if t1033 = true then ((laws_markBoard.f k x1011000 x1011001 x1011002 1).bind fun bt1034 => ((laws_markBoard.f k x1017000 x1017001 x1017002 bt1034.1).bind fun bt1036 => (if bt1036.1 < 0 then (laws_FnExactTurnedUnits.j1 k x6 x7 x10 true x988000 x988001 x988002 x989000 x989001 x989002) else ((laws_eqIntS.f k x10 x6).bind fun t1038 => (if t1038 = true then (laws_FnExactTurnedUnits.j1 k x6 x7 x10 (x11 != x7) x988000 x988001 x988002 x989000 x989001 x989002) else (laws_FnExactTurnedUnits.j1 k x6 x7 x10 true x988000 x988001 x988002 x989000 x989001 x989002)))))) else (some false)))) else (some false))))
def laws_FnExactTurnedUnits.j1 : Nat → List Int → Bool → List Int → Bool → Int → Int → List (S84) → Int → Int → List (S84) → Option (Bool)
  | 0, _, _, _, _, _, _, _, _, _, _ => none
  | k + 1, x6, x7, x10, x82, x988000, x988001, x988002, x989000, x989001, x989002 => if x82 = true then (some false) else ((laws_markIntS.f k x10 1).bind fun bt1039 => ((laws_heldIntS.f k bt1039.2 1).bind fun t1041 => (if t1041 < 0 then (some false) else (if t1041 = bt1039.1 then ((laws_toBoard.f k x988000 x988001 x988002).bind fun bt1042 => ((laws_toBoard.f k x989000 x989001 x989002).bind fun bt1047 => ((impl_TurnedUnits.f k bt1042.1 bt1042.2.1 bt1042.2.2 bt1047.1 bt1047.2.1 bt1047.2.2).bind fun bt1052 => ((laws_eqIntS.f k bt1052.1 x6).bind fun t1056 => (if t1056 = true then (laws_FnExactTurnedUnits.j2 k bt1039.2 bt1039.1 (bt1052.2 != x7)) else (laws_FnExactTurnedUnits.j2 k bt1039.2 bt1039.1 true)))))) else (some false)))))
def laws_FnExactTurnedUnits.j2 : Nat → List Int → Int → Bool → Option (Bool)
  | 0, _, _, _ => none
  | k + 1, x10, x13, x110 => if x110 = true then (some false) else ((laws_heldIntS.f k x10 1).bind fun t1057 => (if t1057 < 0 then (some false) else (if t1057 = x13 then (some true) else (some false))))
end
def laws_FnExactTurnedUnits.f (k : Nat) (a0_0 : Int) (a0_1 : Int) (l0_2 : List (S84)) (a1_0 : Int) (a1_1 : Int) (l1_2 : List (S84)) : Option (Bool) := (laws_szBoard.f a0_0 a0_1 l0_2 1048576).bind fun t989 => (if t989 < 0 then (some true) else ((laws_szBoard.f a1_0 a1_1 l1_2 t989).bind fun t990 => (if t990 < 0 then (some true) else ((laws_toBoard.f k a0_0 a0_1 l0_2).bind fun bt991 => ((laws_toBoard.f k a1_0 a1_1 l1_2).bind fun bt996 => ((spec_TurnedUnits.f k bt991.1 bt991.2.1 bt991.2.2 bt996.1 bt996.2.1 bt996.2.2).bind fun bt1001 => ((laws_toBoard.f k a0_0 a0_1 l0_2).bind fun bt1005 => ((laws_toBoard.f k a1_0 a1_1 l1_2).bind fun bt1011 => ((impl_TurnedUnits.f k bt1005.1 bt1005.2.1 bt1005.2.2 bt1011.1 bt1011.2.1 bt1011.2.2).bind fun bt1017 => ((laws_eqIntS.f k bt1017.1 bt1001.1).bind fun t1021 => (if t1021 = true then (laws_FnExactTurnedUnits.j0 k bt1001.1 bt1001.2 bt1017.1 bt1017.2 (bt1017.2 != bt1001.2) a0_0 a0_1 l0_2 a1_0 a1_1 l1_2 bt1005.1 bt1005.2.1 bt1005.2.2 bt1011.1 bt1011.2.1 bt1011.2.2) else (laws_FnExactTurnedUnits.j0 k bt1001.1 bt1001.2 bt1017.1 bt1017.2 true a0_0 a0_1 l0_2 a1_0 a1_1 l1_2 bt1005.1 bt1005.2.1 bt1005.2.2 bt1011.1 bt1011.2.1 bt1011.2.2))))))))))))
theorem laws_FnExactTurnedUnits.mono_l : ∀ k, (∀ y0 y1 y2 y3 y4 y5 y6 y7 y8 y9 y10 y11 y12 y13 y14 y15 y16, LeO (laws_FnExactTurnedUnits.j0 k y0 y1 y2 y3 y4 y5 y6 y7 y8 y9 y10 y11 y12 y13 y14 y15 y16) (laws_FnExactTurnedUnits.j0 (k + 1) y0 y1 y2 y3 y4 y5 y6 y7 y8 y9 y10 y11 y12 y13 y14 y15 y16)) ∧ (∀ y0 y1 y2 y3 y4 y5 y6 y7 y8 y9, LeO (laws_FnExactTurnedUnits.j1 k y0 y1 y2 y3 y4 y5 y6 y7 y8 y9) (laws_FnExactTurnedUnits.j1 (k + 1) y0 y1 y2 y3 y4 y5 y6 y7 y8 y9)) ∧ (∀ y0 y1 y2, LeO (laws_FnExactTurnedUnits.j2 k y0 y1 y2) (laws_FnExactTurnedUnits.j2 (k + 1) y0 y1 y2))
  | 0 => by refine ⟨?_, ?_, ?_⟩ <;> (intros; intro r h; first | (simp [laws_FnExactTurnedUnits.j0] at h; done) | (simp [laws_FnExactTurnedUnits.j1] at h; done) | (simp [laws_FnExactTurnedUnits.j2] at h; done))
  | k + 1 => by
    obtain ⟨ih0, ih1, ih2⟩ := laws_FnExactTurnedUnits.mono_l k
    refine ⟨?_, ?_, ?_⟩ <;> (
      intros
      first | unfold laws_FnExactTurnedUnits.j0 | unfold laws_FnExactTurnedUnits.j1 | unfold laws_FnExactTurnedUnits.j2
      repeat' first | (with_reducible first | apply ih0 | apply ih1 | apply ih2 | apply impl_TurnedUnits.mono | apply laws_eqBoard.mono | apply laws_eqIntS.mono | apply laws_heldIntS.mono | apply laws_markBoard.mono | apply laws_markIntS.mono | apply laws_toBoard.mono | apply spec_TurnedUnits.mono | exact LeO.refl _ | exact LeO.none _ | refine LeO.ite ?_ ?_ | refine LeO.bind ?_ (fun _ => ?_)) | apply ih0 | apply ih1 | apply ih2 | apply impl_TurnedUnits.mono | apply laws_eqBoard.mono | apply laws_eqIntS.mono | apply laws_heldIntS.mono | apply laws_markBoard.mono | apply laws_markIntS.mono | apply laws_toBoard.mono | apply spec_TurnedUnits.mono | exact LeO.none _ | refine LeO.ite ?_ ?_ | refine LeO.bind ?_ (fun _ => ?_))
theorem laws_FnExactTurnedUnits.mono : ∀ a0 a1 a2 a3 a4 a5 k, LeO (laws_FnExactTurnedUnits.f k a0 a1 a2 a3 a4 a5) (laws_FnExactTurnedUnits.f (k + 1) a0 a1 a2 a3 a4 a5) := by
  intro a0 a1 a2 a3 a4 a5 k
  obtain ⟨ih0, ih1, ih2⟩ := laws_FnExactTurnedUnits.mono_l k
  unfold laws_FnExactTurnedUnits.f
  repeat' first | (with_reducible first | apply ih0 | apply ih1 | apply ih2 | apply impl_TurnedUnits.mono | apply laws_eqBoard.mono | apply laws_eqIntS.mono | apply laws_heldIntS.mono | apply laws_markBoard.mono | apply laws_markIntS.mono | apply laws_toBoard.mono | apply spec_TurnedUnits.mono | exact LeO.refl _ | exact LeO.none _ | refine LeO.ite ?_ ?_ | refine LeO.bind ?_ (fun _ => ?_)) | apply ih0 | apply ih1 | apply ih2 | apply impl_TurnedUnits.mono | apply laws_eqBoard.mono | apply laws_eqIntS.mono | apply laws_heldIntS.mono | apply laws_markBoard.mono | apply laws_markIntS.mono | apply laws_toBoard.mono | apply spec_TurnedUnits.mono | exact LeO.none _ | refine LeO.ite ?_ ?_ | refine LeO.bind ?_ (fun _ => ?_)
def laws_FnExactTurnedUnits.T8 : Bool × List (List Nat × List Nat) := (true, [([], []), ([0], [0]), ([], []), ([2, 1], [2]), ([1, 3, 3], [1, 3]), ([4], [4]), ([5], [5]), ([5], [5]), ([6, 4, 0, 1, 2, 3, 4, 5, 6], [6]), ([7, 8, 0, 1, 2, 3, 4, 5, 6, 7, 8], [7])])
def laws_FnExactTurnedUnits.B8 : List Nat := [0, 1, 0, 7, 15, 31, 63, 63, 127, 511]
theorem laws_FnExactTurnedUnits.tab8 : rtab .any (opsOf Try.f11 8) = laws_FnExactTurnedUnits.T8 := by kernel_rfl
theorem laws_FnExactTurnedUnits.bits8 : waitsOk laws_FnExactTurnedUnits.T8.2 laws_FnExactTurnedUnits.B8 = true := by kernel_rfl
def laws_FnExactTurnedUnits.T31 : Bool × List (List Nat × List Nat) := (true, [([], []), ([0], [0]), ([], []), ([2, 1], [2]), ([1, 3, 3], [1, 3]), ([4], [4]), ([5], [5]), ([5], [5]), ([6, 4, 0, 1, 2, 3, 4, 5, 6], [6]), ([7, 8, 0, 1, 2, 3, 4, 5, 6, 7, 8], [7])])
def laws_FnExactTurnedUnits.B31 : List Nat := [0, 1, 0, 7, 15, 31, 63, 63, 127, 511]
theorem laws_FnExactTurnedUnits.tab31 : rtab .any (opsOf Try.f11 31) = laws_FnExactTurnedUnits.T31 := by kernel_rfl
theorem laws_FnExactTurnedUnits.bits31 : waitsOk laws_FnExactTurnedUnits.T31.2 laws_FnExactTurnedUnits.B31 = true := by kernel_rfl
set_option maxHeartbeats 8000000 in
set_option maxRecDepth 100000 in
theorem laws_FnExactTurnedUnits.calls (k : Nat) (a0_0 : Int) (a0_1 : Int) (A0_2 : Option Addr) (c0_2 : Nat) (l0_2 : List (S84)) (a1_0 : Int) (a1_1 : Int) (A1_2 : Option Addr) (c1_2 : Nat) (l1_2 : List (S84)) (w : World) (hr0_2 : Kd.C k84 w A0_2 l0_2.length l0_2) (hc0_2 : l0_2.length ≤ c0_2) (hr1_2 : Kd.C k84 w A1_2 l1_2.length l1_2) (hc1_2 : l1_2.length ≤ c1_2) (h : laws_FnExactTurnedUnits.f k a0_0 a0_1 l0_2 a1_0 a1_1 l1_2 = some true) :
    Calls Try.prog 11 #[.agg #[.int .i64 a0_0, .int .i64 a0_1, .slice A0_2 l0_2.length c0_2], .agg #[.int .i64 a1_0, .int .i64 a1_1, .slice A1_2 l1_2.length c1_2]] w fun e w' => e = .returned (.bool true) ∧ Below w.heap.size w w' := by
  have hu24 := Try.underlying24
  have hu30 := Try.underlying30
  have HR0_2 := Aside0.mk hr0_2
  have HC0_2 := Aside0.mk hc0_2
  clear hr0_2 hc0_2
  have HR1_2 := Aside0.mk hr1_2
  have HC1_2 := Aside0.mk hc1_2
  clear hr1_2 hc1_2
  have HB := Aside0.mk (Below.refl w.heap.size w)
  have H := h
  clear h
  unfold laws_FnExactTurnedUnits.f at H
  replace H := bindA H; obtain ⟨t989, A3, H⟩ := H
  replace H := ifB H; rcases H with ⟨c4b0, H⟩ | ⟨c4b0, H⟩
  · first | (obtain rfl := Option.some.inj H) | clear H
    go_enter Try.func11, Try.ntmps11
    go_wp2_with (first | ((with_reducible refine gate_dst (N := 2) rfl ?_); refine boxE (N := 2) (cs := #[.int .i64 a0_0, .int .i64 a0_1, .slice A0_2 l0_2.length c0_2]) (t := 24) ?_; intro gb987 hg w5 hbox hb; refine E4b HB.out hg hbox hb ?_; clear HB; intro HB BK987 GW987 GE987; clear hb hbox hg) | ((with_reducible refine gate_dst (N := 3) rfl ?_); refine boxE (N := 3) (cs := #[.int .i64 a1_0, .int .i64 a1_1, .slice A1_2 l1_2.length c1_2]) (t := 24) ?_; intro gb988 hg w6 hbox hb; refine E7 (bB BK987.out hb) (below_step (BL HB.out) hb) (hbox) (gwM hg (below_size (BL HB.out)) : w.heap.size ≤ gb988) (gwM hg (below_size (BL HB.out)) : w.heap.size ≤ gb988) ((nB BK987.out hg : gb987 ≠ gb988)) ((nC BK987.out hg : gb988 ≠ gb987)) ?_; clear BK987 HB; intro BK987 HB BK988 GW988 GE988 NB987_988 NB988_987; clear hb hbox hg; have hnb7 := NB987_988.out; have hnc7 := NB988_987.out; obtain ⟨hcz8_0, hcz8_1, hcz8_2, hfz8_0, hfz8_1, hfz8_2⟩ := cz3 BK987.out) | ((with_reducible refine gate_callee (f := 13) rfl ?_); refine goesM (N := (some 19)) #[.agg #[.int .i64 a0_0, .int .i64 a0_1, .slice A0_2 l0_2.length c0_2], .int .i64 1048576] Try.func13 ?_; (with_reducible refine (laws_szBoard.calls a0_0 a0_1 _ _ l0_2 1048576 t989 _ ?side1 ?side2 A3.out).mono ?_); (case side1 => exact CB (Kd.C_below HR0_2.out HB.out)); (case side2 => exact HC0_2.out); rintro e w9 ⟨rfl, hb⟩; refine ⟨_, rfl, ?_⟩; refine E3 (bB BK987.out hb) (bB BK988.out hb) (below_step (BL HB.out) hb) ?_; clear BK987 BK988 HB; intro BK987 BK988 HB; (try clear hb); (try clear hb2); (try clear hk); (try clear hi)))
    go_ret
    exact ⟨RF, BL HB.out⟩
  replace H := bindA H; obtain ⟨t990, A10, H⟩ := H
  replace H := ifB H; rcases H with ⟨c11b0, H⟩ | ⟨c11b0, H⟩
  · first | (obtain rfl := Option.some.inj H) | clear H
    go_enter Try.func11, Try.ntmps11
    go_wp2_with (first | ((with_reducible refine gate_dst (N := 2) rfl ?_); refine boxE (N := 2) (cs := #[.int .i64 a0_0, .int .i64 a0_1, .slice A0_2 l0_2.length c0_2]) (t := 24) ?_; intro gb987 hg w12 hbox hb; refine E4b HB.out hg hbox hb ?_; clear HB; intro HB BK987 GW987 GE987; clear hb hbox hg) | ((with_reducible refine gate_dst (N := 3) rfl ?_); refine boxE (N := 3) (cs := #[.int .i64 a1_0, .int .i64 a1_1, .slice A1_2 l1_2.length c1_2]) (t := 24) ?_; intro gb988 hg w13 hbox hb; refine E7 (bB BK987.out hb) (below_step (BL HB.out) hb) (hbox) (gwM hg (below_size (BL HB.out)) : w.heap.size ≤ gb988) (gwM hg (below_size (BL HB.out)) : w.heap.size ≤ gb988) ((nB BK987.out hg : gb987 ≠ gb988)) ((nC BK987.out hg : gb988 ≠ gb987)) ?_; clear BK987 HB; intro BK987 HB BK988 GW988 GE988 NB987_988 NB988_987; clear hb hbox hg; have hnb14 := NB987_988.out; have hnc14 := NB988_987.out; obtain ⟨hcz15_0, hcz15_1, hcz15_2, hfz15_0, hfz15_1, hfz15_2⟩ := cz3 BK987.out) | ((with_reducible refine gate_callee (f := 13) rfl ?_); refine goesM (N := (some 19)) #[.agg #[.int .i64 a0_0, .int .i64 a0_1, .slice A0_2 l0_2.length c0_2], .int .i64 1048576] Try.func13 ?_; (with_reducible refine (laws_szBoard.calls a0_0 a0_1 _ _ l0_2 1048576 t989 _ ?side1 ?side2 A3.out).mono ?_); (case side1 => exact CB (Kd.C_below HR0_2.out HB.out)); (case side2 => exact HC0_2.out); rintro e w16 ⟨rfl, hb⟩; refine ⟨_, rfl, ?_⟩; refine E3 (bB BK987.out hb) (bB BK988.out hb) (below_step (BL HB.out) hb) ?_; clear BK987 BK988 HB; intro BK987 BK988 HB; (try clear hb); (try clear hb2); (try clear hk); (try clear hi); obtain ⟨hcz17_0, hcz17_1, hcz17_2, hfz17_0, hfz17_1, hfz17_2⟩ := cz3 BK988.out) | ((with_reducible refine gate_callee (f := 13) rfl ?_); refine goesM (N := (some 24)) #[.agg #[.int .i64 a1_0, .int .i64 a1_1, .slice A1_2 l1_2.length c1_2], .int .i64 t989] Try.func13 ?_; (with_reducible refine (laws_szBoard.calls a1_0 a1_1 _ _ l1_2 t989 t990 _ ?side1 ?side2 A10.out).mono ?_); (case side1 => exact CB (Kd.C_below HR1_2.out HB.out)); (case side2 => exact HC1_2.out); rintro e w18 ⟨rfl, hb⟩; refine ⟨_, rfl, ?_⟩; refine E3 (bB BK987.out hb) (bB BK988.out hb) (below_step (BL HB.out) hb) ?_; clear BK987 BK988 HB; intro BK987 BK988 HB; (try clear hb); (try clear hb2); (try clear hk); (try clear hi)))
    go_ret
    exact ⟨RF, BL HB.out⟩
  replace H := bindA H; obtain ⟨⟨t991, t992, t993⟩, A19, H⟩ := H
  dsimp only at H
  replace H := bindA H; obtain ⟨⟨t996, t997, t998⟩, A20, H⟩ := H
  dsimp only at H
  replace H := bindA H; obtain ⟨⟨t1001, t1004⟩, A21, H⟩ := H
  dsimp only at H
  replace H := bindA H; obtain ⟨⟨t1005, t1006, t1007⟩, A22, H⟩ := H
  dsimp only at H
  replace H := bindA H; obtain ⟨⟨t1011, t1012, t1013⟩, A23, H⟩ := H
  dsimp only at H
  replace H := bindA H; obtain ⟨⟨t1017, t1020⟩, A24, H⟩ := H
  dsimp only at H
  have HC25 := Aside0.mk H
  clear H
  go_enter Try.func11, Try.ntmps11
  try go_wp2_with (first | ((with_reducible refine gate_dst (N := 2) rfl ?_); refine boxE (N := 2) (cs := #[.int .i64 a0_0, .int .i64 a0_1, .slice A0_2 l0_2.length c0_2]) (t := 24) ?_; intro gb987 hg w26 hbox hb; refine E4b HB.out hg hbox hb ?_; clear HB; intro HB BK987 GW987 GE987; clear hb hbox hg) | ((with_reducible refine gate_dst (N := 3) rfl ?_); refine boxE (N := 3) (cs := #[.int .i64 a1_0, .int .i64 a1_1, .slice A1_2 l1_2.length c1_2]) (t := 24) ?_; intro gb988 hg w27 hbox hb; refine E7 (bB BK987.out hb) (below_step (BL HB.out) hb) (hbox) (gwM hg (below_size (BL HB.out)) : w.heap.size ≤ gb988) (gwM hg (below_size (BL HB.out)) : w.heap.size ≤ gb988) ((nB BK987.out hg : gb987 ≠ gb988)) ((nC BK987.out hg : gb988 ≠ gb987)) ?_; clear BK987 HB; intro BK987 HB BK988 GW988 GE988 NB987_988 NB988_987; clear hb hbox hg; have hnb28 := NB987_988.out; have hnc28 := NB988_987.out; obtain ⟨hcz29_0, hcz29_1, hcz29_2, hfz29_0, hfz29_1, hfz29_2⟩ := cz3 BK987.out) | ((with_reducible refine gate_callee (f := 13) rfl ?_); refine goesM (N := (some 19)) #[.agg #[.int .i64 a0_0, .int .i64 a0_1, .slice A0_2 l0_2.length c0_2], .int .i64 1048576] Try.func13 ?_; (with_reducible refine (laws_szBoard.calls a0_0 a0_1 _ _ l0_2 1048576 t989 _ ?side1 ?side2 A3.out).mono ?_); (case side1 => exact CB (Kd.C_below HR0_2.out HB.out)); (case side2 => exact HC0_2.out); rintro e w30 ⟨rfl, hb⟩; refine ⟨_, rfl, ?_⟩; refine E3 (bB BK987.out hb) (bB BK988.out hb) (below_step (BL HB.out) hb) ?_; clear BK987 BK988 HB; intro BK987 BK988 HB; (try clear hb); (try clear hb2); (try clear hk); (try clear hi); obtain ⟨hcz31_0, hcz31_1, hcz31_2, hfz31_0, hfz31_1, hfz31_2⟩ := cz3 BK988.out) | ((with_reducible refine gate_callee (f := 13) rfl ?_); refine goesM (N := (some 24)) #[.agg #[.int .i64 a1_0, .int .i64 a1_1, .slice A1_2 l1_2.length c1_2], .int .i64 t989] Try.func13 ?_; (with_reducible refine (laws_szBoard.calls a1_0 a1_1 _ _ l1_2 t989 t990 _ ?side1 ?side2 A10.out).mono ?_); (case side1 => exact CB (Kd.C_below HR1_2.out HB.out)); (case side2 => exact HC1_2.out); rintro e w32 ⟨rfl, hb⟩; refine ⟨_, rfl, ?_⟩; refine E3 (bB BK987.out hb) (bB BK988.out hb) (below_step (BL HB.out) hb) ?_; clear BK987 BK988 HB; intro BK987 BK988 HB; (try clear hb); (try clear hb2); (try clear hk); (try clear hi)))
  refine E3 (blk_drew BK987.out) (blk_drew BK988.out) (below_drew1 HB.out) ?_
  clear BK987 BK988 HB
  intro BK987 BK988 HB
  refine start_ (n := 10) (S := fun w' => w'.cell? ⟨gb987, 0, none⟩ = some (.int .i64 a0_0) ∧ w'.cell? ⟨gb987, 1, none⟩ = some (.int .i64 a0_1) ∧ w'.cell? ⟨gb987, 2, none⟩ = some (.slice A0_2 l0_2.length c0_2) ∧ w'.cell? ⟨gb988, 0, none⟩ = some (.int .i64 a1_0) ∧ w'.cell? ⟨gb988, 1, none⟩ = some (.int .i64 a1_1) ∧ w'.cell? ⟨gb988, 2, none⟩ = some (.slice A1_2 l1_2.length c1_2)) (ds := []) #[false, false, false, false, false, false, false, false, false, false] (by kernel_rfl) rfl rfl ⟨(blk_cell BK987.out 0).trans rfl, (blk_cell BK987.out 1).trans rfl, (blk_cell BK987.out 2).trans rfl, (blk_cell BK988.out 0).trans rfl, (blk_cell BK988.out 1).trans rfl, (blk_cell BK988.out 2).trans rfl⟩ (fun hHeld => ?_); refine with_tabW laws_FnExactTurnedUnits.tab8 laws_FnExactTurnedUnits.bits8 (fun HT_ HW_ => ?_)
  generalize w32.drew = w33 at BK987 BK988 HB hHeld ⊢
  refine take_ (i := 0) (N := some 28) (v := ?_) (a' := ?_) #[true, false, false, false, false, false, false, false, false, false] rfl rfl (take_ofW HT_.out HW_.out (by kernel_rfl)) (fun _ _ _ h => h) (Or.inl ⟨by rfl, ?_⟩) hHeld ?_ ?_
  rotate_left
  · rintro w' ⟨s0, s1, s2, s3, s4, s5⟩
    go_simp
    with_reducible rfl
  rotate_left
  · simp only [Act.put, List.setIfInBounds_toArray, List.set_cons_zero, List.set_cons_succ, i64_w, i32_w]
    rfl
  refine take_ (i := 2) (N := some 30) (v := ?_) (a' := ?_) #[true, false, true, false, false, false, false, false, false, false] rfl rfl (take_ofW HT_.out HW_.out (by kernel_rfl)) (fun _ _ _ h => h) (Or.inl ⟨by rfl, ?_⟩) hHeld ?_ ?_
  rotate_left
  · rintro w' ⟨s0, s1, s2, s3, s4, s5⟩
    go_simp
    with_reducible rfl
  rotate_left
  · simp only [Act.put, List.setIfInBounds_toArray, List.set_cons_zero, List.set_cons_succ, i64_w, i32_w]
    rfl
  refine one_ (i := 1) (N := some 29) #[true, true, true, false, false, false, false, false, false, false] rfl rfl (one_of HT_.out (by kernel_rfl)) (by decide) (fun K hK => ?_)
  refine goes_ Try.func15 (by kernel_rfl) rfl #[.agg #[.int .i64 a0_0, .int .i64 a0_1, .slice A0_2 l0_2.length c0_2]] (by rfl) rfl rfl (by (try simp only [List.map_toArray, List.map_cons, List.map_nil]); first | done | rfl | (simp only [List.length_drop, List.length_take]; rfl)) ?_
  with_reducible refine (laws_toBoard.calls k a0_0 a0_1 _ _ l0_2 t991 t992 t993 _ ?side1 ?side2 A19.out).mono ?_
  (case side1 => exact CB (Kd.C_below HR0_2.out HB.out))
  (case side2 => exact HC0_2.out)
  rintro e w34 ⟨v994, rfl, ho0, hb⟩
  refine ⟨_, rfl, ?_⟩
  refine E4 (Kd.R_lower ho0 (below_size (BL HB.out))) (bB BK987.out hb) (bB BK988.out hb) (below_step (BL HB.out) hb) ?_
  clear BK987 BK988 HB
  intro HO995 BK987 BK988 HB
  (try clear hb)
  (try clear hb2)
  (try clear hk)
  (try clear hi)
  (try clear ho0)
  refine hK.out _ _ ⟨(blk_cell BK987.out 0).trans rfl, (blk_cell BK987.out 1).trans rfl, (blk_cell BK987.out 2).trans rfl, (blk_cell BK988.out 0).trans rfl, (blk_cell BK988.out 1).trans rfl, (blk_cell BK988.out 2).trans rfl⟩ (fun hHeld => ?_)
  clear hK K
  refine norm_ (a' := ?_) ?_ ?_
  rotate_left
  · show Act.put _ (some 29) _ = _
    simp only [Act.put, List.setIfInBounds_toArray, List.set_cons_zero, List.set_cons_succ, i64_w, i32_w]
    rfl
  refine one_ (i := 3) (N := some 31) #[true, true, true, true, false, false, false, false, false, false] rfl rfl (one_of HT_.out (by kernel_rfl)) (by decide) (fun K hK => ?_)
  refine goes_ Try.func15 (by kernel_rfl) rfl #[.agg #[.int .i64 a1_0, .int .i64 a1_1, .slice A1_2 l1_2.length c1_2]] (by rfl) rfl rfl (by (try simp only [List.map_toArray, List.map_cons, List.map_nil]); first | done | rfl | (simp only [List.length_drop, List.length_take]; rfl)) ?_
  with_reducible refine (laws_toBoard.calls k a1_0 a1_1 _ _ l1_2 t996 t997 t998 _ ?side1 ?side2 A20.out).mono ?_
  (case side1 => exact CB (Kd.C_below HR1_2.out HB.out))
  (case side2 => exact HC1_2.out)
  rintro e w35 ⟨v999, rfl, ho0, hb⟩
  refine ⟨_, rfl, ?_⟩
  refine E5 (Kd.R_elder' (PR HO995.out) (Kd.R_base ho0) hb) (Kd.R_lower (Kd.R_new' ho0 (Kd.R_lt (PR HO995.out))) (below_size (BL HB.out))) (bB BK987.out hb) (bB BK988.out hb) (below_step (BL HB.out) hb) ?_
  clear HO995 BK987 BK988 HB
  intro HO995 HO1000 BK987 BK988 HB
  (try clear hb)
  (try clear hb2)
  (try clear hk)
  (try clear hi)
  (try clear ho0)
  obtain ⟨Ao36, co36, eo36⟩ := Kd.R_slice HO995.out
  (first | subst eo36 | (injection eo36 with f1_ f2_ f3_; have f4_ := f1_.symm; have f5_ := f3_.symm; clear f1_ f2_ f3_; subst f4_; subst f5_))
  obtain ⟨Ao37, co37, eo37⟩ := Kd.R_slice HO1000.out
  (first | subst eo37 | (injection eo37 with f1_ f2_ f3_; have f4_ := f1_.symm; have f5_ := f3_.symm; clear f1_ f2_ f3_; subst f4_; subst f5_))
  refine hK.out _ _ ⟨(blk_cell BK987.out 0).trans rfl, (blk_cell BK987.out 1).trans rfl, (blk_cell BK987.out 2).trans rfl, (blk_cell BK988.out 0).trans rfl, (blk_cell BK988.out 1).trans rfl, (blk_cell BK988.out 2).trans rfl⟩ (fun hHeld => ?_)
  clear hK K
  refine norm_ (a' := ?_) ?_ ?_
  rotate_left
  · show Act.put _ (some 31) _ = _
    simp only [Act.put, List.setIfInBounds_toArray, List.set_cons_zero, List.set_cons_succ, i64_w, i32_w]
    rfl
  refine one_ (i := 4) (N := some 32) #[true, true, true, true, true, false, false, false, false, false] rfl rfl (one_of HT_.out (by kernel_rfl)) (by decide) (fun K hK => ?_)
  refine goes_ Try.func40 (by kernel_rfl) rfl #[.agg #[.int .i64 t991, .int .i64 t992, .slice Ao36 t993.length co36], .agg #[.int .i64 t996, .int .i64 t997, .slice Ao37 t998.length co37]] (by rfl) rfl rfl (by (try simp only [List.map_toArray, List.map_cons, List.map_nil]); first | done | rfl | (simp only [List.length_drop, List.length_take]; rfl)) ?_
  with_reducible refine (spec_TurnedUnits.calls k t991 t992 _ _ t993 t996 t997 _ _ t998 t1001 t1004 _ ?side1 ?side2 ?side3 ?side4 A21.out).mono ?_
  (case side1 => repeat (first | exact (Kd.R_reads' HO995.out).2.2 | (with_reducible refine Kd.C_alloc ?_ _) | (with_reducible refine Kd.C_drewN ?_ _) | (with_reducible refine Kd.C_drew ?_)))
  (case side2 => exact (Kd.R_reads' HO995.out).2.1)
  (case side3 => repeat (first | exact (Kd.R_reads' HO1000.out).2.2 | (with_reducible refine Kd.C_alloc ?_ _) | (with_reducible refine Kd.C_drewN ?_ _) | (with_reducible refine Kd.C_drew ?_)))
  (case side4 => exact (Kd.R_reads' HO1000.out).2.1)
  rintro e w38 ⟨v1002, rfl, ho0, hb⟩
  refine ⟨_, rfl, ?_⟩
  refine E6 (Kd.R_below (PR HO995.out) hb) (Kd.R_below (PR HO1000.out) hb) (Kd.R_lower ho0 (below_size (BL HB.out))) (bB BK987.out hb) (bB BK988.out hb) (below_step (BL HB.out) hb) ?_
  clear HO995 HO1000 BK987 BK988 HB
  intro HO995 HO1000 HO1003 BK987 BK988 HB
  (try clear hb)
  (try clear hb2)
  (try clear hk)
  (try clear hi)
  (try clear ho0)
  refine hK.out _ _ ⟨(blk_cell BK987.out 0).trans rfl, (blk_cell BK987.out 1).trans rfl, (blk_cell BK987.out 2).trans rfl, (blk_cell BK988.out 0).trans rfl, (blk_cell BK988.out 1).trans rfl, (blk_cell BK988.out 2).trans rfl⟩ (fun hHeld => ?_)
  clear hK K
  refine norm_ (a' := ?_) ?_ ?_
  rotate_left
  · show Act.put _ (some 32) _ = _
    simp only [Act.put, List.setIfInBounds_toArray, List.set_cons_zero, List.set_cons_succ, i64_w, i32_w]
    rfl
  refine pureE (i := 5) (N := some 27) #[true, true, true, true, true, true, false, false, false, false] HT_.out ?_
  refine pureE (i := 6) (N := some 33) #[true, true, true, true, true, true, true, false, false, false] HT_.out ?_
  refine pureE (i := 7) (N := some 34) #[true, true, true, true, true, true, true, true, false, false] HT_.out ?_
  refine pureE (i := 8) (N := some 6) #[true, true, true, true, true, true, true, true, true, false] HT_.out ?_
  refine pureE (i := 9) (N := some 7) #[true, true, true, true, true, true, true, true, true, true] HT_.out ?_
  refine done_ (done_of HT_.out (by kernel_rfl)) ?_
  obtain ⟨hcz39_0, hcz39_1, hcz39_2, hfz39_0, hfz39_1, hfz39_2⟩ := cz3 BK987.out
  go_upto_region 12 with (first | ((with_reducible refine gate_callee (f := 15) rfl ?_); refine goesM (N := (some 36)) #[.agg #[.int .i64 a0_0, .int .i64 a0_1, .slice A0_2 l0_2.length c0_2]] Try.func15 ?_; (with_reducible refine (laws_toBoard.calls k a0_0 a0_1 _ _ l0_2 t1005 t1006 t1007 _ ?side1 ?side2 A22.out).mono ?_); (case side1 => exact CB (Kd.C_below HR0_2.out HB.out)); (case side2 => exact HC0_2.out); rintro e w40 ⟨v1008, rfl, ho0, hb⟩; refine ⟨_, rfl, ?_⟩; refine E7 (Kd.R_elder' (PR HO995.out) (Kd.R_base ho0) hb) (Kd.R_elder' (PR HO1000.out) (Kd.R_base ho0) hb) (Kd.R_below (PR HO1003.out) hb) (Kd.R_lower (Kd.R_new' (Kd.R_new' ho0 (Kd.R_lt (PR HO995.out))) (Kd.R_lt (PR HO1000.out))) (below_size (BL HB.out))) (bB BK987.out hb) (bB BK988.out hb) (below_step (BL HB.out) hb) ?_; clear HO995 HO1000 HO1003 BK987 BK988 HB; intro HO995 HO1000 HO1003 HO1009 BK987 BK988 HB; (try clear hb); (try clear hb2); (try clear hk); (try clear hi); (try clear ho0)) | ((with_reducible refine gate_dst (N := 8) rfl ?_); refine boxE (N := 8) (cs := #[.int .i64 0, .int .i64 0, .slice none 0 0]) (t := 30) ?_; intro gb1010 hg w41 hbox hb; refine E14 (Kd.R_below (PR HO995.out) hb) (Kd.R_below (PR HO1000.out) hb) (Kd.R_below (PR HO1003.out) hb) (Kd.R_below (PR HO1009.out) hb) (bB BK987.out hb) (bB BK988.out hb) (below_step (BL HB.out) hb) (hbox) (gwM hg (below_size (BL HB.out)) : w.heap.size ≤ gb1010) (gwM hg (below_size (BL HB.out)) : w.heap.size ≤ gb1010) ((nB BK987.out hg : gb987 ≠ gb1010)) ((nC BK987.out hg : gb1010 ≠ gb987)) ((nB BK988.out hg : gb988 ≠ gb1010)) ((nC BK988.out hg : gb1010 ≠ gb988)) ?_; clear HO995 HO1000 HO1003 HO1009 BK987 BK988 HB; intro HO995 HO1000 HO1003 HO1009 BK987 BK988 HB BK1010 GW1010 GE1010 NB987_1010 NB1010_987 NB988_1010 NB1010_988; clear hb hbox hg; have hnb42 := NB1010_987.out; have hnc42 := NB987_1010.out; have hnb43 := NB1010_988.out; have hnc43 := NB988_1010.out; obtain ⟨hcz44_0, hcz44_1, hcz44_2, hfz44_0, hfz44_1, hfz44_2⟩ := cz3 BK1010.out; obtain ⟨Ao45, co45, eo45⟩ := Kd.R_slice HO1009.out; subst eo45; obtain ⟨hcz46_0, hcz46_1, hcz46_2, hfz46_0, hfz46_1, hfz46_2⟩ := cz3 BK988.out) | ((with_reducible refine gate_callee (f := 15) rfl ?_); refine goesM (N := (some 38)) #[.agg #[.int .i64 a1_0, .int .i64 a1_1, .slice A1_2 l1_2.length c1_2]] Try.func15 ?_; (with_reducible refine (laws_toBoard.calls k a1_0 a1_1 _ _ l1_2 t1011 t1012 t1013 _ ?side1 ?side2 A23.out).mono ?_); (case side1 => exact Kd.C_below HR1_2.out (BL HB.out)); (case side2 => exact HC1_2.out); rintro e w47 ⟨v1014, rfl, ho0, hb⟩; refine ⟨_, rfl, ?_⟩; refine E9 (Kd.R_elder' (by (with_reducible repeat (first | apply Kd.R_alloc | apply Kd.R_drewN | apply Kd.R_drew)); exact (Kd.R_mono (Kd.R_far (p := ⟨gb1010, 2, none⟩) (Kd.R_far (p := ⟨gb1010, 1, none⟩) (Kd.R_far (p := ⟨gb1010, 0, none⟩) (Kd.R_types HO995.out BK1010.out (by decide)) (fun _ hk => hk.2) (.int .i64 t1005)) (fun _ hk => hk.2) (.int .i64 t1006)) (fun _ hk => hk.2) (.slice Ao45 t1007.length co45)) (fun _ h_ => h_.1))) (Kd.R_base ho0) hb) (Kd.R_elder' (by (with_reducible repeat (first | apply Kd.R_alloc | apply Kd.R_drewN | apply Kd.R_drew)); exact (Kd.R_mono (Kd.R_far (p := ⟨gb1010, 2, none⟩) (Kd.R_far (p := ⟨gb1010, 1, none⟩) (Kd.R_far (p := ⟨gb1010, 0, none⟩) (Kd.R_types HO1000.out BK1010.out (by decide)) (fun _ hk => hk.2) (.int .i64 t1005)) (fun _ hk => hk.2) (.int .i64 t1006)) (fun _ hk => hk.2) (.slice Ao45 t1007.length co45)) (fun _ h_ => h_.1))) (Kd.R_base ho0) hb) (Kd.R_below (by (with_reducible repeat (first | apply Kd.R_alloc | apply Kd.R_drewN | apply Kd.R_drew)); exact (Kd.R_mono (Kd.R_far (p := ⟨gb1010, 2, none⟩) (Kd.R_far (p := ⟨gb1010, 1, none⟩) (Kd.R_far (p := ⟨gb1010, 0, none⟩) (Kd.R_types HO1003.out BK1010.out (by decide)) (fun _ hk => hk.2) (.int .i64 t1005)) (fun _ hk => hk.2) (.int .i64 t1006)) (fun _ hk => hk.2) (.slice Ao45 t1007.length co45)) (fun _ h_ => h_.1))) hb) (Kd.R_elder' (by (with_reducible repeat (first | apply Kd.R_alloc | apply Kd.R_drewN | apply Kd.R_drew)); exact (Kd.R_mono (Kd.R_far (p := ⟨gb1010, 2, none⟩) (Kd.R_far (p := ⟨gb1010, 1, none⟩) (Kd.R_far (p := ⟨gb1010, 0, none⟩) (Kd.R_types HO1009.out BK1010.out (by decide)) (fun _ hk => hk.2) (.int .i64 t1005)) (fun _ hk => hk.2) (.int .i64 t1006)) (fun _ hk => hk.2) (.slice Ao45 t1007.length co45)) (fun _ h_ => h_.1))) (Kd.R_base ho0) hb) (Kd.R_lower (Kd.R_new' (Kd.R_new' (Kd.R_new' ho0 (Kd.R_lt (by (with_reducible repeat (first | apply Kd.R_alloc | apply Kd.R_drewN | apply Kd.R_drew)); exact (Kd.R_mono (Kd.R_far (p := ⟨gb1010, 2, none⟩) (Kd.R_far (p := ⟨gb1010, 1, none⟩) (Kd.R_far (p := ⟨gb1010, 0, none⟩) (Kd.R_types HO995.out BK1010.out (by decide)) (fun _ hk => hk.2) (.int .i64 t1005)) (fun _ hk => hk.2) (.int .i64 t1006)) (fun _ hk => hk.2) (.slice Ao45 t1007.length co45)) (fun _ h_ => h_.1))))) (Kd.R_lt (by (with_reducible repeat (first | apply Kd.R_alloc | apply Kd.R_drewN | apply Kd.R_drew)); exact (Kd.R_mono (Kd.R_far (p := ⟨gb1010, 2, none⟩) (Kd.R_far (p := ⟨gb1010, 1, none⟩) (Kd.R_far (p := ⟨gb1010, 0, none⟩) (Kd.R_types HO1000.out BK1010.out (by decide)) (fun _ hk => hk.2) (.int .i64 t1005)) (fun _ hk => hk.2) (.int .i64 t1006)) (fun _ hk => hk.2) (.slice Ao45 t1007.length co45)) (fun _ h_ => h_.1))))) (Kd.R_lt (by (with_reducible repeat (first | apply Kd.R_alloc | apply Kd.R_drewN | apply Kd.R_drew)); exact (Kd.R_mono (Kd.R_far (p := ⟨gb1010, 2, none⟩) (Kd.R_far (p := ⟨gb1010, 1, none⟩) (Kd.R_far (p := ⟨gb1010, 0, none⟩) (Kd.R_types HO1009.out BK1010.out (by decide)) (fun _ hk => hk.2) (.int .i64 t1005)) (fun _ hk => hk.2) (.int .i64 t1006)) (fun _ hk => hk.2) (.slice Ao45 t1007.length co45)) (fun _ h_ => h_.1))))) (below_size (BL HB.out))) (blk_below (g := gb987) (o := .cells #[.int .i64 a0_0, .int .i64 a0_1, .slice A0_2 l0_2.length c0_2] 24 (0, 0)) (by (with_reducible repeat (first | refine blk_drewN ?_ _ | refine blk_drew ?_ | refine blk_alloc ?_ _)); refine blk_far ?_ NB987_1010.out _; (with_reducible repeat (first | refine blk_drewN ?_ _ | refine blk_drew ?_ | refine blk_alloc ?_ _)); refine blk_far ?_ NB987_1010.out _; (with_reducible repeat (first | refine blk_drewN ?_ _ | refine blk_drew ?_ | refine blk_alloc ?_ _)); refine blk_far ?_ NB987_1010.out _; (with_reducible repeat (first | refine blk_drewN ?_ _ | refine blk_drew ?_ | refine blk_alloc ?_ _)); exact BK987.out) hb) (blk_below (g := gb988) (o := .cells #[.int .i64 a1_0, .int .i64 a1_1, .slice A1_2 l1_2.length c1_2] 24 (0, 0)) (by (with_reducible repeat (first | refine blk_drewN ?_ _ | refine blk_drew ?_ | refine blk_alloc ?_ _)); refine blk_far ?_ NB988_1010.out _; (with_reducible repeat (first | refine blk_drewN ?_ _ | refine blk_drew ?_ | refine blk_alloc ?_ _)); refine blk_far ?_ NB988_1010.out _; (with_reducible repeat (first | refine blk_drewN ?_ _ | refine blk_drew ?_ | refine blk_alloc ?_ _)); refine blk_far ?_ NB988_1010.out _; (with_reducible repeat (first | refine blk_drewN ?_ _ | refine blk_drew ?_ | refine blk_alloc ?_ _)); exact BK988.out) hb) (blk_below (g := gb1010) (o := .cells #[.int .i64 t1005, .int .i64 t1006, .slice Ao45 t1007.length co45] 30 (0, 0)) (by (with_reducible repeat (first | refine blk_drewN ?_ _ | refine blk_drew ?_ | refine blk_alloc ?_ _)); refine blk_put (cs := #[.int .i64 t1005, .int .i64 t1006, .slice none 0 0]) ?_ 2 _ rfl; (with_reducible repeat (first | refine blk_drewN ?_ _ | refine blk_drew ?_ | refine blk_alloc ?_ _)); refine blk_put (cs := #[.int .i64 t1005, .int .i64 0, .slice none 0 0]) ?_ 1 _ rfl; (with_reducible repeat (first | refine blk_drewN ?_ _ | refine blk_drew ?_ | refine blk_alloc ?_ _)); refine blk_put (cs := #[.int .i64 0, .int .i64 0, .slice none 0 0]) ?_ 0 _ rfl; (with_reducible repeat (first | refine blk_drewN ?_ _ | refine blk_drew ?_ | refine blk_alloc ?_ _)); exact BK1010.out) hb) (below_step (BL HB.out) hb) ?_; clear HO995 HO1000 HO1003 HO1009 BK987 BK988 BK1010 HB; intro HO995 HO1000 HO1003 HO1009 HO1015 BK987 BK988 BK1010 HB; (try clear hb); (try clear hb2); (try clear hk); (try clear hi); (try clear ho0)) | ((with_reducible refine gate_dst (N := 9) rfl ?_); refine boxE (N := 9) (cs := #[.int .i64 0, .int .i64 0, .slice none 0 0]) (t := 30) ?_; intro gb1016 hg w48 hbox hb; refine E18 (Kd.R_below (PR HO995.out) hb) (Kd.R_below (PR HO1000.out) hb) (Kd.R_below (PR HO1003.out) hb) (Kd.R_below (PR HO1009.out) hb) (Kd.R_below (PR HO1015.out) hb) (bB BK987.out hb) (bB BK988.out hb) (bB BK1010.out hb) (below_step (BL HB.out) hb) (hbox) (gwM hg (below_size (BL HB.out)) : w.heap.size ≤ gb1016) (gwM hg (below_size (BL HB.out)) : w.heap.size ≤ gb1016) ((nB BK987.out hg : gb987 ≠ gb1016)) ((nC BK987.out hg : gb1016 ≠ gb987)) ((nB BK988.out hg : gb988 ≠ gb1016)) ((nC BK988.out hg : gb1016 ≠ gb988)) ((nB BK1010.out hg : gb1010 ≠ gb1016)) ((nC BK1010.out hg : gb1016 ≠ gb1010)) ?_; clear HO995 HO1000 HO1003 HO1009 HO1015 BK987 BK988 BK1010 HB; intro HO995 HO1000 HO1003 HO1009 HO1015 BK987 BK988 BK1010 HB BK1016 GW1016 GE1016 NB987_1016 NB1016_987 NB988_1016 NB1016_988 NB1010_1016 NB1016_1010; clear hb hbox hg; have hnb49 := NB1016_987.out; have hnc49 := NB987_1016.out; have hnb50 := NB1016_988.out; have hnc50 := NB988_1016.out; have hnb51 := NB1016_1010.out; have hnc51 := NB1010_1016.out; obtain ⟨hcz52_0, hcz52_1, hcz52_2, hfz52_0, hfz52_1, hfz52_2⟩ := cz3 BK1016.out; obtain ⟨Ao53, co53, eo53⟩ := Kd.R_slice HO1015.out; subst eo53; obtain ⟨hcz54_0, hcz54_1, hcz54_2, hfz54_0, hfz54_1, hfz54_2⟩ := cz3 BK1010.out) | ((with_reducible refine gate_callee (f := 41) rfl ?_); refine goesM (N := (some 42)) #[.agg #[.int .i64 t1005, .int .i64 t1006, .slice Ao45 t1007.length co45], .agg #[.int .i64 t1011, .int .i64 t1012, .slice Ao53 t1013.length co53]] Try.func41 ?_; (with_reducible refine (impl_TurnedUnits.calls k t1005 t1006 _ _ t1007 t1011 t1012 _ _ t1013 t1017 t1020 _ ?side1 ?side2 ?side3 ?side4 A24.out).mono ?_); (case side1 => refine (Kd.R_reads' (e := 73) (base := w.heap.size) (ok := fun k_ => (((True ∧ some k_ ≠ (.slice Ao36 t993.length co36 : Value).ownBlock) ∧ some k_ ≠ (.slice Ao37 t998.length co37 : Value).ownBlock) ∧ some k_ ≠ (.slice Ao53 t1013.length co53 : Value).ownBlock)) (n := t1007.length) (c := co45) ?_).2.2; exact (by (with_reducible repeat (first | apply Kd.R_alloc | apply Kd.R_drewN | apply Kd.R_drew)); exact (Kd.R_mono (Kd.R_far (p := ⟨gb1016, 2, none⟩) (Kd.R_far (p := ⟨gb1016, 1, none⟩) (Kd.R_far (p := ⟨gb1016, 0, none⟩) (Kd.R_types HO1009.out BK1016.out (by decide)) (fun _ hk => hk.2) (.int .i64 t1011)) (fun _ hk => hk.2) (.int .i64 t1012)) (fun _ hk => hk.2) (.slice Ao53 t1013.length co53)) (fun _ h_ => h_.1)))); (case side2 => exact (Kd.R_reads' HO1009.out).2.1); (case side3 => refine (Kd.R_reads' (e := 73) (base := w.heap.size) (ok := fun k_ => (((True ∧ some k_ ≠ (.slice Ao36 t993.length co36 : Value).ownBlock) ∧ some k_ ≠ (.slice Ao37 t998.length co37 : Value).ownBlock) ∧ some k_ ≠ (.slice Ao45 t1007.length co45 : Value).ownBlock)) (n := t1013.length) (c := co53) ?_).2.2; exact (by (with_reducible repeat (first | apply Kd.R_alloc | apply Kd.R_drewN | apply Kd.R_drew)); exact (Kd.R_mono (Kd.R_far (p := ⟨gb1016, 2, none⟩) (Kd.R_far (p := ⟨gb1016, 1, none⟩) (Kd.R_far (p := ⟨gb1016, 0, none⟩) (Kd.R_types HO1015.out BK1016.out (by decide)) (fun _ hk => hk.2) (.int .i64 t1011)) (fun _ hk => hk.2) (.int .i64 t1012)) (fun _ hk => hk.2) (.slice Ao53 t1013.length co53)) (fun _ h_ => h_.1)))); (case side4 => exact (Kd.R_reads' HO1015.out).2.1); rintro e w55 ⟨v1018, rfl, ho0, hb⟩; refine ⟨_, rfl, ?_⟩; refine E11 (Kd.R_below (by (with_reducible repeat (first | apply Kd.R_alloc | apply Kd.R_drewN | apply Kd.R_drew)); exact (Kd.R_mono (Kd.R_far (p := ⟨gb1016, 2, none⟩) (Kd.R_far (p := ⟨gb1016, 1, none⟩) (Kd.R_far (p := ⟨gb1016, 0, none⟩) (Kd.R_types HO995.out BK1016.out (by decide)) (fun _ hk => hk.2) (.int .i64 t1011)) (fun _ hk => hk.2) (.int .i64 t1012)) (fun _ hk => hk.2) (.slice Ao53 t1013.length co53)) (fun _ h_ => h_.1))) hb) (Kd.R_below (by (with_reducible repeat (first | apply Kd.R_alloc | apply Kd.R_drewN | apply Kd.R_drew)); exact (Kd.R_mono (Kd.R_far (p := ⟨gb1016, 2, none⟩) (Kd.R_far (p := ⟨gb1016, 1, none⟩) (Kd.R_far (p := ⟨gb1016, 0, none⟩) (Kd.R_types HO1000.out BK1016.out (by decide)) (fun _ hk => hk.2) (.int .i64 t1011)) (fun _ hk => hk.2) (.int .i64 t1012)) (fun _ hk => hk.2) (.slice Ao53 t1013.length co53)) (fun _ h_ => h_.1))) hb) (Kd.R_elder' (by (with_reducible repeat (first | apply Kd.R_alloc | apply Kd.R_drewN | apply Kd.R_drew)); exact (Kd.R_mono (Kd.R_far (p := ⟨gb1016, 2, none⟩) (Kd.R_far (p := ⟨gb1016, 1, none⟩) (Kd.R_far (p := ⟨gb1016, 0, none⟩) (Kd.R_types HO1003.out BK1016.out (by decide)) (fun _ hk => hk.2) (.int .i64 t1011)) (fun _ hk => hk.2) (.int .i64 t1012)) (fun _ hk => hk.2) (.slice Ao53 t1013.length co53)) (fun _ h_ => h_.1))) (Kd.R_base ho0) hb) (Kd.R_below (by (with_reducible repeat (first | apply Kd.R_alloc | apply Kd.R_drewN | apply Kd.R_drew)); exact (Kd.R_mono (Kd.R_far (p := ⟨gb1016, 2, none⟩) (Kd.R_far (p := ⟨gb1016, 1, none⟩) (Kd.R_far (p := ⟨gb1016, 0, none⟩) (Kd.R_types HO1009.out BK1016.out (by decide)) (fun _ hk => hk.2) (.int .i64 t1011)) (fun _ hk => hk.2) (.int .i64 t1012)) (fun _ hk => hk.2) (.slice Ao53 t1013.length co53)) (fun _ h_ => h_.1))) hb) (Kd.R_below (by (with_reducible repeat (first | apply Kd.R_alloc | apply Kd.R_drewN | apply Kd.R_drew)); exact (Kd.R_mono (Kd.R_far (p := ⟨gb1016, 2, none⟩) (Kd.R_far (p := ⟨gb1016, 1, none⟩) (Kd.R_far (p := ⟨gb1016, 0, none⟩) (Kd.R_types HO1015.out BK1016.out (by decide)) (fun _ hk => hk.2) (.int .i64 t1011)) (fun _ hk => hk.2) (.int .i64 t1012)) (fun _ hk => hk.2) (.slice Ao53 t1013.length co53)) (fun _ h_ => h_.1))) hb) (Kd.R_lower (Kd.R_new' ho0 (Kd.R_lt (by (with_reducible repeat (first | apply Kd.R_alloc | apply Kd.R_drewN | apply Kd.R_drew)); exact (Kd.R_mono (Kd.R_far (p := ⟨gb1016, 2, none⟩) (Kd.R_far (p := ⟨gb1016, 1, none⟩) (Kd.R_far (p := ⟨gb1016, 0, none⟩) (Kd.R_types HO1003.out BK1016.out (by decide)) (fun _ hk => hk.2) (.int .i64 t1011)) (fun _ hk => hk.2) (.int .i64 t1012)) (fun _ hk => hk.2) (.slice Ao53 t1013.length co53)) (fun _ h_ => h_.1))))) (below_size (BL HB.out))) (blk_below (g := gb987) (o := .cells #[.int .i64 a0_0, .int .i64 a0_1, .slice A0_2 l0_2.length c0_2] 24 (0, 0)) (by (with_reducible repeat (first | refine blk_drewN ?_ _ | refine blk_drew ?_ | refine blk_alloc ?_ _)); refine blk_far ?_ NB987_1016.out _; (with_reducible repeat (first | refine blk_drewN ?_ _ | refine blk_drew ?_ | refine blk_alloc ?_ _)); refine blk_far ?_ NB987_1016.out _; (with_reducible repeat (first | refine blk_drewN ?_ _ | refine blk_drew ?_ | refine blk_alloc ?_ _)); refine blk_far ?_ NB987_1016.out _; (with_reducible repeat (first | refine blk_drewN ?_ _ | refine blk_drew ?_ | refine blk_alloc ?_ _)); exact BK987.out) hb) (blk_below (g := gb988) (o := .cells #[.int .i64 a1_0, .int .i64 a1_1, .slice A1_2 l1_2.length c1_2] 24 (0, 0)) (by (with_reducible repeat (first | refine blk_drewN ?_ _ | refine blk_drew ?_ | refine blk_alloc ?_ _)); refine blk_far ?_ NB988_1016.out _; (with_reducible repeat (first | refine blk_drewN ?_ _ | refine blk_drew ?_ | refine blk_alloc ?_ _)); refine blk_far ?_ NB988_1016.out _; (with_reducible repeat (first | refine blk_drewN ?_ _ | refine blk_drew ?_ | refine blk_alloc ?_ _)); refine blk_far ?_ NB988_1016.out _; (with_reducible repeat (first | refine blk_drewN ?_ _ | refine blk_drew ?_ | refine blk_alloc ?_ _)); exact BK988.out) hb) (blk_below (g := gb1010) (o := .cells #[.int .i64 t1005, .int .i64 t1006, .slice Ao45 t1007.length co45] 30 (0, 0)) (by (with_reducible repeat (first | refine blk_drewN ?_ _ | refine blk_drew ?_ | refine blk_alloc ?_ _)); refine blk_far ?_ NB1010_1016.out _; (with_reducible repeat (first | refine blk_drewN ?_ _ | refine blk_drew ?_ | refine blk_alloc ?_ _)); refine blk_far ?_ NB1010_1016.out _; (with_reducible repeat (first | refine blk_drewN ?_ _ | refine blk_drew ?_ | refine blk_alloc ?_ _)); refine blk_far ?_ NB1010_1016.out _; (with_reducible repeat (first | refine blk_drewN ?_ _ | refine blk_drew ?_ | refine blk_alloc ?_ _)); exact BK1010.out) hb) (blk_below (g := gb1016) (o := .cells #[.int .i64 t1011, .int .i64 t1012, .slice Ao53 t1013.length co53] 30 (0, 0)) (by (with_reducible repeat (first | refine blk_drewN ?_ _ | refine blk_drew ?_ | refine blk_alloc ?_ _)); refine blk_put (cs := #[.int .i64 t1011, .int .i64 t1012, .slice none 0 0]) ?_ 2 _ rfl; (with_reducible repeat (first | refine blk_drewN ?_ _ | refine blk_drew ?_ | refine blk_alloc ?_ _)); refine blk_put (cs := #[.int .i64 t1011, .int .i64 0, .slice none 0 0]) ?_ 1 _ rfl; (with_reducible repeat (first | refine blk_drewN ?_ _ | refine blk_drew ?_ | refine blk_alloc ?_ _)); refine blk_put (cs := #[.int .i64 0, .int .i64 0, .slice none 0 0]) ?_ 0 _ rfl; (with_reducible repeat (first | refine blk_drewN ?_ _ | refine blk_drew ?_ | refine blk_alloc ?_ _)); exact BK1016.out) hb) (below_step (BL HB.out) hb) ?_; clear HO995 HO1000 HO1003 HO1009 HO1015 BK987 BK988 BK1010 BK1016 HB; intro HO995 HO1000 HO1003 HO1009 HO1015 HO1019 BK987 BK988 BK1010 BK1016 HB; (try clear hb); (try clear hb2); (try clear hk); (try clear hi); (try clear ho0)))
  (try simp only [Act.put, List.setIfInBounds_toArray, List.set_cons_zero, List.set_cons_succ])
  go_cut [53] (fun v53 wc => ∃ (kq : Nat) (x53_24 : Bool), v53 = .bool x53_24 ∧ Aside0 (laws_FnExactTurnedUnits.j0 kq t1001 t1004 t1017 t1020 x53_24 a0_0 a0_1 l0_2 a1_0 a1_1 l1_2 t1005 t1006 t1007 t1011 t1012 t1013 = some true) ∧ Aside0 (kq ≤ k) ∧ Aside0 (Kd.R (Kd.int .i64) 3 wc w.heap.size (fun k_ => some k_ ≠ (v1018 : Value).ownBlock) v1002 t1001) ∧ Aside0 (Kd.R (Kd.int .i64) 3 wc w.heap.size (fun k_ => some k_ ≠ (v1002 : Value).ownBlock) v1018 t1017) ∧ Aside0 (Kd.R k73 73 wc w.heap.size (fun k_ => some k_ ≠ ((.slice Ao53 t1013.length co53) : Value).ownBlock) (.slice Ao45 t1007.length co45) t1007) ∧ Aside0 (Kd.R k73 73 wc w.heap.size (fun k_ => some k_ ≠ ((.slice Ao45 t1007.length co45) : Value).ownBlock) (.slice Ao53 t1013.length co53) t1013) ∧ Aside0 (wc.heap[gb987]? = some (.cells #[.int .i64 a0_0, .int .i64 a0_1, (.slice A0_2 l0_2.length c0_2)] 24 (0, 0))) ∧ Aside0 (wc.heap[gb988]? = some (.cells #[.int .i64 a1_0, .int .i64 a1_1, (.slice A1_2 l1_2.length c1_2)] 24 (0, 0))) ∧ Aside0 (wc.heap[gb1010]? = some (.cells #[.int .i64 t1005, .int .i64 t1006, (.slice Ao45 t1007.length co45)] 30 (0, 0))) ∧ Aside0 (wc.heap[gb1016]? = some (.cells #[.int .i64 t1011, .int .i64 t1012, (.slice Ao53 t1013.length co53)] 30 (0, 0))) ∧ Aside0 (Below w.heap.size w wc))
  case first =>
    have H := HC25.out
    clear HC25
    replace H := bindA H; obtain ⟨t1021, A56, H⟩ := H
    by_cases c57 : t1021 = true
    · subst c57
      have H1 : (laws_FnExactTurnedUnits.j0 k t1001 t1004 t1017 t1020 (t1020 != t1004) a0_0 a0_1 l0_2 a1_0 a1_1 l1_2 t1005 t1006 t1007 t1011 t1012 t1013) = some true := by rw [if_pos rfl] at H; exact H
      clear H
      have H := H1
      clear H1
      have H' := Aside0.mk H
      clear H
      obtain ⟨Ao58, co58, eo58⟩ := Kd.R_slice HO1019.out
      subst eo58
      obtain ⟨Ao59, co59, eo59⟩ := Kd.R_slice HO1003.out
      subst eo59
      go_wp2_with (first | ((with_reducible refine gate_callee (f := 22) rfl ?_); refine goesM (N := (some 47)) #[.slice Ao58 t1017.length co58, .slice Ao59 t1001.length co59] Try.func22 ?_; (with_reducible refine (laws_eqIntS.calls k _ _ t1017 _ _ t1001 true _ ?side1 ?side2 ?side3 ?side4 A56.out).mono ?_); (case side1 => repeat (first | exact (Kd.R_reads' HO1019.out).2.2 | (with_reducible refine Kd.C_alloc ?_ _) | (with_reducible refine Kd.C_drewN ?_ _) | (with_reducible refine Kd.C_drew ?_))); (case side2 => exact (Kd.R_reads' HO1019.out).2.1); (case side3 => repeat (first | exact (Kd.R_reads' HO1003.out).2.2 | (with_reducible refine Kd.C_alloc ?_ _) | (with_reducible refine Kd.C_drewN ?_ _) | (with_reducible refine Kd.C_drew ?_))); (case side4 => exact (Kd.R_reads' HO1003.out).2.1); rintro e w' ⟨rfl, ⟨nd, rfl⟩⟩; refine ⟨_, rfl, ?_⟩))
      go_meet
      case rel => exact ⟨_, ((t1020 != t1004)), RG, H', ⟨by first | omega | exact Nat.le_refl _⟩, ⟨by (with_reducible repeat (first | apply Kd.R_alloc | apply Kd.R_drewN | apply Kd.R_drew)); exact Kd.R_mono HO1003.out (fun _ hk => hk.2)⟩, ⟨by (with_reducible repeat (first | apply Kd.R_alloc | apply Kd.R_drewN | apply Kd.R_drew)); exact Kd.R_mono HO1019.out (fun _ hk => hk.2)⟩, ⟨by (with_reducible repeat (first | apply Kd.R_alloc | apply Kd.R_drewN | apply Kd.R_drew)); exact Kd.R_mono HO1009.out (fun _ hk => hk.2)⟩, ⟨by (with_reducible repeat (first | apply Kd.R_alloc | apply Kd.R_drewN | apply Kd.R_drew)); exact Kd.R_mono HO1015.out (fun _ hk => hk.2)⟩, ⟨PB BK987.out⟩, ⟨PB BK988.out⟩, ⟨PB BK1010.out⟩, ⟨PB BK1016.out⟩, ⟨BL HB.out⟩⟩
    replace c57 := Bool.eq_false_iff.mpr c57
    subst c57
    have H1 : (laws_FnExactTurnedUnits.j0 k t1001 t1004 t1017 t1020 true a0_0 a0_1 l0_2 a1_0 a1_1 l1_2 t1005 t1006 t1007 t1011 t1012 t1013) = some true := by rw [if_neg (show ¬ (false = true) by decide)] at H; exact H
    exact absurd H1 (by cases k <;> simp [laws_FnExactTurnedUnits.j0])
  clear HC25
  try clear c4b0; try clear c11b0; try clear hcz29_0; try clear hcz29_1; try clear hcz29_2; try clear hcz31_0; try clear hcz31_1; try clear hcz31_2; try clear hcz39_0; try clear hcz39_1; try clear hcz39_2; try clear hcz44_0; try clear hcz44_1; try clear hcz44_2; try clear hcz46_0; try clear hcz46_1; try clear hcz46_2; try clear hcz52_0; try clear hcz52_1; try clear hcz52_2; try clear hcz54_0; try clear hcz54_1; try clear hcz54_2; try clear hfz29_0; try clear hfz29_1; try clear hfz29_2; try clear hfz31_0; try clear hfz31_1; try clear hfz31_2; try clear hfz39_0; try clear hfz39_1; try clear hfz39_2; try clear hfz44_0; try clear hfz44_1; try clear hfz44_2; try clear hfz46_0; try clear hfz46_1; try clear hfz46_2; try clear hfz52_0; try clear hfz52_1; try clear hfz52_2; try clear hfz54_0; try clear hfz54_1; try clear hfz54_2
  obtain ⟨kq, x53_24, rfl, HA, HJ24, HO_6, HO_10, HO_1011002, HO_1017002, BK987, BK988, BK1010, BK1016, HB⟩ := hcut
  cases kq with
  | zero => exact absurd HA.out (by simp [laws_FnExactTurnedUnits.j0])
  | succ kj24 => ?_
  have H := HA.out
  clear HA
  simp only [laws_FnExactTurnedUnits.j0] at H
  by_cases c62 : x53_24 = true
  · subst c62
    have H1 : (some false) = some true := by rw [if_pos rfl] at H; exact H
    exact absurd H1 (by simp)
  replace c62 := Bool.eq_false_iff.mpr c62
  subst c62
  have H1 : ((laws_toBoard.f kj24 a0_0 a0_1 l0_2).bind fun bt1022 => ((laws_eqBoard.f kj24 t1005 t1006 t1007 bt1022.1 bt1022.2.1 bt1022.2.2).bind fun t1027 => (if t1027 = true then ((laws_toBoard.f kj24 a1_0 a1_1 l1_2).bind fun bt1028 => ((laws_eqBoard.f kj24 t1011 t1012 t1013 bt1028.1 bt1028.2.1 bt1028.2.2).bind fun t1033 => (if t1033 = true then ((laws_markBoard.f kj24 t1005 t1006 t1007 1).bind fun bt1034 => ((laws_markBoard.f kj24 t1011 t1012 t1013 bt1034.1).bind fun bt1036 => (if bt1036.1 < 0 then (laws_FnExactTurnedUnits.j1 kj24 t1001 t1004 t1017 true a0_0 a0_1 l0_2 a1_0 a1_1 l1_2) else ((laws_eqIntS.f kj24 t1017 t1001).bind fun t1038 => (if t1038 = true then (laws_FnExactTurnedUnits.j1 kj24 t1001 t1004 t1017 (t1020 != t1004) a0_0 a0_1 l0_2 a1_0 a1_1 l1_2) else (laws_FnExactTurnedUnits.j1 kj24 t1001 t1004 t1017 true a0_0 a0_1 l0_2 a1_0 a1_1 l1_2)))))) else (some false)))) else (some false)))) = some true := by rw [if_neg (show ¬ (false = true) by decide)] at H; exact H
  clear H
  have H := H1
  clear H1
  replace H := bindA H; obtain ⟨⟨t1022, t1023, t1024⟩, A63, H⟩ := H
  dsimp only at H
  replace H := bindA H; obtain ⟨t1027, A64, H⟩ := H
  by_cases c65 : t1027 = true
  · subst c65
    have H1 : ((laws_toBoard.f kj24 a1_0 a1_1 l1_2).bind fun bt1028 => ((laws_eqBoard.f kj24 t1011 t1012 t1013 bt1028.1 bt1028.2.1 bt1028.2.2).bind fun t1033 => (if t1033 = true then ((laws_markBoard.f kj24 t1005 t1006 t1007 1).bind fun bt1034 => ((laws_markBoard.f kj24 t1011 t1012 t1013 bt1034.1).bind fun bt1036 => (if bt1036.1 < 0 then (laws_FnExactTurnedUnits.j1 kj24 t1001 t1004 t1017 true a0_0 a0_1 l0_2 a1_0 a1_1 l1_2) else ((laws_eqIntS.f kj24 t1017 t1001).bind fun t1038 => (if t1038 = true then (laws_FnExactTurnedUnits.j1 kj24 t1001 t1004 t1017 (t1020 != t1004) a0_0 a0_1 l0_2 a1_0 a1_1 l1_2) else (laws_FnExactTurnedUnits.j1 kj24 t1001 t1004 t1017 true a0_0 a0_1 l0_2 a1_0 a1_1 l1_2)))))) else (some false)))) = some true := by rw [if_pos rfl] at H; exact H
    clear H
    have H := H1
    clear H1
    replace H := bindA H; obtain ⟨⟨t1028, t1029, t1030⟩, A66, H⟩ := H
    dsimp only at H
    replace H := bindA H; obtain ⟨t1033, A67, H⟩ := H
    by_cases c68 : t1033 = true
    · subst c68
      have H1 : ((laws_markBoard.f kj24 t1005 t1006 t1007 1).bind fun bt1034 => ((laws_markBoard.f kj24 t1011 t1012 t1013 bt1034.1).bind fun bt1036 => (if bt1036.1 < 0 then (laws_FnExactTurnedUnits.j1 kj24 t1001 t1004 t1017 true a0_0 a0_1 l0_2 a1_0 a1_1 l1_2) else ((laws_eqIntS.f kj24 t1017 t1001).bind fun t1038 => (if t1038 = true then (laws_FnExactTurnedUnits.j1 kj24 t1001 t1004 t1017 (t1020 != t1004) a0_0 a0_1 l0_2 a1_0 a1_1 l1_2) else (laws_FnExactTurnedUnits.j1 kj24 t1001 t1004 t1017 true a0_0 a0_1 l0_2 a1_0 a1_1 l1_2)))))) = some true := by rw [if_pos rfl] at H; exact H
      clear H
      have H := H1
      clear H1
      replace H := bindA H; obtain ⟨⟨t1034, t1035⟩, A69, H⟩ := H
      dsimp only at H
      replace H := bindA H; obtain ⟨⟨t1036, t1037⟩, A70, H⟩ := H
      dsimp only at H
      have HC71 := Aside0.mk H
      clear H
      try go_wp2
      refine E9 (Kd.R_drew HO_6.out) (Kd.R_drew HO_10.out) (Kd.R_drew HO_1011002.out) (Kd.R_drew HO_1017002.out) (blk_drew BK987.out) (blk_drew BK988.out) (blk_drew BK1010.out) (blk_drew BK1016.out) (below_drew1 HB.out) ?_
      clear HO_6 HO_10 HO_1011002 HO_1017002 BK987 BK988 BK1010 BK1016 HB
      intro HO_6 HO_10 HO_1011002 HO_1017002 BK987 BK988 BK1010 BK1016 HB
      refine start_ (n := 5) (S := fun w' => w'.cell? ⟨gb1010, 0, none⟩ = some (.int .i64 t1005) ∧ w'.cell? ⟨gb1010, 1, none⟩ = some (.int .i64 t1006) ∧ w'.cell? ⟨gb1010, 2, none⟩ = some (.slice Ao45 t1007.length co45) ∧ w'.cell? ⟨gb987, 0, none⟩ = some (.int .i64 a0_0) ∧ w'.cell? ⟨gb987, 1, none⟩ = some (.int .i64 a0_1) ∧ w'.cell? ⟨gb987, 2, none⟩ = some (.slice A0_2 l0_2.length c0_2)) (ds := []) #[false, false, false, false, false] (by kernel_rfl) rfl rfl ⟨(blk_cell BK1010.out 0).trans rfl, (blk_cell BK1010.out 1).trans rfl, (blk_cell BK1010.out 2).trans rfl, (blk_cell BK987.out 0).trans rfl, (blk_cell BK987.out 1).trans rfl, (blk_cell BK987.out 2).trans rfl⟩ (fun hHeld => ?_)
      generalize wc.drew = w72 at HO_6 HO_10 HO_1011002 HO_1017002 BK987 BK988 BK1010 BK1016 HB hHeld ⊢
      refine take_ (i := 0) (N := some 54) (v := ?_) (a' := ?_) #[true, false, false, false, false] rfl rfl (by kernel_rfl) (fun _ _ _ h => h) (Or.inl ⟨by rfl, ?_⟩) hHeld ?_ ?_
      rotate_left
      · rintro w' ⟨s0, s1, s2, s3, s4, s5⟩
        go_simp
        with_reducible rfl
      rotate_left
      · simp only [Act.put, List.setIfInBounds_toArray, List.set_cons_zero, List.set_cons_succ, i64_w, i32_w]
        rfl
      refine take_ (i := 1) (N := some 55) (v := ?_) (a' := ?_) #[true, true, false, false, false] rfl rfl (by kernel_rfl) (fun _ _ _ h => h) (Or.inl ⟨by rfl, ?_⟩) hHeld ?_ ?_
      rotate_left
      · rintro w' ⟨s0, s1, s2, s3, s4, s5⟩
        go_simp
        with_reducible rfl
      rotate_left
      · simp only [Act.put, List.setIfInBounds_toArray, List.set_cons_zero, List.set_cons_succ, i64_w, i32_w]
        rfl
      refine one_ (i := 2) (N := some 56) #[true, true, true, false, false] rfl rfl (by kernel_rfl) (by decide) (fun K hK => ?_)
      refine goes_ Try.func15 (by kernel_rfl) rfl #[.agg #[.int .i64 a0_0, .int .i64 a0_1, .slice A0_2 l0_2.length c0_2]] (by rfl) rfl rfl (by (try simp only [List.map_toArray, List.map_cons, List.map_nil]); first | done | rfl | (simp only [List.length_drop, List.length_take]; rfl)) ?_
      with_reducible refine (laws_toBoard.calls kj24 a0_0 a0_1 _ _ l0_2 t1022 t1023 t1024 _ ?side1 ?side2 A63.out).mono ?_
      (case side1 => exact CB (Kd.C_below HR0_2.out HB.out))
      (case side2 => exact HC0_2.out)
      rintro e w73 ⟨v1025, rfl, ho0, hb⟩
      refine ⟨_, rfl, ?_⟩
      refine E10 (Kd.R_below (PR HO_6.out) hb) (Kd.R_below (PR HO_10.out) hb) (Kd.R_elder' (PR HO_1011002.out) (Kd.R_base ho0) hb) (Kd.R_elder' (PR HO_1017002.out) (Kd.R_base ho0) hb) (Kd.R_lower (Kd.R_new' (Kd.R_new' ho0 (Kd.R_lt (PR HO_1011002.out))) (Kd.R_lt (PR HO_1017002.out))) (below_size (BL HB.out))) (bB BK987.out hb) (bB BK988.out hb) (bB BK1010.out hb) (bB BK1016.out hb) (below_step (BL HB.out) hb) ?_
      clear HO_6 HO_10 HO_1011002 HO_1017002 BK987 BK988 BK1010 BK1016 HB
      intro HO_6 HO_10 HO_1011002 HO_1017002 HO1026 BK987 BK988 BK1010 BK1016 HB
      (try clear hb)
      (try clear hb2)
      (try clear hk)
      (try clear hi)
      (try clear ho0)
      obtain ⟨Ao74, co74, eo74⟩ := Kd.R_slice HO1026.out
      (first | subst eo74 | (injection eo74 with f1_ f2_ f3_; have f4_ := f1_.symm; have f5_ := f3_.symm; clear f1_ f2_ f3_; subst f4_; subst f5_))
      refine hK.out _ _ ⟨(blk_cell BK1010.out 0).trans rfl, (blk_cell BK1010.out 1).trans rfl, (blk_cell BK1010.out 2).trans rfl, (blk_cell BK987.out 0).trans rfl, (blk_cell BK987.out 1).trans rfl, (blk_cell BK987.out 2).trans rfl⟩ (fun hHeld => ?_)
      clear hK K
      refine norm_ (a' := ?_) ?_ ?_
      rotate_left
      · show Act.put _ (some 56) _ = _
        simp only [Act.put, List.setIfInBounds_toArray, List.set_cons_zero, List.set_cons_succ, i64_w, i32_w]
        rfl
      refine one_ (i := 3) (N := some 57) #[true, true, true, true, false] rfl rfl (by kernel_rfl) (by decide) (fun K hK => ?_)
      refine goes_ Try.func17 (by kernel_rfl) rfl #[.agg #[.int .i64 t1005, .int .i64 t1006, .slice Ao45 t1007.length co45], .agg #[.int .i64 t1022, .int .i64 t1023, .slice Ao74 t1024.length co74]] (by rfl) rfl rfl (by (try simp only [List.map_toArray, List.map_cons, List.map_nil]); first | done | rfl | (simp only [List.length_drop, List.length_take]; rfl)) ?_
      with_reducible refine (laws_eqBoard.calls kj24 t1005 t1006 _ _ t1007 t1022 t1023 _ _ t1024 true _ ?side1 ?side2 ?side3 ?side4 A64.out).mono ?_
      (case side1 => repeat (first | exact (Kd.R_reads' HO_1011002.out).2.2 | (with_reducible refine Kd.C_alloc ?_ _) | (with_reducible refine Kd.C_drewN ?_ _) | (with_reducible refine Kd.C_drew ?_)))
      (case side2 => exact (Kd.R_reads' HO_1011002.out).2.1)
      (case side3 => repeat (first | exact (Kd.R_reads' HO1026.out).2.2 | (with_reducible refine Kd.C_alloc ?_ _) | (with_reducible refine Kd.C_drewN ?_ _) | (with_reducible refine Kd.C_drew ?_)))
      (case side4 => exact (Kd.R_reads' HO1026.out).2.1)
      rintro e w75 ⟨rfl, hb⟩
      refine ⟨_, rfl, ?_⟩
      refine E10 (Kd.R_below (PR HO_6.out) hb) (Kd.R_below (PR HO_10.out) hb) (Kd.R_below (PR HO_1011002.out) hb) (Kd.R_below (PR HO_1017002.out) hb) (Kd.R_below (PR HO1026.out) hb) (bB BK987.out hb) (bB BK988.out hb) (bB BK1010.out hb) (bB BK1016.out hb) (below_step (BL HB.out) hb) ?_
      clear HO_6 HO_10 HO_1011002 HO_1017002 HO1026 BK987 BK988 BK1010 BK1016 HB
      intro HO_6 HO_10 HO_1011002 HO_1017002 HO1026 BK987 BK988 BK1010 BK1016 HB
      (try clear hb)
      (try clear hb2)
      (try clear hk)
      (try clear hi)
      refine hK.out _ _ ⟨(blk_cell BK1010.out 0).trans rfl, (blk_cell BK1010.out 1).trans rfl, (blk_cell BK1010.out 2).trans rfl, (blk_cell BK987.out 0).trans rfl, (blk_cell BK987.out 1).trans rfl, (blk_cell BK987.out 2).trans rfl⟩ (fun hHeld => ?_)
      clear hK K
      refine norm_ (a' := ?_) ?_ ?_
      rotate_left
      · show Act.put _ (some 57) _ = _
        simp only [Act.put, List.setIfInBounds_toArray, List.set_cons_zero, List.set_cons_succ, i64_w, i32_w]
        rfl
      refine pure_ (i := 4) (N := some 58) (v := ?_) (a' := ?_) #[true, true, true, true, true] rfl rfl (by kernel_rfl) (fun _ _ _ h => h) (Or.inl ⟨by rfl, ?_⟩) ?_ ?_
      rotate_left
      · intro w'
        go_simp
        with_reducible rfl
      rotate_left
      · simp only [Act.put, List.setIfInBounds_toArray, List.set_cons_zero, List.set_cons_succ, i64_w, i32_w]
        rfl
      refine done_ (by kernel_rfl) ?_
      try go_wp2
      refine E10 (Kd.R_drew HO_6.out) (Kd.R_drew HO_10.out) (Kd.R_drew HO_1011002.out) (Kd.R_drew HO_1017002.out) (Kd.R_drew HO1026.out) (blk_drew BK987.out) (blk_drew BK988.out) (blk_drew BK1010.out) (blk_drew BK1016.out) (below_drew1 HB.out) ?_
      clear HO_6 HO_10 HO_1011002 HO_1017002 HO1026 BK987 BK988 BK1010 BK1016 HB
      intro HO_6 HO_10 HO_1011002 HO_1017002 HO1026 BK987 BK988 BK1010 BK1016 HB
      refine start_ (n := 5) (S := fun w' => w'.cell? ⟨gb1016, 0, none⟩ = some (.int .i64 t1011) ∧ w'.cell? ⟨gb1016, 1, none⟩ = some (.int .i64 t1012) ∧ w'.cell? ⟨gb1016, 2, none⟩ = some (.slice Ao53 t1013.length co53) ∧ w'.cell? ⟨gb988, 0, none⟩ = some (.int .i64 a1_0) ∧ w'.cell? ⟨gb988, 1, none⟩ = some (.int .i64 a1_1) ∧ w'.cell? ⟨gb988, 2, none⟩ = some (.slice A1_2 l1_2.length c1_2)) (ds := []) #[false, false, false, false, false] (by kernel_rfl) rfl rfl ⟨(blk_cell BK1016.out 0).trans rfl, (blk_cell BK1016.out 1).trans rfl, (blk_cell BK1016.out 2).trans rfl, (blk_cell BK988.out 0).trans rfl, (blk_cell BK988.out 1).trans rfl, (blk_cell BK988.out 2).trans rfl⟩ (fun hHeld => ?_)
      generalize w75.drew = w76 at HO_6 HO_10 HO_1011002 HO_1017002 HO1026 BK987 BK988 BK1010 BK1016 HB hHeld ⊢
      refine take_ (i := 0) (N := some 59) (v := ?_) (a' := ?_) #[true, false, false, false, false] rfl rfl (by kernel_rfl) (fun _ _ _ h => h) (Or.inl ⟨by rfl, ?_⟩) hHeld ?_ ?_
      rotate_left
      · rintro w' ⟨s0, s1, s2, s3, s4, s5⟩
        go_simp
        with_reducible rfl
      rotate_left
      · simp only [Act.put, List.setIfInBounds_toArray, List.set_cons_zero, List.set_cons_succ, i64_w, i32_w]
        rfl
      refine take_ (i := 1) (N := some 60) (v := ?_) (a' := ?_) #[true, true, false, false, false] rfl rfl (by kernel_rfl) (fun _ _ _ h => h) (Or.inl ⟨by rfl, ?_⟩) hHeld ?_ ?_
      rotate_left
      · rintro w' ⟨s0, s1, s2, s3, s4, s5⟩
        go_simp
        with_reducible rfl
      rotate_left
      · simp only [Act.put, List.setIfInBounds_toArray, List.set_cons_zero, List.set_cons_succ, i64_w, i32_w]
        rfl
      refine one_ (i := 2) (N := some 61) #[true, true, true, false, false] rfl rfl (by kernel_rfl) (by decide) (fun K hK => ?_)
      refine goes_ Try.func15 (by kernel_rfl) rfl #[.agg #[.int .i64 a1_0, .int .i64 a1_1, .slice A1_2 l1_2.length c1_2]] (by rfl) rfl rfl (by (try simp only [List.map_toArray, List.map_cons, List.map_nil]); first | done | rfl | (simp only [List.length_drop, List.length_take]; rfl)) ?_
      with_reducible refine (laws_toBoard.calls kj24 a1_0 a1_1 _ _ l1_2 t1028 t1029 t1030 _ ?side1 ?side2 A66.out).mono ?_
      (case side1 => exact CB (Kd.C_below HR1_2.out HB.out))
      (case side2 => exact HC1_2.out)
      rintro e w77 ⟨v1031, rfl, ho0, hb⟩
      refine ⟨_, rfl, ?_⟩
      refine E11 (Kd.R_below (PR HO_6.out) hb) (Kd.R_below (PR HO_10.out) hb) (Kd.R_elder' (PR HO_1011002.out) (Kd.R_base ho0) hb) (Kd.R_elder' (PR HO_1017002.out) (Kd.R_base ho0) hb) (Kd.R_elder' (PR HO1026.out) (Kd.R_base ho0) hb) (Kd.R_lower (Kd.R_new' (Kd.R_new' (Kd.R_new' ho0 (Kd.R_lt (PR HO_1011002.out))) (Kd.R_lt (PR HO_1017002.out))) (Kd.R_lt (PR HO1026.out))) (below_size (BL HB.out))) (bB BK987.out hb) (bB BK988.out hb) (bB BK1010.out hb) (bB BK1016.out hb) (below_step (BL HB.out) hb) ?_
      clear HO_6 HO_10 HO_1011002 HO_1017002 HO1026 BK987 BK988 BK1010 BK1016 HB
      intro HO_6 HO_10 HO_1011002 HO_1017002 HO1026 HO1032 BK987 BK988 BK1010 BK1016 HB
      (try clear hb)
      (try clear hb2)
      (try clear hk)
      (try clear hi)
      (try clear ho0)
      obtain ⟨Ao78, co78, eo78⟩ := Kd.R_slice HO1032.out
      (first | subst eo78 | (injection eo78 with f1_ f2_ f3_; have f4_ := f1_.symm; have f5_ := f3_.symm; clear f1_ f2_ f3_; subst f4_; subst f5_))
      refine hK.out _ _ ⟨(blk_cell BK1016.out 0).trans rfl, (blk_cell BK1016.out 1).trans rfl, (blk_cell BK1016.out 2).trans rfl, (blk_cell BK988.out 0).trans rfl, (blk_cell BK988.out 1).trans rfl, (blk_cell BK988.out 2).trans rfl⟩ (fun hHeld => ?_)
      clear hK K
      refine norm_ (a' := ?_) ?_ ?_
      rotate_left
      · show Act.put _ (some 61) _ = _
        simp only [Act.put, List.setIfInBounds_toArray, List.set_cons_zero, List.set_cons_succ, i64_w, i32_w]
        rfl
      refine one_ (i := 3) (N := some 62) #[true, true, true, true, false] rfl rfl (by kernel_rfl) (by decide) (fun K hK => ?_)
      refine goes_ Try.func17 (by kernel_rfl) rfl #[.agg #[.int .i64 t1011, .int .i64 t1012, .slice Ao53 t1013.length co53], .agg #[.int .i64 t1028, .int .i64 t1029, .slice Ao78 t1030.length co78]] (by rfl) rfl rfl (by (try simp only [List.map_toArray, List.map_cons, List.map_nil]); first | done | rfl | (simp only [List.length_drop, List.length_take]; rfl)) ?_
      with_reducible refine (laws_eqBoard.calls kj24 t1011 t1012 _ _ t1013 t1028 t1029 _ _ t1030 true _ ?side1 ?side2 ?side3 ?side4 A67.out).mono ?_
      (case side1 => repeat (first | exact (Kd.R_reads' HO_1017002.out).2.2 | (with_reducible refine Kd.C_alloc ?_ _) | (with_reducible refine Kd.C_drewN ?_ _) | (with_reducible refine Kd.C_drew ?_)))
      (case side2 => exact (Kd.R_reads' HO_1017002.out).2.1)
      (case side3 => repeat (first | exact (Kd.R_reads' HO1032.out).2.2 | (with_reducible refine Kd.C_alloc ?_ _) | (with_reducible refine Kd.C_drewN ?_ _) | (with_reducible refine Kd.C_drew ?_)))
      (case side4 => exact (Kd.R_reads' HO1032.out).2.1)
      rintro e w79 ⟨rfl, hb⟩
      refine ⟨_, rfl, ?_⟩
      refine E11 (Kd.R_below (PR HO_6.out) hb) (Kd.R_below (PR HO_10.out) hb) (Kd.R_below (PR HO_1011002.out) hb) (Kd.R_below (PR HO_1017002.out) hb) (Kd.R_below (PR HO1026.out) hb) (Kd.R_below (PR HO1032.out) hb) (bB BK987.out hb) (bB BK988.out hb) (bB BK1010.out hb) (bB BK1016.out hb) (below_step (BL HB.out) hb) ?_
      clear HO_6 HO_10 HO_1011002 HO_1017002 HO1026 HO1032 BK987 BK988 BK1010 BK1016 HB
      intro HO_6 HO_10 HO_1011002 HO_1017002 HO1026 HO1032 BK987 BK988 BK1010 BK1016 HB
      (try clear hb)
      (try clear hb2)
      (try clear hk)
      (try clear hi)
      refine hK.out _ _ ⟨(blk_cell BK1016.out 0).trans rfl, (blk_cell BK1016.out 1).trans rfl, (blk_cell BK1016.out 2).trans rfl, (blk_cell BK988.out 0).trans rfl, (blk_cell BK988.out 1).trans rfl, (blk_cell BK988.out 2).trans rfl⟩ (fun hHeld => ?_)
      clear hK K
      refine norm_ (a' := ?_) ?_ ?_
      rotate_left
      · show Act.put _ (some 62) _ = _
        simp only [Act.put, List.setIfInBounds_toArray, List.set_cons_zero, List.set_cons_succ, i64_w, i32_w]
        rfl
      refine pure_ (i := 4) (N := some 63) (v := ?_) (a' := ?_) #[true, true, true, true, true] rfl rfl (by kernel_rfl) (fun _ _ _ h => h) (Or.inl ⟨by rfl, ?_⟩) ?_ ?_
      rotate_left
      · intro w'
        go_simp
        with_reducible rfl
      rotate_left
      · simp only [Act.put, List.setIfInBounds_toArray, List.set_cons_zero, List.set_cons_succ, i64_w, i32_w]
        rfl
      refine done_ (by kernel_rfl) ?_
      have hnb80 := NB1010_987.out
      have hnc80 := NB987_1010.out
      have hnb81 := NB1010_988.out
      have hnc81 := NB988_1010.out
      have hnb82 := NB1010_1016.out
      have hnc82 := NB1016_1010.out
      obtain ⟨hcz83_0, hcz83_1, hcz83_2, hfz83_0, hfz83_1, hfz83_2⟩ := cz3 BK1010.out
      go_upto_region 21 with (first | ((with_reducible refine gate_callee (f := 23) rfl ?_); refine goesM (N := (some 66)) #[.agg #[.int .i64 t1005, .int .i64 t1006, .slice Ao45 t1007.length co45], .int .i64 1] Try.func23 ?_; (with_reducible refine (laws_markBoard.calls kj24 t1005 t1006 (fun k_ => some k_ = (.slice Ao45 t1007.length co45 : Value).ownBlock) (.slice Ao45 t1007.length co45) t1007 1 t1034 t1035 w _ ?side1 ?side2 A69.out).mono ?_); (case side1 => repeat (first | (with_reducible first | exact HB.out | apply below_alloc | apply pw_below_drewN | apply below_drew1 | refine below_set ?_ GE987.out | refine below_set ?_ GE988.out | refine below_set ?_ GE1010.out | refine below_set ?_ GE1016.out) | exact HB.out)); (case side2 => exact Kd.R_tight rfl HO_1011002.out); rintro e w84 ⟨rfl, hy0, hb, hkp⟩; refine ⟨_, rfl, ?_⟩; refine E11 (Kd.R_mono (ok' := fun k_ => some k_ ≠ (v1018 : Value).ownBlock) (Kd.R_keptB ((Kd.R_apart' HO_6.out (Kd.R_typed HO_1011002.out) (by decide))) hkp (fun k_ hk_ hs_ => (hk_.2) hs_)) (fun k_ hk_ => hk_.1.1)) (Kd.R_mono (ok' := fun k_ => some k_ ≠ (v1002 : Value).ownBlock) (Kd.R_keptB ((Kd.R_apart' HO_10.out (Kd.R_typed HO_1011002.out) (by decide))) hkp (fun k_ hk_ hs_ => (hk_.2) hs_)) (fun k_ hk_ => hk_.1.1)) (Kd.R_reok rfl hy0 (fun k_ e_ => HO_1011002.out.1 k_ e_)) (Kd.R_mono (ok' := fun k_ => some k_ ≠ (.slice Ao45 t1007.length co45 : Value).ownBlock ∧ some k_ ≠ (.slice Ao74 t1024.length co74 : Value).ownBlock ∧ some k_ ≠ (.slice Ao78 t1030.length co78 : Value).ownBlock) (Kd.R_keptB (HO_1017002.out) hkp (fun k_ hk_ hs_ => (hk_.1.1) hs_)) (fun k_ hk_ => ⟨hk_.1.1.1, hk_.1.1.2, hk_.1.2⟩)) (blk_kept (PB BK987.out) hkp (fun hs_ => (fun e_ => (Kd.R_ne HO_1011002.out BK987.out (by decide)) e_) hs_)) (blk_kept (PB BK988.out) hkp (fun hs_ => (fun e_ => (Kd.R_ne HO_1011002.out BK988.out (by decide)) e_) hs_)) (blk_kept (PB BK1010.out) hkp (fun hs_ => (fun e_ => (Kd.R_ne HO_1011002.out BK1010.out (by decide)) e_) hs_)) (blk_kept (PB BK1016.out) hkp (fun hs_ => (fun e_ => (Kd.R_ne HO_1011002.out BK1016.out (by decide)) e_) hs_)) (Kd.R_mono (ok' := fun k_ => some k_ ≠ (.slice Ao45 t1007.length co45 : Value).ownBlock ∧ some k_ ≠ (.slice Ao53 t1013.length co53 : Value).ownBlock ∧ some k_ ≠ (.slice Ao78 t1030.length co78 : Value).ownBlock) (Kd.R_keptB (HO1026.out) hkp (fun k_ hk_ hs_ => (hk_.1.1.2) hs_)) (fun k_ hk_ => ⟨hk_.1.1.1.2, hk_.1.1.2, hk_.1.2⟩)) (Kd.R_mono (ok' := fun k_ => some k_ ≠ (.slice Ao45 t1007.length co45 : Value).ownBlock ∧ some k_ ≠ (.slice Ao53 t1013.length co53 : Value).ownBlock ∧ some k_ ≠ (.slice Ao74 t1024.length co74 : Value).ownBlock) (Kd.R_keptB (HO1032.out) hkp (fun k_ hk_ hs_ => (hk_.1.1.2) hs_)) (fun k_ hk_ => ⟨hk_.1.1.1.2, hk_.1.1.2, hk_.1.2⟩)) (hb) ?_; clear HO_6 HO_10 HO_1011002 HO_1017002 BK987 BK988 BK1010 BK1016 HO1026 HO1032 HB; intro HO_6 HO_10 HO_1011002 HO_1017002 BK987 BK988 BK1010 BK1016 HO1026 HO1032 HB; (try clear hb); (try clear hkp); (try clear hy0); have hnb85 := NB1016_987.out; have hnc85 := NB987_1016.out; have hnb86 := NB1016_988.out; have hnc86 := NB988_1016.out; obtain ⟨hcz87_0, hcz87_1, hcz87_2, hfz87_0, hfz87_1, hfz87_2⟩ := cz3 BK1016.out) | ((with_reducible refine gate_callee (f := 23) rfl ?_); refine goesM (N := (some 69)) #[.agg #[.int .i64 t1011, .int .i64 t1012, .slice Ao53 t1013.length co53], .int .i64 t1034] Try.func23 ?_; (with_reducible refine (laws_markBoard.calls kj24 t1011 t1012 (fun k_ => some k_ = (.slice Ao53 t1013.length co53 : Value).ownBlock) (.slice Ao53 t1013.length co53) t1013 t1034 t1036 t1037 w _ ?side1 ?side2 A70.out).mono ?_); (case side1 => repeat (first | (with_reducible first | exact HB.out | apply below_alloc | apply pw_below_drewN | apply below_drew1 | refine below_set ?_ GE987.out | refine below_set ?_ GE988.out | refine below_set ?_ GE1010.out | refine below_set ?_ GE1016.out) | exact HB.out)); (case side2 => exact Kd.R_tight rfl HO_1017002.out); rintro e w88 ⟨rfl, hy0, hb, hkp⟩; refine ⟨_, rfl, ?_⟩; refine E11 (Kd.R_mono (ok' := fun k_ => some k_ ≠ (v1018 : Value).ownBlock) (Kd.R_keptB ((Kd.R_apart' HO_6.out (Kd.R_typed HO_1017002.out) (by decide))) hkp (fun k_ hk_ hs_ => (hk_.2) hs_)) (fun k_ hk_ => hk_.1.1)) (Kd.R_mono (ok' := fun k_ => some k_ ≠ (v1002 : Value).ownBlock) (Kd.R_keptB ((Kd.R_apart' HO_10.out (Kd.R_typed HO_1017002.out) (by decide))) hkp (fun k_ hk_ hs_ => (hk_.2) hs_)) (fun k_ hk_ => hk_.1.1)) (Kd.R_mono (ok' := fun k_ => some k_ ≠ (.slice Ao53 t1013.length co53 : Value).ownBlock ∧ some k_ ≠ (.slice Ao74 t1024.length co74 : Value).ownBlock ∧ some k_ ≠ (.slice Ao78 t1030.length co78 : Value).ownBlock) (Kd.R_keptB (HO_1011002.out) hkp (fun k_ hk_ hs_ => (hk_.1.1) hs_)) (fun k_ hk_ => ⟨hk_.1.1.1, hk_.1.1.2, hk_.1.2⟩)) (Kd.R_reok rfl hy0 (fun k_ e_ => HO_1017002.out.1 k_ e_)) (blk_kept (PB BK987.out) hkp (fun hs_ => (fun e_ => (Kd.R_ne HO_1017002.out BK987.out (by decide)) e_) hs_)) (blk_kept (PB BK988.out) hkp (fun hs_ => (fun e_ => (Kd.R_ne HO_1017002.out BK988.out (by decide)) e_) hs_)) (blk_kept (PB BK1010.out) hkp (fun hs_ => (fun e_ => (Kd.R_ne HO_1017002.out BK1010.out (by decide)) e_) hs_)) (blk_kept (PB BK1016.out) hkp (fun hs_ => (fun e_ => (Kd.R_ne HO_1017002.out BK1016.out (by decide)) e_) hs_)) (Kd.R_mono (ok' := fun k_ => some k_ ≠ (.slice Ao45 t1007.length co45 : Value).ownBlock ∧ some k_ ≠ (.slice Ao53 t1013.length co53 : Value).ownBlock ∧ some k_ ≠ (.slice Ao78 t1030.length co78 : Value).ownBlock) (Kd.R_keptB (HO1026.out) hkp (fun k_ hk_ hs_ => (hk_.2.1) hs_)) (fun k_ hk_ => ⟨hk_.1.1, hk_.1.2.1, hk_.1.2.2⟩)) (Kd.R_mono (ok' := fun k_ => some k_ ≠ (.slice Ao45 t1007.length co45 : Value).ownBlock ∧ some k_ ≠ (.slice Ao53 t1013.length co53 : Value).ownBlock ∧ some k_ ≠ (.slice Ao74 t1024.length co74 : Value).ownBlock) (Kd.R_keptB (HO1032.out) hkp (fun k_ hk_ hs_ => (hk_.2.1) hs_)) (fun k_ hk_ => ⟨hk_.1.1, hk_.1.2.1, hk_.1.2.2⟩)) (hb) ?_; clear HO_6 HO_10 HO_1011002 HO_1017002 BK987 BK988 BK1010 BK1016 HO1026 HO1032 HB; intro HO_6 HO_10 HO_1011002 HO_1017002 BK987 BK988 BK1010 BK1016 HO1026 HO1032 HB; (try clear hb); (try clear hkp); (try clear hy0)))
      (try simp only [Act.put, List.setIfInBounds_toArray, List.set_cons_zero, List.set_cons_succ])
      go_cut [82] (fun v82 wc => ∃ (kq : Nat) (x82_70 : Bool), v82 = .bool x82_70 ∧ Aside0 (laws_FnExactTurnedUnits.j1 kq t1001 t1004 t1017 x82_70 a0_0 a0_1 l0_2 a1_0 a1_1 l1_2 = some true) ∧ Aside0 (kq ≤ kj24) ∧ Aside0 (Kd.R (Kd.int .i64) 3 wc w.heap.size (fun k_ => some k_ ≠ (v1018 : Value).ownBlock) v1002 t1001) ∧ Aside0 (Kd.R (Kd.int .i64) 3 wc w.heap.size (fun k_ => some k_ ≠ (v1002 : Value).ownBlock) v1018 t1017) ∧ Aside0 (Kd.R k73 73 wc w.heap.size (fun k_ => some k_ ≠ ((.slice Ao53 t1013.length co53) : Value).ownBlock) (.slice Ao45 t1007.length co45) t1035) ∧ Aside0 (Kd.R k73 73 wc w.heap.size (fun k_ => some k_ ≠ ((.slice Ao45 t1007.length co45) : Value).ownBlock) (.slice Ao53 t1013.length co53) t1037) ∧ Aside0 (wc.heap[gb987]? = some (.cells #[.int .i64 a0_0, .int .i64 a0_1, (.slice A0_2 l0_2.length c0_2)] 24 (0, 0))) ∧ Aside0 (wc.heap[gb988]? = some (.cells #[.int .i64 a1_0, .int .i64 a1_1, (.slice A1_2 l1_2.length c1_2)] 24 (0, 0))) ∧ Aside0 (wc.heap[gb1010]? = some (.cells #[.int .i64 t1005, .int .i64 t1006, (.slice Ao45 t1007.length co45)] 30 (0, 0))) ∧ Aside0 (wc.heap[gb1016]? = some (.cells #[.int .i64 t1011, .int .i64 t1012, (.slice Ao53 t1013.length co53)] 30 (0, 0))) ∧ Aside0 (Below w.heap.size w wc))
      case first =>
        have H := HC71.out
        clear HC71
        replace H := ifQ H; rcases H with ⟨c89, H⟩ | ⟨c89, H⟩
        · exact absurd H (by cases kj24 <;> simp [laws_FnExactTurnedUnits.j1])
        have c89b0 := decide_eq_false c89
        clear c89
        (first | rw [c89b0] | (simp only [i64_w, i32_w]; rw [c89b0]) | skip)
        replace H := bindA H; obtain ⟨t1038, A90, H⟩ := H
        by_cases c91 : t1038 = true
        · subst c91
          have H1 : (laws_FnExactTurnedUnits.j1 kj24 t1001 t1004 t1017 (t1020 != t1004) a0_0 a0_1 l0_2 a1_0 a1_1 l1_2) = some true := by rw [if_pos rfl] at H; exact H
          clear H
          have H := H1
          clear H1
          have H' := Aside0.mk H
          clear H
          obtain ⟨Ao92, co92, eo92⟩ := Kd.R_slice HO_10.out
          subst eo92
          obtain ⟨Ao93, co93, eo93⟩ := Kd.R_slice HO_6.out
          subst eo93
          go_wp2_with (first | (go_at_call 22; (with_reducible refine (laws_eqIntS.calls kj24 _ _ t1017 _ _ t1001 true _ ?side1 ?side2 ?side3 ?side4 A90.out).mono ?_); (case side1 => repeat (first | exact (Kd.R_reads' HO_10.out).2.2 | (with_reducible refine Kd.C_alloc ?_ _) | (with_reducible refine Kd.C_drewN ?_ _) | (with_reducible refine Kd.C_drew ?_))); (case side2 => exact (Kd.R_reads' HO_10.out).2.1); (case side3 => repeat (first | exact (Kd.R_reads' HO_6.out).2.2 | (with_reducible refine Kd.C_alloc ?_ _) | (with_reducible refine Kd.C_drewN ?_ _) | (with_reducible refine Kd.C_drew ?_))); (case side4 => exact (Kd.R_reads' HO_6.out).2.1); rintro e w' ⟨rfl, ⟨nd, rfl⟩⟩))
          go_meet
          case rel => exact ⟨_, ((t1020 != t1004)), RG, H', ⟨by have := HJ24.out; first | omega | exact Nat.le_refl _⟩, ⟨PR HO_6.out⟩, ⟨PR HO_10.out⟩, ⟨by (with_reducible repeat (first | apply Kd.R_alloc | apply Kd.R_drewN | apply Kd.R_drew)); exact Kd.R_mono HO_1011002.out (fun _ hk => hk.1)⟩, ⟨by (with_reducible repeat (first | apply Kd.R_alloc | apply Kd.R_drewN | apply Kd.R_drew)); exact Kd.R_mono HO_1017002.out (fun _ hk => hk.1)⟩, ⟨PB BK987.out⟩, ⟨PB BK988.out⟩, ⟨PB BK1010.out⟩, ⟨PB BK1016.out⟩, ⟨BL HB.out⟩⟩
        replace c91 := Bool.eq_false_iff.mpr c91
        subst c91
        have H1 : (laws_FnExactTurnedUnits.j1 kj24 t1001 t1004 t1017 true a0_0 a0_1 l0_2 a1_0 a1_1 l1_2) = some true := by rw [if_neg (show ¬ (false = true) by decide)] at H; exact H
        exact absurd H1 (by cases kj24 <;> simp [laws_FnExactTurnedUnits.j1])
      clear HC71
      try clear c62; try clear c65; try clear c68; try clear hcz83_0; try clear hcz83_1; try clear hcz83_2; try clear hcz87_0; try clear hcz87_1; try clear hcz87_2; try clear hfz83_0; try clear hfz83_1; try clear hfz83_2; try clear hfz87_0; try clear hfz87_1; try clear hfz87_2
      obtain ⟨kq, x82_70, rfl, HA, HJ70, HO_6, HO_10, HO_1011002, HO_1017002, BK987, BK988, BK1010, BK1016, HB⟩ := hcut
      have hl1011002_70 := (Kd.R_reads' HO_1011002.out).1
      rw [hl1011002_70] at HO_1011002
      (try simp only [hl1011002_70])
      (try simp only [hl1011002_70] at BK987)
      (try simp only [hl1011002_70] at BK988)
      (try simp only [hl1011002_70] at BK1010)
      (try simp only [hl1011002_70] at BK1016)
      (try simp only [hl1011002_70] at HO_6)
      (try simp only [hl1011002_70] at HO_10)
      (try simp only [hl1011002_70] at HO_1017002)
      have hl1017002_70 := (Kd.R_reads' HO_1017002.out).1
      rw [hl1017002_70] at HO_1017002
      (try simp only [hl1017002_70])
      (try simp only [hl1017002_70] at BK987)
      (try simp only [hl1017002_70] at BK988)
      (try simp only [hl1017002_70] at BK1010)
      (try simp only [hl1017002_70] at BK1016)
      (try simp only [hl1017002_70] at HO_6)
      (try simp only [hl1017002_70] at HO_10)
      (try simp only [hl1017002_70] at HO_1011002)
      cases kq with
      | zero => exact absurd HA.out (by simp [laws_FnExactTurnedUnits.j1])
      | succ kj70 => ?_
      have H := HA.out
      clear HA
      simp only [laws_FnExactTurnedUnits.j1] at H
      by_cases c96 : x82_70 = true
      · subst c96
        have H1 : (some false) = some true := by rw [if_pos rfl] at H; exact H
        exact absurd H1 (by simp)
      replace c96 := Bool.eq_false_iff.mpr c96
      subst c96
      have H1 : ((laws_markIntS.f kj70 t1017 1).bind fun bt1039 => ((laws_heldIntS.f kj70 bt1039.2 1).bind fun t1041 => (if t1041 < 0 then (some false) else (if t1041 = bt1039.1 then ((laws_toBoard.f kj70 a0_0 a0_1 l0_2).bind fun bt1042 => ((laws_toBoard.f kj70 a1_0 a1_1 l1_2).bind fun bt1047 => ((impl_TurnedUnits.f kj70 bt1042.1 bt1042.2.1 bt1042.2.2 bt1047.1 bt1047.2.1 bt1047.2.2).bind fun bt1052 => ((laws_eqIntS.f kj70 bt1052.1 t1001).bind fun t1056 => (if t1056 = true then (laws_FnExactTurnedUnits.j2 kj70 bt1039.2 bt1039.1 (bt1052.2 != t1004)) else (laws_FnExactTurnedUnits.j2 kj70 bt1039.2 bt1039.1 true)))))) else (some false))))) = some true := by rw [if_neg (show ¬ (false = true) by decide)] at H; exact H
      clear H
      have H := H1
      clear H1
      replace H := bindA H; obtain ⟨⟨t1039, t1040⟩, A97, H⟩ := H
      dsimp only at H
      replace H := bindA H; obtain ⟨t1041, A98, H⟩ := H
      replace H := ifQ H; rcases H with ⟨c99, H⟩ | ⟨c99, H⟩
      · exact absurd H (by simp)
      have c99b0 := decide_eq_false c99
      clear c99
      first | replace H := ifP H | replace H := ifPf H
      obtain ⟨c102, H⟩ := H
      have c102b0 := beq_iff_eq.mpr c102
      have c102b1 := bne_eq_false_iff_eq.mpr c102
      clear c102
      replace H := bindA H; obtain ⟨⟨t1042, t1043, t1044⟩, A103, H⟩ := H
      dsimp only at H
      replace H := bindA H; obtain ⟨⟨t1047, t1048, t1049⟩, A104, H⟩ := H
      dsimp only at H
      replace H := bindA H; obtain ⟨⟨t1052, t1055⟩, A105, H⟩ := H
      dsimp only at H
      have HC106 := Aside0.mk H
      clear H
      obtain ⟨Ao107, co107, eo107⟩ := Kd.R_slice HO_10.out
      subst eo107
      try go_wp2_with (first | ((with_reducible refine gate_callee (f := 24) rfl ?_); refine goesM (N := (some 85)) #[.slice Ao107 t1017.length co107, .int .i64 1] Try.func24 ?_; (with_reducible refine (laws_markIntS.calls kj70 (fun k_ => some k_ = (.slice Ao107 t1017.length co107 : Value).ownBlock) (.slice Ao107 t1017.length co107) t1017 1 t1039 t1040 w _ ?side1 ?side2 A97.out).mono ?_); (case side1 => repeat (first | (with_reducible first | exact HB.out | apply below_alloc | apply pw_below_drewN | apply below_drew1 | refine below_set ?_ GE987.out | refine below_set ?_ GE988.out | refine below_set ?_ GE1010.out | refine below_set ?_ GE1016.out) | exact HB.out)); (case side2 => exact Kd.R_tight rfl HO_10.out); rintro e w108 ⟨rfl, hy0, hb, hkp⟩; refine ⟨_, rfl, ?_⟩; refine E9 (Kd.R_mono (ok' := fun k_ => some k_ ≠ (.slice Ao107 t1017.length co107 : Value).ownBlock) (Kd.R_keptB (HO_6.out) hkp (fun k_ hk_ hs_ => (hk_) hs_)) (fun k_ hk_ => hk_.1)) (Kd.R_reok rfl hy0 (fun k_ e_ => HO_10.out.1 k_ e_)) (Kd.R_mono (ok' := fun k_ => some k_ ≠ (.slice Ao53 t1037.length co53 : Value).ownBlock) (Kd.R_keptB ((Kd.R_apart' HO_1011002.out (Kd.R_typed HO_10.out) (by decide))) hkp (fun k_ hk_ hs_ => (hk_.2) hs_)) (fun k_ hk_ => hk_.1.1)) (Kd.R_mono (ok' := fun k_ => some k_ ≠ (.slice Ao45 t1035.length co45 : Value).ownBlock) (Kd.R_keptB ((Kd.R_apart' HO_1017002.out (Kd.R_typed HO_10.out) (by decide))) hkp (fun k_ hk_ hs_ => (hk_.2) hs_)) (fun k_ hk_ => hk_.1.1)) (blk_kept (PB BK987.out) hkp (fun hs_ => (fun e_ => (Kd.R_ne HO_10.out BK987.out (by decide)) e_) hs_)) (blk_kept (PB BK988.out) hkp (fun hs_ => (fun e_ => (Kd.R_ne HO_10.out BK988.out (by decide)) e_) hs_)) (blk_kept (PB BK1010.out) hkp (fun hs_ => (fun e_ => (Kd.R_ne HO_10.out BK1010.out (by decide)) e_) hs_)) (blk_kept (PB BK1016.out) hkp (fun hs_ => (fun e_ => (Kd.R_ne HO_10.out BK1016.out (by decide)) e_) hs_)) (hb) ?_; clear HO_6 HO_10 HO_1011002 HO_1017002 BK987 BK988 BK1010 BK1016 HB; intro HO_6 HO_10 HO_1011002 HO_1017002 BK987 BK988 BK1010 BK1016 HB; (try clear hb); (try clear hkp); (try clear hy0)) | ((with_reducible refine gate_callee (f := 25) rfl ?_); refine goesL_ (some 88) rfl rfl Try.func25 (by kernel_rfl) rfl #[.slice Ao107 t1040.length co107, .int .i64 1] rfl (by (try simp only [List.map_toArray, List.map_cons, List.map_nil]); first | done | (rw [show t1040.length = t1017.length from (Kd.R_reads' HO_10.out).1.symm] <;> rfl) | rfl | (simp only [List.length_drop, List.length_take]; rfl)) ?_; (with_reducible refine (laws_heldIntS.calls kj70 _ _ t1040 1 t1041 _ ?side1 ?side2 A98.out).mono ?_); (case side1 => repeat (first | exact (Kd.R_reads' HO_10.out).2.2 | (with_reducible refine Kd.C_alloc ?_ _) | (with_reducible refine Kd.C_drewN ?_ _) | (with_reducible refine Kd.C_drew ?_))); (case side2 => rw [show t1040.length = t1017.length from (Kd.R_reads' HO_10.out).1.symm]; exact (Kd.R_reads' HO_10.out).2.1); rintro e w' ⟨rfl, ⟨nd, rfl⟩⟩; refine ⟨_, rfl, ?_⟩))
      (try (rw [drewN_self w108]; generalize hq_ : World.drewN w108 _ = w108; have n0_ : Aside0 (Kd.R (Kd.int .i64) 3 w108 w.heap.size (fun k_ => some k_ ≠ (v1002 : Value).ownBlock) (.slice Ao107 t1017.length co107) t1040) := ⟨by rw [← hq_]; exact (PR HO_10.out)⟩; have n1_ : Aside0 (Kd.R k73 73 w108 w.heap.size (fun k_ => some k_ ≠ (.slice Ao53 t1037.length co53 : Value).ownBlock) (.slice Ao45 t1035.length co45) t1035) := ⟨by rw [← hq_]; exact (PR HO_1011002.out)⟩; have n2_ : Aside0 (Kd.R k73 73 w108 w.heap.size (fun k_ => some k_ ≠ (.slice Ao45 t1035.length co45 : Value).ownBlock) (.slice Ao53 t1037.length co53) t1037) := ⟨by rw [← hq_]; exact (PR HO_1017002.out)⟩; have n3_ : Aside0 (Kd.R (Kd.int .i64) 3 w108 w.heap.size (fun k_ => some k_ ≠ (.slice Ao107 t1017.length co107 : Value).ownBlock) v1002 t1001) := ⟨by rw [← hq_]; exact (PR HO_6.out)⟩; have n4_ : Aside0 (w108.heap[gb1010]? = some (.cells #[.int .i64 t1005, .int .i64 t1006, .slice Ao45 t1035.length co45] 30 (0, 0))) := ⟨by rw [← hq_]; exact (PB BK1010.out)⟩; have n5_ : Aside0 (w108.heap[gb1016]? = some (.cells #[.int .i64 t1011, .int .i64 t1012, .slice Ao53 t1037.length co53] 30 (0, 0))) := ⟨by rw [← hq_]; exact (PB BK1016.out)⟩; have n6_ : Aside0 (w108.heap[gb987]? = some (.cells #[.int .i64 a0_0, .int .i64 a0_1, .slice A0_2 l0_2.length c0_2] 24 (0, 0))) := ⟨by rw [← hq_]; exact (PB BK987.out)⟩; have n7_ : Aside0 (w108.heap[gb988]? = some (.cells #[.int .i64 a1_0, .int .i64 a1_1, .slice A1_2 l1_2.length c1_2] 24 (0, 0))) := ⟨by rw [← hq_]; exact (PB BK988.out)⟩; have n8_ : Aside0 (Below w.heap.size w w108) := ⟨by rw [← hq_]; exact (BL HB.out)⟩; clear HO_10 HO_1011002 HO_1017002 HO_6 BK1010 BK1016 BK987 BK988 HB hq_; have HO_10 := n0_; have HO_1011002 := n1_; have HO_1017002 := n2_; have HO_6 := n3_; have BK1010 := n4_; have BK1016 := n5_; have BK987 := n6_; have BK988 := n7_; have HB := n8_; clear n0_ n1_ n2_ n3_ n4_ n5_ n6_ n7_ n8_))
      refine E9 (Kd.R_drew HO_6.out) (Kd.R_drew HO_10.out) (Kd.R_drew HO_1011002.out) (Kd.R_drew HO_1017002.out) (blk_drew BK987.out) (blk_drew BK988.out) (blk_drew BK1010.out) (blk_drew BK1016.out) (below_drew1 HB.out) ?_
      clear HO_6 HO_10 HO_1011002 HO_1017002 BK987 BK988 BK1010 BK1016 HB
      intro HO_6 HO_10 HO_1011002 HO_1017002 BK987 BK988 BK1010 BK1016 HB
      refine start_ (n := 10) (S := fun w' => w'.cell? ⟨gb987, 0, none⟩ = some (.int .i64 a0_0) ∧ w'.cell? ⟨gb987, 1, none⟩ = some (.int .i64 a0_1) ∧ w'.cell? ⟨gb987, 2, none⟩ = some (.slice A0_2 l0_2.length c0_2) ∧ w'.cell? ⟨gb988, 0, none⟩ = some (.int .i64 a1_0) ∧ w'.cell? ⟨gb988, 1, none⟩ = some (.int .i64 a1_1) ∧ w'.cell? ⟨gb988, 2, none⟩ = some (.slice A1_2 l1_2.length c1_2)) (ds := []) #[false, false, false, false, false, false, false, false, false, false] (by kernel_rfl) rfl rfl ⟨(blk_cell BK987.out 0).trans rfl, (blk_cell BK987.out 1).trans rfl, (blk_cell BK987.out 2).trans rfl, (blk_cell BK988.out 0).trans rfl, (blk_cell BK988.out 1).trans rfl, (blk_cell BK988.out 2).trans rfl⟩ (fun hHeld => ?_); refine with_tabW laws_FnExactTurnedUnits.tab31 laws_FnExactTurnedUnits.bits31 (fun HT_ HW_ => ?_)
      generalize w108.drew = w109 at HO_6 HO_10 HO_1011002 HO_1017002 BK987 BK988 BK1010 BK1016 HB hHeld ⊢
      refine take_ (i := 0) (N := some 95) (v := ?_) (a' := ?_) #[true, false, false, false, false, false, false, false, false, false] rfl rfl (take_ofW HT_.out HW_.out (by kernel_rfl)) (fun _ _ _ h => h) (Or.inl ⟨by rfl, ?_⟩) hHeld ?_ ?_
      rotate_left
      · rintro w' ⟨s0, s1, s2, s3, s4, s5⟩
        go_simp
        with_reducible rfl
      rotate_left
      · simp only [Act.put, List.setIfInBounds_toArray, List.set_cons_zero, List.set_cons_succ, i64_w, i32_w]
        rfl
      refine take_ (i := 2) (N := some 97) (v := ?_) (a' := ?_) #[true, false, true, false, false, false, false, false, false, false] rfl rfl (take_ofW HT_.out HW_.out (by kernel_rfl)) (fun _ _ _ h => h) (Or.inl ⟨by rfl, ?_⟩) hHeld ?_ ?_
      rotate_left
      · rintro w' ⟨s0, s1, s2, s3, s4, s5⟩
        go_simp
        with_reducible rfl
      rotate_left
      · simp only [Act.put, List.setIfInBounds_toArray, List.set_cons_zero, List.set_cons_succ, i64_w, i32_w]
        rfl
      refine one_ (i := 1) (N := some 96) #[true, true, true, false, false, false, false, false, false, false] rfl rfl (one_of HT_.out (by kernel_rfl)) (by decide) (fun K hK => ?_)
      refine goes_ Try.func15 (by kernel_rfl) rfl #[.agg #[.int .i64 a0_0, .int .i64 a0_1, .slice A0_2 l0_2.length c0_2]] (by rfl) rfl rfl (by (try simp only [List.map_toArray, List.map_cons, List.map_nil]); first | done | rfl | (simp only [List.length_drop, List.length_take]; rfl)) ?_
      with_reducible refine (laws_toBoard.calls kj70 a0_0 a0_1 _ _ l0_2 t1042 t1043 t1044 _ ?side1 ?side2 A103.out).mono ?_
      (case side1 => exact CB (Kd.C_below HR0_2.out HB.out))
      (case side2 => exact HC0_2.out)
      rintro e w110 ⟨v1045, rfl, ho0, hb⟩
      refine ⟨_, rfl, ?_⟩
      refine E10 (Kd.R_below (PR HO_6.out) hb) (Kd.R_below (PR HO_10.out) hb) (Kd.R_elder' (PR HO_1011002.out) (Kd.R_base ho0) hb) (Kd.R_elder' (PR HO_1017002.out) (Kd.R_base ho0) hb) (Kd.R_lower (Kd.R_new' (Kd.R_new' ho0 (Kd.R_lt (PR HO_1011002.out))) (Kd.R_lt (PR HO_1017002.out))) (below_size (BL HB.out))) (bB BK987.out hb) (bB BK988.out hb) (bB BK1010.out hb) (bB BK1016.out hb) (below_step (BL HB.out) hb) ?_
      clear HO_6 HO_10 HO_1011002 HO_1017002 BK987 BK988 BK1010 BK1016 HB
      intro HO_6 HO_10 HO_1011002 HO_1017002 HO1046 BK987 BK988 BK1010 BK1016 HB
      (try clear hb)
      (try clear hb2)
      (try clear hk)
      (try clear hi)
      (try clear ho0)
      refine hK.out _ _ ⟨(blk_cell BK987.out 0).trans rfl, (blk_cell BK987.out 1).trans rfl, (blk_cell BK987.out 2).trans rfl, (blk_cell BK988.out 0).trans rfl, (blk_cell BK988.out 1).trans rfl, (blk_cell BK988.out 2).trans rfl⟩ (fun hHeld => ?_)
      clear hK K
      refine norm_ (a' := ?_) ?_ ?_
      rotate_left
      · show Act.put _ (some 96) _ = _
        simp only [Act.put, List.setIfInBounds_toArray, List.set_cons_zero, List.set_cons_succ, i64_w, i32_w]
        rfl
      refine one_ (i := 3) (N := some 98) #[true, true, true, true, false, false, false, false, false, false] rfl rfl (one_of HT_.out (by kernel_rfl)) (by decide) (fun K hK => ?_)
      refine goes_ Try.func15 (by kernel_rfl) rfl #[.agg #[.int .i64 a1_0, .int .i64 a1_1, .slice A1_2 l1_2.length c1_2]] (by rfl) rfl rfl (by (try simp only [List.map_toArray, List.map_cons, List.map_nil]); first | done | rfl | (simp only [List.length_drop, List.length_take]; rfl)) ?_
      with_reducible refine (laws_toBoard.calls kj70 a1_0 a1_1 _ _ l1_2 t1047 t1048 t1049 _ ?side1 ?side2 A104.out).mono ?_
      (case side1 => exact CB (Kd.C_below HR1_2.out HB.out))
      (case side2 => exact HC1_2.out)
      rintro e w111 ⟨v1050, rfl, ho0, hb⟩
      refine ⟨_, rfl, ?_⟩
      refine E11 (Kd.R_below (PR HO_6.out) hb) (Kd.R_below (PR HO_10.out) hb) (Kd.R_elder' (PR HO_1011002.out) (Kd.R_base ho0) hb) (Kd.R_elder' (PR HO_1017002.out) (Kd.R_base ho0) hb) (Kd.R_elder' (PR HO1046.out) (Kd.R_base ho0) hb) (Kd.R_lower (Kd.R_new' (Kd.R_new' (Kd.R_new' ho0 (Kd.R_lt (PR HO_1011002.out))) (Kd.R_lt (PR HO_1017002.out))) (Kd.R_lt (PR HO1046.out))) (below_size (BL HB.out))) (bB BK987.out hb) (bB BK988.out hb) (bB BK1010.out hb) (bB BK1016.out hb) (below_step (BL HB.out) hb) ?_
      clear HO_6 HO_10 HO_1011002 HO_1017002 HO1046 BK987 BK988 BK1010 BK1016 HB
      intro HO_6 HO_10 HO_1011002 HO_1017002 HO1046 HO1051 BK987 BK988 BK1010 BK1016 HB
      (try clear hb)
      (try clear hb2)
      (try clear hk)
      (try clear hi)
      (try clear ho0)
      obtain ⟨Ao112, co112, eo112⟩ := Kd.R_slice HO1046.out
      (first | subst eo112 | (injection eo112 with f1_ f2_ f3_; have f4_ := f1_.symm; have f5_ := f3_.symm; clear f1_ f2_ f3_; subst f4_; subst f5_))
      obtain ⟨Ao113, co113, eo113⟩ := Kd.R_slice HO1051.out
      (first | subst eo113 | (injection eo113 with f1_ f2_ f3_; have f4_ := f1_.symm; have f5_ := f3_.symm; clear f1_ f2_ f3_; subst f4_; subst f5_))
      refine hK.out _ _ ⟨(blk_cell BK987.out 0).trans rfl, (blk_cell BK987.out 1).trans rfl, (blk_cell BK987.out 2).trans rfl, (blk_cell BK988.out 0).trans rfl, (blk_cell BK988.out 1).trans rfl, (blk_cell BK988.out 2).trans rfl⟩ (fun hHeld => ?_)
      clear hK K
      refine norm_ (a' := ?_) ?_ ?_
      rotate_left
      · show Act.put _ (some 98) _ = _
        simp only [Act.put, List.setIfInBounds_toArray, List.set_cons_zero, List.set_cons_succ, i64_w, i32_w]
        rfl
      refine one_ (i := 4) (N := some 99) #[true, true, true, true, true, false, false, false, false, false] rfl rfl (one_of HT_.out (by kernel_rfl)) (by decide) (fun K hK => ?_)
      refine goes_ Try.func41 (by kernel_rfl) rfl #[.agg #[.int .i64 t1042, .int .i64 t1043, .slice Ao112 t1044.length co112], .agg #[.int .i64 t1047, .int .i64 t1048, .slice Ao113 t1049.length co113]] (by rfl) rfl rfl (by (try simp only [List.map_toArray, List.map_cons, List.map_nil]); first | done | rfl | (simp only [List.length_drop, List.length_take]; rfl)) ?_
      with_reducible refine (impl_TurnedUnits.calls kj70 t1042 t1043 _ _ t1044 t1047 t1048 _ _ t1049 t1052 t1055 _ ?side1 ?side2 ?side3 ?side4 A105.out).mono ?_
      (case side1 => repeat (first | exact (Kd.R_reads' HO1046.out).2.2 | (with_reducible refine Kd.C_alloc ?_ _) | (with_reducible refine Kd.C_drewN ?_ _) | (with_reducible refine Kd.C_drew ?_)))
      (case side2 => exact (Kd.R_reads' HO1046.out).2.1)
      (case side3 => repeat (first | exact (Kd.R_reads' HO1051.out).2.2 | (with_reducible refine Kd.C_alloc ?_ _) | (with_reducible refine Kd.C_drewN ?_ _) | (with_reducible refine Kd.C_drew ?_)))
      (case side4 => exact (Kd.R_reads' HO1051.out).2.1)
      rintro e w114 ⟨v1053, rfl, ho0, hb⟩
      refine ⟨_, rfl, ?_⟩
      refine E12 (Kd.R_elder' (PR HO_6.out) (Kd.R_base ho0) hb) (Kd.R_elder' (PR HO_10.out) (Kd.R_base ho0) hb) (Kd.R_below (PR HO_1011002.out) hb) (Kd.R_below (PR HO_1017002.out) hb) (Kd.R_below (PR HO1046.out) hb) (Kd.R_below (PR HO1051.out) hb) (Kd.R_lower (Kd.R_new' (Kd.R_new' ho0 (Kd.R_lt (PR HO_6.out))) (Kd.R_lt (PR HO_10.out))) (below_size (BL HB.out))) (bB BK987.out hb) (bB BK988.out hb) (bB BK1010.out hb) (bB BK1016.out hb) (below_step (BL HB.out) hb) ?_
      clear HO_6 HO_10 HO_1011002 HO_1017002 HO1046 HO1051 BK987 BK988 BK1010 BK1016 HB
      intro HO_6 HO_10 HO_1011002 HO_1017002 HO1046 HO1051 HO1054 BK987 BK988 BK1010 BK1016 HB
      (try clear hb)
      (try clear hb2)
      (try clear hk)
      (try clear hi)
      (try clear ho0)
      refine hK.out _ _ ⟨(blk_cell BK987.out 0).trans rfl, (blk_cell BK987.out 1).trans rfl, (blk_cell BK987.out 2).trans rfl, (blk_cell BK988.out 0).trans rfl, (blk_cell BK988.out 1).trans rfl, (blk_cell BK988.out 2).trans rfl⟩ (fun hHeld => ?_)
      clear hK K
      refine norm_ (a' := ?_) ?_ ?_
      rotate_left
      · show Act.put _ (some 99) _ = _
        simp only [Act.put, List.setIfInBounds_toArray, List.set_cons_zero, List.set_cons_succ, i64_w, i32_w]
        rfl
      refine pureE (i := 5) (N := some 94) #[true, true, true, true, true, true, false, false, false, false] HT_.out ?_
      refine pureE (i := 6) (N := some 100) #[true, true, true, true, true, true, true, false, false, false] HT_.out ?_
      refine pureE (i := 7) (N := some 101) #[true, true, true, true, true, true, true, true, false, false] HT_.out ?_
      refine pureE (i := 8) (N := some 15) #[true, true, true, true, true, true, true, true, true, false] HT_.out ?_
      refine pureE (i := 9) (N := some 16) #[true, true, true, true, true, true, true, true, true, true] HT_.out ?_
      refine done_ (done_of HT_.out (by kernel_rfl)) ?_
      go_upto_region 32 with (fail)
      go_cut [110] (fun v110 wc => ∃ (kq : Nat) (x110_105 : Bool), v110 = .bool x110_105 ∧ Aside0 (laws_FnExactTurnedUnits.j2 kq t1040 t1039 x110_105 = some true) ∧ Aside0 (kq ≤ kj70) ∧ Aside0 (Kd.R (Kd.int .i64) 3 wc w.heap.size (fun _ => True) (.slice Ao107 t1017.length co107) t1040) ∧ Aside0 (Kd.R k73 73 wc w.heap.size (fun k_ => some k_ ≠ ((.slice Ao53 t1037.length co53) : Value).ownBlock) (.slice Ao45 t1035.length co45) t1035) ∧ Aside0 (Kd.R k73 73 wc w.heap.size (fun k_ => some k_ ≠ ((.slice Ao45 t1035.length co45) : Value).ownBlock) (.slice Ao53 t1037.length co53) t1037) ∧ Aside0 (wc.heap[gb987]? = some (.cells #[.int .i64 a0_0, .int .i64 a0_1, (.slice A0_2 l0_2.length c0_2)] 24 (0, 0))) ∧ Aside0 (wc.heap[gb988]? = some (.cells #[.int .i64 a1_0, .int .i64 a1_1, (.slice A1_2 l1_2.length c1_2)] 24 (0, 0))) ∧ Aside0 (wc.heap[gb1010]? = some (.cells #[.int .i64 t1005, .int .i64 t1006, (.slice Ao45 t1035.length co45)] 30 (0, 0))) ∧ Aside0 (wc.heap[gb1016]? = some (.cells #[.int .i64 t1011, .int .i64 t1012, (.slice Ao53 t1037.length co53)] 30 (0, 0))) ∧ Aside0 (Below w.heap.size w wc))
      case first =>
        have H := HC106.out
        clear HC106
        replace H := bindA H; obtain ⟨t1056, A115, H⟩ := H
        by_cases c116 : t1056 = true
        · subst c116
          have H1 : (laws_FnExactTurnedUnits.j2 kj70 t1040 t1039 (t1055 != t1004)) = some true := by rw [if_pos rfl] at H; exact H
          clear H
          have H := H1
          clear H1
          have H' := Aside0.mk H
          clear H
          obtain ⟨Ao117, co117, eo117⟩ := Kd.R_slice HO1054.out
          subst eo117
          obtain ⟨Ao118, co118, eo118⟩ := Kd.R_slice HO_6.out
          subst eo118
          go_wp2_with (first | ((with_reducible refine gate_callee (f := 22) rfl ?_); refine goesM (N := (some 104)) #[.slice Ao117 t1052.length co117, .slice Ao118 t1001.length co118] Try.func22 ?_; (with_reducible refine (laws_eqIntS.calls kj70 _ _ t1052 _ _ t1001 true _ ?side1 ?side2 ?side3 ?side4 A115.out).mono ?_); (case side1 => repeat (first | exact (Kd.R_reads' HO1054.out).2.2 | (with_reducible refine Kd.C_alloc ?_ _) | (with_reducible refine Kd.C_drewN ?_ _) | (with_reducible refine Kd.C_drew ?_))); (case side2 => exact (Kd.R_reads' HO1054.out).2.1); (case side3 => repeat (first | exact (Kd.R_reads' HO_6.out).2.2 | (with_reducible refine Kd.C_alloc ?_ _) | (with_reducible refine Kd.C_drewN ?_ _) | (with_reducible refine Kd.C_drew ?_))); (case side4 => exact (Kd.R_reads' HO_6.out).2.1); rintro e w' ⟨rfl, ⟨nd, rfl⟩⟩; refine ⟨_, rfl, ?_⟩))
          go_meet
          case rel => exact ⟨_, ((t1055 != t1004)), RG, H', ⟨by have := HJ24.out; have := HJ70.out; first | omega | exact Nat.le_refl _⟩, ⟨by (try simp only [hl1011002_70]); (try simp only [hl1017002_70]); (with_reducible repeat (first | apply Kd.R_alloc | apply Kd.R_drewN | apply Kd.R_drew)); exact Kd.R_mono HO_10.out (fun _ hk => trivial)⟩, ⟨by (try simp only [hl1011002_70]); (try simp only [hl1017002_70]); (with_reducible repeat (first | apply Kd.R_alloc | apply Kd.R_drewN | apply Kd.R_drew)); exact Kd.R_mono HO_1011002.out (fun _ hk => hk.1.1)⟩, ⟨by (try simp only [hl1011002_70]); (try simp only [hl1017002_70]); (with_reducible repeat (first | apply Kd.R_alloc | apply Kd.R_drewN | apply Kd.R_drew)); exact Kd.R_mono HO_1017002.out (fun _ hk => hk.1.1)⟩, ⟨PB2 BK987.out hl1011002_70 hl1017002_70⟩, ⟨PB2 BK988.out hl1011002_70 hl1017002_70⟩, ⟨PB2 BK1010.out hl1011002_70 hl1017002_70⟩, ⟨PB2 BK1016.out hl1011002_70 hl1017002_70⟩, ⟨BL HB.out⟩⟩
        replace c116 := Bool.eq_false_iff.mpr c116
        subst c116
        have H1 : (laws_FnExactTurnedUnits.j2 kj70 t1040 t1039 true) = some true := by rw [if_neg (show ¬ (false = true) by decide)] at H; exact H
        exact absurd H1 (by cases kj70 <;> simp [laws_FnExactTurnedUnits.j2])
      clear HC106
      try clear c96; try clear c99b0; try clear c102b0; try clear c102b1
      obtain ⟨kq, x110_105, rfl, HA, HJ105, HO_10, HO_1011002, HO_1017002, BK987, BK988, BK1010, BK1016, HB⟩ := hcut
      have hl10_105 := (Kd.R_reads' HO_10.out).1
      rw [hl10_105] at HO_10
      (try simp only [hl10_105])
      (try simp only [hl10_105] at BK987)
      (try simp only [hl10_105] at BK988)
      (try simp only [hl10_105] at BK1010)
      (try simp only [hl10_105] at BK1016)
      (try simp only [hl10_105] at HO_1011002)
      (try simp only [hl10_105] at HO_1017002)
      cases kq with
      | zero => exact absurd HA.out (by simp [laws_FnExactTurnedUnits.j2])
      | succ kj105 => ?_
      have H := HA.out
      clear HA
      simp only [laws_FnExactTurnedUnits.j2] at H
      by_cases c121 : x110_105 = true
      · subst c121
        have H1 : (some false) = some true := by rw [if_pos rfl] at H; exact H
        exact absurd H1 (by simp)
      replace c121 := Bool.eq_false_iff.mpr c121
      subst c121
      have H1 : ((laws_heldIntS.f kj105 t1040 1).bind fun t1057 => (if t1057 < 0 then (some false) else (if t1057 = t1039 then (some true) else (some false)))) = some true := by rw [if_neg (show ¬ (false = true) by decide)] at H; exact H
      clear H
      have H := H1
      clear H1
      replace H := bindA H; obtain ⟨t1057, A122, H⟩ := H
      replace H := ifQ H; rcases H with ⟨c123, H⟩ | ⟨c123, H⟩
      · exact absurd H (by simp)
      have c123b0 := decide_eq_false c123
      clear c123
      first | replace H := ifP H | replace H := ifPf H
      obtain ⟨c124, H⟩ := H
      have c124b0 := beq_iff_eq.mpr c124
      have c124b1 := bne_eq_false_iff_eq.mpr c124
      clear c124
      first | (obtain rfl := Option.some.inj H) | clear H
      go_wp2_with (first | ((with_reducible refine gate_callee (f := 25) rfl ?_); refine goesM (N := (some 113)) #[.slice Ao107 t1040.length co107, .int .i64 1] Try.func25 ?_; (with_reducible refine (laws_heldIntS.calls kj105 _ _ t1040 1 t1057 _ ?side1 ?side2 A122.out).mono ?_); (case side1 => repeat (first | exact (Kd.R_reads' HO_10.out).2.2 | (with_reducible refine Kd.C_alloc ?_ _) | (with_reducible refine Kd.C_drewN ?_ _) | (with_reducible refine Kd.C_drew ?_))); (case side2 => exact (Kd.R_reads' HO_10.out).2.1); rintro e w' ⟨rfl, ⟨nd, rfl⟩⟩; refine ⟨_, rfl, ?_⟩))
      go_ret
      exact ⟨RF, BL HB.out⟩
    replace c68 := Bool.eq_false_iff.mpr c68
    subst c68
    have H1 : (some false) = some true := by rw [if_neg (show ¬ (false = true) by decide)] at H; exact H
    exact absurd H1 (by simp)
  replace c65 := Bool.eq_false_iff.mpr c65
  subst c65
  have H1 : (some false) = some true := by rw [if_neg (show ¬ (false = true) by decide)] at H; exact H
  exact absurd H1 (by simp)
end Go.Proofs.Ytakihdabbpconaa.P
