-- PRINTED by print.py (a twelfth state) out of the translation. Not trusted: Lean checks it.
import Derived.Test.YthnehlphifegaaaPx0
import Derived.Test.YthnehlphifegaaaPx2
import Derived.Test.YthnehlphifegaaaPx6
import Derived.Test.YthnehlphifegaaaPx9
import Derived.Test.YthnehlphifegaaaPx10
import Derived.Test.YthnehlphifegaaaPx11
import Derived.Test.YthnehlphifegaaaPx12
namespace Go.Proofs.Ythnehlphifegaaa.P
open Go.RowKit Go.Proofs.YthnehlphifegaaaW.PrintWords Go.Proofs.YthnehlphifegaaaW.PrintLast Go.Proofs.YthnehlphifegaaaW.PrintMore
attribute [local go_sem] max2_int min2_int max_two min_two max_three min_three max_four min_four   -- for this text's walks alone
set_option linter.unusedVariables false
set_option linter.unusedSimpArgs false
set_option maxHeartbeats 8000000
set_option maxRecDepth 100000

/-! ### spec_LogOf: function 16 -/
open Kd
def spec_LogOf.f (k : Nat) (a0_0 : Int) (a0_1 : Int) (l0_2 : List (S98)) (a0_3 : Int) (a0_4 : Int) (a0_5 : Int) (a0_6 : Int) (a0_7 : Int) : Option ((List (S66)) × Bool) := (spec_maGood.f k a0_0 a0_1 l0_2 a0_3 a0_4 a0_5 a0_6 a0_7).bind fun t547 => (if t547 = true then ((spec_loOf.f k a0_0 a0_1 l0_2 a0_3 a0_4 a0_5 a0_6 a0_7 60).bind fun bt548 => (some (bt548.1, true))) else (some (([] : List (S66)), false)))
theorem spec_LogOf.mono : ∀ a0 a1 a2 a3 a4 a5 a6 a7 k, LeO (spec_LogOf.f k a0 a1 a2 a3 a4 a5 a6 a7) (spec_LogOf.f (k + 1) a0 a1 a2 a3 a4 a5 a6 a7) := by
 intro a0 a1 a2 a3 a4 a5 a6 a7 k
 unfold spec_LogOf.f
 repeat' first
  | (with_reducible exact spec_loOf.mono _ _ _ _ _ _ _ _ _ _)
  | (with_reducible exact spec_maGood.mono _ _ _ _ _ _ _ _ _)
  | (with_reducible exact LeO.refl _)
  | (with_reducible exact LeO.none _)
  | (with_reducible refine LeO.ite ?_ ?_)
  | (with_reducible refine LeO.bind ?_ (fun _ => ?_))
  | exact spec_loOf.mono _ _ _ _ _ _ _ _ _ _
  | exact spec_maGood.mono _ _ _ _ _ _ _ _ _
  | exact LeO.none _
  | refine LeO.ite ?_ ?_
  | refine LeO.bind ?_ (fun _ => ?_)
theorem spec_LogOf.calls (k : Nat) (a0_0 : Int) (a0_1 : Int) (A0_2 : Option Addr) (c0_2 : Nat) (l0_2 : List (S98)) (a0_3 : Int) (a0_4 : Int) (a0_5 : Int) (a0_6 : Int) (a0_7 : Int) (r1 : List (S66)) (r2 : Bool) (w : World) (hr0_2 : Kd.C k98 w A0_2 l0_2.length l0_2) (hc0_2 : l0_2.length <= c0_2) (h : spec_LogOf.f k a0_0 a0_1 l0_2 a0_3 a0_4 a0_5 a0_6 a0_7 = some (r1, r2)) :
 Calls Try.prog 16 #[.agg #[.int .i64 a0_0, .int .i64 a0_1, .slice A0_2 l0_2.length c0_2, .int .i64 a0_3, .int .i64 a0_4, .int .i64 a0_5, .int .i64 a0_6, .int .i64 a0_7]] w fun e w' => ∃ v0_ : Value, e = .returned (.tuple #[v0_, .bool r2]) /\ Kd.R k66 66 w' w.heap.size (fun _ => True) v0_ r1 /\ Below w.heap.size w w' := by
 have hu35 := Try.underlying35
 have HR0_2 := Aside0.mk hr0_2
 have HC0_2 := Aside0.mk hc0_2
 clear hr0_2 hc0_2
 have HB := Aside0.mk (Below.refl w.heap.size w)
 have H := h
 clear h
 unfold spec_LogOf.f at H
 replace H := bindA H; obtain ⟨t547, A2, H⟩ := H
 replace H := ifX H; rcases H with ⟨rfl, H⟩ | ⟨rfl, H⟩
 · replace H := bindA H; obtain ⟨⟨t548, t551, t552, t553, t556, t557, t558, t559, t560⟩, A4, H⟩ := H
   dsimp only at H
   simp only [Option.some.injEq, Prod.mk.injEq] at H
   obtain ⟨rfl, rfl⟩ := H
   go_enter Try.func16, Try.ntmps16
   go_wp2_with (first | ((with_reducible refine gate_dst (N := 1) rfl ?_); refine boxE (cs := #[.int .i64 a0_0, .int .i64 a0_1, .slice A0_2 l0_2.length c0_2, .int .i64 a0_3, .int .i64 a0_4, .int .i64 a0_5, .int .i64 a0_6, .int .i64 a0_7]) (t := 35) ?_; intro gb546 hg w5 hbox hb; refine E4b HB.1 hg hbox hb ?_; clear HB; intro HB BK546 GW546 GE546; clear hb hbox hg; obtain ⟨hcz6_0, hcz6_1, hcz6_2, hcz6_3, hcz6_4, hcz6_5, hcz6_6, hcz6_7, hfz6_0, hfz6_1, hfz6_2, hfz6_3, hfz6_4, hfz6_5, hfz6_6, hfz6_7⟩ := cz8 BK546.1) | ((with_reducible refine gate_callee (f := 29) rfl ?_); refine goesM (N := (some 7)) #[.agg #[.int .i64 a0_0, .int .i64 a0_1, .slice A0_2 l0_2.length c0_2, .int .i64 a0_3, .int .i64 a0_4, .int .i64 a0_5, .int .i64 a0_6, .int .i64 a0_7]] Try.func29 ?_; (with_reducible refine (spec_maGood.calls k a0_0 a0_1 _ _ l0_2 a0_3 a0_4 a0_5 a0_6 a0_7 true _ ?side1 ?side2 A2.1).mono ?_); (case side1 => exact CB (C_below HR0_2.1 HB.1)); (case side2 => exact HC0_2.1); rintro e w7 ⟨rfl, hb⟩; refine ⟨_, rfl, ?_⟩; refine E2 (bB BK546.1 hb) (bS HB.1 hb) ?_; clear BK546 HB; intro BK546 HB; (try clear hb); obtain ⟨hcz8_0, hcz8_1, hcz8_2, hcz8_3, hcz8_4, hcz8_5, hcz8_6, hcz8_7, hfz8_0, hfz8_1, hfz8_2, hfz8_3, hfz8_4, hfz8_5, hfz8_6, hfz8_7⟩ := cz8 BK546.1) | ((with_reducible refine gate_callee (f := 36) rfl ?_); refine goesM (N := (some 11)) #[.agg #[.int .i64 a0_0, .int .i64 a0_1, .slice A0_2 l0_2.length c0_2, .int .i64 a0_3, .int .i64 a0_4, .int .i64 a0_5, .int .i64 a0_6, .int .i64 a0_7], .int .i64 60] Try.func36 ?_; (with_reducible refine (spec_loOf.calls k a0_0 a0_1 _ _ l0_2 a0_3 a0_4 a0_5 a0_6 a0_7 60 t548 t551 t552 t553 t556 t557 t558 t559 t560 _ ?side1 ?side2 A4.1).mono ?_); (case side1 => exact CB (C_below HR0_2.1 HB.1)); (case side2 => exact HC0_2.1); rintro e w9 ⟨v549, v554, rfl, ho0, ho1, hb⟩; refine ⟨_, rfl, ?_⟩; refine E4 (R_lower ho0 (bZ HB.1)) (R_lower ho1 (bZ HB.1)) (bB BK546.1 hb) (bS HB.1 hb) ?_; clear BK546 HB; intro HO550 HO555 BK546 HB; (try clear hb); (try clear ho0); (try clear ho1)) | ((with_reducible refine gate_dst (N := 5) rfl ?_); refine boxE (cs := #[.int .i64 0, .int .i64 0, .slice none 0 0, .int .i64 0, .int .i64 0, .int .i64 0, .int .i64 0, .int .i64 0]) (t := 35) ?_; intro gb561 hg w10 hbox hb; refine E9 (rB HO550.1 hb) (rB HO555.1 hb) (bB BK546.1 hb) (bS HB.1 hb) (hbox) (gX HB.1 hg) (gX HB.1 hg) (nB BK546.1 hg) (nC BK546.1 hg) ?_; clear HO550 HO555 BK546 HB; intro HO550 HO555 BK546 HB BK561 GW561 GE561 NB546_561 NB561_546; clear hb hbox hg; have hnb11 := NB561_546.1; have hnc11 := NB546_561.1; obtain ⟨hcz12_0, hcz12_1, hcz12_2, hcz12_3, hcz12_4, hcz12_5, hcz12_6, hcz12_7, hfz12_0, hfz12_1, hfz12_2, hfz12_3, hfz12_4, hfz12_5, hfz12_6, hfz12_7⟩ := cz8 BK561.1; obtain ⟨Ao13, co13, eo13⟩ := R_slice HO555.1; subst eo13))
   go_ret2
   exact ⟨_, RF, by (with_reducible repeat (first | apply R_alloc | apply R_drewN | apply R_drew)); exact R_mono (RQ gb561 7 (RQ gb561 6 (RQ gb561 5 (RQ gb561 4 (RQ gb561 3 (RQ gb561 2 (RQ gb561 1 (RQ gb561 0 (R_types HO550.1 BK561.1 (by decide)) _) _) _) _) _) _) _) _) (fun _ hk => trivial), BL HB.1⟩
 simp only [Option.some.injEq, Prod.mk.injEq] at H
 obtain ⟨rfl, rfl⟩ := H
 go_enter Try.func16, Try.ntmps16
 go_wp2_with (first | ((with_reducible refine gate_dst (N := 1) rfl ?_); refine boxE (cs := #[.int .i64 a0_0, .int .i64 a0_1, .slice A0_2 l0_2.length c0_2, .int .i64 a0_3, .int .i64 a0_4, .int .i64 a0_5, .int .i64 a0_6, .int .i64 a0_7]) (t := 35) ?_; intro gb546 hg w14 hbox hb; refine E4b HB.1 hg hbox hb ?_; clear HB; intro HB BK546 GW546 GE546; clear hb hbox hg; obtain ⟨hcz15_0, hcz15_1, hcz15_2, hcz15_3, hcz15_4, hcz15_5, hcz15_6, hcz15_7, hfz15_0, hfz15_1, hfz15_2, hfz15_3, hfz15_4, hfz15_5, hfz15_6, hfz15_7⟩ := cz8 BK546.1) | ((with_reducible refine gate_callee (f := 29) rfl ?_); refine goesM (N := (some 7)) #[.agg #[.int .i64 a0_0, .int .i64 a0_1, .slice A0_2 l0_2.length c0_2, .int .i64 a0_3, .int .i64 a0_4, .int .i64 a0_5, .int .i64 a0_6, .int .i64 a0_7]] Try.func29 ?_; (with_reducible refine (spec_maGood.calls k a0_0 a0_1 _ _ l0_2 a0_3 a0_4 a0_5 a0_6 a0_7 false _ ?side1 ?side2 A2.1).mono ?_); (case side1 => exact CB (C_below HR0_2.1 HB.1)); (case side2 => exact HC0_2.1); rintro e w16 ⟨rfl, hb⟩; refine ⟨_, rfl, ?_⟩; refine E2 (bB BK546.1 hb) (bS HB.1 hb) ?_; clear BK546 HB; intro BK546 HB; (try clear hb)))
 go_ret2
 exact ⟨_, RF, by first | exact R_nil _ _ _ _ _ | exact N_nil _ _ _ _ _ | exact V_nil _ _ _ _ _ | exact Q_nil _ _ _ _ _ | exact S_nil _ _ _ _ _, BL HB.1⟩

/-! ### impl_LogOf: function 17 -/
open Kd
def impl_LogOf.f (k : Nat) (a0_0 : Int) (a0_1 : Int) (l0_2 : List (S98)) (a0_3 : Int) (a0_4 : Int) (a0_5 : Int) (a0_6 : Int) (a0_7 : Int) : Option ((List (S66)) × Bool) := (impl_IsMachine.f k a0_0 a0_1 l0_2 a0_3 a0_4 a0_5 a0_6 a0_7).bind fun t563 => (if t563 = true then ((impl_runSteps.f k a0_0 a0_1 l0_2 a0_3 a0_4 a0_5 a0_6 a0_7 60).bind fun bt564 => (some (bt564.2.2.2.2.2.2.2.2, true))) else (some (([] : List (S66)), false)))
theorem impl_LogOf.mono : ∀ a0 a1 a2 a3 a4 a5 a6 a7 k, LeO (impl_LogOf.f k a0 a1 a2 a3 a4 a5 a6 a7) (impl_LogOf.f (k + 1) a0 a1 a2 a3 a4 a5 a6 a7) := by
 intro a0 a1 a2 a3 a4 a5 a6 a7 k
 unfold impl_LogOf.f
 repeat' first
  | (with_reducible exact impl_IsMachine.mono _ _ _ _ _ _ _ _ _)
  | (with_reducible exact impl_runSteps.mono _ _ _ _ _ _ _ _ _ _)
  | (with_reducible exact LeO.refl _)
  | (with_reducible exact LeO.none _)
  | (with_reducible refine LeO.ite ?_ ?_)
  | (with_reducible refine LeO.bind ?_ (fun _ => ?_))
  | exact impl_IsMachine.mono _ _ _ _ _ _ _ _ _
  | exact impl_runSteps.mono _ _ _ _ _ _ _ _ _ _
  | exact LeO.none _
  | refine LeO.ite ?_ ?_
  | refine LeO.bind ?_ (fun _ => ?_)
theorem impl_LogOf.calls (k : Nat) (a0_0 : Int) (a0_1 : Int) (A0_2 : Option Addr) (c0_2 : Nat) (l0_2 : List (S98)) (a0_3 : Int) (a0_4 : Int) (a0_5 : Int) (a0_6 : Int) (a0_7 : Int) (r1 : List (S66)) (r2 : Bool) (w : World) (hr0_2 : Kd.C k98 w A0_2 l0_2.length l0_2) (hc0_2 : l0_2.length <= c0_2) (h : impl_LogOf.f k a0_0 a0_1 l0_2 a0_3 a0_4 a0_5 a0_6 a0_7 = some (r1, r2)) :
 Calls Try.prog 17 #[.agg #[.int .i64 a0_0, .int .i64 a0_1, .slice A0_2 l0_2.length c0_2, .int .i64 a0_3, .int .i64 a0_4, .int .i64 a0_5, .int .i64 a0_6, .int .i64 a0_7]] w fun e w' => ∃ v0_ : Value, e = .returned (.tuple #[v0_, .bool r2]) /\ Kd.R k66 66 w' w.heap.size (fun _ => True) v0_ r1 /\ Below w.heap.size w w' := by
 have hu35 := Try.underlying35
 have HR0_2 := Aside0.mk hr0_2
 have HC0_2 := Aside0.mk hc0_2
 clear hr0_2 hc0_2
 have HB := Aside0.mk (Below.refl w.heap.size w)
 have H := h
 clear h
 unfold impl_LogOf.f at H
 replace H := bindA H; obtain ⟨t563, A2, H⟩ := H
 replace H := ifX H; rcases H with ⟨rfl, H⟩ | ⟨rfl, H⟩
 · replace H := bindA H; obtain ⟨⟨t564, t565, t566, t569, t570, t571, t572, t573, t574⟩, A4, H⟩ := H
   dsimp only at H
   simp only [Option.some.injEq, Prod.mk.injEq] at H
   obtain ⟨rfl, rfl⟩ := H
   go_enter Try.func17, Try.ntmps17
   go_wp2_with (first | ((with_reducible refine gate_dst (N := 1) rfl ?_); refine boxE (cs := #[.int .i64 a0_0, .int .i64 a0_1, .slice A0_2 l0_2.length c0_2, .int .i64 a0_3, .int .i64 a0_4, .int .i64 a0_5, .int .i64 a0_6, .int .i64 a0_7]) (t := 35) ?_; intro gb562 hg w5 hbox hb; refine E4b HB.1 hg hbox hb ?_; clear HB; intro HB BK562 GW562 GE562; clear hb hbox hg; obtain ⟨hcz6_0, hcz6_1, hcz6_2, hcz6_3, hcz6_4, hcz6_5, hcz6_6, hcz6_7, hfz6_0, hfz6_1, hfz6_2, hfz6_3, hfz6_4, hfz6_5, hfz6_6, hfz6_7⟩ := cz8 BK562.1) | ((with_reducible refine gate_callee (f := 32) rfl ?_); refine goesM (N := (some 7)) #[.agg #[.int .i64 a0_0, .int .i64 a0_1, .slice A0_2 l0_2.length c0_2, .int .i64 a0_3, .int .i64 a0_4, .int .i64 a0_5, .int .i64 a0_6, .int .i64 a0_7]] Try.func32 ?_; (with_reducible refine (impl_IsMachine.calls k a0_0 a0_1 _ _ l0_2 a0_3 a0_4 a0_5 a0_6 a0_7 true _ ?side1 ?side2 A2.1).mono ?_); (case side1 => exact CB (C_below HR0_2.1 HB.1)); (case side2 => exact HC0_2.1); rintro e w7 ⟨rfl, hb⟩; refine ⟨_, rfl, ?_⟩; refine E2 (bB BK562.1 hb) (bS HB.1 hb) ?_; clear BK562 HB; intro BK562 HB; (try clear hb); obtain ⟨hcz8_0, hcz8_1, hcz8_2, hcz8_3, hcz8_4, hcz8_5, hcz8_6, hcz8_7, hfz8_0, hfz8_1, hfz8_2, hfz8_3, hfz8_4, hfz8_5, hfz8_6, hfz8_7⟩ := cz8 BK562.1) | ((with_reducible refine gate_callee (f := 33) rfl ?_); refine goesM (N := (some 11)) #[.agg #[.int .i64 a0_0, .int .i64 a0_1, .slice A0_2 l0_2.length c0_2, .int .i64 a0_3, .int .i64 a0_4, .int .i64 a0_5, .int .i64 a0_6, .int .i64 a0_7], .int .i64 60] Try.func33 ?_; (with_reducible refine (impl_runSteps.calls k a0_0 a0_1 _ _ l0_2 a0_3 a0_4 a0_5 a0_6 a0_7 60 t564 t565 t566 t569 t570 t571 t572 t573 t574 _ ?side1 ?side2 A4.1).mono ?_); (case side1 => exact CB (C_below HR0_2.1 HB.1)); (case side2 => exact HC0_2.1); rintro e w9 ⟨v567, v575, rfl, ho0, ho1, hb⟩; refine ⟨_, rfl, ?_⟩; refine E4 (R_lower ho0 (bZ HB.1)) (R_lower ho1 (bZ HB.1)) (bB BK562.1 hb) (bS HB.1 hb) ?_; clear BK562 HB; intro HO568 HO576 BK562 HB; (try clear hb); (try clear ho0); (try clear ho1)) | ((with_reducible refine gate_dst (N := 4) rfl ?_); refine boxE (cs := #[.int .i64 0, .int .i64 0, .slice none 0 0, .int .i64 0, .int .i64 0, .int .i64 0, .int .i64 0, .int .i64 0]) (t := 35) ?_; intro gb577 hg w10 hbox hb; refine E9 (rB HO568.1 hb) (rB HO576.1 hb) (bB BK562.1 hb) (bS HB.1 hb) (hbox) (gX HB.1 hg) (gX HB.1 hg) (nB BK562.1 hg) (nC BK562.1 hg) ?_; clear HO568 HO576 BK562 HB; intro HO568 HO576 BK562 HB BK577 GW577 GE577 NB562_577 NB577_562; clear hb hbox hg; have hnb11 := NB577_562.1; have hnc11 := NB562_577.1; obtain ⟨hcz12_0, hcz12_1, hcz12_2, hcz12_3, hcz12_4, hcz12_5, hcz12_6, hcz12_7, hfz12_0, hfz12_1, hfz12_2, hfz12_3, hfz12_4, hfz12_5, hfz12_6, hfz12_7⟩ := cz8 BK577.1; obtain ⟨Ao13, co13, eo13⟩ := R_slice HO568.1; subst eo13))
   go_ret2
   exact ⟨_, RF, by (with_reducible repeat (first | apply R_alloc | apply R_drewN | apply R_drew)); exact R_mono (RQ gb577 7 (RQ gb577 6 (RQ gb577 5 (RQ gb577 4 (RQ gb577 3 (RQ gb577 2 (RQ gb577 1 (RQ gb577 0 (R_types HO576.1 BK577.1 (by decide)) _) _) _) _) _) _) _) _) (fun _ hk => trivial), BL HB.1⟩
 simp only [Option.some.injEq, Prod.mk.injEq] at H
 obtain ⟨rfl, rfl⟩ := H
 go_enter Try.func17, Try.ntmps17
 go_wp2_with (first | ((with_reducible refine gate_dst (N := 1) rfl ?_); refine boxE (cs := #[.int .i64 a0_0, .int .i64 a0_1, .slice A0_2 l0_2.length c0_2, .int .i64 a0_3, .int .i64 a0_4, .int .i64 a0_5, .int .i64 a0_6, .int .i64 a0_7]) (t := 35) ?_; intro gb562 hg w14 hbox hb; refine E4b HB.1 hg hbox hb ?_; clear HB; intro HB BK562 GW562 GE562; clear hb hbox hg; obtain ⟨hcz15_0, hcz15_1, hcz15_2, hcz15_3, hcz15_4, hcz15_5, hcz15_6, hcz15_7, hfz15_0, hfz15_1, hfz15_2, hfz15_3, hfz15_4, hfz15_5, hfz15_6, hfz15_7⟩ := cz8 BK562.1) | ((with_reducible refine gate_callee (f := 32) rfl ?_); refine goesM (N := (some 7)) #[.agg #[.int .i64 a0_0, .int .i64 a0_1, .slice A0_2 l0_2.length c0_2, .int .i64 a0_3, .int .i64 a0_4, .int .i64 a0_5, .int .i64 a0_6, .int .i64 a0_7]] Try.func32 ?_; (with_reducible refine (impl_IsMachine.calls k a0_0 a0_1 _ _ l0_2 a0_3 a0_4 a0_5 a0_6 a0_7 false _ ?side1 ?side2 A2.1).mono ?_); (case side1 => exact CB (C_below HR0_2.1 HB.1)); (case side2 => exact HC0_2.1); rintro e w16 ⟨rfl, hb⟩; refine ⟨_, rfl, ?_⟩; refine E2 (bB BK562.1 hb) (bS HB.1 hb) ?_; clear BK562 HB; intro BK562 HB; (try clear hb)))
 go_ret2
 exact ⟨_, RF, by first | exact R_nil _ _ _ _ _ | exact N_nil _ _ _ _ _ | exact V_nil _ _ _ _ _ | exact Q_nil _ _ _ _ _ | exact S_nil _ _ _ _ _, BL HB.1⟩

/-! ### laws_heldLogEntryS: function 20 -/
open Kd
def laws_heldLogEntryS.l0 : Nat -> List (S66) -> Int -> Int -> Option (Int)
 | 0, _, _, _ => none
 | k + 1, x0, x1, x5 => if x5 < (x0.length : Int) then (if 0 <= x5 then (if ((rd_T66 x0 x5).f0) = x1 then (if ((rd_T66 x0 x5).f1.f0) = (wrap64 (x1 + 1)) then (if ((rd_T66 x0 x5).f1.f1) = (wrap64 ((wrap64 (x1 + 1)) + 1)) then (if ((rd_T66 x0 x5).f1.f2) = (wrap64 ((wrap64 ((wrap64 (x1 + 1)) + 1)) + 1)) then (laws_heldLogEntryS.l0 k x0 (wrap64 ((wrap64 ((wrap64 ((wrap64 (x1 + 1)) + 1)) + 1)) + 1)) (wrap64 (x5 + 1))) else (some (-1))) else (some (-1))) else (some (-1))) else (some (-1))) else (none)) else (some x1)
def laws_heldLogEntryS.f (k : Nat) (l0 : List (S66)) (a1 : Int) : Option (Int) := laws_heldLogEntryS.l0 k l0 a1 0
theorem laws_heldLogEntryS.mono_l : ∀ k, (∀ y0 y1 y2, LeO (laws_heldLogEntryS.l0 k y0 y1 y2) (laws_heldLogEntryS.l0 (k + 1) y0 y1 y2))
 | 0 => fun _ _ _ r h => by simp [laws_heldLogEntryS.l0] at h
 | k + 1 => by
  have ih0 := laws_heldLogEntryS.mono_l k
  intros
  first | unfold laws_heldLogEntryS.l0
  exact LM1 ih0
theorem laws_heldLogEntryS.mono : ∀ a0 a1 k, LeO (laws_heldLogEntryS.f k a0 a1) (laws_heldLogEntryS.f (k + 1) a0 a1) := by
 intro a0 a1 k
 have ih0 := laws_heldLogEntryS.mono_l k
 unfold laws_heldLogEntryS.f
 exact LM1 ih0
theorem laws_heldLogEntryS.calls (k : Nat) (A0 : Option Addr) (c0 : Nat) (l0 : List (S66)) (a1 : Int) (r : Int) (w : World) (hr0 : Kd.C k66 w A0 l0.length l0) (hc0 : l0.length <= c0) (h : laws_heldLogEntryS.f k l0 a1 = some r) :
 Calls Try.prog 20 #[.slice A0 l0.length c0, .int .i64 a1] w fun e w' => e = .returned (.int .i64 r) /\ Drawn0 w w' := by
 have HR0 := Aside0.mk hr0
 have HC0 := Aside0.mk hc0
 clear hr0 hc0
 have H := h
 clear h
 unfold laws_heldLogEntryS.f at H
 have H' := Aside0.mk H
 clear H
 go_enter Try.func20, Try.ntmps20
 go_wp2
 go_loopg [1, 5] k (fun kq v1 v5 w' => ∃ (x1_1 : Int) (x5_1 : Int), v1 = .int .i64 x1_1 /\ v5 = .int .i64 x5_1 /\ Aside0 (laws_heldLogEntryS.l0 kq l0 x1_1 x5_1 = some r) /\ Aside0 (kq <= k) /\ Drawn0 w w')
 case atStart => exact ⟨(a1), (0), RG, RG, H', ⟨Nat.le_refl _⟩, DR⟩
 clear H'
 obtain ⟨x1_1, x5_1, rfl, rfl, HA, HK1, ⟨m1, rfl⟩⟩ := hrel
 cases gk with
 | zero => exact absurd HA.1 (by simp [laws_heldLogEntryS.l0])
 | succ k1 => ?_
 have H := HA.1
 clear HA
 simp only [laws_heldLogEntryS.l0] at H
 replace H := ifB H; rcases H with ⟨c3b0, H⟩ | ⟨c3b0, H⟩
 · replace H := ifN H; obtain ⟨c4b0, H⟩ := H
   replace H := ifQ H; rcases H with ⟨c5, H⟩ | ⟨c5, H⟩
   · have c5b0 := beq_iff_eq.mpr c5
     have c5b1 := bne_eq_false_iff_eq.mpr c5
     clear c5
     replace H := ifQ H; rcases H with ⟨c6, H⟩ | ⟨c6, H⟩
     · have c6b0 := beq_iff_eq.mpr c6
       have c6b1 := bne_eq_false_iff_eq.mpr c6
       clear c6
       replace H := ifQ H; rcases H with ⟨c7, H⟩ | ⟨c7, H⟩
       · have c7b0 := beq_iff_eq.mpr c7
         have c7b1 := bne_eq_false_iff_eq.mpr c7
         clear c7
         replace H := ifQ H; rcases H with ⟨c8, H⟩ | ⟨c8, H⟩
         · have c8b0 := beq_iff_eq.mpr c8
           have c8b1 := bne_eq_false_iff_eq.mpr c8
           clear c8
           have H' := Aside0.mk H
           clear H
           have p590 : 0 <= (x5_1 : Int) := OD
           have q590 : x5_1 < (l0.length : Int) := OD
           obtain ⟨ad590, e590, hx590_0, hx590_1, hx590_2, hx590_3⟩ := at_T66 HR0.1 x5_1 p590 q590
           cases e590
           replace p590 := eq_true p590
           replace q590 := eq_true q590
           have p591 : 0 <= (x5_1 : Int) := OD
           have q591 : x5_1 < (l0.length : Int) := OD
           obtain ⟨ad591, e591, hx591_0, hx591_1, hx591_2, hx591_3⟩ := at_T66 HR0.1 x5_1 p591 q591
           obtain rfl : ad590 = ad591 := (by injection e591)
           replace p591 := eq_true p591
           replace q591 := eq_true q591
           have p592 : 0 <= (x5_1 : Int) := OD
           have q592 : x5_1 < (l0.length : Int) := OD
           obtain ⟨ad592, e592, hx592_0, hx592_1, hx592_2, hx592_3⟩ := at_T66 HR0.1 x5_1 p592 q592
           obtain rfl : ad590 = ad592 := (by injection e592)
           replace p592 := eq_true p592
           replace q592 := eq_true q592
           have p593 : 0 <= (x5_1 : Int) := OD
           have q593 : x5_1 < (l0.length : Int) := OD
           obtain ⟨ad593, e593, hx593_0, hx593_1, hx593_2, hx593_3⟩ := at_T66 HR0.1 x5_1 p593 q593
           obtain rfl : ad590 = ad593 := (by injection e593)
           replace p593 := eq_true p593
           replace q593 := eq_true q593
           go_wp2
           go_roundg k1
           case measure => have := HK1.1; omega
           case rel => exact ⟨(wrap64 ((wrap64 ((wrap64 ((wrap64 (x1_1 + 1)) + 1)) + 1)) + 1)), (wrap64 (x5_1 + 1)), RG, RG, H', ⟨by have := HK1.1; omega⟩, DR⟩
         have c8b0 := beq_eq_false_iff_ne.mpr c8
         have c8b1 := bne_iff_ne.mpr c8
         obtain rfl := Option.some.inj H
         have p590 : 0 <= (x5_1 : Int) := OD
         have q590 : x5_1 < (l0.length : Int) := OD
         obtain ⟨ad590, e590, hx590_0, hx590_1, hx590_2, hx590_3⟩ := at_T66 HR0.1 x5_1 p590 q590
         cases e590
         replace p590 := eq_true p590
         replace q590 := eq_true q590
         have p591 : 0 <= (x5_1 : Int) := OD
         have q591 : x5_1 < (l0.length : Int) := OD
         obtain ⟨ad591, e591, hx591_0, hx591_1, hx591_2, hx591_3⟩ := at_T66 HR0.1 x5_1 p591 q591
         obtain rfl : ad590 = ad591 := (by injection e591)
         replace p591 := eq_true p591
         replace q591 := eq_true q591
         have p592 : 0 <= (x5_1 : Int) := OD
         have q592 : x5_1 < (l0.length : Int) := OD
         obtain ⟨ad592, e592, hx592_0, hx592_1, hx592_2, hx592_3⟩ := at_T66 HR0.1 x5_1 p592 q592
         obtain rfl : ad590 = ad592 := (by injection e592)
         replace p592 := eq_true p592
         replace q592 := eq_true q592
         have p593 : 0 <= (x5_1 : Int) := OD
         have q593 : x5_1 < (l0.length : Int) := OD
         obtain ⟨ad593, e593, hx593_0, hx593_1, hx593_2, hx593_3⟩ := at_T66 HR0.1 x5_1 p593 q593
         obtain rfl : ad590 = ad593 := (by injection e593)
         replace p593 := eq_true p593
         replace q593 := eq_true q593
         go_wp2
         go_ret
         exact ⟨RG, DR⟩
       have c7b0 := beq_eq_false_iff_ne.mpr c7
       have c7b1 := bne_iff_ne.mpr c7
       obtain rfl := Option.some.inj H
       have p590 : 0 <= (x5_1 : Int) := OD
       have q590 : x5_1 < (l0.length : Int) := OD
       obtain ⟨ad590, e590, hx590_0, hx590_1, hx590_2, hx590_3⟩ := at_T66 HR0.1 x5_1 p590 q590
       cases e590
       replace p590 := eq_true p590
       replace q590 := eq_true q590
       have p591 : 0 <= (x5_1 : Int) := OD
       have q591 : x5_1 < (l0.length : Int) := OD
       obtain ⟨ad591, e591, hx591_0, hx591_1, hx591_2, hx591_3⟩ := at_T66 HR0.1 x5_1 p591 q591
       obtain rfl : ad590 = ad591 := (by injection e591)
       replace p591 := eq_true p591
       replace q591 := eq_true q591
       have p592 : 0 <= (x5_1 : Int) := OD
       have q592 : x5_1 < (l0.length : Int) := OD
       obtain ⟨ad592, e592, hx592_0, hx592_1, hx592_2, hx592_3⟩ := at_T66 HR0.1 x5_1 p592 q592
       obtain rfl : ad590 = ad592 := (by injection e592)
       replace p592 := eq_true p592
       replace q592 := eq_true q592
       go_wp2
       go_ret
       exact ⟨RG, DR⟩
     have c6b0 := beq_eq_false_iff_ne.mpr c6
     have c6b1 := bne_iff_ne.mpr c6
     obtain rfl := Option.some.inj H
     have p590 : 0 <= (x5_1 : Int) := OD
     have q590 : x5_1 < (l0.length : Int) := OD
     obtain ⟨ad590, e590, hx590_0, hx590_1, hx590_2, hx590_3⟩ := at_T66 HR0.1 x5_1 p590 q590
     cases e590
     replace p590 := eq_true p590
     replace q590 := eq_true q590
     have p591 : 0 <= (x5_1 : Int) := OD
     have q591 : x5_1 < (l0.length : Int) := OD
     obtain ⟨ad591, e591, hx591_0, hx591_1, hx591_2, hx591_3⟩ := at_T66 HR0.1 x5_1 p591 q591
     obtain rfl : ad590 = ad591 := (by injection e591)
     replace p591 := eq_true p591
     replace q591 := eq_true q591
     go_wp2
     go_ret
     exact ⟨RG, DR⟩
   have c5b0 := beq_eq_false_iff_ne.mpr c5
   have c5b1 := bne_iff_ne.mpr c5
   obtain rfl := Option.some.inj H
   have p590 : 0 <= (x5_1 : Int) := OD
   have q590 : x5_1 < (l0.length : Int) := OD
   obtain ⟨ad590, e590, hx590_0, hx590_1, hx590_2, hx590_3⟩ := at_T66 HR0.1 x5_1 p590 q590
   cases e590
   replace p590 := eq_true p590
   replace q590 := eq_true q590
   go_wp2
   go_ret
   exact ⟨RG, DR⟩
 obtain rfl := Option.some.inj H
 go_wp2
 go_ret
 exact ⟨RG, DR⟩
/-! ### laws_FnExactLogOf: function 4 -/
open Kd
mutual
def laws_FnExactLogOf.j0 : Nat -> List (S66) -> Bool -> List (S66) -> Bool -> Bool -> Int -> Int -> List (S100) -> Int -> Int -> Int -> Int -> Int -> Int -> Int -> List (S98) -> Int -> Int -> Int -> Int -> Int -> Option (Bool)
 | 0, _, _, _, _, _, _, _, _, _, _, _, _, _, _, _, _, _, _, _, _, _ => none
 | k + 1, x4, x5, x7, x8, x40, x595000, x595001, x595002, x595003, x595004, x595005, x595006, x595007, x621000, x621001, x621002, x621003, x621004, x621005, x621006, x621007 => if x40 = true then (some false) else ((laws_toMachine.f k x595000 x595001 x595002 x595003 x595004 x595005 x595006 x595007).bind fun bt626 => ((laws_eqMachine.f k x621000 x621001 x621002 x621003 x621004 x621005 x621006 x621007 bt626.1 bt626.2.1 bt626.2.2.1 bt626.2.2.2.1 bt626.2.2.2.2.1 bt626.2.2.2.2.2.1 bt626.2.2.2.2.2.2.1 bt626.2.2.2.2.2.2.2).bind fun t636 => (if t636 = true then ((laws_markMachine.f k x621000 x621001 x621002 x621003 x621004 x621005 x621006 x621007 1).bind fun bt637 => (if bt637.1 < 0 then (laws_FnExactLogOf.j1 k x4 x5 x7 true x595000 x595001 x595002 x595003 x595004 x595005 x595006 x595007) else ((laws_eqLogEntryS.f k x7 x4).bind fun t639 => (if t639 = true then (laws_FnExactLogOf.j1 k x4 x5 x7 (x8 != x5) x595000 x595001 x595002 x595003 x595004 x595005 x595006 x595007) else (laws_FnExactLogOf.j1 k x4 x5 x7 true x595000 x595001 x595002 x595003 x595004 x595005 x595006 x595007))))) else (some false))))
def laws_FnExactLogOf.j1 : Nat -> List (S66) -> Bool -> List (S66) -> Bool -> Int -> Int -> List (S100) -> Int -> Int -> Int -> Int -> Int -> Option (Bool)
 | 0, _, _, _, _, _, _, _, _, _, _, _, _ => none
 | k + 1, x4, x5, x7, x61, x595000, x595001, x595002, x595003, x595004, x595005, x595006, x595007 => if x61 = true then (some false) else ((laws_markLogEntryS.f k x7 1).bind fun bt640 => ((laws_heldLogEntryS.f k bt640.2 1).bind fun t642 => (if t642 < 0 then (some false) else (if t642 = bt640.1 then ((laws_toMachine.f k x595000 x595001 x595002 x595003 x595004 x595005 x595006 x595007).bind fun bt643 => ((impl_LogOf.f k bt643.1 bt643.2.1 bt643.2.2.1 bt643.2.2.2.1 bt643.2.2.2.2.1 bt643.2.2.2.2.2.1 bt643.2.2.2.2.2.2.1 bt643.2.2.2.2.2.2.2).bind fun bt653 => ((laws_eqLogEntryS.f k bt653.1 x4).bind fun t657 => (if t657 = true then (laws_FnExactLogOf.j2 k bt640.2 bt640.1 (bt653.2 != x5)) else (laws_FnExactLogOf.j2 k bt640.2 bt640.1 true))))) else (some false)))))
def laws_FnExactLogOf.j2 : Nat -> List (S66) -> Int -> Bool -> Option (Bool)
 | 0, _, _, _ => none
 | k + 1, x7, x10, x87 => if x87 = true then (some false) else ((laws_heldLogEntryS.f k x7 1).bind fun t658 => (if t658 < 0 then (some false) else (if t658 = x10 then (some true) else (some false))))
end
def laws_FnExactLogOf.f (k : Nat) (a0_0 : Int) (a0_1 : Int) (l0_2 : List (S100)) (a0_3 : Int) (a0_4 : Int) (a0_5 : Int) (a0_6 : Int) (a0_7 : Int) : Option (Bool) := (laws_szMachine.f a0_0 a0_1 l0_2 a0_3 a0_4 a0_5 a0_6 a0_7 1048576).bind fun t595 => (if t595 < 0 then (some true) else ((laws_toMachine.f k a0_0 a0_1 l0_2 a0_3 a0_4 a0_5 a0_6 a0_7).bind fun bt596 => ((spec_LogOf.f k bt596.1 bt596.2.1 bt596.2.2.1 bt596.2.2.2.1 bt596.2.2.2.2.1 bt596.2.2.2.2.2.1 bt596.2.2.2.2.2.2.1 bt596.2.2.2.2.2.2.2).bind fun bt606 => ((laws_toMachine.f k a0_0 a0_1 l0_2 a0_3 a0_4 a0_5 a0_6 a0_7).bind fun bt610 => ((impl_LogOf.f k bt610.1 bt610.2.1 bt610.2.2.1 bt610.2.2.2.1 bt610.2.2.2.2.1 bt610.2.2.2.2.2.1 bt610.2.2.2.2.2.2.1 bt610.2.2.2.2.2.2.2).bind fun bt621 => ((laws_eqLogEntryS.f k bt621.1 bt606.1).bind fun t625 => (if t625 = true then (laws_FnExactLogOf.j0 k bt606.1 bt606.2 bt621.1 bt621.2 (bt621.2 != bt606.2) a0_0 a0_1 l0_2 a0_3 a0_4 a0_5 a0_6 a0_7 bt610.1 bt610.2.1 bt610.2.2.1 bt610.2.2.2.1 bt610.2.2.2.2.1 bt610.2.2.2.2.2.1 bt610.2.2.2.2.2.2.1 bt610.2.2.2.2.2.2.2) else (laws_FnExactLogOf.j0 k bt606.1 bt606.2 bt621.1 bt621.2 true a0_0 a0_1 l0_2 a0_3 a0_4 a0_5 a0_6 a0_7 bt610.1 bt610.2.1 bt610.2.2.1 bt610.2.2.2.1 bt610.2.2.2.2.1 bt610.2.2.2.2.2.1 bt610.2.2.2.2.2.2.1 bt610.2.2.2.2.2.2.2))))))))
theorem laws_FnExactLogOf.mono_l : ∀ k, (∀ y0 y1 y2 y3 y4 y5 y6 y7 y8 y9 y10 y11 y12 y13 y14 y15 y16 y17 y18 y19 y20, LeO (laws_FnExactLogOf.j0 k y0 y1 y2 y3 y4 y5 y6 y7 y8 y9 y10 y11 y12 y13 y14 y15 y16 y17 y18 y19 y20) (laws_FnExactLogOf.j0 (k + 1) y0 y1 y2 y3 y4 y5 y6 y7 y8 y9 y10 y11 y12 y13 y14 y15 y16 y17 y18 y19 y20)) /\ (∀ y0 y1 y2 y3 y4 y5 y6 y7 y8 y9 y10 y11, LeO (laws_FnExactLogOf.j1 k y0 y1 y2 y3 y4 y5 y6 y7 y8 y9 y10 y11) (laws_FnExactLogOf.j1 (k + 1) y0 y1 y2 y3 y4 y5 y6 y7 y8 y9 y10 y11)) /\ (∀ y0 y1 y2, LeO (laws_FnExactLogOf.j2 k y0 y1 y2) (laws_FnExactLogOf.j2 (k + 1) y0 y1 y2))
 | 0 => by refine ⟨?_, ?_, ?_⟩ <;> (intros; intro r h; first | (simp [laws_FnExactLogOf.j0] at h; done) | (simp [laws_FnExactLogOf.j1] at h; done) | (simp [laws_FnExactLogOf.j2] at h; done))
 | k + 1 => by
  obtain ⟨ih0, ih1, ih2⟩ := laws_FnExactLogOf.mono_l k
  refine ⟨?_, ?_, ?_⟩ <;> (
   intros
   first | unfold laws_FnExactLogOf.j0 | unfold laws_FnExactLogOf.j1 | unfold laws_FnExactLogOf.j2
   repeat' first | (with_reducible first | apply ih0 | apply ih1 | apply ih2 | apply impl_LogOf.mono | apply laws_eqLogEntryS.mono | apply laws_eqMachine.mono | apply laws_heldLogEntryS.mono | apply laws_markLogEntryS.mono | apply laws_markMachine.mono | apply laws_toMachine.mono | apply spec_LogOf.mono | exact LeO.refl _ | exact LeO.none _ | refine LeO.ite ?_ ?_ | refine LeO.bind ?_ (fun _ => ?_)) | exact LeO.none _ | refine LeO.ite ?_ ?_ | refine LeO.bind ?_ (fun _ => ?_))
theorem laws_FnExactLogOf.mono : ∀ a0 a1 a2 a3 a4 a5 a6 a7 k, LeO (laws_FnExactLogOf.f k a0 a1 a2 a3 a4 a5 a6 a7) (laws_FnExactLogOf.f (k + 1) a0 a1 a2 a3 a4 a5 a6 a7) := by
 intro a0 a1 a2 a3 a4 a5 a6 a7 k
 obtain ⟨ih0, ih1, ih2⟩ := laws_FnExactLogOf.mono_l k
 unfold laws_FnExactLogOf.f
 repeat' first | (with_reducible first | apply ih0 | apply ih1 | apply ih2 | apply impl_LogOf.mono | apply laws_eqLogEntryS.mono | apply laws_eqMachine.mono | apply laws_heldLogEntryS.mono | apply laws_markLogEntryS.mono | apply laws_markMachine.mono | apply laws_toMachine.mono | apply spec_LogOf.mono | exact LeO.refl _ | exact LeO.none _ | refine LeO.ite ?_ ?_ | refine LeO.bind ?_ (fun _ => ?_)) | exact LeO.none _ | refine LeO.ite ?_ ?_ | refine LeO.bind ?_ (fun _ => ?_)
theorem laws_FnExactLogOf.calls (k : Nat) (a0_0 : Int) (a0_1 : Int) (A0_2 : Option Addr) (c0_2 : Nat) (l0_2 : List (S100)) (a0_3 : Int) (a0_4 : Int) (a0_5 : Int) (a0_6 : Int) (a0_7 : Int) (w : World) (hr0_2 : Kd.C k100 w A0_2 l0_2.length l0_2) (hc0_2 : l0_2.length <= c0_2) (h : laws_FnExactLogOf.f k a0_0 a0_1 l0_2 a0_3 a0_4 a0_5 a0_6 a0_7 = some true) :
 Calls Try.prog 4 #[.agg #[.int .i64 a0_0, .int .i64 a0_1, .slice A0_2 l0_2.length c0_2, .int .i64 a0_3, .int .i64 a0_4, .int .i64 a0_5, .int .i64 a0_6, .int .i64 a0_7]] w fun e w' => e = .returned (.bool true) /\ Below w.heap.size w w' := by
 have hu26 := Try.underlying26
 have hu35 := Try.underlying35
 have HR0_2 := Aside0.mk hr0_2
 have HC0_2 := Aside0.mk hc0_2
 clear hr0_2 hc0_2
 have HB := Aside0.mk (Below.refl w.heap.size w)
 have H := h
 clear h
 unfold laws_FnExactLogOf.f at H
 replace H := bindA H; obtain ⟨t595, A2, H⟩ := H
 replace H := ifB H; rcases H with ⟨c3b0, H⟩ | ⟨c3b0, H⟩
 · first | (obtain rfl := Option.some.inj H) | clear H
   go_enter Try.func4, Try.ntmps4
   go_wp2_with (first | ((with_reducible refine gate_dst (N := 1) rfl ?_); refine boxE (cs := #[.int .i64 a0_0, .int .i64 a0_1, .slice A0_2 l0_2.length c0_2, .int .i64 a0_3, .int .i64 a0_4, .int .i64 a0_5, .int .i64 a0_6, .int .i64 a0_7]) (t := 26) ?_; intro gb594 hg w4 hbox hb; refine E4b HB.1 hg hbox hb ?_; clear HB; intro HB BK594 GW594 GE594; clear hb hbox hg; obtain ⟨hcz5_0, hcz5_1, hcz5_2, hcz5_3, hcz5_4, hcz5_5, hcz5_6, hcz5_7, hfz5_0, hfz5_1, hfz5_2, hfz5_3, hfz5_4, hfz5_5, hfz5_6, hfz5_7⟩ := cz8 BK594.1) | ((with_reducible refine gate_callee (f := 7) rfl ?_); refine goesM (N := (some 16)) #[.agg #[.int .i64 a0_0, .int .i64 a0_1, .slice A0_2 l0_2.length c0_2, .int .i64 a0_3, .int .i64 a0_4, .int .i64 a0_5, .int .i64 a0_6, .int .i64 a0_7], .int .i64 1048576] Try.func7 ?_; (with_reducible refine (laws_szMachine.calls a0_0 a0_1 _ _ l0_2 a0_3 a0_4 a0_5 a0_6 a0_7 1048576 t595 _ ?side1 ?side2 A2.1).mono ?_); (case side1 => exact CB (C_below HR0_2.1 HB.1)); (case side2 => exact HC0_2.1); rintro e w6 ⟨rfl, hb⟩; refine ⟨_, rfl, ?_⟩; refine E2 (bB BK594.1 hb) (bS HB.1 hb) ?_; clear BK594 HB; intro BK594 HB; (try clear hb)))
   go_ret
   exact ⟨RF, BL HB.1⟩
 replace H := bindA H; obtain ⟨⟨t596, t597, t598, t601, t602, t603, t604, t605⟩, A7, H⟩ := H
 dsimp only at H
 replace H := bindA H; obtain ⟨⟨t606, t609⟩, A8, H⟩ := H
 dsimp only at H
 replace H := bindA H; obtain ⟨⟨t610, t611, t612, t615, t616, t617, t618, t619⟩, A9, H⟩ := H
 dsimp only at H
 replace H := bindA H; obtain ⟨⟨t621, t624⟩, A10, H⟩ := H
 dsimp only at H
 have HC11 := Aside0.mk H
 clear H
 go_enter Try.func4, Try.ntmps4
 go_upto_region 8 with (first | ((with_reducible refine gate_dst (N := 1) rfl ?_); refine boxE (cs := #[.int .i64 a0_0, .int .i64 a0_1, .slice A0_2 l0_2.length c0_2, .int .i64 a0_3, .int .i64 a0_4, .int .i64 a0_5, .int .i64 a0_6, .int .i64 a0_7]) (t := 26) ?_; intro gb594 hg w12 hbox hb; refine E4b HB.1 hg hbox hb ?_; clear HB; intro HB BK594 GW594 GE594; clear hb hbox hg; obtain ⟨hcz13_0, hcz13_1, hcz13_2, hcz13_3, hcz13_4, hcz13_5, hcz13_6, hcz13_7, hfz13_0, hfz13_1, hfz13_2, hfz13_3, hfz13_4, hfz13_5, hfz13_6, hfz13_7⟩ := cz8 BK594.1) | ((with_reducible refine gate_callee (f := 7) rfl ?_); refine goesM (N := (some 16)) #[.agg #[.int .i64 a0_0, .int .i64 a0_1, .slice A0_2 l0_2.length c0_2, .int .i64 a0_3, .int .i64 a0_4, .int .i64 a0_5, .int .i64 a0_6, .int .i64 a0_7], .int .i64 1048576] Try.func7 ?_; (with_reducible refine (laws_szMachine.calls a0_0 a0_1 _ _ l0_2 a0_3 a0_4 a0_5 a0_6 a0_7 1048576 t595 _ ?side1 ?side2 A2.1).mono ?_); (case side1 => exact CB (C_below HR0_2.1 HB.1)); (case side2 => exact HC0_2.1); rintro e w14 ⟨rfl, hb⟩; refine ⟨_, rfl, ?_⟩; refine E2 (bB BK594.1 hb) (bS HB.1 hb) ?_; clear BK594 HB; intro BK594 HB; (try clear hb); obtain ⟨hcz15_0, hcz15_1, hcz15_2, hcz15_3, hcz15_4, hcz15_5, hcz15_6, hcz15_7, hfz15_0, hfz15_1, hfz15_2, hfz15_3, hfz15_4, hfz15_5, hfz15_6, hfz15_7⟩ := cz8 BK594.1) | ((with_reducible refine gate_callee (f := 9) rfl ?_); refine goesM (N := (some 21)) #[.agg #[.int .i64 a0_0, .int .i64 a0_1, .slice A0_2 l0_2.length c0_2, .int .i64 a0_3, .int .i64 a0_4, .int .i64 a0_5, .int .i64 a0_6, .int .i64 a0_7]] Try.func9 ?_; (with_reducible refine (laws_toMachine.calls k a0_0 a0_1 _ _ l0_2 a0_3 a0_4 a0_5 a0_6 a0_7 t596 t597 t598 t601 t602 t603 t604 t605 _ ?side1 ?side2 A7.1).mono ?_); (case side1 => exact CB (C_below HR0_2.1 HB.1)); (case side2 => exact HC0_2.1); rintro e w16 ⟨v599, rfl, ho0, hb⟩; refine ⟨_, rfl, ?_⟩; refine E3 (R_lower ho0 (bZ HB.1)) (bB BK594.1 hb) (bS HB.1 hb) ?_; clear BK594 HB; intro HO600 BK594 HB; (try clear hb); (try clear ho0); obtain ⟨Ao17, co17, eo17⟩ := R_slice HO600.1; subst eo17) | ((with_reducible refine gate_callee (f := 16) rfl ?_); refine goesM (N := (some 22)) #[.agg #[.int .i64 t596, .int .i64 t597, .slice Ao17 t598.length co17, .int .i64 t601, .int .i64 t602, .int .i64 t603, .int .i64 t604, .int .i64 t605]] Try.func16 ?_; (with_reducible refine (spec_LogOf.calls k t596 t597 _ _ t598 t601 t602 t603 t604 t605 t606 t609 _ ?side1 ?side2 A8.1).mono ?_); (case side1 => exact CB (R_reads' HO600.1).2.2); (case side2 => exact (R_reads' HO600.1).2.1); rintro e w18 ⟨v607, rfl, ho0, hb⟩; refine ⟨_, rfl, ?_⟩; refine E4 (rB HO600.1 hb) (R_lower ho0 (bZ HB.1)) (bB BK594.1 hb) (bS HB.1 hb) ?_; clear HO600 BK594 HB; intro HO600 HO608 BK594 HB; (try clear hb); (try clear ho0); obtain ⟨hcz19_0, hcz19_1, hcz19_2, hcz19_3, hcz19_4, hcz19_5, hcz19_6, hcz19_7, hfz19_0, hfz19_1, hfz19_2, hfz19_3, hfz19_4, hfz19_5, hfz19_6, hfz19_7⟩ := cz8 BK594.1) | ((with_reducible refine gate_callee (f := 9) rfl ?_); refine goesM (N := (some 26)) #[.agg #[.int .i64 a0_0, .int .i64 a0_1, .slice A0_2 l0_2.length c0_2, .int .i64 a0_3, .int .i64 a0_4, .int .i64 a0_5, .int .i64 a0_6, .int .i64 a0_7]] Try.func9 ?_; (with_reducible refine (laws_toMachine.calls k a0_0 a0_1 _ _ l0_2 a0_3 a0_4 a0_5 a0_6 a0_7 t610 t611 t612 t615 t616 t617 t618 t619 _ ?side1 ?side2 A9.1).mono ?_); (case side1 => exact CB (C_below HR0_2.1 HB.1)); (case side2 => exact HC0_2.1); rintro e w20 ⟨v613, rfl, ho0, hb⟩; refine ⟨_, rfl, ?_⟩; refine E5 (R_elder' (PR HO600.1) (R_base ho0) hb) (rB HO608.1 hb) (R_lower (R_new' ho0 (R_lt (PR HO600.1))) (bZ HB.1)) (bB BK594.1 hb) (bS HB.1 hb) ?_; clear HO600 HO608 BK594 HB; intro HO600 HO608 HO614 BK594 HB; (try clear hb); (try clear ho0)) | ((with_reducible refine gate_dst (N := 6) rfl ?_); refine boxE (cs := #[.int .i64 0, .int .i64 0, .slice none 0 0, .int .i64 0, .int .i64 0, .int .i64 0, .int .i64 0, .int .i64 0]) (t := 35) ?_; intro gb620 hg w21 hbox hb; refine E10 (rB HO600.1 hb) (rB HO608.1 hb) (rB HO614.1 hb) (bB BK594.1 hb) (bS HB.1 hb) (hbox) (gX HB.1 hg) (gX HB.1 hg) (nB BK594.1 hg) (nC BK594.1 hg) ?_; clear HO600 HO608 HO614 BK594 HB; intro HO600 HO608 HO614 BK594 HB BK620 GW620 GE620 NB594_620 NB620_594; clear hb hbox hg; have hnb22 := NB620_594.1; have hnc22 := NB594_620.1; obtain ⟨hcz23_0, hcz23_1, hcz23_2, hcz23_3, hcz23_4, hcz23_5, hcz23_6, hcz23_7, hfz23_0, hfz23_1, hfz23_2, hfz23_3, hfz23_4, hfz23_5, hfz23_6, hfz23_7⟩ := cz8 BK620.1; obtain ⟨Ao24, co24, eo24⟩ := R_slice HO614.1; subst eo24) | ((with_reducible refine gate_callee (f := 17) rfl ?_); refine goesM (N := (some 29)) #[.agg #[.int .i64 t610, .int .i64 t611, .slice Ao24 t612.length co24, .int .i64 t615, .int .i64 t616, .int .i64 t617, .int .i64 t618, .int .i64 t619]] Try.func17 ?_; (with_reducible refine (impl_LogOf.calls k t610 t611 _ _ t612 t615 t616 t617 t618 t619 t621 t624 _ ?side1 ?side2 A10.1).mono ?_); (case side1 => refine (R_reads' (e := 98) (base := w.heap.size) (ok := fun k_ => (True /\ some k_ ≠ (.slice Ao17 t598.length co17 : Value).ownBlock)) (n := t612.length) (c := co24) ?_).2.2; exact (by (with_reducible repeat (first | apply R_alloc | apply R_drewN | apply R_drew)); exact (R_mono (RQ gb620 7 (RQ gb620 6 (RQ gb620 5 (RQ gb620 4 (RQ gb620 3 (RQ gb620 2 (RQ gb620 1 (RQ gb620 0 (R_types HO614.1 BK620.1 (by decide)) _) _) _) _) _) _) _) _) (fun _ h_ => h_.1)))); (case side2 => exact (R_reads' HO614.1).2.1); rintro e w25 ⟨v622, rfl, ho0, hb⟩; refine ⟨_, rfl, ?_⟩; refine E7 (R_below (by (with_reducible repeat (first | apply R_alloc | apply R_drewN | apply R_drew)); exact (R_mono (RQ gb620 7 (RQ gb620 6 (RQ gb620 5 (RQ gb620 4 (RQ gb620 3 (RQ gb620 2 (RQ gb620 1 (RQ gb620 0 (R_types HO600.1 BK620.1 (by decide)) _) _) _) _) _) _) _) _) (fun _ h_ => h_.1))) hb) (R_elder' (by (with_reducible repeat (first | apply R_alloc | apply R_drewN | apply R_drew)); exact (R_mono (RQ gb620 7 (RQ gb620 6 (RQ gb620 5 (RQ gb620 4 (RQ gb620 3 (RQ gb620 2 (RQ gb620 1 (RQ gb620 0 (R_types HO608.1 BK620.1 (by decide)) _) _) _) _) _) _) _) _) (fun _ h_ => h_.1))) (R_base ho0) hb) (R_below (by (with_reducible repeat (first | apply R_alloc | apply R_drewN | apply R_drew)); exact (R_mono (RQ gb620 7 (RQ gb620 6 (RQ gb620 5 (RQ gb620 4 (RQ gb620 3 (RQ gb620 2 (RQ gb620 1 (RQ gb620 0 (R_types HO614.1 BK620.1 (by decide)) _) _) _) _) _) _) _) _) (fun _ h_ => h_.1))) hb) (R_lower (R_new' ho0 (R_lt (by (with_reducible repeat (first | apply R_alloc | apply R_drewN | apply R_drew)); exact (R_mono (RQ gb620 7 (RQ gb620 6 (RQ gb620 5 (RQ gb620 4 (RQ gb620 3 (RQ gb620 2 (RQ gb620 1 (RQ gb620 0 (R_types HO608.1 BK620.1 (by decide)) _) _) _) _) _) _) _) _) (fun _ h_ => h_.1))))) (bZ HB.1)) (blk_below (g := gb594) (o := .cells #[.int .i64 a0_0, .int .i64 a0_1, .slice A0_2 l0_2.length c0_2, .int .i64 a0_3, .int .i64 a0_4, .int .i64 a0_5, .int .i64 a0_6, .int .i64 a0_7] 26 (0, 0)) (PF1 NB594_620.1 BK594.1) hb) (blk_below (g := gb620) (o := .cells #[.int .i64 t610, .int .i64 t611, .slice Ao24 t612.length co24, .int .i64 t615, .int .i64 t616, .int .i64 t617, .int .i64 t618, .int .i64 t619] 35 (0, 0)) (PF0 BK620.1) hb) (bS HB.1 hb) ?_; clear HO600 HO608 HO614 BK594 BK620 HB; intro HO600 HO608 HO614 HO623 BK594 BK620 HB; (try clear hb); (try clear ho0)))
 (try simp only [Act.put, List.setIfInBounds_toArray, List.set_cons_zero, List.set_cons_succ])
 go_cut [40] (fun v40 wc => ∃ (kq : Nat) (x40_10 : Bool), v40 = .bool x40_10 /\ Aside0 (laws_FnExactLogOf.j0 kq t606 t609 t621 t624 x40_10 a0_0 a0_1 l0_2 a0_3 a0_4 a0_5 a0_6 a0_7 t610 t611 t612 t615 t616 t617 t618 t619 = some true) /\ Aside0 (kq <= k) /\ Aside0 (Kd.R k66 66 wc w.heap.size (fun k_ => some k_ ≠ (v622 : Value).ownBlock) v607 t606) /\ Aside0 (Kd.R k66 66 wc w.heap.size (fun k_ => some k_ ≠ (v607 : Value).ownBlock) v622 t621) /\ Aside0 (Kd.R k98 98 wc w.heap.size (fun _ => True) (.slice Ao24 t612.length co24) t612) /\ Aside0 (wc.heap[gb594]? = some (.cells #[.int .i64 a0_0, .int .i64 a0_1, (.slice A0_2 l0_2.length c0_2), .int .i64 a0_3, .int .i64 a0_4, .int .i64 a0_5, .int .i64 a0_6, .int .i64 a0_7] 26 (0, 0))) /\ Aside0 (wc.heap[gb620]? = some (.cells #[.int .i64 t610, .int .i64 t611, (.slice Ao24 t612.length co24), .int .i64 t615, .int .i64 t616, .int .i64 t617, .int .i64 t618, .int .i64 t619] 35 (0, 0))) /\ Aside0 (Below w.heap.size w wc))
 case first =>
  have H := HC11.1
  clear HC11
  replace H := bindA H; obtain ⟨t625, A26, H⟩ := H
  replace H := ifT H (by cases k <;> simp [laws_FnExactLogOf.j0]); obtain ⟨rfl, H⟩ := H
  have H' := Aside0.mk H
  clear H
  obtain ⟨Ao28, co28, eo28⟩ := R_slice HO623.1
  subst eo28
  obtain ⟨Ao29, co29, eo29⟩ := R_slice HO608.1
  subst eo29
  go_wp2_with (first | ((with_reducible refine gate_callee (f := 18) rfl ?_); refine goesM (N := (some 34)) #[.slice Ao28 t621.length co28, .slice Ao29 t606.length co29] Try.func18 ?_; (with_reducible refine (laws_eqLogEntryS.calls k _ _ t621 _ _ t606 true _ ?side1 ?side2 ?side3 ?side4 A26.1).mono ?_); (case side1 => exact CB (R_reads' HO623.1).2.2); (case side2 => exact (R_reads' HO623.1).2.1); (case side3 => exact CB (R_reads' HO608.1).2.2); (case side4 => exact (R_reads' HO608.1).2.1); rintro e w30 ⟨rfl, hb⟩; refine ⟨_, rfl, ?_⟩; refine E7 (rB HO600.1 hb) (rB HO608.1 hb) (rB HO614.1 hb) (rB HO623.1 hb) (bB BK594.1 hb) (bB BK620.1 hb) (bS HB.1 hb) ?_; clear HO600 HO608 HO614 HO623 BK594 BK620 HB; intro HO600 HO608 HO614 HO623 BK594 BK620 HB; (try clear hb)))
  go_meet
  case rel => exact ⟨_, ((t624 != t609)), RG, H', ⟨by first | omega | exact Nat.le_refl _⟩, ⟨RPE (R_mono HO608.1 (fun _ hk => hk.2))⟩, ⟨RPE (R_mono HO623.1 (fun _ hk => hk.2))⟩, ⟨RPE (R_mono HO614.1 (fun _ hk => trivial))⟩, ⟨PB BK594.1⟩, ⟨PB BK620.1⟩, ⟨BL HB.1⟩⟩
 clear HC11
 clear c3b0 hcz13_0 hcz13_1 hcz13_2 hcz13_3 hcz13_4 hcz13_5 hcz13_6 hcz13_7 hcz15_0 hcz15_1 hcz15_2 hcz15_3 hcz15_4 hcz15_5 hcz15_6 hcz15_7 hcz19_0 hcz19_1 hcz19_2 hcz19_3 hcz19_4 hcz19_5 hcz19_6 hcz19_7 hcz23_0 hcz23_1 hcz23_2 hcz23_3 hcz23_4 hcz23_5 hcz23_6 hcz23_7 hfz13_0 hfz13_1 hfz13_2 hfz13_3 hfz13_4 hfz13_5 hfz13_6 hfz13_7 hfz15_0 hfz15_1 hfz15_2 hfz15_3 hfz15_4 hfz15_5 hfz15_6 hfz15_7 hfz19_0 hfz19_1 hfz19_2 hfz19_3 hfz19_4 hfz19_5 hfz19_6 hfz19_7 hfz23_0 hfz23_1 hfz23_2 hfz23_3 hfz23_4 hfz23_5 hfz23_6 hfz23_7
 obtain ⟨kq, x40_10, rfl, HA, HJ10, HO_4, HO_7, HO_621002, BK594, BK620, HB⟩ := hcut
 cases kq with
 | zero => exact absurd HA.1 (by simp [laws_FnExactLogOf.j0])
 | succ kj10 => ?_
 have H := HA.1
 clear HA
 simp only [laws_FnExactLogOf.j0] at H
 replace H := ifF H (by simp); obtain ⟨rfl, H⟩ := H
 replace H := bindA H; obtain ⟨⟨t626, t627, t628, t631, t632, t633, t634, t635⟩, A35, H⟩ := H
 dsimp only at H
 replace H := bindA H; obtain ⟨t636, A36, H⟩ := H
 replace H := ifT H (by simp); obtain ⟨rfl, H⟩ := H
 replace H := bindA H; obtain ⟨⟨t637, t638⟩, A38, H⟩ := H
 dsimp only at H
 have HC39 := Aside0.mk H
 clear H
 try go_wp2
 refine E6 (R_drew HO_4.1) (R_drew HO_7.1) (R_drew HO_621002.1) (blk_drew BK594.1) (blk_drew BK620.1) (below_drew1 HB.1) ?_
 clear HO_4 HO_7 HO_621002 BK594 BK620 HB
 intro HO_4 HO_7 HO_621002 BK594 BK620 HB
 refine start_ (n := 5) (S := fun w' => w'.cell? ⟨gb620, 0, none⟩ = some (.int .i64 t610) /\ w'.cell? ⟨gb620, 1, none⟩ = some (.int .i64 t611) /\ w'.cell? ⟨gb620, 2, none⟩ = some (.slice Ao24 t612.length co24) /\ w'.cell? ⟨gb620, 3, none⟩ = some (.int .i64 t615) /\ w'.cell? ⟨gb620, 4, none⟩ = some (.int .i64 t616) /\ w'.cell? ⟨gb620, 5, none⟩ = some (.int .i64 t617) /\ w'.cell? ⟨gb620, 6, none⟩ = some (.int .i64 t618) /\ w'.cell? ⟨gb620, 7, none⟩ = some (.int .i64 t619) /\ w'.cell? ⟨gb594, 0, none⟩ = some (.int .i64 a0_0) /\ w'.cell? ⟨gb594, 1, none⟩ = some (.int .i64 a0_1) /\ w'.cell? ⟨gb594, 2, none⟩ = some (.slice A0_2 l0_2.length c0_2) /\ w'.cell? ⟨gb594, 3, none⟩ = some (.int .i64 a0_3) /\ w'.cell? ⟨gb594, 4, none⟩ = some (.int .i64 a0_4) /\ w'.cell? ⟨gb594, 5, none⟩ = some (.int .i64 a0_5) /\ w'.cell? ⟨gb594, 6, none⟩ = some (.int .i64 a0_6) /\ w'.cell? ⟨gb594, 7, none⟩ = some (.int .i64 a0_7)) (ds := []) #[Zz,Zz,Zz,Zz,Zz] (by kernel_rfl) rfl rfl ⟨(blk_cell BK620.1 0).trans rfl, (blk_cell BK620.1 1).trans rfl, (blk_cell BK620.1 2).trans rfl, (blk_cell BK620.1 3).trans rfl, (blk_cell BK620.1 4).trans rfl, (blk_cell BK620.1 5).trans rfl, (blk_cell BK620.1 6).trans rfl, (blk_cell BK620.1 7).trans rfl, (blk_cell BK594.1 0).trans rfl, (blk_cell BK594.1 1).trans rfl, (blk_cell BK594.1 2).trans rfl, (blk_cell BK594.1 3).trans rfl, (blk_cell BK594.1 4).trans rfl, (blk_cell BK594.1 5).trans rfl, (blk_cell BK594.1 6).trans rfl, (blk_cell BK594.1 7).trans rfl⟩ (fun hHeld => ?_)
 generalize wc.drew = w40 at HO_4 HO_7 HO_621002 BK594 BK620 HB hHeld ⊢
 refine takeF 0 (N := some 41) hHeld ?_
 refine takeF 1 (N := some 42) hHeld ?_
 refine one_ (i := 2) (N := some 43) #[Yy,Yy,Yy,Zz,Zz] rfl rfl (by kernel_rfl) (by decide) (fun K hK => ?_)
 refine goes_ Try.func9 (by kernel_rfl) rfl #[.agg #[.int .i64 a0_0, .int .i64 a0_1, .slice A0_2 l0_2.length c0_2, .int .i64 a0_3, .int .i64 a0_4, .int .i64 a0_5, .int .i64 a0_6, .int .i64 a0_7]] (by rfl) rfl rfl (by (try simp only [List.map_toArray, List.map_cons, List.map_nil]); first | done | rfl | (simp only [List.length_drop, List.length_take]; rfl)) ?_
 with_reducible refine (laws_toMachine.calls kj10 a0_0 a0_1 _ _ l0_2 a0_3 a0_4 a0_5 a0_6 a0_7 t626 t627 t628 t631 t632 t633 t634 t635 _ ?side1 ?side2 A35.1).mono ?_
 (case side1 => exact CB (C_below HR0_2.1 HB.1))
 (case side2 => exact HC0_2.1)
 rintro e w41 ⟨v629, rfl, ho0, hb⟩
 refine ⟨_, rfl, ?_⟩
 refine E7 (rB HO_4.1 hb) (rB HO_7.1 hb) (R_elder' (PR HO_621002.1) (R_base ho0) hb) (R_lower (R_new' ho0 (R_lt (PR HO_621002.1))) (bZ HB.1)) (bB BK594.1 hb) (bB BK620.1 hb) (bS HB.1 hb) ?_
 clear HO_4 HO_7 HO_621002 BK594 BK620 HB
 intro HO_4 HO_7 HO_621002 HO630 BK594 BK620 HB
 (try clear hb)
 (try clear hb2)
 (try clear hk)
 (try clear hi)
 (try clear ho0)
 obtain ⟨Ao42, co42, eo42⟩ := R_slice HO630.1
 (first | subst eo42 | (injection eo42 with f1_ f2_ f3_; have f4_ := f1_.symm; have f5_ := f3_.symm; clear f1_ f2_ f3_; subst f4_; subst f5_))
 refine hK.out _ _ ⟨(blk_cell BK620.1 0).trans rfl, (blk_cell BK620.1 1).trans rfl, (blk_cell BK620.1 2).trans rfl, (blk_cell BK620.1 3).trans rfl, (blk_cell BK620.1 4).trans rfl, (blk_cell BK620.1 5).trans rfl, (blk_cell BK620.1 6).trans rfl, (blk_cell BK620.1 7).trans rfl, (blk_cell BK594.1 0).trans rfl, (blk_cell BK594.1 1).trans rfl, (blk_cell BK594.1 2).trans rfl, (blk_cell BK594.1 3).trans rfl, (blk_cell BK594.1 4).trans rfl, (blk_cell BK594.1 5).trans rfl, (blk_cell BK594.1 6).trans rfl, (blk_cell BK594.1 7).trans rfl⟩ (fun hHeld => ?_)
 clear hK K
 refine norm_ (a' := ?_) ?_ ?_
 rotate_left
 · show Act.put _ (some 43) _ = _
   simp only [Act.put, List.setIfInBounds_toArray, List.set_cons_zero, List.set_cons_succ, i64_w, i32_w]
   rfl
 refine one_ (i := 3) (N := some 44) #[Yy,Yy,Yy,Yy,Zz] rfl rfl (by kernel_rfl) (by decide) (fun K hK => ?_)
 refine goes_ Try.func12 (by kernel_rfl) rfl #[.agg #[.int .i64 t610, .int .i64 t611, .slice Ao24 t612.length co24, .int .i64 t615, .int .i64 t616, .int .i64 t617, .int .i64 t618, .int .i64 t619], .agg #[.int .i64 t626, .int .i64 t627, .slice Ao42 t628.length co42, .int .i64 t631, .int .i64 t632, .int .i64 t633, .int .i64 t634, .int .i64 t635]] (by rfl) rfl rfl (by (try simp only [List.map_toArray, List.map_cons, List.map_nil]); first | done | rfl | (simp only [List.length_drop, List.length_take]; rfl)) ?_
 with_reducible refine (laws_eqMachine.calls kj10 t610 t611 _ _ t612 t615 t616 t617 t618 t619 t626 t627 _ _ t628 t631 t632 t633 t634 t635 true _ ?side1 ?side2 ?side3 ?side4 A36.1).mono ?_
 (case side1 => exact CB (R_reads' HO_621002.1).2.2)
 (case side2 => exact (R_reads' HO_621002.1).2.1)
 (case side3 => exact CB (R_reads' HO630.1).2.2)
 (case side4 => exact (R_reads' HO630.1).2.1)
 rintro e w43 ⟨rfl, hb⟩
 refine ⟨_, rfl, ?_⟩
 refine E7 (rB HO_4.1 hb) (rB HO_7.1 hb) (rB HO_621002.1 hb) (rB HO630.1 hb) (bB BK594.1 hb) (bB BK620.1 hb) (bS HB.1 hb) ?_
 clear HO_4 HO_7 HO_621002 HO630 BK594 BK620 HB
 intro HO_4 HO_7 HO_621002 HO630 BK594 BK620 HB
 (try clear hb)
 (try clear hb2)
 (try clear hk)
 (try clear hi)
 refine hK.out _ _ ⟨(blk_cell BK620.1 0).trans rfl, (blk_cell BK620.1 1).trans rfl, (blk_cell BK620.1 2).trans rfl, (blk_cell BK620.1 3).trans rfl, (blk_cell BK620.1 4).trans rfl, (blk_cell BK620.1 5).trans rfl, (blk_cell BK620.1 6).trans rfl, (blk_cell BK620.1 7).trans rfl, (blk_cell BK594.1 0).trans rfl, (blk_cell BK594.1 1).trans rfl, (blk_cell BK594.1 2).trans rfl, (blk_cell BK594.1 3).trans rfl, (blk_cell BK594.1 4).trans rfl, (blk_cell BK594.1 5).trans rfl, (blk_cell BK594.1 6).trans rfl, (blk_cell BK594.1 7).trans rfl⟩ (fun hHeld => ?_)
 clear hK K
 refine norm_ (a' := ?_) ?_ ?_
 rotate_left
 · show Act.put _ (some 44) _ = _
   simp only [Act.put, List.setIfInBounds_toArray, List.set_cons_zero, List.set_cons_succ, i64_w, i32_w]
   rfl
 refine pure_ (i := 4) (N := some 45) (v := ?_) (a' := ?_) #[Yy,Yy,Yy,Yy,Yy] rfl rfl (by kernel_rfl) (fun _ _ _ h => h) (Or.inl ⟨by rfl, ?_⟩) ?_ ?_
 rotate_left
 · intro w'
   go_simp
   with_reducible rfl
 rotate_left
 · simp only [Act.put, List.setIfInBounds_toArray, List.set_cons_zero, List.set_cons_succ, i64_w, i32_w]
   rfl
 refine done_ (by kernel_rfl) ?_
 obtain ⟨hcz45_0, hcz45_1, hcz45_2, hcz45_3, hcz45_4, hcz45_5, hcz45_6, hcz45_7, hfz45_0, hfz45_1, hfz45_2, hfz45_3, hfz45_4, hfz45_5, hfz45_6, hfz45_7⟩ := cz8 BK620.1
 go_upto_region 14 with (first | ((with_reducible refine gate_callee (f := 13) rfl ?_); refine goesM (N := (some 48)) #[.agg #[.int .i64 t610, .int .i64 t611, .slice Ao24 t612.length co24, .int .i64 t615, .int .i64 t616, .int .i64 t617, .int .i64 t618, .int .i64 t619], .int .i64 1] Try.func13 ?_; (with_reducible refine (laws_markMachine.calls kj10 t610 t611 (fun k_ => some k_ = (.slice Ao24 t612.length co24 : Value).ownBlock) (.slice Ao24 t612.length co24) t612 t615 t616 t617 t618 t619 1 t637 t638 w _ ?side1 ?side2 A38.1).mono ?_); (case side1 => exact BL HB.1); (case side2 => exact R_tight rfl HO_621002.1); rintro e w46 ⟨rfl, hy0, hb, hkp⟩; refine ⟨_, rfl, ?_⟩; refine E7 (R_mono (ok' := fun k_ => some k_ ≠ (v622 : Value).ownBlock) (R_keptB ((R_apart' HO_4.1 (R_typed HO_621002.1) (by decide))) hkp (fun k_ hk_ hs_ => (hk_.2) hs_)) (fun k_ hk_ => hk_.1.1)) (R_mono (ok' := fun k_ => some k_ ≠ (v607 : Value).ownBlock) (R_keptB ((R_apart' HO_7.1 (R_typed HO_621002.1) (by decide))) hkp (fun k_ hk_ hs_ => (hk_.2) hs_)) (fun k_ hk_ => hk_.1.1)) (R_reok rfl hy0 (fun k_ e_ => HO_621002.1.1 k_ e_)) (blk_kept (PB BK594.1) hkp (fun hs_ => (fun e_ => (R_ne HO_621002.1 BK594.1 (by decide)) e_) hs_)) (blk_kept (PB BK620.1) hkp (fun hs_ => (fun e_ => (R_ne HO_621002.1 BK620.1 (by decide)) e_) hs_)) (R_mono (ok' := fun k_ => some k_ ≠ (.slice Ao24 t612.length co24 : Value).ownBlock) (R_keptB (HO630.1) hkp (fun k_ hk_ hs_ => (hk_.2) hs_)) (fun k_ hk_ => hk_.1.2)) (hb) ?_; clear HO_4 HO_7 HO_621002 BK594 BK620 HO630 HB; intro HO_4 HO_7 HO_621002 BK594 BK620 HO630 HB; (try clear hb); (try clear hkp); (try clear hy0)))
 (try simp only [Act.put, List.setIfInBounds_toArray, List.set_cons_zero, List.set_cons_succ])
 go_cut [61] (fun v61 wc => ∃ (kq : Nat) (x61_38 : Bool), v61 = .bool x61_38 /\ Aside0 (laws_FnExactLogOf.j1 kq t606 t609 t621 x61_38 a0_0 a0_1 l0_2 a0_3 a0_4 a0_5 a0_6 a0_7 = some true) /\ Aside0 (kq <= kj10) /\ Aside0 (Kd.R k66 66 wc w.heap.size (fun k_ => some k_ ≠ (v622 : Value).ownBlock) v607 t606) /\ Aside0 (Kd.R k66 66 wc w.heap.size (fun k_ => some k_ ≠ (v607 : Value).ownBlock) v622 t621) /\ Aside0 (Kd.R k98 98 wc w.heap.size (fun _ => True) (.slice Ao24 t612.length co24) t638) /\ Aside0 (wc.heap[gb594]? = some (.cells #[.int .i64 a0_0, .int .i64 a0_1, (.slice A0_2 l0_2.length c0_2), .int .i64 a0_3, .int .i64 a0_4, .int .i64 a0_5, .int .i64 a0_6, .int .i64 a0_7] 26 (0, 0))) /\ Aside0 (wc.heap[gb620]? = some (.cells #[.int .i64 t610, .int .i64 t611, (.slice Ao24 t612.length co24), .int .i64 t615, .int .i64 t616, .int .i64 t617, .int .i64 t618, .int .i64 t619] 35 (0, 0))) /\ Aside0 (Below w.heap.size w wc))
 case first =>
  have H := HC39.1
  clear HC39
  replace H := ifQ H; rcases H with ⟨c47, H⟩ | ⟨c47, H⟩
  · exact absurd H (by cases kj10 <;> simp [laws_FnExactLogOf.j1])
  have c47b0 := decide_eq_false c47
  clear c47
  (first | rw [c47b0] | (simp only [i64_w, i32_w]; rw [c47b0]) | skip)
  replace H := bindA H; obtain ⟨t639, A48, H⟩ := H
  replace H := ifT H (by cases kj10 <;> simp [laws_FnExactLogOf.j1]); obtain ⟨rfl, H⟩ := H
  have H' := Aside0.mk H
  clear H
  obtain ⟨Ao50, co50, eo50⟩ := R_slice HO_7.1
  subst eo50
  obtain ⟨Ao51, co51, eo51⟩ := R_slice HO_4.1
  subst eo51
  go_wp2_with (first | (go_at_call 18; (with_reducible refine (laws_eqLogEntryS.calls kj10 _ _ t621 _ _ t606 true _ ?side1 ?side2 ?side3 ?side4 A48.1).mono ?_); (case side1 => exact CB (R_reads' HO_7.1).2.2); (case side2 => exact (R_reads' HO_7.1).2.1); (case side3 => exact CB (R_reads' HO_4.1).2.2); (case side4 => exact (R_reads' HO_4.1).2.1); rintro e w52 ⟨rfl, hb⟩; refine E7 (rB HO_4.1 hb) (rB HO_7.1 hb) (rB HO_621002.1 hb) (rB HO630.1 hb) (bB BK594.1 hb) (bB BK620.1 hb) (bS HB.1 hb) ?_; clear HO_4 HO_7 HO_621002 HO630 BK594 BK620 HB; intro HO_4 HO_7 HO_621002 HO630 BK594 BK620 HB; (try clear hb)))
  go_meet
  case rel => exact ⟨_, ((t624 != t609)), RG, H', ⟨by have := HJ10.1; first | omega | exact Nat.le_refl _⟩, ⟨PR HO_4.1⟩, ⟨PR HO_7.1⟩, ⟨RPE (R_mono HO_621002.1 (fun _ hk => trivial))⟩, ⟨PB BK594.1⟩, ⟨PB BK620.1⟩, ⟨BL HB.1⟩⟩
 clear HC39
 clear hcz45_0 hcz45_1 hcz45_2 hcz45_3 hcz45_4 hcz45_5 hcz45_6 hcz45_7 hfz45_0 hfz45_1 hfz45_2 hfz45_3 hfz45_4 hfz45_5 hfz45_6 hfz45_7
 obtain ⟨kq, x61_38, rfl, HA, HJ38, HO_4, HO_7, HO_621002, BK594, BK620, HB⟩ := hcut
 have hl621002_38 := (R_reads' HO_621002.1).1
 rw [hl621002_38] at HO_621002
 (try simp only [hl621002_38])
 (try simp only [hl621002_38] at BK594)
 (try simp only [hl621002_38] at BK620)
 (try simp only [hl621002_38] at HO_4)
 (try simp only [hl621002_38] at HO_7)
 cases kq with
 | zero => exact absurd HA.1 (by simp [laws_FnExactLogOf.j1])
 | succ kj38 => ?_
 have H := HA.1
 clear HA
 simp only [laws_FnExactLogOf.j1] at H
 replace H := ifF H (by simp); obtain ⟨rfl, H⟩ := H
 replace H := bindA H; obtain ⟨⟨t640, t641⟩, A57, H⟩ := H
 dsimp only at H
 replace H := bindA H; obtain ⟨t642, A58, H⟩ := H
 replace H := ifQ H; rcases H with ⟨c59, H⟩ | ⟨c59, H⟩
 · exact absurd H (by simp)
 have c59b0 := decide_eq_false c59
 clear c59
 first | replace H := ifP H | replace H := ifPf H
 obtain ⟨c62, H⟩ := H
 have c62b0 := beq_iff_eq.mpr c62
 have c62b1 := bne_eq_false_iff_eq.mpr c62
 clear c62
 replace H := bindA H; obtain ⟨⟨t643, t644, t645, t648, t649, t650, t651, t652⟩, A63, H⟩ := H
 dsimp only at H
 replace H := bindA H; obtain ⟨⟨t653, t656⟩, A64, H⟩ := H
 dsimp only at H
 have HC65 := Aside0.mk H
 clear H
 obtain ⟨Ao66, co66, eo66⟩ := R_slice HO_7.1
 subst eo66
 go_upto_region 25 with (first | ((with_reducible refine gate_callee (f := 19) rfl ?_); refine goesM (N := (some 64)) #[.slice Ao66 t621.length co66, .int .i64 1] Try.func19 ?_; (with_reducible refine (laws_markLogEntryS.calls kj38 (fun k_ => some k_ = (.slice Ao66 t621.length co66 : Value).ownBlock) (.slice Ao66 t621.length co66) t621 1 t640 t641 w _ ?side1 ?side2 A57.1).mono ?_); (case side1 => exact BL HB.1); (case side2 => exact R_tight rfl HO_7.1); rintro e w67 ⟨rfl, hy0, hb, hkp⟩; refine ⟨_, rfl, ?_⟩; refine E6 (R_mono (ok' := fun k_ => some k_ ≠ (.slice Ao66 t621.length co66 : Value).ownBlock) (R_keptB (HO_4.1) hkp (fun k_ hk_ hs_ => (hk_) hs_)) (fun k_ hk_ => hk_.1)) (R_reok rfl hy0 (fun k_ e_ => HO_7.1.1 k_ e_)) (R_mono (ok' := fun k_ => True) (R_keptB ((R_apart' HO_621002.1 (R_typed HO_7.1) (by decide))) hkp (fun k_ hk_ hs_ => (hk_.2) hs_)) (fun k_ hk_ => trivial)) (blk_kept (PB BK594.1) hkp (fun hs_ => (fun e_ => (R_ne HO_7.1 BK594.1 (by decide)) e_) hs_)) (blk_kept (PB BK620.1) hkp (fun hs_ => (fun e_ => (R_ne HO_7.1 BK620.1 (by decide)) e_) hs_)) (hb) ?_; clear HO_4 HO_7 HO_621002 BK594 BK620 HB; intro HO_4 HO_7 HO_621002 BK594 BK620 HB; (try clear hb); (try clear hkp); (try clear hy0)) | ((with_reducible refine gate_callee (f := 20) rfl ?_); refine goesL_ (some 67) rfl rfl Try.func20 (by kernel_rfl) rfl #[.slice Ao66 t641.length co66, .int .i64 1] rfl (by (try simp only [List.map_toArray, List.map_cons, List.map_nil]); first | done | (rw [show t641.length = t621.length from (R_reads' HO_7.1).1.symm] <;> rfl) | rfl | (simp only [List.length_drop, List.length_take]; rfl)) ?_; (with_reducible refine (laws_heldLogEntryS.calls kj38 _ _ t641 1 t642 _ ?side1 ?side2 A58.1).mono ?_); (case side1 => exact CB (R_reads' HO_7.1).2.2); (case side2 => rw [show t641.length = t621.length from (R_reads' HO_7.1).1.symm]; exact (R_reads' HO_7.1).2.1); rintro e w' ⟨rfl, ⟨nd, rfl⟩⟩; refine ⟨_, rfl, ?_⟩; have hnb68 := NB594_620.1; have hnc68 := NB620_594.1; obtain ⟨hcz69_0, hcz69_1, hcz69_2, hcz69_3, hcz69_4, hcz69_5, hcz69_6, hcz69_7, hfz69_0, hfz69_1, hfz69_2, hfz69_3, hfz69_4, hfz69_5, hfz69_6, hfz69_7⟩ := cz8 BK594.1) | ((with_reducible refine gate_callee (f := 9) rfl ?_); refine goesM (N := (some 75)) #[.agg #[.int .i64 a0_0, .int .i64 a0_1, .slice A0_2 l0_2.length c0_2, .int .i64 a0_3, .int .i64 a0_4, .int .i64 a0_5, .int .i64 a0_6, .int .i64 a0_7]] Try.func9 ?_; (with_reducible refine (laws_toMachine.calls kj38 a0_0 a0_1 _ _ l0_2 a0_3 a0_4 a0_5 a0_6 a0_7 t643 t644 t645 t648 t649 t650 t651 t652 _ ?side1 ?side2 A63.1).mono ?_); (case side1 => repeat (first | exact (C_below HR0_2.1 (BL HB.1)) | (with_reducible refine C_alloc ?_ _) | (with_reducible refine C_drewN ?_ _) | (with_reducible refine C_drew ?_))); (case side2 => exact HC0_2.1); rintro e w70 ⟨v646, rfl, ho0, hb⟩; refine ⟨_, rfl, ?_⟩; refine E7 (rB HO_4.1 hb) (rB HO_7.1 hb) (R_elder' (PR HO_621002.1) (R_base ho0) hb) (R_lower (R_new' ho0 (R_lt (PR HO_621002.1))) (bZ HB.1)) (bB BK594.1 hb) (bB BK620.1 hb) (bS HB.1 hb) ?_; clear HO_4 HO_7 HO_621002 BK594 BK620 HB; intro HO_4 HO_7 HO_621002 HO647 BK594 BK620 HB; (try clear hb); (try clear ho0); obtain ⟨Ao71, co71, eo71⟩ := R_slice HO647.1; subst eo71) | ((with_reducible refine gate_callee (f := 17) rfl ?_); refine goesM (N := (some 76)) #[.agg #[.int .i64 t643, .int .i64 t644, .slice Ao71 t645.length co71, .int .i64 t648, .int .i64 t649, .int .i64 t650, .int .i64 t651, .int .i64 t652]] Try.func17 ?_; (with_reducible refine (impl_LogOf.calls kj38 t643 t644 _ _ t645 t648 t649 t650 t651 t652 t653 t656 _ ?side1 ?side2 A64.1).mono ?_); (case side1 => exact CB (R_reads' HO647.1).2.2); (case side2 => exact (R_reads' HO647.1).2.1); rintro e w72 ⟨v654, rfl, ho0, hb⟩; refine ⟨_, rfl, ?_⟩; refine E8 (R_elder' (PR HO_4.1) (R_base ho0) hb) (R_elder' (PR HO_7.1) (R_base ho0) hb) (rB HO_621002.1 hb) (rB HO647.1 hb) (R_lower (R_new' (R_new' ho0 (R_lt (PR HO_4.1))) (R_lt (PR HO_7.1))) (bZ HB.1)) (bB BK594.1 hb) (bB BK620.1 hb) (bS HB.1 hb) ?_; clear HO_4 HO_7 HO_621002 HO647 BK594 BK620 HB; intro HO_4 HO_7 HO_621002 HO647 HO655 BK594 BK620 HB; (try clear hb); (try clear ho0)))
 (try simp only [Act.put, List.setIfInBounds_toArray, List.set_cons_zero, List.set_cons_succ])
 go_cut [87] (fun v87 wc => ∃ (kq : Nat) (x87_64 : Bool), v87 = .bool x87_64 /\ Aside0 (laws_FnExactLogOf.j2 kq t641 t640 x87_64 = some true) /\ Aside0 (kq <= kj38) /\ Aside0 (Kd.R k66 66 wc w.heap.size (fun _ => True) (.slice Ao66 t621.length co66) t641) /\ Aside0 (Kd.R k98 98 wc w.heap.size (fun _ => True) (.slice Ao24 t638.length co24) t638) /\ Aside0 (wc.heap[gb594]? = some (.cells #[.int .i64 a0_0, .int .i64 a0_1, (.slice A0_2 l0_2.length c0_2), .int .i64 a0_3, .int .i64 a0_4, .int .i64 a0_5, .int .i64 a0_6, .int .i64 a0_7] 26 (0, 0))) /\ Aside0 (wc.heap[gb620]? = some (.cells #[.int .i64 t610, .int .i64 t611, (.slice Ao24 t638.length co24), .int .i64 t615, .int .i64 t616, .int .i64 t617, .int .i64 t618, .int .i64 t619] 35 (0, 0))) /\ Aside0 (Below w.heap.size w wc))
 case first =>
  have H := HC65.1
  clear HC65
  replace H := bindA H; obtain ⟨t657, A73, H⟩ := H
  replace H := ifT H (by cases kj38 <;> simp [laws_FnExactLogOf.j2]); obtain ⟨rfl, H⟩ := H
  have H' := Aside0.mk H
  clear H
  obtain ⟨Ao75, co75, eo75⟩ := R_slice HO655.1
  subst eo75
  obtain ⟨Ao76, co76, eo76⟩ := R_slice HO_4.1
  subst eo76
  go_wp2_with (first | ((with_reducible refine gate_callee (f := 18) rfl ?_); refine goesM (N := (some 81)) #[.slice Ao75 t653.length co75, .slice Ao76 t606.length co76] Try.func18 ?_; (with_reducible refine (laws_eqLogEntryS.calls kj38 _ _ t653 _ _ t606 true _ ?side1 ?side2 ?side3 ?side4 A73.1).mono ?_); (case side1 => exact CB (R_reads' HO655.1).2.2); (case side2 => exact (R_reads' HO655.1).2.1); (case side3 => exact CB (R_reads' HO_4.1).2.2); (case side4 => exact (R_reads' HO_4.1).2.1); rintro e w77 ⟨rfl, hb⟩; refine ⟨_, rfl, ?_⟩; refine E8 (rB HO_4.1 hb) (rB HO_7.1 hb) (rB HO_621002.1 hb) (rB HO647.1 hb) (rB HO655.1 hb) (bB BK594.1 hb) (bB BK620.1 hb) (bS HB.1 hb) ?_; clear HO_4 HO_7 HO_621002 HO647 HO655 BK594 BK620 HB; intro HO_4 HO_7 HO_621002 HO647 HO655 BK594 BK620 HB; (try clear hb)))
  go_meet
  case rel => exact ⟨_, ((t656 != t609)), RG, H', ⟨by have := HJ10.1; have := HJ38.1; first | omega | exact Nat.le_refl _⟩, ⟨by (try simp only [hl621002_38]); (with_reducible repeat (first | apply R_alloc | apply R_drewN | apply R_drew)); exact R_mono HO_7.1 (fun _ hk => trivial)⟩, ⟨by (try simp only [hl621002_38]); (with_reducible repeat (first | apply R_alloc | apply R_drewN | apply R_drew)); exact R_mono HO_621002.1 (fun _ hk => trivial)⟩, ⟨PB1 BK594.1 hl621002_38⟩, ⟨PB1 BK620.1 hl621002_38⟩, ⟨BL HB.1⟩⟩
 clear HC65
 clear c59b0 c62b0 c62b1 hcz69_0 hcz69_1 hcz69_2 hcz69_3 hcz69_4 hcz69_5 hcz69_6 hcz69_7 hfz69_0 hfz69_1 hfz69_2 hfz69_3 hfz69_4 hfz69_5 hfz69_6 hfz69_7
 obtain ⟨kq, x87_64, rfl, HA, HJ64, HO_7, HO_621002, BK594, BK620, HB⟩ := hcut
 have hl7_64 := (R_reads' HO_7.1).1
 rw [hl7_64] at HO_7
 (try simp only [hl7_64])
 (try simp only [hl7_64] at BK594)
 (try simp only [hl7_64] at BK620)
 (try simp only [hl7_64] at HO_621002)
 cases kq with
 | zero => exact absurd HA.1 (by simp [laws_FnExactLogOf.j2])
 | succ kj64 => ?_
 have H := HA.1
 clear HA
 simp only [laws_FnExactLogOf.j2] at H
 replace H := ifF H (by simp); obtain ⟨rfl, H⟩ := H
 replace H := bindA H; obtain ⟨t658, A82, H⟩ := H
 replace H := ifQ H; rcases H with ⟨c83, H⟩ | ⟨c83, H⟩
 · exact absurd H (by simp)
 have c83b0 := decide_eq_false c83
 clear c83
 first | replace H := ifP H | replace H := ifPf H
 obtain ⟨c84, H⟩ := H
 have c84b0 := beq_iff_eq.mpr c84
 have c84b1 := bne_eq_false_iff_eq.mpr c84
 clear c84
 first | (obtain rfl := Option.some.inj H) | clear H
 go_wp2_with (first | ((with_reducible refine gate_callee (f := 20) rfl ?_); refine goesM (N := (some 90)) #[.slice Ao66 t641.length co66, .int .i64 1] Try.func20 ?_; (with_reducible refine (laws_heldLogEntryS.calls kj64 _ _ t641 1 t658 _ ?side1 ?side2 A82.1).mono ?_); (case side1 => exact CB (R_reads' HO_7.1).2.2); (case side2 => exact (R_reads' HO_7.1).2.1); rintro e w' ⟨rfl, ⟨nd, rfl⟩⟩; refine ⟨_, rfl, ?_⟩))
 go_ret
 exact ⟨RF, BL HB.1⟩
end Go.Proofs.Ythnehlphifegaaa.P
