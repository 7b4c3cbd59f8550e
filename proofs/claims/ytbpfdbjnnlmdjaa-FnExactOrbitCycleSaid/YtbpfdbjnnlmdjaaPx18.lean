-- PRINTED by print.py (a twelfth state) out of the translation. Not trusted: Lean checks it.
import Derived.Test.YtbpfdbjnnlmdjaaPx0
import Derived.Test.YtbpfdbjnnlmdjaaPx1
import Derived.Test.YtbpfdbjnnlmdjaaPx3
import Derived.Test.YtbpfdbjnnlmdjaaPx5
import Derived.Test.YtbpfdbjnnlmdjaaPx9
import Derived.Test.YtbpfdbjnnlmdjaaPx13
namespace Go.Proofs.Ytbpfdbjnnlmdjaa.P
open Go.RowKit Go.Proofs.YtbpfdbjnnlmdjaaW.PrintWords Go.Proofs.YtbpfdbjnnlmdjaaW.PrintLast Go.Proofs.YtbpfdbjnnlmdjaaW.PrintMore
attribute [local go_sem] max2_int min2_int max_two min_two max_three min_three max_four min_four   -- for this text's walks alone
set_option linter.unusedVariables false
set_option linter.unusedSimpArgs false

/-! ### spec_OrbitCycle: function 20 -/
open Kd
def spec_OrbitCycle.f (k : Nat) (a0_0 : Int) (a0_1 : Int) (l0_2 : List (S83)) (a1 : Int) : Option (Int × Bool) := (spec_reHas.f k a0_0 a0_1 l0_2 a1).bind fun t658 => (if t658 = true then ((spec_reOrbit.f k a0_0 a0_1 l0_2 a1).bind fun bt659 => (some (wrap64 ((bt659.1.length : Int) - bt659.2), true))) else (some (0, false)))
theorem spec_OrbitCycle.mono : ∀ a0 a1 a2 a3 k, LeO (spec_OrbitCycle.f k a0 a1 a2 a3) (spec_OrbitCycle.f (k + 1) a0 a1 a2 a3) := by
 intro a0 a1 a2 a3 k
 unfold spec_OrbitCycle.f
 repeat' first
  | (with_reducible exact spec_reHas.mono _ _ _ _ _)
  | (with_reducible exact spec_reOrbit.mono _ _ _ _ _)
  | (with_reducible exact LeO.refl _)
  | (with_reducible exact LeO.none _)
  | (with_reducible refine LeO.ite ?_ ?_)
  | (with_reducible refine LeO.bind ?_ (fun _ => ?_))
  | exact spec_reHas.mono _ _ _ _ _
  | exact spec_reOrbit.mono _ _ _ _ _
  | exact LeO.none _
  | refine LeO.ite ?_ ?_
  | refine LeO.bind ?_ (fun _ => ?_)
set_option maxHeartbeats 8000000 in
set_option maxRecDepth 100000 in
theorem spec_OrbitCycle.calls (k : Nat) (a0_0 : Int) (a0_1 : Int) (A0_2 : Option Addr) (c0_2 : Nat) (l0_2 : List (S83)) (a1 : Int) (r1 : Int) (r2 : Bool) (w : World) (hr0_2 : Kd.C k83 w A0_2 l0_2.length l0_2) (hc0_2 : l0_2.length <= c0_2) (h : spec_OrbitCycle.f k a0_0 a0_1 l0_2 a1 = some (r1, r2)) :
 Calls Try.prog 20 #[.agg #[.int .i64 a0_0, .int .i64 a0_1, .slice A0_2 l0_2.length c0_2], .int .i64 a1] w fun e w' => e = .returned (.tuple #[.int .i64 r1, .bool r2]) /\ Below w.heap.size w w' := by
 have hu30 := Try.underlying30
 have HR0_2 := Aside0.mk hr0_2
 have HC0_2 := Aside0.mk hc0_2
 clear hr0_2 hc0_2
 have HB := Aside0.mk (Below.refl w.heap.size w)
 have H := h
 clear h
 unfold spec_OrbitCycle.f at H
 replace H := bindA H; obtain ⟨t658, A3, H⟩ := H
 replace H := ifX H; rcases H with ⟨rfl, H⟩ | ⟨rfl, H⟩
 · replace H := bindA H; obtain ⟨⟨t659, t662⟩, A5, H⟩ := H
   dsimp only at H
   simp only [Option.some.injEq, Prod.mk.injEq] at H
   obtain ⟨rfl, rfl⟩ := H
   go_enter Try.func20, Try.ntmps20
   go_wp2_with (first | ((with_reducible refine gate_dst (N := 2) rfl ?_); refine boxE (cs := #[.int .i64 a0_0, .int .i64 a0_1, .slice A0_2 l0_2.length c0_2]) (t := 30) ?_; intro gb657 hg w6 hbox hb; refine E4b HB.1 hg hbox hb ?_; clear HB; intro HB BK657 GW657 GE657; clear hb hbox hg; obtain ⟨hcz7_0, hcz7_1, hcz7_2, hfz7_0, hfz7_1, hfz7_2⟩ := cz3 BK657.1) | ((with_reducible refine gate_callee (f := 42) rfl ?_); refine goesM (N := (some 10)) #[.agg #[.int .i64 a0_0, .int .i64 a0_1, .slice A0_2 l0_2.length c0_2], .int .i64 a1] Try.func42 ?_; (with_reducible refine (spec_reHas.calls k a0_0 a0_1 _ _ l0_2 a1 true _ ?side1 ?side2 A3.1).mono ?_); (case side1 => exact CB (C_below HR0_2.1 HB.1)); (case side2 => exact HC0_2.1); rintro e w8 ⟨rfl, hb⟩; refine ⟨_, rfl, ?_⟩; refine E2 (bB BK657.1 hb) (bS HB.1 hb) ?_; clear BK657 HB; intro BK657 HB; (try clear hb); obtain ⟨hcz9_0, hcz9_1, hcz9_2, hfz9_0, hfz9_1, hfz9_2⟩ := cz3 BK657.1) | ((with_reducible refine gate_callee (f := 53) rfl ?_); refine goesM (N := (some 15)) #[.agg #[.int .i64 a0_0, .int .i64 a0_1, .slice A0_2 l0_2.length c0_2], .int .i64 a1] Try.func53 ?_; (with_reducible refine (spec_reOrbit.calls k a0_0 a0_1 _ _ l0_2 a1 t659 t662 _ ?side1 ?side2 A5.1).mono ?_); (case side1 => exact CB (C_below HR0_2.1 HB.1)); (case side2 => exact HC0_2.1); rintro e w10 ⟨v660, rfl, ho0, hb⟩; refine ⟨_, rfl, ?_⟩; refine E3 (R_lower ho0 (bZ HB.1)) (bB BK657.1 hb) (bS HB.1 hb) ?_; clear BK657 HB; intro HO661 BK657 HB; (try clear hb); (try clear ho0); obtain ⟨Ao11, co11, eo11⟩ := R_slice HO661.1; subst eo11))
   go_ret2
   exact ⟨RF, BL HB.1⟩
 simp only [Option.some.injEq, Prod.mk.injEq] at H
 obtain ⟨rfl, rfl⟩ := H
 go_enter Try.func20, Try.ntmps20
 go_wp2_with (first | ((with_reducible refine gate_dst (N := 2) rfl ?_); refine boxE (cs := #[.int .i64 a0_0, .int .i64 a0_1, .slice A0_2 l0_2.length c0_2]) (t := 30) ?_; intro gb657 hg w12 hbox hb; refine E4b HB.1 hg hbox hb ?_; clear HB; intro HB BK657 GW657 GE657; clear hb hbox hg; obtain ⟨hcz13_0, hcz13_1, hcz13_2, hfz13_0, hfz13_1, hfz13_2⟩ := cz3 BK657.1) | ((with_reducible refine gate_callee (f := 42) rfl ?_); refine goesM (N := (some 10)) #[.agg #[.int .i64 a0_0, .int .i64 a0_1, .slice A0_2 l0_2.length c0_2], .int .i64 a1] Try.func42 ?_; (with_reducible refine (spec_reHas.calls k a0_0 a0_1 _ _ l0_2 a1 false _ ?side1 ?side2 A3.1).mono ?_); (case side1 => exact CB (C_below HR0_2.1 HB.1)); (case side2 => exact HC0_2.1); rintro e w14 ⟨rfl, hb⟩; refine ⟨_, rfl, ?_⟩; refine E2 (bB BK657.1 hb) (bS HB.1 hb) ?_; clear BK657 HB; intro BK657 HB; (try clear hb)))
 go_ret2
 exact ⟨RF, BL HB.1⟩

/-! ### impl_OrbitCycle: function 21 -/
open Kd
def impl_OrbitCycle.f (k : Nat) (a0_0 : Int) (a0_1 : Int) (l0_2 : List (S83)) (a1 : Int) : Option (Int × Bool) := (impl_fewUnits.f k a0_0 a0_1 l0_2).bind fun t685 => (if t685 = true then ((impl_validEntry.f k a0_0 a0_1 l0_2 a1).bind fun t686 => (if t686 = true then ((impl_orbitOf.f k a0_0 a0_1 l0_2 a1).bind fun bt687 => (some (wrap64 ((bt687.1.length : Int) - bt687.2), true))) else (some (0, false)))) else (some (0, false)))
theorem impl_OrbitCycle.mono : ∀ a0 a1 a2 a3 k, LeO (impl_OrbitCycle.f k a0 a1 a2 a3) (impl_OrbitCycle.f (k + 1) a0 a1 a2 a3) := by
 intro a0 a1 a2 a3 k
 unfold impl_OrbitCycle.f
 repeat' first
  | (with_reducible exact impl_fewUnits.mono _ _ _ _)
  | (with_reducible exact impl_orbitOf.mono _ _ _ _ _)
  | (with_reducible exact impl_validEntry.mono _ _ _ _ _)
  | (with_reducible exact LeO.refl _)
  | (with_reducible exact LeO.none _)
  | (with_reducible refine LeO.ite ?_ ?_)
  | (with_reducible refine LeO.bind ?_ (fun _ => ?_))
  | exact impl_fewUnits.mono _ _ _ _
  | exact impl_orbitOf.mono _ _ _ _ _
  | exact impl_validEntry.mono _ _ _ _ _
  | exact LeO.none _
  | refine LeO.ite ?_ ?_
  | refine LeO.bind ?_ (fun _ => ?_)
set_option maxHeartbeats 8000000 in
set_option maxRecDepth 100000 in
theorem impl_OrbitCycle.calls (k : Nat) (a0_0 : Int) (a0_1 : Int) (A0_2 : Option Addr) (c0_2 : Nat) (l0_2 : List (S83)) (a1 : Int) (r1 : Int) (r2 : Bool) (w : World) (hr0_2 : Kd.C k83 w A0_2 l0_2.length l0_2) (hc0_2 : l0_2.length <= c0_2) (h : impl_OrbitCycle.f k a0_0 a0_1 l0_2 a1 = some (r1, r2)) :
 Calls Try.prog 21 #[.agg #[.int .i64 a0_0, .int .i64 a0_1, .slice A0_2 l0_2.length c0_2], .int .i64 a1] w fun e w' => e = .returned (.tuple #[.int .i64 r1, .bool r2]) /\ Below w.heap.size w w' := by
 have hu30 := Try.underlying30
 have HR0_2 := Aside0.mk hr0_2
 have HC0_2 := Aside0.mk hc0_2
 clear hr0_2 hc0_2
 have HB := Aside0.mk (Below.refl w.heap.size w)
 have H := h
 clear h
 unfold impl_OrbitCycle.f at H
 replace H := bindA H; obtain ⟨t685, A3, H⟩ := H
 replace H := ifX H; rcases H with ⟨rfl, H⟩ | ⟨rfl, H⟩
 · replace H := bindA H; obtain ⟨t686, A5, H⟩ := H
   replace H := ifX H; rcases H with ⟨rfl, H⟩ | ⟨rfl, H⟩
   · replace H := bindA H; obtain ⟨⟨t687, t690⟩, A7, H⟩ := H
     dsimp only at H
     simp only [Option.some.injEq, Prod.mk.injEq] at H
     obtain ⟨rfl, rfl⟩ := H
     go_enter Try.func21, Try.ntmps21
     go_wp2_with (first | ((with_reducible refine gate_dst (N := 2) rfl ?_); refine boxE (cs := #[.int .i64 a0_0, .int .i64 a0_1, .slice A0_2 l0_2.length c0_2]) (t := 30) ?_; intro gb684 hg w8 hbox hb; refine E4b HB.1 hg hbox hb ?_; clear HB; intro HB BK684 GW684 GE684; clear hb hbox hg; obtain ⟨hcz9_0, hcz9_1, hcz9_2, hfz9_0, hfz9_1, hfz9_2⟩ := cz3 BK684.1) | ((with_reducible refine gate_callee (f := 46) rfl ?_); refine goesM (N := (some 9)) #[.agg #[.int .i64 a0_0, .int .i64 a0_1, .slice A0_2 l0_2.length c0_2]] Try.func46 ?_; (with_reducible refine (impl_fewUnits.calls k a0_0 a0_1 _ _ l0_2 true _ ?side1 ?side2 A3.1).mono ?_); (case side1 => exact CB (C_below HR0_2.1 HB.1)); (case side2 => exact HC0_2.1); rintro e w10 ⟨rfl, hb⟩; refine ⟨_, rfl, ?_⟩; refine E2 (bB BK684.1 hb) (bS HB.1 hb) ?_; clear BK684 HB; intro BK684 HB; (try clear hb); obtain ⟨hcz11_0, hcz11_1, hcz11_2, hfz11_0, hfz11_1, hfz11_2⟩ := cz3 BK684.1) | (go_at_call 47; (with_reducible refine (impl_validEntry.calls k a0_0 a0_1 _ _ l0_2 a1 true _ ?side1 ?side2 A5.1).mono ?_); (case side1 => exact CB (C_below HR0_2.1 HB.1)); (case side2 => exact HC0_2.1); rintro e w12 ⟨rfl, hb⟩; refine E2 (bB BK684.1 hb) (bS HB.1 hb) ?_; clear BK684 HB; intro BK684 HB; (try clear hb); obtain ⟨hcz13_0, hcz13_1, hcz13_2, hfz13_0, hfz13_1, hfz13_2⟩ := cz3 BK684.1) | ((with_reducible refine gate_callee (f := 54) rfl ?_); refine goesM (N := (some 20)) #[.agg #[.int .i64 a0_0, .int .i64 a0_1, .slice A0_2 l0_2.length c0_2], .int .i64 a1] Try.func54 ?_; (with_reducible refine (impl_orbitOf.calls k a0_0 a0_1 _ _ l0_2 a1 t687 t690 _ ?side1 ?side2 A7.1).mono ?_); (case side1 => exact CB (C_below HR0_2.1 HB.1)); (case side2 => exact HC0_2.1); rintro e w14 ⟨v688, rfl, ho0, hb⟩; refine ⟨_, rfl, ?_⟩; refine E3 (R_lower ho0 (bZ HB.1)) (bB BK684.1 hb) (bS HB.1 hb) ?_; clear BK684 HB; intro HO689 BK684 HB; (try clear hb); (try clear ho0); obtain ⟨Ao15, co15, eo15⟩ := R_slice HO689.1; subst eo15))
     go_ret2
     exact ⟨RF, BL HB.1⟩
   simp only [Option.some.injEq, Prod.mk.injEq] at H
   obtain ⟨rfl, rfl⟩ := H
   go_enter Try.func21, Try.ntmps21
   go_wp2_with (first | ((with_reducible refine gate_dst (N := 2) rfl ?_); refine boxE (cs := #[.int .i64 a0_0, .int .i64 a0_1, .slice A0_2 l0_2.length c0_2]) (t := 30) ?_; intro gb684 hg w16 hbox hb; refine E4b HB.1 hg hbox hb ?_; clear HB; intro HB BK684 GW684 GE684; clear hb hbox hg; obtain ⟨hcz17_0, hcz17_1, hcz17_2, hfz17_0, hfz17_1, hfz17_2⟩ := cz3 BK684.1) | ((with_reducible refine gate_callee (f := 46) rfl ?_); refine goesM (N := (some 9)) #[.agg #[.int .i64 a0_0, .int .i64 a0_1, .slice A0_2 l0_2.length c0_2]] Try.func46 ?_; (with_reducible refine (impl_fewUnits.calls k a0_0 a0_1 _ _ l0_2 true _ ?side1 ?side2 A3.1).mono ?_); (case side1 => exact CB (C_below HR0_2.1 HB.1)); (case side2 => exact HC0_2.1); rintro e w18 ⟨rfl, hb⟩; refine ⟨_, rfl, ?_⟩; refine E2 (bB BK684.1 hb) (bS HB.1 hb) ?_; clear BK684 HB; intro BK684 HB; (try clear hb); obtain ⟨hcz19_0, hcz19_1, hcz19_2, hfz19_0, hfz19_1, hfz19_2⟩ := cz3 BK684.1) | (go_at_call 47; (with_reducible refine (impl_validEntry.calls k a0_0 a0_1 _ _ l0_2 a1 false _ ?side1 ?side2 A5.1).mono ?_); (case side1 => exact CB (C_below HR0_2.1 HB.1)); (case side2 => exact HC0_2.1); rintro e w20 ⟨rfl, hb⟩; refine E2 (bB BK684.1 hb) (bS HB.1 hb) ?_; clear BK684 HB; intro BK684 HB; (try clear hb)))
   go_ret2
   exact ⟨RF, BL HB.1⟩
 simp only [Option.some.injEq, Prod.mk.injEq] at H
 obtain ⟨rfl, rfl⟩ := H
 go_enter Try.func21, Try.ntmps21
 go_wp2_with (first | ((with_reducible refine gate_dst (N := 2) rfl ?_); refine boxE (cs := #[.int .i64 a0_0, .int .i64 a0_1, .slice A0_2 l0_2.length c0_2]) (t := 30) ?_; intro gb684 hg w21 hbox hb; refine E4b HB.1 hg hbox hb ?_; clear HB; intro HB BK684 GW684 GE684; clear hb hbox hg; obtain ⟨hcz22_0, hcz22_1, hcz22_2, hfz22_0, hfz22_1, hfz22_2⟩ := cz3 BK684.1) | ((with_reducible refine gate_callee (f := 46) rfl ?_); refine goesM (N := (some 9)) #[.agg #[.int .i64 a0_0, .int .i64 a0_1, .slice A0_2 l0_2.length c0_2]] Try.func46 ?_; (with_reducible refine (impl_fewUnits.calls k a0_0 a0_1 _ _ l0_2 false _ ?side1 ?side2 A3.1).mono ?_); (case side1 => exact CB (C_below HR0_2.1 HB.1)); (case side2 => exact HC0_2.1); rintro e w23 ⟨rfl, hb⟩; refine ⟨_, rfl, ?_⟩; refine E2 (bB BK684.1 hb) (bS HB.1 hb) ?_; clear BK684 HB; intro BK684 HB; (try clear hb)))
 go_ret2
 exact ⟨RF, BL HB.1⟩

/-! ### laws_FnExactOrbitCycle: function 5 -/
open Kd
def laws_FnExactOrbitCycle.j0 : Nat -> Bool -> Int -> Int -> List (S85) -> Int -> Int -> List (S83) -> Option (Bool)
 | 0, _, _, _, _, _, _, _ => none
 | k + 1, x38, x692000, x692001, x692002, x706000, x706001, x706002 => if x38 = true then (some false) else ((laws_toBoard.f k x692000 x692001 x692002).bind fun bt708 => ((laws_eqBoard.f k x706000 x706001 x706002 bt708.1 bt708.2.1 bt708.2.2).bind fun t713 => (if t713 = true then (some true) else (some false))))
def laws_FnExactOrbitCycle.f (k : Nat) (a0_0 : Int) (a0_1 : Int) (l0_2 : List (S85)) (a1 : Int) : Option (Bool) := (laws_szBoard.f a0_0 a0_1 l0_2 1048576).bind fun t692 => (if t692 < 0 then (some true) else ((laws_toBoard.f k a0_0 a0_1 l0_2).bind fun bt693 => ((spec_OrbitCycle.f k bt693.1 bt693.2.1 bt693.2.2 a1).bind fun bt698 => ((laws_toBoard.f k a0_0 a0_1 l0_2).bind fun bt700 => ((impl_OrbitCycle.f k bt700.1 bt700.2.1 bt700.2.2 a1).bind fun bt706 => (if bt706.1 = bt698.1 then (laws_FnExactOrbitCycle.j0 k (bt706.2 != bt698.2) a0_0 a0_1 l0_2 bt700.1 bt700.2.1 bt700.2.2) else (laws_FnExactOrbitCycle.j0 k true a0_0 a0_1 l0_2 bt700.1 bt700.2.1 bt700.2.2)))))))
theorem laws_FnExactOrbitCycle.mono_l : ∀ k, (∀ y0 y1 y2 y3 y4 y5 y6, LeO (laws_FnExactOrbitCycle.j0 k y0 y1 y2 y3 y4 y5 y6) (laws_FnExactOrbitCycle.j0 (k + 1) y0 y1 y2 y3 y4 y5 y6))
 | 0 => fun _ _ _ _ _ _ _ r h => by simp [laws_FnExactOrbitCycle.j0] at h
 | k + 1 => by
  have ih0 := laws_FnExactOrbitCycle.mono_l k
  intros
  first | unfold laws_FnExactOrbitCycle.j0
  repeat' first | (with_reducible first | apply ih0 | apply impl_OrbitCycle.mono | apply laws_eqBoard.mono | apply laws_toBoard.mono | apply spec_OrbitCycle.mono | exact LeO.refl _ | exact LeO.none _ | refine LeO.ite ?_ ?_ | refine LeO.bind ?_ (fun _ => ?_)) | exact LeO.none _ | refine LeO.ite ?_ ?_ | refine LeO.bind ?_ (fun _ => ?_)
theorem laws_FnExactOrbitCycle.mono : ∀ a0 a1 a2 a3 k, LeO (laws_FnExactOrbitCycle.f k a0 a1 a2 a3) (laws_FnExactOrbitCycle.f (k + 1) a0 a1 a2 a3) := by
 intro a0 a1 a2 a3 k
 have ih0 := laws_FnExactOrbitCycle.mono_l k
 unfold laws_FnExactOrbitCycle.f
 repeat' first | (with_reducible first | apply ih0 | apply impl_OrbitCycle.mono | apply laws_eqBoard.mono | apply laws_toBoard.mono | apply spec_OrbitCycle.mono | exact LeO.refl _ | exact LeO.none _ | refine LeO.ite ?_ ?_ | refine LeO.bind ?_ (fun _ => ?_)) | exact LeO.none _ | refine LeO.ite ?_ ?_ | refine LeO.bind ?_ (fun _ => ?_)
set_option maxHeartbeats 8000000 in
set_option maxRecDepth 100000 in
theorem laws_FnExactOrbitCycle.calls (k : Nat) (a0_0 : Int) (a0_1 : Int) (A0_2 : Option Addr) (c0_2 : Nat) (l0_2 : List (S85)) (a1 : Int) (w : World) (hr0_2 : Kd.C k85 w A0_2 l0_2.length l0_2) (hc0_2 : l0_2.length <= c0_2) (h : laws_FnExactOrbitCycle.f k a0_0 a0_1 l0_2 a1 = some true) :
 Calls Try.prog 5 #[.agg #[.int .i64 a0_0, .int .i64 a0_1, .slice A0_2 l0_2.length c0_2], .int .i64 a1] w fun e w' => e = .returned (.bool true) /\ Below w.heap.size w w' := by
 have hu24 := Try.underlying24
 have hu30 := Try.underlying30
 have HR0_2 := Aside0.mk hr0_2
 have HC0_2 := Aside0.mk hc0_2
 clear hr0_2 hc0_2
 have HB := Aside0.mk (Below.refl w.heap.size w)
 have H := h
 clear h
 unfold laws_FnExactOrbitCycle.f at H
 replace H := bindA H; obtain ⟨t692, A3, H⟩ := H
 replace H := ifB H; rcases H with ⟨c4b0, H⟩ | ⟨c4b0, H⟩
 · first | (obtain rfl := Option.some.inj H) | clear H
   go_enter Try.func5, Try.ntmps5
   go_wp2_with (first | ((with_reducible refine gate_dst (N := 2) rfl ?_); refine boxE (cs := #[.int .i64 a0_0, .int .i64 a0_1, .slice A0_2 l0_2.length c0_2]) (t := 24) ?_; intro gb691 hg w5 hbox hb; refine E4b HB.1 hg hbox hb ?_; clear HB; intro HB BK691 GW691 GE691; clear hb hbox hg; obtain ⟨hcz6_0, hcz6_1, hcz6_2, hfz6_0, hfz6_1, hfz6_2⟩ := cz3 BK691.1) | ((with_reducible refine gate_callee (f := 13) rfl ?_); refine goesM (N := (some 13)) #[.agg #[.int .i64 a0_0, .int .i64 a0_1, .slice A0_2 l0_2.length c0_2], .int .i64 1048576] Try.func13 ?_; (with_reducible refine (laws_szBoard.calls a0_0 a0_1 _ _ l0_2 1048576 t692 _ ?side1 ?side2 A3.1).mono ?_); (case side1 => exact CB (C_below HR0_2.1 HB.1)); (case side2 => exact HC0_2.1); rintro e w7 ⟨rfl, hb⟩; refine ⟨_, rfl, ?_⟩; refine E2 (bB BK691.1 hb) (bS HB.1 hb) ?_; clear BK691 HB; intro BK691 HB; (try clear hb)))
   go_ret
   exact ⟨RF, BL HB.1⟩
 replace H := bindA H; obtain ⟨⟨t693, t694, t695⟩, A8, H⟩ := H
 dsimp only at H
 replace H := bindA H; obtain ⟨⟨t698, t699⟩, A9, H⟩ := H
 dsimp only at H
 replace H := bindA H; obtain ⟨⟨t700, t701, t702⟩, A10, H⟩ := H
 dsimp only at H
 replace H := bindA H; obtain ⟨⟨t706, t707⟩, A11, H⟩ := H
 dsimp only at H
 have HC12 := Aside0.mk H
 clear H
 go_enter Try.func5, Try.ntmps5
 go_upto_region 8 with (first | ((with_reducible refine gate_dst (N := 2) rfl ?_); refine boxE (cs := #[.int .i64 a0_0, .int .i64 a0_1, .slice A0_2 l0_2.length c0_2]) (t := 24) ?_; intro gb691 hg w13 hbox hb; refine E4b HB.1 hg hbox hb ?_; clear HB; intro HB BK691 GW691 GE691; clear hb hbox hg; obtain ⟨hcz14_0, hcz14_1, hcz14_2, hfz14_0, hfz14_1, hfz14_2⟩ := cz3 BK691.1) | ((with_reducible refine gate_callee (f := 13) rfl ?_); refine goesM (N := (some 13)) #[.agg #[.int .i64 a0_0, .int .i64 a0_1, .slice A0_2 l0_2.length c0_2], .int .i64 1048576] Try.func13 ?_; (with_reducible refine (laws_szBoard.calls a0_0 a0_1 _ _ l0_2 1048576 t692 _ ?side1 ?side2 A3.1).mono ?_); (case side1 => exact CB (C_below HR0_2.1 HB.1)); (case side2 => exact HC0_2.1); rintro e w15 ⟨rfl, hb⟩; refine ⟨_, rfl, ?_⟩; refine E2 (bB BK691.1 hb) (bS HB.1 hb) ?_; clear BK691 HB; intro BK691 HB; (try clear hb); obtain ⟨hcz16_0, hcz16_1, hcz16_2, hfz16_0, hfz16_1, hfz16_2⟩ := cz3 BK691.1) | ((with_reducible refine gate_callee (f := 15) rfl ?_); refine goesM (N := (some 18)) #[.agg #[.int .i64 a0_0, .int .i64 a0_1, .slice A0_2 l0_2.length c0_2]] Try.func15 ?_; (with_reducible refine (laws_toBoard.calls k a0_0 a0_1 _ _ l0_2 t693 t694 t695 _ ?side1 ?side2 A8.1).mono ?_); (case side1 => exact CB (C_below HR0_2.1 HB.1)); (case side2 => exact HC0_2.1); rintro e w17 ⟨v696, rfl, ho0, hb⟩; refine ⟨_, rfl, ?_⟩; refine E3 (R_lower ho0 (bZ HB.1)) (bB BK691.1 hb) (bS HB.1 hb) ?_; clear BK691 HB; intro HO697 BK691 HB; (try clear hb); (try clear ho0); obtain ⟨Ao18, co18, eo18⟩ := R_slice HO697.1; subst eo18) | ((with_reducible refine gate_callee (f := 20) rfl ?_); refine goesM (N := (some 20)) #[.agg #[.int .i64 t693, .int .i64 t694, .slice Ao18 t695.length co18], .int .i64 a1] Try.func20 ?_; (with_reducible refine (spec_OrbitCycle.calls k t693 t694 _ _ t695 a1 t698 t699 _ ?side1 ?side2 A9.1).mono ?_); (case side1 => exact CB (R_reads' HO697.1).2.2); (case side2 => exact (R_reads' HO697.1).2.1); rintro e w19 ⟨rfl, hb⟩; refine ⟨_, rfl, ?_⟩; refine E3 (rB HO697.1 hb) (bB BK691.1 hb) (bS HB.1 hb) ?_; clear HO697 BK691 HB; intro HO697 BK691 HB; (try clear hb); obtain ⟨hcz20_0, hcz20_1, hcz20_2, hfz20_0, hfz20_1, hfz20_2⟩ := cz3 BK691.1) | ((with_reducible refine gate_callee (f := 15) rfl ?_); refine goesM (N := (some 24)) #[.agg #[.int .i64 a0_0, .int .i64 a0_1, .slice A0_2 l0_2.length c0_2]] Try.func15 ?_; (with_reducible refine (laws_toBoard.calls k a0_0 a0_1 _ _ l0_2 t700 t701 t702 _ ?side1 ?side2 A10.1).mono ?_); (case side1 => exact CB (C_below HR0_2.1 HB.1)); (case side2 => exact HC0_2.1); rintro e w21 ⟨v703, rfl, ho0, hb⟩; refine ⟨_, rfl, ?_⟩; refine E4 (R_elder' (PR HO697.1) (R_base ho0) hb) (R_lower (R_new' ho0 (R_lt (PR HO697.1))) (bZ HB.1)) (bB BK691.1 hb) (bS HB.1 hb) ?_; clear HO697 BK691 HB; intro HO697 HO704 BK691 HB; (try clear hb); (try clear ho0)) | ((with_reducible refine gate_dst (N := 8) rfl ?_); refine boxE (cs := #[.int .i64 0, .int .i64 0, .slice none 0 0]) (t := 30) ?_; intro gb705 hg w22 hbox hb; refine E9 (rB HO697.1 hb) (rB HO704.1 hb) (bB BK691.1 hb) (bS HB.1 hb) (hbox) (gX HB.1 hg) (gX HB.1 hg) (nB BK691.1 hg) (nC BK691.1 hg) ?_; clear HO697 HO704 BK691 HB; intro HO697 HO704 BK691 HB BK705 GW705 GE705 NB691_705 NB705_691; clear hb hbox hg; have hnb23 := NB705_691.1; have hnc23 := NB691_705.1; obtain ⟨hcz24_0, hcz24_1, hcz24_2, hfz24_0, hfz24_1, hfz24_2⟩ := cz3 BK705.1; obtain ⟨Ao25, co25, eo25⟩ := R_slice HO704.1; subst eo25) | ((with_reducible refine gate_callee (f := 21) rfl ?_); refine goesM (N := (some 28)) #[.agg #[.int .i64 t700, .int .i64 t701, .slice Ao25 t702.length co25], .int .i64 a1] Try.func21 ?_; (with_reducible refine (impl_OrbitCycle.calls k t700 t701 _ _ t702 a1 t706 t707 _ ?side1 ?side2 A11.1).mono ?_); (case side1 => refine (R_reads' (e := 83) (base := w.heap.size) (ok := fun k_ => (True /\ some k_ ≠ (.slice Ao18 t695.length co18 : Value).ownBlock)) (n := t702.length) (c := co25) ?_).2.2; exact (by (with_reducible repeat (first | apply R_alloc | apply R_drewN | apply R_drew)); exact (R_mono (RQ gb705 2 (RQ gb705 1 (RQ gb705 0 (R_types HO704.1 BK705.1 (by decide)) _) _) _) (fun _ h_ => h_.1)))); (case side2 => exact (R_reads' HO704.1).2.1); rintro e w26 ⟨rfl, hb⟩; refine ⟨_, rfl, ?_⟩; refine E5 (R_below (by (with_reducible repeat (first | apply R_alloc | apply R_drewN | apply R_drew)); exact (R_mono (RQ gb705 2 (RQ gb705 1 (RQ gb705 0 (R_types HO697.1 BK705.1 (by decide)) _) _) _) (fun _ h_ => h_.1))) hb) (R_below (by (with_reducible repeat (first | apply R_alloc | apply R_drewN | apply R_drew)); exact (R_mono (RQ gb705 2 (RQ gb705 1 (RQ gb705 0 (R_types HO704.1 BK705.1 (by decide)) _) _) _) (fun _ h_ => h_.1))) hb) (blk_below (g := gb691) (o := .cells #[.int .i64 a0_0, .int .i64 a0_1, .slice A0_2 l0_2.length c0_2] 24 (0, 0)) (PF1 NB691_705.1 BK691.1) hb) (blk_below (g := gb705) (o := .cells #[.int .i64 t700, .int .i64 t701, .slice Ao25 t702.length co25] 30 (0, 0)) (PF0 BK705.1) hb) (bS HB.1 hb) ?_; clear HO697 HO704 BK691 BK705 HB; intro HO697 HO704 BK691 BK705 HB; (try clear hb)))
 (try simp only [Act.put, List.setIfInBounds_toArray, List.set_cons_zero, List.set_cons_succ])
 go_cut [38] (fun v38 wc => ∃ (kq : Nat) (x38_11 : Bool), v38 = .bool x38_11 /\ Aside0 (laws_FnExactOrbitCycle.j0 kq x38_11 a0_0 a0_1 l0_2 t700 t701 t702 = some true) /\ Aside0 (kq <= k) /\ Aside0 (Kd.R k83 83 wc w.heap.size (fun _ => True) (.slice Ao25 t702.length co25) t702) /\ Aside0 (wc.heap[gb691]? = some (.cells #[.int .i64 a0_0, .int .i64 a0_1, (.slice A0_2 l0_2.length c0_2)] 24 (0, 0))) /\ Aside0 (wc.heap[gb705]? = some (.cells #[.int .i64 t700, .int .i64 t701, (.slice Ao25 t702.length co25)] 30 (0, 0))) /\ Aside0 (Below w.heap.size w wc))
 case first =>
  have H := HC12.1
  clear HC12
  replace H := ifQ H; rcases H with ⟨c27, H⟩ | ⟨c27, H⟩
  · have c27b0 := beq_iff_eq.mpr c27
    have c27b1 := bne_eq_false_iff_eq.mpr c27
    clear c27
    (first | rw [c27b0] | (simp only [i64_w, i32_w]; rw [c27b0]) | skip)
    have H' := Aside0.mk H
    clear H
    go_wp2
    go_meet
    case rel => exact ⟨_, ((t707 != t699)), RG, H', ⟨by first | omega | exact Nat.le_refl _⟩, ⟨RPE (R_mono HO704.1 (fun _ hk => trivial))⟩, ⟨PB BK691.1⟩, ⟨PB BK705.1⟩, ⟨BL HB.1⟩⟩
  exact absurd H (by cases k <;> simp [laws_FnExactOrbitCycle.j0])
 clear HC12
 clear c4b0 hcz14_0 hcz14_1 hcz14_2 hcz16_0 hcz16_1 hcz16_2 hcz20_0 hcz20_1 hcz20_2 hcz24_0 hcz24_1 hcz24_2 hfz14_0 hfz14_1 hfz14_2 hfz16_0 hfz16_1 hfz16_2 hfz20_0 hfz20_1 hfz20_2 hfz24_0 hfz24_1 hfz24_2
 obtain ⟨kq, x38_11, rfl, HA, HJ11, HO_706002, BK691, BK705, HB⟩ := hcut
 cases kq with
 | zero => exact absurd HA.1 (by simp [laws_FnExactOrbitCycle.j0])
 | succ kj11 => ?_
 have H := HA.1
 clear HA
 simp only [laws_FnExactOrbitCycle.j0] at H
 replace H := ifF H (by simp); obtain ⟨rfl, H⟩ := H
 replace H := bindA H; obtain ⟨⟨t708, t709, t710⟩, A29, H⟩ := H
 dsimp only at H
 replace H := bindA H; obtain ⟨t713, A30, H⟩ := H
 replace H := ifT H (by simp); obtain ⟨rfl, H⟩ := H
 first | (obtain rfl := Option.some.inj H) | clear H
 try go_wp2
 refine E4 (R_drew HO_706002.1) (blk_drew BK691.1) (blk_drew BK705.1) (below_drew1 HB.1) ?_
 clear HO_706002 BK691 BK705 HB
 intro HO_706002 BK691 BK705 HB
 refine start_ (n := 5) (S := fun w' => w'.cell? ⟨gb705, 0, none⟩ = some (.int .i64 t700) /\ w'.cell? ⟨gb705, 1, none⟩ = some (.int .i64 t701) /\ w'.cell? ⟨gb705, 2, none⟩ = some (.slice Ao25 t702.length co25) /\ w'.cell? ⟨gb691, 0, none⟩ = some (.int .i64 a0_0) /\ w'.cell? ⟨gb691, 1, none⟩ = some (.int .i64 a0_1) /\ w'.cell? ⟨gb691, 2, none⟩ = some (.slice A0_2 l0_2.length c0_2)) (ds := []) #[Zz,Zz,Zz,Zz,Zz] (by kernel_rfl) rfl rfl ⟨(blk_cell BK705.1 0).trans rfl, (blk_cell BK705.1 1).trans rfl, (blk_cell BK705.1 2).trans rfl, (blk_cell BK691.1 0).trans rfl, (blk_cell BK691.1 1).trans rfl, (blk_cell BK691.1 2).trans rfl⟩ (fun hHeld => ?_)
 generalize wc.drew = w32 at HO_706002 BK691 BK705 HB hHeld ⊢
 refine takeF 0 (N := some 39) hHeld ?_
 refine takeF 1 (N := some 40) hHeld ?_
 refine one_ (i := 2) (N := some 41) #[Yy,Yy,Yy,Zz,Zz] rfl rfl (by kernel_rfl) (by decide) (fun K hK => ?_)
 refine goes_ Try.func15 (by kernel_rfl) rfl #[.agg #[.int .i64 a0_0, .int .i64 a0_1, .slice A0_2 l0_2.length c0_2]] (by rfl) rfl rfl (by (try simp only [List.map_toArray, List.map_cons, List.map_nil]); first | done | rfl | (simp only [List.length_drop, List.length_take]; rfl)) ?_
 with_reducible refine (laws_toBoard.calls kj11 a0_0 a0_1 _ _ l0_2 t708 t709 t710 _ ?side1 ?side2 A29.1).mono ?_
 (case side1 => exact CB (C_below HR0_2.1 HB.1))
 (case side2 => exact HC0_2.1)
 rintro e w33 ⟨v711, rfl, ho0, hb⟩
 refine ⟨_, rfl, ?_⟩
 refine E5 (R_elder' (PR HO_706002.1) (R_base ho0) hb) (R_lower (R_new' ho0 (R_lt (PR HO_706002.1))) (bZ HB.1)) (bB BK691.1 hb) (bB BK705.1 hb) (bS HB.1 hb) ?_
 clear HO_706002 BK691 BK705 HB
 intro HO_706002 HO712 BK691 BK705 HB
 (try clear hb)
 (try clear hb2)
 (try clear hk)
 (try clear hi)
 (try clear ho0)
 obtain ⟨Ao34, co34, eo34⟩ := R_slice HO712.1
 (first | subst eo34 | (injection eo34 with f1_ f2_ f3_; have f4_ := f1_.symm; have f5_ := f3_.symm; clear f1_ f2_ f3_; subst f4_; subst f5_))
 refine hK.out _ _ ⟨(blk_cell BK705.1 0).trans rfl, (blk_cell BK705.1 1).trans rfl, (blk_cell BK705.1 2).trans rfl, (blk_cell BK691.1 0).trans rfl, (blk_cell BK691.1 1).trans rfl, (blk_cell BK691.1 2).trans rfl⟩ (fun hHeld => ?_)
 clear hK K
 refine norm_ (a' := ?_) ?_ ?_
 rotate_left
 · show Act.put _ (some 41) _ = _
   simp only [Act.put, List.setIfInBounds_toArray, List.set_cons_zero, List.set_cons_succ, i64_w, i32_w]
   rfl
 refine one_ (i := 3) (N := some 42) #[Yy,Yy,Yy,Yy,Zz] rfl rfl (by kernel_rfl) (by decide) (fun K hK => ?_)
 refine goes_ Try.func17 (by kernel_rfl) rfl #[.agg #[.int .i64 t700, .int .i64 t701, .slice Ao25 t702.length co25], .agg #[.int .i64 t708, .int .i64 t709, .slice Ao34 t710.length co34]] (by rfl) rfl rfl (by (try simp only [List.map_toArray, List.map_cons, List.map_nil]); first | done | rfl | (simp only [List.length_drop, List.length_take]; rfl)) ?_
 with_reducible refine (laws_eqBoard.calls kj11 t700 t701 _ _ t702 t708 t709 _ _ t710 true _ ?side1 ?side2 ?side3 ?side4 A30.1).mono ?_
 (case side1 => exact CB (R_reads' HO_706002.1).2.2)
 (case side2 => exact (R_reads' HO_706002.1).2.1)
 (case side3 => exact CB (R_reads' HO712.1).2.2)
 (case side4 => exact (R_reads' HO712.1).2.1)
 rintro e w35 ⟨rfl, hb⟩
 refine ⟨_, rfl, ?_⟩
 refine E5 (rB HO_706002.1 hb) (rB HO712.1 hb) (bB BK691.1 hb) (bB BK705.1 hb) (bS HB.1 hb) ?_
 clear HO_706002 HO712 BK691 BK705 HB
 intro HO_706002 HO712 BK691 BK705 HB
 (try clear hb)
 (try clear hb2)
 (try clear hk)
 (try clear hi)
 refine hK.out _ _ ⟨(blk_cell BK705.1 0).trans rfl, (blk_cell BK705.1 1).trans rfl, (blk_cell BK705.1 2).trans rfl, (blk_cell BK691.1 0).trans rfl, (blk_cell BK691.1 1).trans rfl, (blk_cell BK691.1 2).trans rfl⟩ (fun hHeld => ?_)
 clear hK K
 refine norm_ (a' := ?_) ?_ ?_
 rotate_left
 · show Act.put _ (some 42) _ = _
   simp only [Act.put, List.setIfInBounds_toArray, List.set_cons_zero, List.set_cons_succ, i64_w, i32_w]
   rfl
 refine pure_ (i := 4) (N := some 43) (v := ?_) (a' := ?_) #[Yy,Yy,Yy,Yy,Yy] rfl rfl (by kernel_rfl) (fun _ _ _ h => h) (Or.inl ⟨by rfl, ?_⟩) ?_ ?_
 rotate_left
 · intro w'
   go_simp
   with_reducible rfl
 rotate_left
 · simp only [Act.put, List.setIfInBounds_toArray, List.set_cons_zero, List.set_cons_succ, i64_w, i32_w]
   rfl
 refine done_ (by kernel_rfl) ?_
 try go_wp2
 go_ret
 exact ⟨RF, BL HB.1⟩
end Go.Proofs.Ytbpfdbjnnlmdjaa.P
