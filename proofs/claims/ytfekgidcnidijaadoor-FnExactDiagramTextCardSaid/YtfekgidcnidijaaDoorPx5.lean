-- PRINTED by print.py (a twelfth state) out of the translation. Not trusted: Lean checks it.
import Derived.Test.YtfekgidcnidijaaDoorPx0
import Derived.Test.YtfekgidcnidijaaDoorPx2
import Derived.Test.YtfekgidcnidijaaDoorPx3
import Derived.Test.YtfekgidcnidijaaDoorPx4
namespace Go.Proofs.YtfekgidcnidijaaDoor.P
open Go.RowKit Go.Proofs.YtfekgidcnidijaaDoorW.PrintWords Go.Proofs.YtfekgidcnidijaaDoorW.PrintLast Go.Proofs.YtfekgidcnidijaaDoorW.PrintMore
attribute [local go_sem] max2_int min2_int max_two min_two max_three min_three max_four min_four   -- for this text's walks alone
set_option linter.unusedVariables false
set_option linter.unusedSimpArgs false
set_option maxHeartbeats 8000000
set_option maxRecDepth 100000

/-! ### laws_eqDiagram: function 25 -/
open Kd
def laws_eqDiagram.f (k : Nat) (a0_0 : Int) (l0_1 : List (S86)) (a0_2 : Int) (a1_0 : Int) (l1_1 : List (S86)) (a1_2 : Int) : Option (Bool) := if a0_0 = a1_0 then ((laws_eqNodeS.f k l0_1 l1_1).bind fun t215 => (if t215 = true then (if a0_2 = a1_2 then (some true) else (some false)) else (some false))) else (some false)
theorem laws_eqDiagram.mono : ∀ a0 a1 a2 a3 a4 a5 k, LeO (laws_eqDiagram.f k a0 a1 a2 a3 a4 a5) (laws_eqDiagram.f (k + 1) a0 a1 a2 a3 a4 a5) := by
 intro a0 a1 a2 a3 a4 a5 k
 unfold laws_eqDiagram.f
 repeat' first
  | (with_reducible exact laws_eqNodeS.mono _ _ _)
  | (with_reducible exact LeO.refl _)
  | (with_reducible exact LeO.none _)
  | (with_reducible refine LeO.ite ?_ ?_)
  | (with_reducible refine LeO.bind ?_ (fun _ => ?_))
  | exact laws_eqNodeS.mono _ _ _
  | exact LeO.none _
  | refine LeO.ite ?_ ?_
  | refine LeO.bind ?_ (fun _ => ?_)
theorem laws_eqDiagram.calls (k : Nat) (a0_0 : Int) (A0_1 : Option Addr) (c0_1 : Nat) (l0_1 : List (S86)) (a0_2 : Int) (a1_0 : Int) (A1_1 : Option Addr) (c1_1 : Nat) (l1_1 : List (S86)) (a1_2 : Int) (r : Bool) (w : World) (hr0_1 : Kd.C k86 w A0_1 l0_1.length l0_1) (hc0_1 : l0_1.length <= c0_1) (hr1_1 : Kd.C k86 w A1_1 l1_1.length l1_1) (hc1_1 : l1_1.length <= c1_1) (h : laws_eqDiagram.f k a0_0 l0_1 a0_2 a1_0 l1_1 a1_2 = some r) :
 Calls Tryd.prog 25 #[.agg #[.int .i64 a0_0, .slice A0_1 l0_1.length c0_1, .int .i64 a0_2], .agg #[.int .i64 a1_0, .slice A1_1 l1_1.length c1_1, .int .i64 a1_2]] w fun e w' => e = .returned (.bool r) /\ Below w.heap.size w w' := by
 have hu50 := Tryd.underlying50
 have HR0_1 := Aside0.mk hr0_1
 have HC0_1 := Aside0.mk hc0_1
 clear hr0_1 hc0_1
 have HR1_1 := Aside0.mk hr1_1
 have HC1_1 := Aside0.mk hc1_1
 clear hr1_1 hc1_1
 have HB := Aside0.mk (Below.refl w.heap.size w)
 have H := h
 clear h
 unfold laws_eqDiagram.f at H
 replace H := ifQ H; rcases H with ⟨c3, H⟩ | ⟨c3, H⟩
 · have c3b0 := beq_iff_eq.mpr c3
   have c3b1 := bne_eq_false_iff_eq.mpr c3
   clear c3
   replace H := bindA H; obtain ⟨t215, A4, H⟩ := H
   replace H := ifX H; rcases H with ⟨rfl, H⟩ | ⟨rfl, H⟩
   · replace H := ifQ H; rcases H with ⟨c6, H⟩ | ⟨c6, H⟩
     · have c6b0 := beq_iff_eq.mpr c6
       have c6b1 := bne_eq_false_iff_eq.mpr c6
       clear c6
       obtain rfl := Option.some.inj H
       go_enter Tryd.func25, Tryd.ntmps25
       go_wp2_with (first | ((with_reducible refine gate_dst (N := 2) rfl ?_); refine boxE (cs := #[.int .i64 a0_0, .slice A0_1 l0_1.length c0_1, .int .i64 a0_2]) (t := 50) ?_; intro gb213 hg w7 hbox hb; refine E4b HB.1 hg hbox hb ?_; clear HB; intro HB BK213 GW213 GE213; clear hb hbox hg) | ((with_reducible refine gate_dst (N := 3) rfl ?_); refine boxE (cs := #[.int .i64 a1_0, .slice A1_1 l1_1.length c1_1, .int .i64 a1_2]) (t := 50) ?_; intro gb214 hg w8 hbox hb; refine E7 (bB BK213.1 hb) (bS HB.1 hb) (hbox) (gX HB.1 hg) (gX HB.1 hg) (nB BK213.1 hg) (nC BK213.1 hg) ?_; clear BK213 HB; intro BK213 HB BK214 GW214 GE214 NB213_214 NB214_213; clear hb hbox hg; have hnb9 := NB213_214.1; have hnc9 := NB214_213.1; obtain ⟨hcz10_0, hcz10_1, hcz10_2, hfz10_0, hfz10_1, hfz10_2⟩ := cz3 BK213.1; obtain ⟨hcz11_0, hcz11_1, hcz11_2, hfz11_0, hfz11_1, hfz11_2⟩ := cz3 BK214.1) | ((with_reducible refine gate_callee (f := 52) rfl ?_); refine goesM (N := (some 14)) #[.slice A0_1 l0_1.length c0_1, .slice A1_1 l1_1.length c1_1] Tryd.func52 ?_; (with_reducible refine (laws_eqNodeS.calls k _ _ l0_1 _ _ l1_1 true _ ?side1 ?side2 ?side3 ?side4 A4.1).mono ?_); (case side1 => exact CB (C_below HR0_1.1 HB.1)); (case side2 => exact HC0_1.1); (case side3 => exact CB (C_below HR1_1.1 HB.1)); (case side4 => exact HC1_1.1); rintro e w12 ⟨rfl, hb⟩; refine ⟨_, rfl, ?_⟩; refine E3 (bB BK213.1 hb) (bB BK214.1 hb) (bS HB.1 hb) ?_; clear BK213 BK214 HB; intro BK213 BK214 HB; (try clear hb); obtain ⟨hcz13_0, hcz13_1, hcz13_2, hfz13_0, hfz13_1, hfz13_2⟩ := cz3 BK213.1; obtain ⟨hcz14_0, hcz14_1, hcz14_2, hfz14_0, hfz14_1, hfz14_2⟩ := cz3 BK214.1))
       go_ret
       exact ⟨RF, BL HB.1⟩
     have c6b0 := beq_eq_false_iff_ne.mpr c6
     have c6b1 := bne_iff_ne.mpr c6
     obtain rfl := Option.some.inj H
     go_enter Tryd.func25, Tryd.ntmps25
     go_wp2_with (first | ((with_reducible refine gate_dst (N := 2) rfl ?_); refine boxE (cs := #[.int .i64 a0_0, .slice A0_1 l0_1.length c0_1, .int .i64 a0_2]) (t := 50) ?_; intro gb213 hg w15 hbox hb; refine E4b HB.1 hg hbox hb ?_; clear HB; intro HB BK213 GW213 GE213; clear hb hbox hg) | ((with_reducible refine gate_dst (N := 3) rfl ?_); refine boxE (cs := #[.int .i64 a1_0, .slice A1_1 l1_1.length c1_1, .int .i64 a1_2]) (t := 50) ?_; intro gb214 hg w16 hbox hb; refine E7 (bB BK213.1 hb) (bS HB.1 hb) (hbox) (gX HB.1 hg) (gX HB.1 hg) (nB BK213.1 hg) (nC BK213.1 hg) ?_; clear BK213 HB; intro BK213 HB BK214 GW214 GE214 NB213_214 NB214_213; clear hb hbox hg; have hnb17 := NB213_214.1; have hnc17 := NB214_213.1; obtain ⟨hcz18_0, hcz18_1, hcz18_2, hfz18_0, hfz18_1, hfz18_2⟩ := cz3 BK213.1; obtain ⟨hcz19_0, hcz19_1, hcz19_2, hfz19_0, hfz19_1, hfz19_2⟩ := cz3 BK214.1) | ((with_reducible refine gate_callee (f := 52) rfl ?_); refine goesM (N := (some 14)) #[.slice A0_1 l0_1.length c0_1, .slice A1_1 l1_1.length c1_1] Tryd.func52 ?_; (with_reducible refine (laws_eqNodeS.calls k _ _ l0_1 _ _ l1_1 true _ ?side1 ?side2 ?side3 ?side4 A4.1).mono ?_); (case side1 => exact CB (C_below HR0_1.1 HB.1)); (case side2 => exact HC0_1.1); (case side3 => exact CB (C_below HR1_1.1 HB.1)); (case side4 => exact HC1_1.1); rintro e w20 ⟨rfl, hb⟩; refine ⟨_, rfl, ?_⟩; refine E3 (bB BK213.1 hb) (bB BK214.1 hb) (bS HB.1 hb) ?_; clear BK213 BK214 HB; intro BK213 BK214 HB; (try clear hb); obtain ⟨hcz21_0, hcz21_1, hcz21_2, hfz21_0, hfz21_1, hfz21_2⟩ := cz3 BK213.1; obtain ⟨hcz22_0, hcz22_1, hcz22_2, hfz22_0, hfz22_1, hfz22_2⟩ := cz3 BK214.1))
     go_ret
     exact ⟨RF, BL HB.1⟩
   obtain rfl := Option.some.inj H
   go_enter Tryd.func25, Tryd.ntmps25
   go_wp2_with (first | ((with_reducible refine gate_dst (N := 2) rfl ?_); refine boxE (cs := #[.int .i64 a0_0, .slice A0_1 l0_1.length c0_1, .int .i64 a0_2]) (t := 50) ?_; intro gb213 hg w23 hbox hb; refine E4b HB.1 hg hbox hb ?_; clear HB; intro HB BK213 GW213 GE213; clear hb hbox hg) | ((with_reducible refine gate_dst (N := 3) rfl ?_); refine boxE (cs := #[.int .i64 a1_0, .slice A1_1 l1_1.length c1_1, .int .i64 a1_2]) (t := 50) ?_; intro gb214 hg w24 hbox hb; refine E7 (bB BK213.1 hb) (bS HB.1 hb) (hbox) (gX HB.1 hg) (gX HB.1 hg) (nB BK213.1 hg) (nC BK213.1 hg) ?_; clear BK213 HB; intro BK213 HB BK214 GW214 GE214 NB213_214 NB214_213; clear hb hbox hg; have hnb25 := NB213_214.1; have hnc25 := NB214_213.1; obtain ⟨hcz26_0, hcz26_1, hcz26_2, hfz26_0, hfz26_1, hfz26_2⟩ := cz3 BK213.1; obtain ⟨hcz27_0, hcz27_1, hcz27_2, hfz27_0, hfz27_1, hfz27_2⟩ := cz3 BK214.1) | ((with_reducible refine gate_callee (f := 52) rfl ?_); refine goesM (N := (some 14)) #[.slice A0_1 l0_1.length c0_1, .slice A1_1 l1_1.length c1_1] Tryd.func52 ?_; (with_reducible refine (laws_eqNodeS.calls k _ _ l0_1 _ _ l1_1 false _ ?side1 ?side2 ?side3 ?side4 A4.1).mono ?_); (case side1 => exact CB (C_below HR0_1.1 HB.1)); (case side2 => exact HC0_1.1); (case side3 => exact CB (C_below HR1_1.1 HB.1)); (case side4 => exact HC1_1.1); rintro e w28 ⟨rfl, hb⟩; refine ⟨_, rfl, ?_⟩; refine E3 (bB BK213.1 hb) (bB BK214.1 hb) (bS HB.1 hb) ?_; clear BK213 BK214 HB; intro BK213 BK214 HB; (try clear hb)))
   go_ret
   exact ⟨RF, BL HB.1⟩
 have c3b0 := beq_eq_false_iff_ne.mpr c3
 have c3b1 := bne_iff_ne.mpr c3
 obtain rfl := Option.some.inj H
 go_enter Tryd.func25, Tryd.ntmps25
 go_wp2_with (first | ((with_reducible refine gate_dst (N := 2) rfl ?_); refine boxE (cs := #[.int .i64 a0_0, .slice A0_1 l0_1.length c0_1, .int .i64 a0_2]) (t := 50) ?_; intro gb213 hg w29 hbox hb; refine E4b HB.1 hg hbox hb ?_; clear HB; intro HB BK213 GW213 GE213; clear hb hbox hg) | ((with_reducible refine gate_dst (N := 3) rfl ?_); refine boxE (cs := #[.int .i64 a1_0, .slice A1_1 l1_1.length c1_1, .int .i64 a1_2]) (t := 50) ?_; intro gb214 hg w30 hbox hb; refine E7 (bB BK213.1 hb) (bS HB.1 hb) (hbox) (gX HB.1 hg) (gX HB.1 hg) (nB BK213.1 hg) (nC BK213.1 hg) ?_; clear BK213 HB; intro BK213 HB BK214 GW214 GE214 NB213_214 NB214_213; clear hb hbox hg; have hnb31 := NB213_214.1; have hnc31 := NB214_213.1; obtain ⟨hcz32_0, hcz32_1, hcz32_2, hfz32_0, hfz32_1, hfz32_2⟩ := cz3 BK213.1; obtain ⟨hcz33_0, hcz33_1, hcz33_2, hfz33_0, hfz33_1, hfz33_2⟩ := cz3 BK214.1))
 go_ret
 exact ⟨RF, BL HB.1⟩
/-! ### laws_FnExactDiagramText: function 6 -/
open Kd
def laws_FnExactDiagramText.j0 : Nat -> Bool -> Int -> List (S105) -> Int -> Int -> List (S86) -> Int -> Option (Bool)
 | 0, _, _, _, _, _, _, _ => none
 | k + 1, x34, x217000, x217001, x217002, x231000, x231001, x231002 => if x34 = true then (some false) else ((laws_toDiagram.f k x217000 x217001 x217002).bind fun bt233 => ((laws_eqDiagram.f k x231000 x231001 x231002 bt233.1 bt233.2.1 bt233.2.2).bind fun t238 => (if t238 = true then (some true) else (some false))))
def laws_FnExactDiagramText.f (k : Nat) (a0_0 : Int) (l0_1 : List (S105)) (a0_2 : Int) : Option (Bool) := (laws_szDiagram.f a0_0 l0_1 a0_2 1048576).bind fun t217 => (if t217 < 0 then (some true) else ((laws_toDiagram.f k a0_0 l0_1 a0_2).bind fun bt218 => ((spec_DiagramText.f k bt218.1 bt218.2.1 bt218.2.2).bind fun bt223 => ((laws_toDiagram.f k a0_0 l0_1 a0_2).bind fun bt225 => ((impl_DiagramText.f k bt225.1 bt225.2.1 bt225.2.2).bind fun bt231 => (if bt231.1.toList = bt223.1.toList then (laws_FnExactDiagramText.j0 k (bt231.2 != bt223.2) a0_0 l0_1 a0_2 bt225.1 bt225.2.1 bt225.2.2) else (laws_FnExactDiagramText.j0 k true a0_0 l0_1 a0_2 bt225.1 bt225.2.1 bt225.2.2)))))))
theorem laws_FnExactDiagramText.mono_l : ∀ k, (∀ y0 y1 y2 y3 y4 y5 y6, LeO (laws_FnExactDiagramText.j0 k y0 y1 y2 y3 y4 y5 y6) (laws_FnExactDiagramText.j0 (k + 1) y0 y1 y2 y3 y4 y5 y6))
 | 0 => fun _ _ _ _ _ _ _ r h => by simp [laws_FnExactDiagramText.j0] at h
 | k + 1 => by
  have ih0 := laws_FnExactDiagramText.mono_l k
  intros
  first | unfold laws_FnExactDiagramText.j0
  exact LM5 ih0 impl_DiagramText.mono laws_eqDiagram.mono laws_toDiagram.mono spec_DiagramText.mono
theorem laws_FnExactDiagramText.mono : ∀ a0 a1 a2 k, LeO (laws_FnExactDiagramText.f k a0 a1 a2) (laws_FnExactDiagramText.f (k + 1) a0 a1 a2) := by
 intro a0 a1 a2 k
 have ih0 := laws_FnExactDiagramText.mono_l k
 unfold laws_FnExactDiagramText.f
 exact LM5 ih0 impl_DiagramText.mono laws_eqDiagram.mono laws_toDiagram.mono spec_DiagramText.mono
theorem laws_FnExactDiagramText.calls (k : Nat) (a0_0 : Int) (A0_1 : Option Addr) (c0_1 : Nat) (l0_1 : List (S105)) (a0_2 : Int) (w : World) (hr0_1 : Kd.C k105 w A0_1 l0_1.length l0_1) (hc0_1 : l0_1.length <= c0_1) (h : laws_FnExactDiagramText.f k a0_0 l0_1 a0_2 = some true) :
 Calls Tryd.prog 6 #[.agg #[.int .i64 a0_0, .slice A0_1 l0_1.length c0_1, .int .i64 a0_2]] w fun e w' => e = .returned (.bool true) /\ Below w.heap.size w w' := by
 have hu45 := Tryd.underlying45
 have hu50 := Tryd.underlying50
 have HR0_1 := Aside0.mk hr0_1
 have HC0_1 := Aside0.mk hc0_1
 clear hr0_1 hc0_1
 have HB := Aside0.mk (Below.refl w.heap.size w)
 have H := h
 clear h
 unfold laws_FnExactDiagramText.f at H
 replace H := bindA H; obtain ⟨t217, A2, H⟩ := H
 replace H := ifB H; rcases H with ⟨c3b0, H⟩ | ⟨c3b0, H⟩
 · first | (obtain rfl := Option.some.inj H) | clear H
   go_enter Tryd.func6, Tryd.ntmps6
   go_wp2_with (first | ((with_reducible refine gate_dst (N := 1) rfl ?_); refine boxE (cs := #[.int .i64 a0_0, .slice A0_1 l0_1.length c0_1, .int .i64 a0_2]) (t := 45) ?_; intro gb216 hg w4 hbox hb; refine E4b HB.1 hg hbox hb ?_; clear HB; intro HB BK216 GW216 GE216; clear hb hbox hg; obtain ⟨hcz5_0, hcz5_1, hcz5_2, hfz5_0, hfz5_1, hfz5_2⟩ := cz3 BK216.1) | ((with_reducible refine gate_callee (f := 21) rfl ?_); refine goesM (N := (some 11)) #[.agg #[.int .i64 a0_0, .slice A0_1 l0_1.length c0_1, .int .i64 a0_2], .int .i64 1048576] Tryd.func21 ?_; (with_reducible refine (laws_szDiagram.calls a0_0 _ _ l0_1 a0_2 1048576 t217 _ ?side1 ?side2 A2.1).mono ?_); (case side1 => exact CB (C_below HR0_1.1 HB.1)); (case side2 => exact HC0_1.1); rintro e w6 ⟨rfl, hb⟩; refine ⟨_, rfl, ?_⟩; refine E2 (bB BK216.1 hb) (bS HB.1 hb) ?_; clear BK216 HB; intro BK216 HB; (try clear hb)))
   go_ret
   exact ⟨RF, BL HB.1⟩
 replace H := bindA H; obtain ⟨⟨t218, t219, t222⟩, A7, H⟩ := H
 dsimp only at H
 replace H := bindA H; obtain ⟨⟨t223, t224⟩, A8, H⟩ := H
 dsimp only at H
 replace H := bindA H; obtain ⟨⟨t225, t226, t229⟩, A9, H⟩ := H
 dsimp only at H
 replace H := bindA H; obtain ⟨⟨t231, t232⟩, A10, H⟩ := H
 dsimp only at H
 have HC11 := Aside0.mk H
 clear H
 go_enter Tryd.func6, Tryd.ntmps6
 go_upto_region 8 with (first | ((with_reducible refine gate_dst (N := 1) rfl ?_); refine boxE (cs := #[.int .i64 a0_0, .slice A0_1 l0_1.length c0_1, .int .i64 a0_2]) (t := 45) ?_; intro gb216 hg w12 hbox hb; refine E4b HB.1 hg hbox hb ?_; clear HB; intro HB BK216 GW216 GE216; clear hb hbox hg; obtain ⟨hcz13_0, hcz13_1, hcz13_2, hfz13_0, hfz13_1, hfz13_2⟩ := cz3 BK216.1) | ((with_reducible refine gate_callee (f := 21) rfl ?_); refine goesM (N := (some 11)) #[.agg #[.int .i64 a0_0, .slice A0_1 l0_1.length c0_1, .int .i64 a0_2], .int .i64 1048576] Tryd.func21 ?_; (with_reducible refine (laws_szDiagram.calls a0_0 _ _ l0_1 a0_2 1048576 t217 _ ?side1 ?side2 A2.1).mono ?_); (case side1 => exact CB (C_below HR0_1.1 HB.1)); (case side2 => exact HC0_1.1); rintro e w14 ⟨rfl, hb⟩; refine ⟨_, rfl, ?_⟩; refine E2 (bB BK216.1 hb) (bS HB.1 hb) ?_; clear BK216 HB; intro BK216 HB; (try clear hb); obtain ⟨hcz15_0, hcz15_1, hcz15_2, hfz15_0, hfz15_1, hfz15_2⟩ := cz3 BK216.1) | ((with_reducible refine gate_callee (f := 23) rfl ?_); refine goesM (N := (some 16)) #[.agg #[.int .i64 a0_0, .slice A0_1 l0_1.length c0_1, .int .i64 a0_2]] Tryd.func23 ?_; (with_reducible refine (laws_toDiagram.calls k a0_0 _ _ l0_1 a0_2 t218 t219 t222 _ ?side1 ?side2 A7.1).mono ?_); (case side1 => exact CB (C_below HR0_1.1 HB.1)); (case side2 => exact HC0_1.1); rintro e w16 ⟨v220, rfl, ho0, hb⟩; refine ⟨_, rfl, ?_⟩; refine E3 (R_lower ho0 (bZ HB.1)) (bB BK216.1 hb) (bS HB.1 hb) ?_; clear BK216 HB; intro HO221 BK216 HB; (try clear hb); (try clear ho0); obtain ⟨Ao17, co17, eo17⟩ := R_slice HO221.1; subst eo17) | ((with_reducible refine gate_callee (f := 22) rfl ?_); refine goesM (N := (some 17)) #[.agg #[.int .i64 t218, .slice Ao17 t219.length co17, .int .i64 t222]] Tryd.func22 ?_; (with_reducible refine (spec_DiagramText.calls k t218 _ _ t219 t222 t223 t224 _ ?side1 ?side2 A8.1).mono ?_); (case side1 => exact CB (R_reads' HO221.1).2.2); (case side2 => exact (R_reads' HO221.1).2.1); rintro e w18 ⟨rfl, hb⟩; refine ⟨_, rfl, ?_⟩; refine E3 (rB HO221.1 hb) (bB BK216.1 hb) (bS HB.1 hb) ?_; clear HO221 BK216 HB; intro HO221 BK216 HB; (try clear hb); obtain ⟨hcz19_0, hcz19_1, hcz19_2, hfz19_0, hfz19_1, hfz19_2⟩ := cz3 BK216.1) | ((with_reducible refine gate_callee (f := 23) rfl ?_); refine goesM (N := (some 21)) #[.agg #[.int .i64 a0_0, .slice A0_1 l0_1.length c0_1, .int .i64 a0_2]] Tryd.func23 ?_; (with_reducible refine (laws_toDiagram.calls k a0_0 _ _ l0_1 a0_2 t225 t226 t229 _ ?side1 ?side2 A9.1).mono ?_); (case side1 => exact CB (C_below HR0_1.1 HB.1)); (case side2 => exact HC0_1.1); rintro e w20 ⟨v227, rfl, ho0, hb⟩; refine ⟨_, rfl, ?_⟩; refine E4 (R_elder' (PR HO221.1) (R_base ho0) hb) (R_lower (R_new' ho0 (R_lt (PR HO221.1))) (bZ HB.1)) (bB BK216.1 hb) (bS HB.1 hb) ?_; clear HO221 BK216 HB; intro HO221 HO228 BK216 HB; (try clear hb); (try clear ho0)) | ((with_reducible refine gate_dst (N := 6) rfl ?_); refine boxE (cs := #[.int .i64 0, .slice none 0 0, .int .i64 0]) (t := 50) ?_; intro gb230 hg w21 hbox hb; refine E9 (rB HO221.1 hb) (rB HO228.1 hb) (bB BK216.1 hb) (bS HB.1 hb) (hbox) (gX HB.1 hg) (gX HB.1 hg) (nB BK216.1 hg) (nC BK216.1 hg) ?_; clear HO221 HO228 BK216 HB; intro HO221 HO228 BK216 HB BK230 GW230 GE230 NB216_230 NB230_216; clear hb hbox hg; have hnb22 := NB230_216.1; have hnc22 := NB216_230.1; obtain ⟨hcz23_0, hcz23_1, hcz23_2, hfz23_0, hfz23_1, hfz23_2⟩ := cz3 BK230.1; obtain ⟨Ao24, co24, eo24⟩ := R_slice HO228.1; subst eo24) | ((with_reducible refine gate_callee (f := 24) rfl ?_); refine goesM (N := (some 24)) #[.agg #[.int .i64 t225, .slice Ao24 t226.length co24, .int .i64 t229]] Tryd.func24 ?_; (with_reducible refine (impl_DiagramText.calls k t225 _ _ t226 t229 t231 t232 _ ?side1 ?side2 A10.1).mono ?_); (case side1 => refine (R_reads' (e := 86) (base := w.heap.size) (ok := fun k_ => (True /\ some k_ ≠ (.slice Ao17 t219.length co17 : Value).ownBlock)) (n := t226.length) (c := co24) ?_).2.2; exact (by (with_reducible repeat (first | apply R_alloc | apply R_drewN | apply R_drew)); exact (R_mono (RQ gb230 2 (RQ gb230 1 (RQ gb230 0 (R_types HO228.1 BK230.1 (by decide)) _) _) _) (fun _ h_ => h_.1)))); (case side2 => exact (R_reads' HO228.1).2.1); rintro e w25 ⟨rfl, hb⟩; refine ⟨_, rfl, ?_⟩; refine E5 (R_below (by (with_reducible repeat (first | apply R_alloc | apply R_drewN | apply R_drew)); exact (R_mono (RQ gb230 2 (RQ gb230 1 (RQ gb230 0 (R_types HO221.1 BK230.1 (by decide)) _) _) _) (fun _ h_ => h_.1))) hb) (R_below (by (with_reducible repeat (first | apply R_alloc | apply R_drewN | apply R_drew)); exact (R_mono (RQ gb230 2 (RQ gb230 1 (RQ gb230 0 (R_types HO228.1 BK230.1 (by decide)) _) _) _) (fun _ h_ => h_.1))) hb) (blk_below (g := gb216) (o := .cells #[.int .i64 a0_0, .slice A0_1 l0_1.length c0_1, .int .i64 a0_2] 45 (0, 0)) (PF1 NB216_230.1 BK216.1) hb) (blk_below (g := gb230) (o := .cells #[.int .i64 t225, .slice Ao24 t226.length co24, .int .i64 t229] 50 (0, 0)) (PF0 BK230.1) hb) (bS HB.1 hb) ?_; clear HO221 HO228 BK216 BK230 HB; intro HO221 HO228 BK216 BK230 HB; (try clear hb)))
 (try simp only [Act.put, List.setIfInBounds_toArray, List.set_cons_zero, List.set_cons_succ])
 go_cut [34] (fun v34 wc => ∃ (kq : Nat) (x34_10 : Bool), v34 = .bool x34_10 /\ Aside0 (laws_FnExactDiagramText.j0 kq x34_10 a0_0 l0_1 a0_2 t225 t226 t229 = some true) /\ Aside0 (kq <= k) /\ Aside0 (Kd.R k86 86 wc w.heap.size (fun _ => True) (.slice Ao24 t226.length co24) t226) /\ Aside0 (wc.heap[gb216]? = some (.cells #[.int .i64 a0_0, (.slice A0_1 l0_1.length c0_1), .int .i64 a0_2] 45 (0, 0))) /\ Aside0 (wc.heap[gb230]? = some (.cells #[.int .i64 t225, (.slice Ao24 t226.length co24), .int .i64 t229] 50 (0, 0))) /\ Aside0 (Below w.heap.size w wc))
 case first =>
  have H := HC11.1
  clear HC11
  replace H := ifQ H; rcases H with ⟨c26, H⟩ | ⟨c26, H⟩
  · have c26b0 := beq_iff_eq.mpr c26
    have c26b1 := bne_eq_false_iff_eq.mpr c26
    clear c26
    (first | rw [c26b0] | (simp only [i64_w, i32_w]; rw [c26b0]) | skip)
    have H' := Aside0.mk H
    clear H
    go_wp2
    go_meet
    case rel => exact ⟨_, ((t232 != t224)), RG, H', ⟨by first | omega | exact Nat.le_refl _⟩, ⟨RPE (R_mono HO228.1 (fun _ hk => trivial))⟩, ⟨PB BK216.1⟩, ⟨PB BK230.1⟩, ⟨BL HB.1⟩⟩
  exact absurd H (by cases k <;> simp [laws_FnExactDiagramText.j0])
 clear HC11
 clear c3b0 hcz13_0 hcz13_1 hcz13_2 hcz15_0 hcz15_1 hcz15_2 hcz19_0 hcz19_1 hcz19_2 hcz23_0 hcz23_1 hcz23_2 hfz13_0 hfz13_1 hfz13_2 hfz15_0 hfz15_1 hfz15_2 hfz19_0 hfz19_1 hfz19_2 hfz23_0 hfz23_1 hfz23_2
 obtain ⟨kq, x34_10, rfl, HA, HJ10, HO_231001, BK216, BK230, HB⟩ := hcut
 cases kq with
 | zero => exact absurd HA.1 (by simp [laws_FnExactDiagramText.j0])
 | succ kj10 => ?_
 have H := HA.1
 clear HA
 simp only [laws_FnExactDiagramText.j0] at H
 replace H := ifF H (by simp); obtain ⟨rfl, H⟩ := H
 replace H := bindA H; obtain ⟨⟨t233, t234, t237⟩, A28, H⟩ := H
 dsimp only at H
 replace H := bindA H; obtain ⟨t238, A29, H⟩ := H
 replace H := ifT H (by simp); obtain ⟨rfl, H⟩ := H
 first | (obtain rfl := Option.some.inj H) | clear H
 try go_wp2
 refine E4 (R_drew HO_231001.1) (blk_drew BK216.1) (blk_drew BK230.1) (below_drew1 HB.1) ?_
 clear HO_231001 BK216 BK230 HB
 intro HO_231001 BK216 BK230 HB
 refine start_ (n := 5) (S := fun w' => w'.cell? ⟨gb230, 0, none⟩ = some (.int .i64 t225) /\ w'.cell? ⟨gb230, 1, none⟩ = some (.slice Ao24 t226.length co24) /\ w'.cell? ⟨gb230, 2, none⟩ = some (.int .i64 t229) /\ w'.cell? ⟨gb216, 0, none⟩ = some (.int .i64 a0_0) /\ w'.cell? ⟨gb216, 1, none⟩ = some (.slice A0_1 l0_1.length c0_1) /\ w'.cell? ⟨gb216, 2, none⟩ = some (.int .i64 a0_2)) (ds := []) #[Zz,Zz,Zz,Zz,Zz] (by kernel_rfl) rfl rfl ⟨(blk_cell BK230.1 0).trans rfl, (blk_cell BK230.1 1).trans rfl, (blk_cell BK230.1 2).trans rfl, (blk_cell BK216.1 0).trans rfl, (blk_cell BK216.1 1).trans rfl, (blk_cell BK216.1 2).trans rfl⟩ (fun hHeld => ?_)
 generalize wc.drew = w31 at HO_231001 BK216 BK230 HB hHeld ⊢
 refine takeF 0 (N := some 35) hHeld ?_
 refine takeF 1 (N := some 36) hHeld ?_
 refine one_ (i := 2) (N := some 37) #[Yy,Yy,Yy,Zz,Zz] rfl rfl (by kernel_rfl) (by decide) (fun K hK => ?_)
 refine goes_ Tryd.func23 (by kernel_rfl) rfl #[.agg #[.int .i64 a0_0, .slice A0_1 l0_1.length c0_1, .int .i64 a0_2]] (by rfl) rfl rfl (by (try simp only [List.map_toArray, List.map_cons, List.map_nil]); first | done | rfl | (simp only [List.length_drop, List.length_take]; rfl)) ?_
 with_reducible refine (laws_toDiagram.calls kj10 a0_0 _ _ l0_1 a0_2 t233 t234 t237 _ ?side1 ?side2 A28.1).mono ?_
 (case side1 => exact CB (C_below HR0_1.1 HB.1))
 (case side2 => exact HC0_1.1)
 rintro e w32 ⟨v235, rfl, ho0, hb⟩
 refine ⟨_, rfl, ?_⟩
 refine E5 (R_elder' (PR HO_231001.1) (R_base ho0) hb) (R_lower (R_new' ho0 (R_lt (PR HO_231001.1))) (bZ HB.1)) (bB BK216.1 hb) (bB BK230.1 hb) (bS HB.1 hb) ?_
 clear HO_231001 BK216 BK230 HB
 intro HO_231001 HO236 BK216 BK230 HB
 (try clear hb)
 (try clear hb2)
 (try clear hk)
 (try clear hi)
 (try clear ho0)
 obtain ⟨Ao33, co33, eo33⟩ := R_slice HO236.1
 (first | subst eo33 | (injection eo33 with f1_ f2_ f3_; have f4_ := f1_.symm; have f5_ := f3_.symm; clear f1_ f2_ f3_; subst f4_; subst f5_))
 refine hK.out _ _ ⟨(blk_cell BK230.1 0).trans rfl, (blk_cell BK230.1 1).trans rfl, (blk_cell BK230.1 2).trans rfl, (blk_cell BK216.1 0).trans rfl, (blk_cell BK216.1 1).trans rfl, (blk_cell BK216.1 2).trans rfl⟩ (fun hHeld => ?_)
 clear hK K
 refine norm_ (a' := ?_) ?_ ?_
 rotate_left
 · show Act.put _ (some 37) _ = _
   simp only [Act.put, List.setIfInBounds_toArray, List.set_cons_zero, List.set_cons_succ, i64_w, i32_w]
   rfl
 refine one_ (i := 3) (N := some 38) #[Yy,Yy,Yy,Yy,Zz] rfl rfl (by kernel_rfl) (by decide) (fun K hK => ?_)
 refine goes_ Tryd.func25 (by kernel_rfl) rfl #[.agg #[.int .i64 t225, .slice Ao24 t226.length co24, .int .i64 t229], .agg #[.int .i64 t233, .slice Ao33 t234.length co33, .int .i64 t237]] (by rfl) rfl rfl (by (try simp only [List.map_toArray, List.map_cons, List.map_nil]); first | done | rfl | (simp only [List.length_drop, List.length_take]; rfl)) ?_
 with_reducible refine (laws_eqDiagram.calls kj10 t225 _ _ t226 t229 t233 _ _ t234 t237 true _ ?side1 ?side2 ?side3 ?side4 A29.1).mono ?_
 (case side1 => exact CB (R_reads' HO_231001.1).2.2)
 (case side2 => exact (R_reads' HO_231001.1).2.1)
 (case side3 => exact CB (R_reads' HO236.1).2.2)
 (case side4 => exact (R_reads' HO236.1).2.1)
 rintro e w34 ⟨rfl, hb⟩
 refine ⟨_, rfl, ?_⟩
 refine E5 (rB HO_231001.1 hb) (rB HO236.1 hb) (bB BK216.1 hb) (bB BK230.1 hb) (bS HB.1 hb) ?_
 clear HO_231001 HO236 BK216 BK230 HB
 intro HO_231001 HO236 BK216 BK230 HB
 (try clear hb)
 (try clear hb2)
 (try clear hk)
 (try clear hi)
 refine hK.out _ _ ⟨(blk_cell BK230.1 0).trans rfl, (blk_cell BK230.1 1).trans rfl, (blk_cell BK230.1 2).trans rfl, (blk_cell BK216.1 0).trans rfl, (blk_cell BK216.1 1).trans rfl, (blk_cell BK216.1 2).trans rfl⟩ (fun hHeld => ?_)
 clear hK K
 refine norm_ (a' := ?_) ?_ ?_
 rotate_left
 · show Act.put _ (some 38) _ = _
   simp only [Act.put, List.setIfInBounds_toArray, List.set_cons_zero, List.set_cons_succ, i64_w, i32_w]
   rfl
 refine pure_ (i := 4) (N := some 39) (v := ?_) (a' := ?_) #[Yy,Yy,Yy,Yy,Yy] rfl rfl (by kernel_rfl) (fun _ _ _ h => h) (Or.inl ⟨by rfl, ?_⟩) ?_ ?_
 rotate_left
 · intro w'
   go_simp
   with_reducible rfl
 rotate_left
 · simp only [Act.put, List.setIfInBounds_toArray, List.set_cons_zero, List.set_cons_succ, i64_w, i32_w]
   rfl
 refine done_ (by kernel_rfl) ?_
 try go_wp2
 go_ret
 exact ⟨RF, BL HB.1⟩
end Go.Proofs.YtfekgidcnidijaaDoor.P
