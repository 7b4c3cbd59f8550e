-- PRINTED by print.py (a twelfth state) out of the translation. Not trusted: Lean checks it.
import Derived.Test.YthnehlphifegaaaPx0
namespace Go.Proofs.Ythnehlphifegaaa.P
open Go.RowKit Go.Proofs.YthnehlphifegaaaW.PrintWords Go.Proofs.YthnehlphifegaaaW.PrintLast Go.Proofs.YthnehlphifegaaaW.PrintMore
attribute [local go_sem] max2_int min2_int max_two min_two max_three min_three max_four min_four   -- for this text's walks alone
set_option linter.unusedVariables false
set_option linter.unusedSimpArgs false
set_option maxHeartbeats 8000000
set_option maxRecDepth 100000

/-! ### laws_szCellS: function 44 -/
open Kd
def laws_szCellS.f (l0 : List (S100)) (a1 : Int) : Option (Int) := if (wrap64 (a1 - (l0.length : Int))) < 0 then (some (-1)) else (some (wrap64 (a1 - (l0.length : Int))))
theorem laws_szCellS.calls (A0 : Option Addr) (c0 : Nat) (l0 : List (S100)) (a1 : Int) (r : Int) (w : World) (hr0 : Kd.C k100 w A0 l0.length l0) (hc0 : l0.length <= c0) (h : laws_szCellS.f l0 a1 = some r) :
 Calls Try.prog 44 #[.slice A0 l0.length c0, .int .i64 a1] w fun e w' => e = .returned (.int .i64 r) /\ Drawn0 w w' := by
 have HR0 := Aside0.mk hr0
 have HC0 := Aside0.mk hc0
 clear hr0 hc0
 have H := h
 clear h
 unfold laws_szCellS.f at H
 replace H := ifB H; rcases H with ⟨c3b0, H⟩ | ⟨c3b0, H⟩
 · obtain rfl := Option.some.inj H
   go_enter Try.func44, Try.ntmps44
   go_wp2
   go_ret
   exact ⟨RG, DR⟩
 obtain rfl := Option.some.inj H
 go_enter Try.func44, Try.ntmps44
 go_wp2
 go_ret
 exact ⟨RG, DR⟩
/-! ### laws_szBoard: function 28 -/
open Kd
def laws_szBoard.f (a0_0 : Int) (a0_1 : Int) (l0_2 : List (S100)) (a1 : Int) : Option (Int) := (laws_szCellS.f l0_2 a1).bind fun t102 => (if t102 < 0 then (some (-1)) else (some t102))
theorem laws_szBoard.calls (a0_0 : Int) (a0_1 : Int) (A0_2 : Option Addr) (c0_2 : Nat) (l0_2 : List (S100)) (a1 : Int) (r : Int) (w : World) (hr0_2 : Kd.C k100 w A0_2 l0_2.length l0_2) (hc0_2 : l0_2.length <= c0_2) (h : laws_szBoard.f a0_0 a0_1 l0_2 a1 = some r) :
 Calls Try.prog 28 #[.agg #[.int .i64 a0_0, .int .i64 a0_1, .slice A0_2 l0_2.length c0_2], .int .i64 a1] w fun e w' => e = .returned (.int .i64 r) /\ Below w.heap.size w w' := by
 have hu24 := Try.underlying24
 have HR0_2 := Aside0.mk hr0_2
 have HC0_2 := Aside0.mk hc0_2
 clear hr0_2 hc0_2
 have HB := Aside0.mk (Below.refl w.heap.size w)
 have H := h
 clear h
 unfold laws_szBoard.f at H
 replace H := bindA H; obtain ⟨t102, A3, H⟩ := H
 replace H := ifB H; rcases H with ⟨c4b0, H⟩ | ⟨c4b0, H⟩
 · obtain rfl := Option.some.inj H
   go_enter Try.func28, Try.ntmps28
   go_wp2_with (first | ((with_reducible refine gate_dst (N := 2) rfl ?_); refine boxE (cs := #[.int .i64 a0_0, .int .i64 a0_1, .slice A0_2 l0_2.length c0_2]) (t := 24) ?_; intro gb101 hg w5 hbox hb; refine E4b HB.1 hg hbox hb ?_; clear HB; intro HB BK101 GW101 GE101; clear hb hbox hg; obtain ⟨hcz6_0, hcz6_1, hcz6_2, hfz6_0, hfz6_1, hfz6_2⟩ := cz3 BK101.1) | ((with_reducible refine gate_callee (f := 44) rfl ?_); refine goesM (N := (some 8)) #[.slice A0_2 l0_2.length c0_2, .int .i64 a1] Try.func44 ?_; (with_reducible refine (laws_szCellS.calls _ _ l0_2 a1 t102 _ ?side1 ?side2 A3.1).mono ?_); (case side1 => exact CB (C_below HR0_2.1 HB.1)); (case side2 => exact HC0_2.1); rintro e w' ⟨rfl, ⟨nd, rfl⟩⟩; refine ⟨_, rfl, ?_⟩))
   go_ret
   exact ⟨RF, BL HB.1⟩
 obtain rfl := Option.some.inj H
 go_enter Try.func28, Try.ntmps28
 go_wp2_with (first | ((with_reducible refine gate_dst (N := 2) rfl ?_); refine boxE (cs := #[.int .i64 a0_0, .int .i64 a0_1, .slice A0_2 l0_2.length c0_2]) (t := 24) ?_; intro gb101 hg w7 hbox hb; refine E4b HB.1 hg hbox hb ?_; clear HB; intro HB BK101 GW101 GE101; clear hb hbox hg; obtain ⟨hcz8_0, hcz8_1, hcz8_2, hfz8_0, hfz8_1, hfz8_2⟩ := cz3 BK101.1) | ((with_reducible refine gate_callee (f := 44) rfl ?_); refine goesM (N := (some 8)) #[.slice A0_2 l0_2.length c0_2, .int .i64 a1] Try.func44 ?_; (with_reducible refine (laws_szCellS.calls _ _ l0_2 a1 t102 _ ?side1 ?side2 A3.1).mono ?_); (case side1 => exact CB (C_below HR0_2.1 HB.1)); (case side2 => exact HC0_2.1); rintro e w' ⟨rfl, ⟨nd, rfl⟩⟩; refine ⟨_, rfl, ?_⟩))
 go_ret
 exact ⟨RF, BL HB.1⟩
/-! ### laws_szMachine: function 7 -/
open Kd
def laws_szMachine.f (a0_0 : Int) (a0_1 : Int) (l0_2 : List (S100)) (a0_3 : Int) (a0_4 : Int) (a0_5 : Int) (a0_6 : Int) (a0_7 : Int) (a1 : Int) : Option (Int) := (laws_szBoard.f a0_0 a0_1 l0_2 a1).bind fun t104 => (if t104 < 0 then (some (-1)) else (some t104))
theorem laws_szMachine.calls (a0_0 : Int) (a0_1 : Int) (A0_2 : Option Addr) (c0_2 : Nat) (l0_2 : List (S100)) (a0_3 : Int) (a0_4 : Int) (a0_5 : Int) (a0_6 : Int) (a0_7 : Int) (a1 : Int) (r : Int) (w : World) (hr0_2 : Kd.C k100 w A0_2 l0_2.length l0_2) (hc0_2 : l0_2.length <= c0_2) (h : laws_szMachine.f a0_0 a0_1 l0_2 a0_3 a0_4 a0_5 a0_6 a0_7 a1 = some r) :
 Calls Try.prog 7 #[.agg #[.int .i64 a0_0, .int .i64 a0_1, .slice A0_2 l0_2.length c0_2, .int .i64 a0_3, .int .i64 a0_4, .int .i64 a0_5, .int .i64 a0_6, .int .i64 a0_7], .int .i64 a1] w fun e w' => e = .returned (.int .i64 r) /\ Below w.heap.size w w' := by
 have hu26 := Try.underlying26
 have hu24 := Try.underlying24
 have HR0_2 := Aside0.mk hr0_2
 have HC0_2 := Aside0.mk hc0_2
 clear hr0_2 hc0_2
 have HB := Aside0.mk (Below.refl w.heap.size w)
 have H := h
 clear h
 unfold laws_szMachine.f at H
 replace H := bindA H; obtain ⟨t104, A3, H⟩ := H
 replace H := ifB H; rcases H with ⟨c4b0, H⟩ | ⟨c4b0, H⟩
 · obtain rfl := Option.some.inj H
   go_enter Try.func7, Try.ntmps7
   go_wp2_with (first | ((with_reducible refine gate_dst (N := 2) rfl ?_); refine boxE (cs := #[.int .i64 a0_0, .int .i64 a0_1, .slice A0_2 l0_2.length c0_2, .int .i64 a0_3, .int .i64 a0_4, .int .i64 a0_5, .int .i64 a0_6, .int .i64 a0_7]) (t := 26) ?_; intro gb103 hg w5 hbox hb; refine E4b HB.1 hg hbox hb ?_; clear HB; intro HB BK103 GW103 GE103; clear hb hbox hg; obtain ⟨hcz6_0, hcz6_1, hcz6_2, hcz6_3, hcz6_4, hcz6_5, hcz6_6, hcz6_7, hfz6_0, hfz6_1, hfz6_2, hfz6_3, hfz6_4, hfz6_5, hfz6_6, hfz6_7⟩ := cz8 BK103.1) | ((with_reducible refine gate_callee (f := 28) rfl ?_); refine goesM (N := (some 8)) #[.agg #[.int .i64 a0_0, .int .i64 a0_1, .slice A0_2 l0_2.length c0_2], .int .i64 a1] Try.func28 ?_; (with_reducible refine (laws_szBoard.calls a0_0 a0_1 _ _ l0_2 a1 t104 _ ?side1 ?side2 A3.1).mono ?_); (case side1 => exact CB (C_below HR0_2.1 HB.1)); (case side2 => exact HC0_2.1); rintro e w7 ⟨rfl, hb⟩; refine ⟨_, rfl, ?_⟩; refine E2 (bB BK103.1 hb) (bS HB.1 hb) ?_; clear BK103 HB; intro BK103 HB; (try clear hb)))
   go_ret
   exact ⟨RF, BL HB.1⟩
 obtain rfl := Option.some.inj H
 go_enter Try.func7, Try.ntmps7
 go_wp2_with (first | ((with_reducible refine gate_dst (N := 2) rfl ?_); refine boxE (cs := #[.int .i64 a0_0, .int .i64 a0_1, .slice A0_2 l0_2.length c0_2, .int .i64 a0_3, .int .i64 a0_4, .int .i64 a0_5, .int .i64 a0_6, .int .i64 a0_7]) (t := 26) ?_; intro gb103 hg w8 hbox hb; refine E4b HB.1 hg hbox hb ?_; clear HB; intro HB BK103 GW103 GE103; clear hb hbox hg; obtain ⟨hcz9_0, hcz9_1, hcz9_2, hcz9_3, hcz9_4, hcz9_5, hcz9_6, hcz9_7, hfz9_0, hfz9_1, hfz9_2, hfz9_3, hfz9_4, hfz9_5, hfz9_6, hfz9_7⟩ := cz8 BK103.1) | ((with_reducible refine gate_callee (f := 28) rfl ?_); refine goesM (N := (some 8)) #[.agg #[.int .i64 a0_0, .int .i64 a0_1, .slice A0_2 l0_2.length c0_2], .int .i64 a1] Try.func28 ?_; (with_reducible refine (laws_szBoard.calls a0_0 a0_1 _ _ l0_2 a1 t104 _ ?side1 ?side2 A3.1).mono ?_); (case side1 => exact CB (C_below HR0_2.1 HB.1)); (case side2 => exact HC0_2.1); rintro e w10 ⟨rfl, hb⟩; refine ⟨_, rfl, ?_⟩; refine E2 (bB BK103.1 hb) (bS HB.1 hb) ?_; clear BK103 HB; intro BK103 HB; (try clear hb)))
 go_ret
 exact ⟨RF, BL HB.1⟩
/-! ### spec_l1In: function 46 -/
open Kd
def spec_l1In.f (a0 : Int) (a1 : Int) (a2 : Int) : Option (Bool) := if a0 ≥ a1 then (some (decide (a0 <= a2))) else (some false)
theorem spec_l1In.calls (a0 : Int) (a1 : Int) (a2 : Int) (r : Bool) (w : World) (h : spec_l1In.f a0 a1 a2 = some r) :
 Calls Try.prog 46 #[.int .i64 a0, .int .i64 a1, .int .i64 a2] w fun e w' => e = .returned (.bool r) /\ Drawn0 w w' := by
 have H := h
 clear h
 unfold spec_l1In.f at H
 replace H := ifQ H; rcases H with ⟨c4, H⟩ | ⟨c4, H⟩
 · have c4b0 : decide (a1 <= a0) = true := decide_eq_true c4
   clear c4
   obtain rfl := Option.some.inj H
   go_enter Try.func46, Try.ntmps46
   go_wp2
   go_ret
   exact ⟨RG, DR⟩
 have c4b0 : decide (a1 <= a0) = false := decide_eq_false c4
 clear c4
 obtain rfl := Option.some.inj H
 go_enter Try.func46, Try.ntmps46
 go_wp2
 go_ret
 exact ⟨RG, DR⟩
/-! ### spec_paTurning: function 77 -/
open Kd
def spec_paTurning.f (a0_0 : Int) (a0_1 : Int) : Option (Bool) := if a0_0 = 3 then (some true) else (some (a0_0 == 6))
theorem spec_paTurning.calls (a0_0 : Int) (a0_1 : Int) (r : Bool) (w : World) (h : spec_paTurning.f a0_0 a0_1 = some r) :
 Calls Try.prog 77 #[.agg #[.int .i64 a0_0, .int .i64 a0_1]] w fun e w' => e = .returned (.bool r) /\ Below w.heap.size w w' := by
 have hu98 := Try.underlying98
 have HB := Aside0.mk (Below.refl w.heap.size w)
 have H := h
 clear h
 unfold spec_paTurning.f at H
 replace H := ifQ H; rcases H with ⟨c2, H⟩ | ⟨c2, H⟩
 · have c2b0 := beq_iff_eq.mpr c2
   have c2b1 := bne_eq_false_iff_eq.mpr c2
   clear c2
   obtain rfl := Option.some.inj H
   go_enter Try.func77, Try.ntmps77
   go_wp2_with (first | ((with_reducible refine gate_dst (N := 1) rfl ?_); refine boxE (cs := #[.int .i64 a0_0, .int .i64 a0_1]) (t := 98) ?_; intro gb105 hg w3 hbox hb; refine E4b HB.1 hg hbox hb ?_; clear HB; intro HB BK105 GW105 GE105; clear hb hbox hg; obtain ⟨hcz4_0, hcz4_1, hfz4_0, hfz4_1⟩ := cz2 BK105.1))
   go_ret
   exact ⟨RF, BL HB.1⟩
 have c2b0 := beq_eq_false_iff_ne.mpr c2
 have c2b1 := bne_iff_ne.mpr c2
 obtain rfl := Option.some.inj H
 go_enter Try.func77, Try.ntmps77
 go_wp2_with (first | ((with_reducible refine gate_dst (N := 1) rfl ?_); refine boxE (cs := #[.int .i64 a0_0, .int .i64 a0_1]) (t := 98) ?_; intro gb105 hg w5 hbox hb; refine E4b HB.1 hg hbox hb ?_; clear HB; intro HB BK105 GW105 GE105; clear hb hbox hg; obtain ⟨hcz6_0, hcz6_1, hfz6_0, hfz6_1⟩ := cz2 BK105.1))
 go_ret
 exact ⟨RF, BL HB.1⟩
/-! ### spec_paGood: function 71 -/
open Kd
def spec_paGood.f (a0_0 : Int) (a0_1 : Int) : Option (Bool) := (spec_l1In.f a0_0 0 7).bind fun t107 => (if t107 = true then (if a0_1 = 0 then (some true) else (if a0_1 = 1 then ((spec_paTurning.f a0_0 a0_1).bind fun t108 => (some t108)) else (some false))) else (some false))
theorem spec_paGood.calls (a0_0 : Int) (a0_1 : Int) (r : Bool) (w : World) (h : spec_paGood.f a0_0 a0_1 = some r) :
 Calls Try.prog 71 #[.agg #[.int .i64 a0_0, .int .i64 a0_1]] w fun e w' => e = .returned (.bool r) /\ Below w.heap.size w w' := by
 have hu98 := Try.underlying98
 have HB := Aside0.mk (Below.refl w.heap.size w)
 have H := h
 clear h
 unfold spec_paGood.f at H
 replace H := bindA H; obtain ⟨t107, A2, H⟩ := H
 replace H := ifX H; rcases H with ⟨rfl, H⟩ | ⟨rfl, H⟩
 · replace H := ifQ H; rcases H with ⟨c4, H⟩ | ⟨c4, H⟩
   · have c4b0 := beq_iff_eq.mpr c4
     have c4b1 := bne_eq_false_iff_eq.mpr c4
     clear c4
     obtain rfl := Option.some.inj H
     go_enter Try.func71, Try.ntmps71
     go_wp2_with (first | ((with_reducible refine gate_dst (N := 1) rfl ?_); refine boxE (cs := #[.int .i64 a0_0, .int .i64 a0_1]) (t := 98) ?_; intro gb106 hg w5 hbox hb; refine E4b HB.1 hg hbox hb ?_; clear HB; intro HB BK106 GW106 GE106; clear hb hbox hg; obtain ⟨hcz6_0, hcz6_1, hfz6_0, hfz6_1⟩ := cz2 BK106.1) | ((with_reducible refine gate_callee (f := 46) rfl ?_); refine goesM (N := (some 5)) #[.int .i64 a0_0, .int .i64 0, .int .i64 7] Try.func46 ?_; (with_reducible refine (spec_l1In.calls a0_0 0 7 true _ A2.1).mono ?_); rintro e w' ⟨rfl, ⟨nd, rfl⟩⟩; refine ⟨_, rfl, ?_⟩))
     go_ret
     exact ⟨RF, BL HB.1⟩
   have c4b0 := beq_eq_false_iff_ne.mpr c4
   have c4b1 := bne_iff_ne.mpr c4
   replace H := ifQ H; rcases H with ⟨c7, H⟩ | ⟨c7, H⟩
   · have c7b0 := beq_iff_eq.mpr c7
     have c7b1 := bne_eq_false_iff_eq.mpr c7
     clear c7
     replace H := bindA H; obtain ⟨t108, A8, H⟩ := H
     obtain rfl := Option.some.inj H
     go_enter Try.func71, Try.ntmps71
     go_wp2_with (first | ((with_reducible refine gate_dst (N := 1) rfl ?_); refine boxE (cs := #[.int .i64 a0_0, .int .i64 a0_1]) (t := 98) ?_; intro gb106 hg w9 hbox hb; refine E4b HB.1 hg hbox hb ?_; clear HB; intro HB BK106 GW106 GE106; clear hb hbox hg; obtain ⟨hcz10_0, hcz10_1, hfz10_0, hfz10_1⟩ := cz2 BK106.1) | ((with_reducible refine gate_callee (f := 46) rfl ?_); refine goesM (N := (some 5)) #[.int .i64 a0_0, .int .i64 0, .int .i64 7] Try.func46 ?_; (with_reducible refine (spec_l1In.calls a0_0 0 7 true _ A2.1).mono ?_); rintro e w' ⟨rfl, ⟨nd, rfl⟩⟩; refine ⟨_, rfl, ?_⟩) | (go_at_call 77; (with_reducible refine (spec_paTurning.calls a0_0 a0_1 t108 _ A8.1).mono ?_); rintro e w11 ⟨rfl, hb⟩; refine E2 (bB BK106.1 hb) (bS HB.1 hb) ?_; clear BK106 HB; intro BK106 HB; (try clear hb)))
     go_ret
     exact ⟨RF, BL HB.1⟩
   have c7b0 := beq_eq_false_iff_ne.mpr c7
   have c7b1 := bne_iff_ne.mpr c7
   obtain rfl := Option.some.inj H
   go_enter Try.func71, Try.ntmps71
   go_wp2_with (first | ((with_reducible refine gate_dst (N := 1) rfl ?_); refine boxE (cs := #[.int .i64 a0_0, .int .i64 a0_1]) (t := 98) ?_; intro gb106 hg w12 hbox hb; refine E4b HB.1 hg hbox hb ?_; clear HB; intro HB BK106 GW106 GE106; clear hb hbox hg; obtain ⟨hcz13_0, hcz13_1, hfz13_0, hfz13_1⟩ := cz2 BK106.1) | ((with_reducible refine gate_callee (f := 46) rfl ?_); refine goesM (N := (some 5)) #[.int .i64 a0_0, .int .i64 0, .int .i64 7] Try.func46 ?_; (with_reducible refine (spec_l1In.calls a0_0 0 7 true _ A2.1).mono ?_); rintro e w' ⟨rfl, ⟨nd, rfl⟩⟩; refine ⟨_, rfl, ?_⟩))
   go_ret
   exact ⟨RF, BL HB.1⟩
 obtain rfl := Option.some.inj H
 go_enter Try.func71, Try.ntmps71
 go_wp2_with (first | ((with_reducible refine gate_dst (N := 1) rfl ?_); refine boxE (cs := #[.int .i64 a0_0, .int .i64 a0_1]) (t := 98) ?_; intro gb106 hg w14 hbox hb; refine E4b HB.1 hg hbox hb ?_; clear HB; intro HB BK106 GW106 GE106; clear hb hbox hg; obtain ⟨hcz15_0, hcz15_1, hfz15_0, hfz15_1⟩ := cz2 BK106.1) | ((with_reducible refine gate_callee (f := 46) rfl ?_); refine goesM (N := (some 5)) #[.int .i64 a0_0, .int .i64 0, .int .i64 7] Try.func46 ?_; (with_reducible refine (spec_l1In.calls a0_0 0 7 false _ A2.1).mono ?_); rintro e w' ⟨rfl, ⟨nd, rfl⟩⟩; refine ⟨_, rfl, ?_⟩))
 go_ret
 exact ⟨RF, BL HB.1⟩

/-! ### spec_boGood: function 62 -/
open Kd
mutual
def spec_boGood.j0 : Nat -> Bool -> Int -> Int -> List (S98) -> Option (Bool)
 | 0, _, _, _, _ => none
 | k + 1, x25, x110000, x110001, x110002 => if x25 = true then (some false) else (spec_boGood.l0 k x110002 (x110002.length : Int) 0)
def spec_boGood.l0 : Nat -> List (S98) -> Int -> Int -> Option (Bool)
 | 0, _, _, _ => none
 | k + 1, x27, x28, x29 => if x29 < x28 then (if 0 <= x29 then (if x29 < (x27.length : Int) then ((spec_paGood.f ((rd_T98 x27 x29).f0) ((rd_T98 x27 x29).f1)).bind fun t114 => (if t114 = true then (spec_boGood.l0 k x27 x28 (wrap64 (x29 + 1))) else (some false))) else (none)) else (none)) else (some true)
end
def spec_boGood.f (k : Nat) (a0_0 : Int) (a0_1 : Int) (l0_2 : List (S98)) : Option (Bool) := (spec_l1In.f a0_0 1 10).bind fun t110 => (if t110 = true then ((spec_l1In.f a0_1 1 9).bind fun t111 => (if t111 = true then (spec_boGood.j0 k ((l0_2.length : Int) != (wrap64 (a0_0 * a0_1))) a0_0 a0_1 l0_2) else (spec_boGood.j0 k true a0_0 a0_1 l0_2))) else (spec_boGood.j0 k true a0_0 a0_1 l0_2))
theorem spec_boGood.mono_l : ∀ k, (∀ y0 y1 y2 y3, LeO (spec_boGood.j0 k y0 y1 y2 y3) (spec_boGood.j0 (k + 1) y0 y1 y2 y3)) /\ (∀ y0 y1 y2, LeO (spec_boGood.l0 k y0 y1 y2) (spec_boGood.l0 (k + 1) y0 y1 y2))
 | 0 => by refine ⟨?_, ?_⟩ <;> (intros; intro r h; first | (simp [spec_boGood.j0] at h; done) | (simp [spec_boGood.l0] at h; done))
 | k + 1 => by
  obtain ⟨ih0, ih1⟩ := spec_boGood.mono_l k
  refine ⟨?_, ?_⟩ <;> (
   intros
   first | unfold spec_boGood.j0 | unfold spec_boGood.l0
   exact LM2 ih0 ih1)
theorem spec_boGood.mono : ∀ a0 a1 a2 k, LeO (spec_boGood.f k a0 a1 a2) (spec_boGood.f (k + 1) a0 a1 a2) := by
 intro a0 a1 a2 k
 obtain ⟨ih0, ih1⟩ := spec_boGood.mono_l k
 unfold spec_boGood.f
 exact LM2 ih0 ih1
theorem spec_boGood.calls (k : Nat) (a0_0 : Int) (a0_1 : Int) (A0_2 : Option Addr) (c0_2 : Nat) (l0_2 : List (S98)) (r : Bool) (w : World) (hr0_2 : Kd.C k98 w A0_2 l0_2.length l0_2) (hc0_2 : l0_2.length <= c0_2) (h : spec_boGood.f k a0_0 a0_1 l0_2 = some r) :
 Calls Try.prog 62 #[.agg #[.int .i64 a0_0, .int .i64 a0_1, .slice A0_2 l0_2.length c0_2]] w fun e w' => e = .returned (.bool r) /\ Below w.heap.size w w' := by
 have hu33 := Try.underlying33
 have hu98 := Try.underlying98
 have HR0_2 := Aside0.mk hr0_2
 have HC0_2 := Aside0.mk hc0_2
 clear hr0_2 hc0_2
 have HB := Aside0.mk (Below.refl w.heap.size w)
 have H := h
 clear h
 unfold spec_boGood.f at H
 have HC2 := Aside0.mk H
 clear H
 go_enter Try.func62, Try.ntmps62
 go_upto_region 1 with (first | ((with_reducible refine gate_dst (N := 1) rfl ?_); (try (refine gate_guard (by rfl) ?_; dsimp only)); refine boxE (cs := #[.int .i64 a0_0, .int .i64 a0_1, .slice A0_2 l0_2.length c0_2]) (t := 33) ?_; intro gb109 hg w3 hbox hb; refine E4b HB.1 hg hbox hb ?_; clear HB; intro HB BK109 GW109 GE109; clear hb hbox hg))
 (try simp only [Act.put, List.setIfInBounds_toArray, List.set_cons_zero, List.set_cons_succ])
 go_cut [25] (fun v25 wc => ∃ (kq : Nat) (x25_1 : Bool), v25 = .bool x25_1 /\ Aside0 (spec_boGood.j0 kq x25_1 a0_0 a0_1 l0_2 = some r) /\ Aside0 (kq <= k) /\ Aside0 (wc.heap[gb109]? = some (.cells #[.int .i64 a0_0, .int .i64 a0_1, (.slice A0_2 l0_2.length c0_2)] 33 (0, 0))) /\ Aside0 (Below w.heap.size w wc))
 case first =>
  have H := HC2.1
  clear HC2
  replace H := bindA H; obtain ⟨t110, A4, H⟩ := H
  replace H := ifX H; rcases H with ⟨rfl, H⟩ | ⟨rfl, H⟩
  · replace H := bindA H; obtain ⟨t111, A6, H⟩ := H
    replace H := ifX H; rcases H with ⟨rfl, H⟩ | ⟨rfl, H⟩
    · have H' := Aside0.mk H
      clear H
      obtain ⟨hcz8_0, hcz8_1, hcz8_2, hfz8_0, hfz8_1, hfz8_2⟩ := cz3 BK109.1
      go_wp2_with (first | ((with_reducible refine gate_callee (f := 46) rfl ?_); refine goesM (N := (some 7)) #[.int .i64 a0_0, .int .i64 1, .int .i64 10] Try.func46 ?_; (with_reducible refine (spec_l1In.calls a0_0 1 10 true _ A4.1).mono ?_); rintro e w' ⟨rfl, ⟨nd, rfl⟩⟩; refine ⟨_, rfl, ?_⟩) | (go_at_call 46; (with_reducible refine (spec_l1In.calls a0_1 1 9 true _ A6.1).mono ?_); rintro e w' ⟨rfl, ⟨nd, rfl⟩⟩))
      go_meet
      case rel => exact ⟨_, (((l0_2.length : Int) != (wrap64 (a0_0 * a0_1)))), RG, H', ⟨by first | omega | exact Nat.le_refl _⟩, ⟨PB BK109.1⟩, ⟨BL HB.1⟩⟩
    have H' := Aside0.mk H
    clear H
    obtain ⟨hcz9_0, hcz9_1, hcz9_2, hfz9_0, hfz9_1, hfz9_2⟩ := cz3 BK109.1
    go_wp2_with (first | ((with_reducible refine gate_callee (f := 46) rfl ?_); refine goesM (N := (some 7)) #[.int .i64 a0_0, .int .i64 1, .int .i64 10] Try.func46 ?_; (with_reducible refine (spec_l1In.calls a0_0 1 10 true _ A4.1).mono ?_); rintro e w' ⟨rfl, ⟨nd, rfl⟩⟩; refine ⟨_, rfl, ?_⟩) | (go_at_call 46; (with_reducible refine (spec_l1In.calls a0_1 1 9 false _ A6.1).mono ?_); rintro e w' ⟨rfl, ⟨nd, rfl⟩⟩))
    go_meet
    case rel => exact ⟨_, (true), RG, H', ⟨by first | omega | exact Nat.le_refl _⟩, ⟨PB BK109.1⟩, ⟨BL HB.1⟩⟩
  have H' := Aside0.mk H
  clear H
  obtain ⟨hcz10_0, hcz10_1, hcz10_2, hfz10_0, hfz10_1, hfz10_2⟩ := cz3 BK109.1
  go_wp2_with (first | ((with_reducible refine gate_callee (f := 46) rfl ?_); refine goesM (N := (some 7)) #[.int .i64 a0_0, .int .i64 1, .int .i64 10] Try.func46 ?_; (with_reducible refine (spec_l1In.calls a0_0 1 10 false _ A4.1).mono ?_); rintro e w' ⟨rfl, ⟨nd, rfl⟩⟩; refine ⟨_, rfl, ?_⟩))
  go_meet
  case rel => exact ⟨_, (true), RG, H', ⟨by first | omega | exact Nat.le_refl _⟩, ⟨PB BK109.1⟩, ⟨BL HB.1⟩⟩
 clear HC2
 obtain ⟨kq, x25_1, rfl, HA, HJ1, BK109, HB⟩ := hcut
 cases kq with
 | zero => exact absurd HA.1 (by simp [spec_boGood.j0])
 | succ kj1 => ?_
 have H := HA.1
 clear HA
 simp only [spec_boGood.j0] at H
 replace H := ifX H; rcases H with ⟨rfl, H⟩ | ⟨rfl, H⟩
 · obtain rfl := Option.some.inj H
   go_wp2
   go_ret
   exact ⟨RF, BL HB.1⟩
 have H' := Aside0.mk H
 clear H
 obtain ⟨hcz12_0, hcz12_1, hcz12_2, hfz12_0, hfz12_1, hfz12_2⟩ := cz3 BK109.1
 go_wp2
 go_loopg [29] kj1 (fun kq v29 w' => ∃ (x29_2 : Int), v29 = .int .i64 x29_2 /\ Aside0 (spec_boGood.l0 kq l0_2 (l0_2.length : Int) x29_2 = some r) /\ Aside0 (kq <= kj1) /\ Aside0 (w'.heap[gb109]? = some (.cells #[.int .i64 a0_0, .int .i64 a0_1, (.slice A0_2 l0_2.length c0_2)] 33 (0, 0))) /\ Aside0 (Below w.heap.size w w'))
 case atStart => exact ⟨(0), RG, H', ⟨Nat.le_refl _⟩, ⟨PB BK109.1⟩, ⟨BL HB.1⟩⟩
 clear H'
 clear hcz12_0 hcz12_1 hcz12_2 hfz12_0 hfz12_1 hfz12_2
 obtain ⟨x29_2, rfl, HA, HK2, BK109, HB⟩ := hrel
 cases gk with
 | zero => exact absurd HA.1 (by simp [spec_boGood.l0])
 | succ k2 => ?_
 have H := HA.1
 clear HA
 simp only [spec_boGood.l0] at H
 replace H := ifB H; rcases H with ⟨c13b0, H⟩ | ⟨c13b0, H⟩
 · replace H := ifN H; obtain ⟨c14b0, H⟩ := H
   replace H := ifN H; obtain ⟨c15b0, H⟩ := H
   replace H := bindA H; obtain ⟨t114, A16, H⟩ := H
   replace H := ifX H; rcases H with ⟨rfl, H⟩ | ⟨rfl, H⟩
   · have H' := Aside0.mk H
     clear H
     have p112 : 0 <= (x29_2 : Int) := OD
     have q112 : x29_2 < (l0_2.length : Int) := OD
     obtain ⟨ad112, e112, hx112_0, hx112_1⟩ := at_T98 HR0_2.1 x29_2 p112 q112
     cases e112
     replace hx112_0 := (HB.1.cell (World.block_lt_of_cell? w _ hx112_0)).trans hx112_0
     replace hx112_1 := (HB.1.cell (World.block_lt_of_cell? w _ hx112_1)).trans hx112_1
     replace p112 := eq_true p112
     replace q112 := eq_true q112
     go_wp2_with (first | ((with_reducible refine gate_dst (N := 4) rfl ?_); (try (refine gate_guard (by rfl) ?_; dsimp only)); refine boxE (cs := #[.int .i64 0, .int .i64 0]) (t := 98) ?_; intro gb113 hg w18 hbox hb; refine E7 (bB BK109.1 hb) (bS HB.1 hb) (hbox) (gX HB.1 hg) (gX HB.1 hg) (nB BK109.1 hg) (nC BK109.1 hg) ?_; clear BK109 HB; intro BK109 HB BK113 GW113 GE113 NB109_113 NB113_109; clear hb hbox hg; have hnb19 := NB113_109.1; have hnc19 := NB109_113.1; obtain ⟨hcz20_0, hcz20_1, hfz20_0, hfz20_1⟩ := cz2 BK113.1) | ((with_reducible refine gate_callee (f := 71) rfl ?_); refine goesM (N := (some 34)) #[.agg #[.int .i64 ((rd_T98 l0_2 x29_2).f0), .int .i64 ((rd_T98 l0_2 x29_2).f1)]] Try.func71 ?_; (with_reducible refine (spec_paGood.calls ((rd_T98 l0_2 x29_2).f0) ((rd_T98 l0_2 x29_2).f1) true _ A16.1).mono ?_); rintro e w21 ⟨rfl, hb⟩; refine ⟨_, rfl, ?_⟩; refine E3 (blk_below (g := gb109) (o := .cells #[.int .i64 a0_0, .int .i64 a0_1, .slice (some ad112) l0_2.length c0_2] 33 (0, 0)) (PF1 NB109_113.1 BK109.1) hb) (blk_below (g := gb113) (o := .cells #[.int .i64 ((rd_T98 l0_2 x29_2).f0), .int .i64 ((rd_T98 l0_2 x29_2).f1)] 98 (0, 0)) (PF0 BK113.1) hb) (bS HB.1 hb) ?_; clear BK109 BK113 HB; intro BK109 BK113 HB; (try clear hb)))
     go_roundg k2
     case measure => have := HJ1.1; have := HK2.1; omega
     case rel => exact ⟨(wrap64 (x29_2 + 1)), RG, H', ⟨by have := HJ1.1; have := HK2.1; omega⟩, ⟨PB BK109.1⟩, ⟨BL HB.1⟩⟩
   obtain rfl := Option.some.inj H
   have p112 : 0 <= (x29_2 : Int) := OD
   have q112 : x29_2 < (l0_2.length : Int) := OD
   obtain ⟨ad112, e112, hx112_0, hx112_1⟩ := at_T98 HR0_2.1 x29_2 p112 q112
   cases e112
   replace hx112_0 := (HB.1.cell (World.block_lt_of_cell? w _ hx112_0)).trans hx112_0
   replace hx112_1 := (HB.1.cell (World.block_lt_of_cell? w _ hx112_1)).trans hx112_1
   replace p112 := eq_true p112
   replace q112 := eq_true q112
   go_wp2_with (first | ((with_reducible refine gate_dst (N := 4) rfl ?_); (try (refine gate_guard (by rfl) ?_; dsimp only)); refine boxE (cs := #[.int .i64 0, .int .i64 0]) (t := 98) ?_; intro gb113 hg w22 hbox hb; refine E7 (bB BK109.1 hb) (bS HB.1 hb) (hbox) (gX HB.1 hg) (gX HB.1 hg) (nB BK109.1 hg) (nC BK109.1 hg) ?_; clear BK109 HB; intro BK109 HB BK113 GW113 GE113 NB109_113 NB113_109; clear hb hbox hg; have hnb23 := NB113_109.1; have hnc23 := NB109_113.1; obtain ⟨hcz24_0, hcz24_1, hfz24_0, hfz24_1⟩ := cz2 BK113.1) | ((with_reducible refine gate_callee (f := 71) rfl ?_); refine goesM (N := (some 34)) #[.agg #[.int .i64 ((rd_T98 l0_2 x29_2).f0), .int .i64 ((rd_T98 l0_2 x29_2).f1)]] Try.func71 ?_; (with_reducible refine (spec_paGood.calls ((rd_T98 l0_2 x29_2).f0) ((rd_T98 l0_2 x29_2).f1) false _ A16.1).mono ?_); rintro e w25 ⟨rfl, hb⟩; refine ⟨_, rfl, ?_⟩; refine E3 (blk_below (g := gb109) (o := .cells #[.int .i64 a0_0, .int .i64 a0_1, .slice (some ad112) l0_2.length c0_2] 33 (0, 0)) (PF1 NB109_113.1 BK109.1) hb) (blk_below (g := gb113) (o := .cells #[.int .i64 ((rd_T98 l0_2 x29_2).f0), .int .i64 ((rd_T98 l0_2 x29_2).f1)] 98 (0, 0)) (PF0 BK113.1) hb) (bS HB.1 hb) ?_; clear BK109 BK113 HB; intro BK109 BK113 HB; (try clear hb)))
   go_ret
   exact ⟨RF, BL HB.1⟩
 obtain rfl := Option.some.inj H
 go_wp2
 go_ret
 exact ⟨RF, BL HB.1⟩
/-! ### spec_flHas: function 45 -/
open Kd
def spec_flHas.f (k : Nat) (a0_0 : Int) (a0_1 : Int) (l0_2 : List (S98)) (a1 : Int) : Option (Bool) := (spec_boGood.f k a0_0 a0_1 l0_2).bind fun t116 => (if t116 = true then ((spec_l1In.f a1 0 (wrap64 (a0_1 - 1))).bind fun t117 => (some t117)) else (some false))
theorem spec_flHas.mono : ∀ a0 a1 a2 a3 k, LeO (spec_flHas.f k a0 a1 a2 a3) (spec_flHas.f (k + 1) a0 a1 a2 a3) := by
 intro a0 a1 a2 a3 k
 unfold spec_flHas.f
 repeat' first
  | (with_reducible exact spec_boGood.mono _ _ _ _)
  | (with_reducible exact LeO.refl _)
  | (with_reducible exact LeO.none _)
  | (with_reducible refine LeO.ite ?_ ?_)
  | (with_reducible refine LeO.bind ?_ (fun _ => ?_))
  | exact spec_boGood.mono _ _ _ _
  | exact LeO.none _
  | refine LeO.ite ?_ ?_
  | refine LeO.bind ?_ (fun _ => ?_)
theorem spec_flHas.calls (k : Nat) (a0_0 : Int) (a0_1 : Int) (A0_2 : Option Addr) (c0_2 : Nat) (l0_2 : List (S98)) (a1 : Int) (r : Bool) (w : World) (hr0_2 : Kd.C k98 w A0_2 l0_2.length l0_2) (hc0_2 : l0_2.length <= c0_2) (h : spec_flHas.f k a0_0 a0_1 l0_2 a1 = some r) :
 Calls Try.prog 45 #[.agg #[.int .i64 a0_0, .int .i64 a0_1, .slice A0_2 l0_2.length c0_2], .int .i64 a1] w fun e w' => e = .returned (.bool r) /\ Below w.heap.size w w' := by
 have hu33 := Try.underlying33
 have HR0_2 := Aside0.mk hr0_2
 have HC0_2 := Aside0.mk hc0_2
 clear hr0_2 hc0_2
 have HB := Aside0.mk (Below.refl w.heap.size w)
 have H := h
 clear h
 unfold spec_flHas.f at H
 replace H := bindA H; obtain ⟨t116, A3, H⟩ := H
 replace H := ifX H; rcases H with ⟨rfl, H⟩ | ⟨rfl, H⟩
 · replace H := bindA H; obtain ⟨t117, A5, H⟩ := H
   obtain rfl := Option.some.inj H
   go_enter Try.func45, Try.ntmps45
   go_wp2_with (first | ((with_reducible refine gate_dst (N := 2) rfl ?_); refine boxE (cs := #[.int .i64 a0_0, .int .i64 a0_1, .slice A0_2 l0_2.length c0_2]) (t := 33) ?_; intro gb115 hg w6 hbox hb; refine E4b HB.1 hg hbox hb ?_; clear HB; intro HB BK115 GW115 GE115; clear hb hbox hg; obtain ⟨hcz7_0, hcz7_1, hcz7_2, hfz7_0, hfz7_1, hfz7_2⟩ := cz3 BK115.1) | ((with_reducible refine gate_callee (f := 62) rfl ?_); refine goesM (N := (some 6)) #[.agg #[.int .i64 a0_0, .int .i64 a0_1, .slice A0_2 l0_2.length c0_2]] Try.func62 ?_; (with_reducible refine (spec_boGood.calls k a0_0 a0_1 _ _ l0_2 true _ ?side1 ?side2 A3.1).mono ?_); (case side1 => exact CB (C_below HR0_2.1 HB.1)); (case side2 => exact HC0_2.1); rintro e w8 ⟨rfl, hb⟩; refine ⟨_, rfl, ?_⟩; refine E2 (bB BK115.1 hb) (bS HB.1 hb) ?_; clear BK115 HB; intro BK115 HB; (try clear hb); obtain ⟨hcz9_0, hcz9_1, hcz9_2, hfz9_0, hfz9_1, hfz9_2⟩ := cz3 BK115.1) | (go_at_call 46; (with_reducible refine (spec_l1In.calls a1 0 (wrap64 (a0_1 - 1)) t117 _ A5.1).mono ?_); rintro e w' ⟨rfl, ⟨nd, rfl⟩⟩))
   go_ret
   exact ⟨RF, BL HB.1⟩
 obtain rfl := Option.some.inj H
 go_enter Try.func45, Try.ntmps45
 go_wp2_with (first | ((with_reducible refine gate_dst (N := 2) rfl ?_); refine boxE (cs := #[.int .i64 a0_0, .int .i64 a0_1, .slice A0_2 l0_2.length c0_2]) (t := 33) ?_; intro gb115 hg w10 hbox hb; refine E4b HB.1 hg hbox hb ?_; clear HB; intro HB BK115 GW115 GE115; clear hb hbox hg; obtain ⟨hcz11_0, hcz11_1, hcz11_2, hfz11_0, hfz11_1, hfz11_2⟩ := cz3 BK115.1) | ((with_reducible refine gate_callee (f := 62) rfl ?_); refine goesM (N := (some 6)) #[.agg #[.int .i64 a0_0, .int .i64 a0_1, .slice A0_2 l0_2.length c0_2]] Try.func62 ?_; (with_reducible refine (spec_boGood.calls k a0_0 a0_1 _ _ l0_2 false _ ?side1 ?side2 A3.1).mono ?_); (case side1 => exact CB (C_below HR0_2.1 HB.1)); (case side2 => exact HC0_2.1); rintro e w12 ⟨rfl, hb⟩; refine ⟨_, rfl, ?_⟩; refine E2 (bB BK115.1 hb) (bS HB.1 hb) ?_; clear BK115 HB; intro BK115 HB; (try clear hb)))
 go_ret
 exact ⟨RF, BL HB.1⟩

/-! ### spec_maGood: function 29 -/
open Kd
def spec_maGood.f (k : Nat) (a0_0 : Int) (a0_1 : Int) (l0_2 : List (S98)) (a0_3 : Int) (a0_4 : Int) (a0_5 : Int) (a0_6 : Int) (a0_7 : Int) : Option (Bool) := (spec_flHas.f k a0_0 a0_1 l0_2 a0_3).bind fun t119 => (if t119 = true then ((spec_flHas.f k a0_0 a0_1 l0_2 a0_4).bind fun t120 => (if t120 = true then ((spec_l1In.f a0_5 0 30).bind fun t121 => (if t121 = true then ((spec_l1In.f a0_6 0 30).bind fun t122 => (if t122 = true then ((spec_l1In.f a0_7 0 2).bind fun t123 => (some t123)) else (some false))) else (some false))) else (some false))) else (some false))
theorem spec_maGood.mono : ∀ a0 a1 a2 a3 a4 a5 a6 a7 k, LeO (spec_maGood.f k a0 a1 a2 a3 a4 a5 a6 a7) (spec_maGood.f (k + 1) a0 a1 a2 a3 a4 a5 a6 a7) := by
 intro a0 a1 a2 a3 a4 a5 a6 a7 k
 unfold spec_maGood.f
 repeat' first
  | (with_reducible exact spec_flHas.mono _ _ _ _ _)
  | (with_reducible exact LeO.refl _)
  | (with_reducible exact LeO.none _)
  | (with_reducible refine LeO.ite ?_ ?_)
  | (with_reducible refine LeO.bind ?_ (fun _ => ?_))
  | exact spec_flHas.mono _ _ _ _ _
  | exact LeO.none _
  | refine LeO.ite ?_ ?_
  | refine LeO.bind ?_ (fun _ => ?_)
theorem spec_maGood.calls (k : Nat) (a0_0 : Int) (a0_1 : Int) (A0_2 : Option Addr) (c0_2 : Nat) (l0_2 : List (S98)) (a0_3 : Int) (a0_4 : Int) (a0_5 : Int) (a0_6 : Int) (a0_7 : Int) (r : Bool) (w : World) (hr0_2 : Kd.C k98 w A0_2 l0_2.length l0_2) (hc0_2 : l0_2.length <= c0_2) (h : spec_maGood.f k a0_0 a0_1 l0_2 a0_3 a0_4 a0_5 a0_6 a0_7 = some r) :
 Calls Try.prog 29 #[.agg #[.int .i64 a0_0, .int .i64 a0_1, .slice A0_2 l0_2.length c0_2, .int .i64 a0_3, .int .i64 a0_4, .int .i64 a0_5, .int .i64 a0_6, .int .i64 a0_7]] w fun e w' => e = .returned (.bool r) /\ Below w.heap.size w w' := by
 have hu35 := Try.underlying35
 have hu33 := Try.underlying33
 have HR0_2 := Aside0.mk hr0_2
 have HC0_2 := Aside0.mk hc0_2
 clear hr0_2 hc0_2
 have HB := Aside0.mk (Below.refl w.heap.size w)
 have H := h
 clear h
 unfold spec_maGood.f at H
 replace H := bindA H; obtain ⟨t119, A2, H⟩ := H
 replace H := ifX H; rcases H with ⟨rfl, H⟩ | ⟨rfl, H⟩
 · replace H := bindA H; obtain ⟨t120, A4, H⟩ := H
   replace H := ifX H; rcases H with ⟨rfl, H⟩ | ⟨rfl, H⟩
   · replace H := bindA H; obtain ⟨t121, A6, H⟩ := H
     replace H := ifX H; rcases H with ⟨rfl, H⟩ | ⟨rfl, H⟩
     · replace H := bindA H; obtain ⟨t122, A8, H⟩ := H
       replace H := ifX H; rcases H with ⟨rfl, H⟩ | ⟨rfl, H⟩
       · replace H := bindA H; obtain ⟨t123, A10, H⟩ := H
         obtain rfl := Option.some.inj H
         go_enter Try.func29, Try.ntmps29
         go_wp2_with (first | ((with_reducible refine gate_dst (N := 1) rfl ?_); refine boxE (cs := #[.int .i64 a0_0, .int .i64 a0_1, .slice A0_2 l0_2.length c0_2, .int .i64 a0_3, .int .i64 a0_4, .int .i64 a0_5, .int .i64 a0_6, .int .i64 a0_7]) (t := 35) ?_; intro gb118 hg w11 hbox hb; refine E4b HB.1 hg hbox hb ?_; clear HB; intro HB BK118 GW118 GE118; clear hb hbox hg; obtain ⟨hcz12_0, hcz12_1, hcz12_2, hcz12_3, hcz12_4, hcz12_5, hcz12_6, hcz12_7, hfz12_0, hfz12_1, hfz12_2, hfz12_3, hfz12_4, hfz12_5, hfz12_6, hfz12_7⟩ := cz8 BK118.1) | ((with_reducible refine gate_callee (f := 45) rfl ?_); refine goesM (N := (some 7)) #[.agg #[.int .i64 a0_0, .int .i64 a0_1, .slice A0_2 l0_2.length c0_2], .int .i64 a0_3] Try.func45 ?_; (with_reducible refine (spec_flHas.calls k a0_0 a0_1 _ _ l0_2 a0_3 true _ ?side1 ?side2 A2.1).mono ?_); (case side1 => exact CB (C_below HR0_2.1 HB.1)); (case side2 => exact HC0_2.1); rintro e w13 ⟨rfl, hb⟩; refine ⟨_, rfl, ?_⟩; refine E2 (bB BK118.1 hb) (bS HB.1 hb) ?_; clear BK118 HB; intro BK118 HB; (try clear hb); obtain ⟨hcz14_0, hcz14_1, hcz14_2, hcz14_3, hcz14_4, hcz14_5, hcz14_6, hcz14_7, hfz14_0, hfz14_1, hfz14_2, hfz14_3, hfz14_4, hfz14_5, hfz14_6, hfz14_7⟩ := cz8 BK118.1) | (go_at_call 45; (with_reducible refine (spec_flHas.calls k a0_0 a0_1 _ _ l0_2 a0_4 true _ ?side1 ?side2 A4.1).mono ?_); (case side1 => exact CB (C_below HR0_2.1 HB.1)); (case side2 => exact HC0_2.1); rintro e w15 ⟨rfl, hb⟩; refine E2 (bB BK118.1 hb) (bS HB.1 hb) ?_; clear BK118 HB; intro BK118 HB; (try clear hb); obtain ⟨hcz16_0, hcz16_1, hcz16_2, hcz16_3, hcz16_4, hcz16_5, hcz16_6, hcz16_7, hfz16_0, hfz16_1, hfz16_2, hfz16_3, hfz16_4, hfz16_5, hfz16_6, hfz16_7⟩ := cz8 BK118.1) | (go_at_call 46; (with_reducible refine (spec_l1In.calls a0_5 0 30 true _ A6.1).mono ?_); rintro e w' ⟨rfl, ⟨nd, rfl⟩⟩) | (go_at_call 46; (with_reducible refine (spec_l1In.calls a0_6 0 30 true _ A8.1).mono ?_); rintro e w' ⟨rfl, ⟨nd, rfl⟩⟩) | (go_at_call 46; (with_reducible refine (spec_l1In.calls a0_7 0 2 t123 _ A10.1).mono ?_); rintro e w' ⟨rfl, ⟨nd, rfl⟩⟩))
         go_ret
         exact ⟨RF, BL HB.1⟩
       obtain rfl := Option.some.inj H
       go_enter Try.func29, Try.ntmps29
       go_wp2_with (first | ((with_reducible refine gate_dst (N := 1) rfl ?_); refine boxE (cs := #[.int .i64 a0_0, .int .i64 a0_1, .slice A0_2 l0_2.length c0_2, .int .i64 a0_3, .int .i64 a0_4, .int .i64 a0_5, .int .i64 a0_6, .int .i64 a0_7]) (t := 35) ?_; intro gb118 hg w17 hbox hb; refine E4b HB.1 hg hbox hb ?_; clear HB; intro HB BK118 GW118 GE118; clear hb hbox hg; obtain ⟨hcz18_0, hcz18_1, hcz18_2, hcz18_3, hcz18_4, hcz18_5, hcz18_6, hcz18_7, hfz18_0, hfz18_1, hfz18_2, hfz18_3, hfz18_4, hfz18_5, hfz18_6, hfz18_7⟩ := cz8 BK118.1) | ((with_reducible refine gate_callee (f := 45) rfl ?_); refine goesM (N := (some 7)) #[.agg #[.int .i64 a0_0, .int .i64 a0_1, .slice A0_2 l0_2.length c0_2], .int .i64 a0_3] Try.func45 ?_; (with_reducible refine (spec_flHas.calls k a0_0 a0_1 _ _ l0_2 a0_3 true _ ?side1 ?side2 A2.1).mono ?_); (case side1 => exact CB (C_below HR0_2.1 HB.1)); (case side2 => exact HC0_2.1); rintro e w19 ⟨rfl, hb⟩; refine ⟨_, rfl, ?_⟩; refine E2 (bB BK118.1 hb) (bS HB.1 hb) ?_; clear BK118 HB; intro BK118 HB; (try clear hb); obtain ⟨hcz20_0, hcz20_1, hcz20_2, hcz20_3, hcz20_4, hcz20_5, hcz20_6, hcz20_7, hfz20_0, hfz20_1, hfz20_2, hfz20_3, hfz20_4, hfz20_5, hfz20_6, hfz20_7⟩ := cz8 BK118.1) | (go_at_call 45; (with_reducible refine (spec_flHas.calls k a0_0 a0_1 _ _ l0_2 a0_4 true _ ?side1 ?side2 A4.1).mono ?_); (case side1 => exact CB (C_below HR0_2.1 HB.1)); (case side2 => exact HC0_2.1); rintro e w21 ⟨rfl, hb⟩; refine E2 (bB BK118.1 hb) (bS HB.1 hb) ?_; clear BK118 HB; intro BK118 HB; (try clear hb); obtain ⟨hcz22_0, hcz22_1, hcz22_2, hcz22_3, hcz22_4, hcz22_5, hcz22_6, hcz22_7, hfz22_0, hfz22_1, hfz22_2, hfz22_3, hfz22_4, hfz22_5, hfz22_6, hfz22_7⟩ := cz8 BK118.1) | (go_at_call 46; (with_reducible refine (spec_l1In.calls a0_5 0 30 true _ A6.1).mono ?_); rintro e w' ⟨rfl, ⟨nd, rfl⟩⟩) | (go_at_call 46; (with_reducible refine (spec_l1In.calls a0_6 0 30 false _ A8.1).mono ?_); rintro e w' ⟨rfl, ⟨nd, rfl⟩⟩))
       go_ret
       exact ⟨RF, BL HB.1⟩
     obtain rfl := Option.some.inj H
     go_enter Try.func29, Try.ntmps29
     go_wp2_with (first | ((with_reducible refine gate_dst (N := 1) rfl ?_); refine boxE (cs := #[.int .i64 a0_0, .int .i64 a0_1, .slice A0_2 l0_2.length c0_2, .int .i64 a0_3, .int .i64 a0_4, .int .i64 a0_5, .int .i64 a0_6, .int .i64 a0_7]) (t := 35) ?_; intro gb118 hg w23 hbox hb; refine E4b HB.1 hg hbox hb ?_; clear HB; intro HB BK118 GW118 GE118; clear hb hbox hg; obtain ⟨hcz24_0, hcz24_1, hcz24_2, hcz24_3, hcz24_4, hcz24_5, hcz24_6, hcz24_7, hfz24_0, hfz24_1, hfz24_2, hfz24_3, hfz24_4, hfz24_5, hfz24_6, hfz24_7⟩ := cz8 BK118.1) | ((with_reducible refine gate_callee (f := 45) rfl ?_); refine goesM (N := (some 7)) #[.agg #[.int .i64 a0_0, .int .i64 a0_1, .slice A0_2 l0_2.length c0_2], .int .i64 a0_3] Try.func45 ?_; (with_reducible refine (spec_flHas.calls k a0_0 a0_1 _ _ l0_2 a0_3 true _ ?side1 ?side2 A2.1).mono ?_); (case side1 => exact CB (C_below HR0_2.1 HB.1)); (case side2 => exact HC0_2.1); rintro e w25 ⟨rfl, hb⟩; refine ⟨_, rfl, ?_⟩; refine E2 (bB BK118.1 hb) (bS HB.1 hb) ?_; clear BK118 HB; intro BK118 HB; (try clear hb); obtain ⟨hcz26_0, hcz26_1, hcz26_2, hcz26_3, hcz26_4, hcz26_5, hcz26_6, hcz26_7, hfz26_0, hfz26_1, hfz26_2, hfz26_3, hfz26_4, hfz26_5, hfz26_6, hfz26_7⟩ := cz8 BK118.1) | (go_at_call 45; (with_reducible refine (spec_flHas.calls k a0_0 a0_1 _ _ l0_2 a0_4 true _ ?side1 ?side2 A4.1).mono ?_); (case side1 => exact CB (C_below HR0_2.1 HB.1)); (case side2 => exact HC0_2.1); rintro e w27 ⟨rfl, hb⟩; refine E2 (bB BK118.1 hb) (bS HB.1 hb) ?_; clear BK118 HB; intro BK118 HB; (try clear hb); obtain ⟨hcz28_0, hcz28_1, hcz28_2, hcz28_3, hcz28_4, hcz28_5, hcz28_6, hcz28_7, hfz28_0, hfz28_1, hfz28_2, hfz28_3, hfz28_4, hfz28_5, hfz28_6, hfz28_7⟩ := cz8 BK118.1) | (go_at_call 46; (with_reducible refine (spec_l1In.calls a0_5 0 30 false _ A6.1).mono ?_); rintro e w' ⟨rfl, ⟨nd, rfl⟩⟩))
     go_ret
     exact ⟨RF, BL HB.1⟩
   obtain rfl := Option.some.inj H
   go_enter Try.func29, Try.ntmps29
   go_wp2_with (first | ((with_reducible refine gate_dst (N := 1) rfl ?_); refine boxE (cs := #[.int .i64 a0_0, .int .i64 a0_1, .slice A0_2 l0_2.length c0_2, .int .i64 a0_3, .int .i64 a0_4, .int .i64 a0_5, .int .i64 a0_6, .int .i64 a0_7]) (t := 35) ?_; intro gb118 hg w29 hbox hb; refine E4b HB.1 hg hbox hb ?_; clear HB; intro HB BK118 GW118 GE118; clear hb hbox hg; obtain ⟨hcz30_0, hcz30_1, hcz30_2, hcz30_3, hcz30_4, hcz30_5, hcz30_6, hcz30_7, hfz30_0, hfz30_1, hfz30_2, hfz30_3, hfz30_4, hfz30_5, hfz30_6, hfz30_7⟩ := cz8 BK118.1) | ((with_reducible refine gate_callee (f := 45) rfl ?_); refine goesM (N := (some 7)) #[.agg #[.int .i64 a0_0, .int .i64 a0_1, .slice A0_2 l0_2.length c0_2], .int .i64 a0_3] Try.func45 ?_; (with_reducible refine (spec_flHas.calls k a0_0 a0_1 _ _ l0_2 a0_3 true _ ?side1 ?side2 A2.1).mono ?_); (case side1 => exact CB (C_below HR0_2.1 HB.1)); (case side2 => exact HC0_2.1); rintro e w31 ⟨rfl, hb⟩; refine ⟨_, rfl, ?_⟩; refine E2 (bB BK118.1 hb) (bS HB.1 hb) ?_; clear BK118 HB; intro BK118 HB; (try clear hb); obtain ⟨hcz32_0, hcz32_1, hcz32_2, hcz32_3, hcz32_4, hcz32_5, hcz32_6, hcz32_7, hfz32_0, hfz32_1, hfz32_2, hfz32_3, hfz32_4, hfz32_5, hfz32_6, hfz32_7⟩ := cz8 BK118.1) | (go_at_call 45; (with_reducible refine (spec_flHas.calls k a0_0 a0_1 _ _ l0_2 a0_4 false _ ?side1 ?side2 A4.1).mono ?_); (case side1 => exact CB (C_below HR0_2.1 HB.1)); (case side2 => exact HC0_2.1); rintro e w33 ⟨rfl, hb⟩; refine E2 (bB BK118.1 hb) (bS HB.1 hb) ?_; clear BK118 HB; intro BK118 HB; (try clear hb)))
   go_ret
   exact ⟨RF, BL HB.1⟩
 obtain rfl := Option.some.inj H
 go_enter Try.func29, Try.ntmps29
 go_wp2_with (first | ((with_reducible refine gate_dst (N := 1) rfl ?_); refine boxE (cs := #[.int .i64 a0_0, .int .i64 a0_1, .slice A0_2 l0_2.length c0_2, .int .i64 a0_3, .int .i64 a0_4, .int .i64 a0_5, .int .i64 a0_6, .int .i64 a0_7]) (t := 35) ?_; intro gb118 hg w34 hbox hb; refine E4b HB.1 hg hbox hb ?_; clear HB; intro HB BK118 GW118 GE118; clear hb hbox hg; obtain ⟨hcz35_0, hcz35_1, hcz35_2, hcz35_3, hcz35_4, hcz35_5, hcz35_6, hcz35_7, hfz35_0, hfz35_1, hfz35_2, hfz35_3, hfz35_4, hfz35_5, hfz35_6, hfz35_7⟩ := cz8 BK118.1) | ((with_reducible refine gate_callee (f := 45) rfl ?_); refine goesM (N := (some 7)) #[.agg #[.int .i64 a0_0, .int .i64 a0_1, .slice A0_2 l0_2.length c0_2], .int .i64 a0_3] Try.func45 ?_; (with_reducible refine (spec_flHas.calls k a0_0 a0_1 _ _ l0_2 a0_3 false _ ?side1 ?side2 A2.1).mono ?_); (case side1 => exact CB (C_below HR0_2.1 HB.1)); (case side2 => exact HC0_2.1); rintro e w36 ⟨rfl, hb⟩; refine ⟨_, rfl, ?_⟩; refine E2 (bB BK118.1 hb) (bS HB.1 hb) ?_; clear BK118 HB; intro BK118 HB; (try clear hb)))
 go_ret
 exact ⟨RF, BL HB.1⟩

/-! ### spec_boOwn: function 47 -/
open Kd
def spec_boOwn.f (a0_0 : Int) (a0_1 : Int) (l0_2 : List (S98)) : Option (Int × Int × (List (S98))) := (some (([] : List (S98)) : List (S98))).bind fun y126 => (if y126.length + l0_2.length < 8796093022208 then (some (a0_0, a0_1, (y126 ++ l0_2))) else (none))
def spec_boOwn.T1 : Bool × List (List Nat × List Nat) := (true, [([], []), ([0], [0]), ([], []), ([2], [2]), ([], []), ([], []), ([5], [5]), ([4, 6], [4, 6]), ([1, 3, 7], [1, 3, 7]), ([8, 7, 0, 1, 2, 3, 4, 5, 6, 7, 8], [8])])
def spec_boOwn.B1 : List Nat := [0, 1, 0, 4, 0, 0, 32, 112, 255, 511]
theorem spec_boOwn.tab1 : rtab .any (opsOf Try.f47 1) = spec_boOwn.T1 := by kernel_rfl
theorem spec_boOwn.bits1 : waitsOk spec_boOwn.T1.2 spec_boOwn.B1 = true := by kernel_rfl
theorem spec_boOwn.calls (a0_0 : Int) (a0_1 : Int) (A0_2 : Option Addr) (c0_2 : Nat) (l0_2 : List (S98)) (r1 : Int) (r2 : Int) (r3 : List (S98)) (w : World) (hr0_2 : Kd.C k98 w A0_2 l0_2.length l0_2) (hc0_2 : l0_2.length <= c0_2) (h : spec_boOwn.f a0_0 a0_1 l0_2 = some (r1, r2, r3)) :
 Calls Try.prog 47 #[.agg #[.int .i64 a0_0, .int .i64 a0_1, .slice A0_2 l0_2.length c0_2]] w fun e w' => ∃ v2_ : Value, e = .returned (.agg #[.int .i64 r1, .int .i64 r2, v2_]) /\ Kd.R k98 98 w' w.heap.size (fun _ => True) v2_ r3 /\ Below w.heap.size w w' := by
 have hu33 := Try.underlying33
 have HR0_2 := Aside0.mk hr0_2
 have HC0_2 := Aside0.mk hc0_2
 clear hr0_2 hc0_2
 have HB := Aside0.mk (Below.refl w.heap.size w)
 have H := h
 clear h
 unfold spec_boOwn.f at H
 replace H := nameB H; obtain ⟨y126, Ny126, H⟩ := H
 replace H := ifP H; obtain ⟨c2, H⟩ := H
 have LMc2 := Aside0.mk c2
 clear c2
 generalize hy129 : ((y126 ++ l0_2) : List (S98)) = y129 at H
 have Ny129 := Aside0.mk hy129.symm; clear hy129
 simp only [Option.some.injEq, Prod.mk.injEq] at H
 obtain ⟨rfl, rfl, rfl⟩ := H
 go_enter Try.func47, Try.ntmps47
 try go_wp2_with (first | ((with_reducible refine gate_dst (N := 1) rfl ?_); refine boxE (cs := #[.int .i64 a0_0, .int .i64 a0_1, .slice A0_2 l0_2.length c0_2]) (t := 33) ?_; intro gb124 hg w3 hbox hb; refine E4b HB.1 hg hbox hb ?_; clear HB; intro HB BK124 GW124 GE124; clear hb hbox hg) | ((with_reducible refine gate_dst (N := 2) rfl ?_); refine boxE (cs := #[.int .i64 0, .int .i64 0, .slice none 0 0]) (t := 33) ?_; intro gb125 hg w4 hbox hb; refine E7 (bB BK124.1 hb) (bS HB.1 hb) (hbox) (gX HB.1 hg) (gX HB.1 hg) (nB BK124.1 hg) (nC BK124.1 hg) ?_; clear BK124 HB; intro BK124 HB BK125 GW125 GE125 NB124_125 NB125_124; clear hb hbox hg))
 refine E3 (blk_drew BK124.1) (blk_drew BK125.1) (below_drew1 HB.1) ?_
 clear BK124 BK125 HB
 intro BK124 BK125 HB
 refine start_ (n := 10) (S := fun w' => w'.cell? ⟨gb124, 0, none⟩ = some (.int .i64 a0_0) /\ w'.cell? ⟨gb124, 1, none⟩ = some (.int .i64 a0_1) /\ w'.cell? ⟨gb124, 2, none⟩ = some (.slice A0_2 l0_2.length c0_2)) (ds := []) #[Zz,Zz,Zz,Zz,Zz,Zz,Zz,Zz,Zz,Zz] (by kernel_rfl) rfl rfl ⟨(blk_cell BK124.1 0).trans rfl, (blk_cell BK124.1 1).trans rfl, (blk_cell BK124.1 2).trans rfl⟩ (fun hHeld => ?_); refine with_tabW spec_boOwn.tab1 spec_boOwn.bits1 (fun HT_ HW_ => ?_)
 generalize w4.drew = w5 at BK124 BK125 HB hHeld ⊢
 refine pureF 0 (N := some 3) HT_.1 ?_
 refine pureF 2 (N := some 5) HT_.1 ?_
 refine pureF 5 (N := some 8) HT_.1 ?_
 refine takeE 1 (N := some 4) HT_.1 HW_.1 hHeld ?_
 refine takeE 3 (N := some 6) HT_.1 HW_.1 hHeld ?_
 refine takeE 6 (N := some 9) HT_.1 HW_.1 hHeld ?_
 refine one_ (i := 4) (N := some 7) #[Yy,Yy,Yy,Yy,Yy,Yy,Yy,Zz,Zz,Zz] rfl rfl (one_of HT_.1 (by kernel_rfl)) (by decide) (fun K hK => ?_)
 refine R_lit_step k98 _ 98 ?hg (N := 7) ?hd (xs := ([] : List (S98))) (inner := []) (ok := fun _ => True) (okp := fun _ => True) ?hr ?hp (fun _ hk => hk) trivial (Below.refl _ _) (Nat.le_refl _) (by simp) ?_; (case hd => rfl); (case hg => rfl); (case hr => first | (go_simp; done) | (go_simp; rfl)); (case hp => exact (Reps.none _ _))
 intro v127 w6 ho7 hb hg_ hnew_
 clear hg_ hnew_
 (first | rw [<- Ny126.1] at ho7 | (simp only [Int.reduceToNat] at ho7; rw [<- Ny126.1] at ho7))
 refine E4 (R_lower ho7 (bZ HB.1)) (bB BK124.1 hb) (bB BK125.1 hb) (bS HB.1 hb) ?_
 clear BK124 BK125 HB
 intro HO128 BK124 BK125 HB
 clear hb ho7
 refine hK.out _ _ ⟨(blk_cell BK124.1 0).trans rfl, (blk_cell BK124.1 1).trans rfl, (blk_cell BK124.1 2).trans rfl⟩ (fun hHeld => ?_)
 clear hK K
 refine norm_ (a' := ?_) ?_ ?_
 rotate_left
 · show Act.put _ (some 7) _ = _
   simp only [Act.put, List.setIfInBounds_toArray, List.set_cons_zero, List.set_cons_succ, i64_w, i32_w]
   rfl
 refine one_ (i := 7) (N := some 10) #[Yy,Yy,Yy,Yy,Yy,Yy,Yy,Yy,Zz,Zz] rfl rfl (one_of HT_.1 (by kernel_rfl)) (by decide) (fun K hK => ?_)
 refine R_append_rows_step k98 (w0 := w) w.heap.size (by rfl) (.tmp 7) (.tmp 9) 31 98 (.agg #[(.int .i64 0), (.int .i64 0)]) 16 rfl Try.underlying31 info98 rfl (by decide) (by omega) v127 y126 l0_2 _ _ _ (fun _ => True) (fun _ => False) rfl rfl ?aO ?aR (fun _ _ h => h) (fun _ h => h.elim) ?aF ?aB ?aS ?aL ?_
 (case aR => repeat (first | exact (C_below HR0_2.1 HB.1) | (with_reducible refine C_alloc ?_ _) | (with_reducible refine C_drewN ?_ _) | (with_reducible refine C_drew ?_)))
 (case aB => exact (BL HB.1))
 (case aF => exact (fun _ _ => trivial))
 (case aO => exact (PR HO128.1))
 (case aS => exact (bZ HB.1))
 (case aL => have := LMc2.1; omega)
 intro v130 w8 ho hb hg hat
 rw [<- Ny129.1] at ho
 refine E4 (bG BK124.1 hg (R_ne HO128.1 BK124.1 (by decide))) (bG BK125.1 hg (R_ne HO128.1 BK125.1 (by decide))) (hb) (ho) ?_
 clear BK124 BK125 HB HO128
 intro BK124 BK125 HB HO131
 clear ho hb hg hat
 obtain ⟨Ao9, co9, eo9⟩ := R_slice HO131.1
 (first | subst eo9 | (injection eo9 with f1_ f2_ f3_; have f4_ := f1_.symm; have f5_ := f3_.symm; clear f1_ f2_ f3_; subst f4_; subst f5_))
 refine hK.out _ _ ⟨(blk_cell BK124.1 0).trans rfl, (blk_cell BK124.1 1).trans rfl, (blk_cell BK124.1 2).trans rfl⟩ (fun hHeld => ?_)
 clear hK K
 refine norm_ (a' := ?_) ?_ ?_
 rotate_left
 · show Act.put _ (some 10) _ = _
   simp only [Act.put, List.setIfInBounds_toArray, List.set_cons_zero, List.set_cons_succ, i64_w, i32_w]
   rfl
 refine pureF 8 (N := some 11) HT_.1 ?_
 refine one_ (i := 9) (N := none) #[Yy,Yy,Yy,Yy,Yy,Yy,Yy,Yy,Yy,Yy] rfl rfl (one_of HT_.1 (by kernel_rfl)) (by decide) (fun K hK => ?_)
 obtain ⟨hs10, hs11, hs12, hfs10, hfs11, hfs12⟩ := cz3 BK125.1
 have hns10_0 := NB124_125.1
 have hms10_0 := NB125_124.1
 refine skip_ (w1 := ?_) (by rfl) rfl ?_ ?_
 rotate_left
 · go_simp
   rfl
 refine hK.out _ _ ⟨(CF3 NB124_125.1 hHeld.1), (CF3 NB124_125.1 hHeld.2.1), (CF3 NB124_125.1 hHeld.2.2)⟩ (fun hHeld => ?_)
 clear hK K
 refine done_ (done_of HT_.1 (by kernel_rfl)) ?_
 try go_wp2
 refine bodyPost_ret (results_cell_row rfl _ _ gb125 33 #[.int .i64 a0_0, .int .i64 a0_1, .slice Ao9 y129.length co9] (0, 0) _ rfl (PF0 BK125.1) Try.underlying33 rfl (by kernel_rfl)) rfl ?_
 exact ⟨_, RF, by (with_reducible repeat (first | apply R_alloc | apply R_drewN | apply R_drew)); exact R_mono (RQ gb125 2 (RQ gb125 1 (RQ gb125 0 (R_types HO131.1 BK125.1 (by decide)) _) _) _) (fun _ hk => trivial), BL HB.1⟩
/-! ### spec_maCan: function 48 -/
open Kd
def spec_maCan.f (a0_0 : Int) (a0_1 : Int) (l0_2 : List (S98)) (a0_3 : Int) (a0_4 : Int) (a0_5 : Int) (a0_6 : Int) (a0_7 : Int) : Option (Bool) := if a0_7 = 0 then (if a0_5 > 0 then (some true) else (if a0_7 = 1 then (some (decide (a0_6 > 0))) else (some false))) else (if a0_7 = 1 then (some (decide (a0_6 > 0))) else (some false))
theorem spec_maCan.calls (a0_0 : Int) (a0_1 : Int) (A0_2 : Option Addr) (c0_2 : Nat) (l0_2 : List (S98)) (a0_3 : Int) (a0_4 : Int) (a0_5 : Int) (a0_6 : Int) (a0_7 : Int) (r : Bool) (w : World) (hr0_2 : Kd.C k98 w A0_2 l0_2.length l0_2) (hc0_2 : l0_2.length <= c0_2) (h : spec_maCan.f a0_0 a0_1 l0_2 a0_3 a0_4 a0_5 a0_6 a0_7 = some r) :
 Calls Try.prog 48 #[.agg #[.int .i64 a0_0, .int .i64 a0_1, .slice A0_2 l0_2.length c0_2, .int .i64 a0_3, .int .i64 a0_4, .int .i64 a0_5, .int .i64 a0_6, .int .i64 a0_7]] w fun e w' => e = .returned (.bool r) /\ Below w.heap.size w w' := by
 have hu35 := Try.underlying35
 have HR0_2 := Aside0.mk hr0_2
 have HC0_2 := Aside0.mk hc0_2
 clear hr0_2 hc0_2
 have HB := Aside0.mk (Below.refl w.heap.size w)
 have H := h
 clear h
 unfold spec_maCan.f at H
 replace H := ifQ H; rcases H with ⟨c2, H⟩ | ⟨c2, H⟩
 · have c2b0 := beq_iff_eq.mpr c2
   have c2b1 := bne_eq_false_iff_eq.mpr c2
   clear c2
   replace H := ifQ H; rcases H with ⟨c3, H⟩ | ⟨c3, H⟩
   · have c3b0 : decide (0 < a0_5) = true := decide_eq_true c3
     clear c3
     obtain rfl := Option.some.inj H
     go_enter Try.func48, Try.ntmps48
     go_wp2_with (first | ((with_reducible refine gate_dst (N := 1) rfl ?_); refine boxE (cs := #[.int .i64 a0_0, .int .i64 a0_1, .slice A0_2 l0_2.length c0_2, .int .i64 a0_3, .int .i64 a0_4, .int .i64 a0_5, .int .i64 a0_6, .int .i64 a0_7]) (t := 35) ?_; intro gb132 hg w4 hbox hb; refine E4b HB.1 hg hbox hb ?_; clear HB; intro HB BK132 GW132 GE132; clear hb hbox hg; obtain ⟨hcz5_0, hcz5_1, hcz5_2, hcz5_3, hcz5_4, hcz5_5, hcz5_6, hcz5_7, hfz5_0, hfz5_1, hfz5_2, hfz5_3, hfz5_4, hfz5_5, hfz5_6, hfz5_7⟩ := cz8 BK132.1))
     go_ret
     exact ⟨RF, BL HB.1⟩
   have c3b0 : decide (0 < a0_5) = false := decide_eq_false c3
   clear c3
   replace H := ifQ H; rcases H with ⟨c6, H⟩ | ⟨c6, H⟩
   · have c6b0 := beq_iff_eq.mpr c6
     have c6b1 := bne_eq_false_iff_eq.mpr c6
     clear c6
     obtain rfl := Option.some.inj H
     go_enter Try.func48, Try.ntmps48
     go_wp2_with (first | ((with_reducible refine gate_dst (N := 1) rfl ?_); refine boxE (cs := #[.int .i64 a0_0, .int .i64 a0_1, .slice A0_2 l0_2.length c0_2, .int .i64 a0_3, .int .i64 a0_4, .int .i64 a0_5, .int .i64 a0_6, .int .i64 a0_7]) (t := 35) ?_; intro gb132 hg w7 hbox hb; refine E4b HB.1 hg hbox hb ?_; clear HB; intro HB BK132 GW132 GE132; clear hb hbox hg; obtain ⟨hcz8_0, hcz8_1, hcz8_2, hcz8_3, hcz8_4, hcz8_5, hcz8_6, hcz8_7, hfz8_0, hfz8_1, hfz8_2, hfz8_3, hfz8_4, hfz8_5, hfz8_6, hfz8_7⟩ := cz8 BK132.1))
     go_ret
     exact ⟨RF, BL HB.1⟩
   have c6b0 := beq_eq_false_iff_ne.mpr c6
   have c6b1 := bne_iff_ne.mpr c6
   obtain rfl := Option.some.inj H
   go_enter Try.func48, Try.ntmps48
   go_wp2_with (first | ((with_reducible refine gate_dst (N := 1) rfl ?_); refine boxE (cs := #[.int .i64 a0_0, .int .i64 a0_1, .slice A0_2 l0_2.length c0_2, .int .i64 a0_3, .int .i64 a0_4, .int .i64 a0_5, .int .i64 a0_6, .int .i64 a0_7]) (t := 35) ?_; intro gb132 hg w9 hbox hb; refine E4b HB.1 hg hbox hb ?_; clear HB; intro HB BK132 GW132 GE132; clear hb hbox hg; obtain ⟨hcz10_0, hcz10_1, hcz10_2, hcz10_3, hcz10_4, hcz10_5, hcz10_6, hcz10_7, hfz10_0, hfz10_1, hfz10_2, hfz10_3, hfz10_4, hfz10_5, hfz10_6, hfz10_7⟩ := cz8 BK132.1))
   go_ret
   exact ⟨RF, BL HB.1⟩
 have c2b0 := beq_eq_false_iff_ne.mpr c2
 have c2b1 := bne_iff_ne.mpr c2
 replace H := ifQ H; rcases H with ⟨c11, H⟩ | ⟨c11, H⟩
 · have c11b0 := beq_iff_eq.mpr c11
   have c11b1 := bne_eq_false_iff_eq.mpr c11
   clear c11
   obtain rfl := Option.some.inj H
   go_enter Try.func48, Try.ntmps48
   go_wp2_with (first | ((with_reducible refine gate_dst (N := 1) rfl ?_); refine boxE (cs := #[.int .i64 a0_0, .int .i64 a0_1, .slice A0_2 l0_2.length c0_2, .int .i64 a0_3, .int .i64 a0_4, .int .i64 a0_5, .int .i64 a0_6, .int .i64 a0_7]) (t := 35) ?_; intro gb132 hg w12 hbox hb; refine E4b HB.1 hg hbox hb ?_; clear HB; intro HB BK132 GW132 GE132; clear hb hbox hg; obtain ⟨hcz13_0, hcz13_1, hcz13_2, hcz13_3, hcz13_4, hcz13_5, hcz13_6, hcz13_7, hfz13_0, hfz13_1, hfz13_2, hfz13_3, hfz13_4, hfz13_5, hfz13_6, hfz13_7⟩ := cz8 BK132.1))
   go_ret
   exact ⟨RF, BL HB.1⟩
 have c11b0 := beq_eq_false_iff_ne.mpr c11
 have c11b1 := bne_iff_ne.mpr c11
 obtain rfl := Option.some.inj H
 go_enter Try.func48, Try.ntmps48
 go_wp2_with (first | ((with_reducible refine gate_dst (N := 1) rfl ?_); refine boxE (cs := #[.int .i64 a0_0, .int .i64 a0_1, .slice A0_2 l0_2.length c0_2, .int .i64 a0_3, .int .i64 a0_4, .int .i64 a0_5, .int .i64 a0_6, .int .i64 a0_7]) (t := 35) ?_; intro gb132 hg w14 hbox hb; refine E4b HB.1 hg hbox hb ?_; clear HB; intro HB BK132 GW132 GE132; clear hb hbox hg; obtain ⟨hcz15_0, hcz15_1, hcz15_2, hcz15_3, hcz15_4, hcz15_5, hcz15_6, hcz15_7, hfz15_0, hfz15_1, hfz15_2, hfz15_3, hfz15_4, hfz15_5, hfz15_6, hfz15_7⟩ := cz8 BK132.1))
 go_ret
 exact ⟨RF, BL HB.1⟩
/-! ### spec_boAt: function 78 -/
open Kd
def spec_boAt.f (a0_0 : Int) (a0_1 : Int) (l0_2 : List (S98)) (a1 : Int) (a2 : Int) : Option (Int × Int) := if 0 <= (wrap64 ((wrap64 (a1 * a0_1)) + a2)) then (if (wrap64 ((wrap64 (a1 * a0_1)) + a2)) < (l0_2.length : Int) then (some ((rd_T98 l0_2 (wrap64 ((wrap64 (a1 * a0_1)) + a2))).f0, (rd_T98 l0_2 (wrap64 ((wrap64 (a1 * a0_1)) + a2))).f1)) else (none)) else (none)
theorem spec_boAt.calls (a0_0 : Int) (a0_1 : Int) (A0_2 : Option Addr) (c0_2 : Nat) (l0_2 : List (S98)) (a1 : Int) (a2 : Int) (r1 : Int) (r2 : Int) (w : World) (hr0_2 : Kd.C k98 w A0_2 l0_2.length l0_2) (hc0_2 : l0_2.length <= c0_2) (h : spec_boAt.f a0_0 a0_1 l0_2 a1 a2 = some (r1, r2)) :
 Calls Try.prog 78 #[.agg #[.int .i64 a0_0, .int .i64 a0_1, .slice A0_2 l0_2.length c0_2], .int .i64 a1, .int .i64 a2] w fun e w' => e = .returned (.agg #[.int .i64 r1, .int .i64 r2]) /\ Below w.heap.size w w' := by
 have hu33 := Try.underlying33
 have hu98 := Try.underlying98
 have HR0_2 := Aside0.mk hr0_2
 have HC0_2 := Aside0.mk hc0_2
 clear hr0_2 hc0_2
 have HB := Aside0.mk (Below.refl w.heap.size w)
 have H := h
 clear h
 unfold spec_boAt.f at H
 obtain ⟨ji4, hji4⟩ : ∃ j_ : Int, (wrap64 ((wrap64 (a1 * a0_1)) + a2)) = j_ := ⟨_, rfl⟩
 replace H : (if 0 <= (ji4) then (if (ji4) < (l0_2.length : Int) then (some ((rd_T98 l0_2 (ji4)).f0, (rd_T98 l0_2 (ji4)).f1)) else (none)) else (none)) = some (r1, r2) := by first | (rw [hji4] at H; exact H) | (simp only [hji4] at H ⊢; exact H)
 have hji4w : (IntKind.i64.wrap ((wrap64 (a1 * a0_1)) + a2)) = ji4 := (i64_w _).trans hji4
 replace H := ifN H; obtain ⟨c5b0, H⟩ := H
 replace H := ifN H; obtain ⟨c6b0, H⟩ := H
 simp only [Option.some.injEq, Prod.mk.injEq] at H
 obtain ⟨rfl, rfl⟩ := H
 go_enter Try.func78, Try.ntmps78
 go_wp2_with (first | ((with_reducible refine gate_dst (N := 3) rfl ?_); refine boxE (cs := #[.int .i64 a0_0, .int .i64 a0_1, .slice A0_2 l0_2.length c0_2]) (t := 33) ?_; intro gb133 hg w7 hbox hb; refine E4b HB.1 hg hbox hb ?_; clear HB; intro HB BK133 GW133 GE133; clear hb hbox hg) | ((with_reducible refine gate_dst (N := 6) rfl ?_); refine boxE (cs := #[.int .i64 0, .int .i64 0]) (t := 98) ?_; intro gb134 hg w8 hbox hb; refine E7 (bB BK133.1 hb) (bS HB.1 hb) (hbox) (gX HB.1 hg) (gX HB.1 hg) (nB BK133.1 hg) (nC BK133.1 hg) ?_; clear BK133 HB; intro BK133 HB BK134 GW134 GE134 NB133_134 NB134_133; clear hb hbox hg; have hnb9 := NB133_134.1; have hnc9 := NB134_133.1; obtain ⟨hcz10_0, hcz10_1, hcz10_2, hfz10_0, hfz10_1, hfz10_2⟩ := cz3 BK133.1; have p135 : 0 <= ((ji4) : Int) := OD; have q135 : (ji4) < (l0_2.length : Int) := OD; obtain ⟨ad135, e135, hx135_0, hx135_1⟩ := at_T98 HR0_2.1 (ji4) p135 q135; cases e135; replace hx135_0 := (HB.1.cell (World.block_lt_of_cell? w _ hx135_0)).trans hx135_0; replace hx135_1 := (HB.1.cell (World.block_lt_of_cell? w _ hx135_1)).trans hx135_1; replace p135 := eq_true p135; replace q135 := eq_true q135; obtain ⟨hcz11_0, hcz11_1, hfz11_0, hfz11_1⟩ := cz2 BK134.1))
 refine bodyPost_ret (results_cell_row rfl _ _ gb134 98 #[.int .i64 ((rd_T98 l0_2 (ji4)).f0), .int .i64 ((rd_T98 l0_2 (ji4)).f1)] (0, 0) _ rfl (PF0 BK134.1) Try.underlying98 rfl (by kernel_rfl)) rfl ?_
 exact ⟨by first | rfl | (simp [errW_none, errW_some] <;> rfl) | (simp only [<- hji4]; first | rfl | (simp [errW_none, errW_some] <;> rfl)) | (simp [*, errW_none, errW_some] <;> rfl), BL HB.1⟩
/-! ### spec_paGoes: function 79 -/
open Kd
def spec_paGoes.j0 : Nat -> Int -> Int -> Bool -> Int -> Int -> Option (Int)
 | 0, _, _, _, _, _ => none
 | k + 1, x1, x6, x11, x137000, x137001 => if x11 = true then (some (wrap64 ((wrap64 (2 * x137001)) - 1))) else (if x6 = 4 then (some (wrap64 (-x1))) else (some 0))
def spec_paGoes.f (k : Nat) (a0_0 : Int) (a0_1 : Int) (a1 : Int) : Option (Int) := if a0_0 = 1 then (some (-1)) else (if a0_0 = 2 then (some 1) else (if a0_0 = 3 then (spec_paGoes.j0 k a1 a0_0 (a0_0 == 3) a0_0 a0_1) else (spec_paGoes.j0 k a1 a0_0 (a0_0 == 6) a0_0 a0_1)))
theorem spec_paGoes.mono_l : ∀ k, (∀ y0 y1 y2 y3 y4, LeO (spec_paGoes.j0 k y0 y1 y2 y3 y4) (spec_paGoes.j0 (k + 1) y0 y1 y2 y3 y4))
 | 0 => fun _ _ _ _ _ r h => by simp [spec_paGoes.j0] at h
 | k + 1 => by
  have ih0 := spec_paGoes.mono_l k
  intros
  first | unfold spec_paGoes.j0
  exact LM1 ih0
theorem spec_paGoes.mono : ∀ a0 a1 a2 k, LeO (spec_paGoes.f k a0 a1 a2) (spec_paGoes.f (k + 1) a0 a1 a2) := by
 intro a0 a1 a2 k
 have ih0 := spec_paGoes.mono_l k
 unfold spec_paGoes.f
 exact LM1 ih0
theorem spec_paGoes.calls (k : Nat) (a0_0 : Int) (a0_1 : Int) (a1 : Int) (r : Int) (w : World) (h : spec_paGoes.f k a0_0 a0_1 a1 = some r) :
 Calls Try.prog 79 #[.agg #[.int .i64 a0_0, .int .i64 a0_1], .int .i64 a1] w fun e w' => e = .returned (.int .i64 r) /\ Below w.heap.size w w' := by
 have hu98 := Try.underlying98
 have HB := Aside0.mk (Below.refl w.heap.size w)
 have H := h
 clear h
 unfold spec_paGoes.f at H
 replace H := ifQ H; rcases H with ⟨c3, H⟩ | ⟨c3, H⟩
 · have c3b0 := beq_iff_eq.mpr c3
   have c3b1 := bne_eq_false_iff_eq.mpr c3
   clear c3
   obtain rfl := Option.some.inj H
   go_enter Try.func79, Try.ntmps79
   go_wp2_with (first | ((with_reducible refine gate_dst (N := 2) rfl ?_); refine boxE (cs := #[.int .i64 a0_0, .int .i64 a0_1]) (t := 98) ?_; intro gb136 hg w4 hbox hb; refine E4b HB.1 hg hbox hb ?_; clear HB; intro HB BK136 GW136 GE136; clear hb hbox hg; obtain ⟨hcz5_0, hcz5_1, hfz5_0, hfz5_1⟩ := cz2 BK136.1))
   go_ret
   exact ⟨RF, BL HB.1⟩
 have c3b0 := beq_eq_false_iff_ne.mpr c3
 have c3b1 := bne_iff_ne.mpr c3
 replace H := ifQ H; rcases H with ⟨c6, H⟩ | ⟨c6, H⟩
 · have c6b0 := beq_iff_eq.mpr c6
   have c6b1 := bne_eq_false_iff_eq.mpr c6
   clear c6
   obtain rfl := Option.some.inj H
   go_enter Try.func79, Try.ntmps79
   go_wp2_with (first | ((with_reducible refine gate_dst (N := 2) rfl ?_); refine boxE (cs := #[.int .i64 a0_0, .int .i64 a0_1]) (t := 98) ?_; intro gb136 hg w7 hbox hb; refine E4b HB.1 hg hbox hb ?_; clear HB; intro HB BK136 GW136 GE136; clear hb hbox hg; obtain ⟨hcz8_0, hcz8_1, hfz8_0, hfz8_1⟩ := cz2 BK136.1))
   go_ret
   exact ⟨RF, BL HB.1⟩
 have c6b0 := beq_eq_false_iff_ne.mpr c6
 have c6b1 := bne_iff_ne.mpr c6
 have HC9 := Aside0.mk H
 clear H
 go_enter Try.func79, Try.ntmps79
 go_upto_if 11 with (first | ((with_reducible refine gate_dst (N := 2) rfl ?_); refine boxE (cs := #[.int .i64 a0_0, .int .i64 a0_1]) (t := 98) ?_; intro gb136 hg w10 hbox hb; refine E4b HB.1 hg hbox hb ?_; clear HB; intro HB BK136 GW136 GE136; clear hb hbox hg; obtain ⟨hcz11_0, hcz11_1, hfz11_0, hfz11_1⟩ := cz2 BK136.1))
 (try simp only [Act.put, List.setIfInBounds_toArray, List.set_cons_zero, List.set_cons_succ])
 go_cut [11] (fun v11 wc => ∃ (kq : Nat) (x11_8 : Bool), v11 = .bool x11_8 /\ Aside0 (spec_paGoes.j0 kq a1 a0_0 x11_8 a0_0 a0_1 = some r) /\ Aside0 (kq <= k) /\ Aside0 (wc.heap[gb136]? = some (.cells #[.int .i64 a0_0, .int .i64 a0_1] 98 (0, 0))) /\ Aside0 (Below w.heap.size w wc))
 case first =>
  have H := HC9.1
  clear HC9
  replace H := ifQ H; rcases H with ⟨c12, H⟩ | ⟨c12, H⟩
  · have c12b0 := beq_iff_eq.mpr c12
    have c12b1 := bne_eq_false_iff_eq.mpr c12
    clear c12
    (first | rw [c12b0] | (simp only [i64_w, i32_w]; rw [c12b0]) | skip)
    have H' := Aside0.mk H
    clear H
    go_wp2
    go_meet
    case rel => exact ⟨_, ((a0_0 == 3)), RG, H', ⟨by first | omega | exact Nat.le_refl _⟩, ⟨PB BK136.1⟩, ⟨BL HB.1⟩⟩
  have c12b0 := beq_eq_false_iff_ne.mpr c12
  have c12b1 := bne_iff_ne.mpr c12
  (first | rw [c12b0] | (simp only [i64_w, i32_w]; rw [c12b0]) | skip)
  have H' := Aside0.mk H
  clear H
  go_wp2
  go_meet
  case rel => exact ⟨_, ((a0_0 == 6)), RG, H', ⟨by first | omega | exact Nat.le_refl _⟩, ⟨PB BK136.1⟩, ⟨BL HB.1⟩⟩
 clear HC9
 try clear c3; try clear c6; clear c3b0 c3b1 c6b0 c6b1 hcz11_0 hcz11_1 hfz11_0 hfz11_1
 obtain ⟨kq, x11_8, rfl, HA, HJ8, BK136, HB⟩ := hcut
 cases kq with
 | zero => exact absurd HA.1 (by simp [spec_paGoes.j0])
 | succ kj8 => ?_
 have H := HA.1
 clear HA
 simp only [spec_paGoes.j0] at H
 replace H := ifX H; rcases H with ⟨rfl, H⟩ | ⟨rfl, H⟩
 · obtain rfl := Option.some.inj H
   obtain ⟨hcz14_0, hcz14_1, hfz14_0, hfz14_1⟩ := cz2 BK136.1
   go_wp2
   go_ret
   exact ⟨RF, BL HB.1⟩
 replace H := ifQ H; rcases H with ⟨c15, H⟩ | ⟨c15, H⟩
 · have c15b0 := beq_iff_eq.mpr c15
   have c15b1 := bne_eq_false_iff_eq.mpr c15
   clear c15
   obtain rfl := Option.some.inj H
   go_wp2
   go_ret
   exact ⟨RF, BL HB.1⟩
 have c15b0 := beq_eq_false_iff_ne.mpr c15
 have c15b1 := bne_iff_ne.mpr c15
 obtain rfl := Option.some.inj H
 go_wp2
 go_ret
 exact ⟨RF, BL HB.1⟩
/-! ### spec_paTurn: function 84 -/
open Kd
def spec_paTurn.f (a0_0 : Int) (a0_1 : Int) : Option (Int × Int) := some (a0_0, wrap64 (1 - a0_1))
theorem spec_paTurn.calls (a0_0 : Int) (a0_1 : Int) (r1 : Int) (r2 : Int) (w : World) (h : spec_paTurn.f a0_0 a0_1 = some (r1, r2)) :
 Calls Try.prog 84 #[.agg #[.int .i64 a0_0, .int .i64 a0_1]] w fun e w' => e = .returned (.agg #[.int .i64 r1, .int .i64 r2]) /\ Below w.heap.size w w' := by
 have hu98 := Try.underlying98
 have HB := Aside0.mk (Below.refl w.heap.size w)
 have H := h
 clear h
 unfold spec_paTurn.f at H
 simp only [Option.some.injEq, Prod.mk.injEq] at H
 obtain ⟨rfl, rfl⟩ := H
 go_enter Try.func84, Try.ntmps84
 go_wp2_with (first | ((with_reducible refine gate_dst (N := 1) rfl ?_); refine boxE (cs := #[.int .i64 a0_0, .int .i64 a0_1]) (t := 98) ?_; intro gb137 hg w2 hbox hb; refine E4b HB.1 hg hbox hb ?_; clear HB; intro HB BK137 GW137 GE137; clear hb hbox hg) | ((with_reducible refine gate_dst (N := 2) rfl ?_); refine boxE (cs := #[.int .i64 0, .int .i64 0]) (t := 98) ?_; intro gb138 hg w3 hbox hb; refine E7 (bB BK137.1 hb) (bS HB.1 hb) (hbox) (gX HB.1 hg) (gX HB.1 hg) (nB BK137.1 hg) (nC BK137.1 hg) ?_; clear BK137 HB; intro BK137 HB BK138 GW138 GE138 NB137_138 NB138_137; clear hb hbox hg; have hnb4 := NB137_138.1; have hnc4 := NB138_137.1; obtain ⟨hcz5_0, hcz5_1, hfz5_0, hfz5_1⟩ := cz2 BK137.1; obtain ⟨hcz6_0, hcz6_1, hfz6_0, hfz6_1⟩ := cz2 BK138.1))
 refine bodyPost_ret (results_cell_row rfl _ _ gb138 98 #[.int .i64 a0_0, .int .i64 (wrap64 (1 - a0_1))] (0, 0) _ rfl (PF0 BK138.1) Try.underlying98 rfl (by kernel_rfl)) rfl ?_
 exact ⟨RF, BL HB.1⟩

end Go.Proofs.Ythnehlphifegaaa.P
