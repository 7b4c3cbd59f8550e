-- PRINTED by print.py (a twelfth state) out of the translation. Not trusted: Lean checks it.
import Derived.Test.YtlkmafoihjglcaaPx0
namespace Go.Proofs.Ytlkmafoihjglcaa.P
open Go.RowKit Go.Proofs.YtlkmafoihjglcaaW.PrintWords Go.Proofs.YtlkmafoihjglcaaW.PrintLast Go.Proofs.YtlkmafoihjglcaaW.PrintMore
attribute [local go_sem] max2_int min2_int max_two min_two max_three min_three max_four min_four   -- for this text's walks alone
set_option linter.unusedVariables false
set_option linter.unusedSimpArgs false
set_option maxHeartbeats 8000000
set_option maxRecDepth 100000

/-! ### laws_szCellS: function 13 -/
open Kd
def laws_szCellS.f (l0 : List (S53)) (a1 : Int) : Option (Int) := if (wrap64 (a1 - (l0.length : Int))) < 0 then (some (-1)) else (some (wrap64 (a1 - (l0.length : Int))))
theorem laws_szCellS.calls (A0 : Option Addr) (c0 : Nat) (l0 : List (S53)) (a1 : Int) (r : Int) (w : World) (hr0 : Kd.C k53 w A0 l0.length l0) (hc0 : l0.length <= c0) (h : laws_szCellS.f l0 a1 = some r) :
 Calls Try.prog 13 #[.slice A0 l0.length c0, .int .i64 a1] w fun e w' => e = .returned (.int .i64 r) /\ Drawn0 w w' := by
 have HR0 := Aside0.mk hr0
 have HC0 := Aside0.mk hc0
 clear hr0 hc0
 have H := h
 clear h
 unfold laws_szCellS.f at H
 replace H := ifB H; rcases H with ⟨c3b0, H⟩ | ⟨c3b0, H⟩
 · obtain rfl := Option.some.inj H
   go_enter Try.func13, Try.ntmps13
   go_wp2
   go_ret
   exact ⟨RG, DR⟩
 obtain rfl := Option.some.inj H
 go_enter Try.func13, Try.ntmps13
 go_wp2
 go_ret
 exact ⟨RG, DR⟩
/-! ### laws_szBoard: function 4 -/
open Kd
def laws_szBoard.f (a0_0 : Int) (a0_1 : Int) (l0_2 : List (S53)) (a1 : Int) : Option (Int) := (laws_szCellS.f l0_2 a1).bind fun t102 => (if t102 < 0 then (some (-1)) else (some t102))
theorem laws_szBoard.calls (a0_0 : Int) (a0_1 : Int) (A0_2 : Option Addr) (c0_2 : Nat) (l0_2 : List (S53)) (a1 : Int) (r : Int) (w : World) (hr0_2 : Kd.C k53 w A0_2 l0_2.length l0_2) (hc0_2 : l0_2.length <= c0_2) (h : laws_szBoard.f a0_0 a0_1 l0_2 a1 = some r) :
 Calls Try.prog 4 #[.agg #[.int .i64 a0_0, .int .i64 a0_1, .slice A0_2 l0_2.length c0_2], .int .i64 a1] w fun e w' => e = .returned (.int .i64 r) /\ Below w.heap.size w w' := by
 have hu24 := Try.underlying24
 have HR0_2 := Aside0.mk hr0_2
 have HC0_2 := Aside0.mk hc0_2
 clear hr0_2 hc0_2
 have HB := Aside0.mk (Below.refl w.heap.size w)
 have H := h
 clear h
 unfold laws_szBoard.f at H
 replace H := bindA H; obtain ⟨t102, A3, H⟩ := H
 replace H := ifB H; rcases H with ⟨c4b0, H⟩ | ⟨c4b0, H⟩
 · obtain rfl := Option.some.inj H
   go_enter Try.func4, Try.ntmps4
   go_wp2_with (first | ((with_reducible refine gate_dst (N := 2) rfl ?_); refine boxE (cs := #[.int .i64 a0_0, .int .i64 a0_1, .slice A0_2 l0_2.length c0_2]) (t := 24) ?_; intro gb101 hg w5 hbox hb; refine E4b HB.1 hg hbox hb ?_; clear HB; intro HB BK101 GW101 GE101; clear hb hbox hg; obtain ⟨hcz6_0, hcz6_1, hcz6_2, hfz6_0, hfz6_1, hfz6_2⟩ := cz3 BK101.1) | ((with_reducible refine gate_callee (f := 13) rfl ?_); refine goesM (N := (some 8)) #[.slice A0_2 l0_2.length c0_2, .int .i64 a1] Try.func13 ?_; (with_reducible refine (laws_szCellS.calls _ _ l0_2 a1 t102 _ ?side1 ?side2 A3.1).mono ?_); (case side1 => exact CB (C_below HR0_2.1 HB.1)); (case side2 => exact HC0_2.1); rintro e w' ⟨rfl, ⟨nd, rfl⟩⟩; refine ⟨_, rfl, ?_⟩))
   go_ret
   exact ⟨RF, BL HB.1⟩
 obtain rfl := Option.some.inj H
 go_enter Try.func4, Try.ntmps4
 go_wp2_with (first | ((with_reducible refine gate_dst (N := 2) rfl ?_); refine boxE (cs := #[.int .i64 a0_0, .int .i64 a0_1, .slice A0_2 l0_2.length c0_2]) (t := 24) ?_; intro gb101 hg w7 hbox hb; refine E4b HB.1 hg hbox hb ?_; clear HB; intro HB BK101 GW101 GE101; clear hb hbox hg; obtain ⟨hcz8_0, hcz8_1, hcz8_2, hfz8_0, hfz8_1, hfz8_2⟩ := cz3 BK101.1) | ((with_reducible refine gate_callee (f := 13) rfl ?_); refine goesM (N := (some 8)) #[.slice A0_2 l0_2.length c0_2, .int .i64 a1] Try.func13 ?_; (with_reducible refine (laws_szCellS.calls _ _ l0_2 a1 t102 _ ?side1 ?side2 A3.1).mono ?_); (case side1 => exact CB (C_below HR0_2.1 HB.1)); (case side2 => exact HC0_2.1); rintro e w' ⟨rfl, ⟨nd, rfl⟩⟩; refine ⟨_, rfl, ?_⟩))
 go_ret
 exact ⟨RF, BL HB.1⟩
/-! ### spec_l1In: function 24 -/
open Kd
def spec_l1In.f (a0 : Int) (a1 : Int) (a2 : Int) : Option (Bool) := if a0 ≥ a1 then (some (decide (a0 <= a2))) else (some false)
theorem spec_l1In.calls (a0 : Int) (a1 : Int) (a2 : Int) (r : Bool) (w : World) (h : spec_l1In.f a0 a1 a2 = some r) :
 Calls Try.prog 24 #[.int .i64 a0, .int .i64 a1, .int .i64 a2] w fun e w' => e = .returned (.bool r) /\ Drawn0 w w' := by
 have H := h
 clear h
 unfold spec_l1In.f at H
 replace H := ifQ H; rcases H with ⟨c4, H⟩ | ⟨c4, H⟩
 · have c4b0 : decide (a1 <= a0) = true := decide_eq_true c4
   clear c4
   obtain rfl := Option.some.inj H
   go_enter Try.func24, Try.ntmps24
   go_wp2
   go_ret
   exact ⟨RG, DR⟩
 have c4b0 : decide (a1 <= a0) = false := decide_eq_false c4
 clear c4
 obtain rfl := Option.some.inj H
 go_enter Try.func24, Try.ntmps24
 go_wp2
 go_ret
 exact ⟨RG, DR⟩
/-! ### spec_paTurning: function 31 -/
open Kd
def spec_paTurning.f (a0_0 : Int) (a0_1 : Int) : Option (Bool) := if a0_0 = 3 then (some true) else (some (a0_0 == 6))
theorem spec_paTurning.calls (a0_0 : Int) (a0_1 : Int) (r : Bool) (w : World) (h : spec_paTurning.f a0_0 a0_1 = some r) :
 Calls Try.prog 31 #[.agg #[.int .i64 a0_0, .int .i64 a0_1]] w fun e w' => e = .returned (.bool r) /\ Below w.heap.size w w' := by
 have hu49 := Try.underlying49
 have HB := Aside0.mk (Below.refl w.heap.size w)
 have H := h
 clear h
 unfold spec_paTurning.f at H
 replace H := ifQ H; rcases H with ⟨c2, H⟩ | ⟨c2, H⟩
 · have c2b0 := beq_iff_eq.mpr c2
   have c2b1 := bne_eq_false_iff_eq.mpr c2
   clear c2
   obtain rfl := Option.some.inj H
   go_enter Try.func31, Try.ntmps31
   go_wp2_with (first | ((with_reducible refine gate_dst (N := 1) rfl ?_); refine boxE (cs := #[.int .i64 a0_0, .int .i64 a0_1]) (t := 49) ?_; intro gb103 hg w3 hbox hb; refine E4b HB.1 hg hbox hb ?_; clear HB; intro HB BK103 GW103 GE103; clear hb hbox hg; obtain ⟨hcz4_0, hcz4_1, hfz4_0, hfz4_1⟩ := cz2 BK103.1))
   go_ret
   exact ⟨RF, BL HB.1⟩
 have c2b0 := beq_eq_false_iff_ne.mpr c2
 have c2b1 := bne_iff_ne.mpr c2
 obtain rfl := Option.some.inj H
 go_enter Try.func31, Try.ntmps31
 go_wp2_with (first | ((with_reducible refine gate_dst (N := 1) rfl ?_); refine boxE (cs := #[.int .i64 a0_0, .int .i64 a0_1]) (t := 49) ?_; intro gb103 hg w5 hbox hb; refine E4b HB.1 hg hbox hb ?_; clear HB; intro HB BK103 GW103 GE103; clear hb hbox hg; obtain ⟨hcz6_0, hcz6_1, hfz6_0, hfz6_1⟩ := cz2 BK103.1))
 go_ret
 exact ⟨RF, BL HB.1⟩
/-! ### spec_paGood: function 25 -/
open Kd
def spec_paGood.f (a0_0 : Int) (a0_1 : Int) : Option (Bool) := (spec_l1In.f a0_0 0 7).bind fun t105 => (if t105 = true then (if a0_1 = 0 then (some true) else (if a0_1 = 1 then ((spec_paTurning.f a0_0 a0_1).bind fun t106 => (some t106)) else (some false))) else (some false))
theorem spec_paGood.calls (a0_0 : Int) (a0_1 : Int) (r : Bool) (w : World) (h : spec_paGood.f a0_0 a0_1 = some r) :
 Calls Try.prog 25 #[.agg #[.int .i64 a0_0, .int .i64 a0_1]] w fun e w' => e = .returned (.bool r) /\ Below w.heap.size w w' := by
 have hu49 := Try.underlying49
 have HB := Aside0.mk (Below.refl w.heap.size w)
 have H := h
 clear h
 unfold spec_paGood.f at H
 replace H := bindA H; obtain ⟨t105, A2, H⟩ := H
 replace H := ifX H; rcases H with ⟨rfl, H⟩ | ⟨rfl, H⟩
 · replace H := ifQ H; rcases H with ⟨c4, H⟩ | ⟨c4, H⟩
   · have c4b0 := beq_iff_eq.mpr c4
     have c4b1 := bne_eq_false_iff_eq.mpr c4
     clear c4
     obtain rfl := Option.some.inj H
     go_enter Try.func25, Try.ntmps25
     go_wp2_with (first | ((with_reducible refine gate_dst (N := 1) rfl ?_); refine boxE (cs := #[.int .i64 a0_0, .int .i64 a0_1]) (t := 49) ?_; intro gb104 hg w5 hbox hb; refine E4b HB.1 hg hbox hb ?_; clear HB; intro HB BK104 GW104 GE104; clear hb hbox hg; obtain ⟨hcz6_0, hcz6_1, hfz6_0, hfz6_1⟩ := cz2 BK104.1) | ((with_reducible refine gate_callee (f := 24) rfl ?_); refine goesM (N := (some 5)) #[.int .i64 a0_0, .int .i64 0, .int .i64 7] Try.func24 ?_; (with_reducible refine (spec_l1In.calls a0_0 0 7 true _ A2.1).mono ?_); rintro e w' ⟨rfl, ⟨nd, rfl⟩⟩; refine ⟨_, rfl, ?_⟩))
     go_ret
     exact ⟨RF, BL HB.1⟩
   have c4b0 := beq_eq_false_iff_ne.mpr c4
   have c4b1 := bne_iff_ne.mpr c4
   replace H := ifQ H; rcases H with ⟨c7, H⟩ | ⟨c7, H⟩
   · have c7b0 := beq_iff_eq.mpr c7
     have c7b1 := bne_eq_false_iff_eq.mpr c7
     clear c7
     replace H := bindA H; obtain ⟨t106, A8, H⟩ := H
     obtain rfl := Option.some.inj H
     go_enter Try.func25, Try.ntmps25
     go_wp2_with (first | ((with_reducible refine gate_dst (N := 1) rfl ?_); refine boxE (cs := #[.int .i64 a0_0, .int .i64 a0_1]) (t := 49) ?_; intro gb104 hg w9 hbox hb; refine E4b HB.1 hg hbox hb ?_; clear HB; intro HB BK104 GW104 GE104; clear hb hbox hg; obtain ⟨hcz10_0, hcz10_1, hfz10_0, hfz10_1⟩ := cz2 BK104.1) | ((with_reducible refine gate_callee (f := 24) rfl ?_); refine goesM (N := (some 5)) #[.int .i64 a0_0, .int .i64 0, .int .i64 7] Try.func24 ?_; (with_reducible refine (spec_l1In.calls a0_0 0 7 true _ A2.1).mono ?_); rintro e w' ⟨rfl, ⟨nd, rfl⟩⟩; refine ⟨_, rfl, ?_⟩) | (go_at_call 31; (with_reducible refine (spec_paTurning.calls a0_0 a0_1 t106 _ A8.1).mono ?_); rintro e w11 ⟨rfl, hb⟩; refine E2 (bB BK104.1 hb) (bS HB.1 hb) ?_; clear BK104 HB; intro BK104 HB; (try clear hb)))
     go_ret
     exact ⟨RF, BL HB.1⟩
   have c7b0 := beq_eq_false_iff_ne.mpr c7
   have c7b1 := bne_iff_ne.mpr c7
   obtain rfl := Option.some.inj H
   go_enter Try.func25, Try.ntmps25
   go_wp2_with (first | ((with_reducible refine gate_dst (N := 1) rfl ?_); refine boxE (cs := #[.int .i64 a0_0, .int .i64 a0_1]) (t := 49) ?_; intro gb104 hg w12 hbox hb; refine E4b HB.1 hg hbox hb ?_; clear HB; intro HB BK104 GW104 GE104; clear hb hbox hg; obtain ⟨hcz13_0, hcz13_1, hfz13_0, hfz13_1⟩ := cz2 BK104.1) | ((with_reducible refine gate_callee (f := 24) rfl ?_); refine goesM (N := (some 5)) #[.int .i64 a0_0, .int .i64 0, .int .i64 7] Try.func24 ?_; (with_reducible refine (spec_l1In.calls a0_0 0 7 true _ A2.1).mono ?_); rintro e w' ⟨rfl, ⟨nd, rfl⟩⟩; refine ⟨_, rfl, ?_⟩))
   go_ret
   exact ⟨RF, BL HB.1⟩
 obtain rfl := Option.some.inj H
 go_enter Try.func25, Try.ntmps25
 go_wp2_with (first | ((with_reducible refine gate_dst (N := 1) rfl ?_); refine boxE (cs := #[.int .i64 a0_0, .int .i64 a0_1]) (t := 49) ?_; intro gb104 hg w14 hbox hb; refine E4b HB.1 hg hbox hb ?_; clear HB; intro HB BK104 GW104 GE104; clear hb hbox hg; obtain ⟨hcz15_0, hcz15_1, hfz15_0, hfz15_1⟩ := cz2 BK104.1) | ((with_reducible refine gate_callee (f := 24) rfl ?_); refine goesM (N := (some 5)) #[.int .i64 a0_0, .int .i64 0, .int .i64 7] Try.func24 ?_; (with_reducible refine (spec_l1In.calls a0_0 0 7 false _ A2.1).mono ?_); rintro e w' ⟨rfl, ⟨nd, rfl⟩⟩; refine ⟨_, rfl, ?_⟩))
 go_ret
 exact ⟨RF, BL HB.1⟩

/-! ### spec_boGood: function 14 -/
open Kd
mutual
def spec_boGood.j0 : Nat -> Bool -> Int -> Int -> List (S49) -> Option (Bool)
 | 0, _, _, _, _ => none
 | k + 1, x25, x108000, x108001, x108002 => if x25 = true then (some false) else (spec_boGood.l0 k x108002 (x108002.length : Int) 0)
def spec_boGood.l0 : Nat -> List (S49) -> Int -> Int -> Option (Bool)
 | 0, _, _, _ => none
 | k + 1, x27, x28, x29 => if x29 < x28 then (if 0 <= x29 then (if x29 < (x27.length : Int) then ((spec_paGood.f ((rd_T49 x27 x29).f0) ((rd_T49 x27 x29).f1)).bind fun t112 => (if t112 = true then (spec_boGood.l0 k x27 x28 (wrap64 (x29 + 1))) else (some false))) else (none)) else (none)) else (some true)
end
def spec_boGood.f (k : Nat) (a0_0 : Int) (a0_1 : Int) (l0_2 : List (S49)) : Option (Bool) := (spec_l1In.f a0_0 1 10).bind fun t108 => (if t108 = true then ((spec_l1In.f a0_1 1 9).bind fun t109 => (if t109 = true then (spec_boGood.j0 k ((l0_2.length : Int) != (wrap64 (a0_0 * a0_1))) a0_0 a0_1 l0_2) else (spec_boGood.j0 k true a0_0 a0_1 l0_2))) else (spec_boGood.j0 k true a0_0 a0_1 l0_2))
theorem spec_boGood.mono_l : ∀ k, (∀ y0 y1 y2 y3, LeO (spec_boGood.j0 k y0 y1 y2 y3) (spec_boGood.j0 (k + 1) y0 y1 y2 y3)) /\ (∀ y0 y1 y2, LeO (spec_boGood.l0 k y0 y1 y2) (spec_boGood.l0 (k + 1) y0 y1 y2))
 | 0 => by refine ⟨?_, ?_⟩ <;> (intros; intro r h; first | (simp [spec_boGood.j0] at h; done) | (simp [spec_boGood.l0] at h; done))
 | k + 1 => by
  obtain ⟨ih0, ih1⟩ := spec_boGood.mono_l k
  refine ⟨?_, ?_⟩ <;> (
   intros
   first | unfold spec_boGood.j0 | unfold spec_boGood.l0
   exact LM2 ih0 ih1)
theorem spec_boGood.mono : ∀ a0 a1 a2 k, LeO (spec_boGood.f k a0 a1 a2) (spec_boGood.f (k + 1) a0 a1 a2) := by
 intro a0 a1 a2 k
 obtain ⟨ih0, ih1⟩ := spec_boGood.mono_l k
 unfold spec_boGood.f
 exact LM2 ih0 ih1
theorem spec_boGood.calls (k : Nat) (a0_0 : Int) (a0_1 : Int) (A0_2 : Option Addr) (c0_2 : Nat) (l0_2 : List (S49)) (r : Bool) (w : World) (hr0_2 : Kd.C k49 w A0_2 l0_2.length l0_2) (hc0_2 : l0_2.length <= c0_2) (h : spec_boGood.f k a0_0 a0_1 l0_2 = some r) :
 Calls Try.prog 14 #[.agg #[.int .i64 a0_0, .int .i64 a0_1, .slice A0_2 l0_2.length c0_2]] w fun e w' => e = .returned (.bool r) /\ Below w.heap.size w w' := by
 have hu31 := Try.underlying31
 have hu49 := Try.underlying49
 have HR0_2 := Aside0.mk hr0_2
 have HC0_2 := Aside0.mk hc0_2
 clear hr0_2 hc0_2
 have HB := Aside0.mk (Below.refl w.heap.size w)
 have H := h
 clear h
 unfold spec_boGood.f at H
 have HC2 := Aside0.mk H
 clear H
 go_enter Try.func14, Try.ntmps14
 go_upto_region 1 with (first | ((with_reducible refine gate_dst (N := 1) rfl ?_); (try (refine gate_guard (by rfl) ?_; dsimp only)); refine boxE (cs := #[.int .i64 a0_0, .int .i64 a0_1, .slice A0_2 l0_2.length c0_2]) (t := 31) ?_; intro gb107 hg w3 hbox hb; refine E4b HB.1 hg hbox hb ?_; clear HB; intro HB BK107 GW107 GE107; clear hb hbox hg))
 (try simp only [Act.put, List.setIfInBounds_toArray, List.set_cons_zero, List.set_cons_succ])
 go_cut [25] (fun v25 wc => ∃ (kq : Nat) (x25_1 : Bool), v25 = .bool x25_1 /\ Aside0 (spec_boGood.j0 kq x25_1 a0_0 a0_1 l0_2 = some r) /\ Aside0 (kq <= k) /\ Aside0 (wc.heap[gb107]? = some (.cells #[.int .i64 a0_0, .int .i64 a0_1, (.slice A0_2 l0_2.length c0_2)] 31 (0, 0))) /\ Aside0 (Below w.heap.size w wc))
 case first =>
  have H := HC2.1
  clear HC2
  replace H := bindA H; obtain ⟨t108, A4, H⟩ := H
  replace H := ifX H; rcases H with ⟨rfl, H⟩ | ⟨rfl, H⟩
  · replace H := bindA H; obtain ⟨t109, A6, H⟩ := H
    replace H := ifX H; rcases H with ⟨rfl, H⟩ | ⟨rfl, H⟩
    · have H' := Aside0.mk H
      clear H
      obtain ⟨hcz8_0, hcz8_1, hcz8_2, hfz8_0, hfz8_1, hfz8_2⟩ := cz3 BK107.1
      go_wp2_with (first | ((with_reducible refine gate_callee (f := 24) rfl ?_); refine goesM (N := (some 7)) #[.int .i64 a0_0, .int .i64 1, .int .i64 10] Try.func24 ?_; (with_reducible refine (spec_l1In.calls a0_0 1 10 true _ A4.1).mono ?_); rintro e w' ⟨rfl, ⟨nd, rfl⟩⟩; refine ⟨_, rfl, ?_⟩) | (go_at_call 24; (with_reducible refine (spec_l1In.calls a0_1 1 9 true _ A6.1).mono ?_); rintro e w' ⟨rfl, ⟨nd, rfl⟩⟩))
      go_meet
      case rel => exact ⟨_, (((l0_2.length : Int) != (wrap64 (a0_0 * a0_1)))), RG, H', ⟨by first | omega | exact Nat.le_refl _⟩, ⟨PB BK107.1⟩, ⟨BL HB.1⟩⟩
    have H' := Aside0.mk H
    clear H
    obtain ⟨hcz9_0, hcz9_1, hcz9_2, hfz9_0, hfz9_1, hfz9_2⟩ := cz3 BK107.1
    go_wp2_with (first | ((with_reducible refine gate_callee (f := 24) rfl ?_); refine goesM (N := (some 7)) #[.int .i64 a0_0, .int .i64 1, .int .i64 10] Try.func24 ?_; (with_reducible refine (spec_l1In.calls a0_0 1 10 true _ A4.1).mono ?_); rintro e w' ⟨rfl, ⟨nd, rfl⟩⟩; refine ⟨_, rfl, ?_⟩) | (go_at_call 24; (with_reducible refine (spec_l1In.calls a0_1 1 9 false _ A6.1).mono ?_); rintro e w' ⟨rfl, ⟨nd, rfl⟩⟩))
    go_meet
    case rel => exact ⟨_, (true), RG, H', ⟨by first | omega | exact Nat.le_refl _⟩, ⟨PB BK107.1⟩, ⟨BL HB.1⟩⟩
  have H' := Aside0.mk H
  clear H
  obtain ⟨hcz10_0, hcz10_1, hcz10_2, hfz10_0, hfz10_1, hfz10_2⟩ := cz3 BK107.1
  go_wp2_with (first | ((with_reducible refine gate_callee (f := 24) rfl ?_); refine goesM (N := (some 7)) #[.int .i64 a0_0, .int .i64 1, .int .i64 10] Try.func24 ?_; (with_reducible refine (spec_l1In.calls a0_0 1 10 false _ A4.1).mono ?_); rintro e w' ⟨rfl, ⟨nd, rfl⟩⟩; refine ⟨_, rfl, ?_⟩))
  go_meet
  case rel => exact ⟨_, (true), RG, H', ⟨by first | omega | exact Nat.le_refl _⟩, ⟨PB BK107.1⟩, ⟨BL HB.1⟩⟩
 clear HC2
 obtain ⟨kq, x25_1, rfl, HA, HJ1, BK107, HB⟩ := hcut
 cases kq with
 | zero => exact absurd HA.1 (by simp [spec_boGood.j0])
 | succ kj1 => ?_
 have H := HA.1
 clear HA
 simp only [spec_boGood.j0] at H
 replace H := ifX H; rcases H with ⟨rfl, H⟩ | ⟨rfl, H⟩
 · obtain rfl := Option.some.inj H
   go_wp2
   go_ret
   exact ⟨RF, BL HB.1⟩
 have H' := Aside0.mk H
 clear H
 obtain ⟨hcz12_0, hcz12_1, hcz12_2, hfz12_0, hfz12_1, hfz12_2⟩ := cz3 BK107.1
 go_wp2
 go_loopg [29] kj1 (fun kq v29 w' => ∃ (x29_2 : Int), v29 = .int .i64 x29_2 /\ Aside0 (spec_boGood.l0 kq l0_2 (l0_2.length : Int) x29_2 = some r) /\ Aside0 (kq <= kj1) /\ Aside0 (w'.heap[gb107]? = some (.cells #[.int .i64 a0_0, .int .i64 a0_1, (.slice A0_2 l0_2.length c0_2)] 31 (0, 0))) /\ Aside0 (Below w.heap.size w w'))
 case atStart => exact ⟨(0), RG, H', ⟨Nat.le_refl _⟩, ⟨PB BK107.1⟩, ⟨BL HB.1⟩⟩
 clear H'
 clear hcz12_0 hcz12_1 hcz12_2 hfz12_0 hfz12_1 hfz12_2
 obtain ⟨x29_2, rfl, HA, HK2, BK107, HB⟩ := hrel
 cases gk with
 | zero => exact absurd HA.1 (by simp [spec_boGood.l0])
 | succ k2 => ?_
 have H := HA.1
 clear HA
 simp only [spec_boGood.l0] at H
 replace H := ifB H; rcases H with ⟨c13b0, H⟩ | ⟨c13b0, H⟩
 · replace H := ifN H; obtain ⟨c14b0, H⟩ := H
   replace H := ifN H; obtain ⟨c15b0, H⟩ := H
   replace H := bindA H; obtain ⟨t112, A16, H⟩ := H
   replace H := ifX H; rcases H with ⟨rfl, H⟩ | ⟨rfl, H⟩
   · have H' := Aside0.mk H
     clear H
     have p110 : 0 <= (x29_2 : Int) := OD
     have q110 : x29_2 < (l0_2.length : Int) := OD
     obtain ⟨ad110, e110, hx110_0, hx110_1⟩ := at_T49 HR0_2.1 x29_2 p110 q110
     cases e110
     replace hx110_0 := (HB.1.cell (World.block_lt_of_cell? w _ hx110_0)).trans hx110_0
     replace hx110_1 := (HB.1.cell (World.block_lt_of_cell? w _ hx110_1)).trans hx110_1
     replace p110 := eq_true p110
     replace q110 := eq_true q110
     go_wp2_with (first | ((with_reducible refine gate_dst (N := 4) rfl ?_); (try (refine gate_guard (by rfl) ?_; dsimp only)); refine boxE (cs := #[.int .i64 0, .int .i64 0]) (t := 49) ?_; intro gb111 hg w18 hbox hb; refine E7 (bB BK107.1 hb) (bS HB.1 hb) (hbox) (gX HB.1 hg) (gX HB.1 hg) (nB BK107.1 hg) (nC BK107.1 hg) ?_; clear BK107 HB; intro BK107 HB BK111 GW111 GE111 NB107_111 NB111_107; clear hb hbox hg; have hnb19 := NB111_107.1; have hnc19 := NB107_111.1; obtain ⟨hcz20_0, hcz20_1, hfz20_0, hfz20_1⟩ := cz2 BK111.1) | ((with_reducible refine gate_callee (f := 25) rfl ?_); refine goesM (N := (some 34)) #[.agg #[.int .i64 ((rd_T49 l0_2 x29_2).f0), .int .i64 ((rd_T49 l0_2 x29_2).f1)]] Try.func25 ?_; (with_reducible refine (spec_paGood.calls ((rd_T49 l0_2 x29_2).f0) ((rd_T49 l0_2 x29_2).f1) true _ A16.1).mono ?_); rintro e w21 ⟨rfl, hb⟩; refine ⟨_, rfl, ?_⟩; refine E3 (blk_below (g := gb107) (o := .cells #[.int .i64 a0_0, .int .i64 a0_1, .slice (some ad110) l0_2.length c0_2] 31 (0, 0)) (PF1 NB107_111.1 BK107.1) hb) (blk_below (g := gb111) (o := .cells #[.int .i64 ((rd_T49 l0_2 x29_2).f0), .int .i64 ((rd_T49 l0_2 x29_2).f1)] 49 (0, 0)) (PF0 BK111.1) hb) (bS HB.1 hb) ?_; clear BK107 BK111 HB; intro BK107 BK111 HB; (try clear hb)))
     go_roundg k2
     case measure => have := HJ1.1; have := HK2.1; omega
     case rel => exact ⟨(wrap64 (x29_2 + 1)), RG, H', ⟨by have := HJ1.1; have := HK2.1; omega⟩, ⟨PB BK107.1⟩, ⟨BL HB.1⟩⟩
   obtain rfl := Option.some.inj H
   have p110 : 0 <= (x29_2 : Int) := OD
   have q110 : x29_2 < (l0_2.length : Int) := OD
   obtain ⟨ad110, e110, hx110_0, hx110_1⟩ := at_T49 HR0_2.1 x29_2 p110 q110
   cases e110
   replace hx110_0 := (HB.1.cell (World.block_lt_of_cell? w _ hx110_0)).trans hx110_0
   replace hx110_1 := (HB.1.cell (World.block_lt_of_cell? w _ hx110_1)).trans hx110_1
   replace p110 := eq_true p110
   replace q110 := eq_true q110
   go_wp2_with (first | ((with_reducible refine gate_dst (N := 4) rfl ?_); (try (refine gate_guard (by rfl) ?_; dsimp only)); refine boxE (cs := #[.int .i64 0, .int .i64 0]) (t := 49) ?_; intro gb111 hg w22 hbox hb; refine E7 (bB BK107.1 hb) (bS HB.1 hb) (hbox) (gX HB.1 hg) (gX HB.1 hg) (nB BK107.1 hg) (nC BK107.1 hg) ?_; clear BK107 HB; intro BK107 HB BK111 GW111 GE111 NB107_111 NB111_107; clear hb hbox hg; have hnb23 := NB111_107.1; have hnc23 := NB107_111.1; obtain ⟨hcz24_0, hcz24_1, hfz24_0, hfz24_1⟩ := cz2 BK111.1) | ((with_reducible refine gate_callee (f := 25) rfl ?_); refine goesM (N := (some 34)) #[.agg #[.int .i64 ((rd_T49 l0_2 x29_2).f0), .int .i64 ((rd_T49 l0_2 x29_2).f1)]] Try.func25 ?_; (with_reducible refine (spec_paGood.calls ((rd_T49 l0_2 x29_2).f0) ((rd_T49 l0_2 x29_2).f1) false _ A16.1).mono ?_); rintro e w25 ⟨rfl, hb⟩; refine ⟨_, rfl, ?_⟩; refine E3 (blk_below (g := gb107) (o := .cells #[.int .i64 a0_0, .int .i64 a0_1, .slice (some ad110) l0_2.length c0_2] 31 (0, 0)) (PF1 NB107_111.1 BK107.1) hb) (blk_below (g := gb111) (o := .cells #[.int .i64 ((rd_T49 l0_2 x29_2).f0), .int .i64 ((rd_T49 l0_2 x29_2).f1)] 49 (0, 0)) (PF0 BK111.1) hb) (bS HB.1 hb) ?_; clear BK107 BK111 HB; intro BK107 BK111 HB; (try clear hb)))
   go_ret
   exact ⟨RF, BL HB.1⟩
 obtain rfl := Option.some.inj H
 go_wp2
 go_ret
 exact ⟨RF, BL HB.1⟩
/-! ### spec_ggGear: function 32 -/
open Kd
def spec_ggGear.f (a0_0 : Int) (a0_1 : Int) : Option (Bool) := if a0_0 = 6 then (some true) else (some (a0_0 == 7))
theorem spec_ggGear.calls (a0_0 : Int) (a0_1 : Int) (r : Bool) (w : World) (h : spec_ggGear.f a0_0 a0_1 = some r) :
 Calls Try.prog 32 #[.agg #[.int .i64 a0_0, .int .i64 a0_1]] w fun e w' => e = .returned (.bool r) /\ Below w.heap.size w w' := by
 have hu49 := Try.underlying49
 have HB := Aside0.mk (Below.refl w.heap.size w)
 have H := h
 clear h
 unfold spec_ggGear.f at H
 replace H := ifQ H; rcases H with ⟨c2, H⟩ | ⟨c2, H⟩
 · have c2b0 := beq_iff_eq.mpr c2
   have c2b1 := bne_eq_false_iff_eq.mpr c2
   clear c2
   obtain rfl := Option.some.inj H
   go_enter Try.func32, Try.ntmps32
   go_wp2_with (first | ((with_reducible refine gate_dst (N := 1) rfl ?_); refine boxE (cs := #[.int .i64 a0_0, .int .i64 a0_1]) (t := 49) ?_; intro gb113 hg w3 hbox hb; refine E4b HB.1 hg hbox hb ?_; clear HB; intro HB BK113 GW113 GE113; clear hb hbox hg; obtain ⟨hcz4_0, hcz4_1, hfz4_0, hfz4_1⟩ := cz2 BK113.1))
   go_ret
   exact ⟨RF, BL HB.1⟩
 have c2b0 := beq_eq_false_iff_ne.mpr c2
 have c2b1 := bne_iff_ne.mpr c2
 obtain rfl := Option.some.inj H
 go_enter Try.func32, Try.ntmps32
 go_wp2_with (first | ((with_reducible refine gate_dst (N := 1) rfl ?_); refine boxE (cs := #[.int .i64 a0_0, .int .i64 a0_1]) (t := 49) ?_; intro gb113 hg w5 hbox hb; refine E4b HB.1 hg hbox hb ?_; clear HB; intro HB BK113 GW113 GE113; clear hb hbox hg; obtain ⟨hcz6_0, hcz6_1, hfz6_0, hfz6_1⟩ := cz2 BK113.1))
 go_ret
 exact ⟨RF, BL HB.1⟩
/-! ### spec_ggNear: function 33 -/
open Kd
mutual
def spec_ggNear.j0 : Nat -> Int -> Int -> Int -> List Int -> Int -> Int -> List (S49) -> Option (List Int)
 | 0, _, _, _, _, _, _, _ => none
 | k + 1, x1, x5, x6, x7, x115000, x115001, x115002 => if x6 > 0 then (if x7.length < 17592186044416 then (spec_ggNear.j1 k x1 x5 x6 (x7 ++ [wrap64 (x1 - 1)]) x115000 x115001 x115002) else (none)) else (spec_ggNear.j1 k x1 x5 x6 x7 x115000 x115001 x115002)
def spec_ggNear.j1 : Nat -> Int -> Int -> Int -> List Int -> Int -> Int -> List (S49) -> Option (List Int)
 | 0, _, _, _, _, _, _, _ => none
 | k + 1, x1, x5, x6, x7, x115000, x115001, x115002 => if (wrap64 (x6 + 1)) < x115001 then (if x7.length < 17592186044416 then ((some (x7 ++ [wrap64 (x1 + 1)] : List Int)).bind fun y121 => (if (wrap64 (x5 + 1)) < x115000 then (if y121.length < 17592186044416 then (some (y121 ++ [wrap64 (x1 + x115001)])) else (none)) else (some y121))) else (none)) else (if (wrap64 (x5 + 1)) < x115000 then (if x7.length < 17592186044416 then (some (x7 ++ [wrap64 (x1 + x115001)])) else (none)) else (some x7))
end
def spec_ggNear.f (k : Nat) (a0_0 : Int) (a0_1 : Int) (l0_2 : List (S49)) (a1 : Int) : Option (List Int) := if a0_1 = 0 then (none) else (if (wrap64 (Int.tdiv a1 a0_1)) > 0 then (if ([] : List Int).length < 17592186044416 then (spec_ggNear.j0 k a1 (wrap64 (Int.tdiv a1 a0_1)) (Int.tmod a1 a0_1) (([] : List Int) ++ [wrap64 (a1 - a0_1)]) a0_0 a0_1 l0_2) else (none)) else (spec_ggNear.j0 k a1 (wrap64 (Int.tdiv a1 a0_1)) (Int.tmod a1 a0_1) ([] : List Int) a0_0 a0_1 l0_2))
theorem spec_ggNear.mono_l : ∀ k, (∀ y0 y1 y2 y3 y4 y5 y6, LeO (spec_ggNear.j0 k y0 y1 y2 y3 y4 y5 y6) (spec_ggNear.j0 (k + 1) y0 y1 y2 y3 y4 y5 y6)) /\ (∀ y0 y1 y2 y3 y4 y5 y6, LeO (spec_ggNear.j1 k y0 y1 y2 y3 y4 y5 y6) (spec_ggNear.j1 (k + 1) y0 y1 y2 y3 y4 y5 y6))
 | 0 => by refine ⟨?_, ?_⟩ <;> (intros; intro r h; first | (simp [spec_ggNear.j0] at h; done) | (simp [spec_ggNear.j1] at h; done))
 | k + 1 => by
  obtain ⟨ih0, ih1⟩ := spec_ggNear.mono_l k
  refine ⟨?_, ?_⟩ <;> (
   intros
   first | unfold spec_ggNear.j0 | unfold spec_ggNear.j1
   exact LM2 ih0 ih1)
theorem spec_ggNear.mono : ∀ a0 a1 a2 a3 k, LeO (spec_ggNear.f k a0 a1 a2 a3) (spec_ggNear.f (k + 1) a0 a1 a2 a3) := by
 intro a0 a1 a2 a3 k
 obtain ⟨ih0, ih1⟩ := spec_ggNear.mono_l k
 unfold spec_ggNear.f
 exact LM2 ih0 ih1
theorem spec_ggNear.calls (k : Nat) (a0_0 : Int) (a0_1 : Int) (A0_2 : Option Addr) (c0_2 : Nat) (l0_2 : List (S49)) (a1 : Int) (r : List Int) (w : World) (hr0_2 : Kd.C k49 w A0_2 l0_2.length l0_2) (hc0_2 : l0_2.length <= c0_2) (h : spec_ggNear.f k a0_0 a0_1 l0_2 a1 = some r) :
 Calls Try.prog 33 #[.agg #[.int .i64 a0_0, .int .i64 a0_1, .slice A0_2 l0_2.length c0_2], .int .i64 a1] w fun e w' => ∃ v0_ : Value, e = .returned (v0_) /\ Kd.R (Kd.int .i64) 3 w' w.heap.size (fun _ => True) v0_ r /\ Below w.heap.size w w' := by
 have hu31 := Try.underlying31
 have HR0_2 := Aside0.mk hr0_2
 have HC0_2 := Aside0.mk hc0_2
 clear hr0_2 hc0_2
 have HB := Aside0.mk (Below.refl w.heap.size w)
 have H := h
 clear h
 unfold spec_ggNear.f at H
 replace H := ifQ H; rcases H with ⟨c3, H⟩ | ⟨c3, H⟩
 · exact absurd H (by simp)
 have c3b0 := beq_eq_false_iff_ne.mpr c3
 have c3b1 := bne_iff_ne.mpr c3
 have HC4 := Aside0.mk H
 clear H
 go_enter Try.func33, Try.ntmps33
 go_upto_if 17 with (first | ((with_reducible refine gate_dst (N := 2) rfl ?_); refine boxE (cs := #[.int .i64 a0_0, .int .i64 a0_1, .slice A0_2 l0_2.length c0_2]) (t := 31) ?_; intro gb114 hg w5 hbox hb; refine E4b HB.1 hg hbox hb ?_; clear HB; intro HB BK114 GW114 GE114; clear hb hbox hg; obtain ⟨hcz6_0, hcz6_1, hcz6_2, hfz6_0, hfz6_1, hfz6_2⟩ := cz3 BK114.1))
 repeat (go_quiet (first | ((with_reducible refine gate_dst (N := 2) rfl ?_); refine boxE (cs := #[.int .i64 a0_0, .int .i64 a0_1, .slice A0_2 l0_2.length c0_2]) (t := 31) ?_; intro gb114 hg w5 hbox hb; refine E4b HB.1 hg hbox hb ?_; clear HB; intro HB BK114 GW114 GE114; clear hb hbox hg; obtain ⟨hcz6_0, hcz6_1, hcz6_2, hfz6_0, hfz6_1, hfz6_2⟩ := cz3 BK114.1)); go_upto_if 17 with (first | ((with_reducible refine gate_dst (N := 2) rfl ?_); refine boxE (cs := #[.int .i64 a0_0, .int .i64 a0_1, .slice A0_2 l0_2.length c0_2]) (t := 31) ?_; intro gb114 hg w5 hbox hb; refine E4b HB.1 hg hbox hb ?_; clear HB; intro HB BK114 GW114 GE114; clear hb hbox hg; obtain ⟨hcz6_0, hcz6_1, hcz6_2, hfz6_0, hfz6_1, hfz6_2⟩ := cz3 BK114.1)))
 (try simp only [Act.put, List.setIfInBounds_toArray, List.set_cons_zero, List.set_cons_succ])
 go_cut [7] (fun v7 wc => ∃ (kq : Nat) (x7_3 : List Int), Aside0 (spec_ggNear.j0 kq a1 (wrap64 (Int.tdiv a1 a0_1)) (Int.tmod a1 a0_1) x7_3 a0_0 a0_1 l0_2 = some r) /\ Aside0 (kq <= k) /\ Aside0 (Kd.R (Kd.int .i64) 3 wc w.heap.size (fun _ => True) v7 x7_3) /\ Aside0 (wc.heap[gb114]? = some (.cells #[.int .i64 a0_0, .int .i64 a0_1, (.slice A0_2 l0_2.length c0_2)] 31 (0, 0))) /\ Aside0 (Below w.heap.size w wc))
 case first =>
  have H := HC4.1
  clear HC4
  replace H := ifQ H; rcases H with ⟨c7, H⟩ | ⟨c7, H⟩
  · have c7b0 : decide (0 < (wrap64 (Int.tdiv a1 a0_1))) = true := decide_eq_true c7
    clear c7
    (first | rw [c7b0] | (simp only [i64_w, i32_w]; rw [c7b0]) | skip)
    replace H := ifP H; obtain ⟨c8, H⟩ := H
    have LMc8 := Aside0.mk c8
    clear c8
    generalize hy115 : ((([] : List Int) ++ [wrap64 (a1 - a0_1)]) : List Int) = y115 at H
    have Ny115 := Aside0.mk hy115.symm; clear hy115
    have H' := Aside0.mk H
    clear H
    obtain ⟨hcz9_0, hcz9_1, hcz9_2, hfz9_0, hfz9_1, hfz9_2⟩ := cz3 BK114.1
    go_wp2_with (first | ((with_reducible refine gate_builtin (b := .append) (xs := #[.tmp 18, .tmp 23]) rfl ?_); at_builtin; refine R_append (Kd.int .i64) (w0 := w) w.heap.size rfl (.tmp 18) (.tmp 23) 43 3 (.int .i64 0) 8 rfl Try.underlying43 info3 rfl (by decide) (by omega) (.slice none 0 0) ([] : List Int) (wrap64 (a1 - a0_1)) [.int .i64 (wrap64 (a1 - a0_1))] (fun _ => True) (fun _ => False) rfl rfl ?aP (fun _ hk => hk.elim) ?aF ?aO ?aB ?aS ?aL ?_; (case aP => exact rfl); (case aB => exact (BL HB.1)); (case aF => exact (fun _ _ => trivial)); (case aO => exact ((R_nil _ _ _ _ (fun _ => True)))); (case aS => exact (bZ HB.1)); (case aL => have := LMc8.1; omega); intro v116 w10 ho hb hg hat; rw [<- Ny115.1] at ho; refine E3 (bG BK114.1 hg (by simp [Value.ownBlock])) (hb) (ho) ?_; clear BK114 HB; intro BK114 HB HO117; clear ho hb hg hat))
    repeat (go_quiet (first | ((with_reducible refine gate_builtin (b := .append) (xs := #[.tmp 18, .tmp 23]) rfl ?_); at_builtin; refine R_append (Kd.int .i64) (w0 := w) w.heap.size rfl (.tmp 18) (.tmp 23) 43 3 (.int .i64 0) 8 rfl Try.underlying43 info3 rfl (by decide) (by omega) (.slice none 0 0) ([] : List Int) (wrap64 (a1 - a0_1)) [.int .i64 (wrap64 (a1 - a0_1))] (fun _ => True) (fun _ => False) rfl rfl ?aP (fun _ hk => hk.elim) ?aF ?aO ?aB ?aS ?aL ?_; (case aP => exact rfl); (case aB => exact (BL HB.1)); (case aF => exact (fun _ _ => trivial)); (case aO => exact ((R_nil _ _ _ _ (fun _ => True)))); (case aS => exact (bZ HB.1)); (case aL => have := LMc8.1; omega); intro v116 w10 ho hb hg hat; rw [<- Ny115.1] at ho; refine E3 (bG BK114.1 hg (by simp [Value.ownBlock])) (hb) (ho) ?_; clear BK114 HB; intro BK114 HB HO117; clear ho hb hg hat)); try go_wp2_with (first | ((with_reducible refine gate_builtin (b := .append) (xs := #[.tmp 18, .tmp 23]) rfl ?_); at_builtin; refine R_append (Kd.int .i64) (w0 := w) w.heap.size rfl (.tmp 18) (.tmp 23) 43 3 (.int .i64 0) 8 rfl Try.underlying43 info3 rfl (by decide) (by omega) (.slice none 0 0) ([] : List Int) (wrap64 (a1 - a0_1)) [.int .i64 (wrap64 (a1 - a0_1))] (fun _ => True) (fun _ => False) rfl rfl ?aP (fun _ hk => hk.elim) ?aF ?aO ?aB ?aS ?aL ?_; (case aP => exact rfl); (case aB => exact (BL HB.1)); (case aF => exact (fun _ _ => trivial)); (case aO => exact ((R_nil _ _ _ _ (fun _ => True)))); (case aS => exact (bZ HB.1)); (case aL => have := LMc8.1; omega); intro v116 w10 ho hb hg hat; rw [<- Ny115.1] at ho; refine E3 (bG BK114.1 hg (by simp [Value.ownBlock])) (hb) (ho) ?_; clear BK114 HB; intro BK114 HB HO117; clear ho hb hg hat)))
    go_meet
    case rel => exact ⟨_, (y115), H', ⟨by first | omega | exact Nat.le_refl _⟩, ⟨PR HO117.1⟩, ⟨PB BK114.1⟩, ⟨BL HB.1⟩⟩
  have c7b0 : decide (0 < (wrap64 (Int.tdiv a1 a0_1))) = false := decide_eq_false c7
  clear c7
  (first | rw [c7b0] | (simp only [i64_w, i32_w]; rw [c7b0]) | skip)
  have H' := Aside0.mk H
  clear H
  go_wp2
  repeat (go_quiet (fail); try go_wp2)
  go_meet
  case rel => exact ⟨_, (([] : List Int)), H', ⟨by first | omega | exact Nat.le_refl _⟩, ⟨by first | exact R_nil _ _ _ _ _ | exact N_nil _ _ _ _ _ | exact V_nil _ _ _ _ _ | exact Q_nil _ _ _ _ _ | exact S_nil _ _ _ _ _⟩, ⟨PB BK114.1⟩, ⟨BL HB.1⟩⟩
 clear HC4
 try clear c3; clear c3b0 c3b1 hcz6_0 hcz6_1 hcz6_2 hfz6_0 hfz6_1 hfz6_2
 obtain ⟨kq, x7_3, HA, HJ3, HO_7, BK114, HB⟩ := hcut
 cases kq with
 | zero => exact absurd HA.1 (by simp [spec_ggNear.j0])
 | succ kj3 => ?_
 have H := HA.1
 clear HA
 simp only [spec_ggNear.j0] at H
 have HC11 := Aside0.mk H
 clear H
 go_upto_if 26 with (fail)
 repeat (go_quiet (fail); go_upto_if 26 with (fail))
 go_cut [7] (fun v7 wc => ∃ (kq : Nat) (x7_10 : List Int), Aside0 (spec_ggNear.j1 kq a1 (wrap64 (Int.tdiv a1 a0_1)) (Int.tmod a1 a0_1) x7_10 a0_0 a0_1 l0_2 = some r) /\ Aside0 (kq <= kj3) /\ Aside0 (Kd.R (Kd.int .i64) 3 wc w.heap.size (fun _ => True) v7 x7_10) /\ Aside0 (wc.heap[gb114]? = some (.cells #[.int .i64 a0_0, .int .i64 a0_1, (.slice A0_2 l0_2.length c0_2)] 31 (0, 0))) /\ Aside0 (Below w.heap.size w wc))
 case first =>
  have H := HC11.1
  clear HC11
  replace H := ifQ H; rcases H with ⟨c12, H⟩ | ⟨c12, H⟩
  · have c12b0 : decide (0 < (Int.tmod a1 a0_1)) = true := decide_eq_true c12
    clear c12
    (first | rw [c12b0] | (simp only [i64_w, i32_w]; rw [c12b0]) | skip)
    replace H := ifP H; obtain ⟨c13, H⟩ := H
    have LMc13 := Aside0.mk c13
    clear c13
    generalize hy118 : ((x7_3 ++ [wrap64 (a1 - 1)]) : List Int) = y118 at H
    have Ny118 := Aside0.mk hy118.symm; clear hy118
    have H' := Aside0.mk H
    clear H
    go_wp2_with (first | ((with_reducible refine gate_builtin (b := .append) (xs := #[.tmp 27, .tmp 30]) rfl ?_); at_builtin; refine R_append (Kd.int .i64) (w0 := w) w.heap.size rfl (.tmp 27) (.tmp 30) 43 3 (.int .i64 0) 8 rfl Try.underlying43 info3 rfl (by decide) (by omega) u7 x7_3 (wrap64 (a1 - 1)) [.int .i64 (wrap64 (a1 - 1))] (fun _ => True) (fun _ => False) rfl rfl ?aP (fun _ hk => hk.elim) ?aF ?aO ?aB ?aS ?aL ?_; (case aP => exact rfl); (case aB => exact (BL HB.1)); (case aF => exact (fun _ _ => trivial)); (case aO => exact (PR HO_7.1)); (case aS => exact (bZ HB.1)); (case aL => have := LMc13.1; omega); intro v119 w14 ho hb hg hat; rw [<- Ny118.1] at ho; refine E3 (bG BK114.1 hg (R_ne HO_7.1 BK114.1 (by decide))) (hb) (ho) ?_; clear BK114 HB HO_7; intro BK114 HB HO120; clear ho hb hg hat))
    repeat (go_quiet (first | ((with_reducible refine gate_builtin (b := .append) (xs := #[.tmp 27, .tmp 30]) rfl ?_); at_builtin; refine R_append (Kd.int .i64) (w0 := w) w.heap.size rfl (.tmp 27) (.tmp 30) 43 3 (.int .i64 0) 8 rfl Try.underlying43 info3 rfl (by decide) (by omega) u7 x7_3 (wrap64 (a1 - 1)) [.int .i64 (wrap64 (a1 - 1))] (fun _ => True) (fun _ => False) rfl rfl ?aP (fun _ hk => hk.elim) ?aF ?aO ?aB ?aS ?aL ?_; (case aP => exact rfl); (case aB => exact (BL HB.1)); (case aF => exact (fun _ _ => trivial)); (case aO => exact (PR HO_7.1)); (case aS => exact (bZ HB.1)); (case aL => have := LMc13.1; omega); intro v119 w14 ho hb hg hat; rw [<- Ny118.1] at ho; refine E3 (bG BK114.1 hg (R_ne HO_7.1 BK114.1 (by decide))) (hb) (ho) ?_; clear BK114 HB HO_7; intro BK114 HB HO120; clear ho hb hg hat)); try go_wp2_with (first | ((with_reducible refine gate_builtin (b := .append) (xs := #[.tmp 27, .tmp 30]) rfl ?_); at_builtin; refine R_append (Kd.int .i64) (w0 := w) w.heap.size rfl (.tmp 27) (.tmp 30) 43 3 (.int .i64 0) 8 rfl Try.underlying43 info3 rfl (by decide) (by omega) u7 x7_3 (wrap64 (a1 - 1)) [.int .i64 (wrap64 (a1 - 1))] (fun _ => True) (fun _ => False) rfl rfl ?aP (fun _ hk => hk.elim) ?aF ?aO ?aB ?aS ?aL ?_; (case aP => exact rfl); (case aB => exact (BL HB.1)); (case aF => exact (fun _ _ => trivial)); (case aO => exact (PR HO_7.1)); (case aS => exact (bZ HB.1)); (case aL => have := LMc13.1; omega); intro v119 w14 ho hb hg hat; rw [<- Ny118.1] at ho; refine E3 (bG BK114.1 hg (R_ne HO_7.1 BK114.1 (by decide))) (hb) (ho) ?_; clear BK114 HB HO_7; intro BK114 HB HO120; clear ho hb hg hat)))
    go_meet
    case rel => exact ⟨_, (y118), H', ⟨by have := HJ3.1; first | omega | exact Nat.le_refl _⟩, ⟨PR HO120.1⟩, ⟨PB BK114.1⟩, ⟨BL HB.1⟩⟩
  have c12b0 : decide (0 < (Int.tmod a1 a0_1)) = false := decide_eq_false c12
  clear c12
  (first | rw [c12b0] | (simp only [i64_w, i32_w]; rw [c12b0]) | skip)
  have H' := Aside0.mk H
  clear H
  go_wp2
  repeat (go_quiet (fail); try go_wp2)
  go_meet
  case rel => exact ⟨_, (x7_3), H', ⟨by have := HJ3.1; first | omega | exact Nat.le_refl _⟩, ⟨PR HO_7.1⟩, ⟨PB BK114.1⟩, ⟨BL HB.1⟩⟩
 clear HC11
 obtain ⟨kq, x7_10, HA, HJ10, HO_7, BK114, HB⟩ := hcut
 cases kq with
 | zero => exact absurd HA.1 (by simp [spec_ggNear.j1])
 | succ kj10 => ?_
 have H := HA.1
 clear HA
 simp only [spec_ggNear.j1] at H
 replace H := ifB H; rcases H with ⟨c15b0, H⟩ | ⟨c15b0, H⟩
 · replace H := ifP H; obtain ⟨c16, H⟩ := H
   have LMc16 := Aside0.mk c16
   clear c16
   replace H := nameB H; obtain ⟨y121, Ny121, H⟩ := H
   replace H := ifB H; rcases H with ⟨c17b0, H⟩ | ⟨c17b0, H⟩
   · replace H := ifP H; obtain ⟨c18, H⟩ := H
     have LMc18 := Aside0.mk c18
     clear c18
     generalize hy124 : ((y121 ++ [wrap64 (a1 + a0_1)]) : List Int) = y124 at H
     have Ny124 := Aside0.mk hy124.symm; clear hy124
     obtain rfl := Option.some.inj H
     obtain ⟨hcz19_0, hcz19_1, hcz19_2, hfz19_0, hfz19_1, hfz19_2⟩ := cz3 BK114.1
     go_wp2_with (first | ((with_reducible refine gate_builtin (b := .append) (xs := #[.tmp 37, .tmp 40]) rfl ?_); at_builtin; refine R_append (Kd.int .i64) (w0 := w) w.heap.size rfl (.tmp 37) (.tmp 40) 43 3 (.int .i64 0) 8 rfl Try.underlying43 info3 rfl (by decide) (by omega) u7 x7_10 (wrap64 (a1 + 1)) [.int .i64 (wrap64 (a1 + 1))] (fun _ => True) (fun _ => False) rfl rfl ?aP (fun _ hk => hk.elim) ?aF ?aO ?aB ?aS ?aL ?_; (case aP => exact rfl); (case aB => exact (BL HB.1)); (case aF => exact (fun _ _ => trivial)); (case aO => exact (PR HO_7.1)); (case aS => exact (bZ HB.1)); (case aL => have := LMc16.1; omega); intro v122 w20 ho hb hg hat; rw [<- Ny121.1] at ho; refine E3 (bG BK114.1 hg (R_ne HO_7.1 BK114.1 (by decide))) (hb) (ho) ?_; clear BK114 HB HO_7; intro BK114 HB HO123; clear ho hb hg hat; obtain ⟨hcz21_0, hcz21_1, hcz21_2, hfz21_0, hfz21_1, hfz21_2⟩ := cz3 BK114.1) | ((with_reducible refine gate_builtin (b := .append) (xs := #[.tmp 47, .tmp 52]) rfl ?_); at_builtin; refine R_append (Kd.int .i64) (w0 := w) w.heap.size rfl (.tmp 47) (.tmp 52) 43 3 (.int .i64 0) 8 rfl Try.underlying43 info3 rfl (by decide) (by omega) v122 y121 (wrap64 (a1 + a0_1)) [.int .i64 (wrap64 (a1 + a0_1))] (fun _ => True) (fun _ => False) rfl rfl ?aP (fun _ hk => hk.elim) ?aF ?aO ?aB ?aS ?aL ?_; (case aP => exact rfl); (case aB => exact (BL HB.1)); (case aF => exact (fun _ _ => trivial)); (case aO => exact (PR HO123.1)); (case aS => exact (bZ HB.1)); (case aL => have := LMc18.1; omega); intro v125 w22 ho hb hg hat; rw [<- Ny124.1] at ho; refine E3 (bG BK114.1 hg (R_ne HO123.1 BK114.1 (by decide))) (hb) (ho) ?_; clear BK114 HB HO123; intro BK114 HB HO126; clear ho hb hg hat))
     repeat (go_quiet (first | ((with_reducible refine gate_builtin (b := .append) (xs := #[.tmp 37, .tmp 40]) rfl ?_); at_builtin; refine R_append (Kd.int .i64) (w0 := w) w.heap.size rfl (.tmp 37) (.tmp 40) 43 3 (.int .i64 0) 8 rfl Try.underlying43 info3 rfl (by decide) (by omega) u7 x7_10 (wrap64 (a1 + 1)) [.int .i64 (wrap64 (a1 + 1))] (fun _ => True) (fun _ => False) rfl rfl ?aP (fun _ hk => hk.elim) ?aF ?aO ?aB ?aS ?aL ?_; (case aP => exact rfl); (case aB => exact (BL HB.1)); (case aF => exact (fun _ _ => trivial)); (case aO => exact (PR HO_7.1)); (case aS => exact (bZ HB.1)); (case aL => have := LMc16.1; omega); intro v122 w20 ho hb hg hat; rw [<- Ny121.1] at ho; refine E3 (bG BK114.1 hg (R_ne HO_7.1 BK114.1 (by decide))) (hb) (ho) ?_; clear BK114 HB HO_7; intro BK114 HB HO123; clear ho hb hg hat; obtain ⟨hcz21_0, hcz21_1, hcz21_2, hfz21_0, hfz21_1, hfz21_2⟩ := cz3 BK114.1) | ((with_reducible refine gate_builtin (b := .append) (xs := #[.tmp 47, .tmp 52]) rfl ?_); at_builtin; refine R_append (Kd.int .i64) (w0 := w) w.heap.size rfl (.tmp 47) (.tmp 52) 43 3 (.int .i64 0) 8 rfl Try.underlying43 info3 rfl (by decide) (by omega) v122 y121 (wrap64 (a1 + a0_1)) [.int .i64 (wrap64 (a1 + a0_1))] (fun _ => True) (fun _ => False) rfl rfl ?aP (fun _ hk => hk.elim) ?aF ?aO ?aB ?aS ?aL ?_; (case aP => exact rfl); (case aB => exact (BL HB.1)); (case aF => exact (fun _ _ => trivial)); (case aO => exact (PR HO123.1)); (case aS => exact (bZ HB.1)); (case aL => have := LMc18.1; omega); intro v125 w22 ho hb hg hat; rw [<- Ny124.1] at ho; refine E3 (bG BK114.1 hg (R_ne HO123.1 BK114.1 (by decide))) (hb) (ho) ?_; clear BK114 HB HO123; intro BK114 HB HO126; clear ho hb hg hat)); try go_wp2_with (first | ((with_reducible refine gate_builtin (b := .append) (xs := #[.tmp 37, .tmp 40]) rfl ?_); at_builtin; refine R_append (Kd.int .i64) (w0 := w) w.heap.size rfl (.tmp 37) (.tmp 40) 43 3 (.int .i64 0) 8 rfl Try.underlying43 info3 rfl (by decide) (by omega) u7 x7_10 (wrap64 (a1 + 1)) [.int .i64 (wrap64 (a1 + 1))] (fun _ => True) (fun _ => False) rfl rfl ?aP (fun _ hk => hk.elim) ?aF ?aO ?aB ?aS ?aL ?_; (case aP => exact rfl); (case aB => exact (BL HB.1)); (case aF => exact (fun _ _ => trivial)); (case aO => exact (PR HO_7.1)); (case aS => exact (bZ HB.1)); (case aL => have := LMc16.1; omega); intro v122 w20 ho hb hg hat; rw [<- Ny121.1] at ho; refine E3 (bG BK114.1 hg (R_ne HO_7.1 BK114.1 (by decide))) (hb) (ho) ?_; clear BK114 HB HO_7; intro BK114 HB HO123; clear ho hb hg hat; obtain ⟨hcz21_0, hcz21_1, hcz21_2, hfz21_0, hfz21_1, hfz21_2⟩ := cz3 BK114.1) | ((with_reducible refine gate_builtin (b := .append) (xs := #[.tmp 47, .tmp 52]) rfl ?_); at_builtin; refine R_append (Kd.int .i64) (w0 := w) w.heap.size rfl (.tmp 47) (.tmp 52) 43 3 (.int .i64 0) 8 rfl Try.underlying43 info3 rfl (by decide) (by omega) v122 y121 (wrap64 (a1 + a0_1)) [.int .i64 (wrap64 (a1 + a0_1))] (fun _ => True) (fun _ => False) rfl rfl ?aP (fun _ hk => hk.elim) ?aF ?aO ?aB ?aS ?aL ?_; (case aP => exact rfl); (case aB => exact (BL HB.1)); (case aF => exact (fun _ _ => trivial)); (case aO => exact (PR HO123.1)); (case aS => exact (bZ HB.1)); (case aL => have := LMc18.1; omega); intro v125 w22 ho hb hg hat; rw [<- Ny124.1] at ho; refine E3 (bG BK114.1 hg (R_ne HO123.1 BK114.1 (by decide))) (hb) (ho) ?_; clear BK114 HB HO123; intro BK114 HB HO126; clear ho hb hg hat)))
     go_ret
     exact ⟨_, RF, RPE (HO126.1), BL HB.1⟩
   obtain rfl := Option.some.inj H
   obtain ⟨hcz23_0, hcz23_1, hcz23_2, hfz23_0, hfz23_1, hfz23_2⟩ := cz3 BK114.1
   go_wp2_with (first | ((with_reducible refine gate_builtin (b := .append) (xs := #[.tmp 37, .tmp 40]) rfl ?_); at_builtin; refine R_append (Kd.int .i64) (w0 := w) w.heap.size rfl (.tmp 37) (.tmp 40) 43 3 (.int .i64 0) 8 rfl Try.underlying43 info3 rfl (by decide) (by omega) u7 x7_10 (wrap64 (a1 + 1)) [.int .i64 (wrap64 (a1 + 1))] (fun _ => True) (fun _ => False) rfl rfl ?aP (fun _ hk => hk.elim) ?aF ?aO ?aB ?aS ?aL ?_; (case aP => exact rfl); (case aB => exact (BL HB.1)); (case aF => exact (fun _ _ => trivial)); (case aO => exact (PR HO_7.1)); (case aS => exact (bZ HB.1)); (case aL => have := LMc16.1; omega); intro v122 w24 ho hb hg hat; rw [<- Ny121.1] at ho; refine E3 (bG BK114.1 hg (R_ne HO_7.1 BK114.1 (by decide))) (hb) (ho) ?_; clear BK114 HB HO_7; intro BK114 HB HO123; clear ho hb hg hat; obtain ⟨hcz25_0, hcz25_1, hcz25_2, hfz25_0, hfz25_1, hfz25_2⟩ := cz3 BK114.1))
   repeat (go_quiet (first | ((with_reducible refine gate_builtin (b := .append) (xs := #[.tmp 37, .tmp 40]) rfl ?_); at_builtin; refine R_append (Kd.int .i64) (w0 := w) w.heap.size rfl (.tmp 37) (.tmp 40) 43 3 (.int .i64 0) 8 rfl Try.underlying43 info3 rfl (by decide) (by omega) u7 x7_10 (wrap64 (a1 + 1)) [.int .i64 (wrap64 (a1 + 1))] (fun _ => True) (fun _ => False) rfl rfl ?aP (fun _ hk => hk.elim) ?aF ?aO ?aB ?aS ?aL ?_; (case aP => exact rfl); (case aB => exact (BL HB.1)); (case aF => exact (fun _ _ => trivial)); (case aO => exact (PR HO_7.1)); (case aS => exact (bZ HB.1)); (case aL => have := LMc16.1; omega); intro v122 w24 ho hb hg hat; rw [<- Ny121.1] at ho; refine E3 (bG BK114.1 hg (R_ne HO_7.1 BK114.1 (by decide))) (hb) (ho) ?_; clear BK114 HB HO_7; intro BK114 HB HO123; clear ho hb hg hat; obtain ⟨hcz25_0, hcz25_1, hcz25_2, hfz25_0, hfz25_1, hfz25_2⟩ := cz3 BK114.1)); try go_wp2_with (first | ((with_reducible refine gate_builtin (b := .append) (xs := #[.tmp 37, .tmp 40]) rfl ?_); at_builtin; refine R_append (Kd.int .i64) (w0 := w) w.heap.size rfl (.tmp 37) (.tmp 40) 43 3 (.int .i64 0) 8 rfl Try.underlying43 info3 rfl (by decide) (by omega) u7 x7_10 (wrap64 (a1 + 1)) [.int .i64 (wrap64 (a1 + 1))] (fun _ => True) (fun _ => False) rfl rfl ?aP (fun _ hk => hk.elim) ?aF ?aO ?aB ?aS ?aL ?_; (case aP => exact rfl); (case aB => exact (BL HB.1)); (case aF => exact (fun _ _ => trivial)); (case aO => exact (PR HO_7.1)); (case aS => exact (bZ HB.1)); (case aL => have := LMc16.1; omega); intro v122 w24 ho hb hg hat; rw [<- Ny121.1] at ho; refine E3 (bG BK114.1 hg (R_ne HO_7.1 BK114.1 (by decide))) (hb) (ho) ?_; clear BK114 HB HO_7; intro BK114 HB HO123; clear ho hb hg hat; obtain ⟨hcz25_0, hcz25_1, hcz25_2, hfz25_0, hfz25_1, hfz25_2⟩ := cz3 BK114.1)))
   go_ret
   exact ⟨_, RF, RPE (HO123.1), BL HB.1⟩
 replace H := ifB H; rcases H with ⟨c26b0, H⟩ | ⟨c26b0, H⟩
 · replace H := ifP H; obtain ⟨c27, H⟩ := H
   have LMc27 := Aside0.mk c27
   clear c27
   generalize hy127 : ((x7_10 ++ [wrap64 (a1 + a0_1)]) : List Int) = y127 at H
   have Ny127 := Aside0.mk hy127.symm; clear hy127
   obtain rfl := Option.some.inj H
   obtain ⟨hcz28_0, hcz28_1, hcz28_2, hfz28_0, hfz28_1, hfz28_2⟩ := cz3 BK114.1
   go_wp2_with (first | ((with_reducible refine gate_builtin (b := .append) (xs := #[.tmp 47, .tmp 52]) rfl ?_); at_builtin; refine R_append (Kd.int .i64) (w0 := w) w.heap.size rfl (.tmp 47) (.tmp 52) 43 3 (.int .i64 0) 8 rfl Try.underlying43 info3 rfl (by decide) (by omega) u7 x7_10 (wrap64 (a1 + a0_1)) [.int .i64 (wrap64 (a1 + a0_1))] (fun _ => True) (fun _ => False) rfl rfl ?aP (fun _ hk => hk.elim) ?aF ?aO ?aB ?aS ?aL ?_; (case aP => exact rfl); (case aB => exact (BL HB.1)); (case aF => exact (fun _ _ => trivial)); (case aO => exact (PR HO_7.1)); (case aS => exact (bZ HB.1)); (case aL => have := LMc27.1; omega); intro v128 w29 ho hb hg hat; rw [<- Ny127.1] at ho; refine E3 (bG BK114.1 hg (R_ne HO_7.1 BK114.1 (by decide))) (hb) (ho) ?_; clear BK114 HB HO_7; intro BK114 HB HO129; clear ho hb hg hat))
   repeat (go_quiet (first | ((with_reducible refine gate_builtin (b := .append) (xs := #[.tmp 47, .tmp 52]) rfl ?_); at_builtin; refine R_append (Kd.int .i64) (w0 := w) w.heap.size rfl (.tmp 47) (.tmp 52) 43 3 (.int .i64 0) 8 rfl Try.underlying43 info3 rfl (by decide) (by omega) u7 x7_10 (wrap64 (a1 + a0_1)) [.int .i64 (wrap64 (a1 + a0_1))] (fun _ => True) (fun _ => False) rfl rfl ?aP (fun _ hk => hk.elim) ?aF ?aO ?aB ?aS ?aL ?_; (case aP => exact rfl); (case aB => exact (BL HB.1)); (case aF => exact (fun _ _ => trivial)); (case aO => exact (PR HO_7.1)); (case aS => exact (bZ HB.1)); (case aL => have := LMc27.1; omega); intro v128 w29 ho hb hg hat; rw [<- Ny127.1] at ho; refine E3 (bG BK114.1 hg (R_ne HO_7.1 BK114.1 (by decide))) (hb) (ho) ?_; clear BK114 HB HO_7; intro BK114 HB HO129; clear ho hb hg hat)); try go_wp2_with (first | ((with_reducible refine gate_builtin (b := .append) (xs := #[.tmp 47, .tmp 52]) rfl ?_); at_builtin; refine R_append (Kd.int .i64) (w0 := w) w.heap.size rfl (.tmp 47) (.tmp 52) 43 3 (.int .i64 0) 8 rfl Try.underlying43 info3 rfl (by decide) (by omega) u7 x7_10 (wrap64 (a1 + a0_1)) [.int .i64 (wrap64 (a1 + a0_1))] (fun _ => True) (fun _ => False) rfl rfl ?aP (fun _ hk => hk.elim) ?aF ?aO ?aB ?aS ?aL ?_; (case aP => exact rfl); (case aB => exact (BL HB.1)); (case aF => exact (fun _ _ => trivial)); (case aO => exact (PR HO_7.1)); (case aS => exact (bZ HB.1)); (case aL => have := LMc27.1; omega); intro v128 w29 ho hb hg hat; rw [<- Ny127.1] at ho; refine E3 (bG BK114.1 hg (R_ne HO_7.1 BK114.1 (by decide))) (hb) (ho) ?_; clear BK114 HB HO_7; intro BK114 HB HO129; clear ho hb hg hat)))
   go_ret
   exact ⟨_, RF, RPE (HO129.1), BL HB.1⟩
 obtain rfl := Option.some.inj H
 obtain ⟨hcz30_0, hcz30_1, hcz30_2, hfz30_0, hfz30_1, hfz30_2⟩ := cz3 BK114.1
 go_wp2
 repeat (go_quiet (fail); try go_wp2)
 go_ret
 exact ⟨_, RF, RPE (HO_7.1), BL HB.1⟩
/-! ### spec_ggGroups: function 26 -/
open Kd
mutual
def spec_ggGroups.l0 : Nat -> List Int -> Int -> Int -> Int -> Int -> List (S49) -> Option (List Int)
 | 0, _, _, _, _, _, _ => none
 | k + 1, x3, x17, x18, x131000, x131001, x131002 => if x18 < x17 then (if 0 <= x18 then (if x18 < (x3.length : Int) then (spec_ggGroups.l0 k (x3.set (x18 : Int).toNat (-1)) x17 (wrap64 (x18 + 1)) x131000 x131001 x131002) else (none)) else (none)) else (spec_ggGroups.l1 k x3 0 x131002 (x131002.length : Int) 0 x131000 x131001 x131002)
def spec_ggGroups.l1 : Nat -> List Int -> Int -> List (S49) -> Int -> Int -> Int -> Int -> List (S49) -> Option (List Int)
 | 0, _, _, _, _, _, _, _, _ => none
 | k + 1, x3, x5, x26, x27, x28, x131000, x131001, x131002 => if x28 < x27 then (if 0 <= x28 then (if x28 < (x26.length : Int) then ((spec_ggGear.f ((rd_T49 x26 x28).f0) ((rd_T49 x26 x28).f1)).bind fun t137 => (if t137 = true then (if x28 < (x3.length : Int) then (spec_ggGroups.j2 k x3 x5 x28 x26 x27 x28 (decide ((rd x3 x28) ≥ 0)) x131000 x131001 x131002) else (none)) else (spec_ggGroups.j2 k x3 x5 x28 x26 x27 x28 true x131000 x131001 x131002))) else (none)) else (none)) else (some x3)
def spec_ggGroups.j2 : Nat -> List Int -> Int -> Int -> List (S49) -> Int -> Int -> Bool -> Int -> Int -> List (S49) -> Option (List Int)
 | 0, _, _, _, _, _, _, _, _, _, _ => none
 | k + 1, x3, x5, x6, x26, x27, x28, x42, x131000, x131001, x131002 => if x42 = true then (spec_ggGroups.l1 k x3 x5 x26 x27 (wrap64 (x28 + 1)) x131000 x131001 x131002) else (if 0 <= x6 then (if x6 < (x3.length : Int) then (spec_ggGroups.l2 k (x3.set (x6 : Int).toNat x5) x5 (([x6] : List Int)) 0 x26 x27 x28 x131000 x131001 x131002) else (none)) else (none))
def spec_ggGroups.l2 : Nat -> List Int -> Int -> List Int -> Int -> List (S49) -> Int -> Int -> Int -> Int -> List (S49) -> Option (List Int)
 | 0, _, _, _, _, _, _, _, _, _, _ => none
 | k + 1, x3, x5, x8, x9, x26, x27, x28, x131000, x131001, x131002 => if x9 < (x8.length : Int) then (if 0 <= x9 then ((spec_ggNear.f k x131000 x131001 x131002 (rd x8 x9)).bind fun t144 => (spec_ggGroups.l3 k x3 x5 x8 x9 x26 x27 x28 t144 (t144.length : Int) 0 x131000 x131001 x131002)) else (none)) else (spec_ggGroups.l1 k x3 (wrap64 (x5 + 1)) x26 x27 (wrap64 (x28 + 1)) x131000 x131001 x131002)
def spec_ggGroups.l3 : Nat -> List Int -> Int -> List Int -> Int -> List (S49) -> Int -> Int -> List Int -> Int -> Int -> Int -> Int -> List (S49) -> Option (List Int)
 | 0, _, _, _, _, _, _, _, _, _, _, _, _, _ => none
 | k + 1, x3, x5, x8, x9, x26, x27, x28, x60, x61, x62, x131000, x131001, x131002 => if x62 < x61 then (if 0 <= x62 then (if x62 < (x60.length : Int) then (if 0 <= (rd x60 x62) then (if (rd x60 x62) < (x131002.length : Int) then ((spec_ggGear.f ((rd_T49 x131002 (rd x60 x62)).f0) ((rd_T49 x131002 (rd x60 x62)).f1)).bind fun t149 => (if t149 = true then (if (rd x60 x62) < (x3.length : Int) then (if (rd x3 (rd x60 x62)) < 0 then (if x8.length < 17592186044416 then (spec_ggGroups.l3 k (x3.set ((rd x60 x62) : Int).toNat x5) x5 (x8 ++ [rd x60 x62]) x9 x26 x27 x28 x60 x61 (wrap64 (x62 + 1)) x131000 x131001 x131002) else (none)) else (spec_ggGroups.l3 k x3 x5 x8 x9 x26 x27 x28 x60 x61 (wrap64 (x62 + 1)) x131000 x131001 x131002)) else (none)) else (spec_ggGroups.l3 k x3 x5 x8 x9 x26 x27 x28 x60 x61 (wrap64 (x62 + 1)) x131000 x131001 x131002))) else (none)) else (none)) else (none)) else (none)) else (spec_ggGroups.l2 k x3 x5 x8 (wrap64 (x9 + 1)) x26 x27 x28 x131000 x131001 x131002)
end
def spec_ggGroups.f (k : Nat) (a0_0 : Int) (a0_1 : Int) (l0_2 : List (S49)) : Option (List Int) := if 0 <= (l0_2.length : Int) then (if ((l0_2.length : Int) : Int).toNat <= 35184372088832 then ((some (List.replicate ((l0_2.length : Int) : Int).toNat 0 : List Int)).bind fun y131 => (spec_ggGroups.l0 k y131 (y131.length : Int) 0 a0_0 a0_1 l0_2)) else (none)) else (none)
theorem spec_ggGroups.mono_l : ∀ k, (∀ y0 y1 y2 y3 y4 y5, LeO (spec_ggGroups.l0 k y0 y1 y2 y3 y4 y5) (spec_ggGroups.l0 (k + 1) y0 y1 y2 y3 y4 y5)) /\ (∀ y0 y1 y2 y3 y4 y5 y6 y7, LeO (spec_ggGroups.l1 k y0 y1 y2 y3 y4 y5 y6 y7) (spec_ggGroups.l1 (k + 1) y0 y1 y2 y3 y4 y5 y6 y7)) /\ (∀ y0 y1 y2 y3 y4 y5 y6 y7 y8 y9, LeO (spec_ggGroups.j2 k y0 y1 y2 y3 y4 y5 y6 y7 y8 y9) (spec_ggGroups.j2 (k + 1) y0 y1 y2 y3 y4 y5 y6 y7 y8 y9)) /\ (∀ y0 y1 y2 y3 y4 y5 y6 y7 y8 y9, LeO (spec_ggGroups.l2 k y0 y1 y2 y3 y4 y5 y6 y7 y8 y9) (spec_ggGroups.l2 (k + 1) y0 y1 y2 y3 y4 y5 y6 y7 y8 y9)) /\ (∀ y0 y1 y2 y3 y4 y5 y6 y7 y8 y9 y10 y11 y12, LeO (spec_ggGroups.l3 k y0 y1 y2 y3 y4 y5 y6 y7 y8 y9 y10 y11 y12) (spec_ggGroups.l3 (k + 1) y0 y1 y2 y3 y4 y5 y6 y7 y8 y9 y10 y11 y12))
 | 0 => by refine ⟨?_, ?_, ?_, ?_, ?_⟩ <;> (intros; intro r h; first | (simp [spec_ggGroups.l0] at h; done) | (simp [spec_ggGroups.l1] at h; done) | (simp [spec_ggGroups.j2] at h; done) | (simp [spec_ggGroups.l2] at h; done) | (simp [spec_ggGroups.l3] at h; done))
 | k + 1 => by
  obtain ⟨ih0, ih1, ih2, ih3, ih4⟩ := spec_ggGroups.mono_l k
  refine ⟨?_, ?_, ?_, ?_, ?_⟩ <;> (
   intros
   first | unfold spec_ggGroups.l0 | unfold spec_ggGroups.l1 | unfold spec_ggGroups.j2 | unfold spec_ggGroups.l2 | unfold spec_ggGroups.l3
   exact LM6 ih0 ih1 ih2 ih3 ih4 spec_ggNear.mono)
theorem spec_ggGroups.mono : ∀ a0 a1 a2 k, LeO (spec_ggGroups.f k a0 a1 a2) (spec_ggGroups.f (k + 1) a0 a1 a2) := by
 intro a0 a1 a2 k
 obtain ⟨ih0, ih1, ih2, ih3, ih4⟩ := spec_ggGroups.mono_l k
 unfold spec_ggGroups.f
 exact LM6 ih0 ih1 ih2 ih3 ih4 spec_ggNear.mono
def spec_ggGroups.T17 : Bool × List (List Nat × List Nat) := (true, [([], []), ([], []), ([], []), ([1, 2], [1, 2]), ([3], [3]), ([0, 4], [0, 4]), ([5], [5]), ([], [])])
def spec_ggGroups.B17 : List Nat := [0, 0, 0, 6, 14, 31, 63, 0]
theorem spec_ggGroups.tab17 : rtab .any (opsOf Try.f26 17) = spec_ggGroups.T17 := by kernel_rfl
theorem spec_ggGroups.bits17 : waitsOk spec_ggGroups.T17.2 spec_ggGroups.B17 = true := by kernel_rfl
theorem spec_ggGroups.calls (k : Nat) (a0_0 : Int) (a0_1 : Int) (A0_2 : Option Addr) (c0_2 : Nat) (l0_2 : List (S49)) (r : List Int) (w : World) (hr0_2 : Kd.C k49 w A0_2 l0_2.length l0_2) (hc0_2 : l0_2.length <= c0_2) (h : spec_ggGroups.f k a0_0 a0_1 l0_2 = some r) :
 Calls Try.prog 26 #[.agg #[.int .i64 a0_0, .int .i64 a0_1, .slice A0_2 l0_2.length c0_2]] w fun e w' => ∃ v0_ : Value, e = .returned (v0_) /\ Kd.R (Kd.int .i64) 3 w' w.heap.size (fun _ => True) v0_ r /\ Below w.heap.size w w' := by
 have hu31 := Try.underlying31
 have hu49 := Try.underlying49
 have HR0_2 := Aside0.mk hr0_2
 have HC0_2 := Aside0.mk hc0_2
 clear hr0_2 hc0_2
 have HB := Aside0.mk (Below.refl w.heap.size w)
 have H := h
 clear h
 unfold spec_ggGroups.f at H
 replace H := ifP H; obtain ⟨c2, H⟩ := H
 have c2b0 := eq_true c2
 have c2b1 := decide_eq_true c2
 clear c2
 replace H := ifP H; obtain ⟨c3, H⟩ := H
 have c3b0 := eq_true c3
 have c3b1 := decide_eq_true c3
 clear c3
 replace H := nameB H; obtain ⟨y131, Ny131, H⟩ := H
 have H' := Aside0.mk H
 clear H
 go_enter Try.func26, Try.ntmps26
 go_wp2_with (first | ((with_reducible refine gate_dst (N := 1) rfl ?_); refine boxE (cs := #[.int .i64 a0_0, .int .i64 a0_1, .slice A0_2 l0_2.length c0_2]) (t := 31) ?_; intro gb130 hg w4 hbox hb; refine E4b HB.1 hg hbox hb ?_; clear HB; intro HB BK130 GW130 GE130; clear hb hbox hg; obtain ⟨hcz5_0, hcz5_1, hcz5_2, hfz5_0, hfz5_1, hfz5_2⟩ := cz3 BK130.1) | ((with_reducible refine gate_dst (N := 15) rfl ?_); refine R_make (Kd.int .i64) _ 3 rfl (N := 15) rfl 43 _ _ rfl (l0_2.length : Int) rfl rfl Try.underlying43 (.int .i64 0) 8 info3 rfl (by decide) (by omega) 0 (ok := fun _ => True) (okp := fun _ => True) rfl (fun _ hk => hk) trivial (OD) (Nat.le_trans (Nat.mul_le_mul_right _ (OD : (l0_2.length : Int).toNat <= 35184372088832)) (by omega)) (Below.refl _ _) (Nat.le_refl _) ?_; intro v132 w6 ho7 hb hg_ hnew_; clear hg_ hnew_; (first | rw [<- Ny131.1] at ho7 | (simp only [Int.reduceToNat] at ho7; rw [<- Ny131.1] at ho7)); refine E3 (R_lower ho7 (bZ HB.1)) (bB BK130.1 hb) (bS HB.1 hb) ?_; clear BK130 HB; intro HO133 BK130 HB; clear hb ho7; obtain ⟨Ao8, co8, eo8⟩ := R_slice HO133.1; subst eo8))
 go_loopg [18] k (fun kq v18 w' => ∃ (x3_1 : List Int) (x18_1 : Int), v18 = .int .i64 x18_1 /\ Aside0 (spec_ggGroups.l0 kq x3_1 (y131.length : Int) x18_1 a0_0 a0_1 l0_2 = some r) /\ Aside0 (kq <= k) /\ Aside0 (Kd.R (Kd.int .i64) 3 w' w.heap.size (fun _ => True) (.slice Ao8 y131.length co8) x3_1) /\ Aside0 (w'.heap[gb130]? = some (.cells #[.int .i64 a0_0, .int .i64 a0_1, (.slice A0_2 l0_2.length c0_2)] 31 (0, 0))) /\ Aside0 (Below w.heap.size w w'))
 case atStart => exact ⟨(y131), (0), RG, H', ⟨Nat.le_refl _⟩, ⟨PR HO133.1⟩, ⟨PB BK130.1⟩, ⟨BL HB.1⟩⟩
 clear H'
 clear c2b0 c2b1 c3b0 c3b1 hcz5_0 hcz5_1 hcz5_2 hfz5_0 hfz5_1 hfz5_2
 obtain ⟨x3_1, x18_1, rfl, HA, HK1, HO_3, BK130, HB⟩ := hrel
 have hl3_1 := (R_reads' HO_3.1).1
 rw [hl3_1] at HO_3
 (try simp only [hl3_1])
 (try simp only [hl3_1] at BK130)
 cases gk with
 | zero => exact absurd HA.1 (by simp [spec_ggGroups.l0])
 | succ k1 => ?_
 have H := HA.1
 clear HA
 simp only [spec_ggGroups.l0] at H
 replace H := ifB H; rcases H with ⟨c9b0, H⟩ | ⟨c9b0, H⟩
 · replace H := ifN H; obtain ⟨c10b0, H⟩ := H
   replace H := ifN H; obtain ⟨c11b0, H⟩ := H
   generalize hy134 : ((x3_1.set (x18_1 : Int).toNat (-1)) : List Int) = y134 at H
   have Ny134 := Aside0.mk hy134.symm; clear hy134
   have H' := Aside0.mk H
   clear H
   have p12 : 0 <= (x18_1 : Int) := OD
   have q12 : (x18_1 : Int) < ((x3_1.length : Int) : Int) := OD
   obtain ⟨go12, co12, eo12, gb12, gl12, cl12, HG12⟩ := R_form HO_3.1 (by omega)
   (first | cases eo12 | (injection eo12 with ea_ en_ ec_; (first | subst ea_ | (injection ea_ with ea_; subst ea_)); subst ec_; clear en_))
   have GB12 := Aside0.mk gb12
   have GG12 := Aside0.mk HG12
   clear gb12 gl12 HG12
   obtain ⟨hx12_0, hf12_0⟩ := R_celln 0 HO_3.1 (x18_1 : Int) p12 q12
   replace p12 := eq_true p12
   replace q12 := eq_true q12
   have HP13 := R_putg HO_3.1 (x18_1 : Int) (-1)
   go_wp2_with (first | ((with_reducible refine gate_store (t := 3) (p := 23) rfl ?_); refine storeE (t := 3) (p := 23) (w1 := (wr.setCell ⟨go12, (x18_1 : Int).toNat, none⟩ (.int .i64 (-1)))) ?_; intro w14 hw; have hg : wr.grownBy w14 (some go12) := (by rw [hw]; exact HP13.2); have hp_ : Kd.R (Kd.int .i64) 3 w14 w.heap.size (fun _ => True) (.slice (some ⟨go12, 0, none⟩) x3_1.length co8) y134 := (by rw [hw, Ny134.1]; exact HP13.1); clear HP13; refine E3 (hp_) (bG BK130.1 hg (R_ne HO_3.1 BK130.1 (by decide))) ((by rw [hw]; exact below_set (HB.1) GB12.1 : Below w.heap.size w w14)) ?_; clear HO_3 BK130 HB; intro HO_3 BK130 HB; clear hg hw hp_))
   (try simp only [<- hl3_1])
   go_roundg k1
   case measure => have := HK1.1; omega
   case rel => exact ⟨(y134), (wrap64 (x18_1 + 1)), RG, H', ⟨by have := HK1.1; omega⟩, ⟨PR1 HO_3.1 hl3_1⟩, ⟨PB1 BK130.1 hl3_1⟩, ⟨BL HB.1⟩⟩
 (try simp only [hl3_1] at c9b0)
 have H' := Aside0.mk H
 clear H
 obtain ⟨hcz15_0, hcz15_1, hcz15_2, hfz15_0, hfz15_1, hfz15_2⟩ := cz3 BK130.1
 go_wp2
 go_loopg [5, 28] k1 (fun kq v5 v28 w' => ∃ (x3_2 : List Int) (x5_2 : Int) (x28_2 : Int), v5 = .int .i64 x5_2 /\ v28 = .int .i64 x28_2 /\ Aside0 (spec_ggGroups.l1 kq x3_2 x5_2 l0_2 (l0_2.length : Int) x28_2 a0_0 a0_1 l0_2 = some r) /\ Aside0 (kq <= k1) /\ Aside0 (Kd.R (Kd.int .i64) 3 w' w.heap.size (fun _ => True) (.slice Ao8 x3_1.length co8) x3_2) /\ Aside0 (w'.heap[gb130]? = some (.cells #[.int .i64 a0_0, .int .i64 a0_1, (.slice A0_2 l0_2.length c0_2)] 31 (0, 0))) /\ Aside0 (Below w.heap.size w w'))
 case atStart => exact ⟨(x3_1), (0), (0), RG, RG, H', ⟨Nat.le_refl _⟩, ⟨PR1 HO_3.1 hl3_1⟩, ⟨PB1 BK130.1 hl3_1⟩, ⟨BL HB.1⟩⟩
 clear H'
 clear c9b0 hcz15_0 hcz15_1 hcz15_2 hfz15_0 hfz15_1 hfz15_2
 obtain ⟨x3_2, x5_2, x28_2, rfl, rfl, HA, HK2, HO_3, BK130, HB⟩ := hrel
 have hl3_2 := (R_reads' HO_3.1).1
 rw [hl3_2] at HO_3
 (try simp only [hl3_2])
 (try simp only [hl3_2] at BK130)
 cases gk with
 | zero => exact absurd HA.1 (by simp [spec_ggGroups.l1])
 | succ k2 => ?_
 have H := HA.1
 clear HA
 simp only [spec_ggGroups.l1] at H
 replace H := ifB H; rcases H with ⟨c16b0, H⟩ | ⟨c16b0, H⟩
 · replace H := ifN H; obtain ⟨c17b0, H⟩ := H
   replace H := ifN H; obtain ⟨c18b0, H⟩ := H
   have HC19 := Aside0.mk H
   clear H
   have p135 : 0 <= (x28_2 : Int) := OD
   have q135 : x28_2 < (l0_2.length : Int) := OD
   obtain ⟨ad135, e135, hx135_0, hx135_1⟩ := at_T49 HR0_2.1 x28_2 p135 q135
   cases e135
   replace hx135_0 := (HB.1.cell (World.block_lt_of_cell? w _ hx135_0)).trans hx135_0
   replace hx135_1 := (HB.1.cell (World.block_lt_of_cell? w _ hx135_1)).trans hx135_1
   replace p135 := eq_true p135
   replace q135 := eq_true q135
   go_upto_region 11 with (first | ((with_reducible refine gate_dst (N := 7) rfl ?_); refine boxE (cs := #[.int .i64 0, .int .i64 0]) (t := 49) ?_; intro gb136 hg w20 hbox hb; refine E8 (rB HO_3.1 hb) (bB BK130.1 hb) (bS HB.1 hb) (hbox) (gX HB.1 hg) (gX HB.1 hg) (nB BK130.1 hg) (nC BK130.1 hg) ?_; clear HO_3 BK130 HB; intro HO_3 BK130 HB BK136 GW136 GE136 NB130_136 NB136_130; clear hb hbox hg; have hnb21 := NB136_130.1; have hnc21 := NB130_136.1; obtain ⟨hcz22_0, hcz22_1, hfz22_0, hfz22_1⟩ := cz2 BK136.1))
   (try simp only [Act.put, List.setIfInBounds_toArray, List.set_cons_zero, List.set_cons_succ])
   go_cut [42] (fun v42 wc => ∃ (kq : Nat) (x42_18 : Bool), v42 = .bool x42_18 /\ Aside0 (spec_ggGroups.j2 kq x3_2 x5_2 x28_2 l0_2 (l0_2.length : Int) x28_2 x42_18 a0_0 a0_1 l0_2 = some r) /\ Aside0 (kq <= k2) /\ Aside0 (Kd.R (Kd.int .i64) 3 wc w.heap.size (fun _ => True) (.slice Ao8 x3_2.length co8) x3_2) /\ Aside0 (wc.heap[gb130]? = some (.cells #[.int .i64 a0_0, .int .i64 a0_1, (.slice (some ad135) l0_2.length c0_2)] 31 (0, 0))) /\ Aside0 (wc.heap[gb136]? = some (.cells #[.int .i64 ((rd_T49 l0_2 x28_2).f0), .int .i64 ((rd_T49 l0_2 x28_2).f1)] 49 (0, 0))) /\ Aside0 (Below w.heap.size w wc))
   case first =>
    have H := HC19.1
    clear HC19
    replace H := bindA H; obtain ⟨t137, A23, H⟩ := H
    replace H := ifX H; rcases H with ⟨rfl, H⟩ | ⟨rfl, H⟩
    · replace H := ifN H; obtain ⟨c25b0, H⟩ := H
      (first | rw [c25b0] | (simp only [i64_w, i32_w]; rw [c25b0]) | skip)
      have H' := Aside0.mk H
      clear H
      obtain ⟨hcz27_0, hcz27_1, hfz27_0, hfz27_1⟩ := cz2 BK136.1
      go_wp2_with (first | ((with_reducible refine gate_callee (f := 32) rfl ?_); refine goesM (N := (some 34)) #[.agg #[.int .i64 ((rd_T49 l0_2 x28_2).f0), .int .i64 ((rd_T49 l0_2 x28_2).f1)]] Try.func32 ?_; (with_reducible refine (spec_ggGear.calls ((rd_T49 l0_2 x28_2).f0) ((rd_T49 l0_2 x28_2).f1) true _ A23.1).mono ?_); rintro e w28 ⟨rfl, hb⟩; refine ⟨_, rfl, ?_⟩; refine E4 (R_below (by (with_reducible repeat (first | apply R_alloc | apply R_drewN | apply R_drew)); exact (R_mono (RQ gb136 1 (RQ gb136 0 (R_types HO_3.1 BK136.1 (by decide)) _) _) (fun _ h_ => h_.1))) hb) (blk_below (g := gb130) (o := .cells #[.int .i64 a0_0, .int .i64 a0_1, .slice (some ad135) l0_2.length c0_2] 31 (0, 0)) (PF1 NB130_136.1 BK130.1) hb) (blk_below (g := gb136) (o := .cells #[.int .i64 ((rd_T49 l0_2 x28_2).f0), .int .i64 ((rd_T49 l0_2 x28_2).f1)] 49 (0, 0)) (PF0 BK136.1) hb) (bS HB.1 hb) ?_; clear HO_3 BK130 BK136 HB; intro HO_3 BK130 BK136 HB; (try clear hb); have p138 : 0 <= (x28_2 : Int) := OD; have q138 : x28_2 < (x3_2.length : Int) := OD; obtain ⟨ad138, e138, hx138_0⟩ := Kd.at_int (R_reads' HO_3.1).2.2 x28_2 p138 q138; cases e138; replace p138 := eq_true p138; replace q138 := eq_true q138))
      go_meet
      case rel => exact ⟨_, (decide ((rd x3_2 x28_2) ≥ 0)), RG, H', ⟨by have := HK1.1; have := HK2.1; first | omega | exact Nat.le_refl _⟩, ⟨PR2 HO_3.1 hl3_1 hl3_2⟩, ⟨PB2 BK130.1 hl3_1 hl3_2⟩, ⟨PB2 BK136.1 hl3_1 hl3_2⟩, ⟨BL HB.1⟩⟩
    have H' := Aside0.mk H
    clear H
    obtain ⟨hcz30_0, hcz30_1, hfz30_0, hfz30_1⟩ := cz2 BK136.1
    go_wp2_with (first | ((with_reducible refine gate_callee (f := 32) rfl ?_); refine goesM (N := (some 34)) #[.agg #[.int .i64 ((rd_T49 l0_2 x28_2).f0), .int .i64 ((rd_T49 l0_2 x28_2).f1)]] Try.func32 ?_; (with_reducible refine (spec_ggGear.calls ((rd_T49 l0_2 x28_2).f0) ((rd_T49 l0_2 x28_2).f1) false _ A23.1).mono ?_); rintro e w31 ⟨rfl, hb⟩; refine ⟨_, rfl, ?_⟩; refine E4 (R_below (by (with_reducible repeat (first | apply R_alloc | apply R_drewN | apply R_drew)); exact (R_mono (RQ gb136 1 (RQ gb136 0 (R_types HO_3.1 BK136.1 (by decide)) _) _) (fun _ h_ => h_.1))) hb) (blk_below (g := gb130) (o := .cells #[.int .i64 a0_0, .int .i64 a0_1, .slice (some ad135) l0_2.length c0_2] 31 (0, 0)) (PF1 NB130_136.1 BK130.1) hb) (blk_below (g := gb136) (o := .cells #[.int .i64 ((rd_T49 l0_2 x28_2).f0), .int .i64 ((rd_T49 l0_2 x28_2).f1)] 49 (0, 0)) (PF0 BK136.1) hb) (bS HB.1 hb) ?_; clear HO_3 BK130 BK136 HB; intro HO_3 BK130 BK136 HB; (try clear hb)))
    go_meet
    case rel => exact ⟨_, (true), RG, H', ⟨by have := HK1.1; have := HK2.1; first | omega | exact Nat.le_refl _⟩, ⟨PR2 HO_3.1 hl3_1 hl3_2⟩, ⟨PB2 BK130.1 hl3_1 hl3_2⟩, ⟨PB2 BK136.1 hl3_1 hl3_2⟩, ⟨BL HB.1⟩⟩
   clear HC19
   try clear hx135_0; try clear hx135_1; try clear p135; try clear q135; clear c16b0 c17b0 c18b0 hcz22_0 hcz22_1 hfz22_0 hfz22_1
   obtain ⟨kq, x42_18, rfl, HA, HJ18, HO_3, BK130, BK136, HB⟩ := hcut
   cases kq with
   | zero => exact absurd HA.1 (by simp [spec_ggGroups.j2])
   | succ kj18 => ?_
   have H := HA.1
   clear HA
   simp only [spec_ggGroups.j2] at H
   replace H := ifX H; rcases H with ⟨rfl, H⟩ | ⟨rfl, H⟩
   · have H' := Aside0.mk H
     clear H
     go_wp2
     (try simp only [<- hl3_2])
     go_roundg kj18
     case measure => have := HK1.1; have := HK2.1; have := HJ18.1; omega
     case rel => exact ⟨(x3_2), (x5_2), (wrap64 (x28_2 + 1)), RG, RG, H', ⟨by have := HK1.1; have := HK2.1; have := HJ18.1; omega⟩, ⟨PR2 HO_3.1 hl3_1 hl3_2⟩, ⟨PB2 BK130.1 hl3_1 hl3_2⟩, ⟨BL HB.1⟩⟩
   replace H := ifN H; obtain ⟨c33b0, H⟩ := H
   replace H := ifN H; obtain ⟨c34b0, H⟩ := H
   generalize hy139 : ((x3_2.set (x28_2 : Int).toNat x5_2) : List Int) = y139 at H
   have Ny139 := Aside0.mk hy139.symm; clear hy139
   generalize hy140 : ((([x28_2] : List Int)) : List Int) = y140 at H
   have Ny140 := Aside0.mk hy140.symm; clear hy140
   have H' := Aside0.mk H
   clear H
   have p35 : 0 <= (x28_2 : Int) := OD
   have q35 : (x28_2 : Int) < ((x3_2.length : Int) : Int) := OD
   obtain ⟨go35, co35, eo35, gb35, gl35, cl35, HG35⟩ := R_form HO_3.1 (by omega)
   (first | cases eo35 | (injection eo35 with ea_ en_ ec_; (first | subst ea_ | (injection ea_ with ea_; subst ea_)); subst ec_; clear en_))
   have GB35 := Aside0.mk gb35
   have GG35 := Aside0.mk HG35
   clear gb35 gl35 HG35
   obtain ⟨hx35_0, hf35_0⟩ := R_celln 0 HO_3.1 (x28_2 : Int) p35 q35
   replace p35 := eq_true p35
   replace q35 := eq_true q35
   have HP36 := R_putg HO_3.1 (x28_2 : Int) x5_2
   go_wp2_with (first | ((with_reducible refine gate_store (t := 3) (p := 46) rfl ?_); refine storeE (t := 3) (p := 46) (w1 := (wc.setCell ⟨go35, (x28_2 : Int).toNat, none⟩ (.int .i64 x5_2))) ?_; intro w37 hw; have hg : wc.grownBy w37 (some go35) := (by rw [hw]; exact HP36.2); have hp_ : Kd.R (Kd.int .i64) 3 w37 w.heap.size (fun _ => True) (.slice (some ⟨go35, 0, none⟩) x3_2.length co8) y139 := (by rw [hw, Ny139.1]; exact HP36.1); clear HP36; refine E4 (hp_) (bG BK130.1 hg (R_ne HO_3.1 BK130.1 (by decide))) (bG BK136.1 hg (R_ne HO_3.1 BK136.1 (by decide))) ((by rw [hw]; exact below_set (HB.1) GB35.1 : Below w.heap.size w w37)) ?_; clear HO_3 BK130 BK136 HB; intro HO_3 BK130 BK136 HB; clear hg hw hp_) | ((with_reducible refine gate_dst (N := 48) rfl ?_); refine R_lit (Kd.int .i64) _ 3 ?hg (N := 48) ?hd (xs := ([x28_2] : List Int)) (inner := [.int .i64 x28_2]) (ok := fun _ => True) (okp := fun _ => True) ?hr ?hp (fun _ hk => hk) trivial (Below.refl _ _) (Nat.le_refl _) (by simp) ?_; (case hd => rfl); (case hg => rfl); (case hr => first | (go_simp; done) | (go_simp; rfl)); (case hp => exact (Reps.one (show Kd.M (Kd.int .i64) _ _ _ x28_2 [.int .i64 x28_2] from rfl) (Reps.none _ _))); intro v141 w38 ho39 hb hg_ hnew_; clear hg_ hnew_; (first | rw [<- Ny140.1] at ho39 | (simp only [Int.reduceToNat] at ho39; rw [<- Ny140.1] at ho39)); refine E5 (R_elder' (PR HO_3.1) (R_base ho39) hb) (R_lower (R_new' ho39 (R_lt (PR HO_3.1))) (bZ HB.1)) (bB BK130.1 hb) (bB BK136.1 hb) (bS HB.1 hb) ?_; clear HO_3 BK130 BK136 HB; intro HO_3 HO142 BK130 BK136 HB; clear hb ho39))
   go_loopg [8, 9] kj18 (fun kq v8 v9 w' => ∃ (x3_4 : List Int) (x8_4 : List Int) (x9_4 : Int), v9 = .int .i64 x9_4 /\ Aside0 (spec_ggGroups.l2 kq x3_4 x5_2 x8_4 x9_4 l0_2 (l0_2.length : Int) x28_2 a0_0 a0_1 l0_2 = some r) /\ Aside0 (kq <= kj18) /\ Aside0 (Kd.R (Kd.int .i64) 3 w' w.heap.size (fun k_ => some k_ ≠ (v8 : Value).ownBlock) (.slice (some ⟨go35, 0, none⟩) x3_2.length co8) x3_4) /\ Aside0 (Kd.R (Kd.int .i64) 3 w' w.heap.size (fun k_ => some k_ ≠ ((.slice (some ⟨go35, 0, none⟩) x3_2.length co8) : Value).ownBlock) v8 x8_4) /\ Aside0 (w'.heap[gb130]? = some (.cells #[.int .i64 a0_0, .int .i64 a0_1, (.slice (some ad135) l0_2.length c0_2)] 31 (0, 0))) /\ Aside0 (w'.heap[gb136]? = some (.cells #[.int .i64 ((rd_T49 l0_2 x28_2).f0), .int .i64 ((rd_T49 l0_2 x28_2).f1)] 49 (0, 0))) /\ Aside0 (Below w.heap.size w w'))
   case atStart => exact ⟨(y139), (y140), (0), RG, H', ⟨Nat.le_refl _⟩, ⟨by (try simp only [hl3_1]); (try simp only [hl3_2]); (with_reducible repeat (first | apply R_alloc | apply R_drewN | apply R_drew)); exact R_mono HO_3.1 (fun _ hk => hk.2)⟩, ⟨by (try simp only [hl3_1]); (try simp only [hl3_2]); (with_reducible repeat (first | apply R_alloc | apply R_drewN | apply R_drew)); exact R_mono HO142.1 (fun _ hk => hk.2)⟩, ⟨PB2 BK130.1 hl3_1 hl3_2⟩, ⟨PB2 BK136.1 hl3_1 hl3_2⟩, ⟨BL HB.1⟩⟩
   clear H'
   try clear p35; try clear q35; try clear hx35_0; clear c33b0 c34b0
   obtain ⟨x3_4, x8_4, x9_4, rfl, HA, HK4, HO_3, HO_8, BK130, BK136, HB⟩ := hrel
   have hl3_4 := (R_reads' HO_3.1).1
   rw [hl3_4] at HO_3
   (try simp only [hl3_4])
   (try simp only [hl3_4] at BK130)
   (try simp only [hl3_4] at BK136)
   (try simp only [hl3_4] at HO_8)
   cases gk with
   | zero => exact absurd HA.1 (by simp [spec_ggGroups.l2])
   | succ k4 => ?_
   have H := HA.1
   clear HA
   simp only [spec_ggGroups.l2] at H
   replace H := ifB H; rcases H with ⟨c40b0, H⟩ | ⟨c40b0, H⟩
   · replace H := ifN H; obtain ⟨c41b0, H⟩ := H
     replace H := bindA H; obtain ⟨t144, A42, H⟩ := H
     have H' := Aside0.mk H
     clear H
     obtain ⟨Ao43, co43, eo43⟩ := R_slice HO_8.1
     subst eo43
     try go_wp2
     refine E5 (R_drew HO_3.1) (R_drew HO_8.1) (blk_drew BK130.1) (blk_drew BK136.1) (below_drew1 HB.1) ?_
     clear HO_3 HO_8 BK130 BK136 HB
     intro HO_3 HO_8 BK130 BK136 HB
     have p143 : 0 <= (x9_4 : Int) := OD
     have q143 : x9_4 < (x8_4.length : Int) := OD
     obtain ⟨ad143, e143, hx143_0⟩ := Kd.at_int (R_reads' HO_8.1).2.2 x9_4 p143 q143
     cases e143
     replace p143 := eq_true p143
     replace q143 := eq_true q143
     refine start_ (n := 8) (S := fun w' => w'.cell? ⟨gb130, 0, none⟩ = some (.int .i64 a0_0) /\ w'.cell? ⟨gb130, 1, none⟩ = some (.int .i64 a0_1) /\ w'.cell? ⟨gb130, 2, none⟩ = some (.slice (some ad135) l0_2.length c0_2) /\ w'.cell? (ad143.add (x9_4).toNat) = some (.int .i64 (rd x8_4 x9_4))) (ds := []) #[Zz,Zz,Zz,Zz,Zz,Zz,Zz,Zz] (by kernel_rfl) rfl rfl ⟨(blk_cell BK130.1 0).trans rfl, (blk_cell BK130.1 1).trans rfl, (blk_cell BK130.1 2).trans rfl, hx143_0⟩ (fun hHeld => ?_); refine with_tabW spec_ggGroups.tab17 spec_ggGroups.bits17 (fun HT_ HW_ => ?_)
     generalize wr.drew = w44 at HO_3 HO_8 BK130 BK136 HB hx143_0 hHeld ⊢
     refine pureF 1 (N := some 56) HT_.1 ?_
     refine pureF 2 (N := some 57) HT_.1 ?_
     refine pureF 3 (N := some 58) HT_.1 ?_
     refine pureF 7 (N := some 62) HT_.1 ?_
     refine takeE 0 (N := some 55) HT_.1 HW_.1 hHeld ?_
     refine takeE 4 (N := some 59) HT_.1 HW_.1 hHeld ?_
     refine one_ (i := 5) (N := some 60) #[Yy,Yy,Yy,Yy,Yy,Yy,Zz,Yy] rfl rfl (one_of HT_.1 (by kernel_rfl)) (by decide) (fun K hK => ?_)
     refine goes_ Try.func33 (by kernel_rfl) rfl #[.agg #[.int .i64 a0_0, .int .i64 a0_1, .slice (some ad135) l0_2.length c0_2], .int .i64 (rd x8_4 x9_4)] (by rfl) rfl rfl (by (try simp only [List.map_toArray, List.map_cons, List.map_nil]); first | done | rfl | (simp only [List.length_drop, List.length_take]; rfl)) ?_
     with_reducible refine (spec_ggNear.calls k4 a0_0 a0_1 _ _ l0_2 (rd x8_4 x9_4) t144 _ ?side1 ?side2 A42.1).mono ?_
     (case side1 => exact CB (C_below HR0_2.1 HB.1))
     (case side2 => exact HC0_2.1)
     rintro e w45 ⟨v145, rfl, ho0, hb⟩
     have HS3_ := (hb.cell (World.block_lt_of_cell? _ _ (hHeld.2.2.2))).trans (hHeld.2.2.2)
     refine ⟨_, rfl, ?_⟩
     refine E6 (R_elder' (PR HO_3.1) (R_base ho0) hb) (R_elder' (PR HO_8.1) (R_base ho0) hb) (R_lower (R_new' (R_new' ho0 (R_lt (PR HO_3.1))) (R_lt (PR HO_8.1))) (bZ HB.1)) (bB BK130.1 hb) (bB BK136.1 hb) (bS HB.1 hb) ?_
     clear HO_3 HO_8 BK130 BK136 HB
     intro HO_3 HO_8 HO146 BK130 BK136 HB
     (try clear hb)
     (try clear hb2)
     (try clear hk)
     (try clear hi)
     (try clear ho0)
     obtain ⟨Ao46, co46, eo46⟩ := R_slice HO146.1
     (first | subst eo46 | (injection eo46 with f1_ f2_ f3_; have f4_ := f1_.symm; have f5_ := f3_.symm; clear f1_ f2_ f3_; subst f4_; subst f5_))
     refine hK.out _ _ ⟨(blk_cell BK130.1 0).trans rfl, (blk_cell BK130.1 1).trans rfl, (blk_cell BK130.1 2).trans rfl, HS3_⟩ (fun hHeld => ?_)
     clear hK K
     refine norm_ (a' := ?_) ?_ ?_
     rotate_left
     · show Act.put _ (some 60) _ = _
       simp only [Act.put, List.setIfInBounds_toArray, List.set_cons_zero, List.set_cons_succ, i64_w, i32_w]
       rfl
     refine pureF 6 (N := some 61) HT_.1 ?_
     refine done_ (done_of HT_.1 (by kernel_rfl)) ?_
     try go_wp2
     go_loopg [8, 62] k4 (fun kq v8 v62 w' => ∃ (x3_5 : List Int) (x8_5 : List Int) (x62_5 : Int), v62 = .int .i64 x62_5 /\ Aside0 (spec_ggGroups.l3 kq x3_5 x5_2 x8_5 x9_4 l0_2 (l0_2.length : Int) x28_2 t144 (t144.length : Int) x62_5 a0_0 a0_1 l0_2 = some r) /\ Aside0 (kq <= k4) /\ Aside0 (Kd.R (Kd.int .i64) 3 w' w.heap.size (fun k_ => some k_ ≠ (v8 : Value).ownBlock /\ some k_ ≠ ((.slice Ao46 t144.length co46) : Value).ownBlock) (.slice (some ⟨go35, 0, none⟩) x3_4.length co8) x3_5) /\ Aside0 (Kd.R (Kd.int .i64) 3 w' w.heap.size (fun k_ => some k_ ≠ ((.slice (some ⟨go35, 0, none⟩) x3_4.length co8) : Value).ownBlock /\ some k_ ≠ ((.slice Ao46 t144.length co46) : Value).ownBlock) v8 x8_5) /\ Aside0 (Kd.R (Kd.int .i64) 3 w' w.heap.size (fun k_ => some k_ ≠ ((.slice (some ⟨go35, 0, none⟩) x3_4.length co8) : Value).ownBlock /\ some k_ ≠ (v8 : Value).ownBlock) (.slice Ao46 t144.length co46) t144) /\ Aside0 (w'.heap[gb130]? = some (.cells #[.int .i64 a0_0, .int .i64 a0_1, (.slice (some ad135) l0_2.length c0_2)] 31 (0, 0))) /\ Aside0 (w'.heap[gb136]? = some (.cells #[.int .i64 ((rd_T49 l0_2 x28_2).f0), .int .i64 ((rd_T49 l0_2 x28_2).f1)] 49 (0, 0))) /\ Aside0 (Below w.heap.size w w'))
     case atStart => exact ⟨(x3_4), (x8_4), (0), RG, H', ⟨Nat.le_refl _⟩, ⟨PR3 HO_3.1 hl3_1 hl3_2 hl3_4⟩, ⟨PR3 HO_8.1 hl3_1 hl3_2 hl3_4⟩, ⟨by (try simp only [hl3_1]); (try simp only [hl3_2]); (try simp only [hl3_4]); (with_reducible repeat (first | apply R_alloc | apply R_drewN | apply R_drew)); exact R_mono HO146.1 (fun _ hk => ⟨hk.1.2, hk.2⟩)⟩, ⟨PB3 BK130.1 hl3_1 hl3_2 hl3_4⟩, ⟨PB3 BK136.1 hl3_1 hl3_2 hl3_4⟩, ⟨BL HB.1⟩⟩
     clear H'
     try clear hx143_0; try clear p143; try clear q143; clear c40b0 c41b0
     obtain ⟨x3_5, x8_5, x62_5, rfl, HA, HK5, HO_3, HO_8, HO_60, BK130, BK136, HB⟩ := hrel
     have hl3_5 := (R_reads' HO_3.1).1
     rw [hl3_5] at HO_3
     (try simp only [hl3_5])
     (try simp only [hl3_5] at BK130)
     (try simp only [hl3_5] at BK136)
     (try simp only [hl3_5] at HO_8)
     (try simp only [hl3_5] at HO_60)
     cases gk with
     | zero => exact absurd HA.1 (by simp [spec_ggGroups.l3])
     | succ k5 => ?_
     have H := HA.1
     clear HA
     simp only [spec_ggGroups.l3] at H
     replace H := ifB H; rcases H with ⟨c47b0, H⟩ | ⟨c47b0, H⟩
     · replace H := ifN H; obtain ⟨c48b0, H⟩ := H
       replace H := ifN H; obtain ⟨c49b0, H⟩ := H
       replace H := ifN H; obtain ⟨c50b0, H⟩ := H
       replace H := ifN H; obtain ⟨c51b0, H⟩ := H
       replace H := bindA H; obtain ⟨t149, A52, H⟩ := H
       replace H := ifX H; rcases H with ⟨rfl, H⟩ | ⟨rfl, H⟩
       · replace H := ifN H; obtain ⟨c54b0, H⟩ := H
         replace H := ifB H; rcases H with ⟨c55b0, H⟩ | ⟨c55b0, H⟩
         · generalize hy151 : ((x3_5.set ((rd t144 x62_5) : Int).toNat x5_2) : List Int) = y151 at H
           have Ny151 := Aside0.mk hy151.symm; clear hy151
           replace H := ifP H; obtain ⟨c57, H⟩ := H
           have LMc57 := Aside0.mk c57
           clear c57
           generalize hy152 : ((x8_5 ++ [rd t144 x62_5]) : List Int) = y152 at H
           have Ny152 := Aside0.mk hy152.symm; clear hy152
           have H' := Aside0.mk H
           clear H
           have p147 : 0 <= (x62_5 : Int) := OD
           have q147 : x62_5 < (t144.length : Int) := OD
           obtain ⟨ad147, e147, hx147_0⟩ := Kd.at_int (R_reads' HO_60.1).2.2 x62_5 p147 q147
           cases e147
           replace p147 := eq_true p147
           replace q147 := eq_true q147
           obtain ⟨hcz59_0, hcz59_1, hcz59_2, hfz59_0, hfz59_1, hfz59_2⟩ := cz3 BK130.1
           have p148 : 0 <= ((rd t144 x62_5) : Int) := OD
           have q148 : (rd t144 x62_5) < (l0_2.length : Int) := OD
           obtain ⟨ad148, e148, hx148_0, hx148_1⟩ := at_T49 HR0_2.1 (rd t144 x62_5) p148 q148
           obtain rfl : ad135 = ad148 := (by injection e148)
           replace hx148_0 := (HB.1.cell (World.block_lt_of_cell? w _ hx148_0)).trans hx148_0
           replace hx148_1 := (HB.1.cell (World.block_lt_of_cell? w _ hx148_1)).trans hx148_1
           replace p148 := eq_true p148
           replace q148 := eq_true q148
           go_wp2_with (first | ((with_reducible refine gate_callee (f := 32) rfl ?_); refine goesM (N := (some 71)) #[.agg #[.int .i64 ((rd_T49 l0_2 (rd t144 x62_5)).f0), .int .i64 ((rd_T49 l0_2 (rd t144 x62_5)).f1)]] Try.func32 ?_; (with_reducible refine (spec_ggGear.calls ((rd_T49 l0_2 (rd t144 x62_5)).f0) ((rd_T49 l0_2 (rd t144 x62_5)).f1) true _ A52.1).mono ?_); rintro e w60 ⟨rfl, hb⟩; refine ⟨_, rfl, ?_⟩; refine E6 (rB HO_3.1 hb) (rB HO_8.1 hb) (rB HO_60.1 hb) (bB BK130.1 hb) (bB BK136.1 hb) (bS HB.1 hb) ?_; clear HO_3 HO_8 HO_60 BK130 BK136 HB; intro HO_3 HO_8 HO_60 BK130 BK136 HB; (try clear hb); have p150 : 0 <= ((rd t144 x62_5) : Int) := OD; have q150 : (rd t144 x62_5) < (x3_5.length : Int) := OD; obtain ⟨ad150, e150, hx150_0⟩ := Kd.at_int (R_reads' HO_3.1).2.2 (rd t144 x62_5) p150 q150; obtain rfl : (⟨go35, 0, none⟩ : Addr) = ad150 := (by injection e150); (first | simp only [add_plain] at hx150_0 | simp only [add_at] at hx150_0 | simp only [Addr.add, Nat.zero_add] at hx150_0 | skip); replace p150 := eq_true p150; replace q150 := eq_true q150; have p56 : 0 <= ((rd t144 x62_5) : Int) := OD; have q56 : ((rd t144 x62_5) : Int) < ((x3_5.length : Int) : Int) := OD; obtain ⟨hx56_0, hf56_0⟩ := R_celln 0 HO_3.1 ((rd t144 x62_5) : Int) p56 q56; replace p56 := eq_true p56; replace q56 := eq_true q56; obtain ⟨hy61_, hz61_⟩ := R_celln 0 HO_3.1 ((rd t144 x62_5) : Int) (OD) (OD); have HP61 := R_putg HO_3.1 ((rd t144 x62_5) : Int) x5_2) | ((with_reducible refine gate_store (t := 3) (p := 82) rfl ?_); refine storeE (t := 3) (p := 82) (w1 := (w60.setCell ⟨go35, ((rd t144 x62_5) : Int).toNat, none⟩ (.int .i64 x5_2))) ?_; intro w62 hw; have hg : w60.grownBy w62 (some go35) := (by rw [hw]; exact HP61.2); have hp_ : Kd.R (Kd.int .i64) 3 w62 w.heap.size (fun k_ => some k_ ≠ (u8 : Value).ownBlock /\ some k_ ≠ (.slice (some ad147) t144.length co46 : Value).ownBlock) (.slice (some ⟨go35, 0, none⟩) x3_5.length co8) y151 := (by rw [hw, Ny151.1]; exact HP61.1); clear HP61; refine E6 (hp_) (R_after (v := (.slice (some ⟨go35, 0, none⟩) x3_5.length co8)) (v1 := (.slice (some ⟨go35, 0, none⟩) x3_5.length co8)) (ok := (fun k_ => some k_ ≠ (.slice (some ad147) t144.length co46 : Value).ownBlock)) (RPE (R_mono HO_8.1 (fun _ hk => ⟨hk.2, hk.1⟩))) hg (.inl rfl)) (R_after (v := (.slice (some ⟨go35, 0, none⟩) x3_5.length co8)) (v1 := (.slice (some ⟨go35, 0, none⟩) x3_5.length co8)) (ok := (fun k_ => some k_ ≠ (u8 : Value).ownBlock)) (RPE (R_mono HO_60.1 (fun _ hk => ⟨hk.2, hk.1⟩))) hg (.inl rfl)) (bG BK130.1 hg (R_ne HO_3.1 BK130.1 (by decide))) (bG BK136.1 hg (R_ne HO_3.1 BK136.1 (by decide))) ((by rw [hw]; exact below_set (HB.1) GB35.1 : Below w.heap.size w w62)) ?_; clear HO_3 HO_8 HO_60 BK130 BK136 HB; intro HO_3 HO_8 HO_60 BK130 BK136 HB; clear hg hw hp_) | ((with_reducible refine gate_builtin (b := .append) (xs := #[.tmp 83, .tmp 85]) rfl ?_); at_builtin; refine R_append (Kd.int .i64) (w0 := w) w.heap.size rfl (.tmp 83) (.tmp 85) 43 3 (.int .i64 0) 8 rfl Try.underlying43 info3 rfl (by decide) (by omega) u8 x8_5 (rd t144 x62_5) [.int .i64 (rd t144 x62_5)] (fun k_ => some k_ ≠ (.slice (some ⟨go35, 0, none⟩) x3_5.length co8 : Value).ownBlock /\ some k_ ≠ (.slice (some ad147) t144.length co46 : Value).ownBlock) (fun _ => False) rfl rfl ?aP (fun _ hk => hk.elim) ?aF ?aO ?aB ?aS ?aL ?_; (case aP => exact rfl); (case aB => exact (BL HB.1)); (case aF => exact (fun k_ hk => ⟨Kd.fresh' (R_lt (PR HO_3.1)) k_ hk, Kd.fresh' (R_lt (PR HO_60.1)) k_ hk⟩)); (case aO => exact (RPE (R_mono HO_8.1 (fun _ hk => ⟨hk.2, hk.1⟩)))); (case aS => exact (bZ HB.1)); (case aL => have := LMc57.1; omega); intro v153 w63 ho hb hg hat; rw [<- Ny152.1] at ho; refine E6 (R_after (ok := (fun k_ => some k_ ≠ (.slice (some ad147) t144.length co46 : Value).ownBlock)) (RPE (R_mono HO_3.1 (fun _ hk => ⟨hk.2, hk.1⟩))) hg hat) (R_after (ok := (fun k_ => some k_ ≠ (.slice (some ⟨go35, 0, none⟩) x3_5.length co8 : Value).ownBlock)) (RPE (R_mono HO_60.1 (fun _ hk => ⟨hk.2, hk.1⟩))) hg hat) (bG BK130.1 hg (R_ne HO_8.1 BK130.1 (by decide))) (bG BK136.1 hg (R_ne HO_8.1 BK136.1 (by decide))) (hb) (ho) ?_; clear HO_3 HO_60 BK130 BK136 HB HO_8; intro HO_3 HO_60 BK130 BK136 HB HO154; clear ho hb hg hat))
           (try simp only [<- hl3_5])
           go_roundg k5
           case measure => have := HK1.1; have := HK2.1; have := HJ18.1; have := HK4.1; have := HK5.1; omega
           case rel => exact ⟨(y151), (y152), (wrap64 (x62_5 + 1)), RG, H', ⟨by have := HK1.1; have := HK2.1; have := HJ18.1; have := HK4.1; have := HK5.1; omega⟩, ⟨by (try simp only [hl3_1]); (try simp only [hl3_2]); (try simp only [hl3_4]); (try simp only [hl3_5]); (with_reducible repeat (first | apply R_alloc | apply R_drewN | apply R_drew)); exact R_mono HO_3.1 (fun _ hk => ⟨hk.2, hk.1⟩)⟩, ⟨PR4 HO154.1 hl3_1 hl3_2 hl3_4 hl3_5⟩, ⟨PR4 HO_60.1 hl3_1 hl3_2 hl3_4 hl3_5⟩, ⟨PB4 BK130.1 hl3_1 hl3_2 hl3_4 hl3_5⟩, ⟨PB4 BK136.1 hl3_1 hl3_2 hl3_4 hl3_5⟩, ⟨BL HB.1⟩⟩
         have H' := Aside0.mk H
         clear H
         have p147 : 0 <= (x62_5 : Int) := OD
         have q147 : x62_5 < (t144.length : Int) := OD
         obtain ⟨ad147, e147, hx147_0⟩ := Kd.at_int (R_reads' HO_60.1).2.2 x62_5 p147 q147
         cases e147
         replace p147 := eq_true p147
         replace q147 := eq_true q147
         obtain ⟨hcz65_0, hcz65_1, hcz65_2, hfz65_0, hfz65_1, hfz65_2⟩ := cz3 BK130.1
         have p148 : 0 <= ((rd t144 x62_5) : Int) := OD
         have q148 : (rd t144 x62_5) < (l0_2.length : Int) := OD
         obtain ⟨ad148, e148, hx148_0, hx148_1⟩ := at_T49 HR0_2.1 (rd t144 x62_5) p148 q148
         obtain rfl : ad135 = ad148 := (by injection e148)
         replace hx148_0 := (HB.1.cell (World.block_lt_of_cell? w _ hx148_0)).trans hx148_0
         replace hx148_1 := (HB.1.cell (World.block_lt_of_cell? w _ hx148_1)).trans hx148_1
         replace p148 := eq_true p148
         replace q148 := eq_true q148
         go_wp2_with (first | ((with_reducible refine gate_callee (f := 32) rfl ?_); refine goesM (N := (some 71)) #[.agg #[.int .i64 ((rd_T49 l0_2 (rd t144 x62_5)).f0), .int .i64 ((rd_T49 l0_2 (rd t144 x62_5)).f1)]] Try.func32 ?_; (with_reducible refine (spec_ggGear.calls ((rd_T49 l0_2 (rd t144 x62_5)).f0) ((rd_T49 l0_2 (rd t144 x62_5)).f1) true _ A52.1).mono ?_); rintro e w66 ⟨rfl, hb⟩; refine ⟨_, rfl, ?_⟩; refine E6 (rB HO_3.1 hb) (rB HO_8.1 hb) (rB HO_60.1 hb) (bB BK130.1 hb) (bB BK136.1 hb) (bS HB.1 hb) ?_; clear HO_3 HO_8 HO_60 BK130 BK136 HB; intro HO_3 HO_8 HO_60 BK130 BK136 HB; (try clear hb); have p150 : 0 <= ((rd t144 x62_5) : Int) := OD; have q150 : (rd t144 x62_5) < (x3_5.length : Int) := OD; obtain ⟨ad150, e150, hx150_0⟩ := Kd.at_int (R_reads' HO_3.1).2.2 (rd t144 x62_5) p150 q150; obtain rfl : (⟨go35, 0, none⟩ : Addr) = ad150 := (by injection e150); (first | simp only [add_plain] at hx150_0 | simp only [add_at] at hx150_0 | simp only [Addr.add, Nat.zero_add] at hx150_0 | skip); replace p150 := eq_true p150; replace q150 := eq_true q150))
         (try simp only [<- hl3_5])
         go_roundg k5
         case measure => have := HK1.1; have := HK2.1; have := HJ18.1; have := HK4.1; have := HK5.1; omega
         case rel => exact ⟨(x3_5), (x8_5), (wrap64 (x62_5 + 1)), RG, H', ⟨by have := HK1.1; have := HK2.1; have := HJ18.1; have := HK4.1; have := HK5.1; omega⟩, ⟨PR4 HO_3.1 hl3_1 hl3_2 hl3_4 hl3_5⟩, ⟨PR4 HO_8.1 hl3_1 hl3_2 hl3_4 hl3_5⟩, ⟨PR4 HO_60.1 hl3_1 hl3_2 hl3_4 hl3_5⟩, ⟨PB4 BK130.1 hl3_1 hl3_2 hl3_4 hl3_5⟩, ⟨PB4 BK136.1 hl3_1 hl3_2 hl3_4 hl3_5⟩, ⟨BL HB.1⟩⟩
       have H' := Aside0.mk H
       clear H
       have p147 : 0 <= (x62_5 : Int) := OD
       have q147 : x62_5 < (t144.length : Int) := OD
       obtain ⟨ad147, e147, hx147_0⟩ := Kd.at_int (R_reads' HO_60.1).2.2 x62_5 p147 q147
       cases e147
       replace p147 := eq_true p147
       replace q147 := eq_true q147
       obtain ⟨hcz68_0, hcz68_1, hcz68_2, hfz68_0, hfz68_1, hfz68_2⟩ := cz3 BK130.1
       have p148 : 0 <= ((rd t144 x62_5) : Int) := OD
       have q148 : (rd t144 x62_5) < (l0_2.length : Int) := OD
       obtain ⟨ad148, e148, hx148_0, hx148_1⟩ := at_T49 HR0_2.1 (rd t144 x62_5) p148 q148
       obtain rfl : ad135 = ad148 := (by injection e148)
       replace hx148_0 := (HB.1.cell (World.block_lt_of_cell? w _ hx148_0)).trans hx148_0
       replace hx148_1 := (HB.1.cell (World.block_lt_of_cell? w _ hx148_1)).trans hx148_1
       replace p148 := eq_true p148
       replace q148 := eq_true q148
       go_wp2_with (first | ((with_reducible refine gate_callee (f := 32) rfl ?_); refine goesM (N := (some 71)) #[.agg #[.int .i64 ((rd_T49 l0_2 (rd t144 x62_5)).f0), .int .i64 ((rd_T49 l0_2 (rd t144 x62_5)).f1)]] Try.func32 ?_; (with_reducible refine (spec_ggGear.calls ((rd_T49 l0_2 (rd t144 x62_5)).f0) ((rd_T49 l0_2 (rd t144 x62_5)).f1) false _ A52.1).mono ?_); rintro e w69 ⟨rfl, hb⟩; refine ⟨_, rfl, ?_⟩; refine E6 (rB HO_3.1 hb) (rB HO_8.1 hb) (rB HO_60.1 hb) (bB BK130.1 hb) (bB BK136.1 hb) (bS HB.1 hb) ?_; clear HO_3 HO_8 HO_60 BK130 BK136 HB; intro HO_3 HO_8 HO_60 BK130 BK136 HB; (try clear hb)))
       (try simp only [<- hl3_5])
       go_roundg k5
       case measure => have := HK1.1; have := HK2.1; have := HJ18.1; have := HK4.1; have := HK5.1; omega
       case rel => exact ⟨(x3_5), (x8_5), (wrap64 (x62_5 + 1)), RG, H', ⟨by have := HK1.1; have := HK2.1; have := HJ18.1; have := HK4.1; have := HK5.1; omega⟩, ⟨PR4 HO_3.1 hl3_1 hl3_2 hl3_4 hl3_5⟩, ⟨PR4 HO_8.1 hl3_1 hl3_2 hl3_4 hl3_5⟩, ⟨PR4 HO_60.1 hl3_1 hl3_2 hl3_4 hl3_5⟩, ⟨PB4 BK130.1 hl3_1 hl3_2 hl3_4 hl3_5⟩, ⟨PB4 BK136.1 hl3_1 hl3_2 hl3_4 hl3_5⟩, ⟨BL HB.1⟩⟩
     (try simp only [hl3_1, hl3_2, hl3_4, hl3_5] at c47b0)
     have H' := Aside0.mk H
     clear H
     go_wp2
     (try simp only [<- hl3_4, <- hl3_5])
     go_roundg k5
     case measure => have := HK1.1; have := HK2.1; have := HJ18.1; have := HK4.1; have := HK5.1; omega
     case rel => exact ⟨(x3_5), (x8_5), (wrap64 (x9_4 + 1)), RG, H', ⟨by have := HK1.1; have := HK2.1; have := HJ18.1; have := HK4.1; have := HK5.1; omega⟩, ⟨by (try simp only [hl3_1]); (try simp only [hl3_2]); (try simp only [hl3_4]); (try simp only [hl3_5]); (with_reducible repeat (first | apply R_alloc | apply R_drewN | apply R_drew)); exact R_mono HO_3.1 (fun _ hk => hk.1)⟩, ⟨by (try simp only [hl3_1]); (try simp only [hl3_2]); (try simp only [hl3_4]); (try simp only [hl3_5]); (with_reducible repeat (first | apply R_alloc | apply R_drewN | apply R_drew)); exact R_mono HO_8.1 (fun _ hk => hk.1)⟩, ⟨PB4 BK130.1 hl3_1 hl3_2 hl3_4 hl3_5⟩, ⟨PB4 BK136.1 hl3_1 hl3_2 hl3_4 hl3_5⟩, ⟨BL HB.1⟩⟩
   (try simp only [hl3_1, hl3_2, hl3_4] at c40b0)
   have H' := Aside0.mk H
   clear H
   obtain ⟨Ao70, co70, eo70⟩ := R_slice HO_8.1
   subst eo70
   go_wp2
   (try simp only [<- hl3_2, <- hl3_4])
   go_roundg k4
   case measure => have := HK1.1; have := HK2.1; have := HJ18.1; have := HK4.1; omega
   case rel => exact ⟨(x3_4), (wrap64 (x5_2 + 1)), (wrap64 (x28_2 + 1)), RG, RG, H', ⟨by have := HK1.1; have := HK2.1; have := HJ18.1; have := HK4.1; omega⟩, ⟨by (try simp only [hl3_1]); (try simp only [hl3_2]); (try simp only [hl3_4]); (with_reducible repeat (first | apply R_alloc | apply R_drewN | apply R_drew)); exact R_mono HO_3.1 (fun _ hk => trivial)⟩, ⟨PB3 BK130.1 hl3_1 hl3_2 hl3_4⟩, ⟨BL HB.1⟩⟩
 (try simp only [hl3_1, hl3_2] at c16b0)
 obtain rfl := Option.some.inj H
 go_wp2
 go_ret
 exact ⟨_, RF, RPE (HO_3.1), BL HB.1⟩
end Go.Proofs.Ytlkmafoihjglcaa.P
