-- PRINTED by print.py (a twelfth state) out of the translation. Not trusted: Lean checks it.
import Derived.Test.YtfekgidcnidijaaDoorPx0
import Derived.Test.YtfekgidcnidijaaDoorPx1
namespace Go.Proofs.YtfekgidcnidijaaDoor.P
open Go.RowKit Go.Proofs.YtfekgidcnidijaaDoorW.PrintWords Go.Proofs.YtfekgidcnidijaaDoorW.PrintLast Go.Proofs.YtfekgidcnidijaaDoorW.PrintMore
attribute [local go_sem] max2_int min2_int max_two min_two max_three min_three max_four min_four   -- for this text's walks alone
set_option linter.unusedVariables false
set_option linter.unusedSimpArgs false
set_option maxHeartbeats 8000000
set_option maxRecDepth 100000

attribute [local go_sem high] eqA86
/-! ### laws_szNodeS: function 46 -/
open Kd
def laws_szNodeS.f (l0 : List (S105)) (a1 : Int) : Option (Int) := if (wrap64 (a1 - (l0.length : Int))) < 0 then (some (-1)) else (some (wrap64 (a1 - (l0.length : Int))))
theorem laws_szNodeS.calls (A0 : Option Addr) (c0 : Nat) (l0 : List (S105)) (a1 : Int) (r : Int) (w : World) (hr0 : Kd.C k105 w A0 l0.length l0) (hc0 : l0.length <= c0) (h : laws_szNodeS.f l0 a1 = some r) :
 Calls Tryd.prog 46 #[.slice A0 l0.length c0, .int .i64 a1] w fun e w' => e = .returned (.int .i64 r) /\ Drawn0 w w' := by
 have HR0 := Aside0.mk hr0
 have HC0 := Aside0.mk hc0
 clear hr0 hc0
 have H := h
 clear h
 unfold laws_szNodeS.f at H
 replace H := ifB H; rcases H with ⟨c3b0, H⟩ | ⟨c3b0, H⟩
 · obtain rfl := Option.some.inj H
   go_enter Tryd.func46, Tryd.ntmps46
   go_wp2
   go_ret
   exact ⟨RG, DR⟩
 obtain rfl := Option.some.inj H
 go_enter Tryd.func46, Tryd.ntmps46
 go_wp2
 go_ret
 exact ⟨RG, DR⟩
/-! ### laws_szDiagram: function 21 -/
open Kd
def laws_szDiagram.f (a0_0 : Int) (l0_1 : List (S105)) (a0_2 : Int) (a1 : Int) : Option (Int) := (laws_szNodeS.f l0_1 a1).bind fun t102 => (if t102 < 0 then (some (-1)) else (some t102))
theorem laws_szDiagram.calls (a0_0 : Int) (A0_1 : Option Addr) (c0_1 : Nat) (l0_1 : List (S105)) (a0_2 : Int) (a1 : Int) (r : Int) (w : World) (hr0_1 : Kd.C k105 w A0_1 l0_1.length l0_1) (hc0_1 : l0_1.length <= c0_1) (h : laws_szDiagram.f a0_0 l0_1 a0_2 a1 = some r) :
 Calls Tryd.prog 21 #[.agg #[.int .i64 a0_0, .slice A0_1 l0_1.length c0_1, .int .i64 a0_2], .int .i64 a1] w fun e w' => e = .returned (.int .i64 r) /\ Below w.heap.size w w' := by
 have hu45 := Tryd.underlying45
 have HR0_1 := Aside0.mk hr0_1
 have HC0_1 := Aside0.mk hc0_1
 clear hr0_1 hc0_1
 have HB := Aside0.mk (Below.refl w.heap.size w)
 have H := h
 clear h
 unfold laws_szDiagram.f at H
 replace H := bindA H; obtain ⟨t102, A3, H⟩ := H
 replace H := ifB H; rcases H with ⟨c4b0, H⟩ | ⟨c4b0, H⟩
 · obtain rfl := Option.some.inj H
   go_enter Tryd.func21, Tryd.ntmps21
   go_wp2_with (first | ((with_reducible refine gate_dst (N := 2) rfl ?_); refine boxE (cs := #[.int .i64 a0_0, .slice A0_1 l0_1.length c0_1, .int .i64 a0_2]) (t := 45) ?_; intro gb101 hg w5 hbox hb; refine E4b HB.1 hg hbox hb ?_; clear HB; intro HB BK101 GW101 GE101; clear hb hbox hg; obtain ⟨hcz6_0, hcz6_1, hcz6_2, hfz6_0, hfz6_1, hfz6_2⟩ := cz3 BK101.1) | ((with_reducible refine gate_callee (f := 46) rfl ?_); refine goesM (N := (some 8)) #[.slice A0_1 l0_1.length c0_1, .int .i64 a1] Tryd.func46 ?_; (with_reducible refine (laws_szNodeS.calls _ _ l0_1 a1 t102 _ ?side1 ?side2 A3.1).mono ?_); (case side1 => exact CB (C_below HR0_1.1 HB.1)); (case side2 => exact HC0_1.1); rintro e w' ⟨rfl, ⟨nd, rfl⟩⟩; refine ⟨_, rfl, ?_⟩))
   go_ret
   exact ⟨RF, BL HB.1⟩
 obtain rfl := Option.some.inj H
 go_enter Tryd.func21, Tryd.ntmps21
 go_wp2_with (first | ((with_reducible refine gate_dst (N := 2) rfl ?_); refine boxE (cs := #[.int .i64 a0_0, .slice A0_1 l0_1.length c0_1, .int .i64 a0_2]) (t := 45) ?_; intro gb101 hg w7 hbox hb; refine E4b HB.1 hg hbox hb ?_; clear HB; intro HB BK101 GW101 GE101; clear hb hbox hg; obtain ⟨hcz8_0, hcz8_1, hcz8_2, hfz8_0, hfz8_1, hfz8_2⟩ := cz3 BK101.1) | ((with_reducible refine gate_callee (f := 46) rfl ?_); refine goesM (N := (some 8)) #[.slice A0_1 l0_1.length c0_1, .int .i64 a1] Tryd.func46 ?_; (with_reducible refine (laws_szNodeS.calls _ _ l0_1 a1 t102 _ ?side1 ?side2 A3.1).mono ?_); (case side1 => exact CB (C_below HR0_1.1 HB.1)); (case side2 => exact HC0_1.1); rintro e w' ⟨rfl, ⟨nd, rfl⟩⟩; refine ⟨_, rfl, ?_⟩))
 go_ret
 exact ⟨RF, BL HB.1⟩
/-! ### spec_l1In: function 60 -/
open Kd
def spec_l1In.f (a0 : Int) (a1 : Int) (a2 : Int) : Option (Bool) := if a0 ≥ a1 then (some (decide (a0 <= a2))) else (some false)
theorem spec_l1In.calls (a0 : Int) (a1 : Int) (a2 : Int) (r : Bool) (w : World) (h : spec_l1In.f a0 a1 a2 = some r) :
 Calls Tryd.prog 60 #[.int .i64 a0, .int .i64 a1, .int .i64 a2] w fun e w' => e = .returned (.bool r) /\ Drawn0 w w' := by
 have H := h
 clear h
 unfold spec_l1In.f at H
 replace H := ifQ H; rcases H with ⟨c4, H⟩ | ⟨c4, H⟩
 · have c4b0 : decide (a1 <= a0) = true := decide_eq_true c4
   clear c4
   obtain rfl := Option.some.inj H
   go_enter Tryd.func60, Tryd.ntmps60
   go_wp2
   go_ret
   exact ⟨RG, DR⟩
 have c4b0 : decide (a1 <= a0) = false := decide_eq_false c4
 clear c4
 obtain rfl := Option.some.inj H
 go_enter Tryd.func60, Tryd.ntmps60
 go_wp2
 go_ret
 exact ⟨RG, DR⟩
/-! ### spec_ttInputs: function 53 -/
open Kd
def spec_ttInputs.f (a0 : Int) : Option (Bool) := (spec_l1In.f a0 0 4).bind fun t103 => (some t103)
theorem spec_ttInputs.calls (a0 : Int) (r : Bool) (w : World) (h : spec_ttInputs.f a0 = some r) :
 Calls Tryd.prog 53 #[.int .i64 a0] w fun e w' => e = .returned (.bool r) /\ Drawn0 w w' := by
 have H := h
 clear h
 unfold spec_ttInputs.f at H
 replace H := bindA H; obtain ⟨t103, A2, H⟩ := H
 obtain rfl := Option.some.inj H
 go_enter Tryd.func53, Tryd.ntmps53
 go_wp2_with (first | ((with_reducible refine gate_callee (f := 60) rfl ?_); refine goesM (N := (some 4)) #[.int .i64 a0, .int .i64 0, .int .i64 4] Tryd.func60 ?_; (with_reducible refine (spec_l1In.calls a0 0 4 t103 _ A2.1).mono ?_); rintro e w' ⟨rfl, ⟨nd, rfl⟩⟩; refine ⟨_, rfl, ?_⟩))
 go_ret
 exact ⟨RG, DR⟩

/-! ### spec_ddSame: function 64 -/
open Kd
mutual
def spec_ddSame.j0 : Nat -> Bool -> Int -> List (S86) -> Int -> Int -> List (S86) -> Int -> Option (Bool)
 | 0, _, _, _, _, _, _, _ => none
 | k + 1, x27, x105000, x105001, x105002, x106000, x106001, x106002 => if x27 = true then (some false) else (spec_ddSame.l0 k x105001 (x105001.length : Int) 0 x106000 x106001 x106002)
def spec_ddSame.l0 : Nat -> List (S86) -> Int -> Int -> Int -> List (S86) -> Int -> Option (Bool)
 | 0, _, _, _, _, _, _ => none
 | k + 1, x29, x30, x31, x106000, x106001, x106002 => if x31 < x30 then (if 0 <= x31 then (if x31 < (x29.length : Int) then (if x31 < (x106001.length : Int) then (if (!(((rd_T86 x29 x31).f0) == ((rd_T86 x106001 x31).f0)) || (!(((rd_T86 x29 x31).f1) == ((rd_T86 x106001 x31).f1)) || (!(((rd_T86 x29 x31).f2) == ((rd_T86 x106001 x31).f2))))) = true then (some false) else (spec_ddSame.l0 k x29 x30 (wrap64 (x31 + 1)) x106000 x106001 x106002)) else (none)) else (none)) else (none)) else (some true)
end
def spec_ddSame.f (k : Nat) (a0_0 : Int) (l0_1 : List (S86)) (a0_2 : Int) (a1_0 : Int) (l1_1 : List (S86)) (a1_2 : Int) : Option (Bool) := if a0_0 = a1_0 then (if a0_2 = a1_2 then (spec_ddSame.j0 k ((l0_1.length : Int) != (l1_1.length : Int)) a0_0 l0_1 a0_2 a1_0 l1_1 a1_2) else (spec_ddSame.j0 k true a0_0 l0_1 a0_2 a1_0 l1_1 a1_2)) else (spec_ddSame.j0 k true a0_0 l0_1 a0_2 a1_0 l1_1 a1_2)
theorem spec_ddSame.mono_l : ∀ k, (∀ y0 y1 y2 y3 y4 y5 y6, LeO (spec_ddSame.j0 k y0 y1 y2 y3 y4 y5 y6) (spec_ddSame.j0 (k + 1) y0 y1 y2 y3 y4 y5 y6)) /\ (∀ y0 y1 y2 y3 y4 y5, LeO (spec_ddSame.l0 k y0 y1 y2 y3 y4 y5) (spec_ddSame.l0 (k + 1) y0 y1 y2 y3 y4 y5))
 | 0 => by refine ⟨?_, ?_⟩ <;> (intros; intro r h; first | (simp [spec_ddSame.j0] at h; done) | (simp [spec_ddSame.l0] at h; done))
 | k + 1 => by
  obtain ⟨ih0, ih1⟩ := spec_ddSame.mono_l k
  refine ⟨?_, ?_⟩ <;> (
   intros
   first | unfold spec_ddSame.j0 | unfold spec_ddSame.l0
   exact LM2 ih0 ih1)
theorem spec_ddSame.mono : ∀ a0 a1 a2 a3 a4 a5 k, LeO (spec_ddSame.f k a0 a1 a2 a3 a4 a5) (spec_ddSame.f (k + 1) a0 a1 a2 a3 a4 a5) := by
 intro a0 a1 a2 a3 a4 a5 k
 obtain ⟨ih0, ih1⟩ := spec_ddSame.mono_l k
 unfold spec_ddSame.f
 exact LM2 ih0 ih1
theorem spec_ddSame.calls (k : Nat) (a0_0 : Int) (A0_1 : Option Addr) (c0_1 : Nat) (l0_1 : List (S86)) (a0_2 : Int) (a1_0 : Int) (A1_1 : Option Addr) (c1_1 : Nat) (l1_1 : List (S86)) (a1_2 : Int) (r : Bool) (w : World) (hr0_1 : Kd.C k86 w A0_1 l0_1.length l0_1) (hc0_1 : l0_1.length <= c0_1) (hr1_1 : Kd.C k86 w A1_1 l1_1.length l1_1) (hc1_1 : l1_1.length <= c1_1) (h : spec_ddSame.f k a0_0 l0_1 a0_2 a1_0 l1_1 a1_2 = some r) :
 Calls Tryd.prog 64 #[.agg #[.int .i64 a0_0, .slice A0_1 l0_1.length c0_1, .int .i64 a0_2], .agg #[.int .i64 a1_0, .slice A1_1 l1_1.length c1_1, .int .i64 a1_2]] w fun e w' => e = .returned (.bool r) /\ Below w.heap.size w w' := by
 have hu50 := Tryd.underlying50
 have hu86 := Tryd.underlying86
 have HR0_1 := Aside0.mk hr0_1
 have HC0_1 := Aside0.mk hc0_1
 clear hr0_1 hc0_1
 have HR1_1 := Aside0.mk hr1_1
 have HC1_1 := Aside0.mk hc1_1
 clear hr1_1 hc1_1
 have HB := Aside0.mk (Below.refl w.heap.size w)
 have H := h
 clear h
 unfold spec_ddSame.f at H
 have HC3 := Aside0.mk H
 clear H
 go_enter Tryd.func64, Tryd.ntmps64
 go_upto_region 1 with (first | ((with_reducible refine gate_dst (N := 2) rfl ?_); (try (refine gate_guard (by rfl) ?_; dsimp only)); refine boxE (cs := #[.int .i64 a0_0, .slice A0_1 l0_1.length c0_1, .int .i64 a0_2]) (t := 50) ?_; intro gb104 hg w4 hbox hb; refine E4b HB.1 hg hbox hb ?_; clear HB; intro HB BK104 GW104 GE104; clear hb hbox hg) | ((with_reducible refine gate_dst (N := 3) rfl ?_); (try (refine gate_guard (by rfl) ?_; dsimp only)); refine boxE (cs := #[.int .i64 a1_0, .slice A1_1 l1_1.length c1_1, .int .i64 a1_2]) (t := 50) ?_; intro gb105 hg w5 hbox hb; refine E7 (bB BK104.1 hb) (bS HB.1 hb) (hbox) (gX HB.1 hg) (gX HB.1 hg) (nB BK104.1 hg) (nC BK104.1 hg) ?_; clear BK104 HB; intro BK104 HB BK105 GW105 GE105 NB104_105 NB105_104; clear hb hbox hg))
 repeat (go_quiet (first | ((with_reducible refine gate_dst (N := 2) rfl ?_); (try (refine gate_guard (by rfl) ?_; dsimp only)); refine boxE (cs := #[.int .i64 a0_0, .slice A0_1 l0_1.length c0_1, .int .i64 a0_2]) (t := 50) ?_; intro gb104 hg w4 hbox hb; refine E4b HB.1 hg hbox hb ?_; clear HB; intro HB BK104 GW104 GE104; clear hb hbox hg) | ((with_reducible refine gate_dst (N := 3) rfl ?_); (try (refine gate_guard (by rfl) ?_; dsimp only)); refine boxE (cs := #[.int .i64 a1_0, .slice A1_1 l1_1.length c1_1, .int .i64 a1_2]) (t := 50) ?_; intro gb105 hg w5 hbox hb; refine E7 (bB BK104.1 hb) (bS HB.1 hb) (hbox) (gX HB.1 hg) (gX HB.1 hg) (nB BK104.1 hg) (nC BK104.1 hg) ?_; clear BK104 HB; intro BK104 HB BK105 GW105 GE105 NB104_105 NB105_104; clear hb hbox hg)); go_upto_region 1 with (first | ((with_reducible refine gate_dst (N := 2) rfl ?_); (try (refine gate_guard (by rfl) ?_; dsimp only)); refine boxE (cs := #[.int .i64 a0_0, .slice A0_1 l0_1.length c0_1, .int .i64 a0_2]) (t := 50) ?_; intro gb104 hg w4 hbox hb; refine E4b HB.1 hg hbox hb ?_; clear HB; intro HB BK104 GW104 GE104; clear hb hbox hg) | ((with_reducible refine gate_dst (N := 3) rfl ?_); (try (refine gate_guard (by rfl) ?_; dsimp only)); refine boxE (cs := #[.int .i64 a1_0, .slice A1_1 l1_1.length c1_1, .int .i64 a1_2]) (t := 50) ?_; intro gb105 hg w5 hbox hb; refine E7 (bB BK104.1 hb) (bS HB.1 hb) (hbox) (gX HB.1 hg) (gX HB.1 hg) (nB BK104.1 hg) (nC BK104.1 hg) ?_; clear BK104 HB; intro BK104 HB BK105 GW105 GE105 NB104_105 NB105_104; clear hb hbox hg)))
 (try simp only [Act.put, List.setIfInBounds_toArray, List.set_cons_zero, List.set_cons_succ])
 go_cut [27] (fun v27 wc => ∃ (kq : Nat) (x27_2 : Bool), v27 = .bool x27_2 /\ Aside0 (spec_ddSame.j0 kq x27_2 a0_0 l0_1 a0_2 a1_0 l1_1 a1_2 = some r) /\ Aside0 (kq <= k) /\ Aside0 (wc.heap[gb104]? = some (.cells #[.int .i64 a0_0, (.slice A0_1 l0_1.length c0_1), .int .i64 a0_2] 50 (0, 0))) /\ Aside0 (wc.heap[gb105]? = some (.cells #[.int .i64 a1_0, (.slice A1_1 l1_1.length c1_1), .int .i64 a1_2] 50 (0, 0))) /\ Aside0 (Below w.heap.size w wc))
 case first =>
  have H := HC3.1
  clear HC3
  replace H := ifQ H; rcases H with ⟨c6, H⟩ | ⟨c6, H⟩
  · have c6b0 := beq_iff_eq.mpr c6
    have c6b1 := bne_eq_false_iff_eq.mpr c6
    clear c6
    (first | rw [c6b0] | (simp only [i64_w, i32_w]; rw [c6b0]) | skip)
    replace H := ifQ H; rcases H with ⟨c7, H⟩ | ⟨c7, H⟩
    · have c7b0 := beq_iff_eq.mpr c7
      have c7b1 := bne_eq_false_iff_eq.mpr c7
      clear c7
      have H' := Aside0.mk H
      clear H
      have hnb8 := NB104_105.1
      have hnc8 := NB105_104.1
      obtain ⟨hcz9_0, hcz9_1, hcz9_2, hfz9_0, hfz9_1, hfz9_2⟩ := cz3 BK104.1
      obtain ⟨hcz10_0, hcz10_1, hcz10_2, hfz10_0, hfz10_1, hfz10_2⟩ := cz3 BK105.1
      go_wp2
      repeat (go_quiet (fail); try go_wp2)
      go_meet
      case rel => exact ⟨_, (((l0_1.length : Int) != (l1_1.length : Int))), RG, H', ⟨by first | omega | exact Nat.le_refl _⟩, ⟨PB BK104.1⟩, ⟨PB BK105.1⟩, ⟨BL HB.1⟩⟩
    have c7b0 := beq_eq_false_iff_ne.mpr c7
    have c7b1 := bne_iff_ne.mpr c7
    have H' := Aside0.mk H
    clear H
    have hnb11 := NB104_105.1
    have hnc11 := NB105_104.1
    obtain ⟨hcz12_0, hcz12_1, hcz12_2, hfz12_0, hfz12_1, hfz12_2⟩ := cz3 BK104.1
    obtain ⟨hcz13_0, hcz13_1, hcz13_2, hfz13_0, hfz13_1, hfz13_2⟩ := cz3 BK105.1
    go_wp2
    repeat (go_quiet (fail); try go_wp2)
    go_meet
    case rel => exact ⟨_, (true), RG, H', ⟨by first | omega | exact Nat.le_refl _⟩, ⟨PB BK104.1⟩, ⟨PB BK105.1⟩, ⟨BL HB.1⟩⟩
  have c6b0 := beq_eq_false_iff_ne.mpr c6
  have c6b1 := bne_iff_ne.mpr c6
  (first | rw [c6b0] | (simp only [i64_w, i32_w]; rw [c6b0]) | skip)
  have H' := Aside0.mk H
  clear H
  have hnb14 := NB104_105.1
  have hnc14 := NB105_104.1
  obtain ⟨hcz15_0, hcz15_1, hcz15_2, hfz15_0, hfz15_1, hfz15_2⟩ := cz3 BK104.1
  obtain ⟨hcz16_0, hcz16_1, hcz16_2, hfz16_0, hfz16_1, hfz16_2⟩ := cz3 BK105.1
  go_wp2
  repeat (go_quiet (fail); try go_wp2)
  go_meet
  case rel => exact ⟨_, (true), RG, H', ⟨by first | omega | exact Nat.le_refl _⟩, ⟨PB BK104.1⟩, ⟨PB BK105.1⟩, ⟨BL HB.1⟩⟩
 clear HC3
 obtain ⟨kq, x27_2, rfl, HA, HJ2, BK104, BK105, HB⟩ := hcut
 cases kq with
 | zero => exact absurd HA.1 (by simp [spec_ddSame.j0])
 | succ kj2 => ?_
 have H := HA.1
 clear HA
 simp only [spec_ddSame.j0] at H
 replace H := ifX H; rcases H with ⟨rfl, H⟩ | ⟨rfl, H⟩
 · obtain rfl := Option.some.inj H
   go_wp2
   repeat (go_quiet (fail); try go_wp2)
   go_ret
   exact ⟨RF, BL HB.1⟩
 have H' := Aside0.mk H
 clear H
 have hnb18 := NB104_105.1
 have hnc18 := NB105_104.1
 obtain ⟨hcz19_0, hcz19_1, hcz19_2, hfz19_0, hfz19_1, hfz19_2⟩ := cz3 BK104.1
 go_wp2
 repeat (go_quiet (fail); try go_wp2)
 go_loopg [31] kj2 (fun kq v31 w' => ∃ (x31_2 : Int), v31 = .int .i64 x31_2 /\ Aside0 (spec_ddSame.l0 kq l0_1 (l0_1.length : Int) x31_2 a1_0 l1_1 a1_2 = some r) /\ Aside0 (kq <= kj2) /\ Aside0 (w'.heap[gb104]? = some (.cells #[.int .i64 a0_0, (.slice A0_1 l0_1.length c0_1), .int .i64 a0_2] 50 (0, 0))) /\ Aside0 (w'.heap[gb105]? = some (.cells #[.int .i64 a1_0, (.slice A1_1 l1_1.length c1_1), .int .i64 a1_2] 50 (0, 0))) /\ Aside0 (Below w.heap.size w w'))
 case atStart => exact ⟨(0), RG, H', ⟨Nat.le_refl _⟩, ⟨PB BK104.1⟩, ⟨PB BK105.1⟩, ⟨BL HB.1⟩⟩
 clear H'
 clear hcz19_0 hcz19_1 hcz19_2 hfz19_0 hfz19_1 hfz19_2
 obtain ⟨x31_2, rfl, HA, HK2, BK104, BK105, HB⟩ := hrel
 cases gk with
 | zero => exact absurd HA.1 (by simp [spec_ddSame.l0])
 | succ k2 => ?_
 have H := HA.1
 clear HA
 simp only [spec_ddSame.l0] at H
 replace H := ifB H; rcases H with ⟨c20b0, H⟩ | ⟨c20b0, H⟩
 · replace H := ifN H; obtain ⟨c21b0, H⟩ := H
   replace H := ifN H; obtain ⟨c22b0, H⟩ := H
   replace H := ifN H; obtain ⟨c23b0, H⟩ := H
   replace H := ifQ H; rcases H with ⟨c24, H⟩ | ⟨c24, H⟩
   · have c24b0 : (!(((rd_T86 l0_1 x31_2).f0) == ((rd_T86 l1_1 x31_2).f0)) || (!(((rd_T86 l0_1 x31_2).f1) == ((rd_T86 l1_1 x31_2).f1)) || (!(((rd_T86 l0_1 x31_2).f2) == ((rd_T86 l1_1 x31_2).f2))))) = true := c24
     clear c24
     obtain rfl := Option.some.inj H
     have p106 : 0 <= (x31_2 : Int) := OD
     have q106 : x31_2 < (l0_1.length : Int) := OD
     obtain ⟨ad106, e106, hx106_0, hx106_1, hx106_2⟩ := at_T86 HR0_1.1 x31_2 p106 q106
     cases e106
     replace hx106_0 := (HB.1.cell (World.block_lt_of_cell? w _ hx106_0)).trans hx106_0
     replace hx106_1 := (HB.1.cell (World.block_lt_of_cell? w _ hx106_1)).trans hx106_1
     replace hx106_2 := (HB.1.cell (World.block_lt_of_cell? w _ hx106_2)).trans hx106_2
     replace p106 := eq_true p106
     replace q106 := eq_true q106
     go_wp2_with (first | ((with_reducible refine gate_dst (N := 6) rfl ?_); (try (refine gate_guard (by rfl) ?_; dsimp only)); refine boxE (cs := #[.int .i64 0, .int .i64 0, .int .i64 0]) (t := 86) ?_; intro gb107 hg w25 hbox hb; refine E10 (bB BK104.1 hb) (bB BK105.1 hb) (bS HB.1 hb) (hbox) (gX HB.1 hg) (gX HB.1 hg) (nB BK104.1 hg) (nC BK104.1 hg) (nB BK105.1 hg) (nC BK105.1 hg) ?_; clear BK104 BK105 HB; intro BK104 BK105 HB BK107 GW107 GE107 NB104_107 NB107_104 NB105_107 NB107_105; clear hb hbox hg; have hnb26 := NB107_104.1; have hnc26 := NB104_107.1; have hnb27 := NB107_105.1; have hnc27 := NB105_107.1; obtain ⟨hcz28_0, hcz28_1, hcz28_2, hfz28_0, hfz28_1, hfz28_2⟩ := cz3 BK107.1; have hnb29 := NB105_104.1; have hnc29 := NB104_105.1; obtain ⟨hcz30_0, hcz30_1, hcz30_2, hfz30_0, hfz30_1, hfz30_2⟩ := cz3 BK105.1; have p108 : 0 <= (x31_2 : Int) := OD; have q108 : x31_2 < (l1_1.length : Int) := OD; obtain ⟨ad108, e108, hx108_0, hx108_1, hx108_2⟩ := at_T86 HR1_1.1 x31_2 p108 q108; cases e108; have hn108_0 : ad108.block ≠ gb107 := Nat.ne_of_lt (Nat.lt_of_lt_of_le (by have := World.block_lt_of_cell? _ _ hx108_0; first | rwa [add_block] at this | exact this) GW107.1); have hn108_1 : ad108.block ≠ gb107 := Nat.ne_of_lt (Nat.lt_of_lt_of_le (by have := World.block_lt_of_cell? _ _ hx108_0; first | rwa [add_block] at this | exact this) GW107.1); have hn108_2 : ad108.block ≠ gb107 := Nat.ne_of_lt (Nat.lt_of_lt_of_le (by have := World.block_lt_of_cell? _ _ hx108_0; first | rwa [add_block] at this | exact this) GW107.1); replace hx108_0 := (HB.1.cell (World.block_lt_of_cell? w _ hx108_0)).trans hx108_0; replace hx108_1 := (HB.1.cell (World.block_lt_of_cell? w _ hx108_1)).trans hx108_1; replace hx108_2 := (HB.1.cell (World.block_lt_of_cell? w _ hx108_2)).trans hx108_2; replace hx108_0 := (cell_far (p := ⟨gb107, 0, none⟩) (by first | (rw [add_block]; exact hn108_0) | (show (Addr.add _ _).block ≠ _; rw [add_block]; exact hn108_0) | exact hn108_0) (.int .i64 ((rd_T86 l0_1 x31_2).f0))).trans hx108_0; replace hx108_1 := (cell_far (p := ⟨gb107, 0, none⟩) (by first | (rw [add_block]; exact hn108_0) | (show (Addr.add _ _).block ≠ _; rw [add_block]; exact hn108_0) | exact hn108_0) (.int .i64 ((rd_T86 l0_1 x31_2).f0))).trans hx108_1; replace hx108_2 := (cell_far (p := ⟨gb107, 0, none⟩) (by first | (rw [add_block]; exact hn108_0) | (show (Addr.add _ _).block ≠ _; rw [add_block]; exact hn108_0) | exact hn108_0) (.int .i64 ((rd_T86 l0_1 x31_2).f0))).trans hx108_2; replace hx108_0 := (cell_far (p := ⟨gb107, 1, none⟩) (by first | (rw [add_block]; exact hn108_1) | (show (Addr.add _ _).block ≠ _; rw [add_block]; exact hn108_1) | exact hn108_1) (.int .i64 ((rd_T86 l0_1 x31_2).f1))).trans hx108_0; replace hx108_1 := (cell_far (p := ⟨gb107, 1, none⟩) (by first | (rw [add_block]; exact hn108_1) | (show (Addr.add _ _).block ≠ _; rw [add_block]; exact hn108_1) | exact hn108_1) (.int .i64 ((rd_T86 l0_1 x31_2).f1))).trans hx108_1; replace hx108_2 := (cell_far (p := ⟨gb107, 1, none⟩) (by first | (rw [add_block]; exact hn108_1) | (show (Addr.add _ _).block ≠ _; rw [add_block]; exact hn108_1) | exact hn108_1) (.int .i64 ((rd_T86 l0_1 x31_2).f1))).trans hx108_2; replace hx108_0 := (cell_far (p := ⟨gb107, 2, none⟩) (by first | (rw [add_block]; exact hn108_2) | (show (Addr.add _ _).block ≠ _; rw [add_block]; exact hn108_2) | exact hn108_2) (.int .i64 ((rd_T86 l0_1 x31_2).f2))).trans hx108_0; replace hx108_1 := (cell_far (p := ⟨gb107, 2, none⟩) (by first | (rw [add_block]; exact hn108_2) | (show (Addr.add _ _).block ≠ _; rw [add_block]; exact hn108_2) | exact hn108_2) (.int .i64 ((rd_T86 l0_1 x31_2).f2))).trans hx108_1; replace hx108_2 := (cell_far (p := ⟨gb107, 2, none⟩) (by first | (rw [add_block]; exact hn108_2) | (show (Addr.add _ _).block ≠ _; rw [add_block]; exact hn108_2) | exact hn108_2) (.int .i64 ((rd_T86 l0_1 x31_2).f2))).trans hx108_2; (try have hy108_0 := fun (n_ : Nat) => (show (((((w25.drewN n_).setCell ⟨gb107, 0, none⟩ (.int .i64 ((rd_T86 l0_1 x31_2).f0))).setCell ⟨gb107, 1, none⟩ (.int .i64 ((rd_T86 l0_1 x31_2).f1))).setCell ⟨gb107, 2, none⟩ (.int .i64 ((rd_T86 l0_1 x31_2).f2)))).cell? _ = some _ from hx108_0)); (try have hy108_1 := fun (n_ : Nat) => (show (((((w25.drewN n_).setCell ⟨gb107, 0, none⟩ (.int .i64 ((rd_T86 l0_1 x31_2).f0))).setCell ⟨gb107, 1, none⟩ (.int .i64 ((rd_T86 l0_1 x31_2).f1))).setCell ⟨gb107, 2, none⟩ (.int .i64 ((rd_T86 l0_1 x31_2).f2)))).cell? _ = some _ from hx108_1)); (try have hy108_2 := fun (n_ : Nat) => (show (((((w25.drewN n_).setCell ⟨gb107, 0, none⟩ (.int .i64 ((rd_T86 l0_1 x31_2).f0))).setCell ⟨gb107, 1, none⟩ (.int .i64 ((rd_T86 l0_1 x31_2).f1))).setCell ⟨gb107, 2, none⟩ (.int .i64 ((rd_T86 l0_1 x31_2).f2)))).cell? _ = some _ from hx108_2)); clear hn108_0; clear hn108_1; clear hn108_2; replace p108 := eq_true p108; replace q108 := eq_true q108))
     repeat (go_quiet (first | ((with_reducible refine gate_dst (N := 6) rfl ?_); (try (refine gate_guard (by rfl) ?_; dsimp only)); refine boxE (cs := #[.int .i64 0, .int .i64 0, .int .i64 0]) (t := 86) ?_; intro gb107 hg w25 hbox hb; refine E10 (bB BK104.1 hb) (bB BK105.1 hb) (bS HB.1 hb) (hbox) (gX HB.1 hg) (gX HB.1 hg) (nB BK104.1 hg) (nC BK104.1 hg) (nB BK105.1 hg) (nC BK105.1 hg) ?_; clear BK104 BK105 HB; intro BK104 BK105 HB BK107 GW107 GE107 NB104_107 NB107_104 NB105_107 NB107_105; clear hb hbox hg; have hnb26 := NB107_104.1; have hnc26 := NB104_107.1; have hnb27 := NB107_105.1; have hnc27 := NB105_107.1; obtain ⟨hcz28_0, hcz28_1, hcz28_2, hfz28_0, hfz28_1, hfz28_2⟩ := cz3 BK107.1; have hnb29 := NB105_104.1; have hnc29 := NB104_105.1; obtain ⟨hcz30_0, hcz30_1, hcz30_2, hfz30_0, hfz30_1, hfz30_2⟩ := cz3 BK105.1; have p108 : 0 <= (x31_2 : Int) := OD; have q108 : x31_2 < (l1_1.length : Int) := OD; obtain ⟨ad108, e108, hx108_0, hx108_1, hx108_2⟩ := at_T86 HR1_1.1 x31_2 p108 q108; cases e108; have hn108_0 : ad108.block ≠ gb107 := Nat.ne_of_lt (Nat.lt_of_lt_of_le (by have := World.block_lt_of_cell? _ _ hx108_0; first | rwa [add_block] at this | exact this) GW107.1); have hn108_1 : ad108.block ≠ gb107 := Nat.ne_of_lt (Nat.lt_of_lt_of_le (by have := World.block_lt_of_cell? _ _ hx108_0; first | rwa [add_block] at this | exact this) GW107.1); have hn108_2 : ad108.block ≠ gb107 := Nat.ne_of_lt (Nat.lt_of_lt_of_le (by have := World.block_lt_of_cell? _ _ hx108_0; first | rwa [add_block] at this | exact this) GW107.1); replace hx108_0 := (HB.1.cell (World.block_lt_of_cell? w _ hx108_0)).trans hx108_0; replace hx108_1 := (HB.1.cell (World.block_lt_of_cell? w _ hx108_1)).trans hx108_1; replace hx108_2 := (HB.1.cell (World.block_lt_of_cell? w _ hx108_2)).trans hx108_2; replace hx108_0 := (cell_far (p := ⟨gb107, 0, none⟩) (by first | (rw [add_block]; exact hn108_0) | (show (Addr.add _ _).block ≠ _; rw [add_block]; exact hn108_0) | exact hn108_0) (.int .i64 ((rd_T86 l0_1 x31_2).f0))).trans hx108_0; replace hx108_1 := (cell_far (p := ⟨gb107, 0, none⟩) (by first | (rw [add_block]; exact hn108_0) | (show (Addr.add _ _).block ≠ _; rw [add_block]; exact hn108_0) | exact hn108_0) (.int .i64 ((rd_T86 l0_1 x31_2).f0))).trans hx108_1; replace hx108_2 := (cell_far (p := ⟨gb107, 0, none⟩) (by first | (rw [add_block]; exact hn108_0) | (show (Addr.add _ _).block ≠ _; rw [add_block]; exact hn108_0) | exact hn108_0) (.int .i64 ((rd_T86 l0_1 x31_2).f0))).trans hx108_2; replace hx108_0 := (cell_far (p := ⟨gb107, 1, none⟩) (by first | (rw [add_block]; exact hn108_1) | (show (Addr.add _ _).block ≠ _; rw [add_block]; exact hn108_1) | exact hn108_1) (.int .i64 ((rd_T86 l0_1 x31_2).f1))).trans hx108_0; replace hx108_1 := (cell_far (p := ⟨gb107, 1, none⟩) (by first | (rw [add_block]; exact hn108_1) | (show (Addr.add _ _).block ≠ _; rw [add_block]; exact hn108_1) | exact hn108_1) (.int .i64 ((rd_T86 l0_1 x31_2).f1))).trans hx108_1; replace hx108_2 := (cell_far (p := ⟨gb107, 1, none⟩) (by first | (rw [add_block]; exact hn108_1) | (show (Addr.add _ _).block ≠ _; rw [add_block]; exact hn108_1) | exact hn108_1) (.int .i64 ((rd_T86 l0_1 x31_2).f1))).trans hx108_2; replace hx108_0 := (cell_far (p := ⟨gb107, 2, none⟩) (by first | (rw [add_block]; exact hn108_2) | (show (Addr.add _ _).block ≠ _; rw [add_block]; exact hn108_2) | exact hn108_2) (.int .i64 ((rd_T86 l0_1 x31_2).f2))).trans hx108_0; replace hx108_1 := (cell_far (p := ⟨gb107, 2, none⟩) (by first | (rw [add_block]; exact hn108_2) | (show (Addr.add _ _).block ≠ _; rw [add_block]; exact hn108_2) | exact hn108_2) (.int .i64 ((rd_T86 l0_1 x31_2).f2))).trans hx108_1; replace hx108_2 := (cell_far (p := ⟨gb107, 2, none⟩) (by first | (rw [add_block]; exact hn108_2) | (show (Addr.add _ _).block ≠ _; rw [add_block]; exact hn108_2) | exact hn108_2) (.int .i64 ((rd_T86 l0_1 x31_2).f2))).trans hx108_2; (try have hy108_0 := fun (n_ : Nat) => (show (((((w25.drewN n_).setCell ⟨gb107, 0, none⟩ (.int .i64 ((rd_T86 l0_1 x31_2).f0))).setCell ⟨gb107, 1, none⟩ (.int .i64 ((rd_T86 l0_1 x31_2).f1))).setCell ⟨gb107, 2, none⟩ (.int .i64 ((rd_T86 l0_1 x31_2).f2)))).cell? _ = some _ from hx108_0)); (try have hy108_1 := fun (n_ : Nat) => (show (((((w25.drewN n_).setCell ⟨gb107, 0, none⟩ (.int .i64 ((rd_T86 l0_1 x31_2).f0))).setCell ⟨gb107, 1, none⟩ (.int .i64 ((rd_T86 l0_1 x31_2).f1))).setCell ⟨gb107, 2, none⟩ (.int .i64 ((rd_T86 l0_1 x31_2).f2)))).cell? _ = some _ from hx108_1)); (try have hy108_2 := fun (n_ : Nat) => (show (((((w25.drewN n_).setCell ⟨gb107, 0, none⟩ (.int .i64 ((rd_T86 l0_1 x31_2).f0))).setCell ⟨gb107, 1, none⟩ (.int .i64 ((rd_T86 l0_1 x31_2).f1))).setCell ⟨gb107, 2, none⟩ (.int .i64 ((rd_T86 l0_1 x31_2).f2)))).cell? _ = some _ from hx108_2)); clear hn108_0; clear hn108_1; clear hn108_2; replace p108 := eq_true p108; replace q108 := eq_true q108)); try go_wp2_with (first | ((with_reducible refine gate_dst (N := 6) rfl ?_); (try (refine gate_guard (by rfl) ?_; dsimp only)); refine boxE (cs := #[.int .i64 0, .int .i64 0, .int .i64 0]) (t := 86) ?_; intro gb107 hg w25 hbox hb; refine E10 (bB BK104.1 hb) (bB BK105.1 hb) (bS HB.1 hb) (hbox) (gX HB.1 hg) (gX HB.1 hg) (nB BK104.1 hg) (nC BK104.1 hg) (nB BK105.1 hg) (nC BK105.1 hg) ?_; clear BK104 BK105 HB; intro BK104 BK105 HB BK107 GW107 GE107 NB104_107 NB107_104 NB105_107 NB107_105; clear hb hbox hg; have hnb26 := NB107_104.1; have hnc26 := NB104_107.1; have hnb27 := NB107_105.1; have hnc27 := NB105_107.1; obtain ⟨hcz28_0, hcz28_1, hcz28_2, hfz28_0, hfz28_1, hfz28_2⟩ := cz3 BK107.1; have hnb29 := NB105_104.1; have hnc29 := NB104_105.1; obtain ⟨hcz30_0, hcz30_1, hcz30_2, hfz30_0, hfz30_1, hfz30_2⟩ := cz3 BK105.1; have p108 : 0 <= (x31_2 : Int) := OD; have q108 : x31_2 < (l1_1.length : Int) := OD; obtain ⟨ad108, e108, hx108_0, hx108_1, hx108_2⟩ := at_T86 HR1_1.1 x31_2 p108 q108; cases e108; have hn108_0 : ad108.block ≠ gb107 := Nat.ne_of_lt (Nat.lt_of_lt_of_le (by have := World.block_lt_of_cell? _ _ hx108_0; first | rwa [add_block] at this | exact this) GW107.1); have hn108_1 : ad108.block ≠ gb107 := Nat.ne_of_lt (Nat.lt_of_lt_of_le (by have := World.block_lt_of_cell? _ _ hx108_0; first | rwa [add_block] at this | exact this) GW107.1); have hn108_2 : ad108.block ≠ gb107 := Nat.ne_of_lt (Nat.lt_of_lt_of_le (by have := World.block_lt_of_cell? _ _ hx108_0; first | rwa [add_block] at this | exact this) GW107.1); replace hx108_0 := (HB.1.cell (World.block_lt_of_cell? w _ hx108_0)).trans hx108_0; replace hx108_1 := (HB.1.cell (World.block_lt_of_cell? w _ hx108_1)).trans hx108_1; replace hx108_2 := (HB.1.cell (World.block_lt_of_cell? w _ hx108_2)).trans hx108_2; replace hx108_0 := (cell_far (p := ⟨gb107, 0, none⟩) (by first | (rw [add_block]; exact hn108_0) | (show (Addr.add _ _).block ≠ _; rw [add_block]; exact hn108_0) | exact hn108_0) (.int .i64 ((rd_T86 l0_1 x31_2).f0))).trans hx108_0; replace hx108_1 := (cell_far (p := ⟨gb107, 0, none⟩) (by first | (rw [add_block]; exact hn108_0) | (show (Addr.add _ _).block ≠ _; rw [add_block]; exact hn108_0) | exact hn108_0) (.int .i64 ((rd_T86 l0_1 x31_2).f0))).trans hx108_1; replace hx108_2 := (cell_far (p := ⟨gb107, 0, none⟩) (by first | (rw [add_block]; exact hn108_0) | (show (Addr.add _ _).block ≠ _; rw [add_block]; exact hn108_0) | exact hn108_0) (.int .i64 ((rd_T86 l0_1 x31_2).f0))).trans hx108_2; replace hx108_0 := (cell_far (p := ⟨gb107, 1, none⟩) (by first | (rw [add_block]; exact hn108_1) | (show (Addr.add _ _).block ≠ _; rw [add_block]; exact hn108_1) | exact hn108_1) (.int .i64 ((rd_T86 l0_1 x31_2).f1))).trans hx108_0; replace hx108_1 := (cell_far (p := ⟨gb107, 1, none⟩) (by first | (rw [add_block]; exact hn108_1) | (show (Addr.add _ _).block ≠ _; rw [add_block]; exact hn108_1) | exact hn108_1) (.int .i64 ((rd_T86 l0_1 x31_2).f1))).trans hx108_1; replace hx108_2 := (cell_far (p := ⟨gb107, 1, none⟩) (by first | (rw [add_block]; exact hn108_1) | (show (Addr.add _ _).block ≠ _; rw [add_block]; exact hn108_1) | exact hn108_1) (.int .i64 ((rd_T86 l0_1 x31_2).f1))).trans hx108_2; replace hx108_0 := (cell_far (p := ⟨gb107, 2, none⟩) (by first | (rw [add_block]; exact hn108_2) | (show (Addr.add _ _).block ≠ _; rw [add_block]; exact hn108_2) | exact hn108_2) (.int .i64 ((rd_T86 l0_1 x31_2).f2))).trans hx108_0; replace hx108_1 := (cell_far (p := ⟨gb107, 2, none⟩) (by first | (rw [add_block]; exact hn108_2) | (show (Addr.add _ _).block ≠ _; rw [add_block]; exact hn108_2) | exact hn108_2) (.int .i64 ((rd_T86 l0_1 x31_2).f2))).trans hx108_1; replace hx108_2 := (cell_far (p := ⟨gb107, 2, none⟩) (by first | (rw [add_block]; exact hn108_2) | (show (Addr.add _ _).block ≠ _; rw [add_block]; exact hn108_2) | exact hn108_2) (.int .i64 ((rd_T86 l0_1 x31_2).f2))).trans hx108_2; (try have hy108_0 := fun (n_ : Nat) => (show (((((w25.drewN n_).setCell ⟨gb107, 0, none⟩ (.int .i64 ((rd_T86 l0_1 x31_2).f0))).setCell ⟨gb107, 1, none⟩ (.int .i64 ((rd_T86 l0_1 x31_2).f1))).setCell ⟨gb107, 2, none⟩ (.int .i64 ((rd_T86 l0_1 x31_2).f2)))).cell? _ = some _ from hx108_0)); (try have hy108_1 := fun (n_ : Nat) => (show (((((w25.drewN n_).setCell ⟨gb107, 0, none⟩ (.int .i64 ((rd_T86 l0_1 x31_2).f0))).setCell ⟨gb107, 1, none⟩ (.int .i64 ((rd_T86 l0_1 x31_2).f1))).setCell ⟨gb107, 2, none⟩ (.int .i64 ((rd_T86 l0_1 x31_2).f2)))).cell? _ = some _ from hx108_1)); (try have hy108_2 := fun (n_ : Nat) => (show (((((w25.drewN n_).setCell ⟨gb107, 0, none⟩ (.int .i64 ((rd_T86 l0_1 x31_2).f0))).setCell ⟨gb107, 1, none⟩ (.int .i64 ((rd_T86 l0_1 x31_2).f1))).setCell ⟨gb107, 2, none⟩ (.int .i64 ((rd_T86 l0_1 x31_2).f2)))).cell? _ = some _ from hx108_2)); clear hn108_0; clear hn108_1; clear hn108_2; replace p108 := eq_true p108; replace q108 := eq_true q108)))
     go_ret
     exact ⟨RF, BL HB.1⟩
   have c24b0 : (!(((rd_T86 l0_1 x31_2).f0) == ((rd_T86 l1_1 x31_2).f0)) || (!(((rd_T86 l0_1 x31_2).f1) == ((rd_T86 l1_1 x31_2).f1)) || (!(((rd_T86 l0_1 x31_2).f2) == ((rd_T86 l1_1 x31_2).f2))))) = false := by simpa using c24
   clear c24
   have H' := Aside0.mk H
   clear H
   have p106 : 0 <= (x31_2 : Int) := OD
   have q106 : x31_2 < (l0_1.length : Int) := OD
   obtain ⟨ad106, e106, hx106_0, hx106_1, hx106_2⟩ := at_T86 HR0_1.1 x31_2 p106 q106
   cases e106
   replace hx106_0 := (HB.1.cell (World.block_lt_of_cell? w _ hx106_0)).trans hx106_0
   replace hx106_1 := (HB.1.cell (World.block_lt_of_cell? w _ hx106_1)).trans hx106_1
   replace hx106_2 := (HB.1.cell (World.block_lt_of_cell? w _ hx106_2)).trans hx106_2
   replace p106 := eq_true p106
   replace q106 := eq_true q106
   go_wp2_with (first | ((with_reducible refine gate_dst (N := 6) rfl ?_); (try (refine gate_guard (by rfl) ?_; dsimp only)); refine boxE (cs := #[.int .i64 0, .int .i64 0, .int .i64 0]) (t := 86) ?_; intro gb107 hg w31 hbox hb; refine E10 (bB BK104.1 hb) (bB BK105.1 hb) (bS HB.1 hb) (hbox) (gX HB.1 hg) (gX HB.1 hg) (nB BK104.1 hg) (nC BK104.1 hg) (nB BK105.1 hg) (nC BK105.1 hg) ?_; clear BK104 BK105 HB; intro BK104 BK105 HB BK107 GW107 GE107 NB104_107 NB107_104 NB105_107 NB107_105; clear hb hbox hg; have hnb32 := NB107_104.1; have hnc32 := NB104_107.1; have hnb33 := NB107_105.1; have hnc33 := NB105_107.1; obtain ⟨hcz34_0, hcz34_1, hcz34_2, hfz34_0, hfz34_1, hfz34_2⟩ := cz3 BK107.1; have hnb35 := NB105_104.1; have hnc35 := NB104_105.1; obtain ⟨hcz36_0, hcz36_1, hcz36_2, hfz36_0, hfz36_1, hfz36_2⟩ := cz3 BK105.1; have p108 : 0 <= (x31_2 : Int) := OD; have q108 : x31_2 < (l1_1.length : Int) := OD; obtain ⟨ad108, e108, hx108_0, hx108_1, hx108_2⟩ := at_T86 HR1_1.1 x31_2 p108 q108; cases e108; have hn108_0 : ad108.block ≠ gb107 := Nat.ne_of_lt (Nat.lt_of_lt_of_le (by have := World.block_lt_of_cell? _ _ hx108_0; first | rwa [add_block] at this | exact this) GW107.1); have hn108_1 : ad108.block ≠ gb107 := Nat.ne_of_lt (Nat.lt_of_lt_of_le (by have := World.block_lt_of_cell? _ _ hx108_0; first | rwa [add_block] at this | exact this) GW107.1); have hn108_2 : ad108.block ≠ gb107 := Nat.ne_of_lt (Nat.lt_of_lt_of_le (by have := World.block_lt_of_cell? _ _ hx108_0; first | rwa [add_block] at this | exact this) GW107.1); replace hx108_0 := (HB.1.cell (World.block_lt_of_cell? w _ hx108_0)).trans hx108_0; replace hx108_1 := (HB.1.cell (World.block_lt_of_cell? w _ hx108_1)).trans hx108_1; replace hx108_2 := (HB.1.cell (World.block_lt_of_cell? w _ hx108_2)).trans hx108_2; replace hx108_0 := (cell_far (p := ⟨gb107, 0, none⟩) (by first | (rw [add_block]; exact hn108_0) | (show (Addr.add _ _).block ≠ _; rw [add_block]; exact hn108_0) | exact hn108_0) (.int .i64 ((rd_T86 l0_1 x31_2).f0))).trans hx108_0; replace hx108_1 := (cell_far (p := ⟨gb107, 0, none⟩) (by first | (rw [add_block]; exact hn108_0) | (show (Addr.add _ _).block ≠ _; rw [add_block]; exact hn108_0) | exact hn108_0) (.int .i64 ((rd_T86 l0_1 x31_2).f0))).trans hx108_1; replace hx108_2 := (cell_far (p := ⟨gb107, 0, none⟩) (by first | (rw [add_block]; exact hn108_0) | (show (Addr.add _ _).block ≠ _; rw [add_block]; exact hn108_0) | exact hn108_0) (.int .i64 ((rd_T86 l0_1 x31_2).f0))).trans hx108_2; replace hx108_0 := (cell_far (p := ⟨gb107, 1, none⟩) (by first | (rw [add_block]; exact hn108_1) | (show (Addr.add _ _).block ≠ _; rw [add_block]; exact hn108_1) | exact hn108_1) (.int .i64 ((rd_T86 l0_1 x31_2).f1))).trans hx108_0; replace hx108_1 := (cell_far (p := ⟨gb107, 1, none⟩) (by first | (rw [add_block]; exact hn108_1) | (show (Addr.add _ _).block ≠ _; rw [add_block]; exact hn108_1) | exact hn108_1) (.int .i64 ((rd_T86 l0_1 x31_2).f1))).trans hx108_1; replace hx108_2 := (cell_far (p := ⟨gb107, 1, none⟩) (by first | (rw [add_block]; exact hn108_1) | (show (Addr.add _ _).block ≠ _; rw [add_block]; exact hn108_1) | exact hn108_1) (.int .i64 ((rd_T86 l0_1 x31_2).f1))).trans hx108_2; replace hx108_0 := (cell_far (p := ⟨gb107, 2, none⟩) (by first | (rw [add_block]; exact hn108_2) | (show (Addr.add _ _).block ≠ _; rw [add_block]; exact hn108_2) | exact hn108_2) (.int .i64 ((rd_T86 l0_1 x31_2).f2))).trans hx108_0; replace hx108_1 := (cell_far (p := ⟨gb107, 2, none⟩) (by first | (rw [add_block]; exact hn108_2) | (show (Addr.add _ _).block ≠ _; rw [add_block]; exact hn108_2) | exact hn108_2) (.int .i64 ((rd_T86 l0_1 x31_2).f2))).trans hx108_1; replace hx108_2 := (cell_far (p := ⟨gb107, 2, none⟩) (by first | (rw [add_block]; exact hn108_2) | (show (Addr.add _ _).block ≠ _; rw [add_block]; exact hn108_2) | exact hn108_2) (.int .i64 ((rd_T86 l0_1 x31_2).f2))).trans hx108_2; (try have hy108_0 := fun (n_ : Nat) => (show (((((w31.drewN n_).setCell ⟨gb107, 0, none⟩ (.int .i64 ((rd_T86 l0_1 x31_2).f0))).setCell ⟨gb107, 1, none⟩ (.int .i64 ((rd_T86 l0_1 x31_2).f1))).setCell ⟨gb107, 2, none⟩ (.int .i64 ((rd_T86 l0_1 x31_2).f2)))).cell? _ = some _ from hx108_0)); (try have hy108_1 := fun (n_ : Nat) => (show (((((w31.drewN n_).setCell ⟨gb107, 0, none⟩ (.int .i64 ((rd_T86 l0_1 x31_2).f0))).setCell ⟨gb107, 1, none⟩ (.int .i64 ((rd_T86 l0_1 x31_2).f1))).setCell ⟨gb107, 2, none⟩ (.int .i64 ((rd_T86 l0_1 x31_2).f2)))).cell? _ = some _ from hx108_1)); (try have hy108_2 := fun (n_ : Nat) => (show (((((w31.drewN n_).setCell ⟨gb107, 0, none⟩ (.int .i64 ((rd_T86 l0_1 x31_2).f0))).setCell ⟨gb107, 1, none⟩ (.int .i64 ((rd_T86 l0_1 x31_2).f1))).setCell ⟨gb107, 2, none⟩ (.int .i64 ((rd_T86 l0_1 x31_2).f2)))).cell? _ = some _ from hx108_2)); clear hn108_0; clear hn108_1; clear hn108_2; replace p108 := eq_true p108; replace q108 := eq_true q108))
   repeat (go_quiet (first | ((with_reducible refine gate_dst (N := 6) rfl ?_); (try (refine gate_guard (by rfl) ?_; dsimp only)); refine boxE (cs := #[.int .i64 0, .int .i64 0, .int .i64 0]) (t := 86) ?_; intro gb107 hg w31 hbox hb; refine E10 (bB BK104.1 hb) (bB BK105.1 hb) (bS HB.1 hb) (hbox) (gX HB.1 hg) (gX HB.1 hg) (nB BK104.1 hg) (nC BK104.1 hg) (nB BK105.1 hg) (nC BK105.1 hg) ?_; clear BK104 BK105 HB; intro BK104 BK105 HB BK107 GW107 GE107 NB104_107 NB107_104 NB105_107 NB107_105; clear hb hbox hg; have hnb32 := NB107_104.1; have hnc32 := NB104_107.1; have hnb33 := NB107_105.1; have hnc33 := NB105_107.1; obtain ⟨hcz34_0, hcz34_1, hcz34_2, hfz34_0, hfz34_1, hfz34_2⟩ := cz3 BK107.1; have hnb35 := NB105_104.1; have hnc35 := NB104_105.1; obtain ⟨hcz36_0, hcz36_1, hcz36_2, hfz36_0, hfz36_1, hfz36_2⟩ := cz3 BK105.1; have p108 : 0 <= (x31_2 : Int) := OD; have q108 : x31_2 < (l1_1.length : Int) := OD; obtain ⟨ad108, e108, hx108_0, hx108_1, hx108_2⟩ := at_T86 HR1_1.1 x31_2 p108 q108; cases e108; have hn108_0 : ad108.block ≠ gb107 := Nat.ne_of_lt (Nat.lt_of_lt_of_le (by have := World.block_lt_of_cell? _ _ hx108_0; first | rwa [add_block] at this | exact this) GW107.1); have hn108_1 : ad108.block ≠ gb107 := Nat.ne_of_lt (Nat.lt_of_lt_of_le (by have := World.block_lt_of_cell? _ _ hx108_0; first | rwa [add_block] at this | exact this) GW107.1); have hn108_2 : ad108.block ≠ gb107 := Nat.ne_of_lt (Nat.lt_of_lt_of_le (by have := World.block_lt_of_cell? _ _ hx108_0; first | rwa [add_block] at this | exact this) GW107.1); replace hx108_0 := (HB.1.cell (World.block_lt_of_cell? w _ hx108_0)).trans hx108_0; replace hx108_1 := (HB.1.cell (World.block_lt_of_cell? w _ hx108_1)).trans hx108_1; replace hx108_2 := (HB.1.cell (World.block_lt_of_cell? w _ hx108_2)).trans hx108_2; replace hx108_0 := (cell_far (p := ⟨gb107, 0, none⟩) (by first | (rw [add_block]; exact hn108_0) | (show (Addr.add _ _).block ≠ _; rw [add_block]; exact hn108_0) | exact hn108_0) (.int .i64 ((rd_T86 l0_1 x31_2).f0))).trans hx108_0; replace hx108_1 := (cell_far (p := ⟨gb107, 0, none⟩) (by first | (rw [add_block]; exact hn108_0) | (show (Addr.add _ _).block ≠ _; rw [add_block]; exact hn108_0) | exact hn108_0) (.int .i64 ((rd_T86 l0_1 x31_2).f0))).trans hx108_1; replace hx108_2 := (cell_far (p := ⟨gb107, 0, none⟩) (by first | (rw [add_block]; exact hn108_0) | (show (Addr.add _ _).block ≠ _; rw [add_block]; exact hn108_0) | exact hn108_0) (.int .i64 ((rd_T86 l0_1 x31_2).f0))).trans hx108_2; replace hx108_0 := (cell_far (p := ⟨gb107, 1, none⟩) (by first | (rw [add_block]; exact hn108_1) | (show (Addr.add _ _).block ≠ _; rw [add_block]; exact hn108_1) | exact hn108_1) (.int .i64 ((rd_T86 l0_1 x31_2).f1))).trans hx108_0; replace hx108_1 := (cell_far (p := ⟨gb107, 1, none⟩) (by first | (rw [add_block]; exact hn108_1) | (show (Addr.add _ _).block ≠ _; rw [add_block]; exact hn108_1) | exact hn108_1) (.int .i64 ((rd_T86 l0_1 x31_2).f1))).trans hx108_1; replace hx108_2 := (cell_far (p := ⟨gb107, 1, none⟩) (by first | (rw [add_block]; exact hn108_1) | (show (Addr.add _ _).block ≠ _; rw [add_block]; exact hn108_1) | exact hn108_1) (.int .i64 ((rd_T86 l0_1 x31_2).f1))).trans hx108_2; replace hx108_0 := (cell_far (p := ⟨gb107, 2, none⟩) (by first | (rw [add_block]; exact hn108_2) | (show (Addr.add _ _).block ≠ _; rw [add_block]; exact hn108_2) | exact hn108_2) (.int .i64 ((rd_T86 l0_1 x31_2).f2))).trans hx108_0; replace hx108_1 := (cell_far (p := ⟨gb107, 2, none⟩) (by first | (rw [add_block]; exact hn108_2) | (show (Addr.add _ _).block ≠ _; rw [add_block]; exact hn108_2) | exact hn108_2) (.int .i64 ((rd_T86 l0_1 x31_2).f2))).trans hx108_1; replace hx108_2 := (cell_far (p := ⟨gb107, 2, none⟩) (by first | (rw [add_block]; exact hn108_2) | (show (Addr.add _ _).block ≠ _; rw [add_block]; exact hn108_2) | exact hn108_2) (.int .i64 ((rd_T86 l0_1 x31_2).f2))).trans hx108_2; (try have hy108_0 := fun (n_ : Nat) => (show (((((w31.drewN n_).setCell ⟨gb107, 0, none⟩ (.int .i64 ((rd_T86 l0_1 x31_2).f0))).setCell ⟨gb107, 1, none⟩ (.int .i64 ((rd_T86 l0_1 x31_2).f1))).setCell ⟨gb107, 2, none⟩ (.int .i64 ((rd_T86 l0_1 x31_2).f2)))).cell? _ = some _ from hx108_0)); (try have hy108_1 := fun (n_ : Nat) => (show (((((w31.drewN n_).setCell ⟨gb107, 0, none⟩ (.int .i64 ((rd_T86 l0_1 x31_2).f0))).setCell ⟨gb107, 1, none⟩ (.int .i64 ((rd_T86 l0_1 x31_2).f1))).setCell ⟨gb107, 2, none⟩ (.int .i64 ((rd_T86 l0_1 x31_2).f2)))).cell? _ = some _ from hx108_1)); (try have hy108_2 := fun (n_ : Nat) => (show (((((w31.drewN n_).setCell ⟨gb107, 0, none⟩ (.int .i64 ((rd_T86 l0_1 x31_2).f0))).setCell ⟨gb107, 1, none⟩ (.int .i64 ((rd_T86 l0_1 x31_2).f1))).setCell ⟨gb107, 2, none⟩ (.int .i64 ((rd_T86 l0_1 x31_2).f2)))).cell? _ = some _ from hx108_2)); clear hn108_0; clear hn108_1; clear hn108_2; replace p108 := eq_true p108; replace q108 := eq_true q108)); try go_wp2_with (first | ((with_reducible refine gate_dst (N := 6) rfl ?_); (try (refine gate_guard (by rfl) ?_; dsimp only)); refine boxE (cs := #[.int .i64 0, .int .i64 0, .int .i64 0]) (t := 86) ?_; intro gb107 hg w31 hbox hb; refine E10 (bB BK104.1 hb) (bB BK105.1 hb) (bS HB.1 hb) (hbox) (gX HB.1 hg) (gX HB.1 hg) (nB BK104.1 hg) (nC BK104.1 hg) (nB BK105.1 hg) (nC BK105.1 hg) ?_; clear BK104 BK105 HB; intro BK104 BK105 HB BK107 GW107 GE107 NB104_107 NB107_104 NB105_107 NB107_105; clear hb hbox hg; have hnb32 := NB107_104.1; have hnc32 := NB104_107.1; have hnb33 := NB107_105.1; have hnc33 := NB105_107.1; obtain ⟨hcz34_0, hcz34_1, hcz34_2, hfz34_0, hfz34_1, hfz34_2⟩ := cz3 BK107.1; have hnb35 := NB105_104.1; have hnc35 := NB104_105.1; obtain ⟨hcz36_0, hcz36_1, hcz36_2, hfz36_0, hfz36_1, hfz36_2⟩ := cz3 BK105.1; have p108 : 0 <= (x31_2 : Int) := OD; have q108 : x31_2 < (l1_1.length : Int) := OD; obtain ⟨ad108, e108, hx108_0, hx108_1, hx108_2⟩ := at_T86 HR1_1.1 x31_2 p108 q108; cases e108; have hn108_0 : ad108.block ≠ gb107 := Nat.ne_of_lt (Nat.lt_of_lt_of_le (by have := World.block_lt_of_cell? _ _ hx108_0; first | rwa [add_block] at this | exact this) GW107.1); have hn108_1 : ad108.block ≠ gb107 := Nat.ne_of_lt (Nat.lt_of_lt_of_le (by have := World.block_lt_of_cell? _ _ hx108_0; first | rwa [add_block] at this | exact this) GW107.1); have hn108_2 : ad108.block ≠ gb107 := Nat.ne_of_lt (Nat.lt_of_lt_of_le (by have := World.block_lt_of_cell? _ _ hx108_0; first | rwa [add_block] at this | exact this) GW107.1); replace hx108_0 := (HB.1.cell (World.block_lt_of_cell? w _ hx108_0)).trans hx108_0; replace hx108_1 := (HB.1.cell (World.block_lt_of_cell? w _ hx108_1)).trans hx108_1; replace hx108_2 := (HB.1.cell (World.block_lt_of_cell? w _ hx108_2)).trans hx108_2; replace hx108_0 := (cell_far (p := ⟨gb107, 0, none⟩) (by first | (rw [add_block]; exact hn108_0) | (show (Addr.add _ _).block ≠ _; rw [add_block]; exact hn108_0) | exact hn108_0) (.int .i64 ((rd_T86 l0_1 x31_2).f0))).trans hx108_0; replace hx108_1 := (cell_far (p := ⟨gb107, 0, none⟩) (by first | (rw [add_block]; exact hn108_0) | (show (Addr.add _ _).block ≠ _; rw [add_block]; exact hn108_0) | exact hn108_0) (.int .i64 ((rd_T86 l0_1 x31_2).f0))).trans hx108_1; replace hx108_2 := (cell_far (p := ⟨gb107, 0, none⟩) (by first | (rw [add_block]; exact hn108_0) | (show (Addr.add _ _).block ≠ _; rw [add_block]; exact hn108_0) | exact hn108_0) (.int .i64 ((rd_T86 l0_1 x31_2).f0))).trans hx108_2; replace hx108_0 := (cell_far (p := ⟨gb107, 1, none⟩) (by first | (rw [add_block]; exact hn108_1) | (show (Addr.add _ _).block ≠ _; rw [add_block]; exact hn108_1) | exact hn108_1) (.int .i64 ((rd_T86 l0_1 x31_2).f1))).trans hx108_0; replace hx108_1 := (cell_far (p := ⟨gb107, 1, none⟩) (by first | (rw [add_block]; exact hn108_1) | (show (Addr.add _ _).block ≠ _; rw [add_block]; exact hn108_1) | exact hn108_1) (.int .i64 ((rd_T86 l0_1 x31_2).f1))).trans hx108_1; replace hx108_2 := (cell_far (p := ⟨gb107, 1, none⟩) (by first | (rw [add_block]; exact hn108_1) | (show (Addr.add _ _).block ≠ _; rw [add_block]; exact hn108_1) | exact hn108_1) (.int .i64 ((rd_T86 l0_1 x31_2).f1))).trans hx108_2; replace hx108_0 := (cell_far (p := ⟨gb107, 2, none⟩) (by first | (rw [add_block]; exact hn108_2) | (show (Addr.add _ _).block ≠ _; rw [add_block]; exact hn108_2) | exact hn108_2) (.int .i64 ((rd_T86 l0_1 x31_2).f2))).trans hx108_0; replace hx108_1 := (cell_far (p := ⟨gb107, 2, none⟩) (by first | (rw [add_block]; exact hn108_2) | (show (Addr.add _ _).block ≠ _; rw [add_block]; exact hn108_2) | exact hn108_2) (.int .i64 ((rd_T86 l0_1 x31_2).f2))).trans hx108_1; replace hx108_2 := (cell_far (p := ⟨gb107, 2, none⟩) (by first | (rw [add_block]; exact hn108_2) | (show (Addr.add _ _).block ≠ _; rw [add_block]; exact hn108_2) | exact hn108_2) (.int .i64 ((rd_T86 l0_1 x31_2).f2))).trans hx108_2; (try have hy108_0 := fun (n_ : Nat) => (show (((((w31.drewN n_).setCell ⟨gb107, 0, none⟩ (.int .i64 ((rd_T86 l0_1 x31_2).f0))).setCell ⟨gb107, 1, none⟩ (.int .i64 ((rd_T86 l0_1 x31_2).f1))).setCell ⟨gb107, 2, none⟩ (.int .i64 ((rd_T86 l0_1 x31_2).f2)))).cell? _ = some _ from hx108_0)); (try have hy108_1 := fun (n_ : Nat) => (show (((((w31.drewN n_).setCell ⟨gb107, 0, none⟩ (.int .i64 ((rd_T86 l0_1 x31_2).f0))).setCell ⟨gb107, 1, none⟩ (.int .i64 ((rd_T86 l0_1 x31_2).f1))).setCell ⟨gb107, 2, none⟩ (.int .i64 ((rd_T86 l0_1 x31_2).f2)))).cell? _ = some _ from hx108_1)); (try have hy108_2 := fun (n_ : Nat) => (show (((((w31.drewN n_).setCell ⟨gb107, 0, none⟩ (.int .i64 ((rd_T86 l0_1 x31_2).f0))).setCell ⟨gb107, 1, none⟩ (.int .i64 ((rd_T86 l0_1 x31_2).f1))).setCell ⟨gb107, 2, none⟩ (.int .i64 ((rd_T86 l0_1 x31_2).f2)))).cell? _ = some _ from hx108_2)); clear hn108_0; clear hn108_1; clear hn108_2; replace p108 := eq_true p108; replace q108 := eq_true q108)))
   go_roundg k2
   case measure => have := HJ2.1; have := HK2.1; omega
   case rel => exact ⟨(wrap64 (x31_2 + 1)), RG, H', ⟨by have := HJ2.1; have := HK2.1; omega⟩, ⟨by (with_reducible repeat (first | refine blk_drewN ?_ _ | refine blk_drew ?_ | refine blk_alloc ?_ _)); refine blk_far ?_ NB104_107.1 _; (with_reducible repeat (first | refine blk_drewN ?_ _ | refine blk_drew ?_ | refine blk_alloc ?_ _)); refine blk_far ?_ NB104_107.1 _; (with_reducible repeat (first | refine blk_drewN ?_ _ | refine blk_drew ?_ | refine blk_alloc ?_ _)); refine blk_far ?_ NB104_107.1 _; (with_reducible repeat (first | refine blk_drewN ?_ _ | refine blk_drew ?_ | refine blk_alloc ?_ _)); exact BK104.1⟩, ⟨by (with_reducible repeat (first | refine blk_drewN ?_ _ | refine blk_drew ?_ | refine blk_alloc ?_ _)); refine blk_far ?_ NB105_107.1 _; (with_reducible repeat (first | refine blk_drewN ?_ _ | refine blk_drew ?_ | refine blk_alloc ?_ _)); refine blk_far ?_ NB105_107.1 _; (with_reducible repeat (first | refine blk_drewN ?_ _ | refine blk_drew ?_ | refine blk_alloc ?_ _)); refine blk_far ?_ NB105_107.1 _; (with_reducible repeat (first | refine blk_drewN ?_ _ | refine blk_drew ?_ | refine blk_alloc ?_ _)); exact BK105.1⟩, ⟨BL HB.1⟩⟩
 obtain rfl := Option.some.inj H
 go_wp2
 repeat (go_quiet (fail); try go_wp2)
 go_ret
 exact ⟨RF, BL HB.1⟩
-- NOT PRINTED: function 88 (spec_ddBuild_node)

-- NOT PRINTED: function 75 (spec_ddBuild_build)

/-! ### spec_ddMake: function 65 -/
open Kd
attribute [local go_sem] max2_int min2_int max_two min_two max_three min_three max_four min_four
theorem deqA63 (d : Nat) (w : World) (x0 y0 : Int) (x1 y1 : Int) (x2 y2 : Int) :
 (Op.equalIn (d + 2) 86 (.agg #[.int .i64 x0, .int .i64 x1, .int .i64 x2]) (.agg #[.int .i64 y0, .int .i64 y1, .int .i64 y2])).run Tryd.prog w = .ok (x0 == y0 && (x1 == y1 && (x2 == y2))) w := by
 refine eqA_of Tryd.underlying86 (by kernel_rfl) ?_
 refine eqf_cons (by rfl) (by go_simp; rfl) (by go_simp; rfl) (by go_simp) ?_
 refine eqf_cons (by rfl) (by go_simp; rfl) (by go_simp; rfl) (by go_simp) ?_
 exact eqf_last (by rfl) (by go_simp; rfl) (by go_simp; rfl) (by go_simp)
attribute [local go_sem high] deqA63
deriving instance DecidableEq for S86
/-- The place of the first equal node. -/
def dplace (x : S86) : List S86 -> Nat
 | [] => 0
 | y :: t => if x = y then 0 else dplace x t + 1
theorem dplace_skip {x : S86} : ∀ (ns : List S86) (i : Nat), i <= ns.length -> (∀ j, j < i -> ns[j]? ≠ some x) -> dplace x ns = i + dplace x (ns.drop i) /\ (x ∈ ns ↔ x ∈ ns.drop i)
 | ns, 0, _, _ => by simp
 | [], i + 1, h, _ => by simp at h
 | y :: t, i + 1, h, hn => by
  have h0 : x ≠ y := fun e => hn 0 (by omega) (by rw [e]; rfl)
  obtain ⟨q1, q2⟩ := dplace_skip t i (by simpa using h) (fun j hj => by simpa using hn (j + 1) (by omega))
  refine ⟨?_, by simp only [List.drop_succ_cons, List.mem_cons, h0, false_or, q2]⟩
  simp only [dplace, List.drop_succ_cons]
  rw [if_neg h0, q1]
  omega
/-- The reference's node: the one that is there, or a new one. -/
def dnode (ns : List S86) (x : S86) : List S86 × Int :=
 if x.f1 = x.f2 then (ns, x.f1) else if x ∈ ns then (ns, 2 + (dplace x ns : Int)) else (ns ++ [x], 2 + (ns.length : Int))
/-- A builder's nodes: block p holds the row. -/
def DSt (base p : Nat) (ns : List S86) (w : World) : Prop := ∃ v, w.heap[p]? = some (.cells #[v] 114 (0, 0)) /\ Kd.R k86 86 w base (fun _ => True) v ns
/-- What stays: the blocks of all other types. -/
def Stay (w w' : World) : Prop := w.heap.size <= w'.heap.size /\ ∀ (k : Nat) (cs : Array Value) (t : TypeId), w.heap[k]? = some (.cells cs t (0, 0)) -> t ≠ 114 -> t ≠ 86 -> w'.heap[k]? = some (.cells cs t (0, 0))
theorem Stay.of_below {w w' : World} (h : Below w.heap.size w w') : Stay w w' := ⟨below_size h, fun k cs t hk _ _ => blk_below hk h⟩
theorem Stay.trans {w w1 w2 : World} (h : Stay w w1) (h' : Stay w1 w2) : Stay w w2 := ⟨Nat.le_trans h.1 h'.1, fun k cs t hk a b => h'.2 k cs t (h.2 k cs t hk a b) a b⟩
theorem DSt.below {base p : Nat} {ns : List S86} {w w' : World} (h : DSt base p ns w) (hb : Below w.heap.size w w') : DSt base p ns w' := by
 obtain ⟨v, h1, h2⟩ := h
 exact ⟨v, blk_below h1 hb, R_below h2 hb⟩
theorem below_down {b b' : Nat} {w w' : World} (h : Below b w w') (hb : b' <= b) : Below b' w w' := h.mono hb
theorem dinfo86 : (Tryd.prog.info? 86).map (fun i => (i.zero, i.size, i.bytes)) = some (some (.agg #[.int .i64 0, .int .i64 0, .int .i64 0]), 3, 24) := by kernel_rfl
theorem cell_alloc_lt {w : World} {g j : Nat} {u : Value} {o : Obj} (h : w.cell? ⟨g, j, none⟩ = some u) (hg : g < w.heap.size) : (w.alloc o).cell? ⟨g, j, none⟩ = some u := ((Below.refl w.heap.size w).alloc (Nat.le_refl _) o |>.cell (p := ⟨g, j, none⟩) hg).trans h
theorem ddnode_same (p : Nat) (x : S86) (w : World) (hx : x.f1 = x.f2) :
 Calls Tryd.prog 88 #[.pointer (some ⟨p, 0, none⟩), .agg #[.int .i64 x.f0, .int .i64 x.f1, .int .i64 x.f2]] w fun e w' => e = .returned (.int .i64 x.f1) /\ Below w.heap.size w w' := by
 have hu86 := Tryd.underlying86
 have HB := Aside0.mk (Below.refl w.heap.size w)
 have c0 : (x.f1 == x.f2) = true := beq_iff_eq.mpr hx
 go_enter Tryd.func88, Tryd.ntmps88
 go_wp2_with (first | ((with_reducible refine gate_dst (N := 3) rfl ?_); refine boxE (cs := #[.int .i64 x.f0, .int .i64 x.f1, .int .i64 x.f2]) (t := 86) ?_; intro gb103 hg w4 hbox hb; refine E4b HB.1 hg hbox hb ?_; clear HB; intro HB BK103 GW103 GE103; clear hb hbox hg; obtain ⟨hcz5_0, hcz5_1, hcz5_2, hfz5_0, hfz5_1, hfz5_2⟩ := cz3 BK103.1))
 go_ret
 exact ⟨RF, BL HB.1⟩
theorem at_eq {ns : List S86} {x : S86} {i : Nat} (h : i < ns.length) : (x.f0 == (rd_T86 ns (i : Int)).f0 && (x.f1 == (rd_T86 ns (i : Int)).f1 && x.f2 == (rd_T86 ns (i : Int)).f2)) = decide (ns[i]? = some x) := by
 have e : rd_T86 ns (i : Int) = ns[i] := by simp [rd_T86, List.getD, h]
 rw [e, List.getElem?_eq_getElem h, Bool.eq_iff_iff]
 obtain ⟨a, b, c⟩ := x
 generalize ns[i] = y
 obtain ⟨a', b', c'⟩ := y
 simp
 constructor
 · rintro ⟨rfl, rfl, rfl⟩; exact ⟨rfl, rfl, rfl⟩
 · rintro ⟨rfl, rfl, rfl⟩; exact ⟨rfl, rfl, rfl⟩
theorem ddnode_calls (base p : Nat) (ns : List S86) (x0 x1 x2 : Int) (w : World) (h : DSt base p ns w) (hl : ns.length <= 1000) (hp : base <= p) (hbw : base <= w.heap.size) :
 Calls Tryd.prog 88 #[.pointer (some ⟨p, 0, none⟩), .agg #[.int .i64 x0, .int .i64 x1, .int .i64 x2]] w fun e w' => e = .returned (.int .i64 (dnode ns ⟨x0, x1, x2⟩).2) /\ DSt base p (dnode ns ⟨x0, x1, x2⟩).1 w' /\ Stay w w' /\ Below base w w' := by
 by_cases hx : x1 = x2
 · refine (ddnode_same p ⟨x0, x1, x2⟩ w hx).mono ?_
   rintro e w' ⟨rfl, hb⟩
   rw [show dnode ns ⟨x0, x1, x2⟩ = (ns, x1) from if_pos hx]
   exact ⟨rfl, h.below hb, Stay.of_below hb, hb.mono hbw⟩
 have hu86 := Tryd.underlying86
 have hu114 := Tryd.underlying114
 obtain ⟨v, hv, hR⟩ := h
 obtain ⟨A, c, ev, hc0, hC⟩ := R_reads hR
 subst ev
 have HC := Aside0.mk hC
 have HR := Aside0.mk hR
 have HV := Aside0.mk hv
 clear hC hR
 have HB := Aside0.mk (Below.refl w.heap.size w)
 have hcp : w.cell? ⟨p, 0, none⟩ = some (.slice A ns.length c) := (blk_cell hv 0).trans rfl
 have hfp := blk_frozen hv 0
 have hpl : p < w.heap.size := blk_lt hv
 clear hv
 have c0 : (x1 == x2) = false := beq_eq_false_iff_ne.mpr hx
 go_enter Tryd.func88, Tryd.ntmps88
 go_wp2_with (first | ((with_reducible refine gate_dst (N := 3) rfl ?_); refine boxE (cs := #[.int .i64 x0, .int .i64 x1, .int .i64 x2]) (t := 86) ?_; intro gb103 hg w4 hbox hb; refine E4b HB.1 hg hbox hb ?_; clear HB; intro HB BK103 GW103 GE103; clear hbox hg; obtain ⟨hcz5_0, hcz5_1, hcz5_2, hfz5_0, hfz5_1, hfz5_2⟩ := cz3 BK103.1; replace hcp := (hb.cell (p := ⟨p, 0, none⟩) hpl).trans hcp; clear hb))
 go_loopg [19] (ns.length + 1) (fun kq v19 w' => ∃ (x19 : Int) (i : Nat), v19 = .int .i64 x19 /\ Aside0 (x19 = (i : Int)) /\ Aside0 (kq + i = ns.length + 1) /\ Aside0 (i <= ns.length) /\ Aside0 (∀ j, j < i -> ns[j]? ≠ some ⟨x0, x1, x2⟩) /\ Aside0 (w'.heap[gb103]? = some (.cells #[.int .i64 x0, .int .i64 x1, .int .i64 x2] 86 (0, 0))) /\ Aside0 (Below w.heap.size w w'))
 case atStart => exact ⟨0, 0, rfl, ⟨rfl⟩, ⟨rfl⟩, ⟨Nat.zero_le _⟩, ⟨fun j h => by omega⟩, ⟨PB BK103.1⟩, ⟨BL HB.1⟩⟩
 clear hcz5_0 hcz5_1 hcz5_2 hfz5_0 hfz5_1 hfz5_2 hcp
 obtain ⟨x19, i, rfl, HI, HK, HL, HN, BK103, HB⟩ := hrel
 have hin : i <= ns.length := HL.1
 cases gk with
 | zero => have := HK.1; omega
 | succ k1 => ?_
 by_cases hi : i < ns.length
 · have c8 : decide (x19 < (ns.length : Int)) = true := decide_eq_true (by have := HI.1; omega)
   have c8b : decide (0 <= x19) = true := decide_eq_true (by have := HI.1; omega)
   have p104 : 0 <= (x19 : Int) := OD
   have q104 : x19 < (ns.length : Int) := OD
   obtain ⟨ad104, e104, hx104_0, hx104_1, hx104_2⟩ := at_T86 HC.1 x19 p104 q104
   cases e104
   replace hx104_0 := (HB.1.cell (World.block_lt_of_cell? w _ hx104_0)).trans hx104_0
   replace hx104_1 := (HB.1.cell (World.block_lt_of_cell? w _ hx104_1)).trans hx104_1
   replace hx104_2 := (HB.1.cell (World.block_lt_of_cell? w _ hx104_2)).trans hx104_2
   replace p104 := eq_true p104
   replace q104 := eq_true q104
   have he0 := at_eq (x := ⟨x0, x1, x2⟩) hi
   rw [<- HI.1] at he0
   by_cases he : ns[i]? = some ⟨x0, x1, x2⟩
   · have c11 : (x0 == (rd_T86 ns x19).f0 && (x1 == (rd_T86 ns x19).f1 && (x2 == (rd_T86 ns x19).f2))) = true := he0.trans (decide_eq_true he)
     have c11b : decide (x0 = (rd_T86 ns x19).f0 && (x1 == (rd_T86 ns x19).f1 && (x2 == (rd_T86 ns x19).f2))) = true := by simpa using c11
     clear he0
     go_wp2_with (first | ((with_reducible refine gate_dst (N := 6) rfl ?_); refine boxE (cs := #[.int .i64 0, .int .i64 0, .int .i64 0]) (t := 86) ?_; intro gb105 hg w12 hbox hb; refine E7 (bB BK103.1 hb) (bS HB.1 hb) (hbox) (gX HB.1 hg) (gX HB.1 hg) (nB BK103.1 hg) (nC BK103.1 hg) ?_; clear BK103 HB; intro BK103 HB BK105 GW105 GE105 NB103_105 NB105_103; clear hb hbox hg; have hnb13 := NB105_103.1; have hnc13 := NB103_105.1; obtain ⟨hcz14_0, hcz14_1, hcz14_2, hfz14_0, hfz14_1, hfz14_2⟩ := cz3 BK105.1; obtain ⟨hcz15_0, hcz15_1, hcz15_2, hfz15_0, hfz15_1, hfz15_2⟩ := cz3 BK103.1))
     go_ret
     obtain ⟨q1, q2⟩ := dplace_skip ns i hin HN.1
     have hd : ns.drop i = ns[i] :: ns.drop (i + 1) := List.drop_eq_getElem_cons hi
     have hxi : ns[i] = ⟨x0, x1, x2⟩ := by rw [List.getElem?_eq_getElem hi] at he; exact Option.some.inj he
     rw [hd, hxi] at q1 q2
     simp only [dplace, if_true, Nat.add_zero] at q1
     have hm : (⟨x0, x1, x2⟩ : S86) ∈ ns := q2.2 List.mem_cons_self
     rw [show dnode ns ⟨x0, x1, x2⟩ = (ns, 2 + (dplace ⟨x0, x1, x2⟩ ns : Int)) from (if_neg hx).trans (if_pos hm), q1]
     have ew : wrap64 (2 + x19) = 2 + (i : Int) := by
      have := HI.1
      unfold wrap64; omega
     refine ⟨?_, (fun hB2 => ⟨⟨_, blk_below HV.1 hB2, R_below HR.1 hB2⟩, Stay.of_below hB2, hB2.mono hbw⟩) (BL HB.1)⟩
     show Ending.returned (.int .i64 (wrap64 (2 + x19))) = .returned (.int .i64 (2 + (i : Int)))
     rw [ew]
   · have c11 : (x0 == (rd_T86 ns x19).f0 && (x1 == (rd_T86 ns x19).f1 && (x2 == (rd_T86 ns x19).f2))) = false := he0.trans (decide_eq_false he)
     have c11b : decide (x0 = (rd_T86 ns x19).f0 && (x1 == (rd_T86 ns x19).f1 && (x2 == (rd_T86 ns x19).f2))) = false := by simpa using c11
     have c11c : ¬ (x0 = (rd_T86 ns x19).f0 && (x1 == (rd_T86 ns x19).f1 && (x2 == (rd_T86 ns x19).f2))) := by simpa using c11
     clear he0
     go_wp2_with (first | ((with_reducible refine gate_dst (N := 6) rfl ?_); refine boxE (cs := #[.int .i64 0, .int .i64 0, .int .i64 0]) (t := 86) ?_; intro gb105 hg w16 hbox hb; refine E7 (bB BK103.1 hb) (bS HB.1 hb) (hbox) (gX HB.1 hg) (gX HB.1 hg) (nB BK103.1 hg) (nC BK103.1 hg) ?_; clear BK103 HB; intro BK103 HB BK105 GW105 GE105 NB103_105 NB105_103; clear hb hbox hg; have hnb17 := NB105_103.1; have hnc17 := NB103_105.1; obtain ⟨hcz18_0, hcz18_1, hcz18_2, hfz18_0, hfz18_1, hfz18_2⟩ := cz3 BK105.1; obtain ⟨hcz19_0, hcz19_1, hcz19_2, hfz19_0, hfz19_1, hfz19_2⟩ := cz3 BK103.1))
     go_roundg k1
     case measure => exact Nat.lt_succ_self _
     case rel =>
      refine ⟨(wrap64 (x19 + 1)), i + 1, RG, ⟨?_⟩, ⟨by have := HK.1; omega⟩, ⟨by omega⟩, ⟨fun j hj => ?_⟩, ⟨PF1 NB103_105.1 BK103.1⟩, ⟨BL HB.1⟩⟩
      · have := HI.1
        unfold wrap64; omega
      · by_cases e : j = i
        · rw [e]; exact he
        · exact HN.1 j (by omega)
 · have c8 : decide (x19 < (ns.length : Int)) = false := decide_eq_false (by have := HI.1; omega)
   have hcp : wr.cell? ⟨p, 0, none⟩ = some (.slice A ns.length c) := (HB.1.cell (p := ⟨p, 0, none⟩) hpl).trans ((blk_cell HV.1 0).trans rfl)
   obtain ⟨hcz19_0, hcz19_1, hcz19_2, hfz19_0, hfz19_1, hfz19_2⟩ := cz3 BK103.1
   have HRr := Aside0.mk (R_below HR.1 HB.1)
   have hnp : gb103 ≠ p := fun e => by have := GW103.1; omega
   go_wp2_with fail
   refine start_ (n := 11) (S := fun w' => w'.cell? ⟨p, 0, none⟩ = some (.slice A ns.length c) /\ w'.cell? ⟨gb103, 0, none⟩ = some (.int .i64 x0) /\ w'.cell? ⟨gb103, 1, none⟩ = some (.int .i64 x1) /\ w'.cell? ⟨gb103, 2, none⟩ = some (.int .i64 x2)) (ds := [7, 10]) #[Zz,Zz,Zz,Zz,Zz,Zz,Zz,Zz,Zz,Zz,Zz] (by kernel_rfl) rfl rfl ⟨hcp, hcz19_0, hcz19_1, hcz19_2⟩ (fun hHeld => ?_)
   have hBr : Below w.heap.size w wr.drew := below_drew1 HB.1
   have hRr : Kd.R k86 86 wr.drew base (fun _ => True) (.slice A ns.length c) ns := R_drew HRr.1
   have hVr : wr.drew.heap[p]? = some (.cells #[.slice A ns.length c] 114 (0, 0)) := blk_drew (blk_below HV.1 HB.1)
   have hgl : gb103 < wr.drew.heap.size := blk_lt (blk_drew BK103.1)
   clear hcp hcz19_0 hcz19_1 hcz19_2 hfz19_0 hfz19_1 hfz19_2
   generalize wr.drew = w22 at hHeld hBr hRr hVr hgl ⊢
   obtain ⟨hcp, hcz19_0, hcz19_1, hcz19_2⟩ := hHeld
   have hHeld := (⟨hcp, hcz19_0, hcz19_1, hcz19_2⟩ : _ /\ _ /\ _ /\ _)
   refine pureF 0 (N := some 30) rfl ?_
   refine pureF 1 (N := some 31) rfl ?_
   refine pureF 2 (N := some 32) rfl ?_
   refine pureF 3 (N := some 33) rfl ?_
   refine takeF 4 (N := some 34) hHeld ?_
   refine takeF 5 (N := some 35) hHeld ?_
   refine one_ (i := 6) (N := some 36) #[Yy,Yy,Yy,Yy,Yy,Yy,Yy,Zz,Zz,Zz,Zz] rfl rfl (by kernel_rfl) (by decide) (fun K hK => ?_)
   refine value_ (w1 := ?_) (v := ?_) (by rfl) rfl ?_ ?_
   rotate_left 2
   · go_simp
     constructor
     · rfl
     rfl
   refine hK.out _ _ ⟨(cell_alloc_lt hcp (blk_lt hVr)), (cell_alloc_lt hcz19_0 hgl), (cell_alloc_lt hcz19_1 hgl), (cell_alloc_lt hcz19_2 hgl)⟩ (fun hHeld => ?_)
   clear hK K
   refine norm_ (a' := ?_) ?_ ?_
   rotate_left
   · show Act.put _ (some 36) _ = _
     simp only [Act.put, List.setIfInBounds_toArray, List.set_cons_zero, List.set_cons_succ, i64_w, i32_w]
     rfl
   refine last_ (i := 7) (N := some 37) #[Yy,Yy,Yy,Yy,Yy,Yy,Yy,Yy,Zz,Zz,Zz] rfl rfl (by kernel_rfl) (by decide) (fun K hK => ?_)
   refine R_append_step k86 (w0 := w) base (by rfl) (.tmp 34) (.tmp 36) 48 86 (.agg #[.int .i64 0, .int .i64 0, .int .i64 0]) 24 rfl Tryd.underlying48 dinfo86 rfl (by decide) (by omega) (.slice A ns.length c) ns ⟨x0, x1, x2⟩ [.int .i64 x0, .int .i64 x1, .int .i64 x2] (fun _ => True) (fun _ => False) rfl rfl (k86_mkM _ _ _ ⟨x0, x1, x2⟩) (fun _ hk => hk.elim) (fun _ _ => trivial) hRr (hBr.mono hbw) (Nat.le_trans hbw hBr.size) (by omega) ?_
   intro v1 w24 ho hb hg hat
   obtain ⟨A1, cc1, ev1⟩ := R_slice ho
   subst ev1
   refine hK.out _ _ ?_
   clear hK K
   refine norm_ (a' := ?_) ?_ ?_
   rotate_left
   · show Act.put _ (some 37) _ = _
     simp only [Act.put, List.setIfInBounds_toArray, List.set_cons_zero, List.set_cons_succ, i64_w, i32_w]
     rfl
   have hV24 := blk_grown hVr hg (R_ne hRr hVr (by decide))
   have hcp : w24.cell? ⟨p, 0, none⟩ = some (.slice A ns.length c) := (blk_cell hV24 0).trans rfl
   have hfp2 := blk_frozen hV24 0
   refine pureF 8 (N := some 38) rfl ?_
   refine pureF 9 (N := some 39) rfl ?_
   refine last_ (i := 10) (N := none) #[Yy,Yy,Yy,Yy,Yy,Yy,Yy,Yy,Yy,Yy,Yy] rfl rfl (by kernel_rfl) (by decide) (fun K hK => ?_)
   refine skip_ (w1 := w24.setCell ⟨p, 0, none⟩ (.slice A1 (ns ++ [(⟨x0, x1, x2⟩ : S86)]).length cc1)) (by rfl) rfl ?_ ?_
   · go_simp
   refine hK.out _ _ ?_
   clear hK K
   refine done_ (by kernel_rfl) ?_
   have hV25 : (w24.setCell ⟨p, 0, none⟩ (.slice A1 (ns ++ [(⟨x0, x1, x2⟩ : S86)]).length cc1)).heap[p]? = some (.cells #[.slice A1 (ns ++ [(⟨x0, x1, x2⟩ : S86)]).length cc1] 114 (0, 0)) := (blk_put hV24 0 _ rfl).trans rfl
   have hR25 := R_set ho hV24 (by decide) 0 (.slice A1 (ns ++ [(⟨x0, x1, x2⟩ : S86)]).length cc1)
   have hB25 := hb.setCell (p := ⟨p, 0, none⟩) hp (.slice A1 (ns ++ [(⟨x0, x1, x2⟩ : S86)]).length cc1)
   have hS25 : Stay w (w24.setCell ⟨p, 0, none⟩ (.slice A1 (ns ++ [(⟨x0, x1, x2⟩ : S86)]).length cc1)) := by
    refine ⟨by have := hb.size; have := hBr.size; have := hg.size; simp [World.setCell]; omega, fun k cs t hk h93 h63 => ?_⟩
    have h1 := blk_below hk hBr
    refine blk_far (blk_grown h1 hg (R_ne hRr h1 (Ne.symm h63))) (fun e => ?_) _
    subst e
    rw [hVr] at h1
    cases h1
    exact h93 rfl
   have hcp25 := (blk_cell hV25 0).trans rfl
   generalize w24.setCell ⟨p, 0, none⟩ (.slice A1 (ns ++ [(⟨x0, x1, x2⟩ : S86)]).length cc1) = w25 at hV25 hR25 hB25 hS25 hcp25 ⊢
   go_wp2
   go_ret
   obtain ⟨q1, q2⟩ := dplace_skip ns i hin HN.1
   have hm : (⟨x0, x1, x2⟩ : S86) ∉ ns := fun h => by
    have := q2.1 h
    rw [List.drop_of_length_le (by omega)] at this
    simp at this
   rw [show dnode ns ⟨x0, x1, x2⟩ = (ns ++ [⟨x0, x1, x2⟩], 2 + (ns.length : Int)) from (if_neg hx).trans (if_neg hm)]
   refine ⟨?_, ⟨_, hV25, hR25⟩, hS25, hB25⟩
   show Ending.returned (.int .i64 (1 + ((ns.length : Int) + 1))) = .returned (.int .i64 (2 + (ns.length : Int)))
   rw [show 1 + ((ns.length : Int) + 1) = 2 + (ns.length : Int) by omega]
/-- The nodes and the reference for a table's values from an input on. -/
def dbld (vs : List Int) : Nat -> Nat -> Nat -> List S86 -> List S86 × Int
 | 0, _, f, ns => (ns, rd vs (f : Int))
 | d + 1, i, f, ns => dnode (dbld vs d (i + 1) (f + 2 ^ i) (dbld vs d (i + 1) f ns).1).1 ⟨(i : Int), (dbld vs d (i + 1) f ns).2, (dbld vs d (i + 1) (f + 2 ^ i) (dbld vs d (i + 1) f ns).1).2⟩
theorem dnode_len (ns : List S86) (x : S86) : (dnode ns x).1.length <= ns.length + 1 := by
 unfold dnode
 split
 · simp
 · split <;> simp
theorem dbld_len (vs : List Int) : ∀ (d i f : Nat) (ns : List S86), (dbld vs d i f ns).1.length + 1 <= ns.length + 2 ^ d
 | 0, _, _, _ => by simp [dbld]
 | d + 1, i, f, ns => by
  have h1 := dbld_len vs d (i + 1) f ns
  have h2 := dbld_len vs d (i + 1) (f + 2 ^ i) (dbld vs d (i + 1) f ns).1
  have h3 := dnode_len (dbld vs d (i + 1) (f + 2 ^ i) (dbld vs d (i + 1) f ns).1).1 ⟨(i : Int), (dbld vs d (i + 1) f ns).2, (dbld vs d (i + 1) (f + 2 ^ i) (dbld vs d (i + 1) f ns).1).2⟩
  simp only [dbld]
  rw [Nat.pow_succ]
  omega
theorem pow_le16 {i : Nat} (h : i <= 4) : (2 : Nat) ^ i <= 16 := Nat.le_trans (Nat.pow_le_pow_right (by decide) h) (by decide)
theorem u64_small {x : Int} (h0 : 0 <= x) (h1 : x <= 100) : IntKind.u64.wrap x = x := by
 unfold IntKind.wrap
 simp [IntKind.bits, IntKind.signed]
 omega
theorem wrap_small {x : Int} (h0 : 0 <= x) (h1 : x <= 1000000) : wrap64 x = x := by unfold wrap64; omega
theorem ddbuild_calls (W0 : World) (p n : Nat) (A : Option Addr) (c : Nat) (vs : List Int) (hC : Kd.C (Kd.int .i64) W0 A vs.length vs) (hn : n <= 4) (hvs : vs.length = 2 ^ n) (hp : W0.heap.size <= p) : ∀ (d i f : Nat) (xi xf xn : Int) (ns : List S86) (w : World), i + d = n -> f < 2 ^ i -> xi = (i : Int) -> xf = (f : Int) -> xn = (n : Int) -> ns.length + 2 ^ d <= 1000 -> Below W0.heap.size W0 w -> DSt W0.heap.size p ns w ->
 Calls Tryd.prog 75 #[.pointer (some ⟨p, 0, none⟩), .agg #[.int .i64 xn, .slice A vs.length c], .int .i64 xi, .int .i64 xf] w fun e w' => e = .returned (.int .i64 (dbld vs d i f ns).2) /\ DSt W0.heap.size p (dbld vs d i f ns).1 w' /\ Stay w w' /\ Below W0.heap.size W0 w' := by
 intro d
 have hu28 := Tryd.underlying28
 have hu86 := Tryd.underlying86
 have HC := Aside0.mk hC
 have HVS := Aside0.mk hvs
 clear hC hvs
 induction d with
 | zero =>
  intro i f xi xf xn ns w hi hf hxi hxf hxn hl hB hD
  have HB := Aside0.mk (Below.refl w.heap.size w)
  have HB0 := Aside0.mk hB
  have HD := Aside0.mk hD
  clear hB hD
  have c0 : (xi == xn) = true := beq_iff_eq.mpr (by omega)
  have hin : i = n := by omega
  have p104 : 0 <= (xf : Int) := by omega
  have q104 : xf < (vs.length : Int) := by rw [HVS.1, <- hin]; omega
  have HF := Aside0.mk hxf
  clear hxi hxf hxn hi hin hf
  obtain ⟨ad104, e104, hx104_0⟩ := Kd.at_int HC.1 xf p104 q104
  cases e104
  replace hx104_0 := (HB0.1.cell (World.block_lt_of_cell? W0 _ hx104_0)).trans hx104_0
  have hlt104 := World.block_lt_of_cell? w _ hx104_0
  replace p104 := eq_true p104
  replace q104 := eq_true q104
  go_enter Tryd.func75, Tryd.ntmps75
  go_wp2_with (first | ((with_reducible refine gate_dst (N := 5) rfl ?_); refine boxE (cs := #[.int .i64 xn, .slice (some ad104) vs.length c]) (t := 28) ?_; intro gb103 hg w4 hbox hb; refine E4b HB.1 hg hbox hb ?_; clear HB; intro HB BK103 GW103 GE103; clear hbox hg; obtain ⟨hcz5_0, hcz5_1, hfz5_0, hfz5_1⟩ := cz2 BK103.1; replace hx104_0 := (hb.cell hlt104).trans hx104_0; clear hb))
  go_ret
  refine ⟨?_, (fun hB2 => ⟨HD.1.below hB2, Stay.of_below hB2, HB0.1.trans (hB2.mono HB0.1.size)⟩) (BL HB.1)⟩
  show Ending.returned (.int .i64 (rd vs xf)) = .returned (.int .i64 (rd vs (f : Int)))
  rw [HF.1]
 | succ d ih =>
  intro i f xi xf xn ns w hi hf hxi hxf hxn hl hB hD
  have hp2 : (2 : Nat) ^ (i + 1) = 2 ^ i + 2 ^ i := by rw [Nat.pow_succ]; omega
  have hpd : (2 : Nat) ^ (d + 1) = 2 ^ d + 2 ^ d := by rw [Nat.pow_succ]; omega
  have hi16 := pow_le16 (show i <= 4 by omega)
  have hpos := Nat.two_pow_pos d
  have e1 : wrap64 (xi + 1) = ((i + 1 : Nat) : Int) := by rw [wrap_small (by omega) (by omega)]; omega
  have e2 : wrap64 (xf + wrap64 (2 ^ min (IntKind.u64.wrap xi).toNat 64)) = ((f + 2 ^ i : Nat) : Int) := by
   rw [u64_small (by omega) (by omega), hxi, show min (i : Int).toNat 64 = i by omega, show (2 : Int) ^ i = ((2 ^ i : Nat) : Int) by simp, hxf]
   have hz := hi16
   generalize (2 : Nat) ^ i = z at hf hz ⊢
   rw [wrap_small (x := (z : Int)) (by omega) (by omega), wrap_small (by omega) (by omega)]
   omega
  have hA := ih (i + 1) f (wrap64 (xi + 1)) xf xn ns
  have hB2 := ih (i + 1) (f + 2 ^ i) (wrap64 (xi + 1)) (wrap64 (xf + wrap64 (2 ^ min (IntKind.u64.wrap xi).toNat 64))) xn (dbld vs d (i + 1) f ns).1
  have l1 := dbld_len vs d (i + 1) f ns
  have l2 := dbld_len vs d (i + 1) (f + 2 ^ i) (dbld vs d (i + 1) f ns).1
  have hE : dbld vs (d + 1) i f ns = dnode (dbld vs d (i + 1) (f + 2 ^ i) (dbld vs d (i + 1) f ns).1).1 ⟨(i : Int), (dbld vs d (i + 1) f ns).2, (dbld vs d (i + 1) (f + 2 ^ i) (dbld vs d (i + 1) f ns).1).2⟩ := rfl
  rw [hE]
  clear hE
  generalize dbld vs d (i + 1) (f + 2 ^ i) (dbld vs d (i + 1) f ns).1 = R2 at *
  generalize dbld vs d (i + 1) f ns = R1 at *
  obtain ⟨n2, hi2⟩ := R2
  obtain ⟨n1, lo⟩ := R1
  simp only at *
  have hA1 : ∀ w, Below W0.heap.size W0 w -> DSt W0.heap.size p ns w -> _ := fun w => hA w (by omega) (by omega) e1 hxf hxn (by omega)
  have hA2 : ∀ w, Below W0.heap.size W0 w -> DSt W0.heap.size p n1 w -> _ := fun w => hB2 w (by omega) (by omega) e1 e2 hxn (by omega)
  have HA1 := Aside0.mk hA1
  have HA2 := Aside0.mk hA2
  have hl2 : n2.length <= 1000 := by omega
  have c0 : (xi == xn) = false := beq_eq_false_iff_ne.mpr (by omega)
  have cs : decide (0 <= IntKind.u64.wrap xi) = true := decide_eq_true (by rw [u64_small (by omega) (by omega)]; omega)
  have HXI := Aside0.mk hxi
  clear hA hB2 hA1 hA2 hpos l1 l2 hxi hxf hxn hi hf hl e1 e2 hp2 hpd hi16 ih
  rw [<- HXI.1]
  have HB0 := Aside0.mk hB
  have HD := Aside0.mk hD
  have HS := Aside0.mk (Stay.of_below (Below.refl w.heap.size w))
  clear hB hD
  go_enter Tryd.func75, Tryd.ntmps75
  go_wp2_with (first
   | ((with_reducible refine gate_dst (N := 5) rfl ?_); refine boxE (cs := #[.int .i64 xn, .slice A vs.length c]) (t := 28) ?_; intro gb103 hg w4 hbox hb; have n0_ := Aside0.mk (HB0.1.trans (hb.mono HB0.1.size)); have n1_ := Aside0.mk (HD.1.below hb); have n2_ := Aside0.mk (Stay.of_below hb); have BK103 := Aside0.mk hbox; clear HB0 HD HS; have HB0 := n0_; have HD := n1_; have HS := n2_; clear n0_ n1_ n2_ hbox hg hb; obtain ⟨hcz5_0, hcz5_1, hfz5_0, hfz5_1⟩ := cz2 BK103.1)
   | ((with_reducible refine gate_dst (N := 25) rfl ?_); refine goesM (N := some 25) #[.pointer (some ⟨p, 0, none⟩), .agg #[.int .i64 xn, .slice A vs.length c], .int .i64 (wrap64 (xi + 1)), .int .i64 xf] Tryd.func75 ?_; refine (HA1.1 _ HB0.1 HD.1).mono ?_; rintro e w6 ⟨rfl, hD6, hS6, hB6⟩; refine ⟨_, rfl, ?_⟩; refine E4 (hB6) (hD6) (HS.1.trans hS6) (hS6.2 _ _ _ BK103.1 (by decide) (by decide)) ?_; clear HB0 HD HS BK103 hcz5_0 hcz5_1 hfz5_0 hfz5_1 hD6 hS6 hB6; intro HB0 HD HS BK103; obtain ⟨hcz5_0, hcz5_1, hfz5_0, hfz5_1⟩ := cz2 BK103.1)
   | ((with_reducible refine gate_dst (N := 35) rfl ?_); refine goesM (N := some 35) #[.pointer (some ⟨p, 0, none⟩), .agg #[.int .i64 xn, .slice A vs.length c], .int .i64 (wrap64 (xi + 1)), .int .i64 (wrap64 (xf + wrap64 (2 ^ min (IntKind.u64.wrap xi).toNat 64)))] Tryd.func75 ?_; refine (HA2.1 _ HB0.1 HD.1).mono ?_; rintro e w6 ⟨rfl, hD6, hS6, hB6⟩; refine ⟨_, rfl, ?_⟩; refine E3 (hB6) (hD6) (HS.1.trans hS6) ?_; clear HB0 HD HS BK103 hcz5_0 hcz5_1 hfz5_0 hfz5_1 hD6 hS6 hB6; intro HB0 HD HS)
   | ((with_reducible refine gate_dst (N := 41) rfl ?_); refine goesM (N := some 41) #[.pointer (some ⟨p, 0, none⟩), .agg #[.int .i64 xi, .int .i64 lo, .int .i64 hi2]] Tryd.func88 ?_; refine (ddnode_calls W0.heap.size p n2 xi lo hi2 _ HD.1 hl2 hp HB0.1.size).mono ?_; rintro e w6 ⟨rfl, hD6, hS6, hB6⟩; refine ⟨_, rfl, ?_⟩; refine E3 (HB0.1.trans hB6) (hD6) (HS.1.trans hS6) ?_; clear HB0 HD HS hD6 hS6 hB6; intro HB0 HD HS))
  go_ret
  exact ⟨rfl, HD.1, HS.1, HB0.1⟩
def spec_ddMake.f (a0_0 : Int) (l0_1 : List Int) : Option (Int × List (S86) × Int) := if 0 <= a0_0 /\ a0_0 <= 4 /\ l0_1.length = 2 ^ a0_0.toNat then some (a0_0, (dbld l0_1 a0_0.toNat 0 0 []).1, (dbld l0_1 a0_0.toNat 0 0 []).2) else none
theorem ddmake_calls (n : Nat) (xn : Int) (A : Option Addr) (c : Nat) (vs : List Int) (w : World) (hC : Kd.C (Kd.int .i64) w A vs.length vs) (hxn : xn = (n : Int)) (hn : n <= 4) (hvs : vs.length = 2 ^ n) :
 Calls Tryd.prog 65 #[.agg #[.int .i64 xn, .slice A vs.length c]] w fun e w' => ∃ v1_ : Value, e = .returned (.agg #[.int .i64 xn, v1_, .int .i64 (dbld vs n 0 0 []).2]) /\ Kd.R k86 86 w' w.heap.size (fun _ => True) v1_ (dbld vs n 0 0 []).1 /\ Below w.heap.size w w' := by
 have hu28 := Tryd.underlying28
 have hu50 := Tryd.underlying50
 have hu114 := Tryd.underlying114
 have hB := fun p (hp : w.heap.size <= p) => ddbuild_calls w p n A c vs hC hn hvs hp n 0 0 0 0 xn [] 
 generalize dbld vs n 0 0 [] = R at *
 obtain ⟨ns, r⟩ := R
 simp only at *
 have hp16 := pow_le16 hn
 have hB1 := fun p (hp : w.heap.size <= p) w1 => hB p hp w1 (by omega) (by omega) rfl rfl hxn (by simp; omega)
 have HB1 := Aside0.mk hB1
 clear hB hB1 hxn hvs hn hp16 hC
 have HB := Aside0.mk (Below.refl w.heap.size w)
 go_enter Tryd.func65, Tryd.ntmps65
 go_wp2_with (first
  | ((with_reducible refine gate_dst (N := 1) rfl ?_); refine boxE (cs := #[.int .i64 xn, .slice A vs.length c]) (t := 28) ?_; intro gb1 hg w4 hbox hb; have n0_ := Aside0.mk (HB.1.trans (hb.mono HB.1.size)); have BK1 := Aside0.mk hbox; have GE1 := Aside0.mk (hg ▸ HB.1.size : w.heap.size <= gb1); clear HB; have HB := n0_; clear n0_ hbox hg hb; obtain ⟨hcz1_0, hcz1_1, hfz1_0, hfz1_1⟩ := cz2 BK1.1)
  | ((with_reducible refine gate_dst (N := 2) rfl ?_); refine boxE (cs := #[.int .i64 0, .slice none 0 0, .int .i64 0]) (t := 50) ?_; intro gb2 hg w5 hbox hb; have n0_ := Aside0.mk (HB.1.trans (hb.mono HB.1.size)); have n1_ := Aside0.mk (blk_below BK1.1 hb); have BK2 := Aside0.mk hbox; have GE2 := Aside0.mk (hg ▸ HB.1.size : w.heap.size <= gb2); have N12 := Aside0.mk (nB BK1.1 hg); clear HB BK1; have HB := n0_; have BK1 := n1_; clear n0_ n1_ hbox hg hb)
  | ((with_reducible refine gate_dst (N := 6) rfl ?_); refine boxE (cs := #[.slice none 0 0]) (t := 114) ?_; intro gb6 hg w6 hbox hb; have n0_ := Aside0.mk (HB.1.trans (hb.mono HB.1.size)); have n1_ := Aside0.mk (blk_below BK1.1 hb); have n2_ := Aside0.mk (blk_below BK2.1 hb); have BK6 := Aside0.mk hbox; have GE6 := Aside0.mk (hg ▸ HB.1.size : w.heap.size <= gb6); have N26 := Aside0.mk (nB BK2.1 hg); clear HB BK1 BK2; have HB := n0_; have BK1 := n1_; have BK2 := n2_; clear n0_ n1_ n2_ hbox hg hb; (try clear hcz1_0 hcz1_1 hfz1_0 hfz1_1); obtain ⟨hcz1_0, hcz1_1, hfz1_0, hfz1_1⟩ := cz2 BK1.1)
  | ((with_reducible refine gate_dst (N := 9) rfl ?_); refine goesM (N := some 9) #[.pointer (some ⟨gb6, 0, none⟩), .agg #[.int .i64 xn, .slice A vs.length c], .int .i64 0, .int .i64 0] Tryd.func75 ?_; refine (HB1.1 gb6 GE6.1 _ HB.1 ⟨_, BK6.1, R_nil _ _ _ _ _⟩).mono ?_; rintro e w7 ⟨rfl, hD6, hS6, hB6⟩; refine ⟨_, rfl, ?_⟩; refine E3 (hB6) (hS6.2 _ _ _ BK1.1 (by decide) (by decide)) (hS6.2 _ _ _ BK2.1 (by decide) (by decide)) ?_; clear HB BK1 BK2 BK6 hcz1_0 hcz1_1 hfz1_0 hfz1_1 hS6 hB6; intro HB BK1 BK2; obtain ⟨v, hv, hR⟩ := hD6; obtain ⟨A1, c1, ev⟩ := R_slice hR; subst ev; have HR := Aside0.mk hR; have BK6 := Aside0.mk hv; clear hv hR))
 obtain ⟨hcz1_0, hcz1_1, hfz1_0, hfz1_1⟩ := cz2 BK1.1
 have hcp : w7.cell? ⟨gb6, 0, none⟩ = some (.slice A1 ns.length c1) := (blk_cell BK6.1 0).trans rfl
 refine start_ (n := 9) (S := fun w' => w'.cell? ⟨gb1, 0, none⟩ = some (.int .i64 xn) /\ w'.cell? ⟨gb6, 0, none⟩ = some (.slice A1 ns.length c1)) (ds := [8]) #[Zz,Zz,Zz,Zz,Zz,Zz,Zz,Zz,Zz] (by kernel_rfl) rfl rfl ⟨hcz1_0, hcp⟩ (fun hHeld => ?_)
 refine E3 (below_drew1 HB.1) (R_drew HR.1) (blk_drew BK2.1) ?_
 clear HB HR BK1 BK2 BK6 hcz1_0 hcz1_1 hfz1_0 hfz1_1 hcp
 intro HB HR BK2
 generalize w7.drew = w8 at hHeld HB HR BK2 ⊢
 obtain ⟨hcz2_0, hcz2_1, hcz2_2, hfz2_0, hfz2_1, hfz2_2⟩ := cz3 BK2.1
 refine pureF 0 (N := some 10) rfl ?_
 refine pureF 2 (N := some 12) rfl ?_
 refine pureF 3 (N := some 13) rfl ?_
 refine pureF 4 (N := some 14) rfl ?_
 refine pureF 6 (N := some 16) rfl ?_
 refine takeF 1 (N := some 11) hHeld ?_
 refine takeF 5 (N := some 15) hHeld ?_
 refine pureF 7 (N := some 17) rfl ?_
 refine last_ (i := 8) (N := none) #[Yy,Yy,Yy,Yy,Yy,Yy,Yy,Yy,Yy] rfl rfl (by kernel_rfl) (by decide) (fun K hK => ?_)
 refine skip_ (w1 := ?_) (by rfl) rfl ?_ ?_
 rotate_left
 · go_simp
   rfl
 refine hK.out _ _ ?_
 clear hK K
 refine done_ (by kernel_rfl) ?_
 go_wp2
 refine bodyPost_ret (results_cell_row rfl _ _ gb2 50 #[.int .i64 xn, .slice A1 ns.length c1, .int .i64 r] (0, 0) _ rfl (PF0 BK2.1) Tryd.underlying50 rfl (by kernel_rfl)) rfl ?_
 exact ⟨_, rfl, R_set (R_set (R_set HR.1 BK2.1 (by decide) 0 _) (PF0 BK2.1) (by decide) 1 _) (PF0 BK2.1) (by decide) 2 _, BL HB.1⟩
theorem spec_ddMake.calls (a0_0 : Int) (A0_1 : Option Addr) (c0_1 : Nat) (l0_1 : List Int) (r1 : Int) (r2 : List (S86)) (r3 : Int) (w : World) (hr0_1 : Kd.C (Kd.int .i64) w A0_1 l0_1.length l0_1) (hc0_1 : l0_1.length <= c0_1) (h : spec_ddMake.f a0_0 l0_1 = some (r1, r2, r3)) :
 Calls Tryd.prog 65 #[.agg #[.int .i64 a0_0, .slice A0_1 l0_1.length c0_1]] w fun e w' => ∃ v1_ : Value, e = .returned (.agg #[.int .i64 r1, v1_, .int .i64 r3]) /\ Kd.R k86 86 w' w.heap.size (fun _ => True) v1_ r2 /\ Below w.heap.size w w' := by
 unfold spec_ddMake.f at h
 obtain ⟨⟨h0, h1, h2⟩, h⟩ := ifP h
 cases h
 exact ddmake_calls a0_0.toNat a0_0 A0_1 c0_1 l0_1 w hr0_1 (by omega) (by omega) h2

/-! ### spec_ttBit: function 89 -/
open Kd
def spec_ttBit.f (a0 : Int) (a1 : Int) : Option (Int) := if 0 <= (IntKind.u64.wrap (a1)) then (some (Go.bits .and .i64 (shr .i64 a0 (IntKind.u64.wrap (a1))) 1)) else (none)
theorem spec_ttBit.calls (a0 : Int) (a1 : Int) (r : Int) (w : World) (h : spec_ttBit.f a0 a1 = some r) :
 Calls Tryd.prog 89 #[.int .i64 a0, .int .i64 a1] w fun e w' => e = .returned (.int .i64 r) /\ Drawn0 w w' := by
 have H := h
 clear h
 unfold spec_ttBit.f at H
 obtain ⟨ji3, hji3⟩ : ∃ j_ : Int, (IntKind.u64.wrap (a1)) = j_ := ⟨_, rfl⟩
 replace H : (if 0 <= (ji3) then (some (Go.bits .and .i64 (shr .i64 a0 (ji3)) 1)) else (none)) = some r := by first | (rw [hji3] at H; exact H) | (simp only [hji3] at H ⊢; exact H)
 replace H := ifP H; obtain ⟨c4, H⟩ := H
 have c4b0 := eq_true c4
 have c4b1 := decide_eq_true c4
 clear c4
 obtain ⟨ji5, hji5⟩ : ∃ j_ : Int, (shr .i64 a0 (ji3)) = j_ := ⟨_, rfl⟩
 replace H : (some (Go.bits .and .i64 (ji5) 1)) = some r := by first | (rw [hji5] at H; exact H) | (simp only [hji5] at H ⊢; exact H)
 have hji5_ : (a0 / 2 ^ min (ji3).toNat 64) = ji5 := hji5
 have hji5z : (ji3) <= 64 -> (a0 / 2 ^ (ji3).toNat) = ji5 := shr_small hji5
 obtain rfl := Option.some.inj H
 go_enter Tryd.func89, Tryd.ntmps89
 go_wp2
 go_ret
 exact ⟨by first | rfl | (simp; done) | (simp only [<- hji3, <- hji5] <;> (first | rfl | simp)) | (simp [*]; done), DR⟩
/-! ### spec_ddValue: function 76 -/
open Kd
def spec_ddValue.l0 : Nat -> Int -> Int -> Int -> List (S86) -> Int -> Option (Int)
 | 0, _, _, _, _, _ => none
 | k + 1, x1, x5, x117000, x117001, x117002 => if x5 > 1 then (if 0 <= (wrap64 (x5 - 2)) then (if (wrap64 (x5 - 2)) < (x117001.length : Int) then ((spec_ttBit.f x1 ((rd_T86 x117001 (wrap64 (x5 - 2))).f0)).bind fun t119 => (if t119 = 0 then (spec_ddValue.l0 k x1 ((rd_T86 x117001 (wrap64 (x5 - 2))).f1) x117000 x117001 x117002) else (spec_ddValue.l0 k x1 ((rd_T86 x117001 (wrap64 (x5 - 2))).f2) x117000 x117001 x117002))) else (none)) else (none)) else (some x5)
def spec_ddValue.f (k : Nat) (a0_0 : Int) (l0_1 : List (S86)) (a0_2 : Int) (a1 : Int) : Option (Int) := spec_ddValue.l0 k a1 a0_2 a0_0 l0_1 a0_2
theorem spec_ddValue.mono_l : ∀ k, (∀ y0 y1 y2 y3 y4, LeO (spec_ddValue.l0 k y0 y1 y2 y3 y4) (spec_ddValue.l0 (k + 1) y0 y1 y2 y3 y4))
 | 0 => fun _ _ _ _ _ r h => by simp [spec_ddValue.l0] at h
 | k + 1 => by
  have ih0 := spec_ddValue.mono_l k
  intros
  first | unfold spec_ddValue.l0
  exact LM1 ih0
theorem spec_ddValue.mono : ∀ a0 a1 a2 a3 k, LeO (spec_ddValue.f k a0 a1 a2 a3) (spec_ddValue.f (k + 1) a0 a1 a2 a3) := by
 intro a0 a1 a2 a3 k
 have ih0 := spec_ddValue.mono_l k
 unfold spec_ddValue.f
 exact LM1 ih0
theorem spec_ddValue.calls (k : Nat) (a0_0 : Int) (A0_1 : Option Addr) (c0_1 : Nat) (l0_1 : List (S86)) (a0_2 : Int) (a1 : Int) (r : Int) (w : World) (hr0_1 : Kd.C k86 w A0_1 l0_1.length l0_1) (hc0_1 : l0_1.length <= c0_1) (h : spec_ddValue.f k a0_0 l0_1 a0_2 a1 = some r) :
 Calls Tryd.prog 76 #[.agg #[.int .i64 a0_0, .slice A0_1 l0_1.length c0_1, .int .i64 a0_2], .int .i64 a1] w fun e w' => e = .returned (.int .i64 r) /\ Below w.heap.size w w' := by
 have hu50 := Tryd.underlying50
 have hu86 := Tryd.underlying86
 have HR0_1 := Aside0.mk hr0_1
 have HC0_1 := Aside0.mk hc0_1
 clear hr0_1 hc0_1
 have HB := Aside0.mk (Below.refl w.heap.size w)
 have H := h
 clear h
 unfold spec_ddValue.f at H
 have H' := Aside0.mk H
 clear H
 go_enter Tryd.func76, Tryd.ntmps76
 go_wp2_with (first | ((with_reducible refine gate_dst (N := 2) rfl ?_); refine boxE (cs := #[.int .i64 a0_0, .slice A0_1 l0_1.length c0_1, .int .i64 a0_2]) (t := 50) ?_; intro gb116 hg w3 hbox hb; refine E4b HB.1 hg hbox hb ?_; clear HB; intro HB BK116 GW116 GE116; clear hb hbox hg; obtain ⟨hcz4_0, hcz4_1, hcz4_2, hfz4_0, hfz4_1, hfz4_2⟩ := cz3 BK116.1))
 go_loopg [5] k (fun kq v5 w' => ∃ (x5_1 : Int), v5 = .int .i64 x5_1 /\ Aside0 (spec_ddValue.l0 kq a1 x5_1 a0_0 l0_1 a0_2 = some r) /\ Aside0 (kq <= k) /\ Aside0 (w'.heap[gb116]? = some (.cells #[.int .i64 a0_0, (.slice A0_1 l0_1.length c0_1), .int .i64 a0_2] 50 (0, 0))) /\ Aside0 (Below w.heap.size w w'))
 case atStart => exact ⟨(a0_2), RG, H', ⟨Nat.le_refl _⟩, ⟨PB BK116.1⟩, ⟨BL HB.1⟩⟩
 clear H'
 clear hcz4_0 hcz4_1 hcz4_2 hfz4_0 hfz4_1 hfz4_2
 obtain ⟨x5_1, rfl, HA, HK1, BK116, HB⟩ := hrel
 cases gk with
 | zero => exact absurd HA.1 (by simp [spec_ddValue.l0])
 | succ k1 => ?_
 have H := HA.1
 clear HA
 simp only [spec_ddValue.l0] at H
 replace H := ifQ H; rcases H with ⟨c5, H⟩ | ⟨c5, H⟩
 · have c5b0 : decide (1 < x5_1) = true := decide_eq_true c5
   clear c5
   obtain ⟨ji6, hji6⟩ : ∃ j_ : Int, (wrap64 (x5_1 - 2)) = j_ := ⟨_, rfl⟩
   replace H : (if 0 <= (ji6) then (if (ji6) < (l0_1.length : Int) then ((spec_ttBit.f a1 ((rd_T86 l0_1 (ji6)).f0)).bind fun t119 => (if t119 = 0 then (spec_ddValue.l0 k1 a1 ((rd_T86 l0_1 (ji6)).f1) a0_0 l0_1 a0_2) else (spec_ddValue.l0 k1 a1 ((rd_T86 l0_1 (ji6)).f2) a0_0 l0_1 a0_2))) else (none)) else (none)) = some r := by first | (rw [hji6] at H; exact H) | (simp only [hji6] at H ⊢; exact H)
   have hji6w : (IntKind.i64.wrap (x5_1 - 2)) = ji6 := (i64_w _).trans hji6
   replace H := ifN H; obtain ⟨c7b0, H⟩ := H
   replace H := ifN H; obtain ⟨c8b0, H⟩ := H
   replace H := bindA H; obtain ⟨t119, A9, H⟩ := H
   replace H := ifQ H; rcases H with ⟨c10, H⟩ | ⟨c10, H⟩
   · have c10b0 := beq_iff_eq.mpr c10
     have c10b1 := bne_eq_false_iff_eq.mpr c10
     clear c10
     have H' := Aside0.mk H
     clear H
     obtain ⟨hcz11_0, hcz11_1, hcz11_2, hfz11_0, hfz11_1, hfz11_2⟩ := cz3 BK116.1
     have p117 : 0 <= ((ji6) : Int) := OD
     have q117 : (ji6) < (l0_1.length : Int) := OD
     obtain ⟨ad117, e117, hx117_0, hx117_1, hx117_2⟩ := at_T86 HR0_1.1 (ji6) p117 q117
     cases e117
     replace hx117_0 := (HB.1.cell (World.block_lt_of_cell? w _ hx117_0)).trans hx117_0
     replace hx117_1 := (HB.1.cell (World.block_lt_of_cell? w _ hx117_1)).trans hx117_1
     replace hx117_2 := (HB.1.cell (World.block_lt_of_cell? w _ hx117_2)).trans hx117_2
     replace p117 := eq_true p117
     replace q117 := eq_true q117
     go_wp2_with (first | ((with_reducible refine gate_dst (N := 6) rfl ?_); refine boxE (cs := #[.int .i64 0, .int .i64 0, .int .i64 0]) (t := 86) ?_; intro gb118 hg w12 hbox hb; refine E7 (bB BK116.1 hb) (bS HB.1 hb) (hbox) (gX HB.1 hg) (gX HB.1 hg) (nB BK116.1 hg) (nC BK116.1 hg) ?_; clear BK116 HB; intro BK116 HB BK118 GW118 GE118 NB116_118 NB118_116; clear hb hbox hg; have hnb13 := NB118_116.1; have hnc13 := NB116_118.1; obtain ⟨hcz14_0, hcz14_1, hcz14_2, hfz14_0, hfz14_1, hfz14_2⟩ := cz3 BK118.1) | ((with_reducible refine gate_callee (f := 89) rfl ?_); refine goesL_ (some 20) rfl rfl Tryd.func89 (by kernel_rfl) rfl #[.int .i64 a1, .int .i64 ((rd_T86 l0_1 (ji6)).f0)] rfl (by (try simp only [List.map_toArray, List.map_cons, List.map_nil]); first | done | (simp only [hji6]; rfl) | rfl | (simp only [List.length_drop, List.length_take]; rfl)) ?_; (with_reducible refine (spec_ttBit.calls a1 ((rd_T86 l0_1 (ji6)).f0) t119 _ A9.1).mono ?_); rintro e w' ⟨rfl, ⟨nd, rfl⟩⟩; refine ⟨_, rfl, ?_⟩))
     go_roundg k1
     case measure => have := HK1.1; omega
     case rel => exact ⟨((rd_T86 l0_1 (ji6)).f1), (by first | rfl | (simp; done) | (simp only [<- hji6] <;> (first | rfl | simp)) | (simp [*]; done)), H', ⟨by have := HK1.1; omega⟩, ⟨by (with_reducible repeat (first | refine blk_drewN ?_ _ | refine blk_drew ?_ | refine blk_alloc ?_ _)); refine blk_far ?_ NB116_118.1 _; (with_reducible repeat (first | refine blk_drewN ?_ _ | refine blk_drew ?_ | refine blk_alloc ?_ _)); refine blk_far ?_ NB116_118.1 _; (with_reducible repeat (first | refine blk_drewN ?_ _ | refine blk_drew ?_ | refine blk_alloc ?_ _)); refine blk_far ?_ NB116_118.1 _; (with_reducible repeat (first | refine blk_drewN ?_ _ | refine blk_drew ?_ | refine blk_alloc ?_ _)); exact BK116.1⟩, ⟨BL HB.1⟩⟩
   have c10b0 := beq_eq_false_iff_ne.mpr c10
   have c10b1 := bne_iff_ne.mpr c10
   have H' := Aside0.mk H
   clear H
   obtain ⟨hcz15_0, hcz15_1, hcz15_2, hfz15_0, hfz15_1, hfz15_2⟩ := cz3 BK116.1
   have p117 : 0 <= ((ji6) : Int) := OD
   have q117 : (ji6) < (l0_1.length : Int) := OD
   obtain ⟨ad117, e117, hx117_0, hx117_1, hx117_2⟩ := at_T86 HR0_1.1 (ji6) p117 q117
   cases e117
   replace hx117_0 := (HB.1.cell (World.block_lt_of_cell? w _ hx117_0)).trans hx117_0
   replace hx117_1 := (HB.1.cell (World.block_lt_of_cell? w _ hx117_1)).trans hx117_1
   replace hx117_2 := (HB.1.cell (World.block_lt_of_cell? w _ hx117_2)).trans hx117_2
   replace p117 := eq_true p117
   replace q117 := eq_true q117
   go_wp2_with (first | ((with_reducible refine gate_dst (N := 6) rfl ?_); refine boxE (cs := #[.int .i64 0, .int .i64 0, .int .i64 0]) (t := 86) ?_; intro gb118 hg w16 hbox hb; refine E7 (bB BK116.1 hb) (bS HB.1 hb) (hbox) (gX HB.1 hg) (gX HB.1 hg) (nB BK116.1 hg) (nC BK116.1 hg) ?_; clear BK116 HB; intro BK116 HB BK118 GW118 GE118 NB116_118 NB118_116; clear hb hbox hg; have hnb17 := NB118_116.1; have hnc17 := NB116_118.1; obtain ⟨hcz18_0, hcz18_1, hcz18_2, hfz18_0, hfz18_1, hfz18_2⟩ := cz3 BK118.1) | ((with_reducible refine gate_callee (f := 89) rfl ?_); refine goesL_ (some 20) rfl rfl Tryd.func89 (by kernel_rfl) rfl #[.int .i64 a1, .int .i64 ((rd_T86 l0_1 (ji6)).f0)] rfl (by (try simp only [List.map_toArray, List.map_cons, List.map_nil]); first | done | (simp only [hji6]; rfl) | rfl | (simp only [List.length_drop, List.length_take]; rfl)) ?_; (with_reducible refine (spec_ttBit.calls a1 ((rd_T86 l0_1 (ji6)).f0) t119 _ A9.1).mono ?_); rintro e w' ⟨rfl, ⟨nd, rfl⟩⟩; refine ⟨_, rfl, ?_⟩))
   go_roundg k1
   case measure => have := HK1.1; omega
   case rel => exact ⟨((rd_T86 l0_1 (ji6)).f2), (by first | rfl | (simp; done) | (simp only [<- hji6] <;> (first | rfl | simp)) | (simp [*]; done)), H', ⟨by have := HK1.1; omega⟩, ⟨by (with_reducible repeat (first | refine blk_drewN ?_ _ | refine blk_drew ?_ | refine blk_alloc ?_ _)); refine blk_far ?_ NB116_118.1 _; (with_reducible repeat (first | refine blk_drewN ?_ _ | refine blk_drew ?_ | refine blk_alloc ?_ _)); refine blk_far ?_ NB116_118.1 _; (with_reducible repeat (first | refine blk_drewN ?_ _ | refine blk_drew ?_ | refine blk_alloc ?_ _)); refine blk_far ?_ NB116_118.1 _; (with_reducible repeat (first | refine blk_drewN ?_ _ | refine blk_drew ?_ | refine blk_alloc ?_ _)); exact BK116.1⟩, ⟨BL HB.1⟩⟩
 have c5b0 : decide (1 < x5_1) = false := decide_eq_false c5
 clear c5
 obtain rfl := Option.some.inj H
 go_wp2
 go_ret
 exact ⟨RF, BL HB.1⟩
/-! ### spec_ddTable: function 66 -/
open Kd
def spec_ddTable.l0 : Nat -> Int -> Int -> List (S86) -> Int -> Int -> List Int -> Option (Int × List Int)
 | 0, _, _, _, _, _, _ => none
 | k + 1, x4, x121000, x121001, x121002, x123000, x123001 => if 0 <= (IntKind.u64.wrap (x121000)) then (if x4 < (shl .i64 1 (IntKind.u64.wrap (x121000))) then ((spec_ddValue.f k x121000 x121001 x121002 x4).bind fun t123 => (if x123001.length < 17592186044416 then (spec_ddTable.l0 k (wrap64 (x4 + 1)) x121000 x121001 x121002 x123000 (x123001 ++ [t123])) else (none))) else (some (x123000, x123001))) else (none)
def spec_ddTable.f (k : Nat) (a0_0 : Int) (l0_1 : List (S86)) (a0_2 : Int) : Option (Int × List Int) := spec_ddTable.l0 k 0 a0_0 l0_1 a0_2 a0_0 ([] : List Int)
theorem spec_ddTable.mono_l : ∀ k, (∀ y0 y1 y2 y3 y4 y5, LeO (spec_ddTable.l0 k y0 y1 y2 y3 y4 y5) (spec_ddTable.l0 (k + 1) y0 y1 y2 y3 y4 y5))
 | 0 => fun _ _ _ _ _ _ r h => by simp [spec_ddTable.l0] at h
 | k + 1 => by
  have ih0 := spec_ddTable.mono_l k
  intros
  first | unfold spec_ddTable.l0
  exact LM2 ih0 spec_ddValue.mono
theorem spec_ddTable.mono : ∀ a0 a1 a2 k, LeO (spec_ddTable.f k a0 a1 a2) (spec_ddTable.f (k + 1) a0 a1 a2) := by
 intro a0 a1 a2 k
 have ih0 := spec_ddTable.mono_l k
 unfold spec_ddTable.f
 exact LM2 ih0 spec_ddValue.mono
def spec_ddTable.T5 : Bool × List (List Nat × List Nat) := (true, [([], []), ([0], [0]), ([], []), ([], []), ([2, 3], [2, 3]), ([4], [4]), ([1, 5, 4], [1, 5]), ([0, 1, 2, 3, 4, 5, 6], []), ([7, 6, 6, 0, 1, 2, 3, 4, 5, 6], [6, 7])])
def spec_ddTable.B5 : List Nat := [0, 1, 0, 0, 12, 28, 63, 127, 255]
theorem spec_ddTable.tab5 : rtab .any (opsOf Tryd.f66 5) = spec_ddTable.T5 := by kernel_rfl
theorem spec_ddTable.bits5 : waitsOk spec_ddTable.T5.2 spec_ddTable.B5 = true := by kernel_rfl
theorem spec_ddTable.calls (k : Nat) (a0_0 : Int) (A0_1 : Option Addr) (c0_1 : Nat) (l0_1 : List (S86)) (a0_2 : Int) (r1 : Int) (r2 : List Int) (w : World) (hr0_1 : Kd.C k86 w A0_1 l0_1.length l0_1) (hc0_1 : l0_1.length <= c0_1) (h : spec_ddTable.f k a0_0 l0_1 a0_2 = some (r1, r2)) :
 Calls Tryd.prog 66 #[.agg #[.int .i64 a0_0, .slice A0_1 l0_1.length c0_1, .int .i64 a0_2]] w fun e w' => ∃ v1_ : Value, e = .returned (.agg #[.int .i64 r1, v1_]) /\ Kd.R (Kd.int .i64) 3 w' w.heap.size (fun _ => True) v1_ r2 /\ Below w.heap.size w w' := by
 have hu50 := Tryd.underlying50
 have hu28 := Tryd.underlying28
 have HR0_1 := Aside0.mk hr0_1
 have HC0_1 := Aside0.mk hc0_1
 clear hr0_1 hc0_1
 have HB := Aside0.mk (Below.refl w.heap.size w)
 have H := h
 clear h
 unfold spec_ddTable.f at H
 have H' := Aside0.mk H
 clear H
 go_enter Tryd.func66, Tryd.ntmps66
 go_wp2_with (first | ((with_reducible refine gate_dst (N := 1) rfl ?_); refine boxE (cs := #[.int .i64 a0_0, .slice A0_1 l0_1.length c0_1, .int .i64 a0_2]) (t := 50) ?_; intro gb120 hg w2 hbox hb; refine E4b HB.1 hg hbox hb ?_; clear HB; intro HB BK120 GW120 GE120; clear hb hbox hg) | ((with_reducible refine gate_dst (N := 2) rfl ?_); refine boxE (cs := #[.int .i64 0, .slice none 0 0]) (t := 28) ?_; intro gb121 hg w3 hbox hb; refine E7 (bB BK120.1 hb) (bS HB.1 hb) (hbox) (gX HB.1 hg) (gX HB.1 hg) (nB BK120.1 hg) (nC BK120.1 hg) ?_; clear BK120 HB; intro BK120 HB BK121 GW121 GE121 NB120_121 NB121_120; clear hb hbox hg; have hnb4 := NB120_121.1; have hnc4 := NB121_120.1; obtain ⟨hcz5_0, hcz5_1, hcz5_2, hfz5_0, hfz5_1, hfz5_2⟩ := cz3 BK120.1) | ((with_reducible refine gate_dst (N := 3) rfl ?_); refine boxE (cs := #[.int .i64 0, .slice none 0 0]) (t := 28) ?_; intro gb122 hg w6 hbox hb; refine E10 (bB BK120.1 hb) (bB BK121.1 hb) (bS HB.1 hb) (hbox) (gX HB.1 hg) (gX HB.1 hg) (nB BK120.1 hg) (nC BK120.1 hg) (nB BK121.1 hg) (nC BK121.1 hg) ?_; clear BK120 BK121 HB; intro BK120 BK121 HB BK122 GW122 GE122 NB120_122 NB122_120 NB121_122 NB122_121; clear hb hbox hg; have hnb7 := NB122_120.1; have hnc7 := NB120_122.1; have hnb8 := NB122_121.1; have hnc8 := NB121_122.1; obtain ⟨hcz9_0, hcz9_1, hfz9_0, hfz9_1⟩ := cz2 BK122.1))
 go_loopg [4] k (fun kq v4 w' => ∃ (x4_1 : Int) (x123001_1 : List Int) (u123001 : Value), v4 = .int .i64 x4_1 /\ Aside0 (spec_ddTable.l0 kq x4_1 a0_0 l0_1 a0_2 a0_0 x123001_1 = some (r1, r2)) /\ Aside0 (kq <= k) /\ Aside0 (Kd.R (Kd.int .i64) 3 w' w.heap.size (fun _ => True) u123001 x123001_1) /\ Aside0 (w'.heap[gb120]? = some (.cells #[.int .i64 a0_0, (.slice A0_1 l0_1.length c0_1), .int .i64 a0_2] 50 (0, 0))) /\ Aside0 (w'.heap[gb121]? = some (.cells #[.int .i64 0, (.slice none 0 0)] 28 (0, 0))) /\ Aside0 (w'.heap[gb122]? = some (.cells #[.int .i64 a0_0, u123001] 28 (0, 0))) /\ Aside0 (Below w.heap.size w w'))
 case atStart => exact ⟨(0), (([] : List Int)), (.slice none 0 0), RG, H', ⟨Nat.le_refl _⟩, ⟨by first | exact R_nil _ _ _ _ _ | exact N_nil _ _ _ _ _ | exact V_nil _ _ _ _ _ | exact Q_nil _ _ _ _ _ | exact S_nil _ _ _ _ _⟩, ⟨by (with_reducible repeat (first | refine blk_drewN ?_ _ | refine blk_drew ?_ | refine blk_alloc ?_ _)); refine blk_far ?_ NB120_122.1 _; (with_reducible repeat (first | refine blk_drewN ?_ _ | refine blk_drew ?_ | refine blk_alloc ?_ _)); refine blk_far ?_ NB120_122.1 _; (with_reducible repeat (first | refine blk_drewN ?_ _ | refine blk_drew ?_ | refine blk_alloc ?_ _)); exact BK120.1⟩, ⟨by (with_reducible repeat (first | refine blk_drewN ?_ _ | refine blk_drew ?_ | refine blk_alloc ?_ _)); refine blk_far ?_ NB121_122.1 _; (with_reducible repeat (first | refine blk_drewN ?_ _ | refine blk_drew ?_ | refine blk_alloc ?_ _)); refine blk_far ?_ NB121_122.1 _; (with_reducible repeat (first | refine blk_drewN ?_ _ | refine blk_drew ?_ | refine blk_alloc ?_ _)); exact BK121.1⟩, ⟨by (with_reducible repeat (first | refine blk_drewN ?_ _ | refine blk_drew ?_ | refine blk_alloc ?_ _)); refine blk_put (cs := #[.int .i64 a0_0, .slice none 0 0]) ?_ 1 _ rfl; (with_reducible repeat (first | refine blk_drewN ?_ _ | refine blk_drew ?_ | refine blk_alloc ?_ _)); refine blk_put (cs := #[.int .i64 0, .slice none 0 0]) ?_ 0 _ rfl; (with_reducible repeat (first | refine blk_drewN ?_ _ | refine blk_drew ?_ | refine blk_alloc ?_ _)); exact BK122.1⟩, ⟨BL HB.1⟩⟩
 clear H'
 clear hcz5_0 hcz5_1 hcz5_2 hcz9_0 hcz9_1 hfz5_0 hfz5_1 hfz5_2 hfz9_0 hfz9_1
 obtain ⟨x4_1, x123001_1, u123001, rfl, HA, HK1, HO_123001, BK120, BK121, BK122, HB⟩ := hrel
 cases gk with
 | zero => exact absurd HA.1 (by simp [spec_ddTable.l0])
 | succ k1 => ?_
 have H := HA.1
 clear HA
 simp only [spec_ddTable.l0] at H
 obtain ⟨ji10, hji10⟩ : ∃ j_ : Int, (IntKind.u64.wrap (a0_0)) = j_ := ⟨_, rfl⟩
 replace H : (if 0 <= (ji10) then (if x4_1 < (shl .i64 1 (ji10)) then ((spec_ddValue.f k1 a0_0 l0_1 a0_2 x4_1).bind fun t123 => (if x123001_1.length < 17592186044416 then (spec_ddTable.l0 k1 (wrap64 (x4_1 + 1)) a0_0 l0_1 a0_2 a0_0 (x123001_1 ++ [t123])) else (none))) else (some (a0_0, x123001_1))) else (none)) = some (r1, r2) := by first | (rw [hji10] at H; exact H) | (simp only [hji10] at H ⊢; exact H)
 replace H := ifP H; obtain ⟨c11, H⟩ := H
 have c11b0 := eq_true c11
 have c11b1 := decide_eq_true c11
 clear c11
 obtain ⟨ji12, hji12⟩ : ∃ j_ : Int, (shl .i64 1 (ji10)) = j_ := ⟨_, rfl⟩
 replace H : (if x4_1 < (ji12) then ((spec_ddValue.f k1 a0_0 l0_1 a0_2 x4_1).bind fun t123 => (if x123001_1.length < 17592186044416 then (spec_ddTable.l0 k1 (wrap64 (x4_1 + 1)) a0_0 l0_1 a0_2 a0_0 (x123001_1 ++ [t123])) else (none))) else (some (a0_0, x123001_1))) = some (r1, r2) := by first | (rw [hji12] at H; exact H) | (simp only [hji12] at H ⊢; exact H)
 have hji12_ : (IntKind.i64.wrap (1 * 2 ^ min (ji10).toNat 64)) = ji12 := hji12
 have hji12z : (ji10) <= 64 -> (IntKind.i64.wrap (1 * 2 ^ (ji10).toNat)) = ji12 := shl_small hji12
 have hji12u : (IntKind.i64.wrap (2 ^ min (ji10).toNat 64)) = ji12 := by have h_ := hji12_; rw [Int.one_mul] at h_; exact h_
 have hji12v : (ji10) <= 64 -> (IntKind.i64.wrap (2 ^ (ji10).toNat)) = ji12 := fun hle_ => by have h_ := hji12z hle_; rw [Int.one_mul] at h_; exact h_
 have hji12y : (wrap64 (1 * 2 ^ min (ji10).toNat 64)) = ji12 := (i64_w _).symm.trans hji12_
 have hji12x : (ji10) <= 64 -> (wrap64 (1 * 2 ^ (ji10).toNat)) = ji12 := fun h_ => (i64_w _).symm.trans (hji12z h_)
 replace H := ifB H; rcases H with ⟨c13b0, H⟩ | ⟨c13b0, H⟩
 · replace H := bindA H; obtain ⟨t123, A14, H⟩ := H
   replace H := ifP H; obtain ⟨c15, H⟩ := H
   have LMc15 := Aside0.mk c15
   clear c15
   generalize hy124 : ((x123001_1 ++ [t123]) : List Int) = y124 at H
   have Ny124 := Aside0.mk hy124.symm; clear hy124
   have H' := Aside0.mk H
   clear H
   obtain ⟨hcz18_0, hcz18_1, hcz18_2, hfz18_0, hfz18_1, hfz18_2⟩ := cz3 BK120.1
   try go_wp2
   refine E5 (R_drew HO_123001.1) (blk_drew BK120.1) (blk_drew BK121.1) (blk_drew BK122.1) (below_drew1 HB.1) ?_
   clear HO_123001 BK120 BK121 BK122 HB
   intro HO_123001 BK120 BK121 BK122 HB
   refine start_ (n := 9) (S := fun w' => w'.cell? ⟨gb122, 0, none⟩ = some (.int .i64 a0_0) /\ w'.cell? ⟨gb122, 1, none⟩ = some (u123001) /\ w'.cell? ⟨gb120, 0, none⟩ = some (.int .i64 a0_0) /\ w'.cell? ⟨gb120, 1, none⟩ = some (.slice A0_1 l0_1.length c0_1) /\ w'.cell? ⟨gb120, 2, none⟩ = some (.int .i64 a0_2)) (ds := [8]) #[Zz,Zz,Zz,Zz,Zz,Zz,Zz,Zz,Zz] (by kernel_rfl) rfl rfl ⟨(blk_cell BK122.1 0).trans rfl, (blk_cell BK122.1 1).trans rfl, (blk_cell BK120.1 0).trans rfl, (blk_cell BK120.1 1).trans rfl, (blk_cell BK120.1 2).trans rfl⟩ (fun hHeld => ?_); refine with_tabW spec_ddTable.tab5 spec_ddTable.bits5 (fun HT_ HW_ => ?_)
   generalize wr.drew = w19 at HO_123001 BK120 BK121 BK122 HB hHeld ⊢
   refine pureF 0 (N := some 16) HT_.1 ?_
   refine pureF 3 (N := some 19) HT_.1 ?_
   refine takeE 1 (N := some 17) HT_.1 HW_.1 hHeld ?_
   refine takeE 2 (N := some 18) HT_.1 HW_.1 hHeld ?_
   refine one_ (i := 4) (N := some 20) #[Yy,Yy,Yy,Yy,Yy,Zz,Zz,Zz,Zz] rfl rfl (one_of HT_.1 (by kernel_rfl)) (by decide) (fun K hK => ?_)
   refine goes_ Tryd.func76 (by kernel_rfl) rfl #[.agg #[.int .i64 a0_0, .slice A0_1 l0_1.length c0_1, .int .i64 a0_2], .int .i64 x4_1] (by rfl) rfl rfl (by (try simp only [List.map_toArray, List.map_cons, List.map_nil]); first | done | rfl | (simp only [List.length_drop, List.length_take]; rfl)) ?_
   with_reducible refine (spec_ddValue.calls k1 a0_0 _ _ l0_1 a0_2 x4_1 t123 _ ?side1 ?side2 A14.1).mono ?_
   (case side1 => exact CB (C_below HR0_1.1 HB.1))
   (case side2 => exact HC0_1.1)
   rintro e w20 ⟨rfl, hb⟩
   refine ⟨_, rfl, ?_⟩
   refine E5 (rB HO_123001.1 hb) (bB BK120.1 hb) (bB BK121.1 hb) (bB BK122.1 hb) (bS HB.1 hb) ?_
   clear HO_123001 BK120 BK121 BK122 HB
   intro HO_123001 BK120 BK121 BK122 HB
   (try clear hb)
   (try clear hb2)
   (try clear hk)
   (try clear hi)
   refine hK.out _ _ ⟨(blk_cell BK122.1 0).trans rfl, (blk_cell BK122.1 1).trans rfl, (blk_cell BK120.1 0).trans rfl, (blk_cell BK120.1 1).trans rfl, (blk_cell BK120.1 2).trans rfl⟩ (fun hHeld => ?_)
   clear hK K
   refine norm_ (a' := ?_) ?_ ?_
   rotate_left
   · show Act.put _ (some 20) _ = _
     simp only [Act.put, List.setIfInBounds_toArray, List.set_cons_zero, List.set_cons_succ, i64_w, i32_w]
     rfl
   refine one_ (i := 5) (N := some 21) #[Yy,Yy,Yy,Yy,Yy,Yy,Zz,Zz,Zz] rfl rfl (one_of HT_.1 (by kernel_rfl)) (by decide) (fun K hK => ?_)
   refine value_ (w1 := ?_) (v := ?_) (by rfl) rfl ?_ ?_
   rotate_left 2
   · go_simp
     constructor
     · rfl
     rfl
   refine hK.out _ _ ⟨(blk_cell (blk_alloc BK122.1 _) 0).trans rfl, (blk_cell (blk_alloc BK122.1 _) 1).trans rfl, (blk_cell (blk_alloc BK120.1 _) 0).trans rfl, (blk_cell (blk_alloc BK120.1 _) 1).trans rfl, (blk_cell (blk_alloc BK120.1 _) 2).trans rfl⟩ (fun hHeld => ?_)
   clear hK K
   refine norm_ (a' := ?_) ?_ ?_
   rotate_left
   · show Act.put _ (some 21) _ = _
     simp only [Act.put, List.setIfInBounds_toArray, List.set_cons_zero, List.set_cons_succ, i64_w, i32_w]
     rfl
   refine one_ (i := 6) (N := some 22) #[Yy,Yy,Yy,Yy,Yy,Yy,Yy,Zz,Zz] rfl rfl (one_of HT_.1 (by kernel_rfl)) (by decide) (fun K hK => ?_)
   refine R_append_step (Kd.int .i64) (w0 := w) w.heap.size (by rfl) (.tmp 17) (.tmp 21) 22 3 (.int .i64 0) 8 rfl Tryd.underlying22 info3 rfl (by decide) (by omega) u123001 x123001_1 t123 [.int .i64 t123] (fun _ => True) (fun _ => False) rfl rfl ?aP (fun _ hk => hk.elim) ?aF ?aO ?aB ?aS ?aL ?_
   (case aP => exact rfl)
   (case aB => exact (BL HB.1))
   (case aF => exact (fun _ _ => trivial))
   (case aO => exact (PR HO_123001.1))
   (case aS => exact (bZ HB.1))
   (case aL => have := LMc15.1; omega)
   intro v125 w21 ho hb hg hat
   rw [<- Ny124.1] at ho
   refine E5 (bG BK120.1 hg (R_ne HO_123001.1 BK120.1 (by decide))) (bG BK121.1 hg (R_ne HO_123001.1 BK121.1 (by decide))) (bG BK122.1 hg (R_ne HO_123001.1 BK122.1 (by decide))) (hb) (ho) ?_
   clear BK120 BK121 BK122 HB HO_123001
   intro BK120 BK121 BK122 HB HO126
   clear ho hb hg hat
   obtain ⟨Ao22, co22, eo22⟩ := R_slice HO126.1
   (first | subst eo22 | (injection eo22 with f1_ f2_ f3_; have f4_ := f1_.symm; have f5_ := f3_.symm; clear f1_ f2_ f3_; subst f4_; subst f5_))
   refine hK.out _ _ ⟨(blk_cell BK122.1 0).trans rfl, (blk_cell BK122.1 1).trans rfl, (blk_cell BK120.1 0).trans rfl, (blk_cell BK120.1 1).trans rfl, (blk_cell BK120.1 2).trans rfl⟩ (fun hHeld => ?_)
   clear hK K
   refine norm_ (a' := ?_) ?_ ?_
   rotate_left
   · show Act.put _ (some 22) _ = _
     simp only [Act.put, List.setIfInBounds_toArray, List.set_cons_zero, List.set_cons_succ, i64_w, i32_w]
     rfl
   refine pureF 7 (N := some 23) HT_.1 ?_
   refine last_ (i := 8) (N := none) #[Yy,Yy,Yy,Yy,Yy,Yy,Yy,Yy,Yy] rfl rfl (one_of HT_.1 (by kernel_rfl)) (by decide) (fun K hK => ?_)
   have hs23 : w21.cell? ⟨gb122, 1, none⟩ = some (u123001) := (blk_cell BK122.1 1).trans rfl
   have hfs23 := blk_frozen BK122.1 1
   refine skip_ (w1 := ?_) (by rfl) rfl ?_ ?_
   rotate_left
   · go_simp
     rfl
   refine hK.out _ _ ?_
   clear hK K
   refine done_ (done_of HT_.1 (by kernel_rfl)) ?_
   try go_wp2
   go_roundg k1
   case measure => have := HK1.1; omega
   case rel => exact ⟨(wrap64 (x4_1 + 1)), (y124), (.slice Ao22 y124.length co22), RG, H', ⟨by have := HK1.1; omega⟩, ⟨by (with_reducible repeat (first | apply R_alloc | apply R_drewN | apply R_drew)); exact R_mono (RQ gb122 1 (R_types HO126.1 BK122.1 (by decide)) _) (fun _ hk => trivial)⟩, ⟨by (with_reducible repeat (first | refine blk_drewN ?_ _ | refine blk_drew ?_ | refine blk_alloc ?_ _)); refine blk_far ?_ NB120_122.1 _; (with_reducible repeat (first | refine blk_drewN ?_ _ | refine blk_drew ?_ | refine blk_alloc ?_ _)); exact BK120.1⟩, ⟨by (with_reducible repeat (first | refine blk_drewN ?_ _ | refine blk_drew ?_ | refine blk_alloc ?_ _)); refine blk_far ?_ NB121_122.1 _; (with_reducible repeat (first | refine blk_drewN ?_ _ | refine blk_drew ?_ | refine blk_alloc ?_ _)); exact BK121.1⟩, ⟨by (with_reducible repeat (first | refine blk_drewN ?_ _ | refine blk_drew ?_ | refine blk_alloc ?_ _)); refine blk_put (cs := #[.int .i64 a0_0, u123001]) ?_ 1 _ rfl; (with_reducible repeat (first | refine blk_drewN ?_ _ | refine blk_drew ?_ | refine blk_alloc ?_ _)); exact BK122.1⟩, ⟨BL HB.1⟩⟩
 simp only [Option.some.injEq, Prod.mk.injEq] at H
 obtain ⟨rfl, rfl⟩ := H
 obtain ⟨hcz26_0, hcz26_1, hcz26_2, hfz26_0, hfz26_1, hfz26_2⟩ := cz3 BK120.1
 obtain ⟨hcz28_0, hcz28_1, hfz28_0, hfz28_1⟩ := cz2 BK122.1
 obtain ⟨hcz29_0, hcz29_1, hfz29_0, hfz29_1⟩ := cz2 BK121.1
 obtain ⟨Ao30, co30, eo30⟩ := R_slice HO_123001.1
 subst eo30
 go_wp2
 refine bodyPost_ret (results_cell_row rfl _ _ gb121 28 #[.int .i64 a0_0, .slice Ao30 x123001_1.length co30] (0, 0) _ rfl (PF0 BK121.1) Tryd.underlying28 rfl (by kernel_rfl)) rfl ?_
 exact ⟨_, by first | rfl | (simp [errW_none, errW_some] <;> rfl) | (simp only [<- hji10, <- hji12]; first | rfl | (simp [errW_none, errW_some] <;> rfl)) | (simp [*, errW_none, errW_some] <;> rfl), by (with_reducible repeat (first | apply R_alloc | apply R_drewN | apply R_drew)); exact R_mono (RQ gb121 1 (RQ gb121 0 (R_types HO_123001.1 BK121.1 (by decide)) _) _) (fun _ hk => trivial), BL HB.1⟩
end Go.Proofs.YtfekgidcnidijaaDoor.P
