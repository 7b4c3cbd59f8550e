-- PRINTED by print.py (a twelfth state) out of the translation. Not trusted: Lean checks it.
import Derived.Test.YtfekgidcnidijaaDoorPx0
import Derived.Test.YtfekgidcnidijaaDoorPx1
namespace Go.Proofs.YtfekgidcnidijaaDoor.P
open Go.RowKit Go.Proofs.YtfekgidcnidijaaDoorW.PrintWords Go.Proofs.YtfekgidcnidijaaDoorW.PrintLast Go.Proofs.YtfekgidcnidijaaDoorW.PrintMore
attribute [local go_sem] max2_int min2_int max_two min_two max_three min_three max_four min_four   -- for this text's walks alone
set_option linter.unusedVariables false
set_option linter.unusedSimpArgs false
set_option maxHeartbeats 8000000
set_option maxRecDepth 100000

/-! ### laws_eqIntS: function 33 -/
open Kd
def laws_eqIntS.l0 : Nat -> List Int -> List Int -> Int -> Option (Bool)
 | 0, _, _, _ => none
 | k + 1, x0, x1, x5 => if x5 < (x0.length : Int) then (if 0 <= x5 then (if x5 < (x1.length : Int) then (if (rd x0 x5) = (rd x1 x5) then (laws_eqIntS.l0 k x0 x1 (wrap64 (x5 + 1))) else (some false)) else (none)) else (none)) else (some true)
def laws_eqIntS.f (k : Nat) (l0 : List Int) (l1 : List Int) : Option (Bool) := if (l0.length : Int) = (l1.length : Int) then (laws_eqIntS.l0 k l0 l1 0) else (some false)
theorem laws_eqIntS.mono_l : ∀ k, (∀ y0 y1 y2, LeO (laws_eqIntS.l0 k y0 y1 y2) (laws_eqIntS.l0 (k + 1) y0 y1 y2))
 | 0 => fun _ _ _ r h => by simp [laws_eqIntS.l0] at h
 | k + 1 => by
  have ih0 := laws_eqIntS.mono_l k
  intros
  first | unfold laws_eqIntS.l0
  exact LM1 ih0
theorem laws_eqIntS.mono : ∀ a0 a1 k, LeO (laws_eqIntS.f k a0 a1) (laws_eqIntS.f (k + 1) a0 a1) := by
 intro a0 a1 k
 have ih0 := laws_eqIntS.mono_l k
 unfold laws_eqIntS.f
 exact LM1 ih0
theorem laws_eqIntS.calls (k : Nat) (A0 : Option Addr) (c0 : Nat) (l0 : List Int) (A1 : Option Addr) (c1 : Nat) (l1 : List Int) (r : Bool) (w : World) (hr0 : Kd.C (Kd.int .i64) w A0 l0.length l0) (hc0 : l0.length <= c0) (hr1 : Kd.C (Kd.int .i64) w A1 l1.length l1) (hc1 : l1.length <= c1) (h : laws_eqIntS.f k l0 l1 = some r) :
 Calls Tryd.prog 33 #[.slice A0 l0.length c0, .slice A1 l1.length c1] w fun e w' => e = .returned (.bool r) /\ Drawn0 w w' := by
 have HR0 := Aside0.mk hr0
 have HC0 := Aside0.mk hc0
 clear hr0 hc0
 have HR1 := Aside0.mk hr1
 have HC1 := Aside0.mk hc1
 clear hr1 hc1
 have H := h
 clear h
 unfold laws_eqIntS.f at H
 replace H := ifQ H; rcases H with ⟨c3, H⟩ | ⟨c3, H⟩
 · have c3b0 := beq_iff_eq.mpr c3
   have c3b1 := bne_eq_false_iff_eq.mpr c3
   have c3b2 : (l0.length == l1.length) = true := by first | simpa using c3 | (simp at c3 ⊢; omega)
   clear c3
   have H' := Aside0.mk H
   clear H
   go_enter Tryd.func33, Tryd.ntmps33
   go_wp2
   repeat (go_quiet (fail); try go_wp2)
   go_loopg [5] k (fun kq v5 w' => ∃ (x5_1 : Int), v5 = .int .i64 x5_1 /\ Aside0 (laws_eqIntS.l0 kq l0 l1 x5_1 = some r) /\ Aside0 (kq <= k) /\ Drawn0 w w')
   case atStart => exact ⟨(0), RG, H', ⟨Nat.le_refl _⟩, DR⟩
   clear H'
   try clear c1; clear c3b0 c3b1 c3b2
   obtain ⟨x5_1, rfl, HA, HK1, ⟨m1, rfl⟩⟩ := hrel
   cases gk with
   | zero => exact absurd HA.1 (by simp [laws_eqIntS.l0])
   | succ k1 => ?_
   have H := HA.1
   clear HA
   simp only [laws_eqIntS.l0] at H
   replace H := ifB H; rcases H with ⟨c4b0, H⟩ | ⟨c4b0, H⟩
   · replace H := ifN H; obtain ⟨c5b0, H⟩ := H
     replace H := ifN H; obtain ⟨c6b0, H⟩ := H
     replace H := ifQ H; rcases H with ⟨c7, H⟩ | ⟨c7, H⟩
     · have c7b0 := beq_iff_eq.mpr c7
       have c7b1 := bne_eq_false_iff_eq.mpr c7
       clear c7
       have H' := Aside0.mk H
       clear H
       have p148 : 0 <= (x5_1 : Int) := OD
       have q148 : x5_1 < (l0.length : Int) := OD
       obtain ⟨ad148, e148, hx148_0⟩ := Kd.at_int HR0.1 x5_1 p148 q148
       cases e148
       replace p148 := eq_true p148
       replace q148 := eq_true q148
       have p149 : 0 <= (x5_1 : Int) := OD
       have q149 : x5_1 < (l1.length : Int) := OD
       obtain ⟨ad149, e149, hx149_0⟩ := Kd.at_int HR1.1 x5_1 p149 q149
       cases e149
       replace p149 := eq_true p149
       replace q149 := eq_true q149
       go_wp2
       repeat (go_quiet (fail); try go_wp2)
       go_roundg k1
       case measure => have := HK1.1; omega
       case rel => exact ⟨(wrap64 (x5_1 + 1)), RG, H', ⟨by have := HK1.1; omega⟩, DR⟩
     have c7b0 := beq_eq_false_iff_ne.mpr c7
     have c7b1 := bne_iff_ne.mpr c7
     obtain rfl := Option.some.inj H
     have p148 : 0 <= (x5_1 : Int) := OD
     have q148 : x5_1 < (l0.length : Int) := OD
     obtain ⟨ad148, e148, hx148_0⟩ := Kd.at_int HR0.1 x5_1 p148 q148
     cases e148
     replace p148 := eq_true p148
     replace q148 := eq_true q148
     have p149 : 0 <= (x5_1 : Int) := OD
     have q149 : x5_1 < (l1.length : Int) := OD
     obtain ⟨ad149, e149, hx149_0⟩ := Kd.at_int HR1.1 x5_1 p149 q149
     cases e149
     replace p149 := eq_true p149
     replace q149 := eq_true q149
     go_wp2
     repeat (go_quiet (fail); try go_wp2)
     go_ret
     exact ⟨RG, DR⟩
   obtain rfl := Option.some.inj H
   go_wp2
   repeat (go_quiet (fail); try go_wp2)
   go_ret
   exact ⟨RG, DR⟩
 have c3b0 := beq_eq_false_iff_ne.mpr c3
 have c3b1 := bne_iff_ne.mpr c3
 have c3b2 : (l0.length == l1.length) = false := by first | simpa using c3 | (simp at c3 ⊢; omega)
 obtain rfl := Option.some.inj H
 go_enter Tryd.func33, Tryd.ntmps33
 go_wp2
 repeat (go_quiet (fail); try go_wp2)
 go_ret
 exact ⟨RG, DR⟩
/-! ### laws_eqTable: function 11 -/
open Kd
def laws_eqTable.f (k : Nat) (a0_0 : Int) (l0_1 : List Int) (a1_0 : Int) (l1_1 : List Int) : Option (Bool) := if a0_0 = a1_0 then ((laws_eqIntS.f k l0_1 l1_1).bind fun t152 => (if t152 = true then (some true) else (some false))) else (some false)
theorem laws_eqTable.mono : ∀ a0 a1 a2 a3 k, LeO (laws_eqTable.f k a0 a1 a2 a3) (laws_eqTable.f (k + 1) a0 a1 a2 a3) := by
 intro a0 a1 a2 a3 k
 unfold laws_eqTable.f
 repeat' first
  | (with_reducible exact laws_eqIntS.mono _ _ _)
  | (with_reducible exact LeO.refl _)
  | (with_reducible exact LeO.none _)
  | (with_reducible refine LeO.ite ?_ ?_)
  | (with_reducible refine LeO.bind ?_ (fun _ => ?_))
  | exact laws_eqIntS.mono _ _ _
  | exact LeO.none _
  | refine LeO.ite ?_ ?_
  | refine LeO.bind ?_ (fun _ => ?_)
theorem laws_eqTable.calls (k : Nat) (a0_0 : Int) (A0_1 : Option Addr) (c0_1 : Nat) (l0_1 : List Int) (a1_0 : Int) (A1_1 : Option Addr) (c1_1 : Nat) (l1_1 : List Int) (r : Bool) (w : World) (hr0_1 : Kd.C (Kd.int .i64) w A0_1 l0_1.length l0_1) (hc0_1 : l0_1.length <= c0_1) (hr1_1 : Kd.C (Kd.int .i64) w A1_1 l1_1.length l1_1) (hc1_1 : l1_1.length <= c1_1) (h : laws_eqTable.f k a0_0 l0_1 a1_0 l1_1 = some r) :
 Calls Tryd.prog 11 #[.agg #[.int .i64 a0_0, .slice A0_1 l0_1.length c0_1], .agg #[.int .i64 a1_0, .slice A1_1 l1_1.length c1_1]] w fun e w' => e = .returned (.bool r) /\ Below w.heap.size w w' := by
 have hu28 := Tryd.underlying28
 have HR0_1 := Aside0.mk hr0_1
 have HC0_1 := Aside0.mk hc0_1
 clear hr0_1 hc0_1
 have HR1_1 := Aside0.mk hr1_1
 have HC1_1 := Aside0.mk hc1_1
 clear hr1_1 hc1_1
 have HB := Aside0.mk (Below.refl w.heap.size w)
 have H := h
 clear h
 unfold laws_eqTable.f at H
 replace H := ifQ H; rcases H with ⟨c3, H⟩ | ⟨c3, H⟩
 · have c3b0 := beq_iff_eq.mpr c3
   have c3b1 := bne_eq_false_iff_eq.mpr c3
   clear c3
   replace H := bindA H; obtain ⟨t152, A4, H⟩ := H
   replace H := ifX H; rcases H with ⟨rfl, H⟩ | ⟨rfl, H⟩
   · obtain rfl := Option.some.inj H
     go_enter Tryd.func11, Tryd.ntmps11
     go_wp2_with (first | ((with_reducible refine gate_dst (N := 2) rfl ?_); refine boxE (cs := #[.int .i64 a0_0, .slice A0_1 l0_1.length c0_1]) (t := 28) ?_; intro gb150 hg w6 hbox hb; refine E4b HB.1 hg hbox hb ?_; clear HB; intro HB BK150 GW150 GE150; clear hb hbox hg) | ((with_reducible refine gate_dst (N := 3) rfl ?_); refine boxE (cs := #[.int .i64 a1_0, .slice A1_1 l1_1.length c1_1]) (t := 28) ?_; intro gb151 hg w7 hbox hb; refine E7 (bB BK150.1 hb) (bS HB.1 hb) (hbox) (gX HB.1 hg) (gX HB.1 hg) (nB BK150.1 hg) (nC BK150.1 hg) ?_; clear BK150 HB; intro BK150 HB BK151 GW151 GE151 NB150_151 NB151_150; clear hb hbox hg; have hnb8 := NB150_151.1; have hnc8 := NB151_150.1; obtain ⟨hcz9_0, hcz9_1, hfz9_0, hfz9_1⟩ := cz2 BK150.1; obtain ⟨hcz10_0, hcz10_1, hfz10_0, hfz10_1⟩ := cz2 BK151.1) | ((with_reducible refine gate_callee (f := 33) rfl ?_); refine goesM (N := (some 14)) #[.slice A0_1 l0_1.length c0_1, .slice A1_1 l1_1.length c1_1] Tryd.func33 ?_; (with_reducible refine (laws_eqIntS.calls k _ _ l0_1 _ _ l1_1 true _ ?side1 ?side2 ?side3 ?side4 A4.1).mono ?_); (case side1 => exact CB (C_below HR0_1.1 HB.1)); (case side2 => exact HC0_1.1); (case side3 => exact CB (C_below HR1_1.1 HB.1)); (case side4 => exact HC1_1.1); rintro e w' ⟨rfl, ⟨nd, rfl⟩⟩; refine ⟨_, rfl, ?_⟩))
     go_ret
     exact ⟨RF, BL HB.1⟩
   obtain rfl := Option.some.inj H
   go_enter Tryd.func11, Tryd.ntmps11
   go_wp2_with (first | ((with_reducible refine gate_dst (N := 2) rfl ?_); refine boxE (cs := #[.int .i64 a0_0, .slice A0_1 l0_1.length c0_1]) (t := 28) ?_; intro gb150 hg w11 hbox hb; refine E4b HB.1 hg hbox hb ?_; clear HB; intro HB BK150 GW150 GE150; clear hb hbox hg) | ((with_reducible refine gate_dst (N := 3) rfl ?_); refine boxE (cs := #[.int .i64 a1_0, .slice A1_1 l1_1.length c1_1]) (t := 28) ?_; intro gb151 hg w12 hbox hb; refine E7 (bB BK150.1 hb) (bS HB.1 hb) (hbox) (gX HB.1 hg) (gX HB.1 hg) (nB BK150.1 hg) (nC BK150.1 hg) ?_; clear BK150 HB; intro BK150 HB BK151 GW151 GE151 NB150_151 NB151_150; clear hb hbox hg; have hnb13 := NB150_151.1; have hnc13 := NB151_150.1; obtain ⟨hcz14_0, hcz14_1, hfz14_0, hfz14_1⟩ := cz2 BK150.1; obtain ⟨hcz15_0, hcz15_1, hfz15_0, hfz15_1⟩ := cz2 BK151.1) | ((with_reducible refine gate_callee (f := 33) rfl ?_); refine goesM (N := (some 14)) #[.slice A0_1 l0_1.length c0_1, .slice A1_1 l1_1.length c1_1] Tryd.func33 ?_; (with_reducible refine (laws_eqIntS.calls k _ _ l0_1 _ _ l1_1 false _ ?side1 ?side2 ?side3 ?side4 A4.1).mono ?_); (case side1 => exact CB (C_below HR0_1.1 HB.1)); (case side2 => exact HC0_1.1); (case side3 => exact CB (C_below HR1_1.1 HB.1)); (case side4 => exact HC1_1.1); rintro e w' ⟨rfl, ⟨nd, rfl⟩⟩; refine ⟨_, rfl, ?_⟩))
   go_ret
   exact ⟨RF, BL HB.1⟩
 have c3b0 := beq_eq_false_iff_ne.mpr c3
 have c3b1 := bne_iff_ne.mpr c3
 obtain rfl := Option.some.inj H
 go_enter Tryd.func11, Tryd.ntmps11
 go_wp2_with (first | ((with_reducible refine gate_dst (N := 2) rfl ?_); refine boxE (cs := #[.int .i64 a0_0, .slice A0_1 l0_1.length c0_1]) (t := 28) ?_; intro gb150 hg w16 hbox hb; refine E4b HB.1 hg hbox hb ?_; clear HB; intro HB BK150 GW150 GE150; clear hb hbox hg) | ((with_reducible refine gate_dst (N := 3) rfl ?_); refine boxE (cs := #[.int .i64 a1_0, .slice A1_1 l1_1.length c1_1]) (t := 28) ?_; intro gb151 hg w17 hbox hb; refine E7 (bB BK150.1 hb) (bS HB.1 hb) (hbox) (gX HB.1 hg) (gX HB.1 hg) (nB BK150.1 hg) (nC BK150.1 hg) ?_; clear BK150 HB; intro BK150 HB BK151 GW151 GE151 NB150_151 NB151_150; clear hb hbox hg; have hnb18 := NB150_151.1; have hnc18 := NB151_150.1; obtain ⟨hcz19_0, hcz19_1, hfz19_0, hfz19_1⟩ := cz2 BK150.1; obtain ⟨hcz20_0, hcz20_1, hfz20_0, hfz20_1⟩ := cz2 BK151.1))
 go_ret
 exact ⟨RF, BL HB.1⟩
/-! ### laws_FnExactTableText: function 3 -/
open Kd
def laws_FnExactTableText.j0 : Nat -> Bool -> Int -> List Int -> Int -> List Int -> Option (Bool)
 | 0, _, _, _, _, _ => none
 | k + 1, x34, x154000, x154001, x166000, x166001 => if x34 = true then (some false) else ((laws_toTable.f k x154000 x154001).bind fun bt168 => ((laws_eqTable.f k x166000 x166001 bt168.1 bt168.2).bind fun t172 => (if t172 = true then (some true) else (some false))))
def laws_FnExactTableText.f (k : Nat) (a0_0 : Int) (l0_1 : List Int) : Option (Bool) := (laws_szTable.f a0_0 l0_1 1048576).bind fun t154 => (if t154 < 0 then (some true) else ((laws_toTable.f k a0_0 l0_1).bind fun bt155 => ((spec_TableText.f k bt155.1 bt155.2).bind fun bt159 => ((laws_toTable.f k a0_0 l0_1).bind fun bt161 => ((impl_TableText.f k bt161.1 bt161.2).bind fun bt166 => (if bt166.1.toList = bt159.1.toList then (laws_FnExactTableText.j0 k (bt166.2 != bt159.2) a0_0 l0_1 bt161.1 bt161.2) else (laws_FnExactTableText.j0 k true a0_0 l0_1 bt161.1 bt161.2)))))))
theorem laws_FnExactTableText.mono_l : ∀ k, (∀ y0 y1 y2 y3 y4, LeO (laws_FnExactTableText.j0 k y0 y1 y2 y3 y4) (laws_FnExactTableText.j0 (k + 1) y0 y1 y2 y3 y4))
 | 0 => fun _ _ _ _ _ r h => by simp [laws_FnExactTableText.j0] at h
 | k + 1 => by
  have ih0 := laws_FnExactTableText.mono_l k
  intros
  first | unfold laws_FnExactTableText.j0
  exact LM5 ih0 impl_TableText.mono laws_eqTable.mono laws_toTable.mono spec_TableText.mono
theorem laws_FnExactTableText.mono : ∀ a0 a1 k, LeO (laws_FnExactTableText.f k a0 a1) (laws_FnExactTableText.f (k + 1) a0 a1) := by
 intro a0 a1 k
 have ih0 := laws_FnExactTableText.mono_l k
 unfold laws_FnExactTableText.f
 exact LM5 ih0 impl_TableText.mono laws_eqTable.mono laws_toTable.mono spec_TableText.mono
theorem laws_FnExactTableText.calls (k : Nat) (a0_0 : Int) (A0_1 : Option Addr) (c0_1 : Nat) (l0_1 : List Int) (w : World) (hr0_1 : Kd.C (Kd.int .i64) w A0_1 l0_1.length l0_1) (hc0_1 : l0_1.length <= c0_1) (h : laws_FnExactTableText.f k a0_0 l0_1 = some true) :
 Calls Tryd.prog 3 #[.agg #[.int .i64 a0_0, .slice A0_1 l0_1.length c0_1]] w fun e w' => e = .returned (.bool true) /\ Below w.heap.size w w' := by
 have hu24 := Tryd.underlying24
 have hu28 := Tryd.underlying28
 have HR0_1 := Aside0.mk hr0_1
 have HC0_1 := Aside0.mk hc0_1
 clear hr0_1 hc0_1
 have HB := Aside0.mk (Below.refl w.heap.size w)
 have H := h
 clear h
 unfold laws_FnExactTableText.f at H
 replace H := bindA H; obtain ⟨t154, A2, H⟩ := H
 replace H := ifB H; rcases H with ⟨c3b0, H⟩ | ⟨c3b0, H⟩
 · first | (obtain rfl := Option.some.inj H) | clear H
   go_enter Tryd.func3, Tryd.ntmps3
   go_wp2_with (first | ((with_reducible refine gate_dst (N := 1) rfl ?_); refine boxE (cs := #[.int .i64 a0_0, .slice A0_1 l0_1.length c0_1]) (t := 24) ?_; intro gb153 hg w4 hbox hb; refine E4b HB.1 hg hbox hb ?_; clear HB; intro HB BK153 GW153 GE153; clear hb hbox hg; obtain ⟨hcz5_0, hcz5_1, hfz5_0, hfz5_1⟩ := cz2 BK153.1) | ((with_reducible refine gate_callee (f := 7) rfl ?_); refine goesM (N := (some 11)) #[.agg #[.int .i64 a0_0, .slice A0_1 l0_1.length c0_1], .int .i64 1048576] Tryd.func7 ?_; (with_reducible refine (laws_szTable.calls a0_0 _ _ l0_1 1048576 t154 _ ?side1 ?side2 A2.1).mono ?_); (case side1 => exact CB (C_below HR0_1.1 HB.1)); (case side2 => exact HC0_1.1); rintro e w6 ⟨rfl, hb⟩; refine ⟨_, rfl, ?_⟩; refine E2 (bB BK153.1 hb) (bS HB.1 hb) ?_; clear BK153 HB; intro BK153 HB; (try clear hb)))
   go_ret
   exact ⟨RF, BL HB.1⟩
 replace H := bindA H; obtain ⟨⟨t155, t156⟩, A7, H⟩ := H
 dsimp only at H
 replace H := bindA H; obtain ⟨⟨t159, t160⟩, A8, H⟩ := H
 dsimp only at H
 replace H := bindA H; obtain ⟨⟨t161, t162⟩, A9, H⟩ := H
 dsimp only at H
 replace H := bindA H; obtain ⟨⟨t166, t167⟩, A10, H⟩ := H
 dsimp only at H
 have HC11 := Aside0.mk H
 clear H
 go_enter Tryd.func3, Tryd.ntmps3
 go_upto_region 8 with (first | ((with_reducible refine gate_dst (N := 1) rfl ?_); refine boxE (cs := #[.int .i64 a0_0, .slice A0_1 l0_1.length c0_1]) (t := 24) ?_; intro gb153 hg w12 hbox hb; refine E4b HB.1 hg hbox hb ?_; clear HB; intro HB BK153 GW153 GE153; clear hb hbox hg; obtain ⟨hcz13_0, hcz13_1, hfz13_0, hfz13_1⟩ := cz2 BK153.1) | ((with_reducible refine gate_callee (f := 7) rfl ?_); refine goesM (N := (some 11)) #[.agg #[.int .i64 a0_0, .slice A0_1 l0_1.length c0_1], .int .i64 1048576] Tryd.func7 ?_; (with_reducible refine (laws_szTable.calls a0_0 _ _ l0_1 1048576 t154 _ ?side1 ?side2 A2.1).mono ?_); (case side1 => exact CB (C_below HR0_1.1 HB.1)); (case side2 => exact HC0_1.1); rintro e w14 ⟨rfl, hb⟩; refine ⟨_, rfl, ?_⟩; refine E2 (bB BK153.1 hb) (bS HB.1 hb) ?_; clear BK153 HB; intro BK153 HB; (try clear hb); obtain ⟨hcz15_0, hcz15_1, hfz15_0, hfz15_1⟩ := cz2 BK153.1) | ((with_reducible refine gate_callee (f := 9) rfl ?_); refine goesM (N := (some 16)) #[.agg #[.int .i64 a0_0, .slice A0_1 l0_1.length c0_1]] Tryd.func9 ?_; (with_reducible refine (laws_toTable.calls k a0_0 _ _ l0_1 t155 t156 _ ?side1 ?side2 A7.1).mono ?_); (case side1 => exact CB (C_below HR0_1.1 HB.1)); (case side2 => exact HC0_1.1); rintro e w16 ⟨v157, rfl, ho0, hb⟩; refine ⟨_, rfl, ?_⟩; refine E3 (R_lower ho0 (bZ HB.1)) (bB BK153.1 hb) (bS HB.1 hb) ?_; clear BK153 HB; intro HO158 BK153 HB; (try clear hb); (try clear ho0); obtain ⟨Ao17, co17, eo17⟩ := R_slice HO158.1; subst eo17) | ((with_reducible refine gate_callee (f := 8) rfl ?_); refine goesM (N := (some 17)) #[.agg #[.int .i64 t155, .slice Ao17 t156.length co17]] Tryd.func8 ?_; (with_reducible refine (spec_TableText.calls k t155 _ _ t156 t159 t160 _ ?side1 ?side2 A8.1).mono ?_); (case side1 => exact CB (R_reads' HO158.1).2.2); (case side2 => exact (R_reads' HO158.1).2.1); rintro e w18 ⟨rfl, hb⟩; refine ⟨_, rfl, ?_⟩; refine E3 (rB HO158.1 hb) (bB BK153.1 hb) (bS HB.1 hb) ?_; clear HO158 BK153 HB; intro HO158 BK153 HB; (try clear hb); obtain ⟨hcz19_0, hcz19_1, hfz19_0, hfz19_1⟩ := cz2 BK153.1) | ((with_reducible refine gate_callee (f := 9) rfl ?_); refine goesM (N := (some 21)) #[.agg #[.int .i64 a0_0, .slice A0_1 l0_1.length c0_1]] Tryd.func9 ?_; (with_reducible refine (laws_toTable.calls k a0_0 _ _ l0_1 t161 t162 _ ?side1 ?side2 A9.1).mono ?_); (case side1 => exact CB (C_below HR0_1.1 HB.1)); (case side2 => exact HC0_1.1); rintro e w20 ⟨v163, rfl, ho0, hb⟩; refine ⟨_, rfl, ?_⟩; refine E4 (R_elder' (PR HO158.1) (R_base ho0) hb) (R_lower (R_new' ho0 (R_lt (PR HO158.1))) (bZ HB.1)) (bB BK153.1 hb) (bS HB.1 hb) ?_; clear HO158 BK153 HB; intro HO158 HO164 BK153 HB; (try clear hb); (try clear ho0)) | ((with_reducible refine gate_dst (N := 6) rfl ?_); refine boxE (cs := #[.int .i64 0, .slice none 0 0]) (t := 28) ?_; intro gb165 hg w21 hbox hb; refine E9 (rB HO158.1 hb) (rB HO164.1 hb) (bB BK153.1 hb) (bS HB.1 hb) (hbox) (gX HB.1 hg) (gX HB.1 hg) (nB BK153.1 hg) (nC BK153.1 hg) ?_; clear HO158 HO164 BK153 HB; intro HO158 HO164 BK153 HB BK165 GW165 GE165 NB153_165 NB165_153; clear hb hbox hg; have hnb22 := NB165_153.1; have hnc22 := NB153_165.1; obtain ⟨hcz23_0, hcz23_1, hfz23_0, hfz23_1⟩ := cz2 BK165.1; obtain ⟨Ao24, co24, eo24⟩ := R_slice HO164.1; subst eo24) | ((with_reducible refine gate_callee (f := 10) rfl ?_); refine goesM (N := (some 24)) #[.agg #[.int .i64 t161, .slice Ao24 t162.length co24]] Tryd.func10 ?_; (with_reducible refine (impl_TableText.calls k t161 _ _ t162 t166 t167 _ ?side1 ?side2 A10.1).mono ?_); (case side1 => refine (R_reads' (e := 3) (base := w.heap.size) (ok := fun k_ => (True /\ some k_ ≠ (.slice Ao17 t156.length co17 : Value).ownBlock)) (n := t162.length) (c := co24) ?_).2.2; exact (by (with_reducible repeat (first | apply R_alloc | apply R_drewN | apply R_drew)); exact (R_mono (RQ gb165 1 (RQ gb165 0 (R_types HO164.1 BK165.1 (by decide)) _) _) (fun _ h_ => h_.1)))); (case side2 => exact (R_reads' HO164.1).2.1); rintro e w25 ⟨rfl, hb⟩; refine ⟨_, rfl, ?_⟩; refine E5 (R_below (by (with_reducible repeat (first | apply R_alloc | apply R_drewN | apply R_drew)); exact (R_mono (RQ gb165 1 (RQ gb165 0 (R_types HO158.1 BK165.1 (by decide)) _) _) (fun _ h_ => h_.1))) hb) (R_below (by (with_reducible repeat (first | apply R_alloc | apply R_drewN | apply R_drew)); exact (R_mono (RQ gb165 1 (RQ gb165 0 (R_types HO164.1 BK165.1 (by decide)) _) _) (fun _ h_ => h_.1))) hb) (blk_below (g := gb153) (o := .cells #[.int .i64 a0_0, .slice A0_1 l0_1.length c0_1] 24 (0, 0)) (PF1 NB153_165.1 BK153.1) hb) (blk_below (g := gb165) (o := .cells #[.int .i64 t161, .slice Ao24 t162.length co24] 28 (0, 0)) (PF0 BK165.1) hb) (bS HB.1 hb) ?_; clear HO158 HO164 BK153 BK165 HB; intro HO158 HO164 BK153 BK165 HB; (try clear hb)))
 (try simp only [Act.put, List.setIfInBounds_toArray, List.set_cons_zero, List.set_cons_succ])
 go_cut [34] (fun v34 wc => ∃ (kq : Nat) (x34_10 : Bool), v34 = .bool x34_10 /\ Aside0 (laws_FnExactTableText.j0 kq x34_10 a0_0 l0_1 t161 t162 = some true) /\ Aside0 (kq <= k) /\ Aside0 (Kd.R (Kd.int .i64) 3 wc w.heap.size (fun _ => True) (.slice Ao24 t162.length co24) t162) /\ Aside0 (wc.heap[gb153]? = some (.cells #[.int .i64 a0_0, (.slice A0_1 l0_1.length c0_1)] 24 (0, 0))) /\ Aside0 (wc.heap[gb165]? = some (.cells #[.int .i64 t161, (.slice Ao24 t162.length co24)] 28 (0, 0))) /\ Aside0 (Below w.heap.size w wc))
 case first =>
  have H := HC11.1
  clear HC11
  replace H := ifQ H; rcases H with ⟨c26, H⟩ | ⟨c26, H⟩
  · have c26b0 := beq_iff_eq.mpr c26
    have c26b1 := bne_eq_false_iff_eq.mpr c26
    clear c26
    (first | rw [c26b0] | (simp only [i64_w, i32_w]; rw [c26b0]) | skip)
    have H' := Aside0.mk H
    clear H
    go_wp2
    go_meet
    case rel => exact ⟨_, ((t167 != t160)), RG, H', ⟨by first | omega | exact Nat.le_refl _⟩, ⟨RPE (R_mono HO164.1 (fun _ hk => trivial))⟩, ⟨PB BK153.1⟩, ⟨PB BK165.1⟩, ⟨BL HB.1⟩⟩
  exact absurd H (by cases k <;> simp [laws_FnExactTableText.j0])
 clear HC11
 clear c3b0 hcz13_0 hcz13_1 hcz15_0 hcz15_1 hcz19_0 hcz19_1 hcz23_0 hcz23_1 hfz13_0 hfz13_1 hfz15_0 hfz15_1 hfz19_0 hfz19_1 hfz23_0 hfz23_1
 obtain ⟨kq, x34_10, rfl, HA, HJ10, HO_166001, BK153, BK165, HB⟩ := hcut
 cases kq with
 | zero => exact absurd HA.1 (by simp [laws_FnExactTableText.j0])
 | succ kj10 => ?_
 have H := HA.1
 clear HA
 simp only [laws_FnExactTableText.j0] at H
 replace H := ifF H (by simp); obtain ⟨rfl, H⟩ := H
 replace H := bindA H; obtain ⟨⟨t168, t169⟩, A28, H⟩ := H
 dsimp only at H
 replace H := bindA H; obtain ⟨t172, A29, H⟩ := H
 replace H := ifT H (by simp); obtain ⟨rfl, H⟩ := H
 first | (obtain rfl := Option.some.inj H) | clear H
 try go_wp2
 refine E4 (R_drew HO_166001.1) (blk_drew BK153.1) (blk_drew BK165.1) (below_drew1 HB.1) ?_
 clear HO_166001 BK153 BK165 HB
 intro HO_166001 BK153 BK165 HB
 refine start_ (n := 5) (S := fun w' => w'.cell? ⟨gb165, 0, none⟩ = some (.int .i64 t161) /\ w'.cell? ⟨gb165, 1, none⟩ = some (.slice Ao24 t162.length co24) /\ w'.cell? ⟨gb153, 0, none⟩ = some (.int .i64 a0_0) /\ w'.cell? ⟨gb153, 1, none⟩ = some (.slice A0_1 l0_1.length c0_1)) (ds := []) #[Zz,Zz,Zz,Zz,Zz] (by kernel_rfl) rfl rfl ⟨(blk_cell BK165.1 0).trans rfl, (blk_cell BK165.1 1).trans rfl, (blk_cell BK153.1 0).trans rfl, (blk_cell BK153.1 1).trans rfl⟩ (fun hHeld => ?_)
 generalize wc.drew = w31 at HO_166001 BK153 BK165 HB hHeld ⊢
 refine takeF 0 (N := some 35) hHeld ?_
 refine takeF 1 (N := some 36) hHeld ?_
 refine one_ (i := 2) (N := some 37) #[Yy,Yy,Yy,Zz,Zz] rfl rfl (by kernel_rfl) (by decide) (fun K hK => ?_)
 refine goes_ Tryd.func9 (by kernel_rfl) rfl #[.agg #[.int .i64 a0_0, .slice A0_1 l0_1.length c0_1]] (by rfl) rfl rfl (by (try simp only [List.map_toArray, List.map_cons, List.map_nil]); first | done | rfl | (simp only [List.length_drop, List.length_take]; rfl)) ?_
 with_reducible refine (laws_toTable.calls kj10 a0_0 _ _ l0_1 t168 t169 _ ?side1 ?side2 A28.1).mono ?_
 (case side1 => exact CB (C_below HR0_1.1 HB.1))
 (case side2 => exact HC0_1.1)
 rintro e w32 ⟨v170, rfl, ho0, hb⟩
 refine ⟨_, rfl, ?_⟩
 refine E5 (R_elder' (PR HO_166001.1) (R_base ho0) hb) (R_lower (R_new' ho0 (R_lt (PR HO_166001.1))) (bZ HB.1)) (bB BK153.1 hb) (bB BK165.1 hb) (bS HB.1 hb) ?_
 clear HO_166001 BK153 BK165 HB
 intro HO_166001 HO171 BK153 BK165 HB
 (try clear hb)
 (try clear hb2)
 (try clear hk)
 (try clear hi)
 (try clear ho0)
 obtain ⟨Ao33, co33, eo33⟩ := R_slice HO171.1
 (first | subst eo33 | (injection eo33 with f1_ f2_ f3_; have f4_ := f1_.symm; have f5_ := f3_.symm; clear f1_ f2_ f3_; subst f4_; subst f5_))
 refine hK.out _ _ ⟨(blk_cell BK165.1 0).trans rfl, (blk_cell BK165.1 1).trans rfl, (blk_cell BK153.1 0).trans rfl, (blk_cell BK153.1 1).trans rfl⟩ (fun hHeld => ?_)
 clear hK K
 refine norm_ (a' := ?_) ?_ ?_
 rotate_left
 · show Act.put _ (some 37) _ = _
   simp only [Act.put, List.setIfInBounds_toArray, List.set_cons_zero, List.set_cons_succ, i64_w, i32_w]
   rfl
 refine one_ (i := 3) (N := some 38) #[Yy,Yy,Yy,Yy,Zz] rfl rfl (by kernel_rfl) (by decide) (fun K hK => ?_)
 refine goes_ Tryd.func11 (by kernel_rfl) rfl #[.agg #[.int .i64 t161, .slice Ao24 t162.length co24], .agg #[.int .i64 t168, .slice Ao33 t169.length co33]] (by rfl) rfl rfl (by (try simp only [List.map_toArray, List.map_cons, List.map_nil]); first | done | rfl | (simp only [List.length_drop, List.length_take]; rfl)) ?_
 with_reducible refine (laws_eqTable.calls kj10 t161 _ _ t162 t168 _ _ t169 true _ ?side1 ?side2 ?side3 ?side4 A29.1).mono ?_
 (case side1 => exact CB (R_reads' HO_166001.1).2.2)
 (case side2 => exact (R_reads' HO_166001.1).2.1)
 (case side3 => exact CB (R_reads' HO171.1).2.2)
 (case side4 => exact (R_reads' HO171.1).2.1)
 rintro e w34 ⟨rfl, hb⟩
 refine ⟨_, rfl, ?_⟩
 refine E5 (rB HO_166001.1 hb) (rB HO171.1 hb) (bB BK153.1 hb) (bB BK165.1 hb) (bS HB.1 hb) ?_
 clear HO_166001 HO171 BK153 BK165 HB
 intro HO_166001 HO171 BK153 BK165 HB
 (try clear hb)
 (try clear hb2)
 (try clear hk)
 (try clear hi)
 refine hK.out _ _ ⟨(blk_cell BK165.1 0).trans rfl, (blk_cell BK165.1 1).trans rfl, (blk_cell BK153.1 0).trans rfl, (blk_cell BK153.1 1).trans rfl⟩ (fun hHeld => ?_)
 clear hK K
 refine norm_ (a' := ?_) ?_ ?_
 rotate_left
 · show Act.put _ (some 38) _ = _
   simp only [Act.put, List.setIfInBounds_toArray, List.set_cons_zero, List.set_cons_succ, i64_w, i32_w]
   rfl
 refine pure_ (i := 4) (N := some 39) (v := ?_) (a' := ?_) #[Yy,Yy,Yy,Yy,Yy] rfl rfl (by kernel_rfl) (fun _ _ _ h => h) (Or.inl ⟨by rfl, ?_⟩) ?_ ?_
 rotate_left
 · intro w'
   go_simp
   with_reducible rfl
 rotate_left
 · simp only [Act.put, List.setIfInBounds_toArray, List.set_cons_zero, List.set_cons_succ, i64_w, i32_w]
   rfl
 refine done_ (by kernel_rfl) ?_
 try go_wp2
 go_ret
 exact ⟨RF, BL HB.1⟩
end Go.Proofs.YtfekgidcnidijaaDoor.P
