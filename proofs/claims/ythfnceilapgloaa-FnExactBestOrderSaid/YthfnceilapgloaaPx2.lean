-- PRINTED by print.py (a twelfth state) out of the translation. Not trusted: Lean checks it.
import Derived.Test.YthfnceilapgloaaPx0
namespace Go.Proofs.Ythfnceilapgloaa.P
open Go.RowKit Go.Proofs.YthfnceilapgloaaW.PrintWords Go.Proofs.YthfnceilapgloaaW.PrintLast Go.Proofs.YthfnceilapgloaaW.PrintMore
attribute [local go_sem] max2_int min2_int max_two min_two max_three min_three max_four min_four   -- for this text's walks alone
set_option linter.unusedVariables false
set_option linter.unusedSimpArgs false
set_option maxHeartbeats 8000000
set_option maxRecDepth 100000

/-! ### slices_Index_int_int: function 35 -/
open Kd
def slices_Index_int_int.l0 : Nat -> List Int -> Int -> Int -> Int -> Option (Int)
 | 0, _, _, _, _ => none
 | k + 1, x0, x1, x7, x8 => if x8 < x7 then (if 0 <= x8 then (if x8 < (x0.length : Int) then (if x1 = (rd x0 x8) then (some x8) else (slices_Index_int_int.l0 k x0 x1 x7 (wrap64 (x8 + 1)))) else (none)) else (none)) else (some (-1))
def slices_Index_int_int.f (k : Nat) (l0 : List Int) (a1 : Int) : Option (Int) := slices_Index_int_int.l0 k l0 a1 (l0.length : Int) 0
theorem slices_Index_int_int.mono_l : ∀ k, (∀ y0 y1 y2 y3, LeO (slices_Index_int_int.l0 k y0 y1 y2 y3) (slices_Index_int_int.l0 (k + 1) y0 y1 y2 y3))
 | 0 => fun _ _ _ _ r h => by simp [slices_Index_int_int.l0] at h
 | k + 1 => by
  have ih0 := slices_Index_int_int.mono_l k
  intros
  first | unfold slices_Index_int_int.l0
  exact LM1 ih0
theorem slices_Index_int_int.mono : ∀ a0 a1 k, LeO (slices_Index_int_int.f k a0 a1) (slices_Index_int_int.f (k + 1) a0 a1) := by
 intro a0 a1 k
 have ih0 := slices_Index_int_int.mono_l k
 unfold slices_Index_int_int.f
 exact LM1 ih0
theorem slices_Index_int_int.calls (k : Nat) (A0 : Option Addr) (c0 : Nat) (l0 : List Int) (a1 : Int) (r : Int) (w : World) (hr0 : Kd.C (Kd.int .i64) w A0 l0.length l0) (hc0 : l0.length <= c0) (h : slices_Index_int_int.f k l0 a1 = some r) :
 Calls Try.prog 35 #[.slice A0 l0.length c0, .int .i64 a1] w fun e w' => e = .returned (.int .i64 r) /\ Drawn0 w w' := by
 have HR0 := Aside0.mk hr0
 have HC0 := Aside0.mk hc0
 clear hr0 hc0
 have H := h
 clear h
 unfold slices_Index_int_int.f at H
 have H' := Aside0.mk H
 clear H
 go_enter Try.func35, Try.ntmps35
 go_wp2
 go_loopg [8] k (fun kq v8 w' => ∃ (x8_1 : Int), v8 = .int .i64 x8_1 /\ Aside0 (slices_Index_int_int.l0 kq l0 a1 (l0.length : Int) x8_1 = some r) /\ Aside0 (kq <= k) /\ Drawn0 w w')
 case atStart => exact ⟨(0), RG, H', ⟨Nat.le_refl _⟩, DR⟩
 clear H'
 obtain ⟨x8_1, rfl, HA, HK1, ⟨m1, rfl⟩⟩ := hrel
 cases gk with
 | zero => exact absurd HA.1 (by simp [slices_Index_int_int.l0])
 | succ k1 => ?_
 have H := HA.1
 clear HA
 simp only [slices_Index_int_int.l0] at H
 replace H := ifB H; rcases H with ⟨c3b0, H⟩ | ⟨c3b0, H⟩
 · replace H := ifN H; obtain ⟨c4b0, H⟩ := H
   replace H := ifN H; obtain ⟨c5b0, H⟩ := H
   replace H := ifQ H; rcases H with ⟨c6, H⟩ | ⟨c6, H⟩
   · have c6b0 := beq_iff_eq.mpr c6
     have c6b1 := bne_eq_false_iff_eq.mpr c6
     clear c6
     obtain rfl := Option.some.inj H
     have p101 : 0 <= (x8_1 : Int) := OD
     have q101 : x8_1 < (l0.length : Int) := OD
     obtain ⟨ad101, e101, hx101_0⟩ := Kd.at_int HR0.1 x8_1 p101 q101
     cases e101
     replace p101 := eq_true p101
     replace q101 := eq_true q101
     go_wp2
     go_ret
     exact ⟨RG, DR⟩
   have c6b0 := beq_eq_false_iff_ne.mpr c6
   have c6b1 := bne_iff_ne.mpr c6
   have H' := Aside0.mk H
   clear H
   have p101 : 0 <= (x8_1 : Int) := OD
   have q101 : x8_1 < (l0.length : Int) := OD
   obtain ⟨ad101, e101, hx101_0⟩ := Kd.at_int HR0.1 x8_1 p101 q101
   cases e101
   replace p101 := eq_true p101
   replace q101 := eq_true q101
   go_wp2
   go_roundg k1
   case measure => have := HK1.1; omega
   case rel => exact ⟨(wrap64 (x8_1 + 1)), RG, H', ⟨by have := HK1.1; omega⟩, DR⟩
 obtain rfl := Option.some.inj H
 go_wp2
 go_ret
 exact ⟨RG, DR⟩
/-! ### slices_Contains_int_int: function 31 -/
open Kd
def slices_Contains_int_int.f (k : Nat) (l0 : List Int) (a1 : Int) : Option (Bool) := (slices_Index_int_int.f k l0 a1).bind fun t102 => (some (decide (t102 ≥ 0)))
theorem slices_Contains_int_int.mono : ∀ a0 a1 k, LeO (slices_Contains_int_int.f k a0 a1) (slices_Contains_int_int.f (k + 1) a0 a1) := by
 intro a0 a1 k
 unfold slices_Contains_int_int.f
 repeat' first
  | (with_reducible exact slices_Index_int_int.mono _ _ _)
  | (with_reducible exact LeO.refl _)
  | (with_reducible exact LeO.none _)
  | (with_reducible refine LeO.ite ?_ ?_)
  | (with_reducible refine LeO.bind ?_ (fun _ => ?_))
  | exact slices_Index_int_int.mono _ _ _
  | exact LeO.none _
  | refine LeO.ite ?_ ?_
  | refine LeO.bind ?_ (fun _ => ?_)
theorem slices_Contains_int_int.calls (k : Nat) (A0 : Option Addr) (c0 : Nat) (l0 : List Int) (a1 : Int) (r : Bool) (w : World) (hr0 : Kd.C (Kd.int .i64) w A0 l0.length l0) (hc0 : l0.length <= c0) (h : slices_Contains_int_int.f k l0 a1 = some r) :
 Calls Try.prog 31 #[.slice A0 l0.length c0, .int .i64 a1] w fun e w' => e = .returned (.bool r) /\ Drawn0 w w' := by
 have HR0 := Aside0.mk hr0
 have HC0 := Aside0.mk hc0
 clear hr0 hc0
 have H := h
 clear h
 unfold slices_Contains_int_int.f at H
 replace H := bindA H; obtain ⟨t102, A3, H⟩ := H
 obtain rfl := Option.some.inj H
 go_enter Try.func31, Try.ntmps31
 go_wp2_with (first | ((with_reducible refine gate_callee (f := 35) rfl ?_); refine goesM (N := (some 7)) #[.slice A0 l0.length c0, .int .i64 a1] Try.func35 ?_; (with_reducible refine (slices_Index_int_int.calls k _ _ l0 a1 t102 _ ?side1 ?side2 A3.1).mono ?_); (case side1 => repeat (first | exact HR0.1 | (with_reducible refine C_alloc ?_ _) | (with_reducible refine C_drewN ?_ _) | (with_reducible refine C_drew ?_))); (case side2 => exact HC0.1); rintro e w' ⟨rfl, ⟨nd, rfl⟩⟩; refine ⟨_, rfl, ?_⟩))
 go_ret
 exact ⟨RG, DR⟩

/-- THE ONE PURE STATEMENT of slices_Contains_int_int: yours. -/
def slices_Contains_int_int.Pure : Prop := ∀ (l0 : List Int) (a1 : Int), l0.length <= maxLen -> l0.length * 8 <= 140737488351232 -> (∀ x ∈ l0, (Lit.int .i64 x).wf = true) -> (Lit.int .i64 a1).wf = true -> ∃ k, slices_Contains_int_int.f k l0 a1 = some true
theorem slices_Contains_int_int.walk (P : slices_Contains_int_int.Pure) (a0 : Option Addr) (len0 cap0 : Nat) (z0 : List Int) (a1 : Int) (w : World) (w0 : (a0 = none /\ len0 = 0 /\ cap0 = 0 /\ z0 = []) ∨ ∃ x, a0 = some x /\ len0 <= cap0 /\ cap0 <= maxLen /\ z0.length = cap0 /\ (∀ i, i < z0.length -> w.cell? (x.add i) = some (.int .i64 (z0.getD i 0))) /\ ∀ n ∈ z0, (Lit.int .i64 n).wf = true) (y0 : len0 * 8 <= 140737488351232) (w1 : (Lit.int .i64 a1).wf = true) :
 Calls Try.prog 31 #[.slice a0 len0 cap0, .int .i64 a1] w fun e w' => e = .returned (.bool true) /\ Below w.heap.size w w' := by
 obtain ⟨l0, rfl, hr0, hm0, hw0, hc0⟩ := ReadsInt.ofRowC w0
 obtain ⟨k, h⟩ := P l0 a1 hm0 y0 hw0 w1
 refine (slices_Contains_int_int.calls k _ _ l0 a1 true w (C_of_reads (d := (0 : Int)) (h1 := fun _ => rfl) hr0) hc0 h).mono ?_
 rintro e w' ⟨rfl, hd⟩
 exact ⟨rfl, hd.below⟩

/-! ### laws_szIntS: function 13 -/
open Kd
def laws_szIntS.f (l0 : List Int) (a1 : Int) : Option (Int) := if (wrap64 (a1 - (l0.length : Int))) < 0 then (some (-1)) else (some (wrap64 (a1 - (l0.length : Int))))
theorem laws_szIntS.calls (A0 : Option Addr) (c0 : Nat) (l0 : List Int) (a1 : Int) (r : Int) (w : World) (hr0 : Kd.C (Kd.int .i64) w A0 l0.length l0) (hc0 : l0.length <= c0) (h : laws_szIntS.f l0 a1 = some r) :
 Calls Try.prog 13 #[.slice A0 l0.length c0, .int .i64 a1] w fun e w' => e = .returned (.int .i64 r) /\ Drawn0 w w' := by
 have HR0 := Aside0.mk hr0
 have HC0 := Aside0.mk hc0
 clear hr0 hc0
 have H := h
 clear h
 unfold laws_szIntS.f at H
 replace H := ifB H; rcases H with ⟨c3b0, H⟩ | ⟨c3b0, H⟩
 · obtain rfl := Option.some.inj H
   go_enter Try.func13, Try.ntmps13
   go_wp2
   go_ret
   exact ⟨RG, DR⟩
 obtain rfl := Option.some.inj H
 go_enter Try.func13, Try.ntmps13
 go_wp2
 go_ret
 exact ⟨RG, DR⟩
/-! ### laws_szTable: function 4 -/
open Kd
def laws_szTable.f (a0_0 : Int) (l0_1 : List Int) (a1 : Int) : Option (Int) := (laws_szIntS.f l0_1 a1).bind fun t104 => (if t104 < 0 then (some (-1)) else (some t104))
theorem laws_szTable.calls (a0_0 : Int) (A0_1 : Option Addr) (c0_1 : Nat) (l0_1 : List Int) (a1 : Int) (r : Int) (w : World) (hr0_1 : Kd.C (Kd.int .i64) w A0_1 l0_1.length l0_1) (hc0_1 : l0_1.length <= c0_1) (h : laws_szTable.f a0_0 l0_1 a1 = some r) :
 Calls Try.prog 4 #[.agg #[.int .i64 a0_0, .slice A0_1 l0_1.length c0_1], .int .i64 a1] w fun e w' => e = .returned (.int .i64 r) /\ Below w.heap.size w w' := by
 have hu24 := Try.underlying24
 have HR0_1 := Aside0.mk hr0_1
 have HC0_1 := Aside0.mk hc0_1
 clear hr0_1 hc0_1
 have HB := Aside0.mk (Below.refl w.heap.size w)
 have H := h
 clear h
 unfold laws_szTable.f at H
 replace H := bindA H; obtain ⟨t104, A3, H⟩ := H
 replace H := ifB H; rcases H with ⟨c4b0, H⟩ | ⟨c4b0, H⟩
 · obtain rfl := Option.some.inj H
   go_enter Try.func4, Try.ntmps4
   go_wp2_with (first | ((with_reducible refine gate_dst (N := 2) rfl ?_); refine boxE (cs := #[.int .i64 a0_0, .slice A0_1 l0_1.length c0_1]) (t := 24) ?_; intro gb103 hg w5 hbox hb; refine E4b HB.1 hg hbox hb ?_; clear HB; intro HB BK103 GW103 GE103; clear hb hbox hg; obtain ⟨hcz6_0, hcz6_1, hfz6_0, hfz6_1⟩ := cz2 BK103.1) | ((with_reducible refine gate_callee (f := 13) rfl ?_); refine goesM (N := (some 8)) #[.slice A0_1 l0_1.length c0_1, .int .i64 a1] Try.func13 ?_; (with_reducible refine (laws_szIntS.calls _ _ l0_1 a1 t104 _ ?side1 ?side2 A3.1).mono ?_); (case side1 => exact CB (C_below HR0_1.1 HB.1)); (case side2 => exact HC0_1.1); rintro e w' ⟨rfl, ⟨nd, rfl⟩⟩; refine ⟨_, rfl, ?_⟩))
   go_ret
   exact ⟨RF, BL HB.1⟩
 obtain rfl := Option.some.inj H
 go_enter Try.func4, Try.ntmps4
 go_wp2_with (first | ((with_reducible refine gate_dst (N := 2) rfl ?_); refine boxE (cs := #[.int .i64 a0_0, .slice A0_1 l0_1.length c0_1]) (t := 24) ?_; intro gb103 hg w7 hbox hb; refine E4b HB.1 hg hbox hb ?_; clear HB; intro HB BK103 GW103 GE103; clear hb hbox hg; obtain ⟨hcz8_0, hcz8_1, hfz8_0, hfz8_1⟩ := cz2 BK103.1) | ((with_reducible refine gate_callee (f := 13) rfl ?_); refine goesM (N := (some 8)) #[.slice A0_1 l0_1.length c0_1, .int .i64 a1] Try.func13 ?_; (with_reducible refine (laws_szIntS.calls _ _ l0_1 a1 t104 _ ?side1 ?side2 A3.1).mono ?_); (case side1 => exact CB (C_below HR0_1.1 HB.1)); (case side2 => exact HC0_1.1); rintro e w' ⟨rfl, ⟨nd, rfl⟩⟩; refine ⟨_, rfl, ?_⟩))
 go_ret
 exact ⟨RF, BL HB.1⟩
/-! ### spec_l1In: function 33 -/
open Kd
def spec_l1In.f (a0 : Int) (a1 : Int) (a2 : Int) : Option (Bool) := if a0 ≥ a1 then (some (decide (a0 <= a2))) else (some false)
theorem spec_l1In.calls (a0 : Int) (a1 : Int) (a2 : Int) (r : Bool) (w : World) (h : spec_l1In.f a0 a1 a2 = some r) :
 Calls Try.prog 33 #[.int .i64 a0, .int .i64 a1, .int .i64 a2] w fun e w' => e = .returned (.bool r) /\ Drawn0 w w' := by
 have H := h
 clear h
 unfold spec_l1In.f at H
 replace H := ifQ H; rcases H with ⟨c4, H⟩ | ⟨c4, H⟩
 · have c4b0 : decide (a1 <= a0) = true := decide_eq_true c4
   clear c4
   obtain rfl := Option.some.inj H
   go_enter Try.func33, Try.ntmps33
   go_wp2
   go_ret
   exact ⟨RG, DR⟩
 have c4b0 : decide (a1 <= a0) = false := decide_eq_false c4
 clear c4
 obtain rfl := Option.some.inj H
 go_enter Try.func33, Try.ntmps33
 go_wp2
 go_ret
 exact ⟨RG, DR⟩
/-! ### spec_ttInputs: function 23 -/
open Kd
def spec_ttInputs.f (a0 : Int) : Option (Bool) := (spec_l1In.f a0 0 4).bind fun t105 => (some t105)
theorem spec_ttInputs.calls (a0 : Int) (r : Bool) (w : World) (h : spec_ttInputs.f a0 = some r) :
 Calls Try.prog 23 #[.int .i64 a0] w fun e w' => e = .returned (.bool r) /\ Drawn0 w w' := by
 have H := h
 clear h
 unfold spec_ttInputs.f at H
 replace H := bindA H; obtain ⟨t105, A2, H⟩ := H
 obtain rfl := Option.some.inj H
 go_enter Try.func23, Try.ntmps23
 go_wp2_with (first | ((with_reducible refine gate_callee (f := 33) rfl ?_); refine goesM (N := (some 4)) #[.int .i64 a0, .int .i64 0, .int .i64 4] Try.func33 ?_; (with_reducible refine (spec_l1In.calls a0 0 4 t105 _ A2.1).mono ?_); rintro e w' ⟨rfl, ⟨nd, rfl⟩⟩; refine ⟨_, rfl, ?_⟩))
 go_ret
 exact ⟨RG, DR⟩

/-! ### spec_l1All: function 24 -/
open Kd
def spec_l1All.l0 : Nat -> Int -> Int -> List Int -> Int -> Int -> Option (Bool)
 | 0, _, _, _, _, _ => none
 | k + 1, x1, x2, x9, x10, x11 => if x11 < x10 then (if 0 <= x11 then (if x11 < (x9.length : Int) then ((spec_l1In.f (rd x9 x11) x1 x2).bind fun t107 => (if t107 = true then (spec_l1All.l0 k x1 x2 x9 x10 (wrap64 (x11 + 1))) else (some false))) else (none)) else (none)) else (some true)
def spec_l1All.f (k : Nat) (l0 : List Int) (a1 : Int) (a2 : Int) : Option (Bool) := spec_l1All.l0 k a1 a2 l0 (l0.length : Int) 0
theorem spec_l1All.mono_l : ∀ k, (∀ y0 y1 y2 y3 y4, LeO (spec_l1All.l0 k y0 y1 y2 y3 y4) (spec_l1All.l0 (k + 1) y0 y1 y2 y3 y4))
 | 0 => fun _ _ _ _ _ r h => by simp [spec_l1All.l0] at h
 | k + 1 => by
  have ih0 := spec_l1All.mono_l k
  intros
  first | unfold spec_l1All.l0
  exact LM1 ih0
theorem spec_l1All.mono : ∀ a0 a1 a2 k, LeO (spec_l1All.f k a0 a1 a2) (spec_l1All.f (k + 1) a0 a1 a2) := by
 intro a0 a1 a2 k
 have ih0 := spec_l1All.mono_l k
 unfold spec_l1All.f
 exact LM1 ih0
theorem spec_l1All.calls (k : Nat) (A0 : Option Addr) (c0 : Nat) (l0 : List Int) (a1 : Int) (a2 : Int) (r : Bool) (w : World) (hr0 : Kd.C (Kd.int .i64) w A0 l0.length l0) (hc0 : l0.length <= c0) (h : spec_l1All.f k l0 a1 a2 = some r) :
 Calls Try.prog 24 #[.slice A0 l0.length c0, .int .i64 a1, .int .i64 a2] w fun e w' => e = .returned (.bool r) /\ Drawn0 w w' := by
 have HR0 := Aside0.mk hr0
 have HC0 := Aside0.mk hc0
 clear hr0 hc0
 have H := h
 clear h
 unfold spec_l1All.f at H
 have H' := Aside0.mk H
 clear H
 go_enter Try.func24, Try.ntmps24
 go_wp2
 go_loopg [11] k (fun kq v11 w' => ∃ (x11_1 : Int), v11 = .int .i64 x11_1 /\ Aside0 (spec_l1All.l0 kq a1 a2 l0 (l0.length : Int) x11_1 = some r) /\ Aside0 (kq <= k) /\ Drawn0 w w')
 case atStart => exact ⟨(0), RG, H', ⟨Nat.le_refl _⟩, DR⟩
 clear H'
 obtain ⟨x11_1, rfl, HA, HK1, ⟨m1, rfl⟩⟩ := hrel
 cases gk with
 | zero => exact absurd HA.1 (by simp [spec_l1All.l0])
 | succ k1 => ?_
 have H := HA.1
 clear HA
 simp only [spec_l1All.l0] at H
 replace H := ifB H; rcases H with ⟨c4b0, H⟩ | ⟨c4b0, H⟩
 · replace H := ifN H; obtain ⟨c5b0, H⟩ := H
   replace H := ifN H; obtain ⟨c6b0, H⟩ := H
   replace H := bindA H; obtain ⟨t107, A7, H⟩ := H
   replace H := ifX H; rcases H with ⟨rfl, H⟩ | ⟨rfl, H⟩
   · have H' := Aside0.mk H
     clear H
     have p106 : 0 <= (x11_1 : Int) := OD
     have q106 : x11_1 < (l0.length : Int) := OD
     obtain ⟨ad106, e106, hx106_0⟩ := Kd.at_int HR0.1 x11_1 p106 q106
     cases e106
     replace p106 := eq_true p106
     replace q106 := eq_true q106
     go_wp2_with (first | ((with_reducible refine gate_callee (f := 33) rfl ?_); refine goesM (N := (some 18)) #[.int .i64 (rd l0 x11_1), .int .i64 a1, .int .i64 a2] Try.func33 ?_; (with_reducible refine (spec_l1In.calls (rd l0 x11_1) a1 a2 true _ A7.1).mono ?_); rintro e w' ⟨rfl, ⟨nd, rfl⟩⟩; refine ⟨_, rfl, ?_⟩))
     go_roundg k1
     case measure => have := HK1.1; omega
     case rel => exact ⟨(wrap64 (x11_1 + 1)), RG, H', ⟨by have := HK1.1; omega⟩, DR⟩
   obtain rfl := Option.some.inj H
   have p106 : 0 <= (x11_1 : Int) := OD
   have q106 : x11_1 < (l0.length : Int) := OD
   obtain ⟨ad106, e106, hx106_0⟩ := Kd.at_int HR0.1 x11_1 p106 q106
   cases e106
   replace p106 := eq_true p106
   replace q106 := eq_true q106
   go_wp2_with (first | ((with_reducible refine gate_callee (f := 33) rfl ?_); refine goesM (N := (some 18)) #[.int .i64 (rd l0 x11_1), .int .i64 a1, .int .i64 a2] Try.func33 ?_; (with_reducible refine (spec_l1In.calls (rd l0 x11_1) a1 a2 false _ A7.1).mono ?_); rintro e w' ⟨rfl, ⟨nd, rfl⟩⟩; refine ⟨_, rfl, ?_⟩))
   go_ret
   exact ⟨RG, DR⟩
 obtain rfl := Option.some.inj H
 go_wp2
 go_ret
 exact ⟨RG, DR⟩
/-! ### spec_ttGood: function 14 -/
open Kd
def spec_ttGood.f (k : Nat) (a0_0 : Int) (l0_1 : List Int) : Option (Bool) := (spec_ttInputs.f a0_0).bind fun t109 => (if t109 = true then (if 0 <= (IntKind.u64.wrap (a0_0)) then (if (l0_1.length : Int) = (shl .i64 1 (IntKind.u64.wrap (a0_0))) then ((spec_l1All.f k l0_1 0 1).bind fun t110 => (some t110)) else (some false)) else (none)) else (some false))
theorem spec_ttGood.mono : ∀ a0 a1 k, LeO (spec_ttGood.f k a0 a1) (spec_ttGood.f (k + 1) a0 a1) := by
 intro a0 a1 k
 unfold spec_ttGood.f
 repeat' first
  | (with_reducible exact spec_l1All.mono _ _ _ _)
  | (with_reducible exact LeO.refl _)
  | (with_reducible exact LeO.none _)
  | (with_reducible refine LeO.ite ?_ ?_)
  | (with_reducible refine LeO.bind ?_ (fun _ => ?_))
  | exact spec_l1All.mono _ _ _ _
  | exact LeO.none _
  | refine LeO.ite ?_ ?_
  | refine LeO.bind ?_ (fun _ => ?_)
theorem spec_ttGood.calls (k : Nat) (a0_0 : Int) (A0_1 : Option Addr) (c0_1 : Nat) (l0_1 : List Int) (r : Bool) (w : World) (hr0_1 : Kd.C (Kd.int .i64) w A0_1 l0_1.length l0_1) (hc0_1 : l0_1.length <= c0_1) (h : spec_ttGood.f k a0_0 l0_1 = some r) :
 Calls Try.prog 14 #[.agg #[.int .i64 a0_0, .slice A0_1 l0_1.length c0_1]] w fun e w' => e = .returned (.bool r) /\ Below w.heap.size w w' := by
 have hu28 := Try.underlying28
 have HR0_1 := Aside0.mk hr0_1
 have HC0_1 := Aside0.mk hc0_1
 clear hr0_1 hc0_1
 have HB := Aside0.mk (Below.refl w.heap.size w)
 have H := h
 clear h
 unfold spec_ttGood.f at H
 replace H := bindA H; obtain ⟨t109, A2, H⟩ := H
 replace H := ifX H; rcases H with ⟨rfl, H⟩ | ⟨rfl, H⟩
 · obtain ⟨ji4, hji4⟩ : ∃ j_ : Int, (IntKind.u64.wrap (a0_0)) = j_ := ⟨_, rfl⟩
   replace H : (if 0 <= (ji4) then (if (l0_1.length : Int) = (shl .i64 1 (ji4)) then ((spec_l1All.f k l0_1 0 1).bind fun t110 => (some t110)) else (some false)) else (none)) = some r := by first | (rw [hji4] at H; exact H) | (simp only [hji4] at H ⊢; exact H)
   (try rw [hji4] at A2)
   replace H := ifP H; obtain ⟨c5, H⟩ := H
   have c5b0 := eq_true c5
   have c5b1 := decide_eq_true c5
   clear c5
   obtain ⟨ji6, hji6⟩ : ∃ j_ : Int, (shl .i64 1 (ji4)) = j_ := ⟨_, rfl⟩
   replace H : (if (l0_1.length : Int) = (ji6) then ((spec_l1All.f k l0_1 0 1).bind fun t110 => (some t110)) else (some false)) = some r := by first | (rw [hji6] at H; exact H) | (simp only [hji6] at H ⊢; exact H)
   (try rw [hji6] at A2)
   have hji6_ : (IntKind.i64.wrap (1 * 2 ^ min (ji4).toNat 64)) = ji6 := hji6
   have hji6z : (ji4) <= 64 -> (IntKind.i64.wrap (1 * 2 ^ (ji4).toNat)) = ji6 := shl_small hji6
   have hji6u : (IntKind.i64.wrap (2 ^ min (ji4).toNat 64)) = ji6 := by have h_ := hji6_; rw [Int.one_mul] at h_; exact h_
   have hji6v : (ji4) <= 64 -> (IntKind.i64.wrap (2 ^ (ji4).toNat)) = ji6 := fun hle_ => by have h_ := hji6z hle_; rw [Int.one_mul] at h_; exact h_
   have hji6y : (wrap64 (1 * 2 ^ min (ji4).toNat 64)) = ji6 := (i64_w _).symm.trans hji6_
   have hji6x : (ji4) <= 64 -> (wrap64 (1 * 2 ^ (ji4).toNat)) = ji6 := fun h_ => (i64_w _).symm.trans (hji6z h_)
   replace H := ifQ H; rcases H with ⟨c7, H⟩ | ⟨c7, H⟩
   · have c7b0 := beq_iff_eq.mpr c7
     have c7b1 := bne_eq_false_iff_eq.mpr c7
     clear c7
     replace H := bindA H; obtain ⟨t110, A8, H⟩ := H
     obtain rfl := Option.some.inj H
     go_enter Try.func14, Try.ntmps14
     go_wp2_with (first | ((with_reducible refine gate_dst (N := 1) rfl ?_); (try (refine gate_guard (by rfl) ?_; dsimp only)); refine boxE (cs := #[.int .i64 a0_0, .slice A0_1 l0_1.length c0_1]) (t := 28) ?_; intro gb108 hg w9 hbox hb; refine E4b HB.1 hg hbox hb ?_; clear HB; intro HB BK108 GW108 GE108; clear hb hbox hg; obtain ⟨hcz10_0, hcz10_1, hfz10_0, hfz10_1⟩ := cz2 BK108.1) | ((with_reducible refine gate_callee (f := 23) rfl ?_); refine goesM (N := (some 5)) #[.int .i64 a0_0] Try.func23 ?_; (with_reducible refine (spec_ttInputs.calls a0_0 true _ A2.1).mono ?_); rintro e w' ⟨rfl, ⟨nd, rfl⟩⟩; refine ⟨_, rfl, ?_⟩) | (go_at_call 24; (with_reducible refine (spec_l1All.calls k _ _ l0_1 0 1 t110 _ ?side1 ?side2 A8.1).mono ?_); (case side1 => repeat (first | exact (C_below HR0_1.1 (BL HB.1)) | (with_reducible refine C_alloc ?_ _) | (with_reducible refine C_drewN ?_ _) | (with_reducible refine C_drew ?_))); (case side2 => exact HC0_1.1); rintro e w' ⟨rfl, ⟨nd, rfl⟩⟩))
     go_ret
     exact ⟨by first | rfl | (simp [errW_none, errW_some] <;> rfl) | (simp only [<- hji4, <- hji6]; first | rfl | (simp [errW_none, errW_some] <;> rfl)) | (simp [*, errW_none, errW_some] <;> rfl), BL HB.1⟩
   have c7b0 := beq_eq_false_iff_ne.mpr c7
   have c7b1 := bne_iff_ne.mpr c7
   obtain rfl := Option.some.inj H
   go_enter Try.func14, Try.ntmps14
   go_wp2_with (first | ((with_reducible refine gate_dst (N := 1) rfl ?_); (try (refine gate_guard (by rfl) ?_; dsimp only)); refine boxE (cs := #[.int .i64 a0_0, .slice A0_1 l0_1.length c0_1]) (t := 28) ?_; intro gb108 hg w11 hbox hb; refine E4b HB.1 hg hbox hb ?_; clear HB; intro HB BK108 GW108 GE108; clear hb hbox hg; obtain ⟨hcz12_0, hcz12_1, hfz12_0, hfz12_1⟩ := cz2 BK108.1) | ((with_reducible refine gate_callee (f := 23) rfl ?_); refine goesM (N := (some 5)) #[.int .i64 a0_0] Try.func23 ?_; (with_reducible refine (spec_ttInputs.calls a0_0 true _ A2.1).mono ?_); rintro e w' ⟨rfl, ⟨nd, rfl⟩⟩; refine ⟨_, rfl, ?_⟩))
   go_ret
   exact ⟨by first | rfl | (simp [errW_none, errW_some] <;> rfl) | (simp only [<- hji4, <- hji6]; first | rfl | (simp [errW_none, errW_some] <;> rfl)) | (simp [*, errW_none, errW_some] <;> rfl), BL HB.1⟩
 obtain rfl := Option.some.inj H
 go_enter Try.func14, Try.ntmps14
 go_wp2_with (first | ((with_reducible refine gate_dst (N := 1) rfl ?_); (try (refine gate_guard (by rfl) ?_; dsimp only)); refine boxE (cs := #[.int .i64 a0_0, .slice A0_1 l0_1.length c0_1]) (t := 28) ?_; intro gb108 hg w13 hbox hb; refine E4b HB.1 hg hbox hb ?_; clear HB; intro HB BK108 GW108 GE108; clear hb hbox hg; obtain ⟨hcz14_0, hcz14_1, hfz14_0, hfz14_1⟩ := cz2 BK108.1) | ((with_reducible refine gate_callee (f := 23) rfl ?_); refine goesM (N := (some 5)) #[.int .i64 a0_0] Try.func23 ?_; (with_reducible refine (spec_ttInputs.calls a0_0 false _ A2.1).mono ?_); rintro e w' ⟨rfl, ⟨nd, rfl⟩⟩; refine ⟨_, rfl, ?_⟩))
 go_ret
 exact ⟨RF, BL HB.1⟩

/-! ### spec_l1Has: function 25 -/
open Kd
def spec_l1Has.l0 : Nat -> Int -> List Int -> Int -> Int -> Option (Bool)
 | 0, _, _, _, _ => none
 | k + 1, x1, x7, x8, x9 => if x9 < x8 then (if 0 <= x9 then (if x9 < (x7.length : Int) then (if (rd x7 x9) = x1 then (some true) else (spec_l1Has.l0 k x1 x7 x8 (wrap64 (x9 + 1)))) else (none)) else (none)) else (some false)
def spec_l1Has.f (k : Nat) (l0 : List Int) (a1 : Int) : Option (Bool) := spec_l1Has.l0 k a1 l0 (l0.length : Int) 0
theorem spec_l1Has.mono_l : ∀ k, (∀ y0 y1 y2 y3, LeO (spec_l1Has.l0 k y0 y1 y2 y3) (spec_l1Has.l0 (k + 1) y0 y1 y2 y3))
 | 0 => fun _ _ _ _ r h => by simp [spec_l1Has.l0] at h
 | k + 1 => by
  have ih0 := spec_l1Has.mono_l k
  intros
  first | unfold spec_l1Has.l0
  exact LM1 ih0
theorem spec_l1Has.mono : ∀ a0 a1 k, LeO (spec_l1Has.f k a0 a1) (spec_l1Has.f (k + 1) a0 a1) := by
 intro a0 a1 k
 have ih0 := spec_l1Has.mono_l k
 unfold spec_l1Has.f
 exact LM1 ih0
theorem spec_l1Has.calls (k : Nat) (A0 : Option Addr) (c0 : Nat) (l0 : List Int) (a1 : Int) (r : Bool) (w : World) (hr0 : Kd.C (Kd.int .i64) w A0 l0.length l0) (hc0 : l0.length <= c0) (h : spec_l1Has.f k l0 a1 = some r) :
 Calls Try.prog 25 #[.slice A0 l0.length c0, .int .i64 a1] w fun e w' => e = .returned (.bool r) /\ Drawn0 w w' := by
 have HR0 := Aside0.mk hr0
 have HC0 := Aside0.mk hc0
 clear hr0 hc0
 have H := h
 clear h
 unfold spec_l1Has.f at H
 have H' := Aside0.mk H
 clear H
 go_enter Try.func25, Try.ntmps25
 go_wp2
 go_loopg [9] k (fun kq v9 w' => ∃ (x9_1 : Int), v9 = .int .i64 x9_1 /\ Aside0 (spec_l1Has.l0 kq a1 l0 (l0.length : Int) x9_1 = some r) /\ Aside0 (kq <= k) /\ Drawn0 w w')
 case atStart => exact ⟨(0), RG, H', ⟨Nat.le_refl _⟩, DR⟩
 clear H'
 obtain ⟨x9_1, rfl, HA, HK1, ⟨m1, rfl⟩⟩ := hrel
 cases gk with
 | zero => exact absurd HA.1 (by simp [spec_l1Has.l0])
 | succ k1 => ?_
 have H := HA.1
 clear HA
 simp only [spec_l1Has.l0] at H
 replace H := ifB H; rcases H with ⟨c3b0, H⟩ | ⟨c3b0, H⟩
 · replace H := ifN H; obtain ⟨c4b0, H⟩ := H
   replace H := ifN H; obtain ⟨c5b0, H⟩ := H
   replace H := ifQ H; rcases H with ⟨c6, H⟩ | ⟨c6, H⟩
   · have c6b0 := beq_iff_eq.mpr c6
     have c6b1 := bne_eq_false_iff_eq.mpr c6
     clear c6
     obtain rfl := Option.some.inj H
     have p111 : 0 <= (x9_1 : Int) := OD
     have q111 : x9_1 < (l0.length : Int) := OD
     obtain ⟨ad111, e111, hx111_0⟩ := Kd.at_int HR0.1 x9_1 p111 q111
     cases e111
     replace p111 := eq_true p111
     replace q111 := eq_true q111
     go_wp2
     go_ret
     exact ⟨RG, DR⟩
   have c6b0 := beq_eq_false_iff_ne.mpr c6
   have c6b1 := bne_iff_ne.mpr c6
   have H' := Aside0.mk H
   clear H
   have p111 : 0 <= (x9_1 : Int) := OD
   have q111 : x9_1 < (l0.length : Int) := OD
   obtain ⟨ad111, e111, hx111_0⟩ := Kd.at_int HR0.1 x9_1 p111 q111
   cases e111
   replace p111 := eq_true p111
   replace q111 := eq_true q111
   go_wp2
   go_roundg k1
   case measure => have := HK1.1; omega
   case rel => exact ⟨(wrap64 (x9_1 + 1)), RG, H', ⟨by have := HK1.1; omega⟩, DR⟩
 obtain rfl := Option.some.inj H
 go_wp2
 go_ret
 exact ⟨RG, DR⟩
/-! ### spec_l1Own: function 26 -/
open Kd
def spec_l1Own.f (l0 : List Int) : Option (List Int) := (some (([] : List Int) : List Int)).bind fun y112 => (if y112.length + l0.length < 17592186044416 then (some (y112 ++ l0)) else (none))
theorem spec_l1Own.calls (A0 : Option Addr) (c0 : Nat) (l0 : List Int) (r : List Int) (w : World) (hr0 : Kd.C (Kd.int .i64) w A0 l0.length l0) (hc0 : l0.length <= c0) (h : spec_l1Own.f l0 = some r) :
 Calls Try.prog 26 #[.slice A0 l0.length c0] w fun e w' => ∃ v0_ : Value, e = .returned (v0_) /\ Kd.R (Kd.int .i64) 3 w' w.heap.size (fun _ => True) v0_ r /\ Below w.heap.size w w' := by
 have HR0 := Aside0.mk hr0
 have HC0 := Aside0.mk hc0
 clear hr0 hc0
 have HB := Aside0.mk (Below.refl w.heap.size w)
 have H := h
 clear h
 unfold spec_l1Own.f at H
 replace H := nameB H; obtain ⟨y112, Ny112, H⟩ := H
 replace H := ifP H; obtain ⟨c2, H⟩ := H
 have LMc2 := Aside0.mk c2
 clear c2
 generalize hy115 : ((y112 ++ l0) : List Int) = y115 at H
 have Ny115 := Aside0.mk hy115.symm; clear hy115
 obtain rfl := Option.some.inj H
 go_enter Try.func26, Try.ntmps26
 go_wp2_with (first | ((with_reducible refine gate_dst (N := 3) rfl ?_); refine R_lit (Kd.int .i64) _ 3 ?hg (N := 3) ?hd (xs := ([] : List Int)) (inner := []) (ok := fun _ => True) (okp := fun _ => True) ?hr ?hp (fun _ hk => hk) trivial (Below.refl _ _) (Nat.le_refl _) (by simp) ?_; (case hd => rfl); (case hg => rfl); (case hr => first | (go_simp; done) | (go_simp; rfl)); (case hp => exact (Reps.none _ _)); intro v113 w3 ho4 hb hg_ hnew_; clear hg_ hnew_; (first | rw [<- Ny112.1] at ho4 | (simp only [Int.reduceToNat] at ho4; rw [<- Ny112.1] at ho4)); refine E2 (R_lower ho4 (bZ HB.1)) (bS HB.1 hb) ?_; clear HB; intro HO114 HB; clear hb ho4) | ((with_reducible refine gate_builtin (b := .append) (xs := #[.tmp 3, .tmp 4]) rfl ?_); at_builtin; refine R_append_rows (Kd.int .i64) (w0 := w) w.heap.size rfl (.tmp 3) (.tmp 4) 22 3 (.int .i64 0) 8 rfl Try.underlying22 info3 rfl (by decide) (by omega) v113 y112 l0 _ _ _ (fun _ => True) (fun _ => False) rfl rfl ?aO ?aR (fun _ _ h => h) (fun _ h => h.elim) ?aF ?aB ?aS ?aL ?_; (case aR => repeat (first | exact (C_below HR0.1 HB.1) | (with_reducible refine C_alloc ?_ _) | (with_reducible refine C_drewN ?_ _) | (with_reducible refine C_drew ?_))); (case aB => exact (BL HB.1)); (case aF => exact (fun _ _ => trivial)); (case aO => exact (PR HO114.1)); (case aS => exact (bZ HB.1)); (case aL => have := LMc2.1; omega); intro v116 w5 ho hb hg hat; rw [<- Ny115.1] at ho; refine E2 (hb) (ho) ?_; clear HB HO114; intro HB HO117; clear ho hb hg hat))
 go_ret
 exact ⟨_, RF, RPE (HO117.1), BL HB.1⟩
/-! ### spec_ddOrders: function 15 -/
open Kd
mutual
def spec_ddOrders.l0 : Nat -> Int -> List Int -> List (List Int) -> Int -> Option ((List (List Int)))
 | 0, _, _, _, _ => none
 | k + 1, x0, x1, x5, x6 => if x6 < x0 then ((spec_l1Has.f k x1 x6).bind fun t121 => (if t121 = true then (spec_ddOrders.l0 k x0 x1 x5 (wrap64 (x6 + 1))) else ((spec_l1Own.f x1).bind fun t122 => (if t122.length < 17592186044416 then ((spec_ddOrders.f k x0 (t122 ++ [x6])).bind fun t128 => (if x5.length + t128.length < 5864062014805 then (spec_ddOrders.l0 k x0 x1 (x5 ++ t128) (wrap64 (x6 + 1))) else (none))) else (none))))) else (some x5)
def spec_ddOrders.f : Nat -> Int -> List Int -> Option ((List (List Int)))
 | 0, _, _ => none
 | k + 1, a0, l1 => if (l1.length : Int) = a0 then (some (([l1] : List (List Int)))) else (spec_ddOrders.l0 k a0 l1 ([] : List (List Int)) 0)
end
theorem spec_ddOrders.mono_l : ∀ k, (∀ y0 y1, LeO (spec_ddOrders.f k y0 y1) (spec_ddOrders.f (k + 1) y0 y1)) /\ (∀ y0 y1 y2 y3, LeO (spec_ddOrders.l0 k y0 y1 y2 y3) (spec_ddOrders.l0 (k + 1) y0 y1 y2 y3))
 | 0 => by refine ⟨?_, ?_⟩ <;> (intros; intro r h; first | (simp [spec_ddOrders.f] at h; done) | (simp [spec_ddOrders.l0] at h; done))
 | k + 1 => by
  obtain ⟨ih0, ih1⟩ := spec_ddOrders.mono_l k
  refine ⟨?_, ?_⟩ <;> (
   intros
   first | unfold spec_ddOrders.f | unfold spec_ddOrders.l0
   exact LM3 ih0 ih1 spec_l1Has.mono)
theorem spec_ddOrders.mono : ∀ a0 a1 k, LeO (spec_ddOrders.f k a0 a1) (spec_ddOrders.f (k + 1) a0 a1) := by
 intro a0 a1 k
 obtain ⟨ih0, ih1⟩ := spec_ddOrders.mono_l k
 exact ih0 a0 a1
theorem spec_ddOrders.calls (k : Nat) : ∀ (a0 : Int) (P1_ : Nat -> Prop) (A1 : Option Addr) (c1 : Nat) (l1 : List Int) (r : List (List Int)) (w : World) (hs1 : Kd.V (Kd.int .i64) 3 w w.heap.size (fun k_ => P1_ k_) (.slice A1 l1.length c1) l1) (h : spec_ddOrders.f k a0 l1 = some r),
 Calls Try.prog 15 #[.int .i64 a0, .slice A1 l1.length c1] w fun e w' => ∃ v0_ : Value, e = .returned (v0_) /\ Kd.N (Kd.slice 3 (Kd.int .i64)) 22 w' w.heap.size (fun k_ => (P1_ k_ ∨ w.heap.size <= k_)) v0_ r /\ Below w.heap.size w w' := by
 induction k using Nat.strongRecOn with
 | _ k ih =>
 intro a0 P1_ A1 c1 l1 r w hs1 h
 cases k with
 | zero => exact absurd h (by simp [spec_ddOrders.f])
 | succ k =>
 simp only [spec_ddOrders.f] at h
 have HO1 := Aside0.mk (show Kd.V (Kd.int .i64) 3 w w.heap.size (fun k_ => (P1_ k_ ∨ w.heap.size <= k_)) (.slice A1 l1.length c1) l1 from V_mono hs1 (fun k_ hk => .inl hk))
 have HB := Aside0.mk (Below.refl w.heap.size w)
 have H : (if (l1.length : Int) = a0 then (some (([l1] : List (List Int)))) else (spec_ddOrders.l0 k a0 l1 ([] : List (List Int)) 0)) = some r := h
 clear h
 replace H := ifQ H; rcases H with ⟨c3, H⟩ | ⟨c3, H⟩
 · have c3b0 := beq_iff_eq.mpr c3
   have c3b1 := bne_eq_false_iff_eq.mpr c3
   clear c3
   generalize hy118 : ((([l1] : List (List Int))) : List (List Int)) = y118 at H
   have Ny118 := Aside0.mk hy118.symm; clear hy118
   obtain rfl := Option.some.inj H
   go_enter Try.func15, Try.ntmps15
   go_wp2_with (first | ((with_reducible refine gate_dst (N := 12) rfl ?_); refine N_lit (Kd.slice 3 (Kd.int .i64)) _ 22 ?hg (N' := 12) ?hd (xs := ([l1] : List (List Int))) (inner := [.slice A1 l1.length c1]) (ok := (fun k_ => (P1_ k_ ∨ w.heap.size <= k_))) (okp := (fun k_ => (P1_ k_ ∨ w.heap.size <= k_))) ?hr ?hp (fun _ hk => hk) ((show ∀ k_, w.heap.size <= k_ -> (fun k_ => (P1_ k_ ∨ w.heap.size <= k_)) k_ from fun k_ hk => (.inr (Nat.le_trans (bZ HB.1) hk))) _ (Nat.le_refl _)) (Below.refl _ _) (Nat.le_refl _) (by simp) ?_; (case hd => rfl); (case hg => rfl); (case hr => first | (go_simp; done) | (go_simp; rfl)); (case hp => exact (Reps.one (show Kd.FK (Kd.slice 3 (Kd.int .i64)) _ _ l1 [.slice A1 l1.length c1] from (Kd.FK_slice_mk (V_reads' (V_mono (ok' := (fun k_ => (P1_ k_ ∨ w.heap.size <= k_))) (HO1.1) (fun k_ hk => hk))).2.1 (V_F (V_mono (ok' := (fun k_ => (P1_ k_ ∨ w.heap.size <= k_))) (HO1.1) (fun k_ hk => hk))))) (Reps.none _ _))); intro v119 w4 ho5 hb hg_ hnew_; clear hg_ hnew_; (first | rw [<- Ny118.1] at ho5 | (simp only [Int.reduceToNat] at ho5; rw [<- Ny118.1] at ho5)); refine E3 (V_elder' (by (with_reducible repeat (first | apply V_alloc | apply V_drewN | apply V_drew)); exact HO1.1) (N_base ho5) hb) (N_lower ho5 (bZ HB.1)) (bS HB.1 hb) ?_; clear HO1 HB; intro HO1 HO120 HB; clear hb ho5))
   go_ret
   exact ⟨_, RF, by (with_reducible repeat (first | apply N_alloc | apply N_drewN | apply N_drew)); exact HO120.1, BL HB.1⟩
 have c3b0 := beq_eq_false_iff_ne.mpr c3
 have c3b1 := bne_iff_ne.mpr c3
 have H' := Aside0.mk H
 clear H
 go_enter Try.func15, Try.ntmps15
 go_wp2
 go_loopg [5, 6] k (fun kq v5 v6 w' => ∃ (x5_1 : List (List Int)) (x6_1 : Int), v6 = .int .i64 x6_1 /\ Aside0 (spec_ddOrders.l0 kq a0 l1 x5_1 x6_1 = some r) /\ Aside0 (kq <= k) /\ Aside0 (Kd.V (Kd.int .i64) 3 w' w.heap.size (fun k_ => (P1_ k_ ∨ w.heap.size <= k_) /\ some k_ ≠ (v5 : Value).ownBlock) (.slice A1 l1.length c1) l1) /\ Aside0 (Kd.N (Kd.slice 3 (Kd.int .i64)) 22 w' w.heap.size (fun k_ => (P1_ k_ ∨ w.heap.size <= k_)) v5 x5_1) /\ Aside0 (Below w.heap.size w w'))
 case atStart => exact ⟨(([] : List (List Int))), (0), RG, H', ⟨Nat.le_refl _⟩, ⟨by (with_reducible repeat (first | apply V_alloc | apply V_drewN | apply V_drew)); exact V_mono HO1.1 (fun _ hk => ⟨hk, (by simp [Value.ownBlock])⟩)⟩, ⟨by first | exact S_nil _ _ _ _ _ | exact N_nil _ _ _ _ _ | exact V_nil _ _ _ _ _ | exact Q_nil _ _ _ _ _ | exact R_nil _ _ _ _ _⟩, ⟨BL HB.1⟩⟩
 clear H'
 try clear c1; try clear c3; clear c3b0 c3b1
 obtain ⟨x5_1, x6_1, rfl, HA, HK1, HO_1, HO_5, HB⟩ := hrel
 cases gk with
 | zero => exact absurd HA.1 (by simp [spec_ddOrders.l0])
 | succ k1 => ?_
 have H := HA.1
 clear HA
 simp only [spec_ddOrders.l0] at H
 replace H := ifB H; rcases H with ⟨c6b0, H⟩ | ⟨c6b0, H⟩
 · replace H := bindA H; obtain ⟨t121, A7, H⟩ := H
   replace H := ifX H; rcases H with ⟨rfl, H⟩ | ⟨rfl, H⟩
   · have H' := Aside0.mk H
     clear H
     go_wp2_with (first | ((with_reducible refine gate_callee (f := 25) rfl ?_); refine goesM (N := (some 20)) #[.slice A1 l1.length c1, .int .i64 x6_1] Try.func25 ?_; (with_reducible refine (spec_l1Has.calls k1 _ _ l1 x6_1 true _ ?side1 ?side2 A7.1).mono ?_); (case side1 => repeat (first | exact (V_reads' HO_1.1).2.2 | (with_reducible refine C_alloc ?_ _) | (with_reducible refine C_drewN ?_ _) | (with_reducible refine C_drew ?_))); (case side2 => exact (V_reads' HO_1.1).2.1); rintro e w' ⟨rfl, ⟨nd, rfl⟩⟩; refine ⟨_, rfl, ?_⟩))
     go_roundg k1
     case measure => have := HK1.1; omega
     case rel => exact ⟨(x5_1), (wrap64 (x6_1 + 1)), RG, H', ⟨by have := HK1.1; omega⟩, ⟨by (with_reducible repeat (first | apply V_alloc | apply V_drewN | apply V_drew)); exact HO_1.1⟩, ⟨by (with_reducible repeat (first | apply N_alloc | apply N_drewN | apply N_drew)); exact HO_5.1⟩, ⟨BL HB.1⟩⟩
   replace H := bindA H; obtain ⟨t122, A9, H⟩ := H
   replace H := ifP H; obtain ⟨c10, H⟩ := H
   have LMc10 := Aside0.mk c10
   clear c10
   generalize hy125 : ((t122 ++ [x6_1]) : List Int) = y125 at H
   have Ny125 := Aside0.mk hy125.symm; clear hy125
   replace H := bindA H; obtain ⟨t128, A11, H⟩ := H
   replace H := ifP H; obtain ⟨c12, H⟩ := H
   have LMc12 := Aside0.mk c12
   clear c12
   generalize hy131 : ((x5_1 ++ t128) : List (List Int)) = y131 at H
   have Ny131 := Aside0.mk hy131.symm; clear hy131
   have H' := Aside0.mk H
   clear H
   go_wp2_with (first | ((with_reducible refine gate_callee (f := 25) rfl ?_); refine goesM (N := (some 20)) #[.slice A1 l1.length c1, .int .i64 x6_1] Try.func25 ?_; (with_reducible refine (spec_l1Has.calls k1 _ _ l1 x6_1 false _ ?side1 ?side2 A7.1).mono ?_); (case side1 => repeat (first | exact (V_reads' HO_1.1).2.2 | (with_reducible refine C_alloc ?_ _) | (with_reducible refine C_drewN ?_ _) | (with_reducible refine C_drew ?_))); (case side2 => exact (V_reads' HO_1.1).2.1); rintro e w' ⟨rfl, ⟨nd, rfl⟩⟩; refine ⟨_, rfl, ?_⟩) | ((with_reducible refine gate_callee (f := 26) rfl ?_); refine goesM (N := (some 25)) #[.slice A1 l1.length c1] Try.func26 ?_; (with_reducible refine (spec_l1Own.calls _ _ l1 t122 _ ?side1 ?side2 A9.1).mono ?_); (case side1 => repeat (first | exact (V_reads' HO_1.1).2.2 | (with_reducible refine C_alloc ?_ _) | (with_reducible refine C_drewN ?_ _) | (with_reducible refine C_drew ?_))); (case side2 => exact (V_reads' HO_1.1).2.1); rintro e w13 ⟨v123, rfl, ho0, hb⟩; refine ⟨_, rfl, ?_⟩; refine E4 (V_elder' (by (with_reducible repeat (first | apply V_alloc | apply V_drewN | apply V_drew)); exact HO_1.1) (R_base ho0) hb) (N_elder' (by (with_reducible repeat (first | apply N_alloc | apply N_drewN | apply N_drew)); exact HO_5.1) (R_base ho0) hb) (R_lower (R_newM (M := fun k_ => (w.heap.size <= k_)) ho0 (bZ HB.1) (fun k_ h_ => h_)) (bZ HB.1)) (bS HB.1 hb) ?_; clear HO_1 HO_5 HB; intro HO_1 HO_5 HO124 HB; (try clear hb); (try clear ho0)) | ((with_reducible refine gate_builtin (b := .append) (xs := #[.tmp 25, .tmp 27]) rfl ?_); at_builtin; refine R_append (Kd.int .i64) (w0 := w) w.heap.size rfl (.tmp 25) (.tmp 27) 22 3 (.int .i64 0) 8 rfl Try.underlying22 info3 rfl (by decide) (by omega) v123 t122 x6_1 [.int .i64 x6_1] (fun k_ => (w.heap.size <= k_)) (fun _ => False) rfl rfl ?aP (fun _ hk => hk.elim) ?aF ?aO ?aB ?aS ?aL ?_; (case aP => exact rfl); (case aB => exact (BL HB.1)); (case aF => exact (fun k_ hk => (Nat.le_trans (bZ HB.1) hk))); (case aO => exact (RPE (R_mono HO124.1 (fun _ hk => hk.1)))); (case aS => exact (bZ HB.1)); (case aL => have := LMc10.1; omega); intro v126 w14 ho hb hg hat; rw [<- Ny125.1] at ho; refine E4 (V_afterv (ok := (fun k_ => (P1_ k_ ∨ w.heap.size <= k_) /\ some k_ ≠ (u5 : Value).ownBlock)) (by (with_reducible repeat (first | apply V_alloc | apply V_drewN | apply V_drew)); exact HO_1.1) hg hat) (N_afterv (ok := (fun k_ => (P1_ k_ ∨ w.heap.size <= k_))) (by (with_reducible repeat (first | apply N_alloc | apply N_drewN | apply N_drew)); exact HO_5.1) hg hat) (hb) (ho) ?_; clear HO_1 HO_5 HB HO124; intro HO_1 HO_5 HB HO127; clear ho hb hg hat; obtain ⟨Ao15, co15, eo15⟩ := R_slice HO127.1; subst eo15) | ((with_reducible refine gate_callee (f := 15) rfl ?_); refine goesM (N := (some 29)) #[.int .i64 a0, .slice Ao15 y125.length co15] Try.func15 ?_; (with_reducible refine (ih k1 (by have := HK1.1; omega) a0 (fun k_ => some k_ = (.slice Ao15 y125.length co15 : Value).ownBlock) _ _ y125 t128 _ ?side1 A11.1).mono ?_); (case side1 => exact R_V (R_tight rfl (R_apart' (HO127.1) (N_typed HO_5.1) (by decide)))); rintro e w16 ⟨v129, rfl, ho0, hb⟩; refine ⟨_, rfl, ?_⟩; refine E5 (V_elder' (by (with_reducible repeat (first | apply V_alloc | apply V_drewN | apply V_drew)); exact HO_1.1) (N_base ho0) hb) (N_elder' (by (with_reducible repeat (first | apply N_alloc | apply N_drewN | apply N_drew)); exact HO_5.1) (N_base ho0) hb) (rB HO127.1 hb) (N_lower (N_mono (ok' := fun k_ => (P1_ k_ ∨ w.heap.size <= k_) /\ some k_ ≠ (u5 : Value).ownBlock) ho0 (fun k_ hk_ => ⟨Or.elim hk_ (fun hs_ => (.inr (((R_apart' (HO127.1) (N_typed HO_5.1) (by decide)).1 k_ hs_.symm).1))) (fun hn_ => (.inr (Nat.le_trans (bZ HB.1) hn_))), Or.elim hk_ (fun hs_ => ((R_apart' (HO127.1) (N_typed HO_5.1) (by decide)).1 k_ hs_.symm).2) (fun hn_ => (Kd.fresh' (N_lt (by (with_reducible repeat (first | apply N_alloc | apply N_drewN | apply N_drew)); exact HO_5.1)) k_ hn_))⟩)) (bZ HB.1)) (bS HB.1 hb) ?_; clear HO_1 HO_5 HO127 HB; intro HO_1 HO_5 HO127 HO130 HB; (try clear hb); (try clear ho0); obtain ⟨Ao18, co18, eo18⟩ := N_slice HO130.1; subst eo18) | ((with_reducible refine gate_builtin (b := .append) (xs := #[.tmp 22, .tmp 29]) rfl ?_); at_builtin; refine N_append_rows (Kd.slice 3 (Kd.int .i64)) (w0 := w) w.heap.size rfl (.tmp 22) (.tmp 29) 36 22 (.slice none 0 0) 24 rfl Try.underlying36 info22 rfl (by decide) (by omega) u5 x5_1 t128 _ _ _ (fun k_ => (P1_ k_ ∨ w.heap.size <= k_)) (fun k_ => ((fun k_ => (P1_ k_ ∨ w.heap.size <= k_))) k_ /\ some k_ ≠ (u5 : Value).ownBlock) rfl rfl ?aO ?aR (fun _ hk => hk) ?aF ?aB ?aS ?aL ?_; (case aR => exact (by skip; exact N_F (N_mono (ok' := (fun k_ => ((fun k_ => (P1_ k_ ∨ w.heap.size <= k_))) k_ /\ some k_ ≠ (u5 : Value).ownBlock)) (HO130.1) (fun k_ hk => ⟨hk.1, hk.2⟩)))); (case aB => exact (BL HB.1)); (case aF => exact (fun k_ hk => (.inr (Nat.le_trans (bZ HB.1) hk)))); (case aO => exact (by (with_reducible repeat (first | apply N_alloc | apply N_drewN | apply N_drew)); exact N_mono HO_5.1 (fun _ hk => hk.1.1))); (case aS => exact (bZ HB.1)); (case aL => have := LMc12.1; omega); intro v132 w17 ho hb hg hat; rw [<- Ny131.1] at ho; refine E5 (V_afterv (ok := (fun k_ => (P1_ k_ ∨ w.heap.size <= k_) /\ some k_ ≠ (.slice Ao15 y125.length co15 : Value).ownBlock /\ some k_ ≠ (.slice Ao18 t128.length co18 : Value).ownBlock)) (by (with_reducible repeat (first | apply V_alloc | apply V_drewN | apply V_drew)); exact V_mono HO_1.1 (fun _ hk => ⟨⟨hk.1.1.1, ⟨hk.1.2, hk.2⟩⟩, hk.1.1.2⟩)) hg hat) (R_over' (PR HO127.1) (N_typed (by (with_reducible repeat (first | apply N_alloc | apply N_drewN | apply N_drew)); exact HO_5.1)) (by decide) hg) (N_afterv (ok := (fun k_ => (P1_ k_ ∨ w.heap.size <= k_))) (by (with_reducible repeat (first | apply N_alloc | apply N_drewN | apply N_drew)); exact HO130.1) hg hat) (hb) (ho) ?_; clear HO_1 HO127 HO130 HB HO_5; intro HO_1 HO127 HO130 HB HO133; clear ho hb hg hat))
   go_roundg k1
   case measure => have := HK1.1; omega
   case rel => exact ⟨(y131), (wrap64 (x6_1 + 1)), RG, H', ⟨by have := HK1.1; omega⟩, ⟨by (with_reducible repeat (first | apply V_alloc | apply V_drewN | apply V_drew)); exact V_mono HO_1.1 (fun _ hk => ⟨hk.1.1, hk.2⟩)⟩, ⟨by (with_reducible repeat (first | apply N_alloc | apply N_drewN | apply N_drew)); exact HO133.1⟩, ⟨BL HB.1⟩⟩
 obtain rfl := Option.some.inj H
 go_wp2
 go_ret
 exact ⟨_, RF, by (with_reducible repeat (first | apply N_alloc | apply N_drewN | apply N_drew)); exact HO_5.1, BL HB.1⟩
/-! ### spec_ddMake: function 16 -/
open Kd
attribute [local go_sem] max2_int min2_int max_two min_two max_three min_three max_four min_four
theorem deqA63 (d : Nat) (w : World) (x0 y0 : Int) (x1 y1 : Int) (x2 y2 : Int) :
 (Op.equalIn (d + 2) 57 (.agg #[.int .i64 x0, .int .i64 x1, .int .i64 x2]) (.agg #[.int .i64 y0, .int .i64 y1, .int .i64 y2])).run Try.prog w = .ok (x0 == y0 && (x1 == y1 && (x2 == y2))) w := by
 refine eqA_of Try.underlying57 (by kernel_rfl) ?_
 refine eqf_cons (by rfl) (by go_simp; rfl) (by go_simp; rfl) (by go_simp) ?_
 refine eqf_cons (by rfl) (by go_simp; rfl) (by go_simp; rfl) (by go_simp) ?_
 exact eqf_last (by rfl) (by go_simp; rfl) (by go_simp; rfl) (by go_simp)
attribute [local go_sem high] deqA63
deriving instance DecidableEq for S57
/-- The place of the first equal node. -/
def dplace (x : S57) : List S57 -> Nat
 | [] => 0
 | y :: t => if x = y then 0 else dplace x t + 1
theorem dplace_skip {x : S57} : ∀ (ns : List S57) (i : Nat), i <= ns.length -> (∀ j, j < i -> ns[j]? ≠ some x) -> dplace x ns = i + dplace x (ns.drop i) /\ (x ∈ ns ↔ x ∈ ns.drop i)
 | ns, 0, _, _ => by simp
 | [], i + 1, h, _ => by simp at h
 | y :: t, i + 1, h, hn => by
  have h0 : x ≠ y := fun e => hn 0 (by omega) (by rw [e]; rfl)
  obtain ⟨q1, q2⟩ := dplace_skip t i (by simpa using h) (fun j hj => by simpa using hn (j + 1) (by omega))
  refine ⟨?_, by simp only [List.drop_succ_cons, List.mem_cons, h0, false_or, q2]⟩
  simp only [dplace, List.drop_succ_cons]
  rw [if_neg h0, q1]
  omega
/-- The reference's node: the one that is there, or a new one. -/
def dnode (ns : List S57) (x : S57) : List S57 × Int :=
 if x.f1 = x.f2 then (ns, x.f1) else if x ∈ ns then (ns, 2 + (dplace x ns : Int)) else (ns ++ [x], 2 + (ns.length : Int))
/-- A builder's nodes: block p holds the row. -/
def DSt (base p : Nat) (ns : List S57) (w : World) : Prop := ∃ v, w.heap[p]? = some (.cells #[v] 51 (0, 0)) /\ Kd.R k57 57 w base (fun _ => True) v ns
/-- What stays: the blocks of all other types. -/
def Stay (w w' : World) : Prop := w.heap.size <= w'.heap.size /\ ∀ (k : Nat) (cs : Array Value) (t : TypeId), w.heap[k]? = some (.cells cs t (0, 0)) -> t ≠ 51 -> t ≠ 57 -> w'.heap[k]? = some (.cells cs t (0, 0))
theorem Stay.of_below {w w' : World} (h : Below w.heap.size w w') : Stay w w' := ⟨below_size h, fun k cs t hk _ _ => blk_below hk h⟩
theorem Stay.trans {w w1 w2 : World} (h : Stay w w1) (h' : Stay w1 w2) : Stay w w2 := ⟨Nat.le_trans h.1 h'.1, fun k cs t hk a b => h'.2 k cs t (h.2 k cs t hk a b) a b⟩
theorem DSt.below {base p : Nat} {ns : List S57} {w w' : World} (h : DSt base p ns w) (hb : Below w.heap.size w w') : DSt base p ns w' := by
 obtain ⟨v, h1, h2⟩ := h
 exact ⟨v, blk_below h1 hb, R_below h2 hb⟩
theorem below_down {b b' : Nat} {w w' : World} (h : Below b w w') (hb : b' <= b) : Below b' w w' := h.mono hb
theorem dinfo57 : (Try.prog.info? 57).map (fun i => (i.zero, i.size, i.bytes)) = some (some (.agg #[.int .i64 0, .int .i64 0, .int .i64 0]), 3, 24) := by kernel_rfl
theorem cell_alloc_lt {w : World} {g j : Nat} {u : Value} {o : Obj} (h : w.cell? ⟨g, j, none⟩ = some u) (hg : g < w.heap.size) : (w.alloc o).cell? ⟨g, j, none⟩ = some u := ((Below.refl w.heap.size w).alloc (Nat.le_refl _) o |>.cell (p := ⟨g, j, none⟩) hg).trans h
theorem ddnode_same (p : Nat) (x : S57) (w : World) (hx : x.f1 = x.f2) :
 Calls Try.prog 34 #[.pointer (some ⟨p, 0, none⟩), .agg #[.int .i64 x.f0, .int .i64 x.f1, .int .i64 x.f2]] w fun e w' => e = .returned (.int .i64 x.f1) /\ Below w.heap.size w w' := by
 have hu57 := Try.underlying57
 have HB := Aside0.mk (Below.refl w.heap.size w)
 have c0 : (x.f1 == x.f2) = true := beq_iff_eq.mpr hx
 go_enter Try.func34, Try.ntmps34
 go_wp2_with (first | ((with_reducible refine gate_dst (N := 3) rfl ?_); refine boxE (cs := #[.int .i64 x.f0, .int .i64 x.f1, .int .i64 x.f2]) (t := 57) ?_; intro gb103 hg w4 hbox hb; refine E4b HB.1 hg hbox hb ?_; clear HB; intro HB BK103 GW103 GE103; clear hb hbox hg; obtain ⟨hcz5_0, hcz5_1, hcz5_2, hfz5_0, hfz5_1, hfz5_2⟩ := cz3 BK103.1))
 go_ret
 exact ⟨RF, BL HB.1⟩
theorem at_eq {ns : List S57} {x : S57} {i : Nat} (h : i < ns.length) : (x.f0 == (rd_T57 ns (i : Int)).f0 && (x.f1 == (rd_T57 ns (i : Int)).f1 && x.f2 == (rd_T57 ns (i : Int)).f2)) = decide (ns[i]? = some x) := by
 have e : rd_T57 ns (i : Int) = ns[i] := by simp [rd_T57, List.getD, h]
 rw [e, List.getElem?_eq_getElem h, Bool.eq_iff_iff]
 obtain ⟨a, b, c⟩ := x
 generalize ns[i] = y
 obtain ⟨a', b', c'⟩ := y
 simp
 constructor
 · rintro ⟨rfl, rfl, rfl⟩; exact ⟨rfl, rfl, rfl⟩
 · rintro ⟨rfl, rfl, rfl⟩; exact ⟨rfl, rfl, rfl⟩
theorem ddnode_calls (base p : Nat) (ns : List S57) (x0 x1 x2 : Int) (w : World) (h : DSt base p ns w) (hl : ns.length <= 1000) (hp : base <= p) (hbw : base <= w.heap.size) :
 Calls Try.prog 34 #[.pointer (some ⟨p, 0, none⟩), .agg #[.int .i64 x0, .int .i64 x1, .int .i64 x2]] w fun e w' => e = .returned (.int .i64 (dnode ns ⟨x0, x1, x2⟩).2) /\ DSt base p (dnode ns ⟨x0, x1, x2⟩).1 w' /\ Stay w w' /\ Below base w w' := by
 by_cases hx : x1 = x2
 · refine (ddnode_same p ⟨x0, x1, x2⟩ w hx).mono ?_
   rintro e w' ⟨rfl, hb⟩
   rw [show dnode ns ⟨x0, x1, x2⟩ = (ns, x1) from if_pos hx]
   exact ⟨rfl, h.below hb, Stay.of_below hb, hb.mono hbw⟩
 have hu57 := Try.underlying57
 have hu51 := Try.underlying51
 obtain ⟨v, hv, hR⟩ := h
 obtain ⟨A, c, ev, hc0, hC⟩ := R_reads hR
 subst ev
 have HC := Aside0.mk hC
 have HR := Aside0.mk hR
 have HV := Aside0.mk hv
 clear hC hR
 have HB := Aside0.mk (Below.refl w.heap.size w)
 have hcp : w.cell? ⟨p, 0, none⟩ = some (.slice A ns.length c) := (blk_cell hv 0).trans rfl
 have hfp := blk_frozen hv 0
 have hpl : p < w.heap.size := blk_lt hv
 clear hv
 have c0 : (x1 == x2) = false := beq_eq_false_iff_ne.mpr hx
 go_enter Try.func34, Try.ntmps34
 go_wp2_with (first | ((with_reducible refine gate_dst (N := 3) rfl ?_); refine boxE (cs := #[.int .i64 x0, .int .i64 x1, .int .i64 x2]) (t := 57) ?_; intro gb103 hg w4 hbox hb; refine E4b HB.1 hg hbox hb ?_; clear HB; intro HB BK103 GW103 GE103; clear hbox hg; obtain ⟨hcz5_0, hcz5_1, hcz5_2, hfz5_0, hfz5_1, hfz5_2⟩ := cz3 BK103.1; replace hcp := (hb.cell (p := ⟨p, 0, none⟩) hpl).trans hcp; clear hb))
 go_loopg [19] (ns.length + 1) (fun kq v19 w' => ∃ (x19 : Int) (i : Nat), v19 = .int .i64 x19 /\ Aside0 (x19 = (i : Int)) /\ Aside0 (kq + i = ns.length + 1) /\ Aside0 (i <= ns.length) /\ Aside0 (∀ j, j < i -> ns[j]? ≠ some ⟨x0, x1, x2⟩) /\ Aside0 (w'.heap[gb103]? = some (.cells #[.int .i64 x0, .int .i64 x1, .int .i64 x2] 57 (0, 0))) /\ Aside0 (Below w.heap.size w w'))
 case atStart => exact ⟨0, 0, rfl, ⟨rfl⟩, ⟨rfl⟩, ⟨Nat.zero_le _⟩, ⟨fun j h => by omega⟩, ⟨PB BK103.1⟩, ⟨BL HB.1⟩⟩
 clear hcz5_0 hcz5_1 hcz5_2 hfz5_0 hfz5_1 hfz5_2 hcp
 obtain ⟨x19, i, rfl, HI, HK, HL, HN, BK103, HB⟩ := hrel
 have hin : i <= ns.length := HL.1
 cases gk with
 | zero => have := HK.1; omega
 | succ k1 => ?_
 by_cases hi : i < ns.length
 · have c8 : decide (x19 < (ns.length : Int)) = true := decide_eq_true (by have := HI.1; omega)
   have c8b : decide (0 <= x19) = true := decide_eq_true (by have := HI.1; omega)
   have p104 : 0 <= (x19 : Int) := OD
   have q104 : x19 < (ns.length : Int) := OD
   obtain ⟨ad104, e104, hx104_0, hx104_1, hx104_2⟩ := at_T57 HC.1 x19 p104 q104
   cases e104
   replace hx104_0 := (HB.1.cell (World.block_lt_of_cell? w _ hx104_0)).trans hx104_0
   replace hx104_1 := (HB.1.cell (World.block_lt_of_cell? w _ hx104_1)).trans hx104_1
   replace hx104_2 := (HB.1.cell (World.block_lt_of_cell? w _ hx104_2)).trans hx104_2
   replace p104 := eq_true p104
   replace q104 := eq_true q104
   have he0 := at_eq (x := ⟨x0, x1, x2⟩) hi
   rw [<- HI.1] at he0
   by_cases he : ns[i]? = some ⟨x0, x1, x2⟩
   · have c11 : (x0 == (rd_T57 ns x19).f0 && (x1 == (rd_T57 ns x19).f1 && (x2 == (rd_T57 ns x19).f2))) = true := he0.trans (decide_eq_true he)
     have c11b : decide (x0 = (rd_T57 ns x19).f0 && (x1 == (rd_T57 ns x19).f1 && (x2 == (rd_T57 ns x19).f2))) = true := by simpa using c11
     clear he0
     go_wp2_with (first | ((with_reducible refine gate_dst (N := 6) rfl ?_); refine boxE (cs := #[.int .i64 0, .int .i64 0, .int .i64 0]) (t := 57) ?_; intro gb105 hg w12 hbox hb; refine E7 (bB BK103.1 hb) (bS HB.1 hb) (hbox) (gX HB.1 hg) (gX HB.1 hg) (nB BK103.1 hg) (nC BK103.1 hg) ?_; clear BK103 HB; intro BK103 HB BK105 GW105 GE105 NB103_105 NB105_103; clear hb hbox hg; have hnb13 := NB105_103.1; have hnc13 := NB103_105.1; obtain ⟨hcz14_0, hcz14_1, hcz14_2, hfz14_0, hfz14_1, hfz14_2⟩ := cz3 BK105.1; obtain ⟨hcz15_0, hcz15_1, hcz15_2, hfz15_0, hfz15_1, hfz15_2⟩ := cz3 BK103.1))
     go_ret
     obtain ⟨q1, q2⟩ := dplace_skip ns i hin HN.1
     have hd : ns.drop i = ns[i] :: ns.drop (i + 1) := List.drop_eq_getElem_cons hi
     have hxi : ns[i] = ⟨x0, x1, x2⟩ := by rw [List.getElem?_eq_getElem hi] at he; exact Option.some.inj he
     rw [hd, hxi] at q1 q2
     simp only [dplace, if_true, Nat.add_zero] at q1
     have hm : (⟨x0, x1, x2⟩ : S57) ∈ ns := q2.2 List.mem_cons_self
     rw [show dnode ns ⟨x0, x1, x2⟩ = (ns, 2 + (dplace ⟨x0, x1, x2⟩ ns : Int)) from (if_neg hx).trans (if_pos hm), q1]
     have ew : wrap64 (2 + x19) = 2 + (i : Int) := by
      have := HI.1
      unfold wrap64; omega
     refine ⟨?_, (fun hB2 => ⟨⟨_, blk_below HV.1 hB2, R_below HR.1 hB2⟩, Stay.of_below hB2, hB2.mono hbw⟩) (BL HB.1)⟩
     show Ending.returned (.int .i64 (wrap64 (2 + x19))) = .returned (.int .i64 (2 + (i : Int)))
     rw [ew]
   · have c11 : (x0 == (rd_T57 ns x19).f0 && (x1 == (rd_T57 ns x19).f1 && (x2 == (rd_T57 ns x19).f2))) = false := he0.trans (decide_eq_false he)
     have c11b : decide (x0 = (rd_T57 ns x19).f0 && (x1 == (rd_T57 ns x19).f1 && (x2 == (rd_T57 ns x19).f2))) = false := by simpa using c11
     have c11c : ¬ (x0 = (rd_T57 ns x19).f0 && (x1 == (rd_T57 ns x19).f1 && (x2 == (rd_T57 ns x19).f2))) := by simpa using c11
     clear he0
     go_wp2_with (first | ((with_reducible refine gate_dst (N := 6) rfl ?_); refine boxE (cs := #[.int .i64 0, .int .i64 0, .int .i64 0]) (t := 57) ?_; intro gb105 hg w16 hbox hb; refine E7 (bB BK103.1 hb) (bS HB.1 hb) (hbox) (gX HB.1 hg) (gX HB.1 hg) (nB BK103.1 hg) (nC BK103.1 hg) ?_; clear BK103 HB; intro BK103 HB BK105 GW105 GE105 NB103_105 NB105_103; clear hb hbox hg; have hnb17 := NB105_103.1; have hnc17 := NB103_105.1; obtain ⟨hcz18_0, hcz18_1, hcz18_2, hfz18_0, hfz18_1, hfz18_2⟩ := cz3 BK105.1; obtain ⟨hcz19_0, hcz19_1, hcz19_2, hfz19_0, hfz19_1, hfz19_2⟩ := cz3 BK103.1))
     go_roundg k1
     case measure => exact Nat.lt_succ_self _
     case rel =>
      refine ⟨(wrap64 (x19 + 1)), i + 1, RG, ⟨?_⟩, ⟨by have := HK.1; omega⟩, ⟨by omega⟩, ⟨fun j hj => ?_⟩, ⟨PF1 NB103_105.1 BK103.1⟩, ⟨BL HB.1⟩⟩
      · have := HI.1
        unfold wrap64; omega
      · by_cases e : j = i
        · rw [e]; exact he
        · exact HN.1 j (by omega)
 · have c8 : decide (x19 < (ns.length : Int)) = false := decide_eq_false (by have := HI.1; omega)
   have hcp : wr.cell? ⟨p, 0, none⟩ = some (.slice A ns.length c) := (HB.1.cell (p := ⟨p, 0, none⟩) hpl).trans ((blk_cell HV.1 0).trans rfl)
   obtain ⟨hcz19_0, hcz19_1, hcz19_2, hfz19_0, hfz19_1, hfz19_2⟩ := cz3 BK103.1
   have HRr := Aside0.mk (R_below HR.1 HB.1)
   have hnp : gb103 ≠ p := fun e => by have := GW103.1; omega
   go_wp2_with fail
   refine start_ (n := 11) (S := fun w' => w'.cell? ⟨p, 0, none⟩ = some (.slice A ns.length c) /\ w'.cell? ⟨gb103, 0, none⟩ = some (.int .i64 x0) /\ w'.cell? ⟨gb103, 1, none⟩ = some (.int .i64 x1) /\ w'.cell? ⟨gb103, 2, none⟩ = some (.int .i64 x2)) (ds := [7, 10]) #[Zz,Zz,Zz,Zz,Zz,Zz,Zz,Zz,Zz,Zz,Zz] (by kernel_rfl) rfl rfl ⟨hcp, hcz19_0, hcz19_1, hcz19_2⟩ (fun hHeld => ?_)
   have hBr : Below w.heap.size w wr.drew := below_drew1 HB.1
   have hRr : Kd.R k57 57 wr.drew base (fun _ => True) (.slice A ns.length c) ns := R_drew HRr.1
   have hVr : wr.drew.heap[p]? = some (.cells #[.slice A ns.length c] 51 (0, 0)) := blk_drew (blk_below HV.1 HB.1)
   have hgl : gb103 < wr.drew.heap.size := blk_lt (blk_drew BK103.1)
   clear hcp hcz19_0 hcz19_1 hcz19_2 hfz19_0 hfz19_1 hfz19_2
   generalize wr.drew = w22 at hHeld hBr hRr hVr hgl ⊢
   obtain ⟨hcp, hcz19_0, hcz19_1, hcz19_2⟩ := hHeld
   have hHeld := (⟨hcp, hcz19_0, hcz19_1, hcz19_2⟩ : _ /\ _ /\ _ /\ _)
   refine pureF 0 (N := some 30) rfl ?_
   refine pureF 1 (N := some 31) rfl ?_
   refine pureF 2 (N := some 32) rfl ?_
   refine pureF 3 (N := some 33) rfl ?_
   refine takeF 4 (N := some 34) hHeld ?_
   refine takeF 5 (N := some 35) hHeld ?_
   refine one_ (i := 6) (N := some 36) #[Yy,Yy,Yy,Yy,Yy,Yy,Yy,Zz,Zz,Zz,Zz] rfl rfl (by kernel_rfl) (by decide) (fun K hK => ?_)
   refine value_ (w1 := ?_) (v := ?_) (by rfl) rfl ?_ ?_
   rotate_left 2
   · go_simp
     constructor
     · rfl
     rfl
   refine hK.out _ _ ⟨(cell_alloc_lt hcp (blk_lt hVr)), (cell_alloc_lt hcz19_0 hgl), (cell_alloc_lt hcz19_1 hgl), (cell_alloc_lt hcz19_2 hgl)⟩ (fun hHeld => ?_)
   clear hK K
   refine norm_ (a' := ?_) ?_ ?_
   rotate_left
   · show Act.put _ (some 36) _ = _
     simp only [Act.put, List.setIfInBounds_toArray, List.set_cons_zero, List.set_cons_succ, i64_w, i32_w]
     rfl
   refine last_ (i := 7) (N := some 37) #[Yy,Yy,Yy,Yy,Yy,Yy,Yy,Yy,Zz,Zz,Zz] rfl rfl (by kernel_rfl) (by decide) (fun K hK => ?_)
   refine R_append_step k57 (w0 := w) base (by rfl) (.tmp 34) (.tmp 36) 38 57 (.agg #[.int .i64 0, .int .i64 0, .int .i64 0]) 24 rfl Try.underlying38 dinfo57 rfl (by decide) (by omega) (.slice A ns.length c) ns ⟨x0, x1, x2⟩ [.int .i64 x0, .int .i64 x1, .int .i64 x2] (fun _ => True) (fun _ => False) rfl rfl (k57_mkM _ _ _ ⟨x0, x1, x2⟩) (fun _ hk => hk.elim) (fun _ _ => trivial) hRr (hBr.mono hbw) (Nat.le_trans hbw hBr.size) (by omega) ?_
   intro v1 w24 ho hb hg hat
   obtain ⟨A1, cc1, ev1⟩ := R_slice ho
   subst ev1
   refine hK.out _ _ ?_
   clear hK K
   refine norm_ (a' := ?_) ?_ ?_
   rotate_left
   · show Act.put _ (some 37) _ = _
     simp only [Act.put, List.setIfInBounds_toArray, List.set_cons_zero, List.set_cons_succ, i64_w, i32_w]
     rfl
   have hV24 := blk_grown hVr hg (R_ne hRr hVr (by decide))
   have hcp : w24.cell? ⟨p, 0, none⟩ = some (.slice A ns.length c) := (blk_cell hV24 0).trans rfl
   have hfp2 := blk_frozen hV24 0
   refine pureF 8 (N := some 38) rfl ?_
   refine pureF 9 (N := some 39) rfl ?_
   refine last_ (i := 10) (N := none) #[Yy,Yy,Yy,Yy,Yy,Yy,Yy,Yy,Yy,Yy,Yy] rfl rfl (by kernel_rfl) (by decide) (fun K hK => ?_)
   refine skip_ (w1 := w24.setCell ⟨p, 0, none⟩ (.slice A1 (ns ++ [(⟨x0, x1, x2⟩ : S57)]).length cc1)) (by rfl) rfl ?_ ?_
   · go_simp
   refine hK.out _ _ ?_
   clear hK K
   refine done_ (by kernel_rfl) ?_
   have hV25 : (w24.setCell ⟨p, 0, none⟩ (.slice A1 (ns ++ [(⟨x0, x1, x2⟩ : S57)]).length cc1)).heap[p]? = some (.cells #[.slice A1 (ns ++ [(⟨x0, x1, x2⟩ : S57)]).length cc1] 51 (0, 0)) := (blk_put hV24 0 _ rfl).trans rfl
   have hR25 := R_set ho hV24 (by decide) 0 (.slice A1 (ns ++ [(⟨x0, x1, x2⟩ : S57)]).length cc1)
   have hB25 := hb.setCell (p := ⟨p, 0, none⟩) hp (.slice A1 (ns ++ [(⟨x0, x1, x2⟩ : S57)]).length cc1)
   have hS25 : Stay w (w24.setCell ⟨p, 0, none⟩ (.slice A1 (ns ++ [(⟨x0, x1, x2⟩ : S57)]).length cc1)) := by
    refine ⟨by have := hb.size; have := hBr.size; have := hg.size; simp [World.setCell]; omega, fun k cs t hk h93 h63 => ?_⟩
    have h1 := blk_below hk hBr
    refine blk_far (blk_grown h1 hg (R_ne hRr h1 (Ne.symm h63))) (fun e => ?_) _
    subst e
    rw [hVr] at h1
    cases h1
    exact h93 rfl
   have hcp25 := (blk_cell hV25 0).trans rfl
   generalize w24.setCell ⟨p, 0, none⟩ (.slice A1 (ns ++ [(⟨x0, x1, x2⟩ : S57)]).length cc1) = w25 at hV25 hR25 hB25 hS25 hcp25 ⊢
   go_wp2
   go_ret
   obtain ⟨q1, q2⟩ := dplace_skip ns i hin HN.1
   have hm : (⟨x0, x1, x2⟩ : S57) ∉ ns := fun h => by
    have := q2.1 h
    rw [List.drop_of_length_le (by omega)] at this
    simp at this
   rw [show dnode ns ⟨x0, x1, x2⟩ = (ns ++ [⟨x0, x1, x2⟩], 2 + (ns.length : Int)) from (if_neg hx).trans (if_neg hm)]
   refine ⟨?_, ⟨_, hV25, hR25⟩, hS25, hB25⟩
   show Ending.returned (.int .i64 (1 + ((ns.length : Int) + 1))) = .returned (.int .i64 (2 + (ns.length : Int)))
   rw [show 1 + ((ns.length : Int) + 1) = 2 + (ns.length : Int) by omega]
/-- The nodes and the reference for a table's values from an input on. -/
def dbld (vs : List Int) : Nat -> Nat -> Nat -> List S57 -> List S57 × Int
 | 0, _, f, ns => (ns, rd vs (f : Int))
 | d + 1, i, f, ns => dnode (dbld vs d (i + 1) (f + 2 ^ i) (dbld vs d (i + 1) f ns).1).1 ⟨(i : Int), (dbld vs d (i + 1) f ns).2, (dbld vs d (i + 1) (f + 2 ^ i) (dbld vs d (i + 1) f ns).1).2⟩
theorem dnode_len (ns : List S57) (x : S57) : (dnode ns x).1.length <= ns.length + 1 := by
 unfold dnode
 split
 · simp
 · split <;> simp
theorem dbld_len (vs : List Int) : ∀ (d i f : Nat) (ns : List S57), (dbld vs d i f ns).1.length + 1 <= ns.length + 2 ^ d
 | 0, _, _, _ => by simp [dbld]
 | d + 1, i, f, ns => by
  have h1 := dbld_len vs d (i + 1) f ns
  have h2 := dbld_len vs d (i + 1) (f + 2 ^ i) (dbld vs d (i + 1) f ns).1
  have h3 := dnode_len (dbld vs d (i + 1) (f + 2 ^ i) (dbld vs d (i + 1) f ns).1).1 ⟨(i : Int), (dbld vs d (i + 1) f ns).2, (dbld vs d (i + 1) (f + 2 ^ i) (dbld vs d (i + 1) f ns).1).2⟩
  simp only [dbld]
  rw [Nat.pow_succ]
  omega
theorem pow_le16 {i : Nat} (h : i <= 4) : (2 : Nat) ^ i <= 16 := Nat.le_trans (Nat.pow_le_pow_right (by decide) h) (by decide)
theorem u64_small {x : Int} (h0 : 0 <= x) (h1 : x <= 100) : IntKind.u64.wrap x = x := by
 unfold IntKind.wrap
 simp [IntKind.bits, IntKind.signed]
 omega
theorem wrap_small {x : Int} (h0 : 0 <= x) (h1 : x <= 1000000) : wrap64 x = x := by unfold wrap64; omega
theorem ddbuild_calls (W0 : World) (p n : Nat) (A : Option Addr) (c : Nat) (vs : List Int) (hC : Kd.C (Kd.int .i64) W0 A vs.length vs) (hn : n <= 4) (hvs : vs.length = 2 ^ n) (hp : W0.heap.size <= p) : ∀ (d i f : Nat) (xi xf xn : Int) (ns : List S57) (w : World), i + d = n -> f < 2 ^ i -> xi = (i : Int) -> xf = (f : Int) -> xn = (n : Int) -> ns.length + 2 ^ d <= 1000 -> Below W0.heap.size W0 w -> DSt W0.heap.size p ns w ->
 Calls Try.prog 27 #[.pointer (some ⟨p, 0, none⟩), .agg #[.int .i64 xn, .slice A vs.length c], .int .i64 xi, .int .i64 xf] w fun e w' => e = .returned (.int .i64 (dbld vs d i f ns).2) /\ DSt W0.heap.size p (dbld vs d i f ns).1 w' /\ Stay w w' /\ Below W0.heap.size W0 w' := by
 intro d
 have hu28 := Try.underlying28
 have hu57 := Try.underlying57
 have HC := Aside0.mk hC
 have HVS := Aside0.mk hvs
 clear hC hvs
 induction d with
 | zero =>
  intro i f xi xf xn ns w hi hf hxi hxf hxn hl hB hD
  have HB := Aside0.mk (Below.refl w.heap.size w)
  have HB0 := Aside0.mk hB
  have HD := Aside0.mk hD
  clear hB hD
  have c0 : (xi == xn) = true := beq_iff_eq.mpr (by omega)
  have hin : i = n := by omega
  have p104 : 0 <= (xf : Int) := by omega
  have q104 : xf < (vs.length : Int) := by rw [HVS.1, <- hin]; omega
  have HF := Aside0.mk hxf
  clear hxi hxf hxn hi hin hf
  obtain ⟨ad104, e104, hx104_0⟩ := Kd.at_int HC.1 xf p104 q104
  cases e104
  replace hx104_0 := (HB0.1.cell (World.block_lt_of_cell? W0 _ hx104_0)).trans hx104_0
  have hlt104 := World.block_lt_of_cell? w _ hx104_0
  replace p104 := eq_true p104
  replace q104 := eq_true q104
  go_enter Try.func27, Try.ntmps27
  go_wp2_with (first | ((with_reducible refine gate_dst (N := 5) rfl ?_); refine boxE (cs := #[.int .i64 xn, .slice (some ad104) vs.length c]) (t := 28) ?_; intro gb103 hg w4 hbox hb; refine E4b HB.1 hg hbox hb ?_; clear HB; intro HB BK103 GW103 GE103; clear hbox hg; obtain ⟨hcz5_0, hcz5_1, hfz5_0, hfz5_1⟩ := cz2 BK103.1; replace hx104_0 := (hb.cell hlt104).trans hx104_0; clear hb))
  go_ret
  refine ⟨?_, (fun hB2 => ⟨HD.1.below hB2, Stay.of_below hB2, HB0.1.trans (hB2.mono HB0.1.size)⟩) (BL HB.1)⟩
  show Ending.returned (.int .i64 (rd vs xf)) = .returned (.int .i64 (rd vs (f : Int)))
  rw [HF.1]
 | succ d ih =>
  intro i f xi xf xn ns w hi hf hxi hxf hxn hl hB hD
  have hp2 : (2 : Nat) ^ (i + 1) = 2 ^ i + 2 ^ i := by rw [Nat.pow_succ]; omega
  have hpd : (2 : Nat) ^ (d + 1) = 2 ^ d + 2 ^ d := by rw [Nat.pow_succ]; omega
  have hi16 := pow_le16 (show i <= 4 by omega)
  have hpos := Nat.two_pow_pos d
  have e1 : wrap64 (xi + 1) = ((i + 1 : Nat) : Int) := by rw [wrap_small (by omega) (by omega)]; omega
  have e2 : wrap64 (xf + wrap64 (2 ^ min (IntKind.u64.wrap xi).toNat 64)) = ((f + 2 ^ i : Nat) : Int) := by
   rw [u64_small (by omega) (by omega), hxi, show min (i : Int).toNat 64 = i by omega, show (2 : Int) ^ i = ((2 ^ i : Nat) : Int) by simp, hxf]
   have hz := hi16
   generalize (2 : Nat) ^ i = z at hf hz ⊢
   rw [wrap_small (x := (z : Int)) (by omega) (by omega), wrap_small (by omega) (by omega)]
   omega
  have hA := ih (i + 1) f (wrap64 (xi + 1)) xf xn ns
  have hB2 := ih (i + 1) (f + 2 ^ i) (wrap64 (xi + 1)) (wrap64 (xf + wrap64 (2 ^ min (IntKind.u64.wrap xi).toNat 64))) xn (dbld vs d (i + 1) f ns).1
  have l1 := dbld_len vs d (i + 1) f ns
  have l2 := dbld_len vs d (i + 1) (f + 2 ^ i) (dbld vs d (i + 1) f ns).1
  have hE : dbld vs (d + 1) i f ns = dnode (dbld vs d (i + 1) (f + 2 ^ i) (dbld vs d (i + 1) f ns).1).1 ⟨(i : Int), (dbld vs d (i + 1) f ns).2, (dbld vs d (i + 1) (f + 2 ^ i) (dbld vs d (i + 1) f ns).1).2⟩ := rfl
  rw [hE]
  clear hE
  generalize dbld vs d (i + 1) (f + 2 ^ i) (dbld vs d (i + 1) f ns).1 = R2 at *
  generalize dbld vs d (i + 1) f ns = R1 at *
  obtain ⟨n2, hi2⟩ := R2
  obtain ⟨n1, lo⟩ := R1
  simp only at *
  have hA1 : ∀ w, Below W0.heap.size W0 w -> DSt W0.heap.size p ns w -> _ := fun w => hA w (by omega) (by omega) e1 hxf hxn (by omega)
  have hA2 : ∀ w, Below W0.heap.size W0 w -> DSt W0.heap.size p n1 w -> _ := fun w => hB2 w (by omega) (by omega) e1 e2 hxn (by omega)
  have HA1 := Aside0.mk hA1
  have HA2 := Aside0.mk hA2
  have hl2 : n2.length <= 1000 := by omega
  have c0 : (xi == xn) = false := beq_eq_false_iff_ne.mpr (by omega)
  have cs : decide (0 <= IntKind.u64.wrap xi) = true := decide_eq_true (by rw [u64_small (by omega) (by omega)]; omega)
  have HXI := Aside0.mk hxi
  clear hA hB2 hA1 hA2 hpos l1 l2 hxi hxf hxn hi hf hl e1 e2 hp2 hpd hi16 ih
  rw [<- HXI.1]
  have HB0 := Aside0.mk hB
  have HD := Aside0.mk hD
  have HS := Aside0.mk (Stay.of_below (Below.refl w.heap.size w))
  clear hB hD
  go_enter Try.func27, Try.ntmps27
  go_wp2_with (first
   | ((with_reducible refine gate_dst (N := 5) rfl ?_); refine boxE (cs := #[.int .i64 xn, .slice A vs.length c]) (t := 28) ?_; intro gb103 hg w4 hbox hb; have n0_ := Aside0.mk (HB0.1.trans (hb.mono HB0.1.size)); have n1_ := Aside0.mk (HD.1.below hb); have n2_ := Aside0.mk (Stay.of_below hb); have BK103 := Aside0.mk hbox; clear HB0 HD HS; have HB0 := n0_; have HD := n1_; have HS := n2_; clear n0_ n1_ n2_ hbox hg hb; obtain ⟨hcz5_0, hcz5_1, hfz5_0, hfz5_1⟩ := cz2 BK103.1)
   | ((with_reducible refine gate_dst (N := 25) rfl ?_); refine goesM (N := some 25) #[.pointer (some ⟨p, 0, none⟩), .agg #[.int .i64 xn, .slice A vs.length c], .int .i64 (wrap64 (xi + 1)), .int .i64 xf] Try.func27 ?_; refine (HA1.1 _ HB0.1 HD.1).mono ?_; rintro e w6 ⟨rfl, hD6, hS6, hB6⟩; refine ⟨_, rfl, ?_⟩; refine E4 (hB6) (hD6) (HS.1.trans hS6) (hS6.2 _ _ _ BK103.1 (by decide) (by decide)) ?_; clear HB0 HD HS BK103 hcz5_0 hcz5_1 hfz5_0 hfz5_1 hD6 hS6 hB6; intro HB0 HD HS BK103; obtain ⟨hcz5_0, hcz5_1, hfz5_0, hfz5_1⟩ := cz2 BK103.1)
   | ((with_reducible refine gate_dst (N := 35) rfl ?_); refine goesM (N := some 35) #[.pointer (some ⟨p, 0, none⟩), .agg #[.int .i64 xn, .slice A vs.length c], .int .i64 (wrap64 (xi + 1)), .int .i64 (wrap64 (xf + wrap64 (2 ^ min (IntKind.u64.wrap xi).toNat 64)))] Try.func27 ?_; refine (HA2.1 _ HB0.1 HD.1).mono ?_; rintro e w6 ⟨rfl, hD6, hS6, hB6⟩; refine ⟨_, rfl, ?_⟩; refine E3 (hB6) (hD6) (HS.1.trans hS6) ?_; clear HB0 HD HS BK103 hcz5_0 hcz5_1 hfz5_0 hfz5_1 hD6 hS6 hB6; intro HB0 HD HS)
   | ((with_reducible refine gate_dst (N := 41) rfl ?_); refine goesM (N := some 41) #[.pointer (some ⟨p, 0, none⟩), .agg #[.int .i64 xi, .int .i64 lo, .int .i64 hi2]] Try.func34 ?_; refine (ddnode_calls W0.heap.size p n2 xi lo hi2 _ HD.1 hl2 hp HB0.1.size).mono ?_; rintro e w6 ⟨rfl, hD6, hS6, hB6⟩; refine ⟨_, rfl, ?_⟩; refine E3 (HB0.1.trans hB6) (hD6) (HS.1.trans hS6) ?_; clear HB0 HD HS hD6 hS6 hB6; intro HB0 HD HS))
  go_ret
  exact ⟨rfl, HD.1, HS.1, HB0.1⟩
def spec_ddMake.f (a0_0 : Int) (l0_1 : List Int) : Option (Int × List (S57) × Int) := if 0 <= a0_0 /\ a0_0 <= 4 /\ l0_1.length = 2 ^ a0_0.toNat then some (a0_0, (dbld l0_1 a0_0.toNat 0 0 []).1, (dbld l0_1 a0_0.toNat 0 0 []).2) else none
theorem ddmake_calls (n : Nat) (xn : Int) (A : Option Addr) (c : Nat) (vs : List Int) (w : World) (hC : Kd.C (Kd.int .i64) w A vs.length vs) (hxn : xn = (n : Int)) (hn : n <= 4) (hvs : vs.length = 2 ^ n) :
 Calls Try.prog 16 #[.agg #[.int .i64 xn, .slice A vs.length c]] w fun e w' => ∃ v1_ : Value, e = .returned (.agg #[.int .i64 xn, v1_, .int .i64 (dbld vs n 0 0 []).2]) /\ Kd.R k57 57 w' w.heap.size (fun _ => True) v1_ (dbld vs n 0 0 []).1 /\ Below w.heap.size w w' := by
 have hu28 := Try.underlying28
 have hu40 := Try.underlying40
 have hu51 := Try.underlying51
 have hB := fun p (hp : w.heap.size <= p) => ddbuild_calls w p n A c vs hC hn hvs hp n 0 0 0 0 xn [] 
 generalize dbld vs n 0 0 [] = R at *
 obtain ⟨ns, r⟩ := R
 simp only at *
 have hp16 := pow_le16 hn
 have hB1 := fun p (hp : w.heap.size <= p) w1 => hB p hp w1 (by omega) (by omega) rfl rfl hxn (by simp; omega)
 have HB1 := Aside0.mk hB1
 clear hB hB1 hxn hvs hn hp16 hC
 have HB := Aside0.mk (Below.refl w.heap.size w)
 go_enter Try.func16, Try.ntmps16
 go_wp2_with (first
  | ((with_reducible refine gate_dst (N := 1) rfl ?_); refine boxE (cs := #[.int .i64 xn, .slice A vs.length c]) (t := 28) ?_; intro gb1 hg w4 hbox hb; have n0_ := Aside0.mk (HB.1.trans (hb.mono HB.1.size)); have BK1 := Aside0.mk hbox; have GE1 := Aside0.mk (hg ▸ HB.1.size : w.heap.size <= gb1); clear HB; have HB := n0_; clear n0_ hbox hg hb; obtain ⟨hcz1_0, hcz1_1, hfz1_0, hfz1_1⟩ := cz2 BK1.1)
  | ((with_reducible refine gate_dst (N := 2) rfl ?_); refine boxE (cs := #[.int .i64 0, .slice none 0 0, .int .i64 0]) (t := 40) ?_; intro gb2 hg w5 hbox hb; have n0_ := Aside0.mk (HB.1.trans (hb.mono HB.1.size)); have n1_ := Aside0.mk (blk_below BK1.1 hb); have BK2 := Aside0.mk hbox; have GE2 := Aside0.mk (hg ▸ HB.1.size : w.heap.size <= gb2); have N12 := Aside0.mk (nB BK1.1 hg); clear HB BK1; have HB := n0_; have BK1 := n1_; clear n0_ n1_ hbox hg hb)
  | ((with_reducible refine gate_dst (N := 6) rfl ?_); refine boxE (cs := #[.slice none 0 0]) (t := 51) ?_; intro gb6 hg w6 hbox hb; have n0_ := Aside0.mk (HB.1.trans (hb.mono HB.1.size)); have n1_ := Aside0.mk (blk_below BK1.1 hb); have n2_ := Aside0.mk (blk_below BK2.1 hb); have BK6 := Aside0.mk hbox; have GE6 := Aside0.mk (hg ▸ HB.1.size : w.heap.size <= gb6); have N26 := Aside0.mk (nB BK2.1 hg); clear HB BK1 BK2; have HB := n0_; have BK1 := n1_; have BK2 := n2_; clear n0_ n1_ n2_ hbox hg hb; (try clear hcz1_0 hcz1_1 hfz1_0 hfz1_1); obtain ⟨hcz1_0, hcz1_1, hfz1_0, hfz1_1⟩ := cz2 BK1.1)
  | ((with_reducible refine gate_dst (N := 9) rfl ?_); refine goesM (N := some 9) #[.pointer (some ⟨gb6, 0, none⟩), .agg #[.int .i64 xn, .slice A vs.length c], .int .i64 0, .int .i64 0] Try.func27 ?_; refine (HB1.1 gb6 GE6.1 _ HB.1 ⟨_, BK6.1, R_nil _ _ _ _ _⟩).mono ?_; rintro e w7 ⟨rfl, hD6, hS6, hB6⟩; refine ⟨_, rfl, ?_⟩; refine E3 (hB6) (hS6.2 _ _ _ BK1.1 (by decide) (by decide)) (hS6.2 _ _ _ BK2.1 (by decide) (by decide)) ?_; clear HB BK1 BK2 BK6 hcz1_0 hcz1_1 hfz1_0 hfz1_1 hS6 hB6; intro HB BK1 BK2; obtain ⟨v, hv, hR⟩ := hD6; obtain ⟨A1, c1, ev⟩ := R_slice hR; subst ev; have HR := Aside0.mk hR; have BK6 := Aside0.mk hv; clear hv hR))
 obtain ⟨hcz1_0, hcz1_1, hfz1_0, hfz1_1⟩ := cz2 BK1.1
 have hcp : w7.cell? ⟨gb6, 0, none⟩ = some (.slice A1 ns.length c1) := (blk_cell BK6.1 0).trans rfl
 refine start_ (n := 9) (S := fun w' => w'.cell? ⟨gb1, 0, none⟩ = some (.int .i64 xn) /\ w'.cell? ⟨gb6, 0, none⟩ = some (.slice A1 ns.length c1)) (ds := [8]) #[Zz,Zz,Zz,Zz,Zz,Zz,Zz,Zz,Zz] (by kernel_rfl) rfl rfl ⟨hcz1_0, hcp⟩ (fun hHeld => ?_)
 refine E3 (below_drew1 HB.1) (R_drew HR.1) (blk_drew BK2.1) ?_
 clear HB HR BK1 BK2 BK6 hcz1_0 hcz1_1 hfz1_0 hfz1_1 hcp
 intro HB HR BK2
 generalize w7.drew = w8 at hHeld HB HR BK2 ⊢
 obtain ⟨hcz2_0, hcz2_1, hcz2_2, hfz2_0, hfz2_1, hfz2_2⟩ := cz3 BK2.1
 refine pureF 0 (N := some 10) rfl ?_
 refine pureF 2 (N := some 12) rfl ?_
 refine pureF 3 (N := some 13) rfl ?_
 refine pureF 4 (N := some 14) rfl ?_
 refine pureF 6 (N := some 16) rfl ?_
 refine takeF 1 (N := some 11) hHeld ?_
 refine takeF 5 (N := some 15) hHeld ?_
 refine pureF 7 (N := some 17) rfl ?_
 refine last_ (i := 8) (N := none) #[Yy,Yy,Yy,Yy,Yy,Yy,Yy,Yy,Yy] rfl rfl (by kernel_rfl) (by decide) (fun K hK => ?_)
 refine skip_ (w1 := ?_) (by rfl) rfl ?_ ?_
 rotate_left
 · go_simp
   rfl
 refine hK.out _ _ ?_
 clear hK K
 refine done_ (by kernel_rfl) ?_
 go_wp2
 refine bodyPost_ret (results_cell_row rfl _ _ gb2 40 #[.int .i64 xn, .slice A1 ns.length c1, .int .i64 r] (0, 0) _ rfl (PF0 BK2.1) Try.underlying40 rfl (by kernel_rfl)) rfl ?_
 exact ⟨_, rfl, R_set (R_set (R_set HR.1 BK2.1 (by decide) 0 _) (PF0 BK2.1) (by decide) 1 _) (PF0 BK2.1) (by decide) 2 _, BL HB.1⟩
theorem spec_ddMake.calls (a0_0 : Int) (A0_1 : Option Addr) (c0_1 : Nat) (l0_1 : List Int) (r1 : Int) (r2 : List (S57)) (r3 : Int) (w : World) (hr0_1 : Kd.C (Kd.int .i64) w A0_1 l0_1.length l0_1) (hc0_1 : l0_1.length <= c0_1) (h : spec_ddMake.f a0_0 l0_1 = some (r1, r2, r3)) :
 Calls Try.prog 16 #[.agg #[.int .i64 a0_0, .slice A0_1 l0_1.length c0_1]] w fun e w' => ∃ v1_ : Value, e = .returned (.agg #[.int .i64 r1, v1_, .int .i64 r3]) /\ Kd.R k57 57 w' w.heap.size (fun _ => True) v1_ r2 /\ Below w.heap.size w w' := by
 unfold spec_ddMake.f at h
 obtain ⟨⟨h0, h1, h2⟩, h⟩ := ifP h
 cases h
 exact ddmake_calls a0_0.toNat a0_0 A0_1 c0_1 l0_1 w hr0_1 (by omega) (by omega) h2

/-! ### spec_ttBit: function 28 -/
open Kd
def spec_ttBit.f (a0 : Int) (a1 : Int) : Option (Int) := if 0 <= (IntKind.u64.wrap (a1)) then (some (Go.bits .and .i64 (shr .i64 a0 (IntKind.u64.wrap (a1))) 1)) else (none)
theorem spec_ttBit.calls (a0 : Int) (a1 : Int) (r : Int) (w : World) (h : spec_ttBit.f a0 a1 = some r) :
 Calls Try.prog 28 #[.int .i64 a0, .int .i64 a1] w fun e w' => e = .returned (.int .i64 r) /\ Drawn0 w w' := by
 have H := h
 clear h
 unfold spec_ttBit.f at H
 obtain ⟨ji3, hji3⟩ : ∃ j_ : Int, (IntKind.u64.wrap (a1)) = j_ := ⟨_, rfl⟩
 replace H : (if 0 <= (ji3) then (some (Go.bits .and .i64 (shr .i64 a0 (ji3)) 1)) else (none)) = some r := by first | (rw [hji3] at H; exact H) | (simp only [hji3] at H ⊢; exact H)
 replace H := ifP H; obtain ⟨c4, H⟩ := H
 have c4b0 := eq_true c4
 have c4b1 := decide_eq_true c4
 clear c4
 obtain ⟨ji5, hji5⟩ : ∃ j_ : Int, (shr .i64 a0 (ji3)) = j_ := ⟨_, rfl⟩
 replace H : (some (Go.bits .and .i64 (ji5) 1)) = some r := by first | (rw [hji5] at H; exact H) | (simp only [hji5] at H ⊢; exact H)
 have hji5_ : (a0 / 2 ^ min (ji3).toNat 64) = ji5 := hji5
 have hji5z : (ji3) <= 64 -> (a0 / 2 ^ (ji3).toNat) = ji5 := shr_small hji5
 obtain rfl := Option.some.inj H
 go_enter Try.func28, Try.ntmps28
 go_wp2
 go_ret
 exact ⟨by first | rfl | (simp; done) | (simp only [<- hji3, <- hji5] <;> (first | rfl | simp)) | (simp [*]; done), DR⟩
end Go.Proofs.Ythfnceilapgloaa.P
