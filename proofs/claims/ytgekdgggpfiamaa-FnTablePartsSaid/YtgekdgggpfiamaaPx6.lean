-- PRINTED by print.py (a twelfth state) out of the translation. Not trusted: Lean checks it.
import Derived.Test.YtgekdgggpfiamaaPx0
import Derived.Test.YtgekdgggpfiamaaPx2
import Derived.Test.YtgekdgggpfiamaaPx3
import Derived.Test.YtgekdgggpfiamaaPx4
import Derived.Test.YtgekdgggpfiamaaPx5
namespace Go.Proofs.Ytgekdgggpfiamaa.P
open Go.RowKit Go.Proofs.YtgekdgggpfiamaaW.PrintWords Go.Proofs.YtgekdgggpfiamaaW.PrintLast Go.Proofs.YtgekdgggpfiamaaW.PrintMore
attribute [local go_sem] max2_int min2_int max_two min_two max_three min_three max_four min_four   -- for this text's walks alone
set_option linter.unusedVariables false
set_option linter.unusedSimpArgs false
set_option maxHeartbeats 8000000
set_option maxRecDepth 100000

/-! ### laws_qTable: function 29 -/
open Kd
def laws_qTable.f (k : Nat) (a0_0 : Int) (l0_1 : List Int) (a1_0 : Int) (l1_1 : List Int) : Option (Bool) := if a0_0 = a1_0 then ((laws_qInts.f k l0_1 l1_1).bind fun t393 => (some t393)) else (some false)
theorem laws_qTable.mono : ∀ a0 a1 a2 a3 k, LeO (laws_qTable.f k a0 a1 a2 a3) (laws_qTable.f (k + 1) a0 a1 a2 a3) := by
 intro a0 a1 a2 a3 k
 unfold laws_qTable.f
 repeat' first
  | (with_reducible exact laws_qInts.mono _ _ _)
  | (with_reducible exact LeO.refl _)
  | (with_reducible exact LeO.none _)
  | (with_reducible refine LeO.ite ?_ ?_)
  | (with_reducible refine LeO.bind ?_ (fun _ => ?_))
  | exact laws_qInts.mono _ _ _
  | exact LeO.none _
  | refine LeO.ite ?_ ?_
  | refine LeO.bind ?_ (fun _ => ?_)
theorem laws_qTable.calls (k : Nat) (a0_0 : Int) (A0_1 : Option Addr) (c0_1 : Nat) (l0_1 : List Int) (a1_0 : Int) (A1_1 : Option Addr) (c1_1 : Nat) (l1_1 : List Int) (r : Bool) (w : World) (hr0_1 : Kd.C (Kd.int .i64) w A0_1 l0_1.length l0_1) (hc0_1 : l0_1.length <= c0_1) (hr1_1 : Kd.C (Kd.int .i64) w A1_1 l1_1.length l1_1) (hc1_1 : l1_1.length <= c1_1) (h : laws_qTable.f k a0_0 l0_1 a1_0 l1_1 = some r) :
 Calls Try.prog 29 #[.agg #[.int .i64 a0_0, .slice A0_1 l0_1.length c0_1], .agg #[.int .i64 a1_0, .slice A1_1 l1_1.length c1_1]] w fun e w' => e = .returned (.bool r) /\ Below w.heap.size w w' := by
 have hu28 := Try.underlying28
 have HR0_1 := Aside0.mk hr0_1
 have HC0_1 := Aside0.mk hc0_1
 clear hr0_1 hc0_1
 have HR1_1 := Aside0.mk hr1_1
 have HC1_1 := Aside0.mk hc1_1
 clear hr1_1 hc1_1
 have HB := Aside0.mk (Below.refl w.heap.size w)
 have H := h
 clear h
 unfold laws_qTable.f at H
 replace H := ifQ H; rcases H with ⟨c3, H⟩ | ⟨c3, H⟩
 · have c3b0 := beq_iff_eq.mpr c3
   have c3b1 := bne_eq_false_iff_eq.mpr c3
   clear c3
   replace H := bindA H; obtain ⟨t393, A4, H⟩ := H
   obtain rfl := Option.some.inj H
   go_enter Try.func29, Try.ntmps29
   go_wp2_with (first | ((with_reducible refine gate_dst (N := 2) rfl ?_); refine boxE (cs := #[.int .i64 a0_0, .slice A0_1 l0_1.length c0_1]) (t := 28) ?_; intro gb391 hg w5 hbox hb; refine E4b HB.1 hg hbox hb ?_; clear HB; intro HB BK391 GW391 GE391; clear hb hbox hg) | ((with_reducible refine gate_dst (N := 3) rfl ?_); refine boxE (cs := #[.int .i64 a1_0, .slice A1_1 l1_1.length c1_1]) (t := 28) ?_; intro gb392 hg w6 hbox hb; refine E7 (bB BK391.1 hb) (bS HB.1 hb) (hbox) (gX HB.1 hg) (gX HB.1 hg) (nB BK391.1 hg) (nC BK391.1 hg) ?_; clear BK391 HB; intro BK391 HB BK392 GW392 GE392 NB391_392 NB392_391; clear hb hbox hg; have hnb7 := NB391_392.1; have hnc7 := NB392_391.1; obtain ⟨hcz8_0, hcz8_1, hfz8_0, hfz8_1⟩ := cz2 BK391.1; obtain ⟨hcz9_0, hcz9_1, hfz9_0, hfz9_1⟩ := cz2 BK392.1) | (go_at_call 30; (with_reducible refine (laws_qInts.calls k _ _ l0_1 _ _ l1_1 t393 _ ?side1 ?side2 ?side3 ?side4 A4.1).mono ?_); (case side1 => exact CB (C_below HR0_1.1 HB.1)); (case side2 => exact HC0_1.1); (case side3 => exact CB (C_below HR1_1.1 HB.1)); (case side4 => exact HC1_1.1); rintro e w' ⟨rfl, ⟨nd, rfl⟩⟩))
   go_ret
   exact ⟨RF, BL HB.1⟩
 have c3b0 := beq_eq_false_iff_ne.mpr c3
 have c3b1 := bne_iff_ne.mpr c3
 obtain rfl := Option.some.inj H
 go_enter Try.func29, Try.ntmps29
 go_wp2_with (first | ((with_reducible refine gate_dst (N := 2) rfl ?_); refine boxE (cs := #[.int .i64 a0_0, .slice A0_1 l0_1.length c0_1]) (t := 28) ?_; intro gb391 hg w10 hbox hb; refine E4b HB.1 hg hbox hb ?_; clear HB; intro HB BK391 GW391 GE391; clear hb hbox hg) | ((with_reducible refine gate_dst (N := 3) rfl ?_); refine boxE (cs := #[.int .i64 a1_0, .slice A1_1 l1_1.length c1_1]) (t := 28) ?_; intro gb392 hg w11 hbox hb; refine E7 (bB BK391.1 hb) (bS HB.1 hb) (hbox) (gX HB.1 hg) (gX HB.1 hg) (nB BK391.1 hg) (nC BK391.1 hg) ?_; clear BK391 HB; intro BK391 HB BK392 GW392 GE392 NB391_392 NB392_391; clear hb hbox hg; have hnb12 := NB391_392.1; have hnc12 := NB392_391.1; obtain ⟨hcz13_0, hcz13_1, hfz13_0, hfz13_1⟩ := cz2 BK391.1; obtain ⟨hcz14_0, hcz14_1, hfz14_0, hfz14_1⟩ := cz2 BK392.1))
 go_ret
 exact ⟨RF, BL HB.1⟩
/-! ### laws_qSum: function 31 -/
open Kd
def laws_qSum.l0 : Nat -> Int -> List Int -> Int -> Int -> Option (Int)
 | 0, _, _, _, _ => none
 | k + 1, x3, x6, x7, x8 => if x8 < x7 then (if 0 <= x8 then (if x8 < (x6.length : Int) then (laws_qSum.l0 k (wrap64 (x3 + (rd x6 x8))) x6 x7 (wrap64 (x8 + 1))) else (none)) else (none)) else (some x3)
def laws_qSum.f (k : Nat) (l0 : List Int) : Option (Int) := laws_qSum.l0 k 0 l0 (l0.length : Int) 0
theorem laws_qSum.mono_l : ∀ k, (∀ y0 y1 y2 y3, LeO (laws_qSum.l0 k y0 y1 y2 y3) (laws_qSum.l0 (k + 1) y0 y1 y2 y3))
 | 0 => fun _ _ _ _ r h => by simp [laws_qSum.l0] at h
 | k + 1 => by
  have ih0 := laws_qSum.mono_l k
  intros
  first | unfold laws_qSum.l0
  exact LM1 ih0
theorem laws_qSum.mono : ∀ a0 k, LeO (laws_qSum.f k a0) (laws_qSum.f (k + 1) a0) := by
 intro a0 k
 have ih0 := laws_qSum.mono_l k
 unfold laws_qSum.f
 exact LM1 ih0
theorem laws_qSum.calls (k : Nat) (A0 : Option Addr) (c0 : Nat) (l0 : List Int) (r : Int) (w : World) (hr0 : Kd.C (Kd.int .i64) w A0 l0.length l0) (hc0 : l0.length <= c0) (h : laws_qSum.f k l0 = some r) :
 Calls Try.prog 31 #[.slice A0 l0.length c0] w fun e w' => e = .returned (.int .i64 r) /\ Drawn0 w w' := by
 have HR0 := Aside0.mk hr0
 have HC0 := Aside0.mk hc0
 clear hr0 hc0
 have H := h
 clear h
 unfold laws_qSum.f at H
 have H' := Aside0.mk H
 clear H
 go_enter Try.func31, Try.ntmps31
 go_wp2
 go_loopg [3, 8] k (fun kq v3 v8 w' => ∃ (x3_1 : Int) (x8_1 : Int), v3 = .int .i64 x3_1 /\ v8 = .int .i64 x8_1 /\ Aside0 (laws_qSum.l0 kq x3_1 l0 (l0.length : Int) x8_1 = some r) /\ Aside0 (kq <= k) /\ Drawn0 w w')
 case atStart => exact ⟨(0), (0), RG, RG, H', ⟨Nat.le_refl _⟩, DR⟩
 clear H'
 obtain ⟨x3_1, x8_1, rfl, rfl, HA, HK1, ⟨m1, rfl⟩⟩ := hrel
 cases gk with
 | zero => exact absurd HA.1 (by simp [laws_qSum.l0])
 | succ k1 => ?_
 have H := HA.1
 clear HA
 simp only [laws_qSum.l0] at H
 replace H := ifB H; rcases H with ⟨c2b0, H⟩ | ⟨c2b0, H⟩
 · replace H := ifN H; obtain ⟨c3b0, H⟩ := H
   replace H := ifN H; obtain ⟨c4b0, H⟩ := H
   have H' := Aside0.mk H
   clear H
   have p394 : 0 <= (x8_1 : Int) := OD
   have q394 : x8_1 < (l0.length : Int) := OD
   obtain ⟨ad394, e394, hx394_0⟩ := Kd.at_int HR0.1 x8_1 p394 q394
   cases e394
   replace p394 := eq_true p394
   replace q394 := eq_true q394
   go_wp2
   go_roundg k1
   case measure => have := HK1.1; omega
   case rel => exact ⟨(wrap64 (x3_1 + (rd l0 x8_1))), (wrap64 (x8_1 + 1)), RG, RG, H', ⟨by have := HK1.1; omega⟩, DR⟩
 obtain rfl := Option.some.inj H
 go_wp2
 go_ret
 exact ⟨RG, DR⟩
/-! ### laws_qHas: function 32 -/
open Kd
def laws_qHas.l0 : Nat -> Int -> List Int -> Int -> Int -> Option (Bool)
 | 0, _, _, _, _ => none
 | k + 1, x1, x7, x8, x9 => if x9 < x8 then (if 0 <= x9 then (if x9 < (x7.length : Int) then (if (rd x7 x9) = x1 then (some true) else (laws_qHas.l0 k x1 x7 x8 (wrap64 (x9 + 1)))) else (none)) else (none)) else (some false)
def laws_qHas.f (k : Nat) (l0 : List Int) (a1 : Int) : Option (Bool) := laws_qHas.l0 k a1 l0 (l0.length : Int) 0
theorem laws_qHas.mono_l : ∀ k, (∀ y0 y1 y2 y3, LeO (laws_qHas.l0 k y0 y1 y2 y3) (laws_qHas.l0 (k + 1) y0 y1 y2 y3))
 | 0 => fun _ _ _ _ r h => by simp [laws_qHas.l0] at h
 | k + 1 => by
  have ih0 := laws_qHas.mono_l k
  intros
  first | unfold laws_qHas.l0
  exact LM1 ih0
theorem laws_qHas.mono : ∀ a0 a1 k, LeO (laws_qHas.f k a0 a1) (laws_qHas.f (k + 1) a0 a1) := by
 intro a0 a1 k
 have ih0 := laws_qHas.mono_l k
 unfold laws_qHas.f
 exact LM1 ih0
theorem laws_qHas.calls (k : Nat) (A0 : Option Addr) (c0 : Nat) (l0 : List Int) (a1 : Int) (r : Bool) (w : World) (hr0 : Kd.C (Kd.int .i64) w A0 l0.length l0) (hc0 : l0.length <= c0) (h : laws_qHas.f k l0 a1 = some r) :
 Calls Try.prog 32 #[.slice A0 l0.length c0, .int .i64 a1] w fun e w' => e = .returned (.bool r) /\ Drawn0 w w' := by
 have HR0 := Aside0.mk hr0
 have HC0 := Aside0.mk hc0
 clear hr0 hc0
 have H := h
 clear h
 unfold laws_qHas.f at H
 have H' := Aside0.mk H
 clear H
 go_enter Try.func32, Try.ntmps32
 go_wp2
 go_loopg [9] k (fun kq v9 w' => ∃ (x9_1 : Int), v9 = .int .i64 x9_1 /\ Aside0 (laws_qHas.l0 kq a1 l0 (l0.length : Int) x9_1 = some r) /\ Aside0 (kq <= k) /\ Drawn0 w w')
 case atStart => exact ⟨(0), RG, H', ⟨Nat.le_refl _⟩, DR⟩
 clear H'
 obtain ⟨x9_1, rfl, HA, HK1, ⟨m1, rfl⟩⟩ := hrel
 cases gk with
 | zero => exact absurd HA.1 (by simp [laws_qHas.l0])
 | succ k1 => ?_
 have H := HA.1
 clear HA
 simp only [laws_qHas.l0] at H
 replace H := ifB H; rcases H with ⟨c3b0, H⟩ | ⟨c3b0, H⟩
 · replace H := ifN H; obtain ⟨c4b0, H⟩ := H
   replace H := ifN H; obtain ⟨c5b0, H⟩ := H
   replace H := ifQ H; rcases H with ⟨c6, H⟩ | ⟨c6, H⟩
   · have c6b0 := beq_iff_eq.mpr c6
     have c6b1 := bne_eq_false_iff_eq.mpr c6
     clear c6
     obtain rfl := Option.some.inj H
     have p395 : 0 <= (x9_1 : Int) := OD
     have q395 : x9_1 < (l0.length : Int) := OD
     obtain ⟨ad395, e395, hx395_0⟩ := Kd.at_int HR0.1 x9_1 p395 q395
     cases e395
     replace p395 := eq_true p395
     replace q395 := eq_true q395
     go_wp2
     go_ret
     exact ⟨RG, DR⟩
   have c6b0 := beq_eq_false_iff_ne.mpr c6
   have c6b1 := bne_iff_ne.mpr c6
   have H' := Aside0.mk H
   clear H
   have p395 : 0 <= (x9_1 : Int) := OD
   have q395 : x9_1 < (l0.length : Int) := OD
   obtain ⟨ad395, e395, hx395_0⟩ := Kd.at_int HR0.1 x9_1 p395 q395
   cases e395
   replace p395 := eq_true p395
   replace q395 := eq_true q395
   go_wp2
   go_roundg k1
   case measure => have := HK1.1; omega
   case rel => exact ⟨(wrap64 (x9_1 + 1)), RG, H', ⟨by have := HK1.1; omega⟩, DR⟩
 obtain rfl := Option.some.inj H
 go_wp2
 go_ret
 exact ⟨RG, DR⟩
/-! ### laws_FnTableParts: function 4 -/
open Kd
mutual
def laws_FnTableParts.j0 : Nat -> Int -> Int -> Bool -> Int -> Int -> Bool -> Bool -> List Int -> List Int -> Bool -> Bool -> Bool -> Int -> List Int -> Int -> List Int -> Int -> List Int -> Int -> List Int -> Int -> List Int -> Int -> List Int -> Option (Bool)
 | 0, _, _, _, _, _, _, _, _, _, _, _, _, _, _, _, _, _, _, _, _, _, _, _, _ => none
 | k + 1, x6, x7, x9, x13, x14, x16, x21, x22, x26, x30, x34, x219, x403000, x403001, x415000, x415001, x422000, x422001, x428000, x428001, x434000, x434001, x439000, x439001 => if x219 = true then (some false) else (if x16 = true then ((impl_SwapInputs.f k x428000 x428001 x13 x14).bind fun bt467 => (if bt467.2.2 = true then ((laws_qTable.f k bt467.1 bt467.2.1 x422000 x422001).bind fun t473 => (if t473 = true then ((laws_qSum.f k x434001).bind fun t474 => ((laws_qSum.f k x422001).bind fun t475 => (if t474 = t475 then (laws_FnTableParts.j1 k x6 x7 x9 x21 x22 x26 x30 x34 x403000 x403001 x415000 x415001 x439000 x439001) else (some false)))) else (some false))) else (some false))) else (laws_FnTableParts.j1 k x6 x7 x9 x21 x22 x26 x30 x34 x403000 x403001 x415000 x415001 x439000 x439001))
def laws_FnTableParts.j1 : Nat -> Int -> Int -> Bool -> Bool -> List Int -> List Int -> Bool -> Bool -> Int -> List Int -> Int -> List Int -> Int -> List Int -> Option (Bool)
 | 0, _, _, _, _, _, _, _, _, _, _, _, _, _, _ => none
 | k + 1, x6, x7, x9, x21, x22, x26, x30, x34, x403000, x403001, x415000, x415001, x439000, x439001 => if x21 = true then ((laws_qSum.f k x439001).bind fun t476 => (if (x26.length : Int) = t476 then (laws_FnTableParts.l0 k x6 x7 x9 x22 x30 x34 0 x403000 x403001 x415000 x415001 x439000 x439001) else (some false))) else (laws_FnTableParts.j7 k x6 x7 x9 x403000 x403001 x415000 x415001)
def laws_FnTableParts.j7 : Nat -> Int -> Int -> Bool -> Int -> List Int -> Int -> List Int -> Option (Bool)
 | 0, _, _, _, _, _, _, _ => none
 | k + 1, x6, x7, x9, x403000, x403001, x415000, x415001 => if x9 = true then (laws_FnTableParts.l3 k x6 x7 x415001 (x415001.length : Int) 0 x403000 x403001 x415000 x415001) else (some true)
def laws_FnTableParts.l3 : Nat -> Int -> Int -> List Int -> Int -> Int -> Int -> List Int -> Int -> List Int -> Option (Bool)
 | 0, _, _, _, _, _, _, _, _, _ => none
 | k + 1, x6, x7, x362, x363, x364, x403000, x403001, x415000, x415001 => if x364 < x363 then (if 0 <= x364 then (if x364 < (x362.length : Int) then (if 0 <= (IntKind.u64.wrap (x6)) then (if (shl .i64 1 (IntKind.u64.wrap (x6))) = 0 then (none) else (if 0 <= (wrap64 ((wrap64 ((Int.tmod x364 (shl .i64 1 (IntKind.u64.wrap (x6)))) + (shl .i64 x7 (IntKind.u64.wrap (x6))))) + (wrap64 ((wrap64 (x364 - (Int.tmod x364 (shl .i64 1 (IntKind.u64.wrap (x6)))))) * 2)))) then (if (wrap64 ((wrap64 ((Int.tmod x364 (shl .i64 1 (IntKind.u64.wrap (x6)))) + (shl .i64 x7 (IntKind.u64.wrap (x6))))) + (wrap64 ((wrap64 (x364 - (Int.tmod x364 (shl .i64 1 (IntKind.u64.wrap (x6)))))) * 2)))) < (x403001.length : Int) then (if (rd x362 x364) = (rd x403001 (wrap64 ((wrap64 ((Int.tmod x364 (shl .i64 1 (IntKind.u64.wrap (x6)))) + (shl .i64 x7 (IntKind.u64.wrap (x6))))) + (wrap64 ((wrap64 (x364 - (Int.tmod x364 (shl .i64 1 (IntKind.u64.wrap (x6)))))) * 2))))) then (laws_FnTableParts.l3 k x6 x7 x362 x363 (wrap64 (x364 + 1)) x403000 x403001 x415000 x415001) else (some false)) else (none)) else (none))) else (none)) else (none)) else (none)) else (some (x415000 == (wrap64 (x403000 - 1))))
def laws_FnTableParts.l0 : Nat -> Int -> Int -> Bool -> List Int -> Bool -> Bool -> Int -> Int -> List Int -> Int -> List Int -> Int -> List Int -> Option (Bool)
 | 0, _, _, _, _, _, _, _, _, _, _, _, _, _ => none
 | k + 1, x6, x7, x9, x22, x30, x34, x38, x403000, x403001, x415000, x415001, x439000, x439001 => if x38 < x439000 then ((impl_FixInput.f k x439000 x439001 x38 0).bind fun bt477 => ((impl_FixInput.f k x439000 x439001 x38 1).bind fun bt483 => ((spec_FixInput.f k x439000 x439001 x38 0).bind fun bt489 => ((spec_FixInput.f k x439000 x439001 x38 1).bind fun bt495 => (if bt477.2.2 = true then (if bt483.2.2 = true then ((laws_qTable.f k bt477.1 bt477.2.1 bt489.1 bt489.2.1).bind fun t501 => (if t501 = true then ((laws_qTable.f k bt483.1 bt483.2.1 bt495.1 bt495.2.1).bind fun t502 => (if t502 = true then (if bt489.2.2 = true then (if bt495.2.2 = true then ((laws_qHas.f k x22 x38).bind fun t503 => ((laws_qTable.f k bt489.1 bt489.2.1 bt495.1 bt495.2.1).bind fun t504 => (laws_FnTableParts.j3 k x6 x7 x9 x22 x30 x34 x38 (t503 == t504) x403000 x403001 x415000 x415001 x439000 x439001 bt489.1 bt489.2.1 bt495.1 bt495.2.1))) else (laws_FnTableParts.j3 k x6 x7 x9 x22 x30 x34 x38 true x403000 x403001 x415000 x415001 x439000 x439001 bt489.1 bt489.2.1 bt495.1 bt495.2.1)) else (laws_FnTableParts.j3 k x6 x7 x9 x22 x30 x34 x38 true x403000 x403001 x415000 x415001 x439000 x439001 bt489.1 bt489.2.1 bt495.1 bt495.2.1)) else (laws_FnTableParts.j3 k x6 x7 x9 x22 x30 x34 x38 true x403000 x403001 x415000 x415001 x439000 x439001 bt489.1 bt489.2.1 bt495.1 bt495.2.1))) else (laws_FnTableParts.j3 k x6 x7 x9 x22 x30 x34 x38 true x403000 x403001 x415000 x415001 x439000 x439001 bt489.1 bt489.2.1 bt495.1 bt495.2.1))) else (laws_FnTableParts.j3 k x6 x7 x9 x22 x30 x34 x38 true x403000 x403001 x415000 x415001 x439000 x439001 bt489.1 bt489.2.1 bt495.1 bt495.2.1)) else (laws_FnTableParts.j3 k x6 x7 x9 x22 x30 x34 x38 true x403000 x403001 x415000 x415001 x439000 x439001 bt489.1 bt489.2.1 bt495.1 bt495.2.1)))))) else (laws_FnTableParts.j7 k x6 x7 x9 x403000 x403001 x415000 x415001)
def laws_FnTableParts.j3 : Nat -> Int -> Int -> Bool -> List Int -> Bool -> Bool -> Int -> Bool -> Int -> List Int -> Int -> List Int -> Int -> List Int -> Int -> List Int -> Int -> List Int -> Option (Bool)
 | 0, _, _, _, _, _, _, _, _, _, _, _, _, _, _, _, _, _, _ => none
 | k + 1, x6, x7, x9, x22, x30, x34, x38, x316, x403000, x403001, x415000, x415001, x439000, x439001, x495000, x495001, x501000, x501001 => if x316 = true then (some false) else (laws_FnTableParts.l1 k x6 x7 x9 x22 x30 x34 x38 x495001 (x495001.length : Int) 0 x403000 x403001 x415000 x415001 x439000 x439001 x501000 x501001)
def laws_FnTableParts.l1 : Nat -> Int -> Int -> Bool -> List Int -> Bool -> Bool -> Int -> List Int -> Int -> Int -> Int -> List Int -> Int -> List Int -> Int -> List Int -> Int -> List Int -> Option (Bool)
 | 0, _, _, _, _, _, _, _, _, _, _, _, _, _, _, _, _, _, _ => none
 | k + 1, x6, x7, x9, x22, x30, x34, x38, x318, x319, x320, x403000, x403001, x415000, x415001, x439000, x439001, x501000, x501001 => if x320 < x319 then (if 0 <= x320 then (if x320 < (x318.length : Int) then (if x30 = true then (if x320 < (x501001.length : Int) then (if (rd x318 x320) > (rd x501001 x320) then (some false) else (laws_FnTableParts.l1 k x6 x7 x9 x22 x30 x34 x38 x318 x319 (wrap64 (x320 + 1)) x403000 x403001 x415000 x415001 x439000 x439001 x501000 x501001)) else (none)) else (laws_FnTableParts.l1 k x6 x7 x9 x22 x30 x34 x38 x318 x319 (wrap64 (x320 + 1)) x403000 x403001 x415000 x415001 x439000 x439001 x501000 x501001)) else (none)) else (none)) else (laws_FnTableParts.l2 k x6 x7 x9 x22 x30 x34 x38 0 x403000 x403001 x415000 x415001 x439000 x439001)
def laws_FnTableParts.l2 : Nat -> Int -> Int -> Bool -> List Int -> Bool -> Bool -> Int -> Int -> Int -> List Int -> Int -> List Int -> Int -> List Int -> Option (Bool)
 | 0, _, _, _, _, _, _, _, _, _, _, _, _, _, _ => none
 | k + 1, x6, x7, x9, x22, x30, x34, x38, x49, x403000, x403001, x415000, x415001, x439000, x439001 => if x49 < x38 then (laws_FnTableParts.j6 k x6 x7 x9 x22 x30 x34 x38 x49 x34 x403000 x403001 x415000 x415001 x439000 x439001) else (laws_FnTableParts.j6 k x6 x7 x9 x22 x30 x34 x38 x49 false x403000 x403001 x415000 x415001 x439000 x439001)
def laws_FnTableParts.j6 : Nat -> Int -> Int -> Bool -> List Int -> Bool -> Bool -> Int -> Int -> Bool -> Int -> List Int -> Int -> List Int -> Int -> List Int -> Option (Bool)
 | 0, _, _, _, _, _, _, _, _, _, _, _, _, _, _, _ => none
 | k + 1, x6, x7, x9, x22, x30, x34, x38, x49, x341, x403000, x403001, x415000, x415001, x439000, x439001 => if x341 = true then ((impl_SwapInputs.f k x439000 x439001 x38 x49).bind fun bt507 => (if bt507.2.2 = true then ((laws_qTable.f k bt507.1 bt507.2.1 x439000 x439001).bind fun t513 => (if t513 = true then (laws_FnTableParts.l2 k x6 x7 x9 x22 x30 x34 x38 (wrap64 (x49 + 1)) x403000 x403001 x415000 x415001 x439000 x439001) else (some false))) else (some false))) else (laws_FnTableParts.l0 k x6 x7 x9 x22 x30 x34 (wrap64 (x38 + 1)) x403000 x403001 x415000 x415001 x439000 x439001)
end
def laws_FnTableParts.f (k : Nat) (l0 : List Int) (l1 : List Int) : Option (Bool) := if (wrap64 ((l0.length : Int) + (l1.length : Int))) > 1048576 then (some true) else ((spec_DrawFixInput.f k l0).bind fun bt396 => ((impl_FixInput.f k bt396.1 bt396.2.1 bt396.2.2.1 bt396.2.2.2).bind fun bt403 => ((spec_FixInput.f k bt396.1 bt396.2.1 bt396.2.2.1 bt396.2.2.2).bind fun bt409 => ((spec_DrawSwapInputs.f k l1).bind fun bt415 => ((impl_SwapInputs.f k bt415.1 bt415.2.1 bt415.2.2.1 bt415.2.2.2).bind fun bt422 => ((spec_SwapInputs.f k bt415.1 bt415.2.1 bt415.2.2.1 bt415.2.2.2).bind fun bt428 => ((spec_DrawDependsOn.f k l1).bind fun bt434 => ((impl_DependsOn.f k bt434.1 bt434.2).bind fun bt439 => ((spec_DependsOn.f k bt434.1 bt434.2).bind fun bt443 => ((impl_OnesOf.f k bt434.1 bt434.2).bind fun bt447 => ((spec_OnesOf.f k bt434.1 bt434.2).bind fun bt451 => ((impl_IsMonotone.f k bt434.1 bt434.2).bind fun bt455 => ((spec_IsMonotone.f k bt434.1 bt434.2).bind fun bt457 => ((impl_IsSymmetric.f k bt434.1 bt434.2).bind fun bt459 => ((spec_IsSymmetric.f k bt434.1 bt434.2).bind fun bt461 => (if (bt403.2.2 != bt409.2.2) = true then (laws_FnTableParts.j0 k bt396.2.2.1 bt396.2.2.2 bt403.2.2 bt415.2.2.1 bt415.2.2.2 bt422.2.2 bt439.2 bt443.1 bt451.1 bt457.1 bt461.1 true bt396.1 bt396.2.1 bt409.1 bt409.2.1 bt415.1 bt415.2.1 bt422.1 bt422.2.1 bt428.1 bt428.2.1 bt434.1 bt434.2) else ((laws_qTable.f k bt403.1 bt403.2.1 bt409.1 bt409.2.1).bind fun t463 => (if t463 = true then (if (bt422.2.2 != bt428.2.2) = true then (laws_FnTableParts.j0 k bt396.2.2.1 bt396.2.2.2 bt403.2.2 bt415.2.2.1 bt415.2.2.2 bt422.2.2 bt439.2 bt443.1 bt451.1 bt457.1 bt461.1 true bt396.1 bt396.2.1 bt409.1 bt409.2.1 bt415.1 bt415.2.1 bt422.1 bt422.2.1 bt428.1 bt428.2.1 bt434.1 bt434.2) else ((laws_qTable.f k bt422.1 bt422.2.1 bt428.1 bt428.2.1).bind fun t464 => (if t464 = true then (if (bt439.2 != bt443.2) = true then (laws_FnTableParts.j0 k bt396.2.2.1 bt396.2.2.2 bt403.2.2 bt415.2.2.1 bt415.2.2.2 bt422.2.2 bt439.2 bt443.1 bt451.1 bt457.1 bt461.1 true bt396.1 bt396.2.1 bt409.1 bt409.2.1 bt415.1 bt415.2.1 bt422.1 bt422.2.1 bt428.1 bt428.2.1 bt434.1 bt434.2) else ((laws_qInts.f k bt439.1 bt443.1).bind fun t465 => (if t465 = true then (if (bt447.2 != bt451.2) = true then (laws_FnTableParts.j0 k bt396.2.2.1 bt396.2.2.2 bt403.2.2 bt415.2.2.1 bt415.2.2.2 bt422.2.2 bt439.2 bt443.1 bt451.1 bt457.1 bt461.1 true bt396.1 bt396.2.1 bt409.1 bt409.2.1 bt415.1 bt415.2.1 bt422.1 bt422.2.1 bt428.1 bt428.2.1 bt434.1 bt434.2) else ((laws_qInts.f k bt447.1 bt451.1).bind fun t466 => (if t466 = true then (if (bt455.2 != bt457.2) = true then (laws_FnTableParts.j0 k bt396.2.2.1 bt396.2.2.2 bt403.2.2 bt415.2.2.1 bt415.2.2.2 bt422.2.2 bt439.2 bt443.1 bt451.1 bt457.1 bt461.1 true bt396.1 bt396.2.1 bt409.1 bt409.2.1 bt415.1 bt415.2.1 bt422.1 bt422.2.1 bt428.1 bt428.2.1 bt434.1 bt434.2) else (if (bt455.1 != bt457.1) = true then (laws_FnTableParts.j0 k bt396.2.2.1 bt396.2.2.2 bt403.2.2 bt415.2.2.1 bt415.2.2.2 bt422.2.2 bt439.2 bt443.1 bt451.1 bt457.1 bt461.1 true bt396.1 bt396.2.1 bt409.1 bt409.2.1 bt415.1 bt415.2.1 bt422.1 bt422.2.1 bt428.1 bt428.2.1 bt434.1 bt434.2) else (if (bt459.2 != bt461.2) = true then (laws_FnTableParts.j0 k bt396.2.2.1 bt396.2.2.2 bt403.2.2 bt415.2.2.1 bt415.2.2.2 bt422.2.2 bt439.2 bt443.1 bt451.1 bt457.1 bt461.1 true bt396.1 bt396.2.1 bt409.1 bt409.2.1 bt415.1 bt415.2.1 bt422.1 bt422.2.1 bt428.1 bt428.2.1 bt434.1 bt434.2) else (if (bt459.1 != bt461.1) = true then (laws_FnTableParts.j0 k bt396.2.2.1 bt396.2.2.2 bt403.2.2 bt415.2.2.1 bt415.2.2.2 bt422.2.2 bt439.2 bt443.1 bt451.1 bt457.1 bt461.1 true bt396.1 bt396.2.1 bt409.1 bt409.2.1 bt415.1 bt415.2.1 bt422.1 bt422.2.1 bt428.1 bt428.2.1 bt434.1 bt434.2) else (if (bt447.2 != bt439.2) = true then (laws_FnTableParts.j0 k bt396.2.2.1 bt396.2.2.2 bt403.2.2 bt415.2.2.1 bt415.2.2.2 bt422.2.2 bt439.2 bt443.1 bt451.1 bt457.1 bt461.1 true bt396.1 bt396.2.1 bt409.1 bt409.2.1 bt415.1 bt415.2.1 bt422.1 bt422.2.1 bt428.1 bt428.2.1 bt434.1 bt434.2) else (if (bt455.2 != bt439.2) = true then (laws_FnTableParts.j0 k bt396.2.2.1 bt396.2.2.2 bt403.2.2 bt415.2.2.1 bt415.2.2.2 bt422.2.2 bt439.2 bt443.1 bt451.1 bt457.1 bt461.1 true bt396.1 bt396.2.1 bt409.1 bt409.2.1 bt415.1 bt415.2.1 bt422.1 bt422.2.1 bt428.1 bt428.2.1 bt434.1 bt434.2) else (laws_FnTableParts.j0 k bt396.2.2.1 bt396.2.2.2 bt403.2.2 bt415.2.2.1 bt415.2.2.2 bt422.2.2 bt439.2 bt443.1 bt451.1 bt457.1 bt461.1 (bt459.2 != bt439.2) bt396.1 bt396.2.1 bt409.1 bt409.2.1 bt415.1 bt415.2.1 bt422.1 bt422.2.1 bt428.1 bt428.2.1 bt434.1 bt434.2))))))) else (laws_FnTableParts.j0 k bt396.2.2.1 bt396.2.2.2 bt403.2.2 bt415.2.2.1 bt415.2.2.2 bt422.2.2 bt439.2 bt443.1 bt451.1 bt457.1 bt461.1 true bt396.1 bt396.2.1 bt409.1 bt409.2.1 bt415.1 bt415.2.1 bt422.1 bt422.2.1 bt428.1 bt428.2.1 bt434.1 bt434.2)))) else (laws_FnTableParts.j0 k bt396.2.2.1 bt396.2.2.2 bt403.2.2 bt415.2.2.1 bt415.2.2.2 bt422.2.2 bt439.2 bt443.1 bt451.1 bt457.1 bt461.1 true bt396.1 bt396.2.1 bt409.1 bt409.2.1 bt415.1 bt415.2.1 bt422.1 bt422.2.1 bt428.1 bt428.2.1 bt434.1 bt434.2)))) else (laws_FnTableParts.j0 k bt396.2.2.1 bt396.2.2.2 bt403.2.2 bt415.2.2.1 bt415.2.2.2 bt422.2.2 bt439.2 bt443.1 bt451.1 bt457.1 bt461.1 true bt396.1 bt396.2.1 bt409.1 bt409.2.1 bt415.1 bt415.2.1 bt422.1 bt422.2.1 bt428.1 bt428.2.1 bt434.1 bt434.2)))) else (laws_FnTableParts.j0 k bt396.2.2.1 bt396.2.2.2 bt403.2.2 bt415.2.2.1 bt415.2.2.2 bt422.2.2 bt439.2 bt443.1 bt451.1 bt457.1 bt461.1 true bt396.1 bt396.2.1 bt409.1 bt409.2.1 bt415.1 bt415.2.1 bt422.1 bt422.2.1 bt428.1 bt428.2.1 bt434.1 bt434.2)))))))))))))))))))
theorem laws_FnTableParts.mono_l : ∀ k, (∀ y0 y1 y2 y3 y4 y5 y6 y7 y8 y9 y10 y11 y12 y13 y14 y15 y16 y17 y18 y19 y20 y21 y22 y23, LeO (laws_FnTableParts.j0 k y0 y1 y2 y3 y4 y5 y6 y7 y8 y9 y10 y11 y12 y13 y14 y15 y16 y17 y18 y19 y20 y21 y22 y23) (laws_FnTableParts.j0 (k + 1) y0 y1 y2 y3 y4 y5 y6 y7 y8 y9 y10 y11 y12 y13 y14 y15 y16 y17 y18 y19 y20 y21 y22 y23)) /\ (∀ y0 y1 y2 y3 y4 y5 y6 y7 y8 y9 y10 y11 y12 y13, LeO (laws_FnTableParts.j1 k y0 y1 y2 y3 y4 y5 y6 y7 y8 y9 y10 y11 y12 y13) (laws_FnTableParts.j1 (k + 1) y0 y1 y2 y3 y4 y5 y6 y7 y8 y9 y10 y11 y12 y13)) /\ (∀ y0 y1 y2 y3 y4 y5 y6, LeO (laws_FnTableParts.j7 k y0 y1 y2 y3 y4 y5 y6) (laws_FnTableParts.j7 (k + 1) y0 y1 y2 y3 y4 y5 y6)) /\ (∀ y0 y1 y2 y3 y4 y5 y6 y7 y8, LeO (laws_FnTableParts.l3 k y0 y1 y2 y3 y4 y5 y6 y7 y8) (laws_FnTableParts.l3 (k + 1) y0 y1 y2 y3 y4 y5 y6 y7 y8)) /\ (∀ y0 y1 y2 y3 y4 y5 y6 y7 y8 y9 y10 y11 y12, LeO (laws_FnTableParts.l0 k y0 y1 y2 y3 y4 y5 y6 y7 y8 y9 y10 y11 y12) (laws_FnTableParts.l0 (k + 1) y0 y1 y2 y3 y4 y5 y6 y7 y8 y9 y10 y11 y12)) /\ (∀ y0 y1 y2 y3 y4 y5 y6 y7 y8 y9 y10 y11 y12 y13 y14 y15 y16 y17, LeO (laws_FnTableParts.j3 k y0 y1 y2 y3 y4 y5 y6 y7 y8 y9 y10 y11 y12 y13 y14 y15 y16 y17) (laws_FnTableParts.j3 (k + 1) y0 y1 y2 y3 y4 y5 y6 y7 y8 y9 y10 y11 y12 y13 y14 y15 y16 y17)) /\ (∀ y0 y1 y2 y3 y4 y5 y6 y7 y8 y9 y10 y11 y12 y13 y14 y15 y16 y17, LeO (laws_FnTableParts.l1 k y0 y1 y2 y3 y4 y5 y6 y7 y8 y9 y10 y11 y12 y13 y14 y15 y16 y17) (laws_FnTableParts.l1 (k + 1) y0 y1 y2 y3 y4 y5 y6 y7 y8 y9 y10 y11 y12 y13 y14 y15 y16 y17)) /\ (∀ y0 y1 y2 y3 y4 y5 y6 y7 y8 y9 y10 y11 y12 y13, LeO (laws_FnTableParts.l2 k y0 y1 y2 y3 y4 y5 y6 y7 y8 y9 y10 y11 y12 y13) (laws_FnTableParts.l2 (k + 1) y0 y1 y2 y3 y4 y5 y6 y7 y8 y9 y10 y11 y12 y13)) /\ (∀ y0 y1 y2 y3 y4 y5 y6 y7 y8 y9 y10 y11 y12 y13 y14, LeO (laws_FnTableParts.j6 k y0 y1 y2 y3 y4 y5 y6 y7 y8 y9 y10 y11 y12 y13 y14) (laws_FnTableParts.j6 (k + 1) y0 y1 y2 y3 y4 y5 y6 y7 y8 y9 y10 y11 y12 y13 y14))
 | 0 => by refine ⟨?_, ?_, ?_, ?_, ?_, ?_, ?_, ?_, ?_⟩ <;> (intros; intro r h; first | (simp [laws_FnTableParts.j0] at h; done) | (simp [laws_FnTableParts.j1] at h; done) | (simp [laws_FnTableParts.j7] at h; done) | (simp [laws_FnTableParts.l3] at h; done) | (simp [laws_FnTableParts.l0] at h; done) | (simp [laws_FnTableParts.j3] at h; done) | (simp [laws_FnTableParts.l1] at h; done) | (simp [laws_FnTableParts.l2] at h; done) | (simp [laws_FnTableParts.j6] at h; done))
 | k + 1 => by
  obtain ⟨ih0, ih1, ih2, ih3, ih4, ih5, ih6, ih7, ih8⟩ := laws_FnTableParts.mono_l k
  refine ⟨?_, ?_, ?_, ?_, ?_, ?_, ?_, ?_, ?_⟩ <;> (
   intros
   first | unfold laws_FnTableParts.j0 | unfold laws_FnTableParts.j1 | unfold laws_FnTableParts.j7 | unfold laws_FnTableParts.l3 | unfold laws_FnTableParts.l0 | unfold laws_FnTableParts.j3 | unfold laws_FnTableParts.l1 | unfold laws_FnTableParts.l2 | unfold laws_FnTableParts.j6
   repeat' first | (with_reducible first | apply ih0 | apply ih1 | apply ih2 | apply ih3 | apply ih4 | apply ih5 | apply ih6 | apply ih7 | apply ih8 | apply impl_DependsOn.mono | apply impl_FixInput.mono | apply impl_IsMonotone.mono | apply impl_IsSymmetric.mono | apply impl_OnesOf.mono | apply impl_SwapInputs.mono | apply laws_qHas.mono | apply laws_qInts.mono | apply laws_qSum.mono | apply laws_qTable.mono | apply spec_DependsOn.mono | apply spec_DrawDependsOn.mono | apply spec_DrawFixInput.mono | apply spec_DrawSwapInputs.mono | apply spec_FixInput.mono | apply spec_IsMonotone.mono | apply spec_IsSymmetric.mono | apply spec_OnesOf.mono | apply spec_SwapInputs.mono | exact LeO.refl _ | exact LeO.none _ | refine LeO.ite ?_ ?_ | refine LeO.bind ?_ (fun _ => ?_)) | exact LeO.none _ | refine LeO.ite ?_ ?_ | refine LeO.bind ?_ (fun _ => ?_))
theorem laws_FnTableParts.mono : ∀ a0 a1 k, LeO (laws_FnTableParts.f k a0 a1) (laws_FnTableParts.f (k + 1) a0 a1) := by
 intro a0 a1 k
 obtain ⟨ih0, ih1, ih2, ih3, ih4, ih5, ih6, ih7, ih8⟩ := laws_FnTableParts.mono_l k
 unfold laws_FnTableParts.f
 repeat' first | (with_reducible first | apply ih0 | apply ih1 | apply ih2 | apply ih3 | apply ih4 | apply ih5 | apply ih6 | apply ih7 | apply ih8 | apply impl_DependsOn.mono | apply impl_FixInput.mono | apply impl_IsMonotone.mono | apply impl_IsSymmetric.mono | apply impl_OnesOf.mono | apply impl_SwapInputs.mono | apply laws_qHas.mono | apply laws_qInts.mono | apply laws_qSum.mono | apply laws_qTable.mono | apply spec_DependsOn.mono | apply spec_DrawDependsOn.mono | apply spec_DrawFixInput.mono | apply spec_DrawSwapInputs.mono | apply spec_FixInput.mono | apply spec_IsMonotone.mono | apply spec_IsSymmetric.mono | apply spec_OnesOf.mono | apply spec_SwapInputs.mono | exact LeO.refl _ | exact LeO.none _ | refine LeO.ite ?_ ?_ | refine LeO.bind ?_ (fun _ => ?_)) | exact LeO.none _ | refine LeO.ite ?_ ?_ | refine LeO.bind ?_ (fun _ => ?_)
def laws_FnTableParts.T22 : Bool × List (List Nat × List Nat) := (true, [([], []), ([0], [0]), ([1], [1]), ([2], [2]), ([2], [2]), ([3, 4, 2, 2], [2, 3, 4]), ([5, 2], [2, 5]), ([2, 6], [2, 6]), ([7, 5], [7]), ([8], [8]), ([9, 8], [8, 9]), ([10, 8, 8], [8, 10]), ([8], [8]), ([12, 8], [8, 12]), ([13, 11, 8], [8, 13]), ([11, 14, 8], [8, 11, 14]), ([8, 15], [8, 15])])
def laws_FnTableParts.B22 : List Nat := [0, 1, 3, 7, 7, 31, 63, 127, 255, 511, 1023, 2047, 511, 4607, 16383, 32767, 65535]
theorem laws_FnTableParts.tab22 : rtab .any (opsOf Try.f4 22) = laws_FnTableParts.T22 := by kernel_rfl
theorem laws_FnTableParts.bits22 : waitsOk laws_FnTableParts.T22.2 laws_FnTableParts.B22 = true := by kernel_rfl
def laws_FnTableParts.T34 : Bool × List (List Nat × List Nat) := (true, [([], []), ([0], [0]), ([1], [1]), ([2], [2]), ([3, 2], [2, 3]), ([2, 4], [2, 4]), ([5, 2], [5]), ([6], [6]), ([6], [6]), ([7, 8, 6, 6], [6, 7, 8]), ([9, 6], [6, 9]), ([6, 10], [6, 10]), ([11, 9], [11]), ([12], [12]), ([12], [12]), ([13, 14, 12, 12], [12, 13, 14]), ([15, 12], [12, 15]), ([12, 16], [12, 16]), ([17, 15], [17]), ([18], [18]), ([19, 18], [18, 19]), ([18, 20], [18, 20]), ([21, 18], [21]), ([22], [22]), ([23, 22], [22, 23]), ([22, 24], [22, 24]), ([25, 22], [25]), ([26], [26]), ([26], [26]), ([27, 28, 26, 26], [26, 27, 28]), ([26], [26]), ([26], [26]), ([30, 31, 29, 26], [26, 30, 31]), ([29, 32, 26], [26, 29, 32]), ([26, 33], [26, 33])])
def laws_FnTableParts.B34 : List Nat := [0, 1, 3, 7, 15, 31, 63, 127, 127, 511, 1023, 2047, 4095, 8191, 8191, 32767, 65535, 131071, 262143, 524287, 1048575, 2097151, 4194303, 8388607, 16777215, 33554431, 67108863, 134217727, 134217727, 536870911, 134217727, 134217727, 4294967295, 8589934591, 17179869183]
theorem laws_FnTableParts.tab34 : rtab .any (opsOf Try.f4 34) = laws_FnTableParts.T34 := by kernel_rfl
theorem laws_FnTableParts.bits34 : waitsOk laws_FnTableParts.T34.2 laws_FnTableParts.B34 = true := by kernel_rfl
end Go.Proofs.Ytgekdgggpfiamaa.P
