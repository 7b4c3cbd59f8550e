-- PRINTED by print.py (a twelfth state) out of the translation. Not trusted: Lean checks it.
import Derived.Test.YtfekgidcnidijaaDoorPx0
import Derived.Test.YtfekgidcnidijaaDoorSmall
namespace Go.Proofs.YtfekgidcnidijaaDoor.P
open Go.RowKit Go.Proofs.YtfekgidcnidijaaDoorW.PrintWords Go.Proofs.YtfekgidcnidijaaDoorW.PrintLast Go.Proofs.YtfekgidcnidijaaDoorW.PrintMore
attribute [local go_sem] max2_int min2_int max_two min_two max_three min_three max_four min_four   -- for this text's walks alone
set_option linter.unusedVariables false
set_option linter.unusedSimpArgs false
set_option maxHeartbeats 8000000
set_option maxRecDepth 100000

/-! ### laws_szLogEntryS: function 12 -/
open Kd
def laws_szLogEntryS.f (l0 : List (S70)) (a1 : Int) : Option (Int) := if (wrap64 (a1 - (l0.length : Int))) < 0 then (some (-1)) else (some (wrap64 (a1 - (l0.length : Int))))
theorem laws_szLogEntryS.calls (A0 : Option Addr) (c0 : Nat) (l0 : List (S70)) (a1 : Int) (r : Int) (w : World) (hr0 : Kd.C k70 w A0 l0.length l0) (hc0 : l0.length <= c0) (h : laws_szLogEntryS.f l0 a1 = some r) :
 Calls Tryd.prog 12 #[.slice A0 l0.length c0, .int .i64 a1] w fun e w' => e = .returned (.int .i64 r) /\ Drawn0 w w' := by
 have HR0 := Aside0.mk hr0
 have HC0 := Aside0.mk hc0
 clear hr0 hc0
 have H := h
 clear h
 unfold laws_szLogEntryS.f at H
 replace H := ifB H; rcases H with ⟨c3b0, H⟩ | ⟨c3b0, H⟩
 · obtain rfl := Option.some.inj H
   go_enter Tryd.func12, Tryd.ntmps12
   go_wp2
   go_ret
   exact ⟨RG, DR⟩
 obtain rfl := Option.some.inj H
 go_enter Tryd.func12, Tryd.ntmps12
 go_wp2
 go_ret
 exact ⟨RG, DR⟩
/-! ### spec_l1In: function 60 -/
open Kd
def spec_l1In.f (a0 : Int) (a1 : Int) (a2 : Int) : Option (Bool) := if a0 ≥ a1 then (some (decide (a0 <= a2))) else (some false)
theorem spec_l1In.calls (a0 : Int) (a1 : Int) (a2 : Int) (r : Bool) (w : World) (h : spec_l1In.f a0 a1 a2 = some r) :
 Calls Tryd.prog 60 #[.int .i64 a0, .int .i64 a1, .int .i64 a2] w fun e w' => e = .returned (.bool r) /\ Drawn0 w w' := by
 have H := h
 clear h
 unfold spec_l1In.f at H
 replace H := ifQ H; rcases H with ⟨c4, H⟩ | ⟨c4, H⟩
 · have c4b0 : decide (a1 <= a0) = true := decide_eq_true c4
   clear c4
   obtain rfl := Option.some.inj H
   go_enter Tryd.func60, Tryd.ntmps60
   go_wp2
   go_ret
   exact ⟨RG, DR⟩
 have c4b0 : decide (a1 <= a0) = false := decide_eq_false c4
 clear c4
 obtain rfl := Option.some.inj H
 go_enter Tryd.func60, Tryd.ntmps60
 go_wp2
 go_ret
 exact ⟨RG, DR⟩
/-! ### spec_loEntry: function 57 -/
open Kd
def spec_loEntry.f (a0_0 : Int) (a0_1 : Int) (a0_2 : Int) (a0_3 : Int) : Option (Bool) := (spec_l1In.f a0_0 0 1).bind fun t102 => (if t102 = true then ((spec_l1In.f a0_1 1 3).bind fun t103 => (if t103 = true then ((spec_l1In.f a0_2 0 10).bind fun t104 => (if t104 = true then ((spec_l1In.f a0_3 (-1) 9).bind fun t105 => (some t105)) else (some false))) else (some false))) else (some false))
theorem spec_loEntry.calls (a0_0 : Int) (a0_1 : Int) (a0_2 : Int) (a0_3 : Int) (r : Bool) (w : World) (h : spec_loEntry.f a0_0 a0_1 a0_2 a0_3 = some r) :
 Calls Tryd.prog 57 #[.agg #[.int .i64 a0_0, .int .i64 a0_1, .int .i64 a0_2, .int .i64 a0_3]] w fun e w' => e = .returned (.bool r) /\ Below w.heap.size w w' := by
 have hu66 := Tryd.underlying66
 have HB := Aside0.mk (Below.refl w.heap.size w)
 have H := h
 clear h
 unfold spec_loEntry.f at H
 replace H := bindA H; obtain ⟨t102, A2, H⟩ := H
 replace H := ifX H; rcases H with ⟨rfl, H⟩ | ⟨rfl, H⟩
 · replace H := bindA H; obtain ⟨t103, A4, H⟩ := H
   replace H := ifX H; rcases H with ⟨rfl, H⟩ | ⟨rfl, H⟩
   · replace H := bindA H; obtain ⟨t104, A6, H⟩ := H
     replace H := ifX H; rcases H with ⟨rfl, H⟩ | ⟨rfl, H⟩
     · replace H := bindA H; obtain ⟨t105, A8, H⟩ := H
       obtain rfl := Option.some.inj H
       go_enter Tryd.func57, Tryd.ntmps57
       go_wp2_with (first | ((with_reducible refine gate_dst (N := 1) rfl ?_); refine boxE (cs := #[.int .i64 a0_0, .int .i64 a0_1, .int .i64 a0_2, .int .i64 a0_3]) (t := 66) ?_; intro gb101 hg w9 hbox hb; refine E4b HB.1 hg hbox hb ?_; clear HB; intro HB BK101 GW101 GE101; clear hb hbox hg; obtain ⟨hcz10_0, hcz10_1, hcz10_2, hcz10_3, hfz10_0, hfz10_1, hfz10_2, hfz10_3⟩ := cz4 BK101.1) | ((with_reducible refine gate_callee (f := 60) rfl ?_); refine goesM (N := (some 5)) #[.int .i64 a0_0, .int .i64 0, .int .i64 1] Tryd.func60 ?_; (with_reducible refine (spec_l1In.calls a0_0 0 1 true _ A2.1).mono ?_); rintro e w' ⟨rfl, ⟨nd, rfl⟩⟩; refine ⟨_, rfl, ?_⟩) | (go_at_call 60; (with_reducible refine (spec_l1In.calls a0_1 1 3 true _ A4.1).mono ?_); rintro e w' ⟨rfl, ⟨nd, rfl⟩⟩) | (go_at_call 60; (with_reducible refine (spec_l1In.calls a0_2 0 10 true _ A6.1).mono ?_); rintro e w' ⟨rfl, ⟨nd, rfl⟩⟩) | (go_at_call 60; (with_reducible refine (spec_l1In.calls a0_3 (-1) 9 t105 _ A8.1).mono ?_); rintro e w' ⟨rfl, ⟨nd, rfl⟩⟩))
       go_ret
       exact ⟨RF, BL HB.1⟩
     obtain rfl := Option.some.inj H
     go_enter Tryd.func57, Tryd.ntmps57
     go_wp2_with (first | ((with_reducible refine gate_dst (N := 1) rfl ?_); refine boxE (cs := #[.int .i64 a0_0, .int .i64 a0_1, .int .i64 a0_2, .int .i64 a0_3]) (t := 66) ?_; intro gb101 hg w11 hbox hb; refine E4b HB.1 hg hbox hb ?_; clear HB; intro HB BK101 GW101 GE101; clear hb hbox hg; obtain ⟨hcz12_0, hcz12_1, hcz12_2, hcz12_3, hfz12_0, hfz12_1, hfz12_2, hfz12_3⟩ := cz4 BK101.1) | ((with_reducible refine gate_callee (f := 60) rfl ?_); refine goesM (N := (some 5)) #[.int .i64 a0_0, .int .i64 0, .int .i64 1] Tryd.func60 ?_; (with_reducible refine (spec_l1In.calls a0_0 0 1 true _ A2.1).mono ?_); rintro e w' ⟨rfl, ⟨nd, rfl⟩⟩; refine ⟨_, rfl, ?_⟩) | (go_at_call 60; (with_reducible refine (spec_l1In.calls a0_1 1 3 true _ A4.1).mono ?_); rintro e w' ⟨rfl, ⟨nd, rfl⟩⟩) | (go_at_call 60; (with_reducible refine (spec_l1In.calls a0_2 0 10 false _ A6.1).mono ?_); rintro e w' ⟨rfl, ⟨nd, rfl⟩⟩))
     go_ret
     exact ⟨RF, BL HB.1⟩
   obtain rfl := Option.some.inj H
   go_enter Tryd.func57, Tryd.ntmps57
   go_wp2_with (first | ((with_reducible refine gate_dst (N := 1) rfl ?_); refine boxE (cs := #[.int .i64 a0_0, .int .i64 a0_1, .int .i64 a0_2, .int .i64 a0_3]) (t := 66) ?_; intro gb101 hg w13 hbox hb; refine E4b HB.1 hg hbox hb ?_; clear HB; intro HB BK101 GW101 GE101; clear hb hbox hg; obtain ⟨hcz14_0, hcz14_1, hcz14_2, hcz14_3, hfz14_0, hfz14_1, hfz14_2, hfz14_3⟩ := cz4 BK101.1) | ((with_reducible refine gate_callee (f := 60) rfl ?_); refine goesM (N := (some 5)) #[.int .i64 a0_0, .int .i64 0, .int .i64 1] Tryd.func60 ?_; (with_reducible refine (spec_l1In.calls a0_0 0 1 true _ A2.1).mono ?_); rintro e w' ⟨rfl, ⟨nd, rfl⟩⟩; refine ⟨_, rfl, ?_⟩) | (go_at_call 60; (with_reducible refine (spec_l1In.calls a0_1 1 3 false _ A4.1).mono ?_); rintro e w' ⟨rfl, ⟨nd, rfl⟩⟩))
   go_ret
   exact ⟨RF, BL HB.1⟩
 obtain rfl := Option.some.inj H
 go_enter Tryd.func57, Tryd.ntmps57
 go_wp2_with (first | ((with_reducible refine gate_dst (N := 1) rfl ?_); refine boxE (cs := #[.int .i64 a0_0, .int .i64 a0_1, .int .i64 a0_2, .int .i64 a0_3]) (t := 66) ?_; intro gb101 hg w15 hbox hb; refine E4b HB.1 hg hbox hb ?_; clear HB; intro HB BK101 GW101 GE101; clear hb hbox hg; obtain ⟨hcz16_0, hcz16_1, hcz16_2, hcz16_3, hfz16_0, hfz16_1, hfz16_2, hfz16_3⟩ := cz4 BK101.1) | ((with_reducible refine gate_callee (f := 60) rfl ?_); refine goesM (N := (some 5)) #[.int .i64 a0_0, .int .i64 0, .int .i64 1] Tryd.func60 ?_; (with_reducible refine (spec_l1In.calls a0_0 0 1 false _ A2.1).mono ?_); rintro e w' ⟨rfl, ⟨nd, rfl⟩⟩; refine ⟨_, rfl, ?_⟩))
 go_ret
 exact ⟨RF, BL HB.1⟩

/-! ### spec_loGood: function 34 -/
open Kd
def spec_loGood.l0 : Nat -> List (S66) -> List (S66) -> Int -> Int -> Option (Bool)
 | 0, _, _, _, _ => none
 | k + 1, x0, x5, x6, x7 => if x7 < x6 then (if 0 <= x7 then (if x7 < (x5.length : Int) then ((spec_loEntry.f ((rd_T66 x5 x7).f0) ((rd_T66 x5 x7).f1.f0) ((rd_T66 x5 x7).f1.f1) ((rd_T66 x5 x7).f1.f2)).bind fun t108 => (if t108 = true then (spec_loGood.l0 k x0 x5 x6 (wrap64 (x7 + 1))) else (some false))) else (none)) else (none)) else (some (decide ((x0.length : Int) <= 60)))
def spec_loGood.f (k : Nat) (l0 : List (S66)) : Option (Bool) := spec_loGood.l0 k l0 l0 (l0.length : Int) 0
theorem spec_loGood.mono_l : ∀ k, (∀ y0 y1 y2 y3, LeO (spec_loGood.l0 k y0 y1 y2 y3) (spec_loGood.l0 (k + 1) y0 y1 y2 y3))
 | 0 => fun _ _ _ _ r h => by simp [spec_loGood.l0] at h
 | k + 1 => by
  have ih0 := spec_loGood.mono_l k
  intros
  first | unfold spec_loGood.l0
  exact LM1 ih0
theorem spec_loGood.mono : ∀ a0 k, LeO (spec_loGood.f k a0) (spec_loGood.f (k + 1) a0) := by
 intro a0 k
 have ih0 := spec_loGood.mono_l k
 unfold spec_loGood.f
 exact LM1 ih0
theorem spec_loGood.calls (k : Nat) (A0 : Option Addr) (c0 : Nat) (l0 : List (S66)) (r : Bool) (w : World) (hr0 : Kd.C k66 w A0 l0.length l0) (hc0 : l0.length <= c0) (h : spec_loGood.f k l0 = some r) :
 Calls Tryd.prog 34 #[.slice A0 l0.length c0] w fun e w' => e = .returned (.bool r) /\ Below w.heap.size w w' := by
 have hu66 := Tryd.underlying66
 have HR0 := Aside0.mk hr0
 have HC0 := Aside0.mk hc0
 clear hr0 hc0
 have HB := Aside0.mk (Below.refl w.heap.size w)
 have H := h
 clear h
 unfold spec_loGood.f at H
 have H' := Aside0.mk H
 clear H
 go_enter Tryd.func34, Tryd.ntmps34
 go_wp2
 go_loopg [7] k (fun kq v7 w' => ∃ (x7_1 : Int), v7 = .int .i64 x7_1 /\ Aside0 (spec_loGood.l0 kq l0 l0 (l0.length : Int) x7_1 = some r) /\ Aside0 (kq <= k) /\ Aside0 (Below w.heap.size w w'))
 case atStart => exact ⟨(0), RG, H', ⟨Nat.le_refl _⟩, ⟨BL HB.1⟩⟩
 clear H'
 obtain ⟨x7_1, rfl, HA, HK1, HB⟩ := hrel
 cases gk with
 | zero => exact absurd HA.1 (by simp [spec_loGood.l0])
 | succ k1 => ?_
 have H := HA.1
 clear HA
 simp only [spec_loGood.l0] at H
 replace H := ifB H; rcases H with ⟨c2b0, H⟩ | ⟨c2b0, H⟩
 · replace H := ifN H; obtain ⟨c3b0, H⟩ := H
   replace H := ifN H; obtain ⟨c4b0, H⟩ := H
   replace H := bindA H; obtain ⟨t108, A5, H⟩ := H
   replace H := ifX H; rcases H with ⟨rfl, H⟩ | ⟨rfl, H⟩
   · have H' := Aside0.mk H
     clear H
     have p106 : 0 <= (x7_1 : Int) := OD
     have q106 : x7_1 < (l0.length : Int) := OD
     obtain ⟨ad106, e106, hx106_0, hx106_1, hx106_2, hx106_3⟩ := at_T66 HR0.1 x7_1 p106 q106
     cases e106
     replace hx106_0 := (HB.1.cell (World.block_lt_of_cell? w _ hx106_0)).trans hx106_0
     replace hx106_1 := (HB.1.cell (World.block_lt_of_cell? w _ hx106_1)).trans hx106_1
     replace hx106_2 := (HB.1.cell (World.block_lt_of_cell? w _ hx106_2)).trans hx106_2
     replace hx106_3 := (HB.1.cell (World.block_lt_of_cell? w _ hx106_3)).trans hx106_3
     replace p106 := eq_true p106
     replace q106 := eq_true q106
     go_wp2_with (first | ((with_reducible refine gate_dst (N := 4) rfl ?_); refine boxE (cs := #[.int .i64 0, .int .i64 0, .int .i64 0, .int .i64 0]) (t := 66) ?_; intro gb107 hg w7 hbox hb; refine E4b HB.1 hg hbox hb ?_; clear HB; intro HB BK107 GW107 GE107; clear hb hbox hg; obtain ⟨hcz8_0, hcz8_1, hcz8_2, hcz8_3, hfz8_0, hfz8_1, hfz8_2, hfz8_3⟩ := cz4 BK107.1) | ((with_reducible refine gate_callee (f := 57) rfl ?_); refine goesM (N := (some 12)) #[.agg #[.int .i64 ((rd_T66 l0 x7_1).f0), .int .i64 ((rd_T66 l0 x7_1).f1.f0), .int .i64 ((rd_T66 l0 x7_1).f1.f1), .int .i64 ((rd_T66 l0 x7_1).f1.f2)]] Tryd.func57 ?_; (with_reducible refine (spec_loEntry.calls ((rd_T66 l0 x7_1).f0) ((rd_T66 l0 x7_1).f1.f0) ((rd_T66 l0 x7_1).f1.f1) ((rd_T66 l0 x7_1).f1.f2) true _ A5.1).mono ?_); rintro e w9 ⟨rfl, hb⟩; refine ⟨_, rfl, ?_⟩; refine E2 (blk_below (g := gb107) (o := .cells #[.int .i64 ((rd_T66 l0 x7_1).f0), .int .i64 ((rd_T66 l0 x7_1).f1.f0), .int .i64 ((rd_T66 l0 x7_1).f1.f1), .int .i64 ((rd_T66 l0 x7_1).f1.f2)] 66 (0, 0)) (PF0 BK107.1) hb) (bS HB.1 hb) ?_; clear BK107 HB; intro BK107 HB; (try clear hb)))
     go_roundg k1
     case measure => have := HK1.1; omega
     case rel => exact ⟨(wrap64 (x7_1 + 1)), RG, H', ⟨by have := HK1.1; omega⟩, ⟨BL HB.1⟩⟩
   obtain rfl := Option.some.inj H
   have p106 : 0 <= (x7_1 : Int) := OD
   have q106 : x7_1 < (l0.length : Int) := OD
   obtain ⟨ad106, e106, hx106_0, hx106_1, hx106_2, hx106_3⟩ := at_T66 HR0.1 x7_1 p106 q106
   cases e106
   replace hx106_0 := (HB.1.cell (World.block_lt_of_cell? w _ hx106_0)).trans hx106_0
   replace hx106_1 := (HB.1.cell (World.block_lt_of_cell? w _ hx106_1)).trans hx106_1
   replace hx106_2 := (HB.1.cell (World.block_lt_of_cell? w _ hx106_2)).trans hx106_2
   replace hx106_3 := (HB.1.cell (World.block_lt_of_cell? w _ hx106_3)).trans hx106_3
   replace p106 := eq_true p106
   replace q106 := eq_true q106
   go_wp2_with (first | ((with_reducible refine gate_dst (N := 4) rfl ?_); refine boxE (cs := #[.int .i64 0, .int .i64 0, .int .i64 0, .int .i64 0]) (t := 66) ?_; intro gb107 hg w10 hbox hb; refine E4b HB.1 hg hbox hb ?_; clear HB; intro HB BK107 GW107 GE107; clear hb hbox hg; obtain ⟨hcz11_0, hcz11_1, hcz11_2, hcz11_3, hfz11_0, hfz11_1, hfz11_2, hfz11_3⟩ := cz4 BK107.1) | ((with_reducible refine gate_callee (f := 57) rfl ?_); refine goesM (N := (some 12)) #[.agg #[.int .i64 ((rd_T66 l0 x7_1).f0), .int .i64 ((rd_T66 l0 x7_1).f1.f0), .int .i64 ((rd_T66 l0 x7_1).f1.f1), .int .i64 ((rd_T66 l0 x7_1).f1.f2)]] Tryd.func57 ?_; (with_reducible refine (spec_loEntry.calls ((rd_T66 l0 x7_1).f0) ((rd_T66 l0 x7_1).f1.f0) ((rd_T66 l0 x7_1).f1.f1) ((rd_T66 l0 x7_1).f1.f2) false _ A5.1).mono ?_); rintro e w12 ⟨rfl, hb⟩; refine ⟨_, rfl, ?_⟩; refine E2 (blk_below (g := gb107) (o := .cells #[.int .i64 ((rd_T66 l0 x7_1).f0), .int .i64 ((rd_T66 l0 x7_1).f1.f0), .int .i64 ((rd_T66 l0 x7_1).f1.f1), .int .i64 ((rd_T66 l0 x7_1).f1.f2)] 66 (0, 0)) (PF0 BK107.1) hb) (bS HB.1 hb) ?_; clear BK107 HB; intro BK107 HB; (try clear hb)))
   go_ret
   exact ⟨RF, BL HB.1⟩
 obtain rfl := Option.some.inj H
 go_wp2
 go_ret
 exact ⟨RF, BL HB.1⟩
/-! ### spec_loColours: function 41 -/
open Kd
def spec_loColours.f  : Option (List ByteArray) := some (([(⟨#[98, 108, 117, 101]⟩ : ByteArray), (⟨#[114, 101, 100]⟩ : ByteArray)] : List ByteArray))
theorem spec_loColours.calls  (r : List ByteArray) (w : World) (h : spec_loColours.f  = some r) :
 Calls Tryd.prog 41 #[] w fun e w' => ∃ v0_ : Value, e = .returned (v0_) /\ Kd.R Kd.string 9 w' w.heap.size (fun _ => True) v0_ r /\ Below w.heap.size w w' := by
 have HB := Aside0.mk (Below.refl w.heap.size w)
 have H := h
 clear h
 unfold spec_loColours.f at H
 generalize hy109 : ((([(⟨#[98, 108, 117, 101]⟩ : ByteArray), (⟨#[114, 101, 100]⟩ : ByteArray)] : List ByteArray)) : List ByteArray) = y109 at H
 have Ny109 := Aside0.mk hy109.symm; clear hy109
 obtain rfl := Option.some.inj H
 go_enter Tryd.func41, Tryd.ntmps41
 go_wp2_with (first | ((with_reducible refine gate_dst (N := 1) rfl ?_); refine R_lit Kd.string _ 9 ?hg (N := 1) ?hd (xs := ([(⟨#[98, 108, 117, 101]⟩ : ByteArray), (⟨#[114, 101, 100]⟩ : ByteArray)] : List ByteArray)) (inner := [.string (⟨#[98, 108, 117, 101]⟩ : ByteArray), .string (⟨#[114, 101, 100]⟩ : ByteArray)]) (ok := fun _ => True) (okp := fun _ => True) ?hr ?hp (fun _ hk => hk) trivial (Below.refl _ _) (Nat.le_refl _) (by simp) ?_; (case hd => rfl); (case hg => rfl); (case hr => first | (go_simp; done) | (go_simp; rfl)); (case hp => exact (Reps.one (show Kd.M Kd.string _ _ _ (⟨#[98, 108, 117, 101]⟩ : ByteArray) [.string (⟨#[98, 108, 117, 101]⟩ : ByteArray)] from rfl) (Reps.one (show Kd.M Kd.string _ _ _ (⟨#[114, 101, 100]⟩ : ByteArray) [.string (⟨#[114, 101, 100]⟩ : ByteArray)] from rfl) (Reps.none _ _)))); intro v110 w1 ho2 hb hg_ hnew_; clear hg_ hnew_; (first | rw [<- Ny109.1] at ho2 | (simp only [Int.reduceToNat] at ho2; rw [<- Ny109.1] at ho2)); refine E2 (R_lower ho2 (bZ HB.1)) (bS HB.1 hb) ?_; clear HB; intro HO111 HB; clear hb ho2))
 go_ret
 exact ⟨_, RF, RPE (HO111.1), BL HB.1⟩

/-! ### spec_loEnds: function 42 -/
open Kd
def spec_loEnds.f  : Option (List ByteArray) := some (([(⟨#[]⟩ : ByteArray), (⟨#[98, 111, 116, 116, 111, 109]⟩ : ByteArray), (⟨#[115, 116, 111, 112]⟩ : ByteArray), (⟨#[108, 111, 115, 116]⟩ : ByteArray)] : List ByteArray))
theorem spec_loEnds.calls  (r : List ByteArray) (w : World) (h : spec_loEnds.f  = some r) :
 Calls Tryd.prog 42 #[] w fun e w' => ∃ v0_ : Value, e = .returned (v0_) /\ Kd.R Kd.string 9 w' w.heap.size (fun _ => True) v0_ r /\ Below w.heap.size w w' := by
 have HB := Aside0.mk (Below.refl w.heap.size w)
 have H := h
 clear h
 unfold spec_loEnds.f at H
 generalize hy112 : ((([(⟨#[]⟩ : ByteArray), (⟨#[98, 111, 116, 116, 111, 109]⟩ : ByteArray), (⟨#[115, 116, 111, 112]⟩ : ByteArray), (⟨#[108, 111, 115, 116]⟩ : ByteArray)] : List ByteArray)) : List ByteArray) = y112 at H
 have Ny112 := Aside0.mk hy112.symm; clear hy112
 obtain rfl := Option.some.inj H
 go_enter Tryd.func42, Tryd.ntmps42
 go_wp2_with (first | ((with_reducible refine gate_dst (N := 1) rfl ?_); refine R_lit Kd.string _ 9 ?hg (N := 1) ?hd (xs := ([(⟨#[]⟩ : ByteArray), (⟨#[98, 111, 116, 116, 111, 109]⟩ : ByteArray), (⟨#[115, 116, 111, 112]⟩ : ByteArray), (⟨#[108, 111, 115, 116]⟩ : ByteArray)] : List ByteArray)) (inner := [.string (⟨#[]⟩ : ByteArray), .string (⟨#[98, 111, 116, 116, 111, 109]⟩ : ByteArray), .string (⟨#[115, 116, 111, 112]⟩ : ByteArray), .string (⟨#[108, 111, 115, 116]⟩ : ByteArray)]) (ok := fun _ => True) (okp := fun _ => True) ?hr ?hp (fun _ hk => hk) trivial (Below.refl _ _) (Nat.le_refl _) (by simp) ?_; (case hd => rfl); (case hg => rfl); (case hr => first | (go_simp; done) | (go_simp; rfl)); (case hp => exact (Reps.one (show Kd.M Kd.string _ _ _ (⟨#[]⟩ : ByteArray) [.string (⟨#[]⟩ : ByteArray)] from rfl) (Reps.one (show Kd.M Kd.string _ _ _ (⟨#[98, 111, 116, 116, 111, 109]⟩ : ByteArray) [.string (⟨#[98, 111, 116, 116, 111, 109]⟩ : ByteArray)] from rfl) (Reps.one (show Kd.M Kd.string _ _ _ (⟨#[115, 116, 111, 112]⟩ : ByteArray) [.string (⟨#[115, 116, 111, 112]⟩ : ByteArray)] from rfl) (Reps.one (show Kd.M Kd.string _ _ _ (⟨#[108, 111, 115, 116]⟩ : ByteArray) [.string (⟨#[108, 111, 115, 116]⟩ : ByteArray)] from rfl) (Reps.none _ _)))))); intro v113 w1 ho2 hb hg_ hnew_; clear hg_ hnew_; (first | rw [<- Ny112.1] at ho2 | (simp only [Int.reduceToNat] at ho2; rw [<- Ny112.1] at ho2)); refine E2 (R_lower ho2 (bZ HB.1)) (bS HB.1 hb) ?_; clear HB; intro HO114 HB; clear hb ho2))
 go_ret
 exact ⟨_, RF, RPE (HO114.1), BL HB.1⟩

/-! ### spec_l1Num: function 48 -/
open Kd
def spec_l1Num.f : Nat -> Int -> Option (ByteArray)
 | 0, _ => none
 | k + 1, a0 => if a0 < 10 then (some (strOfNums (([(wrap64 (48 + a0)) % 256] : List Int)))) else ((spec_l1Num.f k (wrap64 (Int.tdiv a0 10))).bind fun t118 => ((some (([(wrap64 (48 + (Int.tmod a0 10))) % 256] : List Int) : List Int)).bind fun y119 => (if t118.size + (strOfNums y119).size <= 9223372036854775807 then (some (t118 ++ (strOfNums y119))) else (none))))
theorem spec_l1Num.mono_l : ∀ k, (∀ y0, LeO (spec_l1Num.f k y0) (spec_l1Num.f (k + 1) y0))
 | 0 => fun _ r h => by simp [spec_l1Num.f] at h
 | k + 1 => by
  have ih0 := spec_l1Num.mono_l k
  intros
  first | unfold spec_l1Num.f
  exact LM1 ih0
theorem spec_l1Num.mono : ∀ a0 k, LeO (spec_l1Num.f k a0) (spec_l1Num.f (k + 1) a0) := by
 intro a0 k
 have ih0 := spec_l1Num.mono_l k
 exact ih0 a0
def spec_l1Num.T3 : Bool × List (List Nat × List Nat) := (true, [([], []), ([0], [0]), ([1], [1]), ([], []), ([3], [3]), ([4], [4]), ([5], [5]), ([6], [6]), ([7], [7]), ([2, 8], [2, 8]), ([9, 2, 0, 1, 2, 3, 4, 5, 6, 7, 8, 9], [9])])
def spec_l1Num.B3 : List Nat := [0, 1, 3, 0, 8, 24, 56, 120, 248, 511, 1023]
theorem spec_l1Num.tab3 : rtab .any (opsOf Tryd.f48 3) = spec_l1Num.T3 := by kernel_rfl
theorem spec_l1Num.bits3 : waitsOk spec_l1Num.T3.2 spec_l1Num.B3 = true := by kernel_rfl
theorem spec_l1Num.calls (k : Nat) : ∀ (a0 : Int) (r : ByteArray) (w : World) (h : spec_l1Num.f k a0 = some r),
 Calls Tryd.prog 48 #[.int .i64 a0] w fun e w' => e = .returned (.string r) /\ Below w.heap.size w w' := by
 induction k using Nat.strongRecOn with
 | _ k ih =>
 intro a0 r w h
 cases k with
 | zero => exact absurd h (by simp [spec_l1Num.f])
 | succ k =>
 simp only [spec_l1Num.f] at h
 have HB := Aside0.mk (Below.refl w.heap.size w)
 have H : (if a0 < 10 then (some (strOfNums (([(wrap64 (48 + a0)) % 256] : List Int)))) else ((spec_l1Num.f k (wrap64 (Int.tdiv a0 10))).bind fun t118 => ((some (([(wrap64 (48 + (Int.tmod a0 10))) % 256] : List Int) : List Int)).bind fun y119 => (if t118.size + (strOfNums y119).size <= 9223372036854775807 then (some (t118 ++ (strOfNums y119))) else (none))))) = some r := h
 clear h
 replace H := ifB H; rcases H with ⟨c2b0, H⟩ | ⟨c2b0, H⟩
 · generalize hy115 : ((([(wrap64 (48 + a0)) % 256] : List Int)) : List Int) = y115 at H
   have Ny115 := Aside0.mk hy115.symm; clear hy115
   obtain rfl := Option.some.inj H
   go_enter Tryd.func48, Tryd.ntmps48
   go_wp2_with (first | ((with_reducible refine gate_dst (N := 8) rfl ?_); refine R_lit (Kd.int .u8) _ 5 ?hg (N := 8) ?hd (xs := ([(wrap64 (48 + a0)) % 256] : List Int)) (inner := [.int .u8 ((wrap64 (48 + a0)) % 256)]) (ok := fun _ => True) (okp := fun _ => True) ?hr ?hp (fun _ hk => hk) trivial (Below.refl _ _) (Nat.le_refl _) (by simp) ?_; (case hd => rfl); (case hg => rfl); (case hr => first | (go_simp; done) | (go_simp; rfl)); (case hp => exact (Reps.one (show Kd.M (Kd.int .u8) _ _ _ ((wrap64 (48 + a0)) % 256) [.int .u8 ((wrap64 (48 + a0)) % 256)] from rfl) (Reps.none _ _))); intro v116 w3 ho4 hb hg_ hnew_; clear hg_ hnew_; (first | rw [<- Ny115.1] at ho4 | (simp only [Int.reduceToNat] at ho4; rw [<- Ny115.1] at ho4)); refine E2 (R_lower ho4 (bZ HB.1)) (bS HB.1 hb) ?_; clear HB; intro HO117 HB; clear hb ho4; have hcv5 := own_string (P := Tryd.prog) Tryd.underlying93 Tryd.underlying5 Tryd.underlying9 (Kd.own_of_R HO117.1)))
   go_ret
   exact ⟨RF, BL HB.1⟩
 replace H := bindA H; obtain ⟨t118, A6, H⟩ := H
 replace H := nameB H; obtain ⟨y119, Ny119, H⟩ := H
 replace H := ifP H; obtain ⟨c7, H⟩ := H
 have c7b0 := eq_true c7
 have c7b1 := decide_eq_true c7
 try have c7b2 : (9223372036854775807 < t118.size + (strOfNums y119).size) = False := eq_false (Nat.not_lt.2 c7)
 obtain rfl := Option.some.inj H
 go_enter Tryd.func48, Tryd.ntmps48
 try go_wp2
 refine E1 (below_drew1 HB.1) ?_
 clear HB
 intro HB
 refine start_ (n := 11) (S := fun w' => True) (ds := []) #[Zz,Zz,Zz,Zz,Zz,Zz,Zz,Zz,Zz,Zz,Zz] (by kernel_rfl) rfl rfl trivial (fun hHeld => ?_); refine with_tabW spec_l1Num.tab3 spec_l1Num.bits3 (fun HT_ HW_ => ?_)
 generalize w.drew = w8 at HB hHeld ⊢
 refine pureF 0 (N := some 10) HT_.1 ?_
 refine pureF 1 (N := some 11) HT_.1 ?_
 refine pureF 3 (N := some 13) HT_.1 ?_
 refine pureF 4 (N := some 14) HT_.1 ?_
 refine pureF 5 (N := some 15) HT_.1 ?_
 refine pureF 6 (N := some 16) HT_.1 ?_
 refine join_ (σ := Value) 2 #[Yy,Yy,Yy,Yy,Yy,Yy,Yy,Yy,Yy,Zz,Zz] (fun s_ => [(12, .string t118), (17, s_), (18, .string (strOfNums y119))]) (fun s_ w' => (Kd.R (Kd.int .u8) 5 w' w.heap.size (fun _ => True) s_ y119) /\ (Below w.heap.size w w')) ?_ ?_
 rotate_left
 · intro hCont
   refine two_ (i := 2) (j := 7) (Ni := some 12) (Nj := some 17) #[Yy,Yy,Yy,Yy,Yy,Yy,Yy,Zz,Zz,Zz,Zz] #[Yy,Yy,Zz,Yy,Yy,Yy,Yy,Yy,Zz,Zz,Zz] rfl rfl rfl rfl (two_of HT_.1 (by kernel_rfl)) (by decide) (by decide) (fun K hK => ?_) (fun K hK => ?_)
   · skip
     refine goes_ Tryd.func48 (by kernel_rfl) rfl #[.int .i64 (wrap64 (Int.tdiv a0 10))] (by rfl) rfl rfl (by (try simp only [List.map_toArray, List.map_cons, List.map_nil]); first | done | rfl | (simp only [List.length_drop, List.length_take]; rfl)) ?_
     with_reducible refine (ih k (by omega) (wrap64 (Int.tdiv a0 10)) t118 _ A6.1).mono ?_
     rintro e w9 ⟨rfl, hb⟩
     refine ⟨_, rfl, ?_⟩
     refine E1 (bS HB.1 hb) ?_
     clear HB
     intro HB
     (try clear hb)
     (try clear hb2)
     (try clear hk)
     (try clear hi)
     refine hK.out _ _ trivial (fun hHeld => ?_)
     clear hK K
     refine norm_ (a' := ?_) ?_ ?_
     rotate_left
     · show Act.put _ (some 12) _ = _
       simp only [Act.put, List.setIfInBounds_toArray, List.set_cons_zero, List.set_cons_succ, i64_w, i32_w]
       rfl
     refine one_ (i := 7) (N := some 17) #[Yy,Yy,Yy,Yy,Yy,Yy,Yy,Yy,Zz,Zz,Zz] rfl rfl (one_of HT_.1 (by kernel_rfl)) (by decide) (fun K hK => ?_)
     refine R_lit_step (Kd.int .u8) _ 5 ?hg (N := 17) ?hd (xs := ([(wrap64 (48 + (Int.tmod a0 10))) % 256] : List Int)) (inner := [.int .u8 ((wrap64 (48 + (Int.tmod a0 10))) % 256)]) (ok := fun _ => True) (okp := fun _ => True) ?hr ?hp (fun _ hk => hk) trivial (Below.refl _ _) (Nat.le_refl _) (by simp) ?_; (case hd => rfl); (case hg => rfl); (case hr => first | (go_simp; done) | (go_simp; rfl)); (case hp => exact (Reps.one (show Kd.M (Kd.int .u8) _ _ _ ((wrap64 (48 + (Int.tmod a0 10))) % 256) [.int .u8 ((wrap64 (48 + (Int.tmod a0 10))) % 256)] from rfl) (Reps.none _ _)))
     intro v120 w10 ho11 hb hg_ hnew_
     clear hg_ hnew_
     (first | rw [<- Ny119.1] at ho11 | (simp only [Int.reduceToNat] at ho11; rw [<- Ny119.1] at ho11))
     refine E2 (R_lower ho11 (bZ HB.1)) (bS HB.1 hb) ?_
     clear HB
     intro HO121 HB
     clear hb ho11
     refine hK.out _ _ trivial (fun hHeld => ?_)
     clear hK K
     refine norm_ (a' := ?_) ?_ ?_
     rotate_left
     · show Act.put _ (some 17) _ = _
       simp only [Act.put, List.setIfInBounds_toArray, List.set_cons_zero, List.set_cons_succ, i64_w, i32_w]
       rfl
     refine one_ (i := 8) (N := some 18) #[Yy,Yy,Yy,Yy,Yy,Yy,Yy,Yy,Yy,Zz,Zz] rfl rfl (one_of HT_.1 (by kernel_rfl)) (by decide) (fun K hK => ?_)
     have hcv12 := own_string (P := Tryd.prog) Tryd.underlying93 Tryd.underlying5 Tryd.underlying9 (Kd.own_of_R HO121.1)
     refine value_ (w1 := ?_) (v := ?_) (by rfl) rfl ?_ ?_
     rotate_left 2
     · go_simp
       constructor
       · rfl
       rfl
     clear hcv12
     refine hK.out _ _ trivial (fun hHeld => ?_)
     clear hK K
     refine norm_ (a' := ?_) ?_ ?_
     rotate_left
     · show Act.put _ (some 18) _ = _
       simp only [Act.put, List.setIfInBounds_toArray, List.set_cons_zero, List.set_cons_succ, i64_w, i32_w]
       rfl
     exact norm_ NA (hCont (v120) _ ⟨(PR HO121.1), (BL HB.1)⟩)
   skip
   refine R_lit_step (Kd.int .u8) _ 5 ?hg (N := 17) ?hd (xs := ([(wrap64 (48 + (Int.tmod a0 10))) % 256] : List Int)) (inner := [.int .u8 ((wrap64 (48 + (Int.tmod a0 10))) % 256)]) (ok := fun _ => True) (okp := fun _ => True) ?hr ?hp (fun _ hk => hk) trivial (Below.refl _ _) (Nat.le_refl _) (by simp) ?_; (case hd => rfl); (case hg => rfl); (case hr => first | (go_simp; done) | (go_simp; rfl)); (case hp => exact (Reps.one (show Kd.M (Kd.int .u8) _ _ _ ((wrap64 (48 + (Int.tmod a0 10))) % 256) [.int .u8 ((wrap64 (48 + (Int.tmod a0 10))) % 256)] from rfl) (Reps.none _ _)))
   intro v120 w9 ho10 hb hg_ hnew_
   clear hg_ hnew_
   (first | rw [<- Ny119.1] at ho10 | (simp only [Int.reduceToNat] at ho10; rw [<- Ny119.1] at ho10))
   refine E2 (R_lower ho10 (bZ HB.1)) (bS HB.1 hb) ?_
   clear HB
   intro HO121 HB
   clear hb ho10
   refine hK.out _ _ trivial (fun hHeld => ?_)
   clear hK K
   refine norm_ (a' := ?_) ?_ ?_
   rotate_left
   · show Act.put _ (some 17) _ = _
     simp only [Act.put, List.setIfInBounds_toArray, List.set_cons_zero, List.set_cons_succ, i64_w, i32_w]
     rfl
   refine two_ (i := 2) (j := 8) (Ni := some 12) (Nj := some 18) #[Yy,Yy,Yy,Yy,Yy,Yy,Yy,Yy,Zz,Zz,Zz] #[Yy,Yy,Zz,Yy,Yy,Yy,Yy,Yy,Yy,Zz,Zz] rfl rfl rfl rfl (two_of HT_.1 (by kernel_rfl)) (by decide) (by decide) (fun K hK => ?_) (fun K hK => ?_)
   · skip
     refine goes_ Tryd.func48 (by kernel_rfl) rfl #[.int .i64 (wrap64 (Int.tdiv a0 10))] (by rfl) rfl rfl (by (try simp only [List.map_toArray, List.map_cons, List.map_nil]); first | done | rfl | (simp only [List.length_drop, List.length_take]; rfl)) ?_
     with_reducible refine (ih k (by omega) (wrap64 (Int.tdiv a0 10)) t118 _ A6.1).mono ?_
     rintro e w11 ⟨rfl, hb⟩
     refine ⟨_, rfl, ?_⟩
     refine E2 (rB HO121.1 hb) (bS HB.1 hb) ?_
     clear HO121 HB
     intro HO121 HB
     (try clear hb)
     (try clear hb2)
     (try clear hk)
     (try clear hi)
     refine hK.out _ _ trivial (fun hHeld => ?_)
     clear hK K
     refine norm_ (a' := ?_) ?_ ?_
     rotate_left
     · show Act.put _ (some 12) _ = _
       simp only [Act.put, List.setIfInBounds_toArray, List.set_cons_zero, List.set_cons_succ, i64_w, i32_w]
       rfl
     refine one_ (i := 8) (N := some 18) #[Yy,Yy,Yy,Yy,Yy,Yy,Yy,Yy,Yy,Zz,Zz] rfl rfl (one_of HT_.1 (by kernel_rfl)) (by decide) (fun K hK => ?_)
     have hcv12 := own_string (P := Tryd.prog) Tryd.underlying93 Tryd.underlying5 Tryd.underlying9 (Kd.own_of_R HO121.1)
     refine value_ (w1 := ?_) (v := ?_) (by rfl) rfl ?_ ?_
     rotate_left 2
     · go_simp
       constructor
       · rfl
       rfl
     clear hcv12
     refine hK.out _ _ trivial (fun hHeld => ?_)
     clear hK K
     refine norm_ (a' := ?_) ?_ ?_
     rotate_left
     · show Act.put _ (some 18) _ = _
       simp only [Act.put, List.setIfInBounds_toArray, List.set_cons_zero, List.set_cons_succ, i64_w, i32_w]
       rfl
     exact norm_ NA (hCont (v120) _ ⟨(PR HO121.1), (BL HB.1)⟩)
   skip
   have hcv11 := own_string (P := Tryd.prog) Tryd.underlying93 Tryd.underlying5 Tryd.underlying9 (Kd.own_of_R HO121.1)
   refine value_ (w1 := ?_) (v := ?_) (by rfl) rfl ?_ ?_
   rotate_left 2
   · go_simp
     constructor
     · rfl
     rfl
   clear hcv11
   refine hK.out _ _ trivial (fun hHeld => ?_)
   clear hK K
   refine norm_ (a' := ?_) ?_ ?_
   rotate_left
   · show Act.put _ (some 18) _ = _
     simp only [Act.put, List.setIfInBounds_toArray, List.set_cons_zero, List.set_cons_succ, i64_w, i32_w]
     rfl
   refine one_ (i := 2) (N := some 12) #[Yy,Yy,Yy,Yy,Yy,Yy,Yy,Yy,Yy,Zz,Zz] rfl rfl (one_of HT_.1 (by kernel_rfl)) (by decide) (fun K hK => ?_)
   refine goes_ Tryd.func48 (by kernel_rfl) rfl #[.int .i64 (wrap64 (Int.tdiv a0 10))] (by rfl) rfl rfl (by (try simp only [List.map_toArray, List.map_cons, List.map_nil]); first | done | rfl | (simp only [List.length_drop, List.length_take]; rfl)) ?_
   with_reducible refine (ih k (by omega) (wrap64 (Int.tdiv a0 10)) t118 _ A6.1).mono ?_
   rintro e w12 ⟨rfl, hb⟩
   refine ⟨_, rfl, ?_⟩
   refine E2 (rB HO121.1 hb) (bS HB.1 hb) ?_
   clear HO121 HB
   intro HO121 HB
   (try clear hb)
   (try clear hb2)
   (try clear hk)
   (try clear hi)
   refine hK.out _ _ trivial (fun hHeld => ?_)
   clear hK K
   refine norm_ (a' := ?_) ?_ ?_
   rotate_left
   · show Act.put _ (some 12) _ = _
     simp only [Act.put, List.setIfInBounds_toArray, List.set_cons_zero, List.set_cons_succ, i64_w, i32_w]
     rfl
   exact norm_ NA (hCont (v120) _ ⟨(PR HO121.1), (BL HB.1)⟩)
 rintro v120 w13 ⟨h0_, h1_⟩
 refine E2 h0_ h1_ ?_
 clear HB h0_ h1_
 intro HO121 HB
 have hHeld := trivial
 refine norm_ (a' := ?_) ?_ ?_
 rotate_left
 · simp only [putAll, Act.put, List.setIfInBounds_toArray, List.set_cons_zero, List.set_cons_succ]
   rfl
 refine pureF 9 (N := some 19) HT_.1 ?_
 refine pureF 10 (N := some 2) HT_.1 ?_
 refine done_ (done_of HT_.1 (by kernel_rfl)) ?_
 try go_wp2
 go_ret
 exact ⟨RF, BL HB.1⟩
/-! ### spec_loText: function 35 -/
open Kd
theorem later_ {P : Program} {md : Region.Mode} {ops : Array Oper} {Q : Exit -> Act -> World -> Prop} {S S2 S' : World -> Prop} (hi : ∀ w, S' w ↔ (S w /\ S2 w)) :
 ∀ (fuel : Nat) (l : Array Bool) (a : Act) (w : World), S w -> S2 w -> (S' w -> wpAnyLast P md ops Q S' [] fuel l a w) -> wpAnyLast P md ops Q S [] fuel l a w
 | 0, _, _, w, h1, h2, h => h ((hi w).2 ⟨h1, h2⟩)
 | fuel + 1, _, _, w, h1, h2, h => ⟨(h ((hi w).2 ⟨h1, h2⟩)).1, fun i hm => wpOp_mono (fun a' w' h' => by
  have hs := (hi w').1 (h'.1 (by simp) ((hi w).2 ⟨h1, h2⟩))
  exact ⟨fun _ _ => hs.1, later_ hi fuel _ a' w' hs.1 hs.2 (fun _ => h'.2)⟩) ((h ((hi w).2 ⟨h1, h2⟩)).2 i hm)⟩
def spec_loText.l0 : Nat -> ByteArray -> List (S66) -> Int -> Int -> Option (ByteArray)
 | 0, _, _, _, _ => none
 | k + 1, x3, x6, x7, x8 => if x8 < x7 then (if 0 <= x8 then (if x8 < (x6.length : Int) then ((spec_loColours.f).bind fun t124 => (if 0 <= ((rd_T66 x6 x8).f0) then (if ((rd_T66 x6 x8).f0) < (t124.length : Int) then (if (rdOf ByteArray.empty t124 ((rd_T66 x6 x8).f0)).size + 1 <= 9223372036854775807 then ((spec_loEnds.f).bind fun t128 => (if 0 <= ((rd_T66 x6 x8).f1.f0) then (if ((rd_T66 x6 x8).f1.f0) < (t128.length : Int) then (if ((rdOf ByteArray.empty t124 ((rd_T66 x6 x8).f0)) ++ (⟨#[32]⟩ : ByteArray)).size + (rdOf ByteArray.empty t128 ((rd_T66 x6 x8).f1.f0)).size <= 9223372036854775807 then (if (((rdOf ByteArray.empty t124 ((rd_T66 x6 x8).f0)) ++ (⟨#[32]⟩ : ByteArray)) ++ (rdOf ByteArray.empty t128 ((rd_T66 x6 x8).f1.f0))).size + 1 <= 9223372036854775807 then ((spec_l1Num.f k ((rd_T66 x6 x8).f1.f1)).bind fun t132 => (if ((((rdOf ByteArray.empty t124 ((rd_T66 x6 x8).f0)) ++ (⟨#[32]⟩ : ByteArray)) ++ (rdOf ByteArray.empty t128 ((rd_T66 x6 x8).f1.f0))) ++ (⟨#[32]⟩ : ByteArray)).size + t132.size <= 9223372036854775807 then (if (((((rdOf ByteArray.empty t124 ((rd_T66 x6 x8).f0)) ++ (⟨#[32]⟩ : ByteArray)) ++ (rdOf ByteArray.empty t128 ((rd_T66 x6 x8).f1.f0))) ++ (⟨#[32]⟩ : ByteArray)) ++ t132).size + 1 <= 9223372036854775807 then (if x3.size + ((((((rdOf ByteArray.empty t124 ((rd_T66 x6 x8).f0)) ++ (⟨#[32]⟩ : ByteArray)) ++ (rdOf ByteArray.empty t128 ((rd_T66 x6 x8).f1.f0))) ++ (⟨#[32]⟩ : ByteArray)) ++ t132) ++ (⟨#[32]⟩ : ByteArray)).size <= 9223372036854775807 then (if ((rd_T66 x6 x8).f1.f2) < 0 then (if (x3 ++ ((((((rdOf ByteArray.empty t124 ((rd_T66 x6 x8).f0)) ++ (⟨#[32]⟩ : ByteArray)) ++ (rdOf ByteArray.empty t128 ((rd_T66 x6 x8).f1.f0))) ++ (⟨#[32]⟩ : ByteArray)) ++ t132) ++ (⟨#[32]⟩ : ByteArray))).size + 2 <= 9223372036854775807 then (spec_loText.l0 k ((x3 ++ ((((((rdOf ByteArray.empty t124 ((rd_T66 x6 x8).f0)) ++ (⟨#[32]⟩ : ByteArray)) ++ (rdOf ByteArray.empty t128 ((rd_T66 x6 x8).f1.f0))) ++ (⟨#[32]⟩ : ByteArray)) ++ t132) ++ (⟨#[32]⟩ : ByteArray))) ++ (⟨#[45, 10]⟩ : ByteArray)) x6 x7 (wrap64 (x8 + 1))) else (none)) else ((spec_l1Num.f k ((rd_T66 x6 x8).f1.f2)).bind fun t133 => (if t133.size + 1 <= 9223372036854775807 then (if (x3 ++ ((((((rdOf ByteArray.empty t124 ((rd_T66 x6 x8).f0)) ++ (⟨#[32]⟩ : ByteArray)) ++ (rdOf ByteArray.empty t128 ((rd_T66 x6 x8).f1.f0))) ++ (⟨#[32]⟩ : ByteArray)) ++ t132) ++ (⟨#[32]⟩ : ByteArray))).size + (t133 ++ (⟨#[10]⟩ : ByteArray)).size <= 9223372036854775807 then (spec_loText.l0 k ((x3 ++ ((((((rdOf ByteArray.empty t124 ((rd_T66 x6 x8).f0)) ++ (⟨#[32]⟩ : ByteArray)) ++ (rdOf ByteArray.empty t128 ((rd_T66 x6 x8).f1.f0))) ++ (⟨#[32]⟩ : ByteArray)) ++ t132) ++ (⟨#[32]⟩ : ByteArray))) ++ (t133 ++ (⟨#[10]⟩ : ByteArray))) x6 x7 (wrap64 (x8 + 1))) else (none)) else (none)))) else (none)) else (none)) else (none))) else (none)) else (none)) else (none)) else (none))) else (none)) else (none)) else (none))) else (none)) else (none)) else (some x3)
def spec_loText.f (k : Nat) (l0 : List (S66)) : Option (ByteArray) := spec_loText.l0 k (⟨#[]⟩ : ByteArray) l0 (l0.length : Int) 0
theorem spec_loText.mono_l : ∀ k, (∀ y0 y1 y2 y3, LeO (spec_loText.l0 k y0 y1 y2 y3) (spec_loText.l0 (k + 1) y0 y1 y2 y3))
 | 0 => fun _ _ _ _ r h => by simp [spec_loText.l0] at h
 | k + 1 => by
  have ih0 := spec_loText.mono_l k
  intros
  first | unfold spec_loText.l0
  exact LM2 ih0 spec_l1Num.mono
theorem spec_loText.mono : ∀ a0 k, LeO (spec_loText.f k a0) (spec_loText.f (k + 1) a0) := by
 intro a0 k
 have ih0 := spec_loText.mono_l k
 unfold spec_loText.f
 exact LM2 ih0 spec_l1Num.mono
def spec_loText.T5 : Bool × List (List Nat × List Nat) := (true, [([], []), ([], []), ([], []), ([2], [2]), ([1, 3], [1, 3]), ([4], [4]), ([5], [5]), ([1], []), ([], []), ([8], [8]), ([9], [9]), ([7, 10], [7, 10]), ([11], [11]), ([6, 12], [6, 12]), ([13], [13]), ([], []), ([15], [15]), ([16], [16]), ([17, 7], [17]), ([14, 18], [14, 18]), ([19], [19]), ([0, 20], [0, 20]), ([21, 18, 0, 1, 2, 3, 4, 5, 6, 7, 8, 9, 10, 11, 12, 13, 14, 15, 16, 17, 18, 19, 20, 21], [0, 21])])
def spec_loText.B5 : List Nat := [0, 0, 0, 4, 14, 30, 62, 2, 0, 256, 768, 1922, 3970, 8190, 16382, 0, 32768, 98304, 229506, 524286, 1048574, 2097151, 4194303]
theorem spec_loText.tab5 : rtab .any (opsOf Tryd.f35 5) = spec_loText.T5 := by kernel_rfl
theorem spec_loText.bits5 : waitsOk spec_loText.T5.2 spec_loText.B5 = true := by kernel_rfl
theorem spec_loText.calls (k : Nat) (A0 : Option Addr) (c0 : Nat) (l0 : List (S66)) (r : ByteArray) (w : World) (hr0 : Kd.C k66 w A0 l0.length l0) (hc0 : l0.length <= c0) (h : spec_loText.f k l0 = some r) :
 Calls Tryd.prog 35 #[.slice A0 l0.length c0] w fun e w' => e = .returned (.string r) /\ Below w.heap.size w w' := by
 have hu66 := Tryd.underlying66
 have HR0 := Aside0.mk hr0
 have HC0 := Aside0.mk hc0
 clear hr0 hc0
 have HB := Aside0.mk (Below.refl w.heap.size w)
 have H := h
 clear h
 unfold spec_loText.f at H
 have H' := Aside0.mk H
 clear H
 go_enter Tryd.func35, Tryd.ntmps35
 go_wp2
 go_loopg [3, 8] k (fun kq v3 v8 w' => ∃ (x3_1 : ByteArray) (x8_1 : Int), v3 = .string x3_1 /\ v8 = .int .i64 x8_1 /\ Aside0 (spec_loText.l0 kq x3_1 l0 (l0.length : Int) x8_1 = some r) /\ Aside0 (kq <= k) /\ Aside0 (Below w.heap.size w w'))
 case atStart => exact ⟨((⟨#[]⟩ : ByteArray)), (0), RG, RG, H', ⟨Nat.le_refl _⟩, ⟨BL HB.1⟩⟩
 clear H'
 obtain ⟨x3_1, x8_1, rfl, rfl, HA, HK1, HB⟩ := hrel
 cases gk with
 | zero => exact absurd HA.1 (by simp [spec_loText.l0])
 | succ k1 => ?_
 have H := HA.1
 clear HA
 simp only [spec_loText.l0] at H
 replace H := ifB H; rcases H with ⟨c2b0, H⟩ | ⟨c2b0, H⟩
 · replace H := ifN H; obtain ⟨c3b0, H⟩ := H
   replace H := ifN H; obtain ⟨c4b0, H⟩ := H
   replace H := bindA H; obtain ⟨t124, A5, H⟩ := H
   replace H := ifN H; obtain ⟨c6b0, H⟩ := H
   replace H := ifN H; obtain ⟨c7b0, H⟩ := H
   replace H := ifP H; obtain ⟨c8, H⟩ := H
   have c8b0 := eq_true c8
   have c8b1 := decide_eq_true c8
   try have c8b2 : (9223372036854775807 < (rdOf ByteArray.empty t124 ((rd_T66 l0 x8_1).f0)).size + 1) = False := eq_false (Nat.not_lt.2 c8)
   replace H := bindA H; obtain ⟨t128, A9, H⟩ := H
   replace H := ifN H; obtain ⟨c10b0, H⟩ := H
   replace H := ifN H; obtain ⟨c11b0, H⟩ := H
   replace H := ifP H; obtain ⟨c12, H⟩ := H
   have c12b0 := eq_true c12
   have c12b1 := decide_eq_true c12
   try have c12b2 : (9223372036854775807 < ((rdOf ByteArray.empty t124 ((rd_T66 l0 x8_1).f0)) ++ (⟨#[32]⟩ : ByteArray)).size + (rdOf ByteArray.empty t128 ((rd_T66 l0 x8_1).f1.f0)).size) = False := eq_false (Nat.not_lt.2 c12)
   try have c12b3 : (9223372036854775807 < (rdOf ByteArray.empty t124 ((rd_T66 l0 x8_1).f0)).size + 1 + (rdOf ByteArray.empty t128 ((rd_T66 l0 x8_1).f1.f0)).size) = False := by have h_ := c12b2; simp only [ByteArray.size_append] at h_; exact h_
   replace H := ifP H; obtain ⟨c13, H⟩ := H
   have c13b0 := eq_true c13
   have c13b1 := decide_eq_true c13
   try have c13b2 : (9223372036854775807 < (((rdOf ByteArray.empty t124 ((rd_T66 l0 x8_1).f0)) ++ (⟨#[32]⟩ : ByteArray)) ++ (rdOf ByteArray.empty t128 ((rd_T66 l0 x8_1).f1.f0))).size + 1) = False := eq_false (Nat.not_lt.2 c13)
   try have c13b3 : (9223372036854775807 < (rdOf ByteArray.empty t124 ((rd_T66 l0 x8_1).f0)).size + 1 + (rdOf ByteArray.empty t128 ((rd_T66 l0 x8_1).f1.f0)).size + 1) = False := by have h_ := c13b2; simp only [ByteArray.size_append] at h_; exact h_
   replace H := bindA H; obtain ⟨t132, A14, H⟩ := H
   replace H := ifP H; obtain ⟨c15, H⟩ := H
   have c15b0 := eq_true c15
   have c15b1 := decide_eq_true c15
   try have c15b2 : (9223372036854775807 < ((((rdOf ByteArray.empty t124 ((rd_T66 l0 x8_1).f0)) ++ (⟨#[32]⟩ : ByteArray)) ++ (rdOf ByteArray.empty t128 ((rd_T66 l0 x8_1).f1.f0))) ++ (⟨#[32]⟩ : ByteArray)).size + t132.size) = False := eq_false (Nat.not_lt.2 c15)
   try have c15b3 : (9223372036854775807 < (rdOf ByteArray.empty t124 ((rd_T66 l0 x8_1).f0)).size + 1 + (rdOf ByteArray.empty t128 ((rd_T66 l0 x8_1).f1.f0)).size + 1 + t132.size) = False := by have h_ := c15b2; simp only [ByteArray.size_append] at h_; exact h_
   replace H := ifP H; obtain ⟨c16, H⟩ := H
   have c16b0 := eq_true c16
   have c16b1 := decide_eq_true c16
   try have c16b2 : (9223372036854775807 < (((((rdOf ByteArray.empty t124 ((rd_T66 l0 x8_1).f0)) ++ (⟨#[32]⟩ : ByteArray)) ++ (rdOf ByteArray.empty t128 ((rd_T66 l0 x8_1).f1.f0))) ++ (⟨#[32]⟩ : ByteArray)) ++ t132).size + 1) = False := eq_false (Nat.not_lt.2 c16)
   try have c16b3 : (9223372036854775807 < (rdOf ByteArray.empty t124 ((rd_T66 l0 x8_1).f0)).size + 1 + (rdOf ByteArray.empty t128 ((rd_T66 l0 x8_1).f1.f0)).size + 1 + t132.size + 1) = False := by have h_ := c16b2; simp only [ByteArray.size_append] at h_; exact h_
   replace H := ifP H; obtain ⟨c17, H⟩ := H
   have c17b0 := eq_true c17
   have c17b1 := decide_eq_true c17
   try have c17b2 : (9223372036854775807 < x3_1.size + ((((((rdOf ByteArray.empty t124 ((rd_T66 l0 x8_1).f0)) ++ (⟨#[32]⟩ : ByteArray)) ++ (rdOf ByteArray.empty t128 ((rd_T66 l0 x8_1).f1.f0))) ++ (⟨#[32]⟩ : ByteArray)) ++ t132) ++ (⟨#[32]⟩ : ByteArray)).size) = False := eq_false (Nat.not_lt.2 c17)
   try have c17b3 : (9223372036854775807 < x3_1.size + ((rdOf ByteArray.empty t124 ((rd_T66 l0 x8_1).f0)).size + 1 + (rdOf ByteArray.empty t128 ((rd_T66 l0 x8_1).f1.f0)).size + 1 + t132.size + 1)) = False := by have h_ := c17b2; simp only [ByteArray.size_append] at h_; exact h_
   replace H := ifB H; rcases H with ⟨c18b0, H⟩ | ⟨c18b0, H⟩
   · replace H := ifP H; obtain ⟨c19, H⟩ := H
     have c19b0 := eq_true c19
     have c19b1 := decide_eq_true c19
     try have c19b2 : (9223372036854775807 < (x3_1 ++ ((((((rdOf ByteArray.empty t124 ((rd_T66 l0 x8_1).f0)) ++ (⟨#[32]⟩ : ByteArray)) ++ (rdOf ByteArray.empty t128 ((rd_T66 l0 x8_1).f1.f0))) ++ (⟨#[32]⟩ : ByteArray)) ++ t132) ++ (⟨#[32]⟩ : ByteArray))).size + 2) = False := eq_false (Nat.not_lt.2 c19)
     try have c19b3 : (9223372036854775807 < x3_1.size + ((rdOf ByteArray.empty t124 ((rd_T66 l0 x8_1).f0)).size + 1 + (rdOf ByteArray.empty t128 ((rd_T66 l0 x8_1).f1.f0)).size + 1 + t132.size + 1) + 2) = False := by have h_ := c19b2; simp only [ByteArray.size_append] at h_; exact h_
     have H' := Aside0.mk H
     clear H
     have p122 : 0 <= (x8_1 : Int) := OD
     have q122 : x8_1 < (l0.length : Int) := OD
     obtain ⟨ad122, e122, hx122_0, hx122_1, hx122_2, hx122_3⟩ := at_T66 HR0.1 x8_1 p122 q122
     cases e122
     replace hx122_0 := (HB.1.cell (World.block_lt_of_cell? w _ hx122_0)).trans hx122_0
     replace hx122_1 := (HB.1.cell (World.block_lt_of_cell? w _ hx122_1)).trans hx122_1
     replace hx122_2 := (HB.1.cell (World.block_lt_of_cell? w _ hx122_2)).trans hx122_2
     replace hx122_3 := (HB.1.cell (World.block_lt_of_cell? w _ hx122_3)).trans hx122_3
     replace p122 := eq_true p122
     replace q122 := eq_true q122
     try go_wp2_with (first | ((with_reducible refine gate_dst (N := 5) rfl ?_); refine boxE (cs := #[.int .i64 0, .int .i64 0, .int .i64 0, .int .i64 0]) (t := 66) ?_; intro gb123 hg w20 hbox hb; refine E4b HB.1 hg hbox hb ?_; clear HB; intro HB BK123 GW123 GE123; clear hb hbox hg; obtain ⟨hcz21_0, hcz21_1, hcz21_2, hcz21_3, hfz21_0, hfz21_1, hfz21_2, hfz21_3⟩ := cz4 BK123.1))
     have n_ : (fun w22 : World => (w22.heap[gb123]? = some (.cells #[.int .i64 ((rd_T66 l0 x8_1).f0), .int .i64 ((rd_T66 l0 x8_1).f1.f0), .int .i64 ((rd_T66 l0 x8_1).f1.f1), .int .i64 ((rd_T66 l0 x8_1).f1.f2)] 66 (0, 0))) /\ (Below w.heap.size w w22)) ((((w20.setCell ⟨gb123, 0, none⟩ (.int .i64 ((rd_T66 l0 x8_1).f0))).setCell ⟨gb123, 1, none⟩ (.int .i64 ((rd_T66 l0 x8_1).f1.f0))).setCell ⟨gb123, 2, none⟩ (.int .i64 ((rd_T66 l0 x8_1).f1.f1))).setCell ⟨gb123, 3, none⟩ (.int .i64 ((rd_T66 l0 x8_1).f1.f2))) := ⟨by (with_reducible repeat (first | refine blk_drewN ?_ _ | refine blk_drew ?_ | refine blk_alloc ?_ _)); refine blk_put (cs := #[.int .i64 ((rd_T66 l0 x8_1).f0), .int .i64 ((rd_T66 l0 x8_1).f1.f0), .int .i64 ((rd_T66 l0 x8_1).f1.f1), .int .i64 0]) ?_ 3 _ rfl; (with_reducible repeat (first | refine blk_drewN ?_ _ | refine blk_drew ?_ | refine blk_alloc ?_ _)); refine blk_put (cs := #[.int .i64 ((rd_T66 l0 x8_1).f0), .int .i64 ((rd_T66 l0 x8_1).f1.f0), .int .i64 0, .int .i64 0]) ?_ 2 _ rfl; (with_reducible repeat (first | refine blk_drewN ?_ _ | refine blk_drew ?_ | refine blk_alloc ?_ _)); refine blk_put (cs := #[.int .i64 ((rd_T66 l0 x8_1).f0), .int .i64 0, .int .i64 0, .int .i64 0]) ?_ 1 _ rfl; (with_reducible repeat (first | refine blk_drewN ?_ _ | refine blk_drew ?_ | refine blk_alloc ?_ _)); refine blk_put (cs := #[.int .i64 0, .int .i64 0, .int .i64 0, .int .i64 0]) ?_ 0 _ rfl; (with_reducible repeat (first | refine blk_drewN ?_ _ | refine blk_drew ?_ | refine blk_alloc ?_ _)); exact BK123.1, BL HB.1⟩
     (try clear BK123)
     (try clear HB)
     generalize ((((w20.setCell ⟨gb123, 0, none⟩ (.int .i64 ((rd_T66 l0 x8_1).f0))).setCell ⟨gb123, 1, none⟩ (.int .i64 ((rd_T66 l0 x8_1).f1.f0))).setCell ⟨gb123, 2, none⟩ (.int .i64 ((rd_T66 l0 x8_1).f1.f1))).setCell ⟨gb123, 3, none⟩ (.int .i64 ((rd_T66 l0 x8_1).f1.f2))) = w22 at n_ ⊢
     obtain ⟨h0_, h1_⟩ := n_
     refine E2 h0_ h1_ ?_
     clear h0_ h1_
     intro BK123 HB
     refine E2 (blk_drew BK123.1) (below_drew1 HB.1) ?_
     clear BK123 HB
     intro BK123 HB
     refine start_ (n := 23) (S := fun w' => w'.cell? ⟨gb123, 0, none⟩ = some (.int .i64 ((rd_T66 l0 x8_1).f0)) /\ w'.cell? ⟨gb123, 1, none⟩ = some (.int .i64 ((rd_T66 l0 x8_1).f1.f0)) /\ w'.cell? ⟨gb123, 2, none⟩ = some (.int .i64 ((rd_T66 l0 x8_1).f1.f1)) /\ w'.cell? ⟨gb123, 3, none⟩ = some (.int .i64 ((rd_T66 l0 x8_1).f1.f2))) (ds := []) #[Zz,Zz,Zz,Zz,Zz,Zz,Zz,Zz,Zz,Zz,Zz,Zz,Zz,Zz,Zz,Zz,Zz,Zz,Zz,Zz,Zz,Zz,Zz] (by kernel_rfl) rfl rfl ⟨(blk_cell BK123.1 0).trans rfl, (blk_cell BK123.1 1).trans rfl, (blk_cell BK123.1 2).trans rfl, (blk_cell BK123.1 3).trans rfl⟩ (fun hHeld => ?_); refine with_tabW spec_loText.tab5 spec_loText.bits5 (fun HT_ HW_ => ?_)
     generalize w22.drew = w23 at BK123 HB hHeld ⊢
     refine pureF 0 (N := some 12) HT_.1 ?_
     refine pureF 2 (N := some 14) HT_.1 ?_
     refine pureF 8 (N := some 20) HT_.1 ?_
     refine pureF 9 (N := some 21) HT_.1 ?_
     refine pureF 15 (N := some 27) HT_.1 ?_
     refine pureF 16 (N := some 28) HT_.1 ?_
     refine takeE 3 (N := some 15) HT_.1 HW_.1 hHeld ?_
     refine takeE 10 (N := some 22) HT_.1 HW_.1 hHeld ?_
     refine takeE 17 (N := some 29) HT_.1 HW_.1 hHeld ?_
     refine one_ (i := 1) (N := some 13) #[Yy,Yy,Yy,Yy,Zz,Zz,Zz,Zz,Yy,Yy,Yy,Zz,Zz,Zz,Zz,Yy,Yy,Yy,Zz,Zz,Zz,Zz,Zz] rfl rfl (one_of HT_.1 (by kernel_rfl)) (by decide) (fun K hK => ?_)
     refine goes_ Tryd.func41 (by kernel_rfl) rfl #[] (by rfl) rfl rfl (by (try simp only [List.map_toArray, List.map_cons, List.map_nil]); first | done | rfl | (simp only [List.length_drop, List.length_take]; rfl)) ?_
     with_reducible refine (spec_loColours.calls  t124 _ A5.1).mono ?_
     rintro e w24 ⟨v125, rfl, ho0, hb⟩
     refine ⟨_, rfl, ?_⟩
     refine E3 (R_lower ho0 (bZ HB.1)) (bB BK123.1 hb) (bS HB.1 hb) ?_
     clear BK123 HB
     intro HO126 BK123 HB
     (try clear hb)
     (try clear hb2)
     (try clear hk)
     (try clear hi)
     (try clear ho0)
     obtain ⟨Ao25, co25, eo25⟩ := R_slice HO126.1
     (first | subst eo25 | (injection eo25 with f1_ f2_ f3_; have f4_ := f1_.symm; have f5_ := f3_.symm; clear f1_ f2_ f3_; subst f4_; subst f5_))
     have p127 : 0 <= (((rd_T66 l0 x8_1).f0) : Int) := OD
     have q127 : ((rd_T66 l0 x8_1).f0) < (t124.length : Int) := OD
     obtain ⟨ad127, e127, hx127_0⟩ := Kd.at_string (R_reads' HO126.1).2.2 ((rd_T66 l0 x8_1).f0) p127 q127
     cases e127
     replace p127 := eq_true p127
     replace q127 := eq_true q127
     refine hK.out _ _ ⟨(blk_cell BK123.1 0).trans rfl, (blk_cell BK123.1 1).trans rfl, (blk_cell BK123.1 2).trans rfl, (blk_cell BK123.1 3).trans rfl⟩ (fun hHeld => ?_)
     refine later_ (S2 := fun w' => w'.cell? (ad127.add (((rd_T66 l0 x8_1).f0)).toNat) = some (.string (rdOf ByteArray.empty t124 ((rd_T66 l0 x8_1).f0)))) (S' := fun w' => w'.cell? ⟨gb123, 0, none⟩ = some (.int .i64 ((rd_T66 l0 x8_1).f0)) /\ w'.cell? ⟨gb123, 1, none⟩ = some (.int .i64 ((rd_T66 l0 x8_1).f1.f0)) /\ w'.cell? ⟨gb123, 2, none⟩ = some (.int .i64 ((rd_T66 l0 x8_1).f1.f1)) /\ w'.cell? ⟨gb123, 3, none⟩ = some (.int .i64 ((rd_T66 l0 x8_1).f1.f2)) /\ w'.cell? (ad127.add (((rd_T66 l0 x8_1).f0)).toNat) = some (.string (rdOf ByteArray.empty t124 ((rd_T66 l0 x8_1).f0)))) (fun _ => by simp only [and_assoc]) _ _ _ _ hHeld hx127_0 (fun hHeld => ?_)
     clear hK K
     refine norm_ (a' := ?_) ?_ ?_
     rotate_left
     · show Act.put _ (some 13) _ = _
       simp only [Act.put, List.setIfInBounds_toArray, List.set_cons_zero, List.set_cons_succ, i64_w, i32_w]
       rfl
     refine pureF 4 (N := some 16) HT_.1 ?_
     refine takeE 5 (N := some 17) HT_.1 HW_.1 hHeld ?_
     refine pureF 6 (N := some 18) HT_.1 ?_
     refine one_ (i := 7) (N := some 19) #[Yy,Yy,Yy,Yy,Yy,Yy,Yy,Yy,Yy,Yy,Yy,Zz,Zz,Zz,Zz,Yy,Yy,Yy,Zz,Zz,Zz,Zz,Zz] rfl rfl (one_of HT_.1 (by kernel_rfl)) (by decide) (fun K hK => ?_)
     refine goes_ Tryd.func42 (by kernel_rfl) rfl #[] (by rfl) rfl rfl (by (try simp only [List.map_toArray, List.map_cons, List.map_nil]); first | done | rfl | (simp only [List.length_drop, List.length_take]; rfl)) ?_
     with_reducible refine (spec_loEnds.calls  t128 _ A9.1).mono ?_
     rintro e w26 ⟨v129, rfl, ho0, hb⟩
     have HS4_ := (hb.cell (World.block_lt_of_cell? _ _ (hHeld.2.2.2.2))).trans (hHeld.2.2.2.2)
     refine ⟨_, rfl, ?_⟩
     refine E4 (R_elder' (PR HO126.1) (R_base ho0) hb) (R_lower (R_new' ho0 (R_lt (PR HO126.1))) (bZ HB.1)) (bB BK123.1 hb) (bS HB.1 hb) ?_
     clear HO126 BK123 HB
     intro HO126 HO130 BK123 HB
     (try clear hb)
     (try clear hb2)
     (try clear hk)
     (try clear hi)
     (try clear ho0)
     obtain ⟨Ao27, co27, eo27⟩ := R_slice HO130.1
     (first | subst eo27 | (injection eo27 with f1_ f2_ f3_; have f4_ := f1_.symm; have f5_ := f3_.symm; clear f1_ f2_ f3_; subst f4_; subst f5_))
     have p131 : 0 <= (((rd_T66 l0 x8_1).f1.f0) : Int) := OD
     have q131 : ((rd_T66 l0 x8_1).f1.f0) < (t128.length : Int) := OD
     obtain ⟨ad131, e131, hx131_0⟩ := Kd.at_string (R_reads' HO130.1).2.2 ((rd_T66 l0 x8_1).f1.f0) p131 q131
     cases e131
     replace p131 := eq_true p131
     replace q131 := eq_true q131
     refine hK.out _ _ ⟨(blk_cell BK123.1 0).trans rfl, (blk_cell BK123.1 1).trans rfl, (blk_cell BK123.1 2).trans rfl, (blk_cell BK123.1 3).trans rfl, HS4_⟩ (fun hHeld => ?_)
     refine later_ (S2 := fun w' => w'.cell? (ad131.add (((rd_T66 l0 x8_1).f1.f0)).toNat) = some (.string (rdOf ByteArray.empty t128 ((rd_T66 l0 x8_1).f1.f0)))) (S' := fun w' => w'.cell? ⟨gb123, 0, none⟩ = some (.int .i64 ((rd_T66 l0 x8_1).f0)) /\ w'.cell? ⟨gb123, 1, none⟩ = some (.int .i64 ((rd_T66 l0 x8_1).f1.f0)) /\ w'.cell? ⟨gb123, 2, none⟩ = some (.int .i64 ((rd_T66 l0 x8_1).f1.f1)) /\ w'.cell? ⟨gb123, 3, none⟩ = some (.int .i64 ((rd_T66 l0 x8_1).f1.f2)) /\ w'.cell? (ad127.add (((rd_T66 l0 x8_1).f0)).toNat) = some (.string (rdOf ByteArray.empty t124 ((rd_T66 l0 x8_1).f0))) /\ w'.cell? (ad131.add (((rd_T66 l0 x8_1).f1.f0)).toNat) = some (.string (rdOf ByteArray.empty t128 ((rd_T66 l0 x8_1).f1.f0)))) (fun _ => by simp only [and_assoc]) _ _ _ _ hHeld hx131_0 (fun hHeld => ?_)
     clear hK K
     refine norm_ (a' := ?_) ?_ ?_
     rotate_left
     · show Act.put _ (some 19) _ = _
       simp only [Act.put, List.setIfInBounds_toArray, List.set_cons_zero, List.set_cons_succ, i64_w, i32_w]
       rfl
     refine pureF 11 (N := some 23) HT_.1 ?_
     refine takeE 12 (N := some 24) HT_.1 HW_.1 hHeld ?_
     refine pureF 13 (N := some 25) HT_.1 ?_
     refine pureF 14 (N := some 26) HT_.1 ?_
     refine one_ (i := 18) (N := some 30) #[Yy,Yy,Yy,Yy,Yy,Yy,Yy,Yy,Yy,Yy,Yy,Yy,Yy,Yy,Yy,Yy,Yy,Yy,Yy,Zz,Zz,Zz,Zz] rfl rfl (one_of HT_.1 (by kernel_rfl)) (by decide) (fun K hK => ?_)
     refine goes_ Tryd.func48 (by kernel_rfl) rfl #[.int .i64 ((rd_T66 l0 x8_1).f1.f1)] (by rfl) rfl rfl (by (try simp only [List.map_toArray, List.map_cons, List.map_nil]); first | done | rfl | (simp only [List.length_drop, List.length_take]; rfl)) ?_
     with_reducible refine (spec_l1Num.calls k1 ((rd_T66 l0 x8_1).f1.f1) t132 _ A14.1).mono ?_
     rintro e w28 ⟨rfl, hb⟩
     have HS4_ := (hb.cell (World.block_lt_of_cell? _ _ (hHeld.2.2.2.2.1))).trans (hHeld.2.2.2.2.1)
     have HS5_ := (hb.cell (World.block_lt_of_cell? _ _ (hHeld.2.2.2.2.2))).trans (hHeld.2.2.2.2.2)
     refine ⟨_, rfl, ?_⟩
     refine E4 (rB HO126.1 hb) (rB HO130.1 hb) (bB BK123.1 hb) (bS HB.1 hb) ?_
     clear HO126 HO130 BK123 HB
     intro HO126 HO130 BK123 HB
     (try clear hb)
     (try clear hb2)
     (try clear hk)
     (try clear hi)
     refine hK.out _ _ ⟨(blk_cell BK123.1 0).trans rfl, (blk_cell BK123.1 1).trans rfl, (blk_cell BK123.1 2).trans rfl, (blk_cell BK123.1 3).trans rfl, HS4_, HS5_⟩ (fun hHeld => ?_)
     clear hK K
     refine norm_ (a' := ?_) ?_ ?_
     rotate_left
     · show Act.put _ (some 30) _ = _
       simp only [Act.put, List.setIfInBounds_toArray, List.set_cons_zero, List.set_cons_succ, i64_w, i32_w]
       rfl
     refine pureF 19 (N := some 31) HT_.1 ?_
     refine pureF 20 (N := some 32) HT_.1 ?_
     refine pureF 21 (N := some 33) HT_.1 ?_
     refine pureF 22 (N := some 3) HT_.1 ?_
     refine done_ (done_of HT_.1 (by kernel_rfl)) ?_
     obtain ⟨hcz29_0, hcz29_1, hcz29_2, hcz29_3, hfz29_0, hfz29_1, hfz29_2, hfz29_3⟩ := cz4 BK123.1
     try go_wp2
     go_roundg k1
     case measure => have := HK1.1; omega
     case rel => exact ⟨((x3_1 ++ ((((((rdOf ByteArray.empty t124 ((rd_T66 l0 x8_1).f0)) ++ (⟨#[32]⟩ : ByteArray)) ++ (rdOf ByteArray.empty t128 ((rd_T66 l0 x8_1).f1.f0))) ++ (⟨#[32]⟩ : ByteArray)) ++ t132) ++ (⟨#[32]⟩ : ByteArray))) ++ (⟨#[45, 10]⟩ : ByteArray)), (wrap64 (x8_1 + 1)), RG, RG, H', ⟨by have := HK1.1; omega⟩, ⟨BL HB.1⟩⟩
   replace H := bindA H; obtain ⟨t133, A30, H⟩ := H
   replace H := ifP H; obtain ⟨c31, H⟩ := H
   have c31b0 := eq_true c31
   have c31b1 := decide_eq_true c31
   try have c31b2 : (9223372036854775807 < t133.size + 1) = False := eq_false (Nat.not_lt.2 c31)
   replace H := ifP H; obtain ⟨c32, H⟩ := H
   have c32b0 := eq_true c32
   have c32b1 := decide_eq_true c32
   try have c32b2 : (9223372036854775807 < (x3_1 ++ ((((((rdOf ByteArray.empty t124 ((rd_T66 l0 x8_1).f0)) ++ (⟨#[32]⟩ : ByteArray)) ++ (rdOf ByteArray.empty t128 ((rd_T66 l0 x8_1).f1.f0))) ++ (⟨#[32]⟩ : ByteArray)) ++ t132) ++ (⟨#[32]⟩ : ByteArray))).size + (t133 ++ (⟨#[10]⟩ : ByteArray)).size) = False := eq_false (Nat.not_lt.2 c32)
   try have c32b3 : (9223372036854775807 < x3_1.size + ((rdOf ByteArray.empty t124 ((rd_T66 l0 x8_1).f0)).size + 1 + (rdOf ByteArray.empty t128 ((rd_T66 l0 x8_1).f1.f0)).size + 1 + t132.size + 1) + (t133.size + 1)) = False := by have h_ := c32b2; simp only [ByteArray.size_append] at h_; exact h_
   have H' := Aside0.mk H
   clear H
   have p122 : 0 <= (x8_1 : Int) := OD
   have q122 : x8_1 < (l0.length : Int) := OD
   obtain ⟨ad122, e122, hx122_0, hx122_1, hx122_2, hx122_3⟩ := at_T66 HR0.1 x8_1 p122 q122
   cases e122
   replace hx122_0 := (HB.1.cell (World.block_lt_of_cell? w _ hx122_0)).trans hx122_0
   replace hx122_1 := (HB.1.cell (World.block_lt_of_cell? w _ hx122_1)).trans hx122_1
   replace hx122_2 := (HB.1.cell (World.block_lt_of_cell? w _ hx122_2)).trans hx122_2
   replace hx122_3 := (HB.1.cell (World.block_lt_of_cell? w _ hx122_3)).trans hx122_3
   replace p122 := eq_true p122
   replace q122 := eq_true q122
   try go_wp2_with (first | ((with_reducible refine gate_dst (N := 5) rfl ?_); refine boxE (cs := #[.int .i64 0, .int .i64 0, .int .i64 0, .int .i64 0]) (t := 66) ?_; intro gb123 hg w33 hbox hb; refine E4b HB.1 hg hbox hb ?_; clear HB; intro HB BK123 GW123 GE123; clear hb hbox hg; obtain ⟨hcz34_0, hcz34_1, hcz34_2, hcz34_3, hfz34_0, hfz34_1, hfz34_2, hfz34_3⟩ := cz4 BK123.1))
   have n_ : (fun w35 : World => (w35.heap[gb123]? = some (.cells #[.int .i64 ((rd_T66 l0 x8_1).f0), .int .i64 ((rd_T66 l0 x8_1).f1.f0), .int .i64 ((rd_T66 l0 x8_1).f1.f1), .int .i64 ((rd_T66 l0 x8_1).f1.f2)] 66 (0, 0))) /\ (Below w.heap.size w w35)) ((((w33.setCell ⟨gb123, 0, none⟩ (.int .i64 ((rd_T66 l0 x8_1).f0))).setCell ⟨gb123, 1, none⟩ (.int .i64 ((rd_T66 l0 x8_1).f1.f0))).setCell ⟨gb123, 2, none⟩ (.int .i64 ((rd_T66 l0 x8_1).f1.f1))).setCell ⟨gb123, 3, none⟩ (.int .i64 ((rd_T66 l0 x8_1).f1.f2))) := ⟨by (with_reducible repeat (first | refine blk_drewN ?_ _ | refine blk_drew ?_ | refine blk_alloc ?_ _)); refine blk_put (cs := #[.int .i64 ((rd_T66 l0 x8_1).f0), .int .i64 ((rd_T66 l0 x8_1).f1.f0), .int .i64 ((rd_T66 l0 x8_1).f1.f1), .int .i64 0]) ?_ 3 _ rfl; (with_reducible repeat (first | refine blk_drewN ?_ _ | refine blk_drew ?_ | refine blk_alloc ?_ _)); refine blk_put (cs := #[.int .i64 ((rd_T66 l0 x8_1).f0), .int .i64 ((rd_T66 l0 x8_1).f1.f0), .int .i64 0, .int .i64 0]) ?_ 2 _ rfl; (with_reducible repeat (first | refine blk_drewN ?_ _ | refine blk_drew ?_ | refine blk_alloc ?_ _)); refine blk_put (cs := #[.int .i64 ((rd_T66 l0 x8_1).f0), .int .i64 0, .int .i64 0, .int .i64 0]) ?_ 1 _ rfl; (with_reducible repeat (first | refine blk_drewN ?_ _ | refine blk_drew ?_ | refine blk_alloc ?_ _)); refine blk_put (cs := #[.int .i64 0, .int .i64 0, .int .i64 0, .int .i64 0]) ?_ 0 _ rfl; (with_reducible repeat (first | refine blk_drewN ?_ _ | refine blk_drew ?_ | refine blk_alloc ?_ _)); exact BK123.1, BL HB.1⟩
   (try clear BK123)
   (try clear HB)
   generalize ((((w33.setCell ⟨gb123, 0, none⟩ (.int .i64 ((rd_T66 l0 x8_1).f0))).setCell ⟨gb123, 1, none⟩ (.int .i64 ((rd_T66 l0 x8_1).f1.f0))).setCell ⟨gb123, 2, none⟩ (.int .i64 ((rd_T66 l0 x8_1).f1.f1))).setCell ⟨gb123, 3, none⟩ (.int .i64 ((rd_T66 l0 x8_1).f1.f2))) = w35 at n_ ⊢
   obtain ⟨h0_, h1_⟩ := n_
   refine E2 h0_ h1_ ?_
   clear h0_ h1_
   intro BK123 HB
   refine E2 (blk_drew BK123.1) (below_drew1 HB.1) ?_
   clear BK123 HB
   intro BK123 HB
   refine start_ (n := 23) (S := fun w' => w'.cell? ⟨gb123, 0, none⟩ = some (.int .i64 ((rd_T66 l0 x8_1).f0)) /\ w'.cell? ⟨gb123, 1, none⟩ = some (.int .i64 ((rd_T66 l0 x8_1).f1.f0)) /\ w'.cell? ⟨gb123, 2, none⟩ = some (.int .i64 ((rd_T66 l0 x8_1).f1.f1)) /\ w'.cell? ⟨gb123, 3, none⟩ = some (.int .i64 ((rd_T66 l0 x8_1).f1.f2))) (ds := []) #[Zz,Zz,Zz,Zz,Zz,Zz,Zz,Zz,Zz,Zz,Zz,Zz,Zz,Zz,Zz,Zz,Zz,Zz,Zz,Zz,Zz,Zz,Zz] (by kernel_rfl) rfl rfl ⟨(blk_cell BK123.1 0).trans rfl, (blk_cell BK123.1 1).trans rfl, (blk_cell BK123.1 2).trans rfl, (blk_cell BK123.1 3).trans rfl⟩ (fun hHeld => ?_); refine with_tabW spec_loText.tab5 spec_loText.bits5 (fun HT_ HW_ => ?_)
   generalize w35.drew = w36 at BK123 HB hHeld ⊢
   refine pureF 0 (N := some 12) HT_.1 ?_
   refine pureF 2 (N := some 14) HT_.1 ?_
   refine pureF 8 (N := some 20) HT_.1 ?_
   refine pureF 9 (N := some 21) HT_.1 ?_
   refine pureF 15 (N := some 27) HT_.1 ?_
   refine pureF 16 (N := some 28) HT_.1 ?_
   refine takeE 3 (N := some 15) HT_.1 HW_.1 hHeld ?_
   refine takeE 10 (N := some 22) HT_.1 HW_.1 hHeld ?_
   refine takeE 17 (N := some 29) HT_.1 HW_.1 hHeld ?_
   refine one_ (i := 1) (N := some 13) #[Yy,Yy,Yy,Yy,Zz,Zz,Zz,Zz,Yy,Yy,Yy,Zz,Zz,Zz,Zz,Yy,Yy,Yy,Zz,Zz,Zz,Zz,Zz] rfl rfl (one_of HT_.1 (by kernel_rfl)) (by decide) (fun K hK => ?_)
   refine goes_ Tryd.func41 (by kernel_rfl) rfl #[] (by rfl) rfl rfl (by (try simp only [List.map_toArray, List.map_cons, List.map_nil]); first | done | rfl | (simp only [List.length_drop, List.length_take]; rfl)) ?_
   with_reducible refine (spec_loColours.calls  t124 _ A5.1).mono ?_
   rintro e w37 ⟨v125, rfl, ho0, hb⟩
   refine ⟨_, rfl, ?_⟩
   refine E3 (R_lower ho0 (bZ HB.1)) (bB BK123.1 hb) (bS HB.1 hb) ?_
   clear BK123 HB
   intro HO126 BK123 HB
   (try clear hb)
   (try clear hb2)
   (try clear hk)
   (try clear hi)
   (try clear ho0)
   obtain ⟨Ao38, co38, eo38⟩ := R_slice HO126.1
   (first | subst eo38 | (injection eo38 with f1_ f2_ f3_; have f4_ := f1_.symm; have f5_ := f3_.symm; clear f1_ f2_ f3_; subst f4_; subst f5_))
   have p127 : 0 <= (((rd_T66 l0 x8_1).f0) : Int) := OD
   have q127 : ((rd_T66 l0 x8_1).f0) < (t124.length : Int) := OD
   obtain ⟨ad127, e127, hx127_0⟩ := Kd.at_string (R_reads' HO126.1).2.2 ((rd_T66 l0 x8_1).f0) p127 q127
   cases e127
   replace p127 := eq_true p127
   replace q127 := eq_true q127
   refine hK.out _ _ ⟨(blk_cell BK123.1 0).trans rfl, (blk_cell BK123.1 1).trans rfl, (blk_cell BK123.1 2).trans rfl, (blk_cell BK123.1 3).trans rfl⟩ (fun hHeld => ?_)
   refine later_ (S2 := fun w' => w'.cell? (ad127.add (((rd_T66 l0 x8_1).f0)).toNat) = some (.string (rdOf ByteArray.empty t124 ((rd_T66 l0 x8_1).f0)))) (S' := fun w' => w'.cell? ⟨gb123, 0, none⟩ = some (.int .i64 ((rd_T66 l0 x8_1).f0)) /\ w'.cell? ⟨gb123, 1, none⟩ = some (.int .i64 ((rd_T66 l0 x8_1).f1.f0)) /\ w'.cell? ⟨gb123, 2, none⟩ = some (.int .i64 ((rd_T66 l0 x8_1).f1.f1)) /\ w'.cell? ⟨gb123, 3, none⟩ = some (.int .i64 ((rd_T66 l0 x8_1).f1.f2)) /\ w'.cell? (ad127.add (((rd_T66 l0 x8_1).f0)).toNat) = some (.string (rdOf ByteArray.empty t124 ((rd_T66 l0 x8_1).f0)))) (fun _ => by simp only [and_assoc]) _ _ _ _ hHeld hx127_0 (fun hHeld => ?_)
   clear hK K
   refine norm_ (a' := ?_) ?_ ?_
   rotate_left
   · show Act.put _ (some 13) _ = _
     simp only [Act.put, List.setIfInBounds_toArray, List.set_cons_zero, List.set_cons_succ, i64_w, i32_w]
     rfl
   refine pureF 4 (N := some 16) HT_.1 ?_
   refine takeE 5 (N := some 17) HT_.1 HW_.1 hHeld ?_
   refine pureF 6 (N := some 18) HT_.1 ?_
   refine one_ (i := 7) (N := some 19) #[Yy,Yy,Yy,Yy,Yy,Yy,Yy,Yy,Yy,Yy,Yy,Zz,Zz,Zz,Zz,Yy,Yy,Yy,Zz,Zz,Zz,Zz,Zz] rfl rfl (one_of HT_.1 (by kernel_rfl)) (by decide) (fun K hK => ?_)
   refine goes_ Tryd.func42 (by kernel_rfl) rfl #[] (by rfl) rfl rfl (by (try simp only [List.map_toArray, List.map_cons, List.map_nil]); first | done | rfl | (simp only [List.length_drop, List.length_take]; rfl)) ?_
   with_reducible refine (spec_loEnds.calls  t128 _ A9.1).mono ?_
   rintro e w39 ⟨v129, rfl, ho0, hb⟩
   have HS4_ := (hb.cell (World.block_lt_of_cell? _ _ (hHeld.2.2.2.2))).trans (hHeld.2.2.2.2)
   refine ⟨_, rfl, ?_⟩
   refine E4 (R_elder' (PR HO126.1) (R_base ho0) hb) (R_lower (R_new' ho0 (R_lt (PR HO126.1))) (bZ HB.1)) (bB BK123.1 hb) (bS HB.1 hb) ?_
   clear HO126 BK123 HB
   intro HO126 HO130 BK123 HB
   (try clear hb)
   (try clear hb2)
   (try clear hk)
   (try clear hi)
   (try clear ho0)
   obtain ⟨Ao40, co40, eo40⟩ := R_slice HO130.1
   (first | subst eo40 | (injection eo40 with f1_ f2_ f3_; have f4_ := f1_.symm; have f5_ := f3_.symm; clear f1_ f2_ f3_; subst f4_; subst f5_))
   have p131 : 0 <= (((rd_T66 l0 x8_1).f1.f0) : Int) := OD
   have q131 : ((rd_T66 l0 x8_1).f1.f0) < (t128.length : Int) := OD
   obtain ⟨ad131, e131, hx131_0⟩ := Kd.at_string (R_reads' HO130.1).2.2 ((rd_T66 l0 x8_1).f1.f0) p131 q131
   cases e131
   replace p131 := eq_true p131
   replace q131 := eq_true q131
   refine hK.out _ _ ⟨(blk_cell BK123.1 0).trans rfl, (blk_cell BK123.1 1).trans rfl, (blk_cell BK123.1 2).trans rfl, (blk_cell BK123.1 3).trans rfl, HS4_⟩ (fun hHeld => ?_)
   refine later_ (S2 := fun w' => w'.cell? (ad131.add (((rd_T66 l0 x8_1).f1.f0)).toNat) = some (.string (rdOf ByteArray.empty t128 ((rd_T66 l0 x8_1).f1.f0)))) (S' := fun w' => w'.cell? ⟨gb123, 0, none⟩ = some (.int .i64 ((rd_T66 l0 x8_1).f0)) /\ w'.cell? ⟨gb123, 1, none⟩ = some (.int .i64 ((rd_T66 l0 x8_1).f1.f0)) /\ w'.cell? ⟨gb123, 2, none⟩ = some (.int .i64 ((rd_T66 l0 x8_1).f1.f1)) /\ w'.cell? ⟨gb123, 3, none⟩ = some (.int .i64 ((rd_T66 l0 x8_1).f1.f2)) /\ w'.cell? (ad127.add (((rd_T66 l0 x8_1).f0)).toNat) = some (.string (rdOf ByteArray.empty t124 ((rd_T66 l0 x8_1).f0))) /\ w'.cell? (ad131.add (((rd_T66 l0 x8_1).f1.f0)).toNat) = some (.string (rdOf ByteArray.empty t128 ((rd_T66 l0 x8_1).f1.f0)))) (fun _ => by simp only [and_assoc]) _ _ _ _ hHeld hx131_0 (fun hHeld => ?_)
   clear hK K
   refine norm_ (a' := ?_) ?_ ?_
   rotate_left
   · show Act.put _ (some 19) _ = _
     simp only [Act.put, List.setIfInBounds_toArray, List.set_cons_zero, List.set_cons_succ, i64_w, i32_w]
     rfl
   refine pureF 11 (N := some 23) HT_.1 ?_
   refine takeE 12 (N := some 24) HT_.1 HW_.1 hHeld ?_
   refine pureF 13 (N := some 25) HT_.1 ?_
   refine pureF 14 (N := some 26) HT_.1 ?_
   refine one_ (i := 18) (N := some 30) #[Yy,Yy,Yy,Yy,Yy,Yy,Yy,Yy,Yy,Yy,Yy,Yy,Yy,Yy,Yy,Yy,Yy,Yy,Yy,Zz,Zz,Zz,Zz] rfl rfl (one_of HT_.1 (by kernel_rfl)) (by decide) (fun K hK => ?_)
   refine goes_ Tryd.func48 (by kernel_rfl) rfl #[.int .i64 ((rd_T66 l0 x8_1).f1.f1)] (by rfl) rfl rfl (by (try simp only [List.map_toArray, List.map_cons, List.map_nil]); first | done | rfl | (simp only [List.length_drop, List.length_take]; rfl)) ?_
   with_reducible refine (spec_l1Num.calls k1 ((rd_T66 l0 x8_1).f1.f1) t132 _ A14.1).mono ?_
   rintro e w41 ⟨rfl, hb⟩
   have HS4_ := (hb.cell (World.block_lt_of_cell? _ _ (hHeld.2.2.2.2.1))).trans (hHeld.2.2.2.2.1)
   have HS5_ := (hb.cell (World.block_lt_of_cell? _ _ (hHeld.2.2.2.2.2))).trans (hHeld.2.2.2.2.2)
   refine ⟨_, rfl, ?_⟩
   refine E4 (rB HO126.1 hb) (rB HO130.1 hb) (bB BK123.1 hb) (bS HB.1 hb) ?_
   clear HO126 HO130 BK123 HB
   intro HO126 HO130 BK123 HB
   (try clear hb)
   (try clear hb2)
   (try clear hk)
   (try clear hi)
   refine hK.out _ _ ⟨(blk_cell BK123.1 0).trans rfl, (blk_cell BK123.1 1).trans rfl, (blk_cell BK123.1 2).trans rfl, (blk_cell BK123.1 3).trans rfl, HS4_, HS5_⟩ (fun hHeld => ?_)
   clear hK K
   refine norm_ (a' := ?_) ?_ ?_
   rotate_left
   · show Act.put _ (some 30) _ = _
     simp only [Act.put, List.setIfInBounds_toArray, List.set_cons_zero, List.set_cons_succ, i64_w, i32_w]
     rfl
   refine pureF 19 (N := some 31) HT_.1 ?_
   refine pureF 20 (N := some 32) HT_.1 ?_
   refine pureF 21 (N := some 33) HT_.1 ?_
   refine pureF 22 (N := some 3) HT_.1 ?_
   refine done_ (done_of HT_.1 (by kernel_rfl)) ?_
   obtain ⟨hcz42_0, hcz42_1, hcz42_2, hcz42_3, hfz42_0, hfz42_1, hfz42_2, hfz42_3⟩ := cz4 BK123.1
   try go_wp2_with (first | ((with_reducible refine gate_callee (f := 48) rfl ?_); refine goesM (N := (some 44)) #[.int .i64 ((rd_T66 l0 x8_1).f1.f2)] Tryd.func48 ?_; (with_reducible refine (spec_l1Num.calls k1 ((rd_T66 l0 x8_1).f1.f2) t133 _ A30.1).mono ?_); rintro e w43 ⟨rfl, hb⟩; refine ⟨_, rfl, ?_⟩; refine E4 (rB HO126.1 hb) (rB HO130.1 hb) (bB BK123.1 hb) (bS HB.1 hb) ?_; clear HO126 HO130 BK123 HB; intro HO126 HO130 BK123 HB; (try clear hb)))
   go_roundg k1
   case measure => have := HK1.1; omega
   case rel => exact ⟨((x3_1 ++ ((((((rdOf ByteArray.empty t124 ((rd_T66 l0 x8_1).f0)) ++ (⟨#[32]⟩ : ByteArray)) ++ (rdOf ByteArray.empty t128 ((rd_T66 l0 x8_1).f1.f0))) ++ (⟨#[32]⟩ : ByteArray)) ++ t132) ++ (⟨#[32]⟩ : ByteArray))) ++ (t133 ++ (⟨#[10]⟩ : ByteArray))), (wrap64 (x8_1 + 1)), RG, RG, H', ⟨by have := HK1.1; omega⟩, ⟨BL HB.1⟩⟩
 obtain rfl := Option.some.inj H
 go_wp2
 go_ret
 exact ⟨RF, BL HB.1⟩
/-! ### spec_LogText: function 13 -/
open Kd
def spec_LogText.f (k : Nat) (l0 : List (S66)) : Option (ByteArray × Bool) := (spec_loGood.f k l0).bind fun t134 => (if t134 = true then ((spec_loText.f k l0).bind fun t135 => (some (t135, true))) else (some ((⟨#[]⟩ : ByteArray), false)))
theorem spec_LogText.mono : ∀ a0 k, LeO (spec_LogText.f k a0) (spec_LogText.f (k + 1) a0) := by
 intro a0 k
 unfold spec_LogText.f
 repeat' first
  | (with_reducible exact spec_loGood.mono _ _)
  | (with_reducible exact spec_loText.mono _ _)
  | (with_reducible exact LeO.refl _)
  | (with_reducible exact LeO.none _)
  | (with_reducible refine LeO.ite ?_ ?_)
  | (with_reducible refine LeO.bind ?_ (fun _ => ?_))
  | exact spec_loGood.mono _ _
  | exact spec_loText.mono _ _
  | exact LeO.none _
  | refine LeO.ite ?_ ?_
  | refine LeO.bind ?_ (fun _ => ?_)
theorem spec_LogText.calls (k : Nat) (A0 : Option Addr) (c0 : Nat) (l0 : List (S66)) (r1 : ByteArray) (r2 : Bool) (w : World) (hr0 : Kd.C k66 w A0 l0.length l0) (hc0 : l0.length <= c0) (h : spec_LogText.f k l0 = some (r1, r2)) :
 Calls Tryd.prog 13 #[.slice A0 l0.length c0] w fun e w' => e = .returned (.tuple #[.string r1, .bool r2]) /\ Below w.heap.size w w' := by
 have HR0 := Aside0.mk hr0
 have HC0 := Aside0.mk hc0
 clear hr0 hc0
 have HB := Aside0.mk (Below.refl w.heap.size w)
 have H := h
 clear h
 unfold spec_LogText.f at H
 replace H := bindA H; obtain ⟨t134, A2, H⟩ := H
 replace H := ifX H; rcases H with ⟨rfl, H⟩ | ⟨rfl, H⟩
 · replace H := bindA H; obtain ⟨t135, A4, H⟩ := H
   simp only [Option.some.injEq, Prod.mk.injEq] at H
   obtain ⟨rfl, rfl⟩ := H
   go_enter Tryd.func13, Tryd.ntmps13
   go_wp2_with (first | ((with_reducible refine gate_callee (f := 34) rfl ?_); refine goesM (N := (some 5)) #[.slice A0 l0.length c0] Tryd.func34 ?_; (with_reducible refine (spec_loGood.calls k _ _ l0 true _ ?side1 ?side2 A2.1).mono ?_); (case side1 => repeat (first | exact HR0.1 | (with_reducible refine C_alloc ?_ _) | (with_reducible refine C_drewN ?_ _) | (with_reducible refine C_drew ?_))); (case side2 => exact HC0.1); rintro e w5 ⟨rfl, hb⟩; refine ⟨_, rfl, ?_⟩; refine E1 (bS HB.1 hb) ?_; clear HB; intro HB; (try clear hb)) | ((with_reducible refine gate_callee (f := 35) rfl ?_); refine goesM (N := (some 8)) #[.slice A0 l0.length c0] Tryd.func35 ?_; (with_reducible refine (spec_loText.calls k _ _ l0 t135 _ ?side1 ?side2 A4.1).mono ?_); (case side1 => exact CB (C_below HR0.1 HB.1)); (case side2 => exact HC0.1); rintro e w6 ⟨rfl, hb⟩; refine ⟨_, rfl, ?_⟩; refine E1 (bS HB.1 hb) ?_; clear HB; intro HB; (try clear hb)))
   go_ret2
   exact ⟨RF, BL HB.1⟩
 simp only [Option.some.injEq, Prod.mk.injEq] at H
 obtain ⟨rfl, rfl⟩ := H
 go_enter Tryd.func13, Tryd.ntmps13
 go_wp2_with (first | ((with_reducible refine gate_callee (f := 34) rfl ?_); refine goesM (N := (some 5)) #[.slice A0 l0.length c0] Tryd.func34 ?_; (with_reducible refine (spec_loGood.calls k _ _ l0 false _ ?side1 ?side2 A2.1).mono ?_); (case side1 => repeat (first | exact HR0.1 | (with_reducible refine C_alloc ?_ _) | (with_reducible refine C_drewN ?_ _) | (with_reducible refine C_drew ?_))); (case side2 => exact HC0.1); rintro e w7 ⟨rfl, hb⟩; refine ⟨_, rfl, ?_⟩; refine E1 (bS HB.1 hb) ?_; clear HB; intro HB; (try clear hb)))
 go_ret2
 exact ⟨RF, BL HB.1⟩

/-! ### laws_toFall: function 58 -/
open Kd
def laws_toFall.f (a0_0 : Int) (a0_1 : Int) (a0_2 : Int) : Option (Int × Int × Int) := some (a0_0, a0_1, a0_2)
theorem laws_toFall.calls (a0_0 : Int) (a0_1 : Int) (a0_2 : Int) (r1 : Int) (r2 : Int) (r3 : Int) (w : World) (h : laws_toFall.f a0_0 a0_1 a0_2 = some (r1, r2, r3)) :
 Calls Tryd.prog 58 #[.agg #[.int .i64 a0_0, .int .i64 a0_1, .int .i64 a0_2]] w fun e w' => e = .returned (.agg #[.int .i64 r1, .int .i64 r2, .int .i64 r3]) /\ Below w.heap.size w w' := by
 have hu68 := Tryd.underlying68
 have hu64 := Tryd.underlying64
 have HB := Aside0.mk (Below.refl w.heap.size w)
 have H := h
 clear h
 unfold laws_toFall.f at H
 simp only [Option.some.injEq, Prod.mk.injEq] at H
 obtain ⟨rfl, rfl, rfl⟩ := H
 go_enter Tryd.func58, Tryd.ntmps58
 go_wp2_with (first | ((with_reducible refine gate_dst (N := 1) rfl ?_); refine boxE (cs := #[.int .i64 a0_0, .int .i64 a0_1, .int .i64 a0_2]) (t := 68) ?_; intro gb136 hg w2 hbox hb; refine E4b HB.1 hg hbox hb ?_; clear HB; intro HB BK136 GW136 GE136; clear hb hbox hg) | ((with_reducible refine gate_dst (N := 2) rfl ?_); refine boxE (cs := #[.int .i64 0, .int .i64 0, .int .i64 0]) (t := 64) ?_; intro gb137 hg w3 hbox hb; refine E7 (bB BK136.1 hb) (bS HB.1 hb) (hbox) (gX HB.1 hg) (gX HB.1 hg) (nB BK136.1 hg) (nC BK136.1 hg) ?_; clear BK136 HB; intro BK136 HB BK137 GW137 GE137 NB136_137 NB137_136; clear hb hbox hg) | ((with_reducible refine gate_dst (N := 3) rfl ?_); refine boxE (cs := #[.int .i64 0, .int .i64 0, .int .i64 0]) (t := 64) ?_; intro gb138 hg w4 hbox hb; refine E10 (bB BK136.1 hb) (bB BK137.1 hb) (bS HB.1 hb) (hbox) (gX HB.1 hg) (gX HB.1 hg) (nB BK136.1 hg) (nC BK136.1 hg) (nB BK137.1 hg) (nC BK137.1 hg) ?_; clear BK136 BK137 HB; intro BK136 BK137 HB BK138 GW138 GE138 NB136_138 NB138_136 NB137_138 NB138_137; clear hb hbox hg; have hnb5 := NB136_137.1; have hnc5 := NB137_136.1; have hnb6 := NB136_138.1; have hnc6 := NB138_136.1; obtain ⟨hcz7_0, hcz7_1, hcz7_2, hfz7_0, hfz7_1, hfz7_2⟩ := cz3 BK136.1; have hnb8 := NB138_137.1; have hnc8 := NB137_138.1; obtain ⟨hcz9_0, hcz9_1, hcz9_2, hfz9_0, hfz9_1, hfz9_2⟩ := cz3 BK138.1; obtain ⟨hcz10_0, hcz10_1, hcz10_2, hfz10_0, hfz10_1, hfz10_2⟩ := cz3 BK137.1))
 refine bodyPost_ret (results_cell_row rfl _ _ gb137 64 #[.int .i64 a0_0, .int .i64 a0_1, .int .i64 a0_2] (0, 0) _ rfl (PF1 NB137_138.1 BK137.1) Tryd.underlying64 rfl (by kernel_rfl)) rfl ?_
 exact ⟨RF, BL HB.1⟩

/-! ### laws_toLogEntry: function 36 -/
open Kd
def laws_toLogEntry.f (a0_0 : Int) (a0_1 : Int) (a0_2 : Int) (a0_3 : Int) : Option (Int × Int × Int × Int) := (laws_toFall.f a0_1 a0_2 a0_3).bind fun bt142 => (some (a0_0, bt142.1, bt142.2.1, bt142.2.2))
theorem laws_toLogEntry.calls (a0_0 : Int) (a0_1 : Int) (a0_2 : Int) (a0_3 : Int) (r1 : Int) (r2 : Int) (r3 : Int) (r4 : Int) (w : World) (h : laws_toLogEntry.f a0_0 a0_1 a0_2 a0_3 = some (r1, r2, r3, r4)) :
 Calls Tryd.prog 36 #[.agg #[.int .i64 a0_0, .int .i64 a0_1, .int .i64 a0_2, .int .i64 a0_3]] w fun e w' => e = .returned (.agg #[.int .i64 r1, .int .i64 r2, .int .i64 r3, .int .i64 r4]) /\ Below w.heap.size w w' := by
 have hu70 := Tryd.underlying70
 have hu66 := Tryd.underlying66
 have hu68 := Tryd.underlying68
 have hu64 := Tryd.underlying64
 have HB := Aside0.mk (Below.refl w.heap.size w)
 have H := h
 clear h
 unfold laws_toLogEntry.f at H
 replace H := bindA H; obtain ⟨⟨t142, t143, t144⟩, A2, H⟩ := H
 dsimp only at H
 simp only [Option.some.injEq, Prod.mk.injEq] at H
 obtain ⟨rfl, rfl, rfl, rfl⟩ := H
 go_enter Tryd.func36, Tryd.ntmps36
 go_wp2_with (first | ((with_reducible refine gate_dst (N := 1) rfl ?_); refine boxE (cs := #[.int .i64 a0_0, .int .i64 a0_1, .int .i64 a0_2, .int .i64 a0_3]) (t := 70) ?_; intro gb139 hg w3 hbox hb; refine E4b HB.1 hg hbox hb ?_; clear HB; intro HB BK139 GW139 GE139; clear hb hbox hg) | ((with_reducible refine gate_dst (N := 2) rfl ?_); refine boxE (cs := #[.int .i64 0, .int .i64 0, .int .i64 0, .int .i64 0]) (t := 66) ?_; intro gb140 hg w4 hbox hb; refine E7 (bB BK139.1 hb) (bS HB.1 hb) (hbox) (gX HB.1 hg) (gX HB.1 hg) (nB BK139.1 hg) (nC BK139.1 hg) ?_; clear BK139 HB; intro BK139 HB BK140 GW140 GE140 NB139_140 NB140_139; clear hb hbox hg) | ((with_reducible refine gate_dst (N := 3) rfl ?_); refine boxE (cs := #[.int .i64 0, .int .i64 0, .int .i64 0, .int .i64 0]) (t := 66) ?_; intro gb141 hg w5 hbox hb; refine E10 (bB BK139.1 hb) (bB BK140.1 hb) (bS HB.1 hb) (hbox) (gX HB.1 hg) (gX HB.1 hg) (nB BK139.1 hg) (nC BK139.1 hg) (nB BK140.1 hg) (nC BK140.1 hg) ?_; clear BK139 BK140 HB; intro BK139 BK140 HB BK141 GW141 GE141 NB139_141 NB141_139 NB140_141 NB141_140; clear hb hbox hg; have hnb6 := NB139_140.1; have hnc6 := NB140_139.1; have hnb7 := NB139_141.1; have hnc7 := NB141_139.1; obtain ⟨hcz8_0, hcz8_1, hcz8_2, hcz8_3, hfz8_0, hfz8_1, hfz8_2, hfz8_3⟩ := cz4 BK139.1; have hnb9 := NB141_140.1; have hnc9 := NB140_141.1; obtain ⟨hcz10_0, hcz10_1, hcz10_2, hcz10_3, hfz10_0, hfz10_1, hfz10_2, hfz10_3⟩ := cz4 BK141.1) | ((with_reducible refine gate_callee (f := 58) rfl ?_); refine goesM (N := (some 9)) #[.agg #[.int .i64 a0_1, .int .i64 a0_2, .int .i64 a0_3]] Tryd.func58 ?_; (with_reducible refine (laws_toFall.calls a0_1 a0_2 a0_3 t142 t143 t144 _ A2.1).mono ?_); rintro e w11 ⟨rfl, hb⟩; refine ⟨_, rfl, ?_⟩; refine E4 (blk_below (g := gb139) (o := .cells #[.int .i64 a0_0, .int .i64 a0_1, .int .i64 a0_2, .int .i64 a0_3] 70 (0, 0)) (PF1 NB139_141.1 BK139.1) hb) (blk_below (g := gb140) (o := .cells #[.int .i64 0, .int .i64 0, .int .i64 0, .int .i64 0] 66 (0, 0)) (PF1 NB140_141.1 BK140.1) hb) (blk_below (g := gb141) (o := .cells #[.int .i64 a0_0, .int .i64 0, .int .i64 0, .int .i64 0] 66 (0, 0)) (PF0 BK141.1) hb) (bS HB.1 hb) ?_; clear BK139 BK140 BK141 HB; intro BK139 BK140 BK141 HB; (try clear hb); obtain ⟨hcz12_0, hcz12_1, hcz12_2, hcz12_3, hfz12_0, hfz12_1, hfz12_2, hfz12_3⟩ := cz4 BK141.1; obtain ⟨hcz13_0, hcz13_1, hcz13_2, hcz13_3, hfz13_0, hfz13_1, hfz13_2, hfz13_3⟩ := cz4 BK140.1))
 refine bodyPost_ret (results_cell_row rfl _ _ gb140 66 #[.int .i64 a0_0, .int .i64 t142, .int .i64 t143, .int .i64 t144] (0, 0) _ rfl (PF1 NB140_141.1 BK140.1) Tryd.underlying66 rfl (by kernel_rfl)) rfl ?_
 exact ⟨RF, BL HB.1⟩

/-! ### laws_toLogEntryS: function 14 -/
open Kd
def laws_toLogEntryS.l0 : Nat -> List (S70) -> List (S66) -> Int -> Option ((List (S66)))
 | 0, _, _, _ => none
 | k + 1, x0, x3, x4 => if x4 < (x0.length : Int) then (if 0 <= x4 then ((laws_toLogEntry.f ((rd_T70 x0 x4).f0) ((rd_T70 x0 x4).f1.f0) ((rd_T70 x0 x4).f1.f1) ((rd_T70 x0 x4).f1.f2)).bind fun bt149 => (if x4 < (x3.length : Int) then (laws_toLogEntryS.l0 k x0 (x3.set (x4 : Int).toNat (⟨bt149.1, (⟨bt149.2.1, bt149.2.2.1, bt149.2.2.2⟩ : S64)⟩ : S66)) (wrap64 (x4 + 1))) else (none))) else (none)) else (some x3)
def laws_toLogEntryS.f (k : Nat) (l0 : List (S70)) : Option ((List (S66))) := if 0 <= (l0.length : Int) then (if ((l0.length : Int) : Int).toNat <= 8796093022208 then (laws_toLogEntryS.l0 k l0 (List.replicate ((l0.length : Int) : Int).toNat z66) 0) else (none)) else (none)
theorem laws_toLogEntryS.mono_l : ∀ k, (∀ y0 y1 y2, LeO (laws_toLogEntryS.l0 k y0 y1 y2) (laws_toLogEntryS.l0 (k + 1) y0 y1 y2))
 | 0 => fun _ _ _ r h => by simp [laws_toLogEntryS.l0] at h
 | k + 1 => by
  have ih0 := laws_toLogEntryS.mono_l k
  intros
  first | unfold laws_toLogEntryS.l0
  exact LM1 ih0
theorem laws_toLogEntryS.mono : ∀ a0 k, LeO (laws_toLogEntryS.f k a0) (laws_toLogEntryS.f (k + 1) a0) := by
 intro a0 k
 have ih0 := laws_toLogEntryS.mono_l k
 unfold laws_toLogEntryS.f
 exact LM1 ih0
theorem laws_toLogEntryS.calls (k : Nat) (A0 : Option Addr) (c0 : Nat) (l0 : List (S70)) (r : List (S66)) (w : World) (hr0 : Kd.C k70 w A0 l0.length l0) (hc0 : l0.length <= c0) (h : laws_toLogEntryS.f k l0 = some r) :
 Calls Tryd.prog 14 #[.slice A0 l0.length c0] w fun e w' => ∃ v0_ : Value, e = .returned (v0_) /\ Kd.R k66 66 w' w.heap.size (fun _ => True) v0_ r /\ Below w.heap.size w w' := by
 have hu70 := Tryd.underlying70
 have hu66 := Tryd.underlying66
 have HR0 := Aside0.mk hr0
 have HC0 := Aside0.mk hc0
 clear hr0 hc0
 have HB := Aside0.mk (Below.refl w.heap.size w)
 have H := h
 clear h
 unfold laws_toLogEntryS.f at H
 replace H := ifP H; obtain ⟨c2, H⟩ := H
 have c2b0 := eq_true c2
 have c2b1 := decide_eq_true c2
 clear c2
 replace H := ifP H; obtain ⟨c3, H⟩ := H
 have c3b0 := eq_true c3
 have c3b1 := decide_eq_true c3
 clear c3
 generalize hy145 : ((List.replicate ((l0.length : Int) : Int).toNat z66) : List (S66)) = y145 at H
 have Ny145 := Aside0.mk hy145.symm; clear hy145
 have H' := Aside0.mk H
 clear H
 go_enter Tryd.func14, Tryd.ntmps14
 go_wp2_with (first | ((with_reducible refine gate_dst (N := 7) rfl ?_); refine R_make k66 _ 66 rfl (N := 7) rfl 35 _ _ rfl (l0.length : Int) rfl rfl Tryd.underlying35 (.agg #[(.int .i64 0), (.int .i64 0), (.int .i64 0), (.int .i64 0)]) 32 info66 rfl (by decide) (by omega) z66 (ok := fun _ => True) (okp := fun _ => True) (k66_mkM _ _ _ z66 ) (fun _ hk => hk) trivial (OD) (Nat.le_trans (Nat.mul_le_mul_right _ (OD : (l0.length : Int).toNat <= 8796093022208)) (by omega)) (Below.refl _ _) (Nat.le_refl _) ?_; intro v146 w4 ho5 hb hg_ hnew_; clear hg_ hnew_; (first | rw [<- Ny145.1] at ho5 | (simp only [Int.reduceToNat] at ho5; rw [<- Ny145.1] at ho5)); refine E2 (R_lower ho5 (bZ HB.1)) (bS HB.1 hb) ?_; clear HB; intro HO147 HB; clear hb ho5))
 go_loopg [4] k (fun kq v4 w' => ∃ (x3_1 : List (S66)) (x4_1 : Int), v4 = .int .i64 x4_1 /\ Aside0 (laws_toLogEntryS.l0 kq l0 x3_1 x4_1 = some r) /\ Aside0 (kq <= k) /\ Aside0 (Kd.R k66 66 w' w.heap.size (fun _ => True) v146 x3_1) /\ Aside0 (Below w.heap.size w w'))
 case atStart => exact ⟨(y145), (0), RG, H', ⟨Nat.le_refl _⟩, ⟨PR HO147.1⟩, ⟨BL HB.1⟩⟩
 clear H'
 clear c2b0 c2b1 c3b0 c3b1
 obtain ⟨x3_1, x4_1, rfl, HA, HK1, HO_3, HB⟩ := hrel
 cases gk with
 | zero => exact absurd HA.1 (by simp [laws_toLogEntryS.l0])
 | succ k1 => ?_
 have H := HA.1
 clear HA
 simp only [laws_toLogEntryS.l0] at H
 replace H := ifB H; rcases H with ⟨c6b0, H⟩ | ⟨c6b0, H⟩
 · replace H := ifN H; obtain ⟨c7b0, H⟩ := H
   replace H := bindA H; obtain ⟨⟨t149, t150, t151, t152⟩, A8, H⟩ := H
   dsimp only at H
   replace H := ifN H; obtain ⟨c9b0, H⟩ := H
   generalize hy153 : ((x3_1.set (x4_1 : Int).toNat (⟨t149, (⟨t150, t151, t152⟩ : S64)⟩ : S66)) : List (S66)) = y153 at H
   have Ny153 := Aside0.mk hy153.symm; clear hy153
   have H' := Aside0.mk H
   clear H
   have p148 : 0 <= (x4_1 : Int) := OD
   have q148 : x4_1 < (l0.length : Int) := OD
   obtain ⟨ad148, e148, hx148_0, hx148_1, hx148_2, hx148_3⟩ := at_T70 HR0.1 x4_1 p148 q148
   cases e148
   replace hx148_0 := (HB.1.cell (World.block_lt_of_cell? w _ hx148_0)).trans hx148_0
   replace hx148_1 := (HB.1.cell (World.block_lt_of_cell? w _ hx148_1)).trans hx148_1
   replace hx148_2 := (HB.1.cell (World.block_lt_of_cell? w _ hx148_2)).trans hx148_2
   replace hx148_3 := (HB.1.cell (World.block_lt_of_cell? w _ hx148_3)).trans hx148_3
   replace p148 := eq_true p148
   replace q148 := eq_true q148
   go_wp2_with (first | ((with_reducible refine gate_callee (f := 36) rfl ?_); refine goesM (N := (some 20)) #[.agg #[.int .i64 ((rd_T70 l0 x4_1).f0), .int .i64 ((rd_T70 l0 x4_1).f1.f0), .int .i64 ((rd_T70 l0 x4_1).f1.f1), .int .i64 ((rd_T70 l0 x4_1).f1.f2)]] Tryd.func36 ?_; (with_reducible refine (laws_toLogEntry.calls ((rd_T70 l0 x4_1).f0) ((rd_T70 l0 x4_1).f1.f0) ((rd_T70 l0 x4_1).f1.f1) ((rd_T70 l0 x4_1).f1.f2) t149 t150 t151 t152 _ A8.1).mono ?_); rintro e w11 ⟨rfl, hb⟩; refine ⟨_, rfl, ?_⟩; refine E2 (rB HO_3.1 hb) (bS HB.1 hb) ?_; clear HO_3 HB; intro HO_3 HB; (try clear hb); have p10 : 0 <= (x4_1 : Int) := OD; have q10 : (x4_1 : Int) < ((x3_1.length : Int) : Int) := OD; obtain ⟨go10, co10, eo10, gb10, gl10, cl10, HG10⟩ := R_form HO_3.1 (by omega); (first | cases eo10 | (injection eo10 with ea_ en_ ec_; (first | subst ea_ | (injection ea_ with ea_; subst ea_)); subst ec_; clear en_)); have GB10 := Aside0.mk gb10; have GG10 := Aside0.mk HG10; clear gb10 gl10 HG10; obtain ⟨ce10, hcl10, hM10, hcc10, hfr10⟩ := R_elem HO_3.1 z66 (x4_1 : Int) p10 q10; obtain rfl := k66_openM hM10; have hx10_0 : w11.cell? ⟨go10, (x4_1 : Int).toNat * 4, none⟩ = some (.int .i64 ((rd_T66 x3_1 x4_1).f0)) := hcc10 0 _ rfl; have hx10_1 : w11.cell? ⟨go10, (x4_1 : Int).toNat * 4 + 1, none⟩ = some (.int .i64 ((rd_T66 x3_1 x4_1).f1.f0)) := hcc10 1 _ rfl; have hx10_2 : w11.cell? ⟨go10, (x4_1 : Int).toNat * 4 + 2, none⟩ = some (.int .i64 ((rd_T66 x3_1 x4_1).f1.f1)) := hcc10 2 _ rfl; have hx10_3 : w11.cell? ⟨go10, (x4_1 : Int).toNat * 4 + 3, none⟩ = some (.int .i64 ((rd_T66 x3_1 x4_1).f1.f2)) := hcc10 3 _ rfl; have hf10_0 : w11.frozen? ⟨go10, (x4_1 : Int).toNat * 4, none⟩ = false := hfr10 0; have hf10_1 : w11.frozen? ⟨go10, (x4_1 : Int).toNat * 4 + 1, none⟩ = false := hfr10 1; have hf10_2 : w11.frozen? ⟨go10, (x4_1 : Int).toNat * 4 + 2, none⟩ = false := hfr10 2; have hf10_3 : w11.frozen? ⟨go10, (x4_1 : Int).toNat * 4 + 3, none⟩ = false := hfr10 3; (try clear hM10); clear hcl10 hcc10 hfr10; replace p10 := eq_true p10; replace q10 := eq_true q10; have HX12 := Aside0.mk (show Kd.R k66 66 w11 w.heap.size (fun _ => True) (.slice (some ⟨go10, 0, none⟩) x3_1.length co10) x3_1 from (PR HO_3.1)); obtain ⟨ce12, hcl12, hM12, hcc12, hfr12⟩ := R_elem HX12.1 z66 (x4_1 : Int) (OD) (by have h_ : (x4_1 : Int) < ((x3_1.length : Int) : Int) := OD; first | exact h_ | (have e_ := (R_reads' HO_3.1).1; omega) | simpa using h_); obtain rfl := k66_openM hM12; have HP12 := R_seg HX12.1 (x4_1 : Int) (OD) (by have h_ : (x4_1 : Int) < ((x3_1.length : Int) : Int) := OD; first | exact h_ | (have e_ := (R_reads' HO_3.1).1; omega) | simpa using h_) (seg := [.int .i64 t149, .int .i64 t150, .int .i64 t151, .int .i64 t152]) (j := 0) hcl12 hcc12 (show 4 <= 4 from by decide) (x' := (⟨t149, (⟨t150, t151, t152⟩ : S64)⟩ : S66)) (k66_mkM _ _ _ (⟨t149, (⟨t150, t151, t152⟩ : S64)⟩ : S66) ) (fun _ hk => hk); have hx12_0 := hcc12 0 _ rfl; (try simp only [show (k66).sz = 4 from rfl, Nat.mul_one, Nat.add_zero] at hx12_0); have hf12_0 := hfr12 0; (try simp only [show (k66).sz = 4 from rfl, Nat.mul_one, Nat.add_zero] at hf12_0); have hx12_1 := hcc12 1 _ rfl; (try simp only [show (k66).sz = 4 from rfl, Nat.mul_one, Nat.add_zero] at hx12_1); have hf12_1 := hfr12 1; (try simp only [show (k66).sz = 4 from rfl, Nat.mul_one, Nat.add_zero] at hf12_1); have hx12_2 := hcc12 2 _ rfl; (try simp only [show (k66).sz = 4 from rfl, Nat.mul_one, Nat.add_zero] at hx12_2); have hf12_2 := hfr12 2; (try simp only [show (k66).sz = 4 from rfl, Nat.mul_one, Nat.add_zero] at hf12_2); have hx12_3 := hcc12 3 _ rfl; (try simp only [show (k66).sz = 4 from rfl, Nat.mul_one, Nat.add_zero] at hx12_3); have hf12_3 := hfr12 3; (try simp only [show (k66).sz = 4 from rfl, Nat.mul_one, Nat.add_zero] at hf12_3); clear hcl12 hcc12 hfr12) | ((with_reducible refine gate_store (t := 66) (p := 21) rfl ?_); refine storeE (t := 66) (p := 21) (w1 := ((((w11.setCell ⟨go10, (x4_1 : Int).toNat * 4, none⟩ (.int .i64 t149)).setCell ⟨go10, (x4_1 : Int).toNat * 4 + 1, none⟩ (.int .i64 t150)).setCell ⟨go10, (x4_1 : Int).toNat * 4 + 2, none⟩ (.int .i64 t151)).setCell ⟨go10, (x4_1 : Int).toNat * 4 + 3, none⟩ (.int .i64 t152))) ?_; intro w13 hw; have hg : w11.grownBy w13 (some go10) := (by rw [hw]; exact HP12.2); have hp_ : Kd.R k66 66 w13 w.heap.size (fun _ => True) (.slice (some ⟨go10, 0, none⟩) x3_1.length co10) y153 := (by rw [hw, Ny153.1]; exact HP12.1); clear HP12; refine E2 (hp_) ((by rw [hw]; exact below_set (below_set (below_set (below_set (HB.1) GB10.1) GB10.1) GB10.1) GB10.1 : Below w.heap.size w w13)) ?_; clear HO_3 HB; intro HO_3 HB; clear hg hw hp_))
   go_roundg k1
   case measure => have := HK1.1; omega
   case rel => exact ⟨(y153), (wrap64 (x4_1 + 1)), RG, H', ⟨by have := HK1.1; omega⟩, ⟨PR HO_3.1⟩, ⟨BL HB.1⟩⟩
 obtain rfl := Option.some.inj H
 go_wp2
 go_ret
 exact ⟨_, RF, RPE (HO_3.1), BL HB.1⟩
/-! ### strconv_Itoa_31: function 31 -/
open Kd
def strconv_Itoa_31.f (a0 : Int) : Option (ByteArray) := if 0 <= a0 then (if a0 < 100 then (some (⟨(Lib.decDigits a0.toNat).toArray⟩)) else (none)) else (none)
theorem strconv_Itoa_31.calls (a0 : Int) (r : ByteArray) (w : World) (h : strconv_Itoa_31.f a0 = some r) :
 Calls Tryd.prog 31 #[.int .i64 a0] w fun e w' => e = .returned (.string r) /\ Drawn0 w w' := by
 unfold strconv_Itoa_31.f at h
 by_cases h0 : 0 <= a0
 · by_cases h1 : a0 < 100
   · rw [if_pos h0, if_pos h1] at h
     injection h with h
     subst h
     obtain ⟨i, rfl⟩ := Int.eq_ofNat_of_zero_le h0
     refine (Tryd.strconv_Itoa_small i (by omega) w).mono ?_
     rintro e w' ⟨rfl, rfl⟩
     exact ⟨by rw [Int.toNat_natCast], Drawn0.refl _⟩
   · rw [if_pos h0, if_neg h1] at h
     exact absurd h (by simp)
 · rw [if_neg h0] at h
   exact absurd h (by simp)

end Go.Proofs.YtfekgidcnidijaaDoor.P
