-- PRINTED by print.py (a twelfth state) out of the translation. Not trusted: Lean checks it.
import Derived.Test.YthnehlphifegaaaPx0
import Derived.Test.YthnehlphifegaaaPx1
import Derived.Test.YthnehlphifegaaaPx2
namespace Go.Proofs.Ythnehlphifegaaa.P
open Go.RowKit Go.Proofs.YthnehlphifegaaaW.PrintWords Go.Proofs.YthnehlphifegaaaW.PrintLast Go.Proofs.YthnehlphifegaaaW.PrintMore
attribute [local go_sem] max2_int min2_int max_two min_two max_three min_three max_four min_four   -- for this text's walks alone
set_option linter.unusedVariables false
set_option linter.unusedSimpArgs false
set_option maxHeartbeats 8000000
set_option maxRecDepth 100000

attribute [local go_sem high] eqA66
/-! ### laws_szLogEntryS: function 21 -/
open Kd
def laws_szLogEntryS.f (l0 : List (S77)) (a1 : Int) : Option (Int) := if (wrap64 (a1 - (l0.length : Int))) < 0 then (some (-1)) else (some (wrap64 (a1 - (l0.length : Int))))
theorem laws_szLogEntryS.calls (A0 : Option Addr) (c0 : Nat) (l0 : List (S77)) (a1 : Int) (r : Int) (w : World) (hr0 : Kd.C k77 w A0 l0.length l0) (hc0 : l0.length <= c0) (h : laws_szLogEntryS.f l0 a1 = some r) :
 Calls Try.prog 21 #[.slice A0 l0.length c0, .int .i64 a1] w fun e w' => e = .returned (.int .i64 r) /\ Drawn0 w w' := by
 have HR0 := Aside0.mk hr0
 have HC0 := Aside0.mk hc0
 clear hr0 hc0
 have H := h
 clear h
 unfold laws_szLogEntryS.f at H
 replace H := ifB H; rcases H with ⟨c3b0, H⟩ | ⟨c3b0, H⟩
 · obtain rfl := Option.some.inj H
   go_enter Try.func21, Try.ntmps21
   go_wp2
   go_ret
   exact ⟨RG, DR⟩
 obtain rfl := Option.some.inj H
 go_enter Try.func21, Try.ntmps21
 go_wp2
 go_ret
 exact ⟨RG, DR⟩
/-! ### spec_loEntry: function 59 -/
open Kd
def spec_loEntry.f (a0_0 : Int) (a0_1 : Int) (a0_2 : Int) (a0_3 : Int) : Option (Bool) := (spec_l1In.f a0_0 0 1).bind fun t660 => (if t660 = true then ((spec_l1In.f a0_1 1 3).bind fun t661 => (if t661 = true then ((spec_l1In.f a0_2 0 10).bind fun t662 => (if t662 = true then ((spec_l1In.f a0_3 (-1) 9).bind fun t663 => (some t663)) else (some false))) else (some false))) else (some false))
theorem spec_loEntry.calls (a0_0 : Int) (a0_1 : Int) (a0_2 : Int) (a0_3 : Int) (r : Bool) (w : World) (h : spec_loEntry.f a0_0 a0_1 a0_2 a0_3 = some r) :
 Calls Try.prog 59 #[.agg #[.int .i64 a0_0, .int .i64 a0_1, .int .i64 a0_2, .int .i64 a0_3]] w fun e w' => e = .returned (.bool r) /\ Below w.heap.size w w' := by
 have hu66 := Try.underlying66
 have HB := Aside0.mk (Below.refl w.heap.size w)
 have H := h
 clear h
 unfold spec_loEntry.f at H
 replace H := bindA H; obtain ⟨t660, A2, H⟩ := H
 replace H := ifX H; rcases H with ⟨rfl, H⟩ | ⟨rfl, H⟩
 · replace H := bindA H; obtain ⟨t661, A4, H⟩ := H
   replace H := ifX H; rcases H with ⟨rfl, H⟩ | ⟨rfl, H⟩
   · replace H := bindA H; obtain ⟨t662, A6, H⟩ := H
     replace H := ifX H; rcases H with ⟨rfl, H⟩ | ⟨rfl, H⟩
     · replace H := bindA H; obtain ⟨t663, A8, H⟩ := H
       obtain rfl := Option.some.inj H
       go_enter Try.func59, Try.ntmps59
       go_wp2_with (first | ((with_reducible refine gate_dst (N := 1) rfl ?_); refine boxE (cs := #[.int .i64 a0_0, .int .i64 a0_1, .int .i64 a0_2, .int .i64 a0_3]) (t := 66) ?_; intro gb659 hg w9 hbox hb; refine E4b HB.1 hg hbox hb ?_; clear HB; intro HB BK659 GW659 GE659; clear hb hbox hg; obtain ⟨hcz10_0, hcz10_1, hcz10_2, hcz10_3, hfz10_0, hfz10_1, hfz10_2, hfz10_3⟩ := cz4 BK659.1) | ((with_reducible refine gate_callee (f := 46) rfl ?_); refine goesM (N := (some 5)) #[.int .i64 a0_0, .int .i64 0, .int .i64 1] Try.func46 ?_; (with_reducible refine (spec_l1In.calls a0_0 0 1 true _ A2.1).mono ?_); rintro e w' ⟨rfl, ⟨nd, rfl⟩⟩; refine ⟨_, rfl, ?_⟩) | (go_at_call 46; (with_reducible refine (spec_l1In.calls a0_1 1 3 true _ A4.1).mono ?_); rintro e w' ⟨rfl, ⟨nd, rfl⟩⟩) | (go_at_call 46; (with_reducible refine (spec_l1In.calls a0_2 0 10 true _ A6.1).mono ?_); rintro e w' ⟨rfl, ⟨nd, rfl⟩⟩) | (go_at_call 46; (with_reducible refine (spec_l1In.calls a0_3 (-1) 9 t663 _ A8.1).mono ?_); rintro e w' ⟨rfl, ⟨nd, rfl⟩⟩))
       go_ret
       exact ⟨RF, BL HB.1⟩
     obtain rfl := Option.some.inj H
     go_enter Try.func59, Try.ntmps59
     go_wp2_with (first | ((with_reducible refine gate_dst (N := 1) rfl ?_); refine boxE (cs := #[.int .i64 a0_0, .int .i64 a0_1, .int .i64 a0_2, .int .i64 a0_3]) (t := 66) ?_; intro gb659 hg w11 hbox hb; refine E4b HB.1 hg hbox hb ?_; clear HB; intro HB BK659 GW659 GE659; clear hb hbox hg; obtain ⟨hcz12_0, hcz12_1, hcz12_2, hcz12_3, hfz12_0, hfz12_1, hfz12_2, hfz12_3⟩ := cz4 BK659.1) | ((with_reducible refine gate_callee (f := 46) rfl ?_); refine goesM (N := (some 5)) #[.int .i64 a0_0, .int .i64 0, .int .i64 1] Try.func46 ?_; (with_reducible refine (spec_l1In.calls a0_0 0 1 true _ A2.1).mono ?_); rintro e w' ⟨rfl, ⟨nd, rfl⟩⟩; refine ⟨_, rfl, ?_⟩) | (go_at_call 46; (with_reducible refine (spec_l1In.calls a0_1 1 3 true _ A4.1).mono ?_); rintro e w' ⟨rfl, ⟨nd, rfl⟩⟩) | (go_at_call 46; (with_reducible refine (spec_l1In.calls a0_2 0 10 false _ A6.1).mono ?_); rintro e w' ⟨rfl, ⟨nd, rfl⟩⟩))
     go_ret
     exact ⟨RF, BL HB.1⟩
   obtain rfl := Option.some.inj H
   go_enter Try.func59, Try.ntmps59
   go_wp2_with (first | ((with_reducible refine gate_dst (N := 1) rfl ?_); refine boxE (cs := #[.int .i64 a0_0, .int .i64 a0_1, .int .i64 a0_2, .int .i64 a0_3]) (t := 66) ?_; intro gb659 hg w13 hbox hb; refine E4b HB.1 hg hbox hb ?_; clear HB; intro HB BK659 GW659 GE659; clear hb hbox hg; obtain ⟨hcz14_0, hcz14_1, hcz14_2, hcz14_3, hfz14_0, hfz14_1, hfz14_2, hfz14_3⟩ := cz4 BK659.1) | ((with_reducible refine gate_callee (f := 46) rfl ?_); refine goesM (N := (some 5)) #[.int .i64 a0_0, .int .i64 0, .int .i64 1] Try.func46 ?_; (with_reducible refine (spec_l1In.calls a0_0 0 1 true _ A2.1).mono ?_); rintro e w' ⟨rfl, ⟨nd, rfl⟩⟩; refine ⟨_, rfl, ?_⟩) | (go_at_call 46; (with_reducible refine (spec_l1In.calls a0_1 1 3 false _ A4.1).mono ?_); rintro e w' ⟨rfl, ⟨nd, rfl⟩⟩))
   go_ret
   exact ⟨RF, BL HB.1⟩
 obtain rfl := Option.some.inj H
 go_enter Try.func59, Try.ntmps59
 go_wp2_with (first | ((with_reducible refine gate_dst (N := 1) rfl ?_); refine boxE (cs := #[.int .i64 a0_0, .int .i64 a0_1, .int .i64 a0_2, .int .i64 a0_3]) (t := 66) ?_; intro gb659 hg w15 hbox hb; refine E4b HB.1 hg hbox hb ?_; clear HB; intro HB BK659 GW659 GE659; clear hb hbox hg; obtain ⟨hcz16_0, hcz16_1, hcz16_2, hcz16_3, hfz16_0, hfz16_1, hfz16_2, hfz16_3⟩ := cz4 BK659.1) | ((with_reducible refine gate_callee (f := 46) rfl ?_); refine goesM (N := (some 5)) #[.int .i64 a0_0, .int .i64 0, .int .i64 1] Try.func46 ?_; (with_reducible refine (spec_l1In.calls a0_0 0 1 false _ A2.1).mono ?_); rintro e w' ⟨rfl, ⟨nd, rfl⟩⟩; refine ⟨_, rfl, ?_⟩))
 go_ret
 exact ⟨RF, BL HB.1⟩

/-! ### spec_loGood: function 38 -/
open Kd
def spec_loGood.l0 : Nat -> List (S66) -> List (S66) -> Int -> Int -> Option (Bool)
 | 0, _, _, _, _ => none
 | k + 1, x0, x5, x6, x7 => if x7 < x6 then (if 0 <= x7 then (if x7 < (x5.length : Int) then ((spec_loEntry.f ((rd_T66 x5 x7).f0) ((rd_T66 x5 x7).f1.f0) ((rd_T66 x5 x7).f1.f1) ((rd_T66 x5 x7).f1.f2)).bind fun t666 => (if t666 = true then (spec_loGood.l0 k x0 x5 x6 (wrap64 (x7 + 1))) else (some false))) else (none)) else (none)) else (some (decide ((x0.length : Int) <= 60)))
def spec_loGood.f (k : Nat) (l0 : List (S66)) : Option (Bool) := spec_loGood.l0 k l0 l0 (l0.length : Int) 0
theorem spec_loGood.mono_l : ∀ k, (∀ y0 y1 y2 y3, LeO (spec_loGood.l0 k y0 y1 y2 y3) (spec_loGood.l0 (k + 1) y0 y1 y2 y3))
 | 0 => fun _ _ _ _ r h => by simp [spec_loGood.l0] at h
 | k + 1 => by
  have ih0 := spec_loGood.mono_l k
  intros
  first | unfold spec_loGood.l0
  exact LM1 ih0
theorem spec_loGood.mono : ∀ a0 k, LeO (spec_loGood.f k a0) (spec_loGood.f (k + 1) a0) := by
 intro a0 k
 have ih0 := spec_loGood.mono_l k
 unfold spec_loGood.f
 exact LM1 ih0
theorem spec_loGood.calls (k : Nat) (A0 : Option Addr) (c0 : Nat) (l0 : List (S66)) (r : Bool) (w : World) (hr0 : Kd.C k66 w A0 l0.length l0) (hc0 : l0.length <= c0) (h : spec_loGood.f k l0 = some r) :
 Calls Try.prog 38 #[.slice A0 l0.length c0] w fun e w' => e = .returned (.bool r) /\ Below w.heap.size w w' := by
 have hu66 := Try.underlying66
 have HR0 := Aside0.mk hr0
 have HC0 := Aside0.mk hc0
 clear hr0 hc0
 have HB := Aside0.mk (Below.refl w.heap.size w)
 have H := h
 clear h
 unfold spec_loGood.f at H
 have H' := Aside0.mk H
 clear H
 go_enter Try.func38, Try.ntmps38
 go_wp2
 go_loopg [7] k (fun kq v7 w' => ∃ (x7_1 : Int), v7 = .int .i64 x7_1 /\ Aside0 (spec_loGood.l0 kq l0 l0 (l0.length : Int) x7_1 = some r) /\ Aside0 (kq <= k) /\ Aside0 (Below w.heap.size w w'))
 case atStart => exact ⟨(0), RG, H', ⟨Nat.le_refl _⟩, ⟨BL HB.1⟩⟩
 clear H'
 obtain ⟨x7_1, rfl, HA, HK1, HB⟩ := hrel
 cases gk with
 | zero => exact absurd HA.1 (by simp [spec_loGood.l0])
 | succ k1 => ?_
 have H := HA.1
 clear HA
 simp only [spec_loGood.l0] at H
 replace H := ifB H; rcases H with ⟨c2b0, H⟩ | ⟨c2b0, H⟩
 · replace H := ifN H; obtain ⟨c3b0, H⟩ := H
   replace H := ifN H; obtain ⟨c4b0, H⟩ := H
   replace H := bindA H; obtain ⟨t666, A5, H⟩ := H
   replace H := ifX H; rcases H with ⟨rfl, H⟩ | ⟨rfl, H⟩
   · have H' := Aside0.mk H
     clear H
     have p664 : 0 <= (x7_1 : Int) := OD
     have q664 : x7_1 < (l0.length : Int) := OD
     obtain ⟨ad664, e664, hx664_0, hx664_1, hx664_2, hx664_3⟩ := at_T66 HR0.1 x7_1 p664 q664
     cases e664
     replace hx664_0 := (HB.1.cell (World.block_lt_of_cell? w _ hx664_0)).trans hx664_0
     replace hx664_1 := (HB.1.cell (World.block_lt_of_cell? w _ hx664_1)).trans hx664_1
     replace hx664_2 := (HB.1.cell (World.block_lt_of_cell? w _ hx664_2)).trans hx664_2
     replace hx664_3 := (HB.1.cell (World.block_lt_of_cell? w _ hx664_3)).trans hx664_3
     replace p664 := eq_true p664
     replace q664 := eq_true q664
     go_wp2_with (first | ((with_reducible refine gate_dst (N := 4) rfl ?_); refine boxE (cs := #[.int .i64 0, .int .i64 0, .int .i64 0, .int .i64 0]) (t := 66) ?_; intro gb665 hg w7 hbox hb; refine E4b HB.1 hg hbox hb ?_; clear HB; intro HB BK665 GW665 GE665; clear hb hbox hg; obtain ⟨hcz8_0, hcz8_1, hcz8_2, hcz8_3, hfz8_0, hfz8_1, hfz8_2, hfz8_3⟩ := cz4 BK665.1) | ((with_reducible refine gate_callee (f := 59) rfl ?_); refine goesM (N := (some 12)) #[.agg #[.int .i64 ((rd_T66 l0 x7_1).f0), .int .i64 ((rd_T66 l0 x7_1).f1.f0), .int .i64 ((rd_T66 l0 x7_1).f1.f1), .int .i64 ((rd_T66 l0 x7_1).f1.f2)]] Try.func59 ?_; (with_reducible refine (spec_loEntry.calls ((rd_T66 l0 x7_1).f0) ((rd_T66 l0 x7_1).f1.f0) ((rd_T66 l0 x7_1).f1.f1) ((rd_T66 l0 x7_1).f1.f2) true _ A5.1).mono ?_); rintro e w9 ⟨rfl, hb⟩; refine ⟨_, rfl, ?_⟩; refine E2 (blk_below (g := gb665) (o := .cells #[.int .i64 ((rd_T66 l0 x7_1).f0), .int .i64 ((rd_T66 l0 x7_1).f1.f0), .int .i64 ((rd_T66 l0 x7_1).f1.f1), .int .i64 ((rd_T66 l0 x7_1).f1.f2)] 66 (0, 0)) (PF0 BK665.1) hb) (bS HB.1 hb) ?_; clear BK665 HB; intro BK665 HB; (try clear hb)))
     go_roundg k1
     case measure => have := HK1.1; omega
     case rel => exact ⟨(wrap64 (x7_1 + 1)), RG, H', ⟨by have := HK1.1; omega⟩, ⟨BL HB.1⟩⟩
   obtain rfl := Option.some.inj H
   have p664 : 0 <= (x7_1 : Int) := OD
   have q664 : x7_1 < (l0.length : Int) := OD
   obtain ⟨ad664, e664, hx664_0, hx664_1, hx664_2, hx664_3⟩ := at_T66 HR0.1 x7_1 p664 q664
   cases e664
   replace hx664_0 := (HB.1.cell (World.block_lt_of_cell? w _ hx664_0)).trans hx664_0
   replace hx664_1 := (HB.1.cell (World.block_lt_of_cell? w _ hx664_1)).trans hx664_1
   replace hx664_2 := (HB.1.cell (World.block_lt_of_cell? w _ hx664_2)).trans hx664_2
   replace hx664_3 := (HB.1.cell (World.block_lt_of_cell? w _ hx664_3)).trans hx664_3
   replace p664 := eq_true p664
   replace q664 := eq_true q664
   go_wp2_with (first | ((with_reducible refine gate_dst (N := 4) rfl ?_); refine boxE (cs := #[.int .i64 0, .int .i64 0, .int .i64 0, .int .i64 0]) (t := 66) ?_; intro gb665 hg w10 hbox hb; refine E4b HB.1 hg hbox hb ?_; clear HB; intro HB BK665 GW665 GE665; clear hb hbox hg; obtain ⟨hcz11_0, hcz11_1, hcz11_2, hcz11_3, hfz11_0, hfz11_1, hfz11_2, hfz11_3⟩ := cz4 BK665.1) | ((with_reducible refine gate_callee (f := 59) rfl ?_); refine goesM (N := (some 12)) #[.agg #[.int .i64 ((rd_T66 l0 x7_1).f0), .int .i64 ((rd_T66 l0 x7_1).f1.f0), .int .i64 ((rd_T66 l0 x7_1).f1.f1), .int .i64 ((rd_T66 l0 x7_1).f1.f2)]] Try.func59 ?_; (with_reducible refine (spec_loEntry.calls ((rd_T66 l0 x7_1).f0) ((rd_T66 l0 x7_1).f1.f0) ((rd_T66 l0 x7_1).f1.f1) ((rd_T66 l0 x7_1).f1.f2) false _ A5.1).mono ?_); rintro e w12 ⟨rfl, hb⟩; refine ⟨_, rfl, ?_⟩; refine E2 (blk_below (g := gb665) (o := .cells #[.int .i64 ((rd_T66 l0 x7_1).f0), .int .i64 ((rd_T66 l0 x7_1).f1.f0), .int .i64 ((rd_T66 l0 x7_1).f1.f1), .int .i64 ((rd_T66 l0 x7_1).f1.f2)] 66 (0, 0)) (PF0 BK665.1) hb) (bS HB.1 hb) ?_; clear BK665 HB; intro BK665 HB; (try clear hb)))
   go_ret
   exact ⟨RF, BL HB.1⟩
 obtain rfl := Option.some.inj H
 go_wp2
 go_ret
 exact ⟨RF, BL HB.1⟩
/-! ### spec_loAgree: function 39 -/
open Kd
def spec_loAgree.l0 : Nat -> List (S66) -> List (S66) -> Int -> Option (Int)
 | 0, _, _, _ => none
 | k + 1, x0, x1, x5 => if x5 < (x0.length : Int) then (if x5 < (x1.length : Int) then (if 0 <= x5 then (if (((rd_T66 x0 x5).f0) == ((rd_T66 x1 x5).f0) && ((((rd_T66 x0 x5).f1.f0) == ((rd_T66 x1 x5).f1.f0) && (((rd_T66 x0 x5).f1.f1) == ((rd_T66 x1 x5).f1.f1) && (((rd_T66 x0 x5).f1.f2) == ((rd_T66 x1 x5).f1.f2)))))) = true then (spec_loAgree.l0 k x0 x1 (wrap64 (x5 + 1))) else (some x5)) else (none)) else (some x5)) else (some x5)
def spec_loAgree.f (k : Nat) (l0 : List (S66)) (l1 : List (S66)) : Option (Int) := spec_loAgree.l0 k l0 l1 0
theorem spec_loAgree.mono_l : ∀ k, (∀ y0 y1 y2, LeO (spec_loAgree.l0 k y0 y1 y2) (spec_loAgree.l0 (k + 1) y0 y1 y2))
 | 0 => fun _ _ _ r h => by simp [spec_loAgree.l0] at h
 | k + 1 => by
  have ih0 := spec_loAgree.mono_l k
  intros
  first | unfold spec_loAgree.l0
  exact LM1 ih0
theorem spec_loAgree.mono : ∀ a0 a1 k, LeO (spec_loAgree.f k a0 a1) (spec_loAgree.f (k + 1) a0 a1) := by
 intro a0 a1 k
 have ih0 := spec_loAgree.mono_l k
 unfold spec_loAgree.f
 exact LM1 ih0
theorem spec_loAgree.calls (k : Nat) (A0 : Option Addr) (c0 : Nat) (l0 : List (S66)) (A1 : Option Addr) (c1 : Nat) (l1 : List (S66)) (r : Int) (w : World) (hr0 : Kd.C k66 w A0 l0.length l0) (hc0 : l0.length <= c0) (hr1 : Kd.C k66 w A1 l1.length l1) (hc1 : l1.length <= c1) (h : spec_loAgree.f k l0 l1 = some r) :
 Calls Try.prog 39 #[.slice A0 l0.length c0, .slice A1 l1.length c1] w fun e w' => e = .returned (.int .i64 r) /\ Drawn0 w w' := by
 have hu66 := Try.underlying66
 have HR0 := Aside0.mk hr0
 have HC0 := Aside0.mk hc0
 clear hr0 hc0
 have HR1 := Aside0.mk hr1
 have HC1 := Aside0.mk hc1
 clear hr1 hc1
 have H := h
 clear h
 unfold spec_loAgree.f at H
 have H' := Aside0.mk H
 clear H
 go_enter Try.func39, Try.ntmps39
 go_wp2
 repeat (go_quiet (fail); try go_wp2)
 go_loopg [5] k (fun kq v5 w' => ∃ (x5_1 : Int), v5 = .int .i64 x5_1 /\ Aside0 (spec_loAgree.l0 kq l0 l1 x5_1 = some r) /\ Aside0 (kq <= k) /\ Drawn0 w w')
 case atStart => exact ⟨(0), RG, H', ⟨Nat.le_refl _⟩, DR⟩
 clear H'
 try clear c1
 obtain ⟨x5_1, rfl, HA, HK1, ⟨m1, rfl⟩⟩ := hrel
 cases gk with
 | zero => exact absurd HA.1 (by simp [spec_loAgree.l0])
 | succ k1 => ?_
 have H := HA.1
 clear HA
 simp only [spec_loAgree.l0] at H
 replace H := ifB H; rcases H with ⟨c3b0, H⟩ | ⟨c3b0, H⟩
 · replace H := ifB H; rcases H with ⟨c4b0, H⟩ | ⟨c4b0, H⟩
   · replace H := ifN H; obtain ⟨c5b0, H⟩ := H
     replace H := ifQ H; rcases H with ⟨c6, H⟩ | ⟨c6, H⟩
     · have c6b0 : (((rd_T66 l0 x5_1).f0) == ((rd_T66 l1 x5_1).f0) && ((((rd_T66 l0 x5_1).f1.f0) == ((rd_T66 l1 x5_1).f1.f0) && (((rd_T66 l0 x5_1).f1.f1) == ((rd_T66 l1 x5_1).f1.f1) && (((rd_T66 l0 x5_1).f1.f2) == ((rd_T66 l1 x5_1).f1.f2)))))) = true := c6
       (try (have c6b1 : decide (((rd_T66 l0 x5_1).f0) = ((rd_T66 l1 x5_1).f0) && ((((rd_T66 l0 x5_1).f1.f0) == ((rd_T66 l1 x5_1).f1.f0) && (((rd_T66 l0 x5_1).f1.f1) == ((rd_T66 l1 x5_1).f1.f1) && (((rd_T66 l0 x5_1).f1.f2) == ((rd_T66 l1 x5_1).f1.f2)))))) = true := by simpa using c6))
       (try (have c6b2 : (((rd_T66 l0 x5_1).f0) == ((rd_T66 l1 x5_1).f0) && ((((rd_T66 l0 x5_1).f1.f0) == ((rd_T66 l1 x5_1).f1.f0) && (((rd_T66 l0 x5_1).f1.f1) == ((rd_T66 l1 x5_1).f1.f1) && (((rd_T66 l0 x5_1).f1.f2) == ((rd_T66 l1 x5_1).f1.f2)))))) = true := by simpa using c6))
       clear c6
       have H' := Aside0.mk H
       clear H
       have p667 : 0 <= (x5_1 : Int) := OD
       have q667 : x5_1 < (l0.length : Int) := OD
       obtain ⟨ad667, e667, hx667_0, hx667_1, hx667_2, hx667_3⟩ := at_T66 HR0.1 x5_1 p667 q667
       cases e667
       replace p667 := eq_true p667
       replace q667 := eq_true q667
       have p668 : 0 <= (x5_1 : Int) := OD
       have q668 : x5_1 < (l1.length : Int) := OD
       obtain ⟨ad668, e668, hx668_0, hx668_1, hx668_2, hx668_3⟩ := at_T66 HR1.1 x5_1 p668 q668
       cases e668
       replace p668 := eq_true p668
       replace q668 := eq_true q668
       go_wp2
       repeat (go_quiet (fail); try go_wp2)
       go_roundg k1
       case measure => have := HK1.1; omega
       case rel => exact ⟨(wrap64 (x5_1 + 1)), RG, H', ⟨by have := HK1.1; omega⟩, DR⟩
     have c6b0 : (((rd_T66 l0 x5_1).f0) == ((rd_T66 l1 x5_1).f0) && ((((rd_T66 l0 x5_1).f1.f0) == ((rd_T66 l1 x5_1).f1.f0) && (((rd_T66 l0 x5_1).f1.f1) == ((rd_T66 l1 x5_1).f1.f1) && (((rd_T66 l0 x5_1).f1.f2) == ((rd_T66 l1 x5_1).f1.f2)))))) = false := by simpa using c6
     (try (have c6b1 : decide (((rd_T66 l0 x5_1).f0) = ((rd_T66 l1 x5_1).f0) && ((((rd_T66 l0 x5_1).f1.f0) == ((rd_T66 l1 x5_1).f1.f0) && (((rd_T66 l0 x5_1).f1.f1) == ((rd_T66 l1 x5_1).f1.f1) && (((rd_T66 l0 x5_1).f1.f2) == ((rd_T66 l1 x5_1).f1.f2)))))) = false := by simpa using c6))
     (try (have c6b2 : (((rd_T66 l0 x5_1).f0) == ((rd_T66 l1 x5_1).f0) && ((((rd_T66 l0 x5_1).f1.f0) == ((rd_T66 l1 x5_1).f1.f0) && (((rd_T66 l0 x5_1).f1.f1) == ((rd_T66 l1 x5_1).f1.f1) && (((rd_T66 l0 x5_1).f1.f2) == ((rd_T66 l1 x5_1).f1.f2)))))) = false := by simpa using c6))
     (try (have c6b3 : ¬ (((rd_T66 l0 x5_1).f0) = ((rd_T66 l1 x5_1).f0) && ((((rd_T66 l0 x5_1).f1.f0) == ((rd_T66 l1 x5_1).f1.f0) && (((rd_T66 l0 x5_1).f1.f1) == ((rd_T66 l1 x5_1).f1.f1) && (((rd_T66 l0 x5_1).f1.f2) == ((rd_T66 l1 x5_1).f1.f2)))))) := by simpa using c6))
     clear c6
     obtain rfl := Option.some.inj H
     have p667 : 0 <= (x5_1 : Int) := OD
     have q667 : x5_1 < (l0.length : Int) := OD
     obtain ⟨ad667, e667, hx667_0, hx667_1, hx667_2, hx667_3⟩ := at_T66 HR0.1 x5_1 p667 q667
     cases e667
     replace p667 := eq_true p667
     replace q667 := eq_true q667
     have p668 : 0 <= (x5_1 : Int) := OD
     have q668 : x5_1 < (l1.length : Int) := OD
     obtain ⟨ad668, e668, hx668_0, hx668_1, hx668_2, hx668_3⟩ := at_T66 HR1.1 x5_1 p668 q668
     cases e668
     replace p668 := eq_true p668
     replace q668 := eq_true q668
     go_wp2
     repeat (go_quiet (fail); try go_wp2)
     go_ret
     exact ⟨RG, DR⟩
   obtain rfl := Option.some.inj H
   go_wp2
   repeat (go_quiet (fail); try go_wp2)
   go_ret
   exact ⟨RG, DR⟩
 obtain rfl := Option.some.inj H
 go_wp2
 repeat (go_quiet (fail); try go_wp2)
 go_ret
 exact ⟨RG, DR⟩
/-! ### laws_toFall: function 60 -/
open Kd
def laws_toFall.f (a0_0 : Int) (a0_1 : Int) (a0_2 : Int) : Option (Int × Int × Int) := some (a0_0, a0_1, a0_2)
theorem laws_toFall.calls (a0_0 : Int) (a0_1 : Int) (a0_2 : Int) (r1 : Int) (r2 : Int) (r3 : Int) (w : World) (h : laws_toFall.f a0_0 a0_1 a0_2 = some (r1, r2, r3)) :
 Calls Try.prog 60 #[.agg #[.int .i64 a0_0, .int .i64 a0_1, .int .i64 a0_2]] w fun e w' => e = .returned (.agg #[.int .i64 r1, .int .i64 r2, .int .i64 r3]) /\ Below w.heap.size w w' := by
 have hu75 := Try.underlying75
 have hu61 := Try.underlying61
 have HB := Aside0.mk (Below.refl w.heap.size w)
 have H := h
 clear h
 unfold laws_toFall.f at H
 simp only [Option.some.injEq, Prod.mk.injEq] at H
 obtain ⟨rfl, rfl, rfl⟩ := H
 go_enter Try.func60, Try.ntmps60
 go_wp2_with (first | ((with_reducible refine gate_dst (N := 1) rfl ?_); refine boxE (cs := #[.int .i64 a0_0, .int .i64 a0_1, .int .i64 a0_2]) (t := 75) ?_; intro gb687 hg w2 hbox hb; refine E4b HB.1 hg hbox hb ?_; clear HB; intro HB BK687 GW687 GE687; clear hb hbox hg) | ((with_reducible refine gate_dst (N := 2) rfl ?_); refine boxE (cs := #[.int .i64 0, .int .i64 0, .int .i64 0]) (t := 61) ?_; intro gb688 hg w3 hbox hb; refine E7 (bB BK687.1 hb) (bS HB.1 hb) (hbox) (gX HB.1 hg) (gX HB.1 hg) (nB BK687.1 hg) (nC BK687.1 hg) ?_; clear BK687 HB; intro BK687 HB BK688 GW688 GE688 NB687_688 NB688_687; clear hb hbox hg) | ((with_reducible refine gate_dst (N := 3) rfl ?_); refine boxE (cs := #[.int .i64 0, .int .i64 0, .int .i64 0]) (t := 61) ?_; intro gb689 hg w4 hbox hb; refine E10 (bB BK687.1 hb) (bB BK688.1 hb) (bS HB.1 hb) (hbox) (gX HB.1 hg) (gX HB.1 hg) (nB BK687.1 hg) (nC BK687.1 hg) (nB BK688.1 hg) (nC BK688.1 hg) ?_; clear BK687 BK688 HB; intro BK687 BK688 HB BK689 GW689 GE689 NB687_689 NB689_687 NB688_689 NB689_688; clear hb hbox hg; have hnb5 := NB687_688.1; have hnc5 := NB688_687.1; have hnb6 := NB687_689.1; have hnc6 := NB689_687.1; obtain ⟨hcz7_0, hcz7_1, hcz7_2, hfz7_0, hfz7_1, hfz7_2⟩ := cz3 BK687.1; have hnb8 := NB689_688.1; have hnc8 := NB688_689.1; obtain ⟨hcz9_0, hcz9_1, hcz9_2, hfz9_0, hfz9_1, hfz9_2⟩ := cz3 BK689.1; obtain ⟨hcz10_0, hcz10_1, hcz10_2, hfz10_0, hfz10_1, hfz10_2⟩ := cz3 BK688.1))
 refine bodyPost_ret (results_cell_row rfl _ _ gb688 61 #[.int .i64 a0_0, .int .i64 a0_1, .int .i64 a0_2] (0, 0) _ rfl (PF1 NB688_689.1 BK688.1) Try.underlying61 rfl (by kernel_rfl)) rfl ?_
 exact ⟨RF, BL HB.1⟩

/-! ### laws_toLogEntry: function 40 -/
open Kd
def laws_toLogEntry.f (a0_0 : Int) (a0_1 : Int) (a0_2 : Int) (a0_3 : Int) : Option (Int × Int × Int × Int) := (laws_toFall.f a0_1 a0_2 a0_3).bind fun bt693 => (some (a0_0, bt693.1, bt693.2.1, bt693.2.2))
theorem laws_toLogEntry.calls (a0_0 : Int) (a0_1 : Int) (a0_2 : Int) (a0_3 : Int) (r1 : Int) (r2 : Int) (r3 : Int) (r4 : Int) (w : World) (h : laws_toLogEntry.f a0_0 a0_1 a0_2 a0_3 = some (r1, r2, r3, r4)) :
 Calls Try.prog 40 #[.agg #[.int .i64 a0_0, .int .i64 a0_1, .int .i64 a0_2, .int .i64 a0_3]] w fun e w' => e = .returned (.agg #[.int .i64 r1, .int .i64 r2, .int .i64 r3, .int .i64 r4]) /\ Below w.heap.size w w' := by
 have hu77 := Try.underlying77
 have hu66 := Try.underlying66
 have hu75 := Try.underlying75
 have hu61 := Try.underlying61
 have HB := Aside0.mk (Below.refl w.heap.size w)
 have H := h
 clear h
 unfold laws_toLogEntry.f at H
 replace H := bindA H; obtain ⟨⟨t693, t694, t695⟩, A2, H⟩ := H
 dsimp only at H
 simp only [Option.some.injEq, Prod.mk.injEq] at H
 obtain ⟨rfl, rfl, rfl, rfl⟩ := H
 go_enter Try.func40, Try.ntmps40
 go_wp2_with (first | ((with_reducible refine gate_dst (N := 1) rfl ?_); refine boxE (cs := #[.int .i64 a0_0, .int .i64 a0_1, .int .i64 a0_2, .int .i64 a0_3]) (t := 77) ?_; intro gb690 hg w3 hbox hb; refine E4b HB.1 hg hbox hb ?_; clear HB; intro HB BK690 GW690 GE690; clear hb hbox hg) | ((with_reducible refine gate_dst (N := 2) rfl ?_); refine boxE (cs := #[.int .i64 0, .int .i64 0, .int .i64 0, .int .i64 0]) (t := 66) ?_; intro gb691 hg w4 hbox hb; refine E7 (bB BK690.1 hb) (bS HB.1 hb) (hbox) (gX HB.1 hg) (gX HB.1 hg) (nB BK690.1 hg) (nC BK690.1 hg) ?_; clear BK690 HB; intro BK690 HB BK691 GW691 GE691 NB690_691 NB691_690; clear hb hbox hg) | ((with_reducible refine gate_dst (N := 3) rfl ?_); refine boxE (cs := #[.int .i64 0, .int .i64 0, .int .i64 0, .int .i64 0]) (t := 66) ?_; intro gb692 hg w5 hbox hb; refine E10 (bB BK690.1 hb) (bB BK691.1 hb) (bS HB.1 hb) (hbox) (gX HB.1 hg) (gX HB.1 hg) (nB BK690.1 hg) (nC BK690.1 hg) (nB BK691.1 hg) (nC BK691.1 hg) ?_; clear BK690 BK691 HB; intro BK690 BK691 HB BK692 GW692 GE692 NB690_692 NB692_690 NB691_692 NB692_691; clear hb hbox hg; have hnb6 := NB690_691.1; have hnc6 := NB691_690.1; have hnb7 := NB690_692.1; have hnc7 := NB692_690.1; obtain ⟨hcz8_0, hcz8_1, hcz8_2, hcz8_3, hfz8_0, hfz8_1, hfz8_2, hfz8_3⟩ := cz4 BK690.1; have hnb9 := NB692_691.1; have hnc9 := NB691_692.1; obtain ⟨hcz10_0, hcz10_1, hcz10_2, hcz10_3, hfz10_0, hfz10_1, hfz10_2, hfz10_3⟩ := cz4 BK692.1) | ((with_reducible refine gate_callee (f := 60) rfl ?_); refine goesM (N := (some 9)) #[.agg #[.int .i64 a0_1, .int .i64 a0_2, .int .i64 a0_3]] Try.func60 ?_; (with_reducible refine (laws_toFall.calls a0_1 a0_2 a0_3 t693 t694 t695 _ A2.1).mono ?_); rintro e w11 ⟨rfl, hb⟩; refine ⟨_, rfl, ?_⟩; refine E4 (blk_below (g := gb690) (o := .cells #[.int .i64 a0_0, .int .i64 a0_1, .int .i64 a0_2, .int .i64 a0_3] 77 (0, 0)) (PF1 NB690_692.1 BK690.1) hb) (blk_below (g := gb691) (o := .cells #[.int .i64 0, .int .i64 0, .int .i64 0, .int .i64 0] 66 (0, 0)) (PF1 NB691_692.1 BK691.1) hb) (blk_below (g := gb692) (o := .cells #[.int .i64 a0_0, .int .i64 0, .int .i64 0, .int .i64 0] 66 (0, 0)) (PF0 BK692.1) hb) (bS HB.1 hb) ?_; clear BK690 BK691 BK692 HB; intro BK690 BK691 BK692 HB; (try clear hb); obtain ⟨hcz12_0, hcz12_1, hcz12_2, hcz12_3, hfz12_0, hfz12_1, hfz12_2, hfz12_3⟩ := cz4 BK692.1; obtain ⟨hcz13_0, hcz13_1, hcz13_2, hcz13_3, hfz13_0, hfz13_1, hfz13_2, hfz13_3⟩ := cz4 BK691.1))
 refine bodyPost_ret (results_cell_row rfl _ _ gb691 66 #[.int .i64 a0_0, .int .i64 t693, .int .i64 t694, .int .i64 t695] (0, 0) _ rfl (PF1 NB691_692.1 BK691.1) Try.underlying66 rfl (by kernel_rfl)) rfl ?_
 exact ⟨RF, BL HB.1⟩

/-! ### laws_toLogEntryS: function 23 -/
open Kd
def laws_toLogEntryS.l0 : Nat -> List (S77) -> List (S66) -> Int -> Option ((List (S66)))
 | 0, _, _, _ => none
 | k + 1, x0, x3, x4 => if x4 < (x0.length : Int) then (if 0 <= x4 then ((laws_toLogEntry.f ((rd_T77 x0 x4).f0) ((rd_T77 x0 x4).f1.f0) ((rd_T77 x0 x4).f1.f1) ((rd_T77 x0 x4).f1.f2)).bind fun bt700 => (if x4 < (x3.length : Int) then (laws_toLogEntryS.l0 k x0 (x3.set (x4 : Int).toNat (⟨bt700.1, (⟨bt700.2.1, bt700.2.2.1, bt700.2.2.2⟩ : S61)⟩ : S66)) (wrap64 (x4 + 1))) else (none))) else (none)) else (some x3)
def laws_toLogEntryS.f (k : Nat) (l0 : List (S77)) : Option ((List (S66))) := if 0 <= (l0.length : Int) then (if ((l0.length : Int) : Int).toNat <= 8796093022208 then (laws_toLogEntryS.l0 k l0 (List.replicate ((l0.length : Int) : Int).toNat z66) 0) else (none)) else (none)
theorem laws_toLogEntryS.mono_l : ∀ k, (∀ y0 y1 y2, LeO (laws_toLogEntryS.l0 k y0 y1 y2) (laws_toLogEntryS.l0 (k + 1) y0 y1 y2))
 | 0 => fun _ _ _ r h => by simp [laws_toLogEntryS.l0] at h
 | k + 1 => by
  have ih0 := laws_toLogEntryS.mono_l k
  intros
  first | unfold laws_toLogEntryS.l0
  exact LM1 ih0
theorem laws_toLogEntryS.mono : ∀ a0 k, LeO (laws_toLogEntryS.f k a0) (laws_toLogEntryS.f (k + 1) a0) := by
 intro a0 k
 have ih0 := laws_toLogEntryS.mono_l k
 unfold laws_toLogEntryS.f
 exact LM1 ih0
theorem laws_toLogEntryS.calls (k : Nat) (A0 : Option Addr) (c0 : Nat) (l0 : List (S77)) (r : List (S66)) (w : World) (hr0 : Kd.C k77 w A0 l0.length l0) (hc0 : l0.length <= c0) (h : laws_toLogEntryS.f k l0 = some r) :
 Calls Try.prog 23 #[.slice A0 l0.length c0] w fun e w' => ∃ v0_ : Value, e = .returned (v0_) /\ Kd.R k66 66 w' w.heap.size (fun _ => True) v0_ r /\ Below w.heap.size w w' := by
 have hu77 := Try.underlying77
 have hu66 := Try.underlying66
 have HR0 := Aside0.mk hr0
 have HC0 := Aside0.mk hc0
 clear hr0 hc0
 have HB := Aside0.mk (Below.refl w.heap.size w)
 have H := h
 clear h
 unfold laws_toLogEntryS.f at H
 replace H := ifP H; obtain ⟨c2, H⟩ := H
 have c2b0 := eq_true c2
 have c2b1 := decide_eq_true c2
 clear c2
 replace H := ifP H; obtain ⟨c3, H⟩ := H
 have c3b0 := eq_true c3
 have c3b1 := decide_eq_true c3
 clear c3
 generalize hy696 : ((List.replicate ((l0.length : Int) : Int).toNat z66) : List (S66)) = y696 at H
 have Ny696 := Aside0.mk hy696.symm; clear hy696
 have H' := Aside0.mk H
 clear H
 go_enter Try.func23, Try.ntmps23
 go_wp2_with (first | ((with_reducible refine gate_dst (N := 7) rfl ?_); refine R_make k66 _ 66 rfl (N := 7) rfl 42 _ _ rfl (l0.length : Int) rfl rfl Try.underlying42 (.agg #[(.int .i64 0), (.int .i64 0), (.int .i64 0), (.int .i64 0)]) 32 info66 rfl (by decide) (by omega) z66 (ok := fun _ => True) (okp := fun _ => True) (k66_mkM _ _ _ z66 ) (fun _ hk => hk) trivial (OD) (Nat.le_trans (Nat.mul_le_mul_right _ (OD : (l0.length : Int).toNat <= 8796093022208)) (by omega)) (Below.refl _ _) (Nat.le_refl _) ?_; intro v697 w4 ho5 hb hg_ hnew_; clear hg_ hnew_; (first | rw [<- Ny696.1] at ho5 | (simp only [Int.reduceToNat] at ho5; rw [<- Ny696.1] at ho5)); refine E2 (R_lower ho5 (bZ HB.1)) (bS HB.1 hb) ?_; clear HB; intro HO698 HB; clear hb ho5))
 go_loopg [4] k (fun kq v4 w' => ∃ (x3_1 : List (S66)) (x4_1 : Int), v4 = .int .i64 x4_1 /\ Aside0 (laws_toLogEntryS.l0 kq l0 x3_1 x4_1 = some r) /\ Aside0 (kq <= k) /\ Aside0 (Kd.R k66 66 w' w.heap.size (fun _ => True) v697 x3_1) /\ Aside0 (Below w.heap.size w w'))
 case atStart => exact ⟨(y696), (0), RG, H', ⟨Nat.le_refl _⟩, ⟨PR HO698.1⟩, ⟨BL HB.1⟩⟩
 clear H'
 clear c2b0 c2b1 c3b0 c3b1
 obtain ⟨x3_1, x4_1, rfl, HA, HK1, HO_3, HB⟩ := hrel
 cases gk with
 | zero => exact absurd HA.1 (by simp [laws_toLogEntryS.l0])
 | succ k1 => ?_
 have H := HA.1
 clear HA
 simp only [laws_toLogEntryS.l0] at H
 replace H := ifB H; rcases H with ⟨c6b0, H⟩ | ⟨c6b0, H⟩
 · replace H := ifN H; obtain ⟨c7b0, H⟩ := H
   replace H := bindA H; obtain ⟨⟨t700, t701, t702, t703⟩, A8, H⟩ := H
   dsimp only at H
   replace H := ifN H; obtain ⟨c9b0, H⟩ := H
   generalize hy704 : ((x3_1.set (x4_1 : Int).toNat (⟨t700, (⟨t701, t702, t703⟩ : S61)⟩ : S66)) : List (S66)) = y704 at H
   have Ny704 := Aside0.mk hy704.symm; clear hy704
   have H' := Aside0.mk H
   clear H
   have p699 : 0 <= (x4_1 : Int) := OD
   have q699 : x4_1 < (l0.length : Int) := OD
   obtain ⟨ad699, e699, hx699_0, hx699_1, hx699_2, hx699_3⟩ := at_T77 HR0.1 x4_1 p699 q699
   cases e699
   replace hx699_0 := (HB.1.cell (World.block_lt_of_cell? w _ hx699_0)).trans hx699_0
   replace hx699_1 := (HB.1.cell (World.block_lt_of_cell? w _ hx699_1)).trans hx699_1
   replace hx699_2 := (HB.1.cell (World.block_lt_of_cell? w _ hx699_2)).trans hx699_2
   replace hx699_3 := (HB.1.cell (World.block_lt_of_cell? w _ hx699_3)).trans hx699_3
   replace p699 := eq_true p699
   replace q699 := eq_true q699
   go_wp2_with (first | ((with_reducible refine gate_callee (f := 40) rfl ?_); refine goesM (N := (some 20)) #[.agg #[.int .i64 ((rd_T77 l0 x4_1).f0), .int .i64 ((rd_T77 l0 x4_1).f1.f0), .int .i64 ((rd_T77 l0 x4_1).f1.f1), .int .i64 ((rd_T77 l0 x4_1).f1.f2)]] Try.func40 ?_; (with_reducible refine (laws_toLogEntry.calls ((rd_T77 l0 x4_1).f0) ((rd_T77 l0 x4_1).f1.f0) ((rd_T77 l0 x4_1).f1.f1) ((rd_T77 l0 x4_1).f1.f2) t700 t701 t702 t703 _ A8.1).mono ?_); rintro e w11 ⟨rfl, hb⟩; refine ⟨_, rfl, ?_⟩; refine E2 (rB HO_3.1 hb) (bS HB.1 hb) ?_; clear HO_3 HB; intro HO_3 HB; (try clear hb); have p10 : 0 <= (x4_1 : Int) := OD; have q10 : (x4_1 : Int) < ((x3_1.length : Int) : Int) := OD; obtain ⟨go10, co10, eo10, gb10, gl10, cl10, HG10⟩ := R_form HO_3.1 (by omega); (first | cases eo10 | (injection eo10 with ea_ en_ ec_; (first | subst ea_ | (injection ea_ with ea_; subst ea_)); subst ec_; clear en_)); have GB10 := Aside0.mk gb10; have GG10 := Aside0.mk HG10; clear gb10 gl10 HG10; obtain ⟨ce10, hcl10, hM10, hcc10, hfr10⟩ := R_elem HO_3.1 z66 (x4_1 : Int) p10 q10; obtain rfl := k66_openM hM10; have hx10_0 : w11.cell? ⟨go10, (x4_1 : Int).toNat * 4, none⟩ = some (.int .i64 ((rd_T66 x3_1 x4_1).f0)) := hcc10 0 _ rfl; have hx10_1 : w11.cell? ⟨go10, (x4_1 : Int).toNat * 4 + 1, none⟩ = some (.int .i64 ((rd_T66 x3_1 x4_1).f1.f0)) := hcc10 1 _ rfl; have hx10_2 : w11.cell? ⟨go10, (x4_1 : Int).toNat * 4 + 2, none⟩ = some (.int .i64 ((rd_T66 x3_1 x4_1).f1.f1)) := hcc10 2 _ rfl; have hx10_3 : w11.cell? ⟨go10, (x4_1 : Int).toNat * 4 + 3, none⟩ = some (.int .i64 ((rd_T66 x3_1 x4_1).f1.f2)) := hcc10 3 _ rfl; have hf10_0 : w11.frozen? ⟨go10, (x4_1 : Int).toNat * 4, none⟩ = false := hfr10 0; have hf10_1 : w11.frozen? ⟨go10, (x4_1 : Int).toNat * 4 + 1, none⟩ = false := hfr10 1; have hf10_2 : w11.frozen? ⟨go10, (x4_1 : Int).toNat * 4 + 2, none⟩ = false := hfr10 2; have hf10_3 : w11.frozen? ⟨go10, (x4_1 : Int).toNat * 4 + 3, none⟩ = false := hfr10 3; (try clear hM10); clear hcl10 hcc10 hfr10; replace p10 := eq_true p10; replace q10 := eq_true q10; have HX12 := Aside0.mk (show Kd.R k66 66 w11 w.heap.size (fun _ => True) (.slice (some ⟨go10, 0, none⟩) x3_1.length co10) x3_1 from (PR HO_3.1)); obtain ⟨ce12, hcl12, hM12, hcc12, hfr12⟩ := R_elem HX12.1 z66 (x4_1 : Int) (OD) (by have h_ : (x4_1 : Int) < ((x3_1.length : Int) : Int) := OD; first | exact h_ | (have e_ := (R_reads' HO_3.1).1; omega) | simpa using h_); obtain rfl := k66_openM hM12; have HP12 := R_seg HX12.1 (x4_1 : Int) (OD) (by have h_ : (x4_1 : Int) < ((x3_1.length : Int) : Int) := OD; first | exact h_ | (have e_ := (R_reads' HO_3.1).1; omega) | simpa using h_) (seg := [.int .i64 t700, .int .i64 t701, .int .i64 t702, .int .i64 t703]) (j := 0) hcl12 hcc12 (show 4 <= 4 from by decide) (x' := (⟨t700, (⟨t701, t702, t703⟩ : S61)⟩ : S66)) (k66_mkM _ _ _ (⟨t700, (⟨t701, t702, t703⟩ : S61)⟩ : S66) ) (fun _ hk => hk); have hx12_0 := hcc12 0 _ rfl; (try simp only [show (k66).sz = 4 from rfl, Nat.mul_one, Nat.add_zero] at hx12_0); have hf12_0 := hfr12 0; (try simp only [show (k66).sz = 4 from rfl, Nat.mul_one, Nat.add_zero] at hf12_0); have hx12_1 := hcc12 1 _ rfl; (try simp only [show (k66).sz = 4 from rfl, Nat.mul_one, Nat.add_zero] at hx12_1); have hf12_1 := hfr12 1; (try simp only [show (k66).sz = 4 from rfl, Nat.mul_one, Nat.add_zero] at hf12_1); have hx12_2 := hcc12 2 _ rfl; (try simp only [show (k66).sz = 4 from rfl, Nat.mul_one, Nat.add_zero] at hx12_2); have hf12_2 := hfr12 2; (try simp only [show (k66).sz = 4 from rfl, Nat.mul_one, Nat.add_zero] at hf12_2); have hx12_3 := hcc12 3 _ rfl; (try simp only [show (k66).sz = 4 from rfl, Nat.mul_one, Nat.add_zero] at hx12_3); have hf12_3 := hfr12 3; (try simp only [show (k66).sz = 4 from rfl, Nat.mul_one, Nat.add_zero] at hf12_3); clear hcl12 hcc12 hfr12) | ((with_reducible refine gate_store (t := 66) (p := 21) rfl ?_); refine storeE (t := 66) (p := 21) (w1 := ((((w11.setCell ⟨go10, (x4_1 : Int).toNat * 4, none⟩ (.int .i64 t700)).setCell ⟨go10, (x4_1 : Int).toNat * 4 + 1, none⟩ (.int .i64 t701)).setCell ⟨go10, (x4_1 : Int).toNat * 4 + 2, none⟩ (.int .i64 t702)).setCell ⟨go10, (x4_1 : Int).toNat * 4 + 3, none⟩ (.int .i64 t703))) ?_; intro w13 hw; have hg : w11.grownBy w13 (some go10) := (by rw [hw]; exact HP12.2); have hp_ : Kd.R k66 66 w13 w.heap.size (fun _ => True) (.slice (some ⟨go10, 0, none⟩) x3_1.length co10) y704 := (by rw [hw, Ny704.1]; exact HP12.1); clear HP12; refine E2 (hp_) ((by rw [hw]; exact below_set (below_set (below_set (below_set (HB.1) GB10.1) GB10.1) GB10.1) GB10.1 : Below w.heap.size w w13)) ?_; clear HO_3 HB; intro HO_3 HB; clear hg hw hp_))
   go_roundg k1
   case measure => have := HK1.1; omega
   case rel => exact ⟨(y704), (wrap64 (x4_1 + 1)), RG, H', ⟨by have := HK1.1; omega⟩, ⟨PR HO_3.1⟩, ⟨BL HB.1⟩⟩
 obtain rfl := Option.some.inj H
 go_wp2
 go_ret
 exact ⟨_, RF, RPE (HO_3.1), BL HB.1⟩
/-! ### impl_IsLog: function 41 -/
open Kd
def impl_IsLog.l0 : Nat -> List (S66) -> Int -> Int -> Option (Bool)
 | 0, _, _, _ => none
 | k + 1, x9, x10, x11 => if x11 < x10 then (if 0 <= x11 then (if x11 < (x9.length : Int) then (if ((rd_T66 x9 x11).f0) < 0 then (some false) else (if ((rd_T66 x9 x11).f0) > 1 then (some false) else (if ((rd_T66 x9 x11).f1.f0) < 1 then (some false) else (if ((rd_T66 x9 x11).f1.f0) > 3 then (some false) else (if ((rd_T66 x9 x11).f1.f1) < 0 then (some false) else (if ((rd_T66 x9 x11).f1.f1) > 10 then (some false) else (if ((rd_T66 x9 x11).f1.f2) < (-1) then (some false) else (if ((rd_T66 x9 x11).f1.f2) > 9 then (some false) else (impl_IsLog.l0 k x9 x10 (wrap64 (x11 + 1))))))))))) else (none)) else (none)) else (some true)
def impl_IsLog.f (k : Nat) (l0 : List (S66)) : Option (Bool) := if (l0.length : Int) > 60 then (some false) else (impl_IsLog.l0 k l0 (l0.length : Int) 0)
theorem impl_IsLog.mono_l : ∀ k, (∀ y0 y1 y2, LeO (impl_IsLog.l0 k y0 y1 y2) (impl_IsLog.l0 (k + 1) y0 y1 y2))
 | 0 => fun _ _ _ r h => by simp [impl_IsLog.l0] at h
 | k + 1 => by
  have ih0 := impl_IsLog.mono_l k
  intros
  first | unfold impl_IsLog.l0
  exact LM1 ih0
theorem impl_IsLog.mono : ∀ a0 k, LeO (impl_IsLog.f k a0) (impl_IsLog.f (k + 1) a0) := by
 intro a0 k
 have ih0 := impl_IsLog.mono_l k
 unfold impl_IsLog.f
 exact LM1 ih0
theorem impl_IsLog.calls (k : Nat) (A0 : Option Addr) (c0 : Nat) (l0 : List (S66)) (r : Bool) (w : World) (hr0 : Kd.C k66 w A0 l0.length l0) (hc0 : l0.length <= c0) (h : impl_IsLog.f k l0 = some r) :
 Calls Try.prog 41 #[.slice A0 l0.length c0] w fun e w' => e = .returned (.bool r) /\ Below w.heap.size w w' := by
 have hu66 := Try.underlying66
 have hu61 := Try.underlying61
 have HR0 := Aside0.mk hr0
 have HC0 := Aside0.mk hc0
 clear hr0 hc0
 have HB := Aside0.mk (Below.refl w.heap.size w)
 have H := h
 clear h
 unfold impl_IsLog.f at H
 replace H := ifQ H; rcases H with ⟨c2, H⟩ | ⟨c2, H⟩
 · have c2b0 : decide (60 < (l0.length : Int)) = true := decide_eq_true c2
   have c2b1 : decide (60 < l0.length) = true := decide_eq_true (by omega)
   clear c2
   obtain rfl := Option.some.inj H
   go_enter Try.func41, Try.ntmps41
   go_wp2
   go_ret
   exact ⟨RF, BL HB.1⟩
 have c2b0 : decide (60 < (l0.length : Int)) = false := decide_eq_false c2
 have c2b1 : decide (60 < l0.length) = false := decide_eq_false (by omega)
 clear c2
 have H' := Aside0.mk H
 clear H
 go_enter Try.func41, Try.ntmps41
 go_wp2
 go_loopg [11] k (fun kq v11 w' => ∃ (x11_1 : Int), v11 = .int .i64 x11_1 /\ Aside0 (impl_IsLog.l0 kq l0 (l0.length : Int) x11_1 = some r) /\ Aside0 (kq <= k) /\ Aside0 (Below w.heap.size w w'))
 case atStart => exact ⟨(0), RG, H', ⟨Nat.le_refl _⟩, ⟨BL HB.1⟩⟩
 clear H'
 clear c2b0 c2b1
 obtain ⟨x11_1, rfl, HA, HK1, HB⟩ := hrel
 cases gk with
 | zero => exact absurd HA.1 (by simp [impl_IsLog.l0])
 | succ k1 => ?_
 have H := HA.1
 clear HA
 simp only [impl_IsLog.l0] at H
 replace H := ifB H; rcases H with ⟨c3b0, H⟩ | ⟨c3b0, H⟩
 · replace H := ifN H; obtain ⟨c4b0, H⟩ := H
   replace H := ifN H; obtain ⟨c5b0, H⟩ := H
   replace H := ifB H; rcases H with ⟨c6b0, H⟩ | ⟨c6b0, H⟩
   · obtain rfl := Option.some.inj H
     have p705 : 0 <= (x11_1 : Int) := OD
     have q705 : x11_1 < (l0.length : Int) := OD
     obtain ⟨ad705, e705, hx705_0, hx705_1, hx705_2, hx705_3⟩ := at_T66 HR0.1 x11_1 p705 q705
     cases e705
     replace hx705_0 := (HB.1.cell (World.block_lt_of_cell? w _ hx705_0)).trans hx705_0
     replace hx705_1 := (HB.1.cell (World.block_lt_of_cell? w _ hx705_1)).trans hx705_1
     replace hx705_2 := (HB.1.cell (World.block_lt_of_cell? w _ hx705_2)).trans hx705_2
     replace hx705_3 := (HB.1.cell (World.block_lt_of_cell? w _ hx705_3)).trans hx705_3
     replace p705 := eq_true p705
     replace q705 := eq_true q705
     go_wp2_with (first | ((with_reducible refine gate_dst (N := 4) rfl ?_); refine boxE (cs := #[.int .i64 0, .int .i64 0, .int .i64 0, .int .i64 0]) (t := 66) ?_; intro gb706 hg w7 hbox hb; refine E4b HB.1 hg hbox hb ?_; clear HB; intro HB BK706 GW706 GE706; clear hb hbox hg; obtain ⟨hcz8_0, hcz8_1, hcz8_2, hcz8_3, hfz8_0, hfz8_1, hfz8_2, hfz8_3⟩ := cz4 BK706.1) | ((with_reducible refine gate_dst (N := 5) rfl ?_); refine boxE (cs := #[.int .i64 0, .int .i64 0, .int .i64 0]) (t := 61) ?_; intro gb707 hg w9 hbox hb; refine E7 (blk_below (g := gb706) (o := .cells #[.int .i64 ((rd_T66 l0 x11_1).f0), .int .i64 ((rd_T66 l0 x11_1).f1.f0), .int .i64 ((rd_T66 l0 x11_1).f1.f1), .int .i64 ((rd_T66 l0 x11_1).f1.f2)] 66 (0, 0)) (PF0 BK706.1) hb) (bS HB.1 hb) (hbox) (gX HB.1 hg) (gX HB.1 hg) ((by rw [hg]; exact Nat.ne_of_lt (blk_lt (g := gb706) (o := .cells #[.int .i64 ((rd_T66 l0 x11_1).f0), .int .i64 ((rd_T66 l0 x11_1).f1.f0), .int .i64 ((rd_T66 l0 x11_1).f1.f1), .int .i64 ((rd_T66 l0 x11_1).f1.f2)] 66 (0, 0)) (PF0 BK706.1)) : gb706 ≠ gb707)) ((by rw [hg]; exact Nat.ne_of_gt (blk_lt (g := gb706) (o := .cells #[.int .i64 ((rd_T66 l0 x11_1).f0), .int .i64 ((rd_T66 l0 x11_1).f1.f0), .int .i64 ((rd_T66 l0 x11_1).f1.f1), .int .i64 ((rd_T66 l0 x11_1).f1.f2)] 66 (0, 0)) (PF0 BK706.1)) : gb707 ≠ gb706)) ?_; clear BK706 HB; intro BK706 HB BK707 GW707 GE707 NB706_707 NB707_706; clear hb hbox hg; have hnb10 := NB707_706.1; have hnc10 := NB706_707.1; obtain ⟨hcz11_0, hcz11_1, hcz11_2, hfz11_0, hfz11_1, hfz11_2⟩ := cz3 BK707.1; obtain ⟨hcz12_0, hcz12_1, hcz12_2, hcz12_3, hfz12_0, hfz12_1, hfz12_2, hfz12_3⟩ := cz4 BK706.1))
     go_ret
     exact ⟨RF, BL HB.1⟩
   replace H := ifQ H; rcases H with ⟨c13, H⟩ | ⟨c13, H⟩
   · have c13b0 : decide (1 < ((rd_T66 l0 x11_1).f0)) = true := decide_eq_true c13
     clear c13
     obtain rfl := Option.some.inj H
     have p705 : 0 <= (x11_1 : Int) := OD
     have q705 : x11_1 < (l0.length : Int) := OD
     obtain ⟨ad705, e705, hx705_0, hx705_1, hx705_2, hx705_3⟩ := at_T66 HR0.1 x11_1 p705 q705
     cases e705
     replace hx705_0 := (HB.1.cell (World.block_lt_of_cell? w _ hx705_0)).trans hx705_0
     replace hx705_1 := (HB.1.cell (World.block_lt_of_cell? w _ hx705_1)).trans hx705_1
     replace hx705_2 := (HB.1.cell (World.block_lt_of_cell? w _ hx705_2)).trans hx705_2
     replace hx705_3 := (HB.1.cell (World.block_lt_of_cell? w _ hx705_3)).trans hx705_3
     replace p705 := eq_true p705
     replace q705 := eq_true q705
     go_wp2_with (first | ((with_reducible refine gate_dst (N := 4) rfl ?_); refine boxE (cs := #[.int .i64 0, .int .i64 0, .int .i64 0, .int .i64 0]) (t := 66) ?_; intro gb706 hg w14 hbox hb; refine E4b HB.1 hg hbox hb ?_; clear HB; intro HB BK706 GW706 GE706; clear hb hbox hg; obtain ⟨hcz15_0, hcz15_1, hcz15_2, hcz15_3, hfz15_0, hfz15_1, hfz15_2, hfz15_3⟩ := cz4 BK706.1) | ((with_reducible refine gate_dst (N := 5) rfl ?_); refine boxE (cs := #[.int .i64 0, .int .i64 0, .int .i64 0]) (t := 61) ?_; intro gb707 hg w16 hbox hb; refine E7 (blk_below (g := gb706) (o := .cells #[.int .i64 ((rd_T66 l0 x11_1).f0), .int .i64 ((rd_T66 l0 x11_1).f1.f0), .int .i64 ((rd_T66 l0 x11_1).f1.f1), .int .i64 ((rd_T66 l0 x11_1).f1.f2)] 66 (0, 0)) (PF0 BK706.1) hb) (bS HB.1 hb) (hbox) (gX HB.1 hg) (gX HB.1 hg) ((by rw [hg]; exact Nat.ne_of_lt (blk_lt (g := gb706) (o := .cells #[.int .i64 ((rd_T66 l0 x11_1).f0), .int .i64 ((rd_T66 l0 x11_1).f1.f0), .int .i64 ((rd_T66 l0 x11_1).f1.f1), .int .i64 ((rd_T66 l0 x11_1).f1.f2)] 66 (0, 0)) (PF0 BK706.1)) : gb706 ≠ gb707)) ((by rw [hg]; exact Nat.ne_of_gt (blk_lt (g := gb706) (o := .cells #[.int .i64 ((rd_T66 l0 x11_1).f0), .int .i64 ((rd_T66 l0 x11_1).f1.f0), .int .i64 ((rd_T66 l0 x11_1).f1.f1), .int .i64 ((rd_T66 l0 x11_1).f1.f2)] 66 (0, 0)) (PF0 BK706.1)) : gb707 ≠ gb706)) ?_; clear BK706 HB; intro BK706 HB BK707 GW707 GE707 NB706_707 NB707_706; clear hb hbox hg; have hnb17 := NB707_706.1; have hnc17 := NB706_707.1; obtain ⟨hcz18_0, hcz18_1, hcz18_2, hfz18_0, hfz18_1, hfz18_2⟩ := cz3 BK707.1; obtain ⟨hcz19_0, hcz19_1, hcz19_2, hcz19_3, hfz19_0, hfz19_1, hfz19_2, hfz19_3⟩ := cz4 BK706.1))
     go_ret
     exact ⟨RF, BL HB.1⟩
   have c13b0 : decide (1 < ((rd_T66 l0 x11_1).f0)) = false := decide_eq_false c13
   clear c13
   replace H := ifB H; rcases H with ⟨c20b0, H⟩ | ⟨c20b0, H⟩
   · obtain rfl := Option.some.inj H
     have p705 : 0 <= (x11_1 : Int) := OD
     have q705 : x11_1 < (l0.length : Int) := OD
     obtain ⟨ad705, e705, hx705_0, hx705_1, hx705_2, hx705_3⟩ := at_T66 HR0.1 x11_1 p705 q705
     cases e705
     replace hx705_0 := (HB.1.cell (World.block_lt_of_cell? w _ hx705_0)).trans hx705_0
     replace hx705_1 := (HB.1.cell (World.block_lt_of_cell? w _ hx705_1)).trans hx705_1
     replace hx705_2 := (HB.1.cell (World.block_lt_of_cell? w _ hx705_2)).trans hx705_2
     replace hx705_3 := (HB.1.cell (World.block_lt_of_cell? w _ hx705_3)).trans hx705_3
     replace p705 := eq_true p705
     replace q705 := eq_true q705
     go_wp2_with (first | ((with_reducible refine gate_dst (N := 4) rfl ?_); refine boxE (cs := #[.int .i64 0, .int .i64 0, .int .i64 0, .int .i64 0]) (t := 66) ?_; intro gb706 hg w21 hbox hb; refine E4b HB.1 hg hbox hb ?_; clear HB; intro HB BK706 GW706 GE706; clear hb hbox hg; obtain ⟨hcz22_0, hcz22_1, hcz22_2, hcz22_3, hfz22_0, hfz22_1, hfz22_2, hfz22_3⟩ := cz4 BK706.1) | ((with_reducible refine gate_dst (N := 5) rfl ?_); refine boxE (cs := #[.int .i64 0, .int .i64 0, .int .i64 0]) (t := 61) ?_; intro gb707 hg w23 hbox hb; refine E7 (blk_below (g := gb706) (o := .cells #[.int .i64 ((rd_T66 l0 x11_1).f0), .int .i64 ((rd_T66 l0 x11_1).f1.f0), .int .i64 ((rd_T66 l0 x11_1).f1.f1), .int .i64 ((rd_T66 l0 x11_1).f1.f2)] 66 (0, 0)) (PF0 BK706.1) hb) (bS HB.1 hb) (hbox) (gX HB.1 hg) (gX HB.1 hg) ((by rw [hg]; exact Nat.ne_of_lt (blk_lt (g := gb706) (o := .cells #[.int .i64 ((rd_T66 l0 x11_1).f0), .int .i64 ((rd_T66 l0 x11_1).f1.f0), .int .i64 ((rd_T66 l0 x11_1).f1.f1), .int .i64 ((rd_T66 l0 x11_1).f1.f2)] 66 (0, 0)) (PF0 BK706.1)) : gb706 ≠ gb707)) ((by rw [hg]; exact Nat.ne_of_gt (blk_lt (g := gb706) (o := .cells #[.int .i64 ((rd_T66 l0 x11_1).f0), .int .i64 ((rd_T66 l0 x11_1).f1.f0), .int .i64 ((rd_T66 l0 x11_1).f1.f1), .int .i64 ((rd_T66 l0 x11_1).f1.f2)] 66 (0, 0)) (PF0 BK706.1)) : gb707 ≠ gb706)) ?_; clear BK706 HB; intro BK706 HB BK707 GW707 GE707 NB706_707 NB707_706; clear hb hbox hg; have hnb24 := NB707_706.1; have hnc24 := NB706_707.1; obtain ⟨hcz25_0, hcz25_1, hcz25_2, hfz25_0, hfz25_1, hfz25_2⟩ := cz3 BK707.1; obtain ⟨hcz26_0, hcz26_1, hcz26_2, hcz26_3, hfz26_0, hfz26_1, hfz26_2, hfz26_3⟩ := cz4 BK706.1))
     go_ret
     exact ⟨RF, BL HB.1⟩
   replace H := ifQ H; rcases H with ⟨c27, H⟩ | ⟨c27, H⟩
   · have c27b0 : decide (3 < ((rd_T66 l0 x11_1).f1.f0)) = true := decide_eq_true c27
     clear c27
     obtain rfl := Option.some.inj H
     have p705 : 0 <= (x11_1 : Int) := OD
     have q705 : x11_1 < (l0.length : Int) := OD
     obtain ⟨ad705, e705, hx705_0, hx705_1, hx705_2, hx705_3⟩ := at_T66 HR0.1 x11_1 p705 q705
     cases e705
     replace hx705_0 := (HB.1.cell (World.block_lt_of_cell? w _ hx705_0)).trans hx705_0
     replace hx705_1 := (HB.1.cell (World.block_lt_of_cell? w _ hx705_1)).trans hx705_1
     replace hx705_2 := (HB.1.cell (World.block_lt_of_cell? w _ hx705_2)).trans hx705_2
     replace hx705_3 := (HB.1.cell (World.block_lt_of_cell? w _ hx705_3)).trans hx705_3
     replace p705 := eq_true p705
     replace q705 := eq_true q705
     go_wp2_with (first | ((with_reducible refine gate_dst (N := 4) rfl ?_); refine boxE (cs := #[.int .i64 0, .int .i64 0, .int .i64 0, .int .i64 0]) (t := 66) ?_; intro gb706 hg w28 hbox hb; refine E4b HB.1 hg hbox hb ?_; clear HB; intro HB BK706 GW706 GE706; clear hb hbox hg; obtain ⟨hcz29_0, hcz29_1, hcz29_2, hcz29_3, hfz29_0, hfz29_1, hfz29_2, hfz29_3⟩ := cz4 BK706.1) | ((with_reducible refine gate_dst (N := 5) rfl ?_); refine boxE (cs := #[.int .i64 0, .int .i64 0, .int .i64 0]) (t := 61) ?_; intro gb707 hg w30 hbox hb; refine E7 (blk_below (g := gb706) (o := .cells #[.int .i64 ((rd_T66 l0 x11_1).f0), .int .i64 ((rd_T66 l0 x11_1).f1.f0), .int .i64 ((rd_T66 l0 x11_1).f1.f1), .int .i64 ((rd_T66 l0 x11_1).f1.f2)] 66 (0, 0)) (PF0 BK706.1) hb) (bS HB.1 hb) (hbox) (gX HB.1 hg) (gX HB.1 hg) ((by rw [hg]; exact Nat.ne_of_lt (blk_lt (g := gb706) (o := .cells #[.int .i64 ((rd_T66 l0 x11_1).f0), .int .i64 ((rd_T66 l0 x11_1).f1.f0), .int .i64 ((rd_T66 l0 x11_1).f1.f1), .int .i64 ((rd_T66 l0 x11_1).f1.f2)] 66 (0, 0)) (PF0 BK706.1)) : gb706 ≠ gb707)) ((by rw [hg]; exact Nat.ne_of_gt (blk_lt (g := gb706) (o := .cells #[.int .i64 ((rd_T66 l0 x11_1).f0), .int .i64 ((rd_T66 l0 x11_1).f1.f0), .int .i64 ((rd_T66 l0 x11_1).f1.f1), .int .i64 ((rd_T66 l0 x11_1).f1.f2)] 66 (0, 0)) (PF0 BK706.1)) : gb707 ≠ gb706)) ?_; clear BK706 HB; intro BK706 HB BK707 GW707 GE707 NB706_707 NB707_706; clear hb hbox hg; have hnb31 := NB707_706.1; have hnc31 := NB706_707.1; obtain ⟨hcz32_0, hcz32_1, hcz32_2, hfz32_0, hfz32_1, hfz32_2⟩ := cz3 BK707.1; obtain ⟨hcz33_0, hcz33_1, hcz33_2, hcz33_3, hfz33_0, hfz33_1, hfz33_2, hfz33_3⟩ := cz4 BK706.1))
     go_ret
     exact ⟨RF, BL HB.1⟩
   have c27b0 : decide (3 < ((rd_T66 l0 x11_1).f1.f0)) = false := decide_eq_false c27
   clear c27
   replace H := ifB H; rcases H with ⟨c34b0, H⟩ | ⟨c34b0, H⟩
   · obtain rfl := Option.some.inj H
     have p705 : 0 <= (x11_1 : Int) := OD
     have q705 : x11_1 < (l0.length : Int) := OD
     obtain ⟨ad705, e705, hx705_0, hx705_1, hx705_2, hx705_3⟩ := at_T66 HR0.1 x11_1 p705 q705
     cases e705
     replace hx705_0 := (HB.1.cell (World.block_lt_of_cell? w _ hx705_0)).trans hx705_0
     replace hx705_1 := (HB.1.cell (World.block_lt_of_cell? w _ hx705_1)).trans hx705_1
     replace hx705_2 := (HB.1.cell (World.block_lt_of_cell? w _ hx705_2)).trans hx705_2
     replace hx705_3 := (HB.1.cell (World.block_lt_of_cell? w _ hx705_3)).trans hx705_3
     replace p705 := eq_true p705
     replace q705 := eq_true q705
     go_wp2_with (first | ((with_reducible refine gate_dst (N := 4) rfl ?_); refine boxE (cs := #[.int .i64 0, .int .i64 0, .int .i64 0, .int .i64 0]) (t := 66) ?_; intro gb706 hg w35 hbox hb; refine E4b HB.1 hg hbox hb ?_; clear HB; intro HB BK706 GW706 GE706; clear hb hbox hg; obtain ⟨hcz36_0, hcz36_1, hcz36_2, hcz36_3, hfz36_0, hfz36_1, hfz36_2, hfz36_3⟩ := cz4 BK706.1) | ((with_reducible refine gate_dst (N := 5) rfl ?_); refine boxE (cs := #[.int .i64 0, .int .i64 0, .int .i64 0]) (t := 61) ?_; intro gb707 hg w37 hbox hb; refine E7 (blk_below (g := gb706) (o := .cells #[.int .i64 ((rd_T66 l0 x11_1).f0), .int .i64 ((rd_T66 l0 x11_1).f1.f0), .int .i64 ((rd_T66 l0 x11_1).f1.f1), .int .i64 ((rd_T66 l0 x11_1).f1.f2)] 66 (0, 0)) (PF0 BK706.1) hb) (bS HB.1 hb) (hbox) (gX HB.1 hg) (gX HB.1 hg) ((by rw [hg]; exact Nat.ne_of_lt (blk_lt (g := gb706) (o := .cells #[.int .i64 ((rd_T66 l0 x11_1).f0), .int .i64 ((rd_T66 l0 x11_1).f1.f0), .int .i64 ((rd_T66 l0 x11_1).f1.f1), .int .i64 ((rd_T66 l0 x11_1).f1.f2)] 66 (0, 0)) (PF0 BK706.1)) : gb706 ≠ gb707)) ((by rw [hg]; exact Nat.ne_of_gt (blk_lt (g := gb706) (o := .cells #[.int .i64 ((rd_T66 l0 x11_1).f0), .int .i64 ((rd_T66 l0 x11_1).f1.f0), .int .i64 ((rd_T66 l0 x11_1).f1.f1), .int .i64 ((rd_T66 l0 x11_1).f1.f2)] 66 (0, 0)) (PF0 BK706.1)) : gb707 ≠ gb706)) ?_; clear BK706 HB; intro BK706 HB BK707 GW707 GE707 NB706_707 NB707_706; clear hb hbox hg; have hnb38 := NB707_706.1; have hnc38 := NB706_707.1; obtain ⟨hcz39_0, hcz39_1, hcz39_2, hfz39_0, hfz39_1, hfz39_2⟩ := cz3 BK707.1; obtain ⟨hcz40_0, hcz40_1, hcz40_2, hcz40_3, hfz40_0, hfz40_1, hfz40_2, hfz40_3⟩ := cz4 BK706.1))
     go_ret
     exact ⟨RF, BL HB.1⟩
   replace H := ifQ H; rcases H with ⟨c41, H⟩ | ⟨c41, H⟩
   · have c41b0 : decide (10 < ((rd_T66 l0 x11_1).f1.f1)) = true := decide_eq_true c41
     clear c41
     obtain rfl := Option.some.inj H
     have p705 : 0 <= (x11_1 : Int) := OD
     have q705 : x11_1 < (l0.length : Int) := OD
     obtain ⟨ad705, e705, hx705_0, hx705_1, hx705_2, hx705_3⟩ := at_T66 HR0.1 x11_1 p705 q705
     cases e705
     replace hx705_0 := (HB.1.cell (World.block_lt_of_cell? w _ hx705_0)).trans hx705_0
     replace hx705_1 := (HB.1.cell (World.block_lt_of_cell? w _ hx705_1)).trans hx705_1
     replace hx705_2 := (HB.1.cell (World.block_lt_of_cell? w _ hx705_2)).trans hx705_2
     replace hx705_3 := (HB.1.cell (World.block_lt_of_cell? w _ hx705_3)).trans hx705_3
     replace p705 := eq_true p705
     replace q705 := eq_true q705
     go_wp2_with (first | ((with_reducible refine gate_dst (N := 4) rfl ?_); refine boxE (cs := #[.int .i64 0, .int .i64 0, .int .i64 0, .int .i64 0]) (t := 66) ?_; intro gb706 hg w42 hbox hb; refine E4b HB.1 hg hbox hb ?_; clear HB; intro HB BK706 GW706 GE706; clear hb hbox hg; obtain ⟨hcz43_0, hcz43_1, hcz43_2, hcz43_3, hfz43_0, hfz43_1, hfz43_2, hfz43_3⟩ := cz4 BK706.1) | ((with_reducible refine gate_dst (N := 5) rfl ?_); refine boxE (cs := #[.int .i64 0, .int .i64 0, .int .i64 0]) (t := 61) ?_; intro gb707 hg w44 hbox hb; refine E7 (blk_below (g := gb706) (o := .cells #[.int .i64 ((rd_T66 l0 x11_1).f0), .int .i64 ((rd_T66 l0 x11_1).f1.f0), .int .i64 ((rd_T66 l0 x11_1).f1.f1), .int .i64 ((rd_T66 l0 x11_1).f1.f2)] 66 (0, 0)) (PF0 BK706.1) hb) (bS HB.1 hb) (hbox) (gX HB.1 hg) (gX HB.1 hg) ((by rw [hg]; exact Nat.ne_of_lt (blk_lt (g := gb706) (o := .cells #[.int .i64 ((rd_T66 l0 x11_1).f0), .int .i64 ((rd_T66 l0 x11_1).f1.f0), .int .i64 ((rd_T66 l0 x11_1).f1.f1), .int .i64 ((rd_T66 l0 x11_1).f1.f2)] 66 (0, 0)) (PF0 BK706.1)) : gb706 ≠ gb707)) ((by rw [hg]; exact Nat.ne_of_gt (blk_lt (g := gb706) (o := .cells #[.int .i64 ((rd_T66 l0 x11_1).f0), .int .i64 ((rd_T66 l0 x11_1).f1.f0), .int .i64 ((rd_T66 l0 x11_1).f1.f1), .int .i64 ((rd_T66 l0 x11_1).f1.f2)] 66 (0, 0)) (PF0 BK706.1)) : gb707 ≠ gb706)) ?_; clear BK706 HB; intro BK706 HB BK707 GW707 GE707 NB706_707 NB707_706; clear hb hbox hg; have hnb45 := NB707_706.1; have hnc45 := NB706_707.1; obtain ⟨hcz46_0, hcz46_1, hcz46_2, hfz46_0, hfz46_1, hfz46_2⟩ := cz3 BK707.1; obtain ⟨hcz47_0, hcz47_1, hcz47_2, hcz47_3, hfz47_0, hfz47_1, hfz47_2, hfz47_3⟩ := cz4 BK706.1))
     go_ret
     exact ⟨RF, BL HB.1⟩
   have c41b0 : decide (10 < ((rd_T66 l0 x11_1).f1.f1)) = false := decide_eq_false c41
   clear c41
   replace H := ifB H; rcases H with ⟨c48b0, H⟩ | ⟨c48b0, H⟩
   · obtain rfl := Option.some.inj H
     have p705 : 0 <= (x11_1 : Int) := OD
     have q705 : x11_1 < (l0.length : Int) := OD
     obtain ⟨ad705, e705, hx705_0, hx705_1, hx705_2, hx705_3⟩ := at_T66 HR0.1 x11_1 p705 q705
     cases e705
     replace hx705_0 := (HB.1.cell (World.block_lt_of_cell? w _ hx705_0)).trans hx705_0
     replace hx705_1 := (HB.1.cell (World.block_lt_of_cell? w _ hx705_1)).trans hx705_1
     replace hx705_2 := (HB.1.cell (World.block_lt_of_cell? w _ hx705_2)).trans hx705_2
     replace hx705_3 := (HB.1.cell (World.block_lt_of_cell? w _ hx705_3)).trans hx705_3
     replace p705 := eq_true p705
     replace q705 := eq_true q705
     go_wp2_with (first | ((with_reducible refine gate_dst (N := 4) rfl ?_); refine boxE (cs := #[.int .i64 0, .int .i64 0, .int .i64 0, .int .i64 0]) (t := 66) ?_; intro gb706 hg w49 hbox hb; refine E4b HB.1 hg hbox hb ?_; clear HB; intro HB BK706 GW706 GE706; clear hb hbox hg; obtain ⟨hcz50_0, hcz50_1, hcz50_2, hcz50_3, hfz50_0, hfz50_1, hfz50_2, hfz50_3⟩ := cz4 BK706.1) | ((with_reducible refine gate_dst (N := 5) rfl ?_); refine boxE (cs := #[.int .i64 0, .int .i64 0, .int .i64 0]) (t := 61) ?_; intro gb707 hg w51 hbox hb; refine E7 (blk_below (g := gb706) (o := .cells #[.int .i64 ((rd_T66 l0 x11_1).f0), .int .i64 ((rd_T66 l0 x11_1).f1.f0), .int .i64 ((rd_T66 l0 x11_1).f1.f1), .int .i64 ((rd_T66 l0 x11_1).f1.f2)] 66 (0, 0)) (PF0 BK706.1) hb) (bS HB.1 hb) (hbox) (gX HB.1 hg) (gX HB.1 hg) ((by rw [hg]; exact Nat.ne_of_lt (blk_lt (g := gb706) (o := .cells #[.int .i64 ((rd_T66 l0 x11_1).f0), .int .i64 ((rd_T66 l0 x11_1).f1.f0), .int .i64 ((rd_T66 l0 x11_1).f1.f1), .int .i64 ((rd_T66 l0 x11_1).f1.f2)] 66 (0, 0)) (PF0 BK706.1)) : gb706 ≠ gb707)) ((by rw [hg]; exact Nat.ne_of_gt (blk_lt (g := gb706) (o := .cells #[.int .i64 ((rd_T66 l0 x11_1).f0), .int .i64 ((rd_T66 l0 x11_1).f1.f0), .int .i64 ((rd_T66 l0 x11_1).f1.f1), .int .i64 ((rd_T66 l0 x11_1).f1.f2)] 66 (0, 0)) (PF0 BK706.1)) : gb707 ≠ gb706)) ?_; clear BK706 HB; intro BK706 HB BK707 GW707 GE707 NB706_707 NB707_706; clear hb hbox hg; have hnb52 := NB707_706.1; have hnc52 := NB706_707.1; obtain ⟨hcz53_0, hcz53_1, hcz53_2, hfz53_0, hfz53_1, hfz53_2⟩ := cz3 BK707.1; obtain ⟨hcz54_0, hcz54_1, hcz54_2, hcz54_3, hfz54_0, hfz54_1, hfz54_2, hfz54_3⟩ := cz4 BK706.1))
     go_ret
     exact ⟨RF, BL HB.1⟩
   replace H := ifQ H; rcases H with ⟨c55, H⟩ | ⟨c55, H⟩
   · have c55b0 : decide (9 < ((rd_T66 l0 x11_1).f1.f2)) = true := decide_eq_true c55
     clear c55
     obtain rfl := Option.some.inj H
     have p705 : 0 <= (x11_1 : Int) := OD
     have q705 : x11_1 < (l0.length : Int) := OD
     obtain ⟨ad705, e705, hx705_0, hx705_1, hx705_2, hx705_3⟩ := at_T66 HR0.1 x11_1 p705 q705
     cases e705
     replace hx705_0 := (HB.1.cell (World.block_lt_of_cell? w _ hx705_0)).trans hx705_0
     replace hx705_1 := (HB.1.cell (World.block_lt_of_cell? w _ hx705_1)).trans hx705_1
     replace hx705_2 := (HB.1.cell (World.block_lt_of_cell? w _ hx705_2)).trans hx705_2
     replace hx705_3 := (HB.1.cell (World.block_lt_of_cell? w _ hx705_3)).trans hx705_3
     replace p705 := eq_true p705
     replace q705 := eq_true q705
     go_wp2_with (first | ((with_reducible refine gate_dst (N := 4) rfl ?_); refine boxE (cs := #[.int .i64 0, .int .i64 0, .int .i64 0, .int .i64 0]) (t := 66) ?_; intro gb706 hg w56 hbox hb; refine E4b HB.1 hg hbox hb ?_; clear HB; intro HB BK706 GW706 GE706; clear hb hbox hg; obtain ⟨hcz57_0, hcz57_1, hcz57_2, hcz57_3, hfz57_0, hfz57_1, hfz57_2, hfz57_3⟩ := cz4 BK706.1) | ((with_reducible refine gate_dst (N := 5) rfl ?_); refine boxE (cs := #[.int .i64 0, .int .i64 0, .int .i64 0]) (t := 61) ?_; intro gb707 hg w58 hbox hb; refine E7 (blk_below (g := gb706) (o := .cells #[.int .i64 ((rd_T66 l0 x11_1).f0), .int .i64 ((rd_T66 l0 x11_1).f1.f0), .int .i64 ((rd_T66 l0 x11_1).f1.f1), .int .i64 ((rd_T66 l0 x11_1).f1.f2)] 66 (0, 0)) (PF0 BK706.1) hb) (bS HB.1 hb) (hbox) (gX HB.1 hg) (gX HB.1 hg) ((by rw [hg]; exact Nat.ne_of_lt (blk_lt (g := gb706) (o := .cells #[.int .i64 ((rd_T66 l0 x11_1).f0), .int .i64 ((rd_T66 l0 x11_1).f1.f0), .int .i64 ((rd_T66 l0 x11_1).f1.f1), .int .i64 ((rd_T66 l0 x11_1).f1.f2)] 66 (0, 0)) (PF0 BK706.1)) : gb706 ≠ gb707)) ((by rw [hg]; exact Nat.ne_of_gt (blk_lt (g := gb706) (o := .cells #[.int .i64 ((rd_T66 l0 x11_1).f0), .int .i64 ((rd_T66 l0 x11_1).f1.f0), .int .i64 ((rd_T66 l0 x11_1).f1.f1), .int .i64 ((rd_T66 l0 x11_1).f1.f2)] 66 (0, 0)) (PF0 BK706.1)) : gb707 ≠ gb706)) ?_; clear BK706 HB; intro BK706 HB BK707 GW707 GE707 NB706_707 NB707_706; clear hb hbox hg; have hnb59 := NB707_706.1; have hnc59 := NB706_707.1; obtain ⟨hcz60_0, hcz60_1, hcz60_2, hfz60_0, hfz60_1, hfz60_2⟩ := cz3 BK707.1; obtain ⟨hcz61_0, hcz61_1, hcz61_2, hcz61_3, hfz61_0, hfz61_1, hfz61_2, hfz61_3⟩ := cz4 BK706.1))
     go_ret
     exact ⟨RF, BL HB.1⟩
   have c55b0 : decide (9 < ((rd_T66 l0 x11_1).f1.f2)) = false := decide_eq_false c55
   clear c55
   have H' := Aside0.mk H
   clear H
   have p705 : 0 <= (x11_1 : Int) := OD
   have q705 : x11_1 < (l0.length : Int) := OD
   obtain ⟨ad705, e705, hx705_0, hx705_1, hx705_2, hx705_3⟩ := at_T66 HR0.1 x11_1 p705 q705
   cases e705
   replace hx705_0 := (HB.1.cell (World.block_lt_of_cell? w _ hx705_0)).trans hx705_0
   replace hx705_1 := (HB.1.cell (World.block_lt_of_cell? w _ hx705_1)).trans hx705_1
   replace hx705_2 := (HB.1.cell (World.block_lt_of_cell? w _ hx705_2)).trans hx705_2
   replace hx705_3 := (HB.1.cell (World.block_lt_of_cell? w _ hx705_3)).trans hx705_3
   replace p705 := eq_true p705
   replace q705 := eq_true q705
   go_wp2_with (first | ((with_reducible refine gate_dst (N := 4) rfl ?_); refine boxE (cs := #[.int .i64 0, .int .i64 0, .int .i64 0, .int .i64 0]) (t := 66) ?_; intro gb706 hg w62 hbox hb; refine E4b HB.1 hg hbox hb ?_; clear HB; intro HB BK706 GW706 GE706; clear hb hbox hg; obtain ⟨hcz63_0, hcz63_1, hcz63_2, hcz63_3, hfz63_0, hfz63_1, hfz63_2, hfz63_3⟩ := cz4 BK706.1) | ((with_reducible refine gate_dst (N := 5) rfl ?_); refine boxE (cs := #[.int .i64 0, .int .i64 0, .int .i64 0]) (t := 61) ?_; intro gb707 hg w64 hbox hb; refine E7 (blk_below (g := gb706) (o := .cells #[.int .i64 ((rd_T66 l0 x11_1).f0), .int .i64 ((rd_T66 l0 x11_1).f1.f0), .int .i64 ((rd_T66 l0 x11_1).f1.f1), .int .i64 ((rd_T66 l0 x11_1).f1.f2)] 66 (0, 0)) (PF0 BK706.1) hb) (bS HB.1 hb) (hbox) (gX HB.1 hg) (gX HB.1 hg) ((by rw [hg]; exact Nat.ne_of_lt (blk_lt (g := gb706) (o := .cells #[.int .i64 ((rd_T66 l0 x11_1).f0), .int .i64 ((rd_T66 l0 x11_1).f1.f0), .int .i64 ((rd_T66 l0 x11_1).f1.f1), .int .i64 ((rd_T66 l0 x11_1).f1.f2)] 66 (0, 0)) (PF0 BK706.1)) : gb706 ≠ gb707)) ((by rw [hg]; exact Nat.ne_of_gt (blk_lt (g := gb706) (o := .cells #[.int .i64 ((rd_T66 l0 x11_1).f0), .int .i64 ((rd_T66 l0 x11_1).f1.f0), .int .i64 ((rd_T66 l0 x11_1).f1.f1), .int .i64 ((rd_T66 l0 x11_1).f1.f2)] 66 (0, 0)) (PF0 BK706.1)) : gb707 ≠ gb706)) ?_; clear BK706 HB; intro BK706 HB BK707 GW707 GE707 NB706_707 NB707_706; clear hb hbox hg; have hnb65 := NB707_706.1; have hnc65 := NB706_707.1; obtain ⟨hcz66_0, hcz66_1, hcz66_2, hfz66_0, hfz66_1, hfz66_2⟩ := cz3 BK707.1; obtain ⟨hcz67_0, hcz67_1, hcz67_2, hcz67_3, hfz67_0, hfz67_1, hfz67_2, hfz67_3⟩ := cz4 BK706.1))
   go_roundg k1
   case measure => have := HK1.1; omega
   case rel => exact ⟨(wrap64 (x11_1 + 1)), RG, H', ⟨by have := HK1.1; omega⟩, ⟨BL HB.1⟩⟩
 obtain rfl := Option.some.inj H
 go_wp2
 go_ret
 exact ⟨RF, BL HB.1⟩
/-! ### impl_agreeing: function 42 -/
open Kd
def impl_agreeing.l0 : Nat -> List (S66) -> List (S66) -> Int -> Option (Int)
 | 0, _, _, _ => none
 | k + 1, x0, x1, x5 => if x5 < (x0.length : Int) then (if x5 < (x1.length : Int) then (if 0 <= x5 then (if (((rd_T66 x0 x5).f0) == ((rd_T66 x1 x5).f0) && ((((rd_T66 x0 x5).f1.f0) == ((rd_T66 x1 x5).f1.f0) && (((rd_T66 x0 x5).f1.f1) == ((rd_T66 x1 x5).f1.f1) && (((rd_T66 x0 x5).f1.f2) == ((rd_T66 x1 x5).f1.f2)))))) = true then (impl_agreeing.l0 k x0 x1 (wrap64 (x5 + 1))) else (some x5)) else (none)) else (some x5)) else (some x5)
def impl_agreeing.f (k : Nat) (l0 : List (S66)) (l1 : List (S66)) : Option (Int) := impl_agreeing.l0 k l0 l1 0
theorem impl_agreeing.mono_l : ∀ k, (∀ y0 y1 y2, LeO (impl_agreeing.l0 k y0 y1 y2) (impl_agreeing.l0 (k + 1) y0 y1 y2))
 | 0 => fun _ _ _ r h => by simp [impl_agreeing.l0] at h
 | k + 1 => by
  have ih0 := impl_agreeing.mono_l k
  intros
  first | unfold impl_agreeing.l0
  exact LM1 ih0
theorem impl_agreeing.mono : ∀ a0 a1 k, LeO (impl_agreeing.f k a0 a1) (impl_agreeing.f (k + 1) a0 a1) := by
 intro a0 a1 k
 have ih0 := impl_agreeing.mono_l k
 unfold impl_agreeing.f
 exact LM1 ih0
theorem impl_agreeing.calls (k : Nat) (A0 : Option Addr) (c0 : Nat) (l0 : List (S66)) (A1 : Option Addr) (c1 : Nat) (l1 : List (S66)) (r : Int) (w : World) (hr0 : Kd.C k66 w A0 l0.length l0) (hc0 : l0.length <= c0) (hr1 : Kd.C k66 w A1 l1.length l1) (hc1 : l1.length <= c1) (h : impl_agreeing.f k l0 l1 = some r) :
 Calls Try.prog 42 #[.slice A0 l0.length c0, .slice A1 l1.length c1] w fun e w' => e = .returned (.int .i64 r) /\ Drawn0 w w' := by
 have hu66 := Try.underlying66
 have HR0 := Aside0.mk hr0
 have HC0 := Aside0.mk hc0
 clear hr0 hc0
 have HR1 := Aside0.mk hr1
 have HC1 := Aside0.mk hc1
 clear hr1 hc1
 have H := h
 clear h
 unfold impl_agreeing.f at H
 have H' := Aside0.mk H
 clear H
 go_enter Try.func42, Try.ntmps42
 go_wp2
 repeat (go_quiet (fail); try go_wp2)
 go_loopg [5] k (fun kq v5 w' => ∃ (x5_1 : Int), v5 = .int .i64 x5_1 /\ Aside0 (impl_agreeing.l0 kq l0 l1 x5_1 = some r) /\ Aside0 (kq <= k) /\ Drawn0 w w')
 case atStart => exact ⟨(0), RG, H', ⟨Nat.le_refl _⟩, DR⟩
 clear H'
 try clear c1
 obtain ⟨x5_1, rfl, HA, HK1, ⟨m1, rfl⟩⟩ := hrel
 cases gk with
 | zero => exact absurd HA.1 (by simp [impl_agreeing.l0])
 | succ k1 => ?_
 have H := HA.1
 clear HA
 simp only [impl_agreeing.l0] at H
 replace H := ifB H; rcases H with ⟨c3b0, H⟩ | ⟨c3b0, H⟩
 · replace H := ifB H; rcases H with ⟨c4b0, H⟩ | ⟨c4b0, H⟩
   · replace H := ifN H; obtain ⟨c5b0, H⟩ := H
     replace H := ifQ H; rcases H with ⟨c6, H⟩ | ⟨c6, H⟩
     · have c6b0 : (((rd_T66 l0 x5_1).f0) == ((rd_T66 l1 x5_1).f0) && ((((rd_T66 l0 x5_1).f1.f0) == ((rd_T66 l1 x5_1).f1.f0) && (((rd_T66 l0 x5_1).f1.f1) == ((rd_T66 l1 x5_1).f1.f1) && (((rd_T66 l0 x5_1).f1.f2) == ((rd_T66 l1 x5_1).f1.f2)))))) = true := c6
       (try (have c6b1 : decide (((rd_T66 l0 x5_1).f0) = ((rd_T66 l1 x5_1).f0) && ((((rd_T66 l0 x5_1).f1.f0) == ((rd_T66 l1 x5_1).f1.f0) && (((rd_T66 l0 x5_1).f1.f1) == ((rd_T66 l1 x5_1).f1.f1) && (((rd_T66 l0 x5_1).f1.f2) == ((rd_T66 l1 x5_1).f1.f2)))))) = true := by simpa using c6))
       (try (have c6b2 : (((rd_T66 l0 x5_1).f0) == ((rd_T66 l1 x5_1).f0) && ((((rd_T66 l0 x5_1).f1.f0) == ((rd_T66 l1 x5_1).f1.f0) && (((rd_T66 l0 x5_1).f1.f1) == ((rd_T66 l1 x5_1).f1.f1) && (((rd_T66 l0 x5_1).f1.f2) == ((rd_T66 l1 x5_1).f1.f2)))))) = true := by simpa using c6))
       clear c6
       have H' := Aside0.mk H
       clear H
       have p708 : 0 <= (x5_1 : Int) := OD
       have q708 : x5_1 < (l0.length : Int) := OD
       obtain ⟨ad708, e708, hx708_0, hx708_1, hx708_2, hx708_3⟩ := at_T66 HR0.1 x5_1 p708 q708
       cases e708
       replace p708 := eq_true p708
       replace q708 := eq_true q708
       have p709 : 0 <= (x5_1 : Int) := OD
       have q709 : x5_1 < (l1.length : Int) := OD
       obtain ⟨ad709, e709, hx709_0, hx709_1, hx709_2, hx709_3⟩ := at_T66 HR1.1 x5_1 p709 q709
       cases e709
       replace p709 := eq_true p709
       replace q709 := eq_true q709
       go_wp2
       repeat (go_quiet (fail); try go_wp2)
       go_roundg k1
       case measure => have := HK1.1; omega
       case rel => exact ⟨(wrap64 (x5_1 + 1)), RG, H', ⟨by have := HK1.1; omega⟩, DR⟩
     have c6b0 : (((rd_T66 l0 x5_1).f0) == ((rd_T66 l1 x5_1).f0) && ((((rd_T66 l0 x5_1).f1.f0) == ((rd_T66 l1 x5_1).f1.f0) && (((rd_T66 l0 x5_1).f1.f1) == ((rd_T66 l1 x5_1).f1.f1) && (((rd_T66 l0 x5_1).f1.f2) == ((rd_T66 l1 x5_1).f1.f2)))))) = false := by simpa using c6
     (try (have c6b1 : decide (((rd_T66 l0 x5_1).f0) = ((rd_T66 l1 x5_1).f0) && ((((rd_T66 l0 x5_1).f1.f0) == ((rd_T66 l1 x5_1).f1.f0) && (((rd_T66 l0 x5_1).f1.f1) == ((rd_T66 l1 x5_1).f1.f1) && (((rd_T66 l0 x5_1).f1.f2) == ((rd_T66 l1 x5_1).f1.f2)))))) = false := by simpa using c6))
     (try (have c6b2 : (((rd_T66 l0 x5_1).f0) == ((rd_T66 l1 x5_1).f0) && ((((rd_T66 l0 x5_1).f1.f0) == ((rd_T66 l1 x5_1).f1.f0) && (((rd_T66 l0 x5_1).f1.f1) == ((rd_T66 l1 x5_1).f1.f1) && (((rd_T66 l0 x5_1).f1.f2) == ((rd_T66 l1 x5_1).f1.f2)))))) = false := by simpa using c6))
     (try (have c6b3 : ¬ (((rd_T66 l0 x5_1).f0) = ((rd_T66 l1 x5_1).f0) && ((((rd_T66 l0 x5_1).f1.f0) == ((rd_T66 l1 x5_1).f1.f0) && (((rd_T66 l0 x5_1).f1.f1) == ((rd_T66 l1 x5_1).f1.f1) && (((rd_T66 l0 x5_1).f1.f2) == ((rd_T66 l1 x5_1).f1.f2)))))) := by simpa using c6))
     clear c6
     obtain rfl := Option.some.inj H
     have p708 : 0 <= (x5_1 : Int) := OD
     have q708 : x5_1 < (l0.length : Int) := OD
     obtain ⟨ad708, e708, hx708_0, hx708_1, hx708_2, hx708_3⟩ := at_T66 HR0.1 x5_1 p708 q708
     cases e708
     replace p708 := eq_true p708
     replace q708 := eq_true q708
     have p709 : 0 <= (x5_1 : Int) := OD
     have q709 : x5_1 < (l1.length : Int) := OD
     obtain ⟨ad709, e709, hx709_0, hx709_1, hx709_2, hx709_3⟩ := at_T66 HR1.1 x5_1 p709 q709
     cases e709
     replace p709 := eq_true p709
     replace q709 := eq_true q709
     go_wp2
     repeat (go_quiet (fail); try go_wp2)
     go_ret
     exact ⟨RG, DR⟩
   obtain rfl := Option.some.inj H
   go_wp2
   repeat (go_quiet (fail); try go_wp2)
   go_ret
   exact ⟨RG, DR⟩
 obtain rfl := Option.some.inj H
 go_wp2
 repeat (go_quiet (fail); try go_wp2)
 go_ret
 exact ⟨RG, DR⟩
end Go.Proofs.Ythnehlphifegaaa.P
