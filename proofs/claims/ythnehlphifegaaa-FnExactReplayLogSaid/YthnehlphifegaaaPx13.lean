-- PRINTED by print.py (a twelfth state) out of the translation. Not trusted: Lean checks it.
import Derived.Test.YthnehlphifegaaaPx0
import Derived.Test.YthnehlphifegaaaPx1
import Derived.Test.YthnehlphifegaaaPx2
namespace Go.Proofs.Ythnehlphifegaaa.P
open Go.RowKit Go.Proofs.YthnehlphifegaaaW.PrintWords Go.Proofs.YthnehlphifegaaaW.PrintLast Go.Proofs.YthnehlphifegaaaW.PrintMore
attribute [local go_sem] max2_int min2_int max_two min_two max_three min_three max_four min_four   -- for this text's walks alone
set_option linter.unusedVariables false
set_option linter.unusedSimpArgs false
set_option maxHeartbeats 8000000
set_option maxRecDepth 100000

attribute [local go_sem high] eqA66
/-! ### laws_szLogEntryS: function 21 -/
open Kd
def laws_szLogEntryS.f (l0 : List (S77)) (a1 : Int) : Option (Int) := if (wrap64 (a1 - (l0.length : Int))) < 0 then (some (-1)) else (some (wrap64 (a1 - (l0.length : Int))))
theorem laws_szLogEntryS.calls (A0 : Option Addr) (c0 : Nat) (l0 : List (S77)) (a1 : Int) (r : Int) (w : World) (hr0 : Kd.C k77 w A0 l0.length l0) (hc0 : l0.length <= c0) (h : laws_szLogEntryS.f l0 a1 = some r) :
 Calls Try.prog 21 #[.slice A0 l0.length c0, .int .i64 a1] w fun e w' => e = .returned (.int .i64 r) /\ Drawn0 w w' := by
 have aX := Aside0.mk hr0
 have gq := Aside0.mk hc0
 clear hr0 hc0
 have H := h
 clear h
 unfold laws_szLogEntryS.f at H
 replace H := ifB H; rcases H with ⟨c3b0, H⟩ | ⟨c3b0, H⟩
 · obtain rfl := Option.some.inj H
   go_enter Try.func21, Try.ntmps21
   go_wp2
   go_ret
   exact ⟨RG, DR⟩
 obtain rfl := Option.some.inj H
 go_enter Try.func21, Try.ntmps21
 go_wp2
 go_ret
 exact ⟨RG, DR⟩
/-! ### spec_loEntry: function 59 -/
open Kd
def spec_loEntry.f (a0_0 : Int) (a0_1 : Int) (a0_2 : Int) (a0_3 : Int) : Option (Bool) := (spec_l1In.f a0_0 0 1).bind fun gu => (if gu = true then ((spec_l1In.f a0_1 1 3).bind fun gy => (if gy = true then ((spec_l1In.f a0_2 0 10).bind fun gz => (if gz = true then ((spec_l1In.f a0_3 (-1) 9).bind fun fE => (some fE)) else (some false))) else (some false))) else (some false))
theorem spec_loEntry.calls (a0_0 : Int) (a0_1 : Int) (a0_2 : Int) (a0_3 : Int) (r : Bool) (w : World) (h : spec_loEntry.f a0_0 a0_1 a0_2 a0_3 = some r) :
 Calls Try.prog 59 #[.agg #[.int .i64 a0_0, .int .i64 a0_1, .int .i64 a0_2, .int .i64 a0_3]] w fun e w' => e = .returned (.bool r) /\ Below w.heap.size w w' := by
 have df := Try.underlying66
 have HB := Aside0.mk (Below.refl w.heap.size w)
 have H := h
 clear h
 unfold spec_loEntry.f at H
 replace H := bindA H; obtain ⟨gu, A2, H⟩ := H
 replace H := ifX H; rcases H with ⟨rfl, H⟩ | ⟨rfl, H⟩
 · replace H := bindA H; obtain ⟨gy, A4, H⟩ := H
   replace H := ifX H; rcases H with ⟨rfl, H⟩ | ⟨rfl, H⟩
   · replace H := bindA H; obtain ⟨gz, A6, H⟩ := H
     replace H := ifX H; rcases H with ⟨rfl, H⟩ | ⟨rfl, H⟩
     · replace H := bindA H; obtain ⟨fE, A8, H⟩ := H
       obtain rfl := Option.some.inj H
       go_enter Try.func59, Try.ntmps59
       go_wp2_with (first | ((with_reducible refine gate_dst (N := 1) rfl ?_); refine boxE (cs := #[.int .i64 a0_0, .int .i64 a0_1, .int .i64 a0_2, .int .i64 a0_3]) (t := 66) ?_; intro dI hg w9 hbox hb; refine E4b HB.1 hg hbox hb ?_; clear HB; intro HB aV dJ dK; clear hb hbox hg; obtain ⟨bO, bP, bQ, dW, bR, bT, bU, dX⟩ := cz4 aV.1) | ((with_reducible refine gate_callee (f := 46) rfl ?_); refine goesM (N := (some 5)) #[.int .i64 a0_0, .int .i64 0, .int .i64 1] Try.func46 ?_; (with_reducible refine (spec_l1In.calls a0_0 0 1 true _ A2.1).mono ?_); rintro e w' ⟨rfl, ⟨nd, rfl⟩⟩; refine ⟨_, rfl, ?_⟩) | (go_at_call 46; (with_reducible refine (spec_l1In.calls a0_1 1 3 true _ A4.1).mono ?_); rintro e w' ⟨rfl, ⟨nd, rfl⟩⟩) | (go_at_call 46; (with_reducible refine (spec_l1In.calls a0_2 0 10 true _ A6.1).mono ?_); rintro e w' ⟨rfl, ⟨nd, rfl⟩⟩) | (go_at_call 46; (with_reducible refine (spec_l1In.calls a0_3 (-1) 9 fE _ A8.1).mono ?_); rintro e w' ⟨rfl, ⟨nd, rfl⟩⟩))
       go_ret
       exact ⟨RF, BL HB.1⟩
     obtain rfl := Option.some.inj H
     go_enter Try.func59, Try.ntmps59
     go_wp2_with (first | ((with_reducible refine gate_dst (N := 1) rfl ?_); refine boxE (cs := #[.int .i64 a0_0, .int .i64 a0_1, .int .i64 a0_2, .int .i64 a0_3]) (t := 66) ?_; intro dI hg dh hbox hb; refine E4b HB.1 hg hbox hb ?_; clear HB; intro HB aV dJ dK; clear hb hbox hg; obtain ⟨bV, bW, bX, bY, cu, cz, cB, cK⟩ := cz4 aV.1) | ((with_reducible refine gate_callee (f := 46) rfl ?_); refine goesM (N := (some 5)) #[.int .i64 a0_0, .int .i64 0, .int .i64 1] Try.func46 ?_; (with_reducible refine (spec_l1In.calls a0_0 0 1 true _ A2.1).mono ?_); rintro e w' ⟨rfl, ⟨nd, rfl⟩⟩; refine ⟨_, rfl, ?_⟩) | (go_at_call 46; (with_reducible refine (spec_l1In.calls a0_1 1 3 true _ A4.1).mono ?_); rintro e w' ⟨rfl, ⟨nd, rfl⟩⟩) | (go_at_call 46; (with_reducible refine (spec_l1In.calls a0_2 0 10 false _ A6.1).mono ?_); rintro e w' ⟨rfl, ⟨nd, rfl⟩⟩))
     go_ret
     exact ⟨RF, BL HB.1⟩
   obtain rfl := Option.some.inj H
   go_enter Try.func59, Try.ntmps59
   go_wp2_with (first | ((with_reducible refine gate_dst (N := 1) rfl ?_); refine boxE (cs := #[.int .i64 a0_0, .int .i64 a0_1, .int .i64 a0_2, .int .i64 a0_3]) (t := 66) ?_; intro dI hg iD hbox hb; refine E4b HB.1 hg hbox hb ?_; clear HB; intro HB aV dJ dK; clear hb hbox hg; obtain ⟨iE, iF, iG, iH, iI, iJ, iK, iL⟩ := cz4 aV.1) | ((with_reducible refine gate_callee (f := 46) rfl ?_); refine goesM (N := (some 5)) #[.int .i64 a0_0, .int .i64 0, .int .i64 1] Try.func46 ?_; (with_reducible refine (spec_l1In.calls a0_0 0 1 true _ A2.1).mono ?_); rintro e w' ⟨rfl, ⟨nd, rfl⟩⟩; refine ⟨_, rfl, ?_⟩) | (go_at_call 46; (with_reducible refine (spec_l1In.calls a0_1 1 3 false _ A4.1).mono ?_); rintro e w' ⟨rfl, ⟨nd, rfl⟩⟩))
   go_ret
   exact ⟨RF, BL HB.1⟩
 obtain rfl := Option.some.inj H
 go_enter Try.func59, Try.ntmps59
 go_wp2_with (first | ((with_reducible refine gate_dst (N := 1) rfl ?_); refine boxE (cs := #[.int .i64 a0_0, .int .i64 a0_1, .int .i64 a0_2, .int .i64 a0_3]) (t := 66) ?_; intro dI hg qW hbox hb; refine E4b HB.1 hg hbox hb ?_; clear HB; intro HB aV dJ dK; clear hb hbox hg; obtain ⟨iM, iN, iO, iP, iQ, iR, iT, iU⟩ := cz4 aV.1) | ((with_reducible refine gate_callee (f := 46) rfl ?_); refine goesM (N := (some 5)) #[.int .i64 a0_0, .int .i64 0, .int .i64 1] Try.func46 ?_; (with_reducible refine (spec_l1In.calls a0_0 0 1 false _ A2.1).mono ?_); rintro e w' ⟨rfl, ⟨nd, rfl⟩⟩; refine ⟨_, rfl, ?_⟩))
 go_ret
 exact ⟨RF, BL HB.1⟩

/-! ### spec_loGood: function 38 -/
open Kd
def spec_loGood.l0 : Nat -> List (S66) -> List (S66) -> Int -> Int -> Option (Bool)
 | 0, _, _, _, _ => none
 | k + 1, x0, x5, x6, x7 => if x7 < x6 then (if 0 <= x7 then (if x7 < (x5.length : Int) then ((spec_loEntry.f ((rd_T66 x5 x7).f0) ((rd_T66 x5 x7).f1.f0) ((rd_T66 x5 x7).f1.f1) ((rd_T66 x5 x7).f1.f2)).bind fun gB => (if gB = true then (spec_loGood.l0 k x0 x5 x6 (wrap64 (x7 + 1))) else (some false))) else (none)) else (none)) else (some (decide ((x0.length : Int) <= 60)))
def spec_loGood.f (k : Nat) (l0 : List (S66)) : Option (Bool) := spec_loGood.l0 k l0 l0 (l0.length : Int) 0
theorem spec_loGood.mono_l : ∀ k, (∀ y0 y1 y2 y3, LeO (spec_loGood.l0 k y0 y1 y2 y3) (spec_loGood.l0 (k + 1) y0 y1 y2 y3))
 | 0 => fun _ _ _ _ r h => by simp [spec_loGood.l0] at h
 | k + 1 => by
  have bg := spec_loGood.mono_l k
  intros
  first | unfold spec_loGood.l0
  exact LM1 bg
theorem spec_loGood.mono : ∀ a0 k, LeO (spec_loGood.f k a0) (spec_loGood.f (k + 1) a0) := by
 intro a0 k
 have bg := spec_loGood.mono_l k
 unfold spec_loGood.f
 exact LM1 bg
theorem spec_loGood.calls (k : Nat) (A0 : Option Addr) (c0 : Nat) (l0 : List (S66)) (r : Bool) (w : World) (hr0 : Kd.C k66 w A0 l0.length l0) (hc0 : l0.length <= c0) (h : spec_loGood.f k l0 = some r) :
 Calls Try.prog 38 #[.slice A0 l0.length c0] w fun e w' => e = .returned (.bool r) /\ Below w.heap.size w w' := by
 have df := Try.underlying66
 have aX := Aside0.mk hr0
 have gq := Aside0.mk hc0
 clear hr0 hc0
 have HB := Aside0.mk (Below.refl w.heap.size w)
 have H := h
 clear h
 unfold spec_loGood.f at H
 have H' := Aside0.mk H
 clear H
 go_enter Try.func38, Try.ntmps38
 go_wp2
 go_loopg [7] k (fun kq v7 w' => ∃ (aB : Int), v7 = .int .i64 aB /\ Aside0 (spec_loGood.l0 kq l0 l0 (l0.length : Int) aB = some r) /\ Aside0 (kq <= k) /\ Aside0 (Below w.heap.size w w'))
 case atStart => exact ⟨(0), RG, H', ⟨Nat.le_refl _⟩, ⟨BL HB.1⟩⟩
 clear H'
 obtain ⟨aB, rfl, HA, cO, HB⟩ := hrel
 cases gk with
 | zero => exact absurd HA.1 (by simp [spec_loGood.l0])
 | succ k1 => ?_
 have H := HA.1
 clear HA
 simp only [spec_loGood.l0] at H
 replace H := ifB H; rcases H with ⟨c2b0, H⟩ | ⟨c2b0, H⟩
 · replace H := ifN H; obtain ⟨c3b0, H⟩ := H
   replace H := ifN H; obtain ⟨c4b0, H⟩ := H
   replace H := bindA H; obtain ⟨gB, A5, H⟩ := H
   replace H := ifX H; rcases H with ⟨rfl, H⟩ | ⟨rfl, H⟩
   · have H' := Aside0.mk H
     clear H
     have bD : 0 <= (aB : Int) := OD
     have bE : aB < (l0.length : Int) := OD
     obtain ⟨gD, fF, aF, aG, aH, aI⟩ := at_T66 aX.1 aB bD bE
     cases fF
     replace aF := (HB.1.cell (World.block_lt_of_cell? w _ aF)).trans aF
     replace aG := (HB.1.cell (World.block_lt_of_cell? w _ aG)).trans aG
     replace aH := (HB.1.cell (World.block_lt_of_cell? w _ aH)).trans aH
     replace aI := (HB.1.cell (World.block_lt_of_cell? w _ aI)).trans aI
     replace bD := eq_true bD
     replace bE := eq_true bE
     go_wp2_with (first | ((with_reducible refine gate_dst (N := 4) rfl ?_); refine boxE (cs := #[.int .i64 0, .int .i64 0, .int .i64 0, .int .i64 0]) (t := 66) ?_; intro dL hg w7 hbox hb; refine E4b HB.1 hg hbox hb ?_; clear HB; intro HB aN gF gG; clear hb hbox hg; obtain ⟨dM, dN, dO, dP, dQ, dR, dS, dU⟩ := cz4 aN.1) | ((with_reducible refine gate_callee (f := 59) rfl ?_); refine goesM (N := (some 12)) #[.agg #[.int .i64 ((rd_T66 l0 aB).f0), .int .i64 ((rd_T66 l0 aB).f1.f0), .int .i64 ((rd_T66 l0 aB).f1.f1), .int .i64 ((rd_T66 l0 aB).f1.f2)]] Try.func59 ?_; (with_reducible refine (spec_loEntry.calls ((rd_T66 l0 aB).f0) ((rd_T66 l0 aB).f1.f0) ((rd_T66 l0 aB).f1.f1) ((rd_T66 l0 aB).f1.f2) true _ A5.1).mono ?_); rintro e w9 ⟨rfl, hb⟩; refine ⟨_, rfl, ?_⟩; refine E2 (blk_below (g := dL) (o := .cells #[.int .i64 ((rd_T66 l0 aB).f0), .int .i64 ((rd_T66 l0 aB).f1.f0), .int .i64 ((rd_T66 l0 aB).f1.f1), .int .i64 ((rd_T66 l0 aB).f1.f2)] 66 (0, 0)) (PF0 aN.1) hb) (bS HB.1 hb) ?_; clear aN HB; intro aN HB; (try clear hb)))
     go_roundg k1
     case measure => have := cO.1; omega
     case rel => exact ⟨(wrap64 (aB + 1)), RG, H', ⟨by have := cO.1; omega⟩, ⟨BL HB.1⟩⟩
   obtain rfl := Option.some.inj H
   have bD : 0 <= (aB : Int) := OD
   have bE : aB < (l0.length : Int) := OD
   obtain ⟨gD, fF, aF, aG, aH, aI⟩ := at_T66 aX.1 aB bD bE
   cases fF
   replace aF := (HB.1.cell (World.block_lt_of_cell? w _ aF)).trans aF
   replace aG := (HB.1.cell (World.block_lt_of_cell? w _ aG)).trans aG
   replace aH := (HB.1.cell (World.block_lt_of_cell? w _ aH)).trans aH
   replace aI := (HB.1.cell (World.block_lt_of_cell? w _ aI)).trans aI
   replace bD := eq_true bD
   replace bE := eq_true bE
   go_wp2_with (first | ((with_reducible refine gate_dst (N := 4) rfl ?_); refine boxE (cs := #[.int .i64 0, .int .i64 0, .int .i64 0, .int .i64 0]) (t := 66) ?_; intro dL hg qX hbox hb; refine E4b HB.1 hg hbox hb ?_; clear HB; intro HB aN gF gG; clear hb hbox hg; obtain ⟨dY, dZ, d9, iV, ed, ek, eu, iW⟩ := cz4 aN.1) | ((with_reducible refine gate_callee (f := 59) rfl ?_); refine goesM (N := (some 12)) #[.agg #[.int .i64 ((rd_T66 l0 aB).f0), .int .i64 ((rd_T66 l0 aB).f1.f0), .int .i64 ((rd_T66 l0 aB).f1.f1), .int .i64 ((rd_T66 l0 aB).f1.f2)]] Try.func59 ?_; (with_reducible refine (spec_loEntry.calls ((rd_T66 l0 aB).f0) ((rd_T66 l0 aB).f1.f0) ((rd_T66 l0 aB).f1.f1) ((rd_T66 l0 aB).f1.f2) false _ A5.1).mono ?_); rintro e qY ⟨rfl, hb⟩; refine ⟨_, rfl, ?_⟩; refine E2 (blk_below (g := dL) (o := .cells #[.int .i64 ((rd_T66 l0 aB).f0), .int .i64 ((rd_T66 l0 aB).f1.f0), .int .i64 ((rd_T66 l0 aB).f1.f1), .int .i64 ((rd_T66 l0 aB).f1.f2)] 66 (0, 0)) (PF0 aN.1) hb) (bS HB.1 hb) ?_; clear aN HB; intro aN HB; (try clear hb)))
   go_ret
   exact ⟨RF, BL HB.1⟩
 obtain rfl := Option.some.inj H
 go_wp2
 go_ret
 exact ⟨RF, BL HB.1⟩
/-! ### spec_loAgree: function 39 -/
open Kd
def spec_loAgree.l0 : Nat -> List (S66) -> List (S66) -> Int -> Option (Int)
 | 0, _, _, _ => none
 | k + 1, x0, x1, x5 => if x5 < (x0.length : Int) then (if x5 < (x1.length : Int) then (if 0 <= x5 then (if (((rd_T66 x0 x5).f0) == ((rd_T66 x1 x5).f0) && ((((rd_T66 x0 x5).f1.f0) == ((rd_T66 x1 x5).f1.f0) && (((rd_T66 x0 x5).f1.f1) == ((rd_T66 x1 x5).f1.f1) && (((rd_T66 x0 x5).f1.f2) == ((rd_T66 x1 x5).f1.f2)))))) = true then (spec_loAgree.l0 k x0 x1 (wrap64 (x5 + 1))) else (some x5)) else (none)) else (some x5)) else (some x5)
def spec_loAgree.f (k : Nat) (l0 : List (S66)) (l1 : List (S66)) : Option (Int) := spec_loAgree.l0 k l0 l1 0
theorem spec_loAgree.mono_l : ∀ k, (∀ y0 y1 y2, LeO (spec_loAgree.l0 k y0 y1 y2) (spec_loAgree.l0 (k + 1) y0 y1 y2))
 | 0 => fun _ _ _ r h => by simp [spec_loAgree.l0] at h
 | k + 1 => by
  have bg := spec_loAgree.mono_l k
  intros
  first | unfold spec_loAgree.l0
  exact LM1 bg
theorem spec_loAgree.mono : ∀ a0 a1 k, LeO (spec_loAgree.f k a0 a1) (spec_loAgree.f (k + 1) a0 a1) := by
 intro a0 a1 k
 have bg := spec_loAgree.mono_l k
 unfold spec_loAgree.f
 exact LM1 bg
theorem spec_loAgree.calls (k : Nat) (A0 : Option Addr) (c0 : Nat) (l0 : List (S66)) (A1 : Option Addr) (c1 : Nat) (l1 : List (S66)) (r : Int) (w : World) (hr0 : Kd.C k66 w A0 l0.length l0) (hc0 : l0.length <= c0) (hr1 : Kd.C k66 w A1 l1.length l1) (hc1 : l1.length <= c1) (h : spec_loAgree.f k l0 l1 = some r) :
 Calls Try.prog 39 #[.slice A0 l0.length c0, .slice A1 l1.length c1] w fun e w' => e = .returned (.int .i64 r) /\ Drawn0 w w' := by
 have df := Try.underlying66
 have aX := Aside0.mk hr0
 have gq := Aside0.mk hc0
 clear hr0 hc0
 have HR1 := Aside0.mk hr1
 have qH := Aside0.mk hc1
 clear hr1 hc1
 have H := h
 clear h
 unfold spec_loAgree.f at H
 have H' := Aside0.mk H
 clear H
 go_enter Try.func39, Try.ntmps39
 go_wp2
 repeat (go_quiet (fail); try go_wp2)
 go_loopg [5] k (fun kq v5 w' => ∃ (ae : Int), v5 = .int .i64 ae /\ Aside0 (spec_loAgree.l0 kq l0 l1 ae = some r) /\ Aside0 (kq <= k) /\ Drawn0 w w')
 case atStart => exact ⟨(0), RG, H', ⟨Nat.le_refl _⟩, DR⟩
 clear H'
 try clear c1
 obtain ⟨ae, rfl, HA, cO, ⟨m1, rfl⟩⟩ := hrel
 cases gk with
 | zero => exact absurd HA.1 (by simp [spec_loAgree.l0])
 | succ k1 => ?_
 have H := HA.1
 clear HA
 simp only [spec_loAgree.l0] at H
 replace H := ifB H; rcases H with ⟨c3b0, H⟩ | ⟨c3b0, H⟩
 · replace H := ifB H; rcases H with ⟨c4b0, H⟩ | ⟨c4b0, H⟩
   · replace H := ifN H; obtain ⟨c5b0, H⟩ := H
     replace H := ifQ H; rcases H with ⟨c6, H⟩ | ⟨c6, H⟩
     · have c6b0 : (((rd_T66 l0 ae).f0) == ((rd_T66 l1 ae).f0) && ((((rd_T66 l0 ae).f1.f0) == ((rd_T66 l1 ae).f1.f0) && (((rd_T66 l0 ae).f1.f1) == ((rd_T66 l1 ae).f1.f1) && (((rd_T66 l0 ae).f1.f2) == ((rd_T66 l1 ae).f1.f2)))))) = true := c6
       (try (have c6b1 : decide (((rd_T66 l0 ae).f0) = ((rd_T66 l1 ae).f0) && ((((rd_T66 l0 ae).f1.f0) == ((rd_T66 l1 ae).f1.f0) && (((rd_T66 l0 ae).f1.f1) == ((rd_T66 l1 ae).f1.f1) && (((rd_T66 l0 ae).f1.f2) == ((rd_T66 l1 ae).f1.f2)))))) = true := by simpa using c6))
       (try (have c6b2 : (((rd_T66 l0 ae).f0) == ((rd_T66 l1 ae).f0) && ((((rd_T66 l0 ae).f1.f0) == ((rd_T66 l1 ae).f1.f0) && (((rd_T66 l0 ae).f1.f1) == ((rd_T66 l1 ae).f1.f1) && (((rd_T66 l0 ae).f1.f2) == ((rd_T66 l1 ae).f1.f2)))))) = true := by simpa using c6))
       clear c6
       have H' := Aside0.mk H
       clear H
       have bF : 0 <= (ae : Int) := OD
       have bH : ae < (l0.length : Int) := OD
       obtain ⟨gH, fG, eB, eD, eF, eG⟩ := at_T66 aX.1 ae bF bH
       cases fG
       replace bF := eq_true bF
       replace bH := eq_true bH
       have bI : 0 <= (ae : Int) := OD
       have bJ : ae < (l1.length : Int) := OD
       obtain ⟨gI, fH, eH, eO, eP, eQ⟩ := at_T66 HR1.1 ae bI bJ
       cases fH
       replace bI := eq_true bI
       replace bJ := eq_true bJ
       go_wp2
       repeat (go_quiet (fail); try go_wp2)
       go_roundg k1
       case measure => have := cO.1; omega
       case rel => exact ⟨(wrap64 (ae + 1)), RG, H', ⟨by have := cO.1; omega⟩, DR⟩
     have c6b0 : (((rd_T66 l0 ae).f0) == ((rd_T66 l1 ae).f0) && ((((rd_T66 l0 ae).f1.f0) == ((rd_T66 l1 ae).f1.f0) && (((rd_T66 l0 ae).f1.f1) == ((rd_T66 l1 ae).f1.f1) && (((rd_T66 l0 ae).f1.f2) == ((rd_T66 l1 ae).f1.f2)))))) = false := by simpa using c6
     (try (have c6b1 : decide (((rd_T66 l0 ae).f0) = ((rd_T66 l1 ae).f0) && ((((rd_T66 l0 ae).f1.f0) == ((rd_T66 l1 ae).f1.f0) && (((rd_T66 l0 ae).f1.f1) == ((rd_T66 l1 ae).f1.f1) && (((rd_T66 l0 ae).f1.f2) == ((rd_T66 l1 ae).f1.f2)))))) = false := by simpa using c6))
     (try (have c6b2 : (((rd_T66 l0 ae).f0) == ((rd_T66 l1 ae).f0) && ((((rd_T66 l0 ae).f1.f0) == ((rd_T66 l1 ae).f1.f0) && (((rd_T66 l0 ae).f1.f1) == ((rd_T66 l1 ae).f1.f1) && (((rd_T66 l0 ae).f1.f2) == ((rd_T66 l1 ae).f1.f2)))))) = false := by simpa using c6))
     (try (have c6b3 : ¬ (((rd_T66 l0 ae).f0) = ((rd_T66 l1 ae).f0) && ((((rd_T66 l0 ae).f1.f0) == ((rd_T66 l1 ae).f1.f0) && (((rd_T66 l0 ae).f1.f1) == ((rd_T66 l1 ae).f1.f1) && (((rd_T66 l0 ae).f1.f2) == ((rd_T66 l1 ae).f1.f2)))))) := by simpa using c6))
     clear c6
     obtain rfl := Option.some.inj H
     have bF : 0 <= (ae : Int) := OD
     have bH : ae < (l0.length : Int) := OD
     obtain ⟨gH, fG, eB, eD, eF, eG⟩ := at_T66 aX.1 ae bF bH
     cases fG
     replace bF := eq_true bF
     replace bH := eq_true bH
     have bI : 0 <= (ae : Int) := OD
     have bJ : ae < (l1.length : Int) := OD
     obtain ⟨gI, fH, eH, eO, eP, eQ⟩ := at_T66 HR1.1 ae bI bJ
     cases fH
     replace bI := eq_true bI
     replace bJ := eq_true bJ
     go_wp2
     repeat (go_quiet (fail); try go_wp2)
     go_ret
     exact ⟨RG, DR⟩
   obtain rfl := Option.some.inj H
   go_wp2
   repeat (go_quiet (fail); try go_wp2)
   go_ret
   exact ⟨RG, DR⟩
 obtain rfl := Option.some.inj H
 go_wp2
 repeat (go_quiet (fail); try go_wp2)
 go_ret
 exact ⟨RG, DR⟩
/-! ### laws_toFall: function 60 -/
open Kd
def laws_toFall.f (a0_0 : Int) (a0_1 : Int) (a0_2 : Int) : Option (Int × Int × Int) := some (a0_0, a0_1, a0_2)
theorem laws_toFall.calls (a0_0 : Int) (a0_1 : Int) (a0_2 : Int) (r1 : Int) (r2 : Int) (r3 : Int) (w : World) (h : laws_toFall.f a0_0 a0_1 a0_2 = some (r1, r2, r3)) :
 Calls Try.prog 60 #[.agg #[.int .i64 a0_0, .int .i64 a0_1, .int .i64 a0_2]] w fun e w' => e = .returned (.agg #[.int .i64 r1, .int .i64 r2, .int .i64 r3]) /\ Below w.heap.size w w' := by
 have oG := Try.underlying75
 have gJ := Try.underlying61
 have HB := Aside0.mk (Below.refl w.heap.size w)
 have H := h
 clear h
 unfold laws_toFall.f at H
 simp only [Option.some.injEq, Prod.mk.injEq] at H
 obtain ⟨rfl, rfl, rfl⟩ := H
 go_enter Try.func60, Try.ntmps60
 go_wp2_with (first | ((with_reducible refine gate_dst (N := 1) rfl ?_); refine boxE (cs := #[.int .i64 a0_0, .int .i64 a0_1, .int .i64 a0_2]) (t := 75) ?_; intro pM hg w2 hbox hb; refine E4b HB.1 hg hbox hb ?_; clear HB; intro HB aJ pO pQ; clear hb hbox hg) | ((with_reducible refine gate_dst (N := 2) rfl ?_); refine boxE (cs := #[.int .i64 0, .int .i64 0, .int .i64 0]) (t := 61) ?_; intro gK hg w3 hbox hb; refine E7 (bB aJ.1 hb) (bS HB.1 hb) (hbox) (gX HB.1 hg) (gX HB.1 hg) (nB aJ.1 hg) (nC aJ.1 hg) ?_; clear aJ HB; intro aJ HB aW pR pU di dm; clear hb hbox hg) | ((with_reducible refine gate_dst (N := 3) rfl ?_); refine boxE (cs := #[.int .i64 0, .int .i64 0, .int .i64 0]) (t := 61) ?_; intro pV hg w4 hbox hb; refine E10 (bB aJ.1 hb) (bB aW.1 hb) (bS HB.1 hb) (hbox) (gX HB.1 hg) (gX HB.1 hg) (nB aJ.1 hg) (nC aJ.1 hg) (nB aW.1 hg) (nC aW.1 hg) ?_; clear aJ aW HB; intro aJ aW HB gL pW pX dn dw aY dx; clear hb hbox hg; have qI := di.1; have qJ := dm.1; have oH := dn.1; have oI := dw.1; obtain ⟨oJ, oK, oL, oM, oN, oO⟩ := cz3 aJ.1; have qK := dx.1; have qL := aY.1; obtain ⟨oP, oQ, oU, oV, oW, oZ⟩ := cz3 gL.1; obtain ⟨bO, bP, bQ, bR, bT, bU⟩ := cz3 aW.1))
 refine bodyPost_ret (results_cell_row rfl _ _ gK 61 #[.int .i64 a0_0, .int .i64 a0_1, .int .i64 a0_2] (0, 0) _ rfl (PF1 aY.1 aW.1) Try.underlying61 rfl (by kernel_rfl)) rfl ?_
 exact ⟨RF, BL HB.1⟩

/-! ### laws_toLogEntry: function 40 -/
open Kd
def laws_toLogEntry.f (a0_0 : Int) (a0_1 : Int) (a0_2 : Int) (a0_3 : Int) : Option (Int × Int × Int × Int) := (laws_toFall.f a0_1 a0_2 a0_3).bind fun dV => (some (a0_0, dV.1, dV.2.1, dV.2.2))
theorem laws_toLogEntry.calls (a0_0 : Int) (a0_1 : Int) (a0_2 : Int) (a0_3 : Int) (r1 : Int) (r2 : Int) (r3 : Int) (r4 : Int) (w : World) (h : laws_toLogEntry.f a0_0 a0_1 a0_2 a0_3 = some (r1, r2, r3, r4)) :
 Calls Try.prog 40 #[.agg #[.int .i64 a0_0, .int .i64 a0_1, .int .i64 a0_2, .int .i64 a0_3]] w fun e w' => e = .returned (.agg #[.int .i64 r1, .int .i64 r2, .int .i64 r3, .int .i64 r4]) /\ Below w.heap.size w w' := by
 have o5 := Try.underlying77
 have df := Try.underlying66
 have oG := Try.underlying75
 have gJ := Try.underlying61
 have HB := Aside0.mk (Below.refl w.heap.size w)
 have H := h
 clear h
 unfold laws_toLogEntry.f at H
 replace H := bindA H; obtain ⟨⟨gM, gN, gP⟩, A2, H⟩ := H
 dsimp only at H
 simp only [Option.some.injEq, Prod.mk.injEq] at H
 obtain ⟨rfl, rfl, rfl, rfl⟩ := H
 go_enter Try.func40, Try.ntmps40
 go_wp2_with (first | ((with_reducible refine gate_dst (N := 1) rfl ?_); refine boxE (cs := #[.int .i64 a0_0, .int .i64 a0_1, .int .i64 a0_2, .int .i64 a0_3]) (t := 77) ?_; intro gQ hg w3 hbox hb; refine E4b HB.1 hg hbox hb ?_; clear HB; intro HB aD pY p8; clear hb hbox hg) | ((with_reducible refine gate_dst (N := 2) rfl ?_); refine boxE (cs := #[.int .i64 0, .int .i64 0, .int .i64 0, .int .i64 0]) (t := 66) ?_; intro fw hg w4 hbox hb; refine E7 (bB aD.1 hb) (bS HB.1 hb) (hbox) (gX HB.1 hg) (gX HB.1 hg) (nB aD.1 hg) (nC aD.1 hg) ?_; clear aD HB; intro aD HB aL p9 qa dz dA; clear hb hbox hg) | ((with_reducible refine gate_dst (N := 3) rfl ?_); refine boxE (cs := #[.int .i64 0, .int .i64 0, .int .i64 0, .int .i64 0]) (t := 66) ?_; intro gT hg w5 hbox hb; refine E10 (bB aD.1 hb) (bB aL.1 hb) (bS HB.1 hb) (hbox) (gX HB.1 hg) (gX HB.1 hg) (nB aD.1 hg) (nC aD.1 hg) (nB aL.1 hg) (nC aL.1 hg) ?_; clear aD aL HB; intro aD aL HB bv qb qc aZ dB aP dC; clear hb hbox hg; have oH := dz.1; have oI := dA.1; have qM := aZ.1; have qN := dB.1; obtain ⟨dM, dN, dO, dP, dQ, dR, dS, dU⟩ := cz4 aD.1; have qO := dC.1; have qP := aP.1; obtain ⟨bO, bP, bQ, dW, bR, bT, bU, dX⟩ := cz4 bv.1) | ((with_reducible refine gate_callee (f := 60) rfl ?_); refine goesM (N := (some 9)) #[.agg #[.int .i64 a0_1, .int .i64 a0_2, .int .i64 a0_3]] Try.func60 ?_; (with_reducible refine (laws_toFall.calls a0_1 a0_2 a0_3 gM gN gP _ A2.1).mono ?_); rintro e dh ⟨rfl, hb⟩; refine ⟨_, rfl, ?_⟩; refine E4 (blk_below (g := gQ) (o := .cells #[.int .i64 a0_0, .int .i64 a0_1, .int .i64 a0_2, .int .i64 a0_3] 77 (0, 0)) (PF1 aZ.1 aD.1) hb) (blk_below (g := fw) (o := .cells #[.int .i64 0, .int .i64 0, .int .i64 0, .int .i64 0] 66 (0, 0)) (PF1 aP.1 aL.1) hb) (blk_below (g := gT) (o := .cells #[.int .i64 a0_0, .int .i64 0, .int .i64 0, .int .i64 0] 66 (0, 0)) (PF0 bv.1) hb) (bS HB.1 hb) ?_; clear aD aL bv HB; intro aD aL bv HB; (try clear hb); obtain ⟨bV, bW, bX, bY, cu, cz, cB, cK⟩ := cz4 bv.1; obtain ⟨iX, iY, iZ, ja, jb, jc, jd, je⟩ := cz4 aL.1))
 refine bodyPost_ret (results_cell_row rfl _ _ fw 66 #[.int .i64 a0_0, .int .i64 gM, .int .i64 gN, .int .i64 gP] (0, 0) _ rfl (PF1 aP.1 aL.1) Try.underlying66 rfl (by kernel_rfl)) rfl ?_
 exact ⟨RF, BL HB.1⟩

/-! ### laws_toLogEntryS: function 23 -/
open Kd
def laws_toLogEntryS.l0 : Nat -> List (S77) -> List (S66) -> Int -> Option ((List (S66)))
 | 0, _, _, _ => none
 | k + 1, x0, x3, x4 => if x4 < (x0.length : Int) then (if 0 <= x4 then ((laws_toLogEntry.f ((rd_T77 x0 x4).f0) ((rd_T77 x0 x4).f1.f0) ((rd_T77 x0 x4).f1.f1) ((rd_T77 x0 x4).f1.f2)).bind fun cZ => (if x4 < (x3.length : Int) then (laws_toLogEntryS.l0 k x0 (x3.set (x4 : Int).toNat (⟨cZ.1, (⟨cZ.2.1, cZ.2.2.1, cZ.2.2.2⟩ : S61)⟩ : S66)) (wrap64 (x4 + 1))) else (none))) else (none)) else (some x3)
def laws_toLogEntryS.f (k : Nat) (l0 : List (S77)) : Option ((List (S66))) := if 0 <= (l0.length : Int) then (if ((l0.length : Int) : Int).toNat <= 8796093022208 then (laws_toLogEntryS.l0 k l0 (List.replicate ((l0.length : Int) : Int).toNat z66) 0) else (none)) else (none)
theorem laws_toLogEntryS.mono_l : ∀ k, (∀ y0 y1 y2, LeO (laws_toLogEntryS.l0 k y0 y1 y2) (laws_toLogEntryS.l0 (k + 1) y0 y1 y2))
 | 0 => fun _ _ _ r h => by simp [laws_toLogEntryS.l0] at h
 | k + 1 => by
  have bg := laws_toLogEntryS.mono_l k
  intros
  first | unfold laws_toLogEntryS.l0
  exact LM1 bg
theorem laws_toLogEntryS.mono : ∀ a0 k, LeO (laws_toLogEntryS.f k a0) (laws_toLogEntryS.f (k + 1) a0) := by
 intro a0 k
 have bg := laws_toLogEntryS.mono_l k
 unfold laws_toLogEntryS.f
 exact LM1 bg
theorem laws_toLogEntryS.calls (k : Nat) (A0 : Option Addr) (c0 : Nat) (l0 : List (S77)) (r : List (S66)) (w : World) (hr0 : Kd.C k77 w A0 l0.length l0) (hc0 : l0.length <= c0) (h : laws_toLogEntryS.f k l0 = some r) :
 Calls Try.prog 23 #[.slice A0 l0.length c0] w fun e w' => ∃ qd : Value, e = .returned (qd) /\ Kd.R k66 66 w' w.heap.size (fun _ => True) qd r /\ Below w.heap.size w w' := by
 have o5 := Try.underlying77
 have df := Try.underlying66
 have aX := Aside0.mk hr0
 have gq := Aside0.mk hc0
 clear hr0 hc0
 have HB := Aside0.mk (Below.refl w.heap.size w)
 have H := h
 clear h
 unfold laws_toLogEntryS.f at H
 replace H := ifP H; obtain ⟨c2, H⟩ := H
 have c2b0 := eq_true c2
 have c2b1 := decide_eq_true c2
 clear c2
 replace H := ifP H; obtain ⟨c3, H⟩ := H
 have c3b0 := eq_true c3
 have c3b1 := decide_eq_true c3
 clear c3
 generalize fA : ((List.replicate ((l0.length : Int) : Int).toNat z66) : List (S66)) = o6 at H
 have fB := Aside0.mk fA.symm; clear fA
 have H' := Aside0.mk H
 clear H
 go_enter Try.func23, Try.ntmps23
 go_wp2_with (first | ((with_reducible refine gate_dst (N := 7) rfl ?_); refine R_make k66 _ 66 rfl (N := 7) rfl 42 _ _ rfl (l0.length : Int) rfl rfl Try.underlying42 (.agg #[(.int .i64 0), (.int .i64 0), (.int .i64 0), (.int .i64 0)]) 32 info66 rfl (by decide) (by omega) z66 (ok := fun _ => True) (okp := fun _ => True) (k66_mkM _ _ _ z66 ) (fun _ hk => hk) trivial (OD) (Nat.le_trans (Nat.mul_le_mul_right _ (OD : (l0.length : Int).toNat <= 8796093022208)) (by omega)) (Below.refl _ _) (Nat.le_refl _) ?_; intro o7 w4 gU hb hg_ hnew_; clear hg_ hnew_; (first | rw [<- fB.1] at gU | (simp only [Int.reduceToNat] at gU; rw [<- fB.1] at gU)); refine E2 (R_lower gU (bZ HB.1)) (bS HB.1 hb) ?_; clear HB; intro gV HB; clear hb gU))
 go_loopg [4] k (fun kq v4 w' => ∃ (aO : List (S66)) (ay : Int), v4 = .int .i64 ay /\ Aside0 (laws_toLogEntryS.l0 kq l0 aO ay = some r) /\ Aside0 (kq <= k) /\ Aside0 (Kd.R k66 66 w' w.heap.size (fun _ => True) o7 aO) /\ Aside0 (Below w.heap.size w w'))
 case atStart => exact ⟨(o6), (0), RG, H', ⟨Nat.le_refl _⟩, ⟨PR gV.1⟩, ⟨BL HB.1⟩⟩
 clear H'
 clear c2b0 c2b1 c3b0 c3b1
 obtain ⟨aO, ay, rfl, HA, cO, HO_3, HB⟩ := hrel
 cases gk with
 | zero => exact absurd HA.1 (by simp [laws_toLogEntryS.l0])
 | succ k1 => ?_
 have H := HA.1
 clear HA
 simp only [laws_toLogEntryS.l0] at H
 replace H := ifB H; rcases H with ⟨c6b0, H⟩ | ⟨c6b0, H⟩
 · replace H := ifN H; obtain ⟨c7b0, H⟩ := H
   replace H := bindA H; obtain ⟨⟨dD, dE, dF, dG⟩, A8, H⟩ := H
   dsimp only at H
   replace H := ifN H; obtain ⟨c9b0, H⟩ := H
   generalize fC : ((aO.set (ay : Int).toNat (⟨dD, (⟨dE, dF, dG⟩ : S61)⟩ : S66)) : List (S66)) = gW at H
   have gY := Aside0.mk fC.symm; clear fC
   have H' := Aside0.mk H
   clear H
   have fI : 0 <= (ay : Int) := OD
   have fJ : ay < (l0.length : Int) := OD
   obtain ⟨qf, o8, bi, bn, bq, bu⟩ := at_T77 aX.1 ay fI fJ
   cases o8
   replace bi := (HB.1.cell (World.block_lt_of_cell? w _ bi)).trans bi
   replace bn := (HB.1.cell (World.block_lt_of_cell? w _ bn)).trans bn
   replace bq := (HB.1.cell (World.block_lt_of_cell? w _ bq)).trans bq
   replace bu := (HB.1.cell (World.block_lt_of_cell? w _ bu)).trans bu
   replace fI := eq_true fI
   replace fJ := eq_true fJ
   go_wp2_with (first | ((with_reducible refine gate_callee (f := 40) rfl ?_); refine goesM (N := (some 20)) #[.agg #[.int .i64 ((rd_T77 l0 ay).f0), .int .i64 ((rd_T77 l0 ay).f1.f0), .int .i64 ((rd_T77 l0 ay).f1.f1), .int .i64 ((rd_T77 l0 ay).f1.f2)]] Try.func40 ?_; (with_reducible refine (laws_toLogEntry.calls ((rd_T77 l0 ay).f0) ((rd_T77 l0 ay).f1.f0) ((rd_T77 l0 ay).f1.f1) ((rd_T77 l0 ay).f1.f2) dD dE dF dG _ A8.1).mono ?_); rintro e dh ⟨rfl, hb⟩; refine ⟨_, rfl, ?_⟩; refine E2 (rB HO_3.1 hb) (bS HB.1 hb) ?_; clear HO_3 HB; intro HO_3 HB; (try clear hb); have o9 : 0 <= (ay : Int) := OD; have pg : (ay : Int) < ((aO.length : Int) : Int) := OD; obtain ⟨aM, gZ, ib, ic, pm, qQ, ig⟩ := R_form HO_3.1 (by omega); (first | cases ib | (injection ib with ea_ en_ ec_; (first | subst ea_ | (injection ea_ with ea_; subst ea_)); subst ec_; clear en_)); have eT := Aside0.mk ic; have qR := Aside0.mk ig; clear ic pm ig; obtain ⟨qU, ik, il, bz, bA⟩ := R_elem HO_3.1 z66 (ay : Int) o9 pg; obtain rfl := k66_openM il; have pq : dh.cell? ⟨aM, (ay : Int).toNat * 4, none⟩ = some (.int .i64 ((rd_T66 aO ay).f0)) := bz 0 _ rfl; have pu : dh.cell? ⟨aM, (ay : Int).toNat * 4 + 1, none⟩ = some (.int .i64 ((rd_T66 aO ay).f1.f0)) := bz 1 _ rfl; have pz : dh.cell? ⟨aM, (ay : Int).toNat * 4 + 2, none⟩ = some (.int .i64 ((rd_T66 aO ay).f1.f1)) := bz 2 _ rfl; have pE : dh.cell? ⟨aM, (ay : Int).toNat * 4 + 3, none⟩ = some (.int .i64 ((rd_T66 aO ay).f1.f2)) := bz 3 _ rfl; have pF : dh.frozen? ⟨aM, (ay : Int).toNat * 4, none⟩ = false := bA 0; have pG : dh.frozen? ⟨aM, (ay : Int).toNat * 4 + 1, none⟩ = false := bA 1; have pI : dh.frozen? ⟨aM, (ay : Int).toNat * 4 + 2, none⟩ = false := bA 2; have pJ : dh.frozen? ⟨aM, (ay : Int).toNat * 4 + 3, none⟩ = false := bA 3; (try clear il); clear ik bz bA; replace o9 := eq_true o9; replace pg := eq_true pg; have iq := Aside0.mk (show Kd.R k66 66 dh w.heap.size (fun _ => True) (.slice (some ⟨aM, 0, none⟩) aO.length gZ) aO from (PR HO_3.1)); obtain ⟨qV, fD, pK, bf, bC⟩ := R_elem iq.1 z66 (ay : Int) (OD) (by have h_ : (ay : Int) < ((aO.length : Int) : Int) := OD; first | exact h_ | (have e_ := (R_reads' HO_3.1).1; omega) | simpa using h_); obtain rfl := k66_openM pK; have fK := R_seg iq.1 (ay : Int) (OD) (by have h_ : (ay : Int) < ((aO.length : Int) : Int) := OD; first | exact h_ | (have e_ := (R_reads' HO_3.1).1; omega) | simpa using h_) (seg := [.int .i64 dD, .int .i64 dE, .int .i64 dF, .int .i64 dG]) (j := 0) fD bf (show 4 <= 4 from by decide) (x' := (⟨dD, (⟨dE, dF, dG⟩ : S61)⟩ : S66)) (k66_mkM _ _ _ (⟨dD, (⟨dE, dF, dG⟩ : S61)⟩ : S66) ) (fun _ hk => hk); have fM := bf 0 _ rfl; (try simp only [show (k66).sz = 4 from rfl, Nat.mul_one, Nat.add_zero] at fM); have fO := bC 0; (try simp only [show (k66).sz = 4 from rfl, Nat.mul_one, Nat.add_zero] at fO); have fP := bf 1 _ rfl; (try simp only [show (k66).sz = 4 from rfl, Nat.mul_one, Nat.add_zero] at fP); have fQ := bC 1; (try simp only [show (k66).sz = 4 from rfl, Nat.mul_one, Nat.add_zero] at fQ); have fT := bf 2 _ rfl; (try simp only [show (k66).sz = 4 from rfl, Nat.mul_one, Nat.add_zero] at fT); have fU := bC 2; (try simp only [show (k66).sz = 4 from rfl, Nat.mul_one, Nat.add_zero] at fU); have fV := bf 3 _ rfl; (try simp only [show (k66).sz = 4 from rfl, Nat.mul_one, Nat.add_zero] at fV); have fZ := bC 3; (try simp only [show (k66).sz = 4 from rfl, Nat.mul_one, Nat.add_zero] at fZ); clear fD bf bC) | ((with_reducible refine gate_store (t := 66) (p := 21) rfl ?_); refine storeE (t := 66) (p := 21) (w1 := ((((dh.setCell ⟨aM, (ay : Int).toNat * 4, none⟩ (.int .i64 dD)).setCell ⟨aM, (ay : Int).toNat * 4 + 1, none⟩ (.int .i64 dE)).setCell ⟨aM, (ay : Int).toNat * 4 + 2, none⟩ (.int .i64 dF)).setCell ⟨aM, (ay : Int).toNat * 4 + 3, none⟩ (.int .i64 dG))) ?_; intro iD hw; have hg : dh.grownBy iD (some aM) := (by rw [hw]; exact fK.2); have hp_ : Kd.R k66 66 iD w.heap.size (fun _ => True) (.slice (some ⟨aM, 0, none⟩) aO.length gZ) gW := (by rw [hw, gY.1]; exact fK.1); clear fK; refine E2 (hp_) ((by rw [hw]; exact below_set (below_set (below_set (below_set (HB.1) eT.1) eT.1) eT.1) eT.1 : Below w.heap.size w iD)) ?_; clear HO_3 HB; intro HO_3 HB; clear hg hw hp_))
   go_roundg k1
   case measure => have := cO.1; omega
   case rel => exact ⟨(gW), (wrap64 (ay + 1)), RG, H', ⟨by have := cO.1; omega⟩, ⟨PR HO_3.1⟩, ⟨BL HB.1⟩⟩
 obtain rfl := Option.some.inj H
 go_wp2
 go_ret
 exact ⟨_, RF, RPE (HO_3.1), BL HB.1⟩
/-! ### impl_IsLog: function 41 -/
open Kd
def impl_IsLog.l0 : Nat -> List (S66) -> Int -> Int -> Option (Bool)
 | 0, _, _, _ => none
 | k + 1, x9, qg, dH => if dH < qg then (if 0 <= dH then (if dH < (x9.length : Int) then (if ((rd_T66 x9 dH).f0) < 0 then (some false) else (if ((rd_T66 x9 dH).f0) > 1 then (some false) else (if ((rd_T66 x9 dH).f1.f0) < 1 then (some false) else (if ((rd_T66 x9 dH).f1.f0) > 3 then (some false) else (if ((rd_T66 x9 dH).f1.f1) < 0 then (some false) else (if ((rd_T66 x9 dH).f1.f1) > 10 then (some false) else (if ((rd_T66 x9 dH).f1.f2) < (-1) then (some false) else (if ((rd_T66 x9 dH).f1.f2) > 9 then (some false) else (impl_IsLog.l0 k x9 qg (wrap64 (dH + 1))))))))))) else (none)) else (none)) else (some true)
def impl_IsLog.f (k : Nat) (l0 : List (S66)) : Option (Bool) := if (l0.length : Int) > 60 then (some false) else (impl_IsLog.l0 k l0 (l0.length : Int) 0)
theorem impl_IsLog.mono_l : ∀ k, (∀ y0 y1 y2, LeO (impl_IsLog.l0 k y0 y1 y2) (impl_IsLog.l0 (k + 1) y0 y1 y2))
 | 0 => fun _ _ _ r h => by simp [impl_IsLog.l0] at h
 | k + 1 => by
  have bg := impl_IsLog.mono_l k
  intros
  first | unfold impl_IsLog.l0
  exact LM1 bg
theorem impl_IsLog.mono : ∀ a0 k, LeO (impl_IsLog.f k a0) (impl_IsLog.f (k + 1) a0) := by
 intro a0 k
 have bg := impl_IsLog.mono_l k
 unfold impl_IsLog.f
 exact LM1 bg
theorem impl_IsLog.calls (k : Nat) (A0 : Option Addr) (c0 : Nat) (l0 : List (S66)) (r : Bool) (w : World) (hr0 : Kd.C k66 w A0 l0.length l0) (hc0 : l0.length <= c0) (h : impl_IsLog.f k l0 = some r) :
 Calls Try.prog 41 #[.slice A0 l0.length c0] w fun e w' => e = .returned (.bool r) /\ Below w.heap.size w w' := by
 have df := Try.underlying66
 have gJ := Try.underlying61
 have aX := Aside0.mk hr0
 have gq := Aside0.mk hc0
 clear hr0 hc0
 have HB := Aside0.mk (Below.refl w.heap.size w)
 have H := h
 clear h
 unfold impl_IsLog.f at H
 replace H := ifQ H; rcases H with ⟨c2, H⟩ | ⟨c2, H⟩
 · have c2b0 : decide (60 < (l0.length : Int)) = true := decide_eq_true c2
   have c2b1 : decide (60 < l0.length) = true := decide_eq_true (by omega)
   clear c2
   obtain rfl := Option.some.inj H
   go_enter Try.func41, Try.ntmps41
   go_wp2
   go_ret
   exact ⟨RF, BL HB.1⟩
 have c2b0 : decide (60 < (l0.length : Int)) = false := decide_eq_false c2
 have c2b1 : decide (60 < l0.length) = false := decide_eq_false (by omega)
 clear c2
 have H' := Aside0.mk H
 clear H
 go_enter Try.func41, Try.ntmps41
 go_wp2
 go_loopg [11] k (fun kq v11 w' => ∃ (aa : Int), v11 = .int .i64 aa /\ Aside0 (impl_IsLog.l0 kq l0 (l0.length : Int) aa = some r) /\ Aside0 (kq <= k) /\ Aside0 (Below w.heap.size w w'))
 case atStart => exact ⟨(0), RG, H', ⟨Nat.le_refl _⟩, ⟨BL HB.1⟩⟩
 clear H'
 clear c2b0 c2b1
 obtain ⟨aa, rfl, HA, cO, HB⟩ := hrel
 cases gk with
 | zero => exact absurd HA.1 (by simp [impl_IsLog.l0])
 | succ k1 => ?_
 have H := HA.1
 clear HA
 simp only [impl_IsLog.l0] at H
 replace H := ifB H; rcases H with ⟨c3b0, H⟩ | ⟨c3b0, H⟩
 · replace H := ifN H; obtain ⟨c4b0, H⟩ := H
   replace H := ifN H; obtain ⟨c5b0, H⟩ := H
   replace H := ifB H; rcases H with ⟨c6b0, H⟩ | ⟨c6b0, H⟩
   · obtain rfl := Option.some.inj H
     have az : 0 <= (aa : Int) := OD
     have aA : aa < (l0.length : Int) := OD
     obtain ⟨aQ, aK, ag, ah, ai, aj⟩ := at_T66 aX.1 aa az aA
     cases aK
     replace ag := (HB.1.cell (World.block_lt_of_cell? w _ ag)).trans ag
     replace ah := (HB.1.cell (World.block_lt_of_cell? w _ ah)).trans ah
     replace ai := (HB.1.cell (World.block_lt_of_cell? w _ ai)).trans ai
     replace aj := (HB.1.cell (World.block_lt_of_cell? w _ aj)).trans aj
     replace az := eq_true az
     replace aA := eq_true aA
     go_wp2_with (first | ((with_reducible refine gate_dst (N := 4) rfl ?_); refine boxE (cs := #[.int .i64 0, .int .i64 0, .int .i64 0, .int .i64 0]) (t := 66) ?_; intro ak hg w7 hbox hb; refine E4b HB.1 hg hbox hb ?_; clear HB; intro HB af aR aS; clear hb hbox hg; obtain ⟨dM, dN, dO, dP, dQ, dR, dS, dU⟩ := cz4 af.1) | ((with_reducible refine gate_dst (N := 5) rfl ?_); refine boxE (cs := #[.int .i64 0, .int .i64 0, .int .i64 0]) (t := 61) ?_; intro ax hg w9 hbox hb; refine E7 (blk_below (g := ak) (o := .cells #[.int .i64 ((rd_T66 l0 aa).f0), .int .i64 ((rd_T66 l0 aa).f1.f0), .int .i64 ((rd_T66 l0 aa).f1.f1), .int .i64 ((rd_T66 l0 aa).f1.f2)] 66 (0, 0)) (PF0 af.1) hb) (bS HB.1 hb) (hbox) (gX HB.1 hg) (gX HB.1 hg) ((by rw [hg]; exact Nat.ne_of_lt (blk_lt (g := ak) (o := .cells #[.int .i64 ((rd_T66 l0 aa).f0), .int .i64 ((rd_T66 l0 aa).f1.f0), .int .i64 ((rd_T66 l0 aa).f1.f1), .int .i64 ((rd_T66 l0 aa).f1.f2)] 66 (0, 0)) (PF0 af.1)) : ak ≠ ax)) ((by rw [hg]; exact Nat.ne_of_gt (blk_lt (g := ak) (o := .cells #[.int .i64 ((rd_T66 l0 aa).f0), .int .i64 ((rd_T66 l0 aa).f1.f0), .int .i64 ((rd_T66 l0 aa).f1.f1), .int .i64 ((rd_T66 l0 aa).f1.f2)] 66 (0, 0)) (PF0 af.1)) : ax ≠ ak)) ?_; clear af HB; intro af HB aC aT aU au av; clear hb hbox hg; have qh := av.1; have qi := au.1; obtain ⟨dY, dZ, d9, ed, ek, eu⟩ := cz3 aC.1; obtain ⟨bV, bW, bX, bY, cu, cz, cB, cK⟩ := cz4 af.1))
     go_ret
     exact ⟨RF, BL HB.1⟩
   replace H := ifQ H; rcases H with ⟨c13, H⟩ | ⟨c13, H⟩
   · have c13b0 : decide (1 < ((rd_T66 l0 aa).f0)) = true := decide_eq_true c13
     clear c13
     obtain rfl := Option.some.inj H
     have az : 0 <= (aa : Int) := OD
     have aA : aa < (l0.length : Int) := OD
     obtain ⟨aQ, aK, ag, ah, ai, aj⟩ := at_T66 aX.1 aa az aA
     cases aK
     replace ag := (HB.1.cell (World.block_lt_of_cell? w _ ag)).trans ag
     replace ah := (HB.1.cell (World.block_lt_of_cell? w _ ah)).trans ah
     replace ai := (HB.1.cell (World.block_lt_of_cell? w _ ai)).trans ai
     replace aj := (HB.1.cell (World.block_lt_of_cell? w _ aj)).trans aj
     replace az := eq_true az
     replace aA := eq_true aA
     go_wp2_with (first | ((with_reducible refine gate_dst (N := 4) rfl ?_); refine boxE (cs := #[.int .i64 0, .int .i64 0, .int .i64 0, .int .i64 0]) (t := 66) ?_; intro ak hg qZ hbox hb; refine E4b HB.1 hg hbox hb ?_; clear HB; intro HB af aR aS; clear hb hbox hg; obtain ⟨jf, jg, jh, ji, jk, jl, jm, jo⟩ := cz4 af.1) | ((with_reducible refine gate_dst (N := 5) rfl ?_); refine boxE (cs := #[.int .i64 0, .int .i64 0, .int .i64 0]) (t := 61) ?_; intro ax hg w16 hbox hb; refine E7 (blk_below (g := ak) (o := .cells #[.int .i64 ((rd_T66 l0 aa).f0), .int .i64 ((rd_T66 l0 aa).f1.f0), .int .i64 ((rd_T66 l0 aa).f1.f1), .int .i64 ((rd_T66 l0 aa).f1.f2)] 66 (0, 0)) (PF0 af.1) hb) (bS HB.1 hb) (hbox) (gX HB.1 hg) (gX HB.1 hg) ((by rw [hg]; exact Nat.ne_of_lt (blk_lt (g := ak) (o := .cells #[.int .i64 ((rd_T66 l0 aa).f0), .int .i64 ((rd_T66 l0 aa).f1.f0), .int .i64 ((rd_T66 l0 aa).f1.f1), .int .i64 ((rd_T66 l0 aa).f1.f2)] 66 (0, 0)) (PF0 af.1)) : ak ≠ ax)) ((by rw [hg]; exact Nat.ne_of_gt (blk_lt (g := ak) (o := .cells #[.int .i64 ((rd_T66 l0 aa).f0), .int .i64 ((rd_T66 l0 aa).f1.f0), .int .i64 ((rd_T66 l0 aa).f1.f1), .int .i64 ((rd_T66 l0 aa).f1.f2)] 66 (0, 0)) (PF0 af.1)) : ax ≠ ak)) ?_; clear af HB; intro af HB aC aT aU au av; clear hb hbox hg; have qj := av.1; have ql := au.1; obtain ⟨jq, jr, jv, jw, jy, jA⟩ := cz3 aC.1; obtain ⟨jB, jC, jD, jE, jF, jG, jH, jI⟩ := cz4 af.1))
     go_ret
     exact ⟨RF, BL HB.1⟩
   have c13b0 : decide (1 < ((rd_T66 l0 aa).f0)) = false := decide_eq_false c13
   clear c13
   replace H := ifB H; rcases H with ⟨c20b0, H⟩ | ⟨c20b0, H⟩
   · obtain rfl := Option.some.inj H
     have az : 0 <= (aa : Int) := OD
     have aA : aa < (l0.length : Int) := OD
     obtain ⟨aQ, aK, ag, ah, ai, aj⟩ := at_T66 aX.1 aa az aA
     cases aK
     replace ag := (HB.1.cell (World.block_lt_of_cell? w _ ag)).trans ag
     replace ah := (HB.1.cell (World.block_lt_of_cell? w _ ah)).trans ah
     replace ai := (HB.1.cell (World.block_lt_of_cell? w _ ai)).trans ai
     replace aj := (HB.1.cell (World.block_lt_of_cell? w _ aj)).trans aj
     replace az := eq_true az
     replace aA := eq_true aA
     go_wp2_with (first | ((with_reducible refine gate_dst (N := 4) rfl ?_); refine boxE (cs := #[.int .i64 0, .int .i64 0, .int .i64 0, .int .i64 0]) (t := 66) ?_; intro ak hg q8 hbox hb; refine E4b HB.1 hg hbox hb ?_; clear HB; intro HB af aR aS; clear hb hbox hg; obtain ⟨jJ, jK, jL, jM, jN, jO, jP, jQ⟩ := cz4 af.1) | ((with_reducible refine gate_dst (N := 5) rfl ?_); refine boxE (cs := #[.int .i64 0, .int .i64 0, .int .i64 0]) (t := 61) ?_; intro ax hg q9 hbox hb; refine E7 (blk_below (g := ak) (o := .cells #[.int .i64 ((rd_T66 l0 aa).f0), .int .i64 ((rd_T66 l0 aa).f1.f0), .int .i64 ((rd_T66 l0 aa).f1.f1), .int .i64 ((rd_T66 l0 aa).f1.f2)] 66 (0, 0)) (PF0 af.1) hb) (bS HB.1 hb) (hbox) (gX HB.1 hg) (gX HB.1 hg) ((by rw [hg]; exact Nat.ne_of_lt (blk_lt (g := ak) (o := .cells #[.int .i64 ((rd_T66 l0 aa).f0), .int .i64 ((rd_T66 l0 aa).f1.f0), .int .i64 ((rd_T66 l0 aa).f1.f1), .int .i64 ((rd_T66 l0 aa).f1.f2)] 66 (0, 0)) (PF0 af.1)) : ak ≠ ax)) ((by rw [hg]; exact Nat.ne_of_gt (blk_lt (g := ak) (o := .cells #[.int .i64 ((rd_T66 l0 aa).f0), .int .i64 ((rd_T66 l0 aa).f1.f0), .int .i64 ((rd_T66 l0 aa).f1.f1), .int .i64 ((rd_T66 l0 aa).f1.f2)] 66 (0, 0)) (PF0 af.1)) : ax ≠ ak)) ?_; clear af HB; intro af HB aC aT aU au av; clear hb hbox hg; have qm := av.1; have qo := au.1; obtain ⟨jR, jS, jT, jU, jV, jW⟩ := cz3 aC.1; obtain ⟨jX, jY, jZ, j3, j4, j5, j6, kg⟩ := cz4 af.1))
     go_ret
     exact ⟨RF, BL HB.1⟩
   replace H := ifQ H; rcases H with ⟨iw, H⟩ | ⟨iw, H⟩
   · have c27b0 : decide (3 < ((rd_T66 l0 aa).f1.f0)) = true := decide_eq_true iw
     clear iw
     obtain rfl := Option.some.inj H
     have az : 0 <= (aa : Int) := OD
     have aA : aa < (l0.length : Int) := OD
     obtain ⟨aQ, aK, ag, ah, ai, aj⟩ := at_T66 aX.1 aa az aA
     cases aK
     replace ag := (HB.1.cell (World.block_lt_of_cell? w _ ag)).trans ag
     replace ah := (HB.1.cell (World.block_lt_of_cell? w _ ah)).trans ah
     replace ai := (HB.1.cell (World.block_lt_of_cell? w _ ai)).trans ai
     replace aj := (HB.1.cell (World.block_lt_of_cell? w _ aj)).trans aj
     replace az := eq_true az
     replace aA := eq_true aA
     go_wp2_with (first | ((with_reducible refine gate_dst (N := 4) rfl ?_); refine boxE (cs := #[.int .i64 0, .int .i64 0, .int .i64 0, .int .i64 0]) (t := 66) ?_; intro ak hg rf hbox hb; refine E4b HB.1 hg hbox hb ?_; clear HB; intro HB af aR aS; clear hb hbox hg; obtain ⟨ko, kr, ku, kv, kw, ky, kz, kC⟩ := cz4 af.1) | ((with_reducible refine gate_dst (N := 5) rfl ?_); refine boxE (cs := #[.int .i64 0, .int .i64 0, .int .i64 0]) (t := 61) ?_; intro ax hg rq hbox hb; refine E7 (blk_below (g := ak) (o := .cells #[.int .i64 ((rd_T66 l0 aa).f0), .int .i64 ((rd_T66 l0 aa).f1.f0), .int .i64 ((rd_T66 l0 aa).f1.f1), .int .i64 ((rd_T66 l0 aa).f1.f2)] 66 (0, 0)) (PF0 af.1) hb) (bS HB.1 hb) (hbox) (gX HB.1 hg) (gX HB.1 hg) ((by rw [hg]; exact Nat.ne_of_lt (blk_lt (g := ak) (o := .cells #[.int .i64 ((rd_T66 l0 aa).f0), .int .i64 ((rd_T66 l0 aa).f1.f0), .int .i64 ((rd_T66 l0 aa).f1.f1), .int .i64 ((rd_T66 l0 aa).f1.f2)] 66 (0, 0)) (PF0 af.1)) : ak ≠ ax)) ((by rw [hg]; exact Nat.ne_of_gt (blk_lt (g := ak) (o := .cells #[.int .i64 ((rd_T66 l0 aa).f0), .int .i64 ((rd_T66 l0 aa).f1.f0), .int .i64 ((rd_T66 l0 aa).f1.f1), .int .i64 ((rd_T66 l0 aa).f1.f2)] 66 (0, 0)) (PF0 af.1)) : ax ≠ ak)) ?_; clear af HB; intro af HB aC aT aU au av; clear hb hbox hg; have qp := av.1; have qw := au.1; obtain ⟨kD, kE, kF, kG, kH, kI⟩ := cz3 aC.1; obtain ⟨kJ, kK, kL, kM, kN, kP, kQ, kR⟩ := cz4 af.1))
     go_ret
     exact ⟨RF, BL HB.1⟩
   have c27b0 : decide (3 < ((rd_T66 l0 aa).f1.f0)) = false := decide_eq_false iw
   clear iw
   replace H := ifB H; rcases H with ⟨c34b0, H⟩ | ⟨c34b0, H⟩
   · obtain rfl := Option.some.inj H
     have az : 0 <= (aa : Int) := OD
     have aA : aa < (l0.length : Int) := OD
     obtain ⟨aQ, aK, ag, ah, ai, aj⟩ := at_T66 aX.1 aa az aA
     cases aK
     replace ag := (HB.1.cell (World.block_lt_of_cell? w _ ag)).trans ag
     replace ah := (HB.1.cell (World.block_lt_of_cell? w _ ah)).trans ah
     replace ai := (HB.1.cell (World.block_lt_of_cell? w _ ai)).trans ai
     replace aj := (HB.1.cell (World.block_lt_of_cell? w _ aj)).trans aj
     replace az := eq_true az
     replace aA := eq_true aA
     go_wp2_with (first | ((with_reducible refine gate_dst (N := 4) rfl ?_); refine boxE (cs := #[.int .i64 0, .int .i64 0, .int .i64 0, .int .i64 0]) (t := 66) ?_; intro ak hg ru hbox hb; refine E4b HB.1 hg hbox hb ?_; clear HB; intro HB af aR aS; clear hb hbox hg; obtain ⟨kS, kT, kU, kV, kW, kX, kY, kZ⟩ := cz4 af.1) | ((with_reducible refine gate_dst (N := 5) rfl ?_); refine boxE (cs := #[.int .i64 0, .int .i64 0, .int .i64 0]) (t := 61) ?_; intro ax hg ry hbox hb; refine E7 (blk_below (g := ak) (o := .cells #[.int .i64 ((rd_T66 l0 aa).f0), .int .i64 ((rd_T66 l0 aa).f1.f0), .int .i64 ((rd_T66 l0 aa).f1.f1), .int .i64 ((rd_T66 l0 aa).f1.f2)] 66 (0, 0)) (PF0 af.1) hb) (bS HB.1 hb) (hbox) (gX HB.1 hg) (gX HB.1 hg) ((by rw [hg]; exact Nat.ne_of_lt (blk_lt (g := ak) (o := .cells #[.int .i64 ((rd_T66 l0 aa).f0), .int .i64 ((rd_T66 l0 aa).f1.f0), .int .i64 ((rd_T66 l0 aa).f1.f1), .int .i64 ((rd_T66 l0 aa).f1.f2)] 66 (0, 0)) (PF0 af.1)) : ak ≠ ax)) ((by rw [hg]; exact Nat.ne_of_gt (blk_lt (g := ak) (o := .cells #[.int .i64 ((rd_T66 l0 aa).f0), .int .i64 ((rd_T66 l0 aa).f1.f0), .int .i64 ((rd_T66 l0 aa).f1.f1), .int .i64 ((rd_T66 l0 aa).f1.f2)] 66 (0, 0)) (PF0 af.1)) : ax ≠ ak)) ?_; clear af HB; intro af HB aC aT aU au av; clear hb hbox hg; have qx := av.1; have qy := au.1; obtain ⟨lc, lg, lh, ll, lm, lq⟩ := cz3 aC.1; obtain ⟨lu, lv, lw, lC, lD, lF, lG, lH⟩ := cz4 af.1))
     go_ret
     exact ⟨RF, BL HB.1⟩
   replace H := ifQ H; rcases H with ⟨iy, H⟩ | ⟨iy, H⟩
   · have c41b0 : decide (10 < ((rd_T66 l0 aa).f1.f1)) = true := decide_eq_true iy
     clear iy
     obtain rfl := Option.some.inj H
     have az : 0 <= (aa : Int) := OD
     have aA : aa < (l0.length : Int) := OD
     obtain ⟨aQ, aK, ag, ah, ai, aj⟩ := at_T66 aX.1 aa az aA
     cases aK
     replace ag := (HB.1.cell (World.block_lt_of_cell? w _ ag)).trans ag
     replace ah := (HB.1.cell (World.block_lt_of_cell? w _ ah)).trans ah
     replace ai := (HB.1.cell (World.block_lt_of_cell? w _ ai)).trans ai
     replace aj := (HB.1.cell (World.block_lt_of_cell? w _ aj)).trans aj
     replace az := eq_true az
     replace aA := eq_true aA
     go_wp2_with (first | ((with_reducible refine gate_dst (N := 4) rfl ?_); refine boxE (cs := #[.int .i64 0, .int .i64 0, .int .i64 0, .int .i64 0]) (t := 66) ?_; intro ak hg rz hbox hb; refine E4b HB.1 hg hbox hb ?_; clear HB; intro HB af aR aS; clear hb hbox hg; obtain ⟨lI, lJ, lK, lL, lM, lN, lQ, lS⟩ := cz4 af.1) | ((with_reducible refine gate_dst (N := 5) rfl ?_); refine boxE (cs := #[.int .i64 0, .int .i64 0, .int .i64 0]) (t := 61) ?_; intro ax hg rA hbox hb; refine E7 (blk_below (g := ak) (o := .cells #[.int .i64 ((rd_T66 l0 aa).f0), .int .i64 ((rd_T66 l0 aa).f1.f0), .int .i64 ((rd_T66 l0 aa).f1.f1), .int .i64 ((rd_T66 l0 aa).f1.f2)] 66 (0, 0)) (PF0 af.1) hb) (bS HB.1 hb) (hbox) (gX HB.1 hg) (gX HB.1 hg) ((by rw [hg]; exact Nat.ne_of_lt (blk_lt (g := ak) (o := .cells #[.int .i64 ((rd_T66 l0 aa).f0), .int .i64 ((rd_T66 l0 aa).f1.f0), .int .i64 ((rd_T66 l0 aa).f1.f1), .int .i64 ((rd_T66 l0 aa).f1.f2)] 66 (0, 0)) (PF0 af.1)) : ak ≠ ax)) ((by rw [hg]; exact Nat.ne_of_gt (blk_lt (g := ak) (o := .cells #[.int .i64 ((rd_T66 l0 aa).f0), .int .i64 ((rd_T66 l0 aa).f1.f0), .int .i64 ((rd_T66 l0 aa).f1.f1), .int .i64 ((rd_T66 l0 aa).f1.f2)] 66 (0, 0)) (PF0 af.1)) : ax ≠ ak)) ?_; clear af HB; intro af HB aC aT aU au av; clear hb hbox hg; have qz := av.1; have qA := au.1; obtain ⟨lT, lU, lV, lW, lX, lY⟩ := cz3 aC.1; obtain ⟨lZ, l5, l6, l7, l8, l9, ma, mf⟩ := cz4 af.1))
     go_ret
     exact ⟨RF, BL HB.1⟩
   have c41b0 : decide (10 < ((rd_T66 l0 aa).f1.f1)) = false := decide_eq_false iy
   clear iy
   replace H := ifB H; rcases H with ⟨c48b0, H⟩ | ⟨c48b0, H⟩
   · obtain rfl := Option.some.inj H
     have az : 0 <= (aa : Int) := OD
     have aA : aa < (l0.length : Int) := OD
     obtain ⟨aQ, aK, ag, ah, ai, aj⟩ := at_T66 aX.1 aa az aA
     cases aK
     replace ag := (HB.1.cell (World.block_lt_of_cell? w _ ag)).trans ag
     replace ah := (HB.1.cell (World.block_lt_of_cell? w _ ah)).trans ah
     replace ai := (HB.1.cell (World.block_lt_of_cell? w _ ai)).trans ai
     replace aj := (HB.1.cell (World.block_lt_of_cell? w _ aj)).trans aj
     replace az := eq_true az
     replace aA := eq_true aA
     go_wp2_with (first | ((with_reducible refine gate_dst (N := 4) rfl ?_); refine boxE (cs := #[.int .i64 0, .int .i64 0, .int .i64 0, .int .i64 0]) (t := 66) ?_; intro ak hg rC hbox hb; refine E4b HB.1 hg hbox hb ?_; clear HB; intro HB af aR aS; clear hb hbox hg; obtain ⟨mg, mh, mi, mo, mq, mr, mD, mE⟩ := cz4 af.1) | ((with_reducible refine gate_dst (N := 5) rfl ?_); refine boxE (cs := #[.int .i64 0, .int .i64 0, .int .i64 0]) (t := 61) ?_; intro ax hg rD hbox hb; refine E7 (blk_below (g := ak) (o := .cells #[.int .i64 ((rd_T66 l0 aa).f0), .int .i64 ((rd_T66 l0 aa).f1.f0), .int .i64 ((rd_T66 l0 aa).f1.f1), .int .i64 ((rd_T66 l0 aa).f1.f2)] 66 (0, 0)) (PF0 af.1) hb) (bS HB.1 hb) (hbox) (gX HB.1 hg) (gX HB.1 hg) ((by rw [hg]; exact Nat.ne_of_lt (blk_lt (g := ak) (o := .cells #[.int .i64 ((rd_T66 l0 aa).f0), .int .i64 ((rd_T66 l0 aa).f1.f0), .int .i64 ((rd_T66 l0 aa).f1.f1), .int .i64 ((rd_T66 l0 aa).f1.f2)] 66 (0, 0)) (PF0 af.1)) : ak ≠ ax)) ((by rw [hg]; exact Nat.ne_of_gt (blk_lt (g := ak) (o := .cells #[.int .i64 ((rd_T66 l0 aa).f0), .int .i64 ((rd_T66 l0 aa).f1.f0), .int .i64 ((rd_T66 l0 aa).f1.f1), .int .i64 ((rd_T66 l0 aa).f1.f2)] 66 (0, 0)) (PF0 af.1)) : ax ≠ ak)) ?_; clear af HB; intro af HB aC aT aU au av; clear hb hbox hg; have qB := av.1; have qC := au.1; obtain ⟨mF, mG, mH, mI, mJ, mK⟩ := cz3 aC.1; obtain ⟨mM, mO, mP, mQ, mR, mU, mV, mW⟩ := cz4 af.1))
     go_ret
     exact ⟨RF, BL HB.1⟩
   replace H := ifQ H; rcases H with ⟨iA, H⟩ | ⟨iA, H⟩
   · have c55b0 : decide (9 < ((rd_T66 l0 aa).f1.f2)) = true := decide_eq_true iA
     clear iA
     obtain rfl := Option.some.inj H
     have az : 0 <= (aa : Int) := OD
     have aA : aa < (l0.length : Int) := OD
     obtain ⟨aQ, aK, ag, ah, ai, aj⟩ := at_T66 aX.1 aa az aA
     cases aK
     replace ag := (HB.1.cell (World.block_lt_of_cell? w _ ag)).trans ag
     replace ah := (HB.1.cell (World.block_lt_of_cell? w _ ah)).trans ah
     replace ai := (HB.1.cell (World.block_lt_of_cell? w _ ai)).trans ai
     replace aj := (HB.1.cell (World.block_lt_of_cell? w _ aj)).trans aj
     replace az := eq_true az
     replace aA := eq_true aA
     go_wp2_with (first | ((with_reducible refine gate_dst (N := 4) rfl ?_); refine boxE (cs := #[.int .i64 0, .int .i64 0, .int .i64 0, .int .i64 0]) (t := 66) ?_; intro ak hg rE hbox hb; refine E4b HB.1 hg hbox hb ?_; clear HB; intro HB af aR aS; clear hb hbox hg; obtain ⟨mX, mY, mZ, ng, ni, nk, nu, ny⟩ := cz4 af.1) | ((with_reducible refine gate_dst (N := 5) rfl ?_); refine boxE (cs := #[.int .i64 0, .int .i64 0, .int .i64 0]) (t := 61) ?_; intro ax hg rF hbox hb; refine E7 (blk_below (g := ak) (o := .cells #[.int .i64 ((rd_T66 l0 aa).f0), .int .i64 ((rd_T66 l0 aa).f1.f0), .int .i64 ((rd_T66 l0 aa).f1.f1), .int .i64 ((rd_T66 l0 aa).f1.f2)] 66 (0, 0)) (PF0 af.1) hb) (bS HB.1 hb) (hbox) (gX HB.1 hg) (gX HB.1 hg) ((by rw [hg]; exact Nat.ne_of_lt (blk_lt (g := ak) (o := .cells #[.int .i64 ((rd_T66 l0 aa).f0), .int .i64 ((rd_T66 l0 aa).f1.f0), .int .i64 ((rd_T66 l0 aa).f1.f1), .int .i64 ((rd_T66 l0 aa).f1.f2)] 66 (0, 0)) (PF0 af.1)) : ak ≠ ax)) ((by rw [hg]; exact Nat.ne_of_gt (blk_lt (g := ak) (o := .cells #[.int .i64 ((rd_T66 l0 aa).f0), .int .i64 ((rd_T66 l0 aa).f1.f0), .int .i64 ((rd_T66 l0 aa).f1.f1), .int .i64 ((rd_T66 l0 aa).f1.f2)] 66 (0, 0)) (PF0 af.1)) : ax ≠ ak)) ?_; clear af HB; intro af HB aC aT aU au av; clear hb hbox hg; have qD := av.1; have qE := au.1; obtain ⟨nz, nA, nD, nE, nG, nH⟩ := cz3 aC.1; obtain ⟨nI, nJ, nK, nL, nM, nN, nO, nP⟩ := cz4 af.1))
     go_ret
     exact ⟨RF, BL HB.1⟩
   have c55b0 : decide (9 < ((rd_T66 l0 aa).f1.f2)) = false := decide_eq_false iA
   clear iA
   have H' := Aside0.mk H
   clear H
   have az : 0 <= (aa : Int) := OD
   have aA : aa < (l0.length : Int) := OD
   obtain ⟨aQ, aK, ag, ah, ai, aj⟩ := at_T66 aX.1 aa az aA
   cases aK
   replace ag := (HB.1.cell (World.block_lt_of_cell? w _ ag)).trans ag
   replace ah := (HB.1.cell (World.block_lt_of_cell? w _ ah)).trans ah
   replace ai := (HB.1.cell (World.block_lt_of_cell? w _ ai)).trans ai
   replace aj := (HB.1.cell (World.block_lt_of_cell? w _ aj)).trans aj
   replace az := eq_true az
   replace aA := eq_true aA
   go_wp2_with (first | ((with_reducible refine gate_dst (N := 4) rfl ?_); refine boxE (cs := #[.int .i64 0, .int .i64 0, .int .i64 0, .int .i64 0]) (t := 66) ?_; intro ak hg rG hbox hb; refine E4b HB.1 hg hbox hb ?_; clear HB; intro HB af aR aS; clear hb hbox hg; obtain ⟨nQ, nR, nS, nT, nU, nV, nW, nX⟩ := cz4 af.1) | ((with_reducible refine gate_dst (N := 5) rfl ?_); refine boxE (cs := #[.int .i64 0, .int .i64 0, .int .i64 0]) (t := 61) ?_; intro ax hg rH hbox hb; refine E7 (blk_below (g := ak) (o := .cells #[.int .i64 ((rd_T66 l0 aa).f0), .int .i64 ((rd_T66 l0 aa).f1.f0), .int .i64 ((rd_T66 l0 aa).f1.f1), .int .i64 ((rd_T66 l0 aa).f1.f2)] 66 (0, 0)) (PF0 af.1) hb) (bS HB.1 hb) (hbox) (gX HB.1 hg) (gX HB.1 hg) ((by rw [hg]; exact Nat.ne_of_lt (blk_lt (g := ak) (o := .cells #[.int .i64 ((rd_T66 l0 aa).f0), .int .i64 ((rd_T66 l0 aa).f1.f0), .int .i64 ((rd_T66 l0 aa).f1.f1), .int .i64 ((rd_T66 l0 aa).f1.f2)] 66 (0, 0)) (PF0 af.1)) : ak ≠ ax)) ((by rw [hg]; exact Nat.ne_of_gt (blk_lt (g := ak) (o := .cells #[.int .i64 ((rd_T66 l0 aa).f0), .int .i64 ((rd_T66 l0 aa).f1.f0), .int .i64 ((rd_T66 l0 aa).f1.f1), .int .i64 ((rd_T66 l0 aa).f1.f2)] 66 (0, 0)) (PF0 af.1)) : ax ≠ ak)) ?_; clear af HB; intro af HB aC aT aU au av; clear hb hbox hg; have qF := av.1; have qG := au.1; obtain ⟨nY, nZ, og, oh, ol, om⟩ := cz3 aC.1; obtain ⟨oo, oq, ou, ow, oz, oC, oD, oF⟩ := cz4 af.1))
   go_roundg k1
   case measure => have := cO.1; omega
   case rel => exact ⟨(wrap64 (aa + 1)), RG, H', ⟨by have := cO.1; omega⟩, ⟨BL HB.1⟩⟩
 obtain rfl := Option.some.inj H
 go_wp2
 go_ret
 exact ⟨RF, BL HB.1⟩
/-! ### impl_agreeing: function 42 -/
open Kd
def impl_agreeing.l0 : Nat -> List (S66) -> List (S66) -> Int -> Option (Int)
 | 0, _, _, _ => none
 | k + 1, x0, x1, x5 => if x5 < (x0.length : Int) then (if x5 < (x1.length : Int) then (if 0 <= x5 then (if (((rd_T66 x0 x5).f0) == ((rd_T66 x1 x5).f0) && ((((rd_T66 x0 x5).f1.f0) == ((rd_T66 x1 x5).f1.f0) && (((rd_T66 x0 x5).f1.f1) == ((rd_T66 x1 x5).f1.f1) && (((rd_T66 x0 x5).f1.f2) == ((rd_T66 x1 x5).f1.f2)))))) = true then (impl_agreeing.l0 k x0 x1 (wrap64 (x5 + 1))) else (some x5)) else (none)) else (some x5)) else (some x5)
def impl_agreeing.f (k : Nat) (l0 : List (S66)) (l1 : List (S66)) : Option (Int) := impl_agreeing.l0 k l0 l1 0
theorem impl_agreeing.mono_l : ∀ k, (∀ y0 y1 y2, LeO (impl_agreeing.l0 k y0 y1 y2) (impl_agreeing.l0 (k + 1) y0 y1 y2))
 | 0 => fun _ _ _ r h => by simp [impl_agreeing.l0] at h
 | k + 1 => by
  have bg := impl_agreeing.mono_l k
  intros
  first | unfold impl_agreeing.l0
  exact LM1 bg
theorem impl_agreeing.mono : ∀ a0 a1 k, LeO (impl_agreeing.f k a0 a1) (impl_agreeing.f (k + 1) a0 a1) := by
 intro a0 a1 k
 have bg := impl_agreeing.mono_l k
 unfold impl_agreeing.f
 exact LM1 bg
theorem impl_agreeing.calls (k : Nat) (A0 : Option Addr) (c0 : Nat) (l0 : List (S66)) (A1 : Option Addr) (c1 : Nat) (l1 : List (S66)) (r : Int) (w : World) (hr0 : Kd.C k66 w A0 l0.length l0) (hc0 : l0.length <= c0) (hr1 : Kd.C k66 w A1 l1.length l1) (hc1 : l1.length <= c1) (h : impl_agreeing.f k l0 l1 = some r) :
 Calls Try.prog 42 #[.slice A0 l0.length c0, .slice A1 l1.length c1] w fun e w' => e = .returned (.int .i64 r) /\ Drawn0 w w' := by
 have df := Try.underlying66
 have aX := Aside0.mk hr0
 have gq := Aside0.mk hc0
 clear hr0 hc0
 have HR1 := Aside0.mk hr1
 have qH := Aside0.mk hc1
 clear hr1 hc1
 have H := h
 clear h
 unfold impl_agreeing.f at H
 have H' := Aside0.mk H
 clear H
 go_enter Try.func42, Try.ntmps42
 go_wp2
 repeat (go_quiet (fail); try go_wp2)
 go_loopg [5] k (fun kq v5 w' => ∃ (ae : Int), v5 = .int .i64 ae /\ Aside0 (impl_agreeing.l0 kq l0 l1 ae = some r) /\ Aside0 (kq <= k) /\ Drawn0 w w')
 case atStart => exact ⟨(0), RG, H', ⟨Nat.le_refl _⟩, DR⟩
 clear H'
 try clear c1
 obtain ⟨ae, rfl, HA, cO, ⟨m1, rfl⟩⟩ := hrel
 cases gk with
 | zero => exact absurd HA.1 (by simp [impl_agreeing.l0])
 | succ k1 => ?_
 have H := HA.1
 clear HA
 simp only [impl_agreeing.l0] at H
 replace H := ifB H; rcases H with ⟨c3b0, H⟩ | ⟨c3b0, H⟩
 · replace H := ifB H; rcases H with ⟨c4b0, H⟩ | ⟨c4b0, H⟩
   · replace H := ifN H; obtain ⟨c5b0, H⟩ := H
     replace H := ifQ H; rcases H with ⟨c6, H⟩ | ⟨c6, H⟩
     · have c6b0 : (((rd_T66 l0 ae).f0) == ((rd_T66 l1 ae).f0) && ((((rd_T66 l0 ae).f1.f0) == ((rd_T66 l1 ae).f1.f0) && (((rd_T66 l0 ae).f1.f1) == ((rd_T66 l1 ae).f1.f1) && (((rd_T66 l0 ae).f1.f2) == ((rd_T66 l1 ae).f1.f2)))))) = true := c6
       (try (have c6b1 : decide (((rd_T66 l0 ae).f0) = ((rd_T66 l1 ae).f0) && ((((rd_T66 l0 ae).f1.f0) == ((rd_T66 l1 ae).f1.f0) && (((rd_T66 l0 ae).f1.f1) == ((rd_T66 l1 ae).f1.f1) && (((rd_T66 l0 ae).f1.f2) == ((rd_T66 l1 ae).f1.f2)))))) = true := by simpa using c6))
       (try (have c6b2 : (((rd_T66 l0 ae).f0) == ((rd_T66 l1 ae).f0) && ((((rd_T66 l0 ae).f1.f0) == ((rd_T66 l1 ae).f1.f0) && (((rd_T66 l0 ae).f1.f1) == ((rd_T66 l1 ae).f1.f1) && (((rd_T66 l0 ae).f1.f2) == ((rd_T66 l1 ae).f1.f2)))))) = true := by simpa using c6))
       clear c6
       have H' := Aside0.mk H
       clear H
       have bK : 0 <= (ae : Int) := OD
       have bL : ae < (l0.length : Int) := OD
       obtain ⟨iB, gm, eU, eX, eY, eZ⟩ := at_T66 aX.1 ae bK bL
       cases gm
       replace bK := eq_true bK
       replace bL := eq_true bL
       have bM : 0 <= (ae : Int) := OD
       have bN : ae < (l1.length : Int) := OD
       obtain ⟨iC, gp, fe, fo, fq, fu⟩ := at_T66 HR1.1 ae bM bN
       cases gp
       replace bM := eq_true bM
       replace bN := eq_true bN
       go_wp2
       repeat (go_quiet (fail); try go_wp2)
       go_roundg k1
       case measure => have := cO.1; omega
       case rel => exact ⟨(wrap64 (ae + 1)), RG, H', ⟨by have := cO.1; omega⟩, DR⟩
     have c6b0 : (((rd_T66 l0 ae).f0) == ((rd_T66 l1 ae).f0) && ((((rd_T66 l0 ae).f1.f0) == ((rd_T66 l1 ae).f1.f0) && (((rd_T66 l0 ae).f1.f1) == ((rd_T66 l1 ae).f1.f1) && (((rd_T66 l0 ae).f1.f2) == ((rd_T66 l1 ae).f1.f2)))))) = false := by simpa using c6
     (try (have c6b1 : decide (((rd_T66 l0 ae).f0) = ((rd_T66 l1 ae).f0) && ((((rd_T66 l0 ae).f1.f0) == ((rd_T66 l1 ae).f1.f0) && (((rd_T66 l0 ae).f1.f1) == ((rd_T66 l1 ae).f1.f1) && (((rd_T66 l0 ae).f1.f2) == ((rd_T66 l1 ae).f1.f2)))))) = false := by simpa using c6))
     (try (have c6b2 : (((rd_T66 l0 ae).f0) == ((rd_T66 l1 ae).f0) && ((((rd_T66 l0 ae).f1.f0) == ((rd_T66 l1 ae).f1.f0) && (((rd_T66 l0 ae).f1.f1) == ((rd_T66 l1 ae).f1.f1) && (((rd_T66 l0 ae).f1.f2) == ((rd_T66 l1 ae).f1.f2)))))) = false := by simpa using c6))
     (try (have c6b3 : ¬ (((rd_T66 l0 ae).f0) = ((rd_T66 l1 ae).f0) && ((((rd_T66 l0 ae).f1.f0) == ((rd_T66 l1 ae).f1.f0) && (((rd_T66 l0 ae).f1.f1) == ((rd_T66 l1 ae).f1.f1) && (((rd_T66 l0 ae).f1.f2) == ((rd_T66 l1 ae).f1.f2)))))) := by simpa using c6))
     clear c6
     obtain rfl := Option.some.inj H
     have bK : 0 <= (ae : Int) := OD
     have bL : ae < (l0.length : Int) := OD
     obtain ⟨iB, gm, eU, eX, eY, eZ⟩ := at_T66 aX.1 ae bK bL
     cases gm
     replace bK := eq_true bK
     replace bL := eq_true bL
     have bM : 0 <= (ae : Int) := OD
     have bN : ae < (l1.length : Int) := OD
     obtain ⟨iC, gp, fe, fo, fq, fu⟩ := at_T66 HR1.1 ae bM bN
     cases gp
     replace bM := eq_true bM
     replace bN := eq_true bN
     go_wp2
     repeat (go_quiet (fail); try go_wp2)
     go_ret
     exact ⟨RG, DR⟩
   obtain rfl := Option.some.inj H
   go_wp2
   repeat (go_quiet (fail); try go_wp2)
   go_ret
   exact ⟨RG, DR⟩
 obtain rfl := Option.some.inj H
 go_wp2
 repeat (go_quiet (fail); try go_wp2)
 go_ret
 exact ⟨RG, DR⟩
end Go.Proofs.Ythnehlphifegaaa.P
