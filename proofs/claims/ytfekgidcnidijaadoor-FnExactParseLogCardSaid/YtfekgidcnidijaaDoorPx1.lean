-- PRINTED by print.py (a twelfth state) out of the translation. Not trusted: Lean checks it.
import Derived.Test.YtfekgidcnidijaaDoorPx0
namespace Go.Proofs.YtfekgidcnidijaaDoor.P
open Go.RowKit Go.Proofs.YtfekgidcnidijaaDoorW.PrintWords Go.Proofs.YtfekgidcnidijaaDoorW.PrintLast Go.Proofs.YtfekgidcnidijaaDoorW.PrintMore
attribute [local go_sem] max2_int min2_int max_two min_two max_three min_three max_four min_four   -- for this text's walks alone
set_option linter.unusedVariables false
set_option linter.unusedSimpArgs false
set_option maxHeartbeats 8000000
set_option maxRecDepth 100000

/-! ### laws_eqFall: function 59 -/
open Kd
def laws_eqFall.f (a0_0 : Int) (a0_1 : Int) (a0_2 : Int) (a1_0 : Int) (a1_1 : Int) (a1_2 : Int) : Option (Bool) := if a0_0 = a1_0 then (if a0_1 = a1_1 then (if a0_2 = a1_2 then (some true) else (some false)) else (some false)) else (some false)
theorem laws_eqFall.calls (a0_0 : Int) (a0_1 : Int) (a0_2 : Int) (a1_0 : Int) (a1_1 : Int) (a1_2 : Int) (r : Bool) (w : World) (h : laws_eqFall.f a0_0 a0_1 a0_2 a1_0 a1_1 a1_2 = some r) :
 Calls Tryd.prog 59 #[.agg #[.int .i64 a0_0, .int .i64 a0_1, .int .i64 a0_2], .agg #[.int .i64 a1_0, .int .i64 a1_1, .int .i64 a1_2]] w fun e w' => e = .returned (.bool r) /\ Below w.heap.size w w' := by
 have hu64 := Tryd.underlying64
 have HB := Aside0.mk (Below.refl w.heap.size w)
 have H := h
 clear h
 unfold laws_eqFall.f at H
 replace H := ifQ H; rcases H with ⟨c3, H⟩ | ⟨c3, H⟩
 · have c3b0 := beq_iff_eq.mpr c3
   have c3b1 := bne_eq_false_iff_eq.mpr c3
   clear c3
   replace H := ifQ H; rcases H with ⟨c4, H⟩ | ⟨c4, H⟩
   · have c4b0 := beq_iff_eq.mpr c4
     have c4b1 := bne_eq_false_iff_eq.mpr c4
     clear c4
     replace H := ifQ H; rcases H with ⟨c5, H⟩ | ⟨c5, H⟩
     · have c5b0 := beq_iff_eq.mpr c5
       have c5b1 := bne_eq_false_iff_eq.mpr c5
       clear c5
       obtain rfl := Option.some.inj H
       go_enter Tryd.func59, Tryd.ntmps59
       go_wp2_with (first | ((with_reducible refine gate_dst (N := 2) rfl ?_); refine boxE (cs := #[.int .i64 a0_0, .int .i64 a0_1, .int .i64 a0_2]) (t := 64) ?_; intro gb101 hg w6 hbox hb; refine E4b HB.1 hg hbox hb ?_; clear HB; intro HB BK101 GW101 GE101; clear hb hbox hg) | ((with_reducible refine gate_dst (N := 3) rfl ?_); refine boxE (cs := #[.int .i64 a1_0, .int .i64 a1_1, .int .i64 a1_2]) (t := 64) ?_; intro gb102 hg w7 hbox hb; refine E7 (bB BK101.1 hb) (bS HB.1 hb) (hbox) (gX HB.1 hg) (gX HB.1 hg) (nB BK101.1 hg) (nC BK101.1 hg) ?_; clear BK101 HB; intro BK101 HB BK102 GW102 GE102 NB101_102 NB102_101; clear hb hbox hg; have hnb8 := NB101_102.1; have hnc8 := NB102_101.1; obtain ⟨hcz9_0, hcz9_1, hcz9_2, hfz9_0, hfz9_1, hfz9_2⟩ := cz3 BK101.1; obtain ⟨hcz10_0, hcz10_1, hcz10_2, hfz10_0, hfz10_1, hfz10_2⟩ := cz3 BK102.1))
       go_ret
       exact ⟨RF, BL HB.1⟩
     have c5b0 := beq_eq_false_iff_ne.mpr c5
     have c5b1 := bne_iff_ne.mpr c5
     obtain rfl := Option.some.inj H
     go_enter Tryd.func59, Tryd.ntmps59
     go_wp2_with (first | ((with_reducible refine gate_dst (N := 2) rfl ?_); refine boxE (cs := #[.int .i64 a0_0, .int .i64 a0_1, .int .i64 a0_2]) (t := 64) ?_; intro gb101 hg w11 hbox hb; refine E4b HB.1 hg hbox hb ?_; clear HB; intro HB BK101 GW101 GE101; clear hb hbox hg) | ((with_reducible refine gate_dst (N := 3) rfl ?_); refine boxE (cs := #[.int .i64 a1_0, .int .i64 a1_1, .int .i64 a1_2]) (t := 64) ?_; intro gb102 hg w12 hbox hb; refine E7 (bB BK101.1 hb) (bS HB.1 hb) (hbox) (gX HB.1 hg) (gX HB.1 hg) (nB BK101.1 hg) (nC BK101.1 hg) ?_; clear BK101 HB; intro BK101 HB BK102 GW102 GE102 NB101_102 NB102_101; clear hb hbox hg; have hnb13 := NB101_102.1; have hnc13 := NB102_101.1; obtain ⟨hcz14_0, hcz14_1, hcz14_2, hfz14_0, hfz14_1, hfz14_2⟩ := cz3 BK101.1; obtain ⟨hcz15_0, hcz15_1, hcz15_2, hfz15_0, hfz15_1, hfz15_2⟩ := cz3 BK102.1))
     go_ret
     exact ⟨RF, BL HB.1⟩
   have c4b0 := beq_eq_false_iff_ne.mpr c4
   have c4b1 := bne_iff_ne.mpr c4
   obtain rfl := Option.some.inj H
   go_enter Tryd.func59, Tryd.ntmps59
   go_wp2_with (first | ((with_reducible refine gate_dst (N := 2) rfl ?_); refine boxE (cs := #[.int .i64 a0_0, .int .i64 a0_1, .int .i64 a0_2]) (t := 64) ?_; intro gb101 hg w16 hbox hb; refine E4b HB.1 hg hbox hb ?_; clear HB; intro HB BK101 GW101 GE101; clear hb hbox hg) | ((with_reducible refine gate_dst (N := 3) rfl ?_); refine boxE (cs := #[.int .i64 a1_0, .int .i64 a1_1, .int .i64 a1_2]) (t := 64) ?_; intro gb102 hg w17 hbox hb; refine E7 (bB BK101.1 hb) (bS HB.1 hb) (hbox) (gX HB.1 hg) (gX HB.1 hg) (nB BK101.1 hg) (nC BK101.1 hg) ?_; clear BK101 HB; intro BK101 HB BK102 GW102 GE102 NB101_102 NB102_101; clear hb hbox hg; have hnb18 := NB101_102.1; have hnc18 := NB102_101.1; obtain ⟨hcz19_0, hcz19_1, hcz19_2, hfz19_0, hfz19_1, hfz19_2⟩ := cz3 BK101.1; obtain ⟨hcz20_0, hcz20_1, hcz20_2, hfz20_0, hfz20_1, hfz20_2⟩ := cz3 BK102.1))
   go_ret
   exact ⟨RF, BL HB.1⟩
 have c3b0 := beq_eq_false_iff_ne.mpr c3
 have c3b1 := bne_iff_ne.mpr c3
 obtain rfl := Option.some.inj H
 go_enter Tryd.func59, Tryd.ntmps59
 go_wp2_with (first | ((with_reducible refine gate_dst (N := 2) rfl ?_); refine boxE (cs := #[.int .i64 a0_0, .int .i64 a0_1, .int .i64 a0_2]) (t := 64) ?_; intro gb101 hg w21 hbox hb; refine E4b HB.1 hg hbox hb ?_; clear HB; intro HB BK101 GW101 GE101; clear hb hbox hg) | ((with_reducible refine gate_dst (N := 3) rfl ?_); refine boxE (cs := #[.int .i64 a1_0, .int .i64 a1_1, .int .i64 a1_2]) (t := 64) ?_; intro gb102 hg w22 hbox hb; refine E7 (bB BK101.1 hb) (bS HB.1 hb) (hbox) (gX HB.1 hg) (gX HB.1 hg) (nB BK101.1 hg) (nC BK101.1 hg) ?_; clear BK101 HB; intro BK101 HB BK102 GW102 GE102 NB101_102 NB102_101; clear hb hbox hg; have hnb23 := NB101_102.1; have hnc23 := NB102_101.1; obtain ⟨hcz24_0, hcz24_1, hcz24_2, hfz24_0, hfz24_1, hfz24_2⟩ := cz3 BK101.1; obtain ⟨hcz25_0, hcz25_1, hcz25_2, hfz25_0, hfz25_1, hfz25_2⟩ := cz3 BK102.1))
 go_ret
 exact ⟨RF, BL HB.1⟩
/-! ### laws_eqLogEntry: function 38 -/
open Kd
def laws_eqLogEntry.f (a0_0 : Int) (a0_1 : Int) (a0_2 : Int) (a0_3 : Int) (a1_0 : Int) (a1_1 : Int) (a1_2 : Int) (a1_3 : Int) : Option (Bool) := if a0_0 = a1_0 then ((laws_eqFall.f a0_1 a0_2 a0_3 a1_1 a1_2 a1_3).bind fun t105 => (if t105 = true then (some true) else (some false))) else (some false)
theorem laws_eqLogEntry.calls (a0_0 : Int) (a0_1 : Int) (a0_2 : Int) (a0_3 : Int) (a1_0 : Int) (a1_1 : Int) (a1_2 : Int) (a1_3 : Int) (r : Bool) (w : World) (h : laws_eqLogEntry.f a0_0 a0_1 a0_2 a0_3 a1_0 a1_1 a1_2 a1_3 = some r) :
 Calls Tryd.prog 38 #[.agg #[.int .i64 a0_0, .int .i64 a0_1, .int .i64 a0_2, .int .i64 a0_3], .agg #[.int .i64 a1_0, .int .i64 a1_1, .int .i64 a1_2, .int .i64 a1_3]] w fun e w' => e = .returned (.bool r) /\ Below w.heap.size w w' := by
 have hu66 := Tryd.underlying66
 have hu64 := Tryd.underlying64
 have HB := Aside0.mk (Below.refl w.heap.size w)
 have H := h
 clear h
 unfold laws_eqLogEntry.f at H
 replace H := ifQ H; rcases H with ⟨c3, H⟩ | ⟨c3, H⟩
 · have c3b0 := beq_iff_eq.mpr c3
   have c3b1 := bne_eq_false_iff_eq.mpr c3
   clear c3
   replace H := bindA H; obtain ⟨t105, A4, H⟩ := H
   replace H := ifX H; rcases H with ⟨rfl, H⟩ | ⟨rfl, H⟩
   · obtain rfl := Option.some.inj H
     go_enter Tryd.func38, Tryd.ntmps38
     go_wp2_with (first | ((with_reducible refine gate_dst (N := 2) rfl ?_); refine boxE (cs := #[.int .i64 a0_0, .int .i64 a0_1, .int .i64 a0_2, .int .i64 a0_3]) (t := 66) ?_; intro gb103 hg w6 hbox hb; refine E4b HB.1 hg hbox hb ?_; clear HB; intro HB BK103 GW103 GE103; clear hb hbox hg) | ((with_reducible refine gate_dst (N := 3) rfl ?_); refine boxE (cs := #[.int .i64 a1_0, .int .i64 a1_1, .int .i64 a1_2, .int .i64 a1_3]) (t := 66) ?_; intro gb104 hg w7 hbox hb; refine E7 (bB BK103.1 hb) (bS HB.1 hb) (hbox) (gX HB.1 hg) (gX HB.1 hg) (nB BK103.1 hg) (nC BK103.1 hg) ?_; clear BK103 HB; intro BK103 HB BK104 GW104 GE104 NB103_104 NB104_103; clear hb hbox hg; have hnb8 := NB103_104.1; have hnc8 := NB104_103.1; obtain ⟨hcz9_0, hcz9_1, hcz9_2, hcz9_3, hfz9_0, hfz9_1, hfz9_2, hfz9_3⟩ := cz4 BK103.1; obtain ⟨hcz10_0, hcz10_1, hcz10_2, hcz10_3, hfz10_0, hfz10_1, hfz10_2, hfz10_3⟩ := cz4 BK104.1) | ((with_reducible refine gate_callee (f := 59) rfl ?_); refine goesM (N := (some 14)) #[.agg #[.int .i64 a0_1, .int .i64 a0_2, .int .i64 a0_3], .agg #[.int .i64 a1_1, .int .i64 a1_2, .int .i64 a1_3]] Tryd.func59 ?_; (with_reducible refine (laws_eqFall.calls a0_1 a0_2 a0_3 a1_1 a1_2 a1_3 true _ A4.1).mono ?_); rintro e w11 ⟨rfl, hb⟩; refine ⟨_, rfl, ?_⟩; refine E3 (bB BK103.1 hb) (bB BK104.1 hb) (bS HB.1 hb) ?_; clear BK103 BK104 HB; intro BK103 BK104 HB; (try clear hb)))
     go_ret
     exact ⟨RF, BL HB.1⟩
   obtain rfl := Option.some.inj H
   go_enter Tryd.func38, Tryd.ntmps38
   go_wp2_with (first | ((with_reducible refine gate_dst (N := 2) rfl ?_); refine boxE (cs := #[.int .i64 a0_0, .int .i64 a0_1, .int .i64 a0_2, .int .i64 a0_3]) (t := 66) ?_; intro gb103 hg w12 hbox hb; refine E4b HB.1 hg hbox hb ?_; clear HB; intro HB BK103 GW103 GE103; clear hb hbox hg) | ((with_reducible refine gate_dst (N := 3) rfl ?_); refine boxE (cs := #[.int .i64 a1_0, .int .i64 a1_1, .int .i64 a1_2, .int .i64 a1_3]) (t := 66) ?_; intro gb104 hg w13 hbox hb; refine E7 (bB BK103.1 hb) (bS HB.1 hb) (hbox) (gX HB.1 hg) (gX HB.1 hg) (nB BK103.1 hg) (nC BK103.1 hg) ?_; clear BK103 HB; intro BK103 HB BK104 GW104 GE104 NB103_104 NB104_103; clear hb hbox hg; have hnb14 := NB103_104.1; have hnc14 := NB104_103.1; obtain ⟨hcz15_0, hcz15_1, hcz15_2, hcz15_3, hfz15_0, hfz15_1, hfz15_2, hfz15_3⟩ := cz4 BK103.1; obtain ⟨hcz16_0, hcz16_1, hcz16_2, hcz16_3, hfz16_0, hfz16_1, hfz16_2, hfz16_3⟩ := cz4 BK104.1) | ((with_reducible refine gate_callee (f := 59) rfl ?_); refine goesM (N := (some 14)) #[.agg #[.int .i64 a0_1, .int .i64 a0_2, .int .i64 a0_3], .agg #[.int .i64 a1_1, .int .i64 a1_2, .int .i64 a1_3]] Tryd.func59 ?_; (with_reducible refine (laws_eqFall.calls a0_1 a0_2 a0_3 a1_1 a1_2 a1_3 false _ A4.1).mono ?_); rintro e w17 ⟨rfl, hb⟩; refine ⟨_, rfl, ?_⟩; refine E3 (bB BK103.1 hb) (bB BK104.1 hb) (bS HB.1 hb) ?_; clear BK103 BK104 HB; intro BK103 BK104 HB; (try clear hb)))
   go_ret
   exact ⟨RF, BL HB.1⟩
 have c3b0 := beq_eq_false_iff_ne.mpr c3
 have c3b1 := bne_iff_ne.mpr c3
 obtain rfl := Option.some.inj H
 go_enter Tryd.func38, Tryd.ntmps38
 go_wp2_with (first | ((with_reducible refine gate_dst (N := 2) rfl ?_); refine boxE (cs := #[.int .i64 a0_0, .int .i64 a0_1, .int .i64 a0_2, .int .i64 a0_3]) (t := 66) ?_; intro gb103 hg w18 hbox hb; refine E4b HB.1 hg hbox hb ?_; clear HB; intro HB BK103 GW103 GE103; clear hb hbox hg) | ((with_reducible refine gate_dst (N := 3) rfl ?_); refine boxE (cs := #[.int .i64 a1_0, .int .i64 a1_1, .int .i64 a1_2, .int .i64 a1_3]) (t := 66) ?_; intro gb104 hg w19 hbox hb; refine E7 (bB BK103.1 hb) (bS HB.1 hb) (hbox) (gX HB.1 hg) (gX HB.1 hg) (nB BK103.1 hg) (nC BK103.1 hg) ?_; clear BK103 HB; intro BK103 HB BK104 GW104 GE104 NB103_104 NB104_103; clear hb hbox hg; have hnb20 := NB103_104.1; have hnc20 := NB104_103.1; obtain ⟨hcz21_0, hcz21_1, hcz21_2, hcz21_3, hfz21_0, hfz21_1, hfz21_2, hfz21_3⟩ := cz4 BK103.1; obtain ⟨hcz22_0, hcz22_1, hcz22_2, hcz22_3, hfz22_0, hfz22_1, hfz22_2, hfz22_3⟩ := cz4 BK104.1))
 go_ret
 exact ⟨RF, BL HB.1⟩
/-! ### laws_eqLogEntryS: function 16 -/
open Kd
def laws_eqLogEntryS.l0 : Nat -> List (S66) -> List (S66) -> Int -> Option (Bool)
 | 0, _, _, _ => none
 | k + 1, x0, x1, x5 => if x5 < (x0.length : Int) then (if 0 <= x5 then (if x5 < (x1.length : Int) then ((laws_eqLogEntry.f ((rd_T66 x0 x5).f0) ((rd_T66 x0 x5).f1.f0) ((rd_T66 x0 x5).f1.f1) ((rd_T66 x0 x5).f1.f2) ((rd_T66 x1 x5).f0) ((rd_T66 x1 x5).f1.f0) ((rd_T66 x1 x5).f1.f1) ((rd_T66 x1 x5).f1.f2)).bind fun t108 => (if t108 = true then (laws_eqLogEntryS.l0 k x0 x1 (wrap64 (x5 + 1))) else (some false))) else (none)) else (none)) else (some true)
def laws_eqLogEntryS.f (k : Nat) (l0 : List (S66)) (l1 : List (S66)) : Option (Bool) := if (l0.length : Int) = (l1.length : Int) then (laws_eqLogEntryS.l0 k l0 l1 0) else (some false)
theorem laws_eqLogEntryS.mono_l : ∀ k, (∀ y0 y1 y2, LeO (laws_eqLogEntryS.l0 k y0 y1 y2) (laws_eqLogEntryS.l0 (k + 1) y0 y1 y2))
 | 0 => fun _ _ _ r h => by simp [laws_eqLogEntryS.l0] at h
 | k + 1 => by
  have ih0 := laws_eqLogEntryS.mono_l k
  intros
  first | unfold laws_eqLogEntryS.l0
  exact LM1 ih0
theorem laws_eqLogEntryS.mono : ∀ a0 a1 k, LeO (laws_eqLogEntryS.f k a0 a1) (laws_eqLogEntryS.f (k + 1) a0 a1) := by
 intro a0 a1 k
 have ih0 := laws_eqLogEntryS.mono_l k
 unfold laws_eqLogEntryS.f
 exact LM1 ih0
def laws_eqLogEntryS.T6 : Bool × List (List Nat × List Nat) := (true, [([], []), ([], []), ([0, 1], [0, 1]), ([2], [2]), ([], []), ([], []), ([4, 5], [4, 5]), ([6], [6]), ([3, 7], [3, 7]), ([8], [8])])
def laws_eqLogEntryS.B6 : List Nat := [0, 0, 3, 7, 0, 0, 48, 112, 255, 511]
theorem laws_eqLogEntryS.tab6 : rtab .any (opsOf Tryd.f16 6) = laws_eqLogEntryS.T6 := by kernel_rfl
theorem laws_eqLogEntryS.bits6 : waitsOk laws_eqLogEntryS.T6.2 laws_eqLogEntryS.B6 = true := by kernel_rfl
theorem laws_eqLogEntryS.calls (k : Nat) (A0 : Option Addr) (c0 : Nat) (l0 : List (S66)) (A1 : Option Addr) (c1 : Nat) (l1 : List (S66)) (r : Bool) (w : World) (hr0 : Kd.C k66 w A0 l0.length l0) (hc0 : l0.length <= c0) (hr1 : Kd.C k66 w A1 l1.length l1) (hc1 : l1.length <= c1) (h : laws_eqLogEntryS.f k l0 l1 = some r) :
 Calls Tryd.prog 16 #[.slice A0 l0.length c0, .slice A1 l1.length c1] w fun e w' => e = .returned (.bool r) /\ Below w.heap.size w w' := by
 have hu66 := Tryd.underlying66
 have HR0 := Aside0.mk hr0
 have HC0 := Aside0.mk hc0
 clear hr0 hc0
 have HR1 := Aside0.mk hr1
 have HC1 := Aside0.mk hc1
 clear hr1 hc1
 have HB := Aside0.mk (Below.refl w.heap.size w)
 have H := h
 clear h
 unfold laws_eqLogEntryS.f at H
 replace H := ifQ H; rcases H with ⟨c3, H⟩ | ⟨c3, H⟩
 · have c3b0 := beq_iff_eq.mpr c3
   have c3b1 := bne_eq_false_iff_eq.mpr c3
   have c3b2 : (l0.length == l1.length) = true := by first | simpa using c3 | (simp at c3 ⊢; omega)
   clear c3
   have H' := Aside0.mk H
   clear H
   go_enter Tryd.func16, Tryd.ntmps16
   go_wp2
   go_loopg [5] k (fun kq v5 w' => ∃ (x5_1 : Int), v5 = .int .i64 x5_1 /\ Aside0 (laws_eqLogEntryS.l0 kq l0 l1 x5_1 = some r) /\ Aside0 (kq <= k) /\ Aside0 (Below w.heap.size w w'))
   case atStart => exact ⟨(0), RG, H', ⟨Nat.le_refl _⟩, ⟨BL HB.1⟩⟩
   clear H'
   try clear c1; clear c3b0 c3b1 c3b2
   obtain ⟨x5_1, rfl, HA, HK1, HB⟩ := hrel
   cases gk with
   | zero => exact absurd HA.1 (by simp [laws_eqLogEntryS.l0])
   | succ k1 => ?_
   have H := HA.1
   clear HA
   simp only [laws_eqLogEntryS.l0] at H
   replace H := ifB H; rcases H with ⟨c4b0, H⟩ | ⟨c4b0, H⟩
   · replace H := ifN H; obtain ⟨c5b0, H⟩ := H
     replace H := ifN H; obtain ⟨c6b0, H⟩ := H
     replace H := bindA H; obtain ⟨t108, A7, H⟩ := H
     replace H := ifX H; rcases H with ⟨rfl, H⟩ | ⟨rfl, H⟩
     · have H' := Aside0.mk H
       clear H
       try go_wp2
       refine E1 (below_drew1 HB.1) ?_
       clear HB
       intro HB
       have p106 : 0 <= (x5_1 : Int) := OD
       have q106 : x5_1 < (l0.length : Int) := OD
       obtain ⟨ad106, e106, hx106_0, hx106_1, hx106_2, hx106_3⟩ := at_T66 HR0.1 x5_1 p106 q106
       have hw106_3 := hx106_3
       have hw106_2 := hx106_2
       have hw106_1 := hx106_1
       have hw106_0 := hx106_0
       cases e106
       replace hx106_0 := (HB.1.cell (World.block_lt_of_cell? w _ hx106_0)).trans hx106_0
       replace hx106_1 := (HB.1.cell (World.block_lt_of_cell? w _ hx106_1)).trans hx106_1
       replace hx106_2 := (HB.1.cell (World.block_lt_of_cell? w _ hx106_2)).trans hx106_2
       replace hx106_3 := (HB.1.cell (World.block_lt_of_cell? w _ hx106_3)).trans hx106_3
       replace p106 := eq_true p106
       replace q106 := eq_true q106
       have p107 : 0 <= (x5_1 : Int) := OD
       have q107 : x5_1 < (l1.length : Int) := OD
       obtain ⟨ad107, e107, hx107_0, hx107_1, hx107_2, hx107_3⟩ := at_T66 HR1.1 x5_1 p107 q107
       have hw107_3 := hx107_3
       have hw107_2 := hx107_2
       have hw107_1 := hx107_1
       have hw107_0 := hx107_0
       cases e107
       replace hx107_0 := (HB.1.cell (World.block_lt_of_cell? w _ hx107_0)).trans hx107_0
       replace hx107_1 := (HB.1.cell (World.block_lt_of_cell? w _ hx107_1)).trans hx107_1
       replace hx107_2 := (HB.1.cell (World.block_lt_of_cell? w _ hx107_2)).trans hx107_2
       replace hx107_3 := (HB.1.cell (World.block_lt_of_cell? w _ hx107_3)).trans hx107_3
       replace p107 := eq_true p107
       replace q107 := eq_true q107
       refine start_ (n := 10) (S := fun w' => w'.cell? (ad106.add ((x5_1).toNat * 4)) = some (.int .i64 ((rd_T66 l0 x5_1).f0)) /\ w'.cell? ⟨(ad106.add ((x5_1).toNat * 4)).block, (ad106.add ((x5_1).toNat * 4)).off + 1, none⟩ = some (.int .i64 ((rd_T66 l0 x5_1).f1.f0)) /\ w'.cell? ⟨(ad106.add ((x5_1).toNat * 4)).block, (ad106.add ((x5_1).toNat * 4)).off + 2, none⟩ = some (.int .i64 ((rd_T66 l0 x5_1).f1.f1)) /\ w'.cell? ⟨(ad106.add ((x5_1).toNat * 4)).block, (ad106.add ((x5_1).toNat * 4)).off + 3, none⟩ = some (.int .i64 ((rd_T66 l0 x5_1).f1.f2)) /\ w'.cell? (ad107.add ((x5_1).toNat * 4)) = some (.int .i64 ((rd_T66 l1 x5_1).f0)) /\ w'.cell? ⟨(ad107.add ((x5_1).toNat * 4)).block, (ad107.add ((x5_1).toNat * 4)).off + 1, none⟩ = some (.int .i64 ((rd_T66 l1 x5_1).f1.f0)) /\ w'.cell? ⟨(ad107.add ((x5_1).toNat * 4)).block, (ad107.add ((x5_1).toNat * 4)).off + 2, none⟩ = some (.int .i64 ((rd_T66 l1 x5_1).f1.f1)) /\ w'.cell? ⟨(ad107.add ((x5_1).toNat * 4)).block, (ad107.add ((x5_1).toNat * 4)).off + 3, none⟩ = some (.int .i64 ((rd_T66 l1 x5_1).f1.f2))) (ds := []) #[Zz,Zz,Zz,Zz,Zz,Zz,Zz,Zz,Zz,Zz] (by kernel_rfl) rfl rfl ⟨((HB.1.cell (World.block_lt_of_cell? w _ hw106_0)).trans hw106_0), ((HB.1.cell (World.block_lt_of_cell? w _ hw106_1)).trans hw106_1), ((HB.1.cell (World.block_lt_of_cell? w _ hw106_2)).trans hw106_2), ((HB.1.cell (World.block_lt_of_cell? w _ hw106_3)).trans hw106_3), ((HB.1.cell (World.block_lt_of_cell? w _ hw107_0)).trans hw107_0), ((HB.1.cell (World.block_lt_of_cell? w _ hw107_1)).trans hw107_1), ((HB.1.cell (World.block_lt_of_cell? w _ hw107_2)).trans hw107_2), ((HB.1.cell (World.block_lt_of_cell? w _ hw107_3)).trans hw107_3)⟩ (fun hHeld => ?_); refine with_tabW laws_eqLogEntryS.tab6 laws_eqLogEntryS.bits6 (fun HT_ HW_ => ?_)
       generalize wr.drew = w9 at HB hx106_0 hx106_1 hx106_2 hx106_3 hx107_0 hx107_1 hx107_2 hx107_3 hHeld ⊢
       refine pureF 0 (N := some 17) HT_.1 ?_
       refine pureF 1 (N := some 18) HT_.1 ?_
       refine pureF 2 (N := some 19) HT_.1 ?_
       refine pureF 4 (N := some 21) HT_.1 ?_
       refine pureF 5 (N := some 22) HT_.1 ?_
       refine pureF 6 (N := some 23) HT_.1 ?_
       refine takeE 3 (N := some 20) HT_.1 HW_.1 hHeld ?_
       refine takeE 7 (N := some 24) HT_.1 HW_.1 hHeld ?_
       refine one_ (i := 8) (N := some 25) #[Yy,Yy,Yy,Yy,Yy,Yy,Yy,Yy,Yy,Zz] rfl rfl (one_of HT_.1 (by kernel_rfl)) (by decide) (fun K hK => ?_)
       refine goes_ Tryd.func38 (by kernel_rfl) rfl #[.agg #[.int .i64 ((rd_T66 l0 x5_1).f0), .int .i64 ((rd_T66 l0 x5_1).f1.f0), .int .i64 ((rd_T66 l0 x5_1).f1.f1), .int .i64 ((rd_T66 l0 x5_1).f1.f2)], .agg #[.int .i64 ((rd_T66 l1 x5_1).f0), .int .i64 ((rd_T66 l1 x5_1).f1.f0), .int .i64 ((rd_T66 l1 x5_1).f1.f1), .int .i64 ((rd_T66 l1 x5_1).f1.f2)]] (by rfl) rfl rfl (by (try simp only [List.map_toArray, List.map_cons, List.map_nil]); first | done | rfl | (simp only [List.length_drop, List.length_take]; rfl)) ?_
       with_reducible refine (laws_eqLogEntry.calls ((rd_T66 l0 x5_1).f0) ((rd_T66 l0 x5_1).f1.f0) ((rd_T66 l0 x5_1).f1.f1) ((rd_T66 l0 x5_1).f1.f2) ((rd_T66 l1 x5_1).f0) ((rd_T66 l1 x5_1).f1.f0) ((rd_T66 l1 x5_1).f1.f1) ((rd_T66 l1 x5_1).f1.f2) true _ A7.1).mono ?_
       rintro e w10 ⟨rfl, hb⟩
       refine ⟨_, rfl, ?_⟩
       refine E1 (bS HB.1 hb) ?_
       clear HB
       intro HB
       (try clear hb)
       (try clear hb2)
       (try clear hk)
       (try clear hi)
       refine hK.out _ _ ⟨((HB.1.cell (World.block_lt_of_cell? w _ hw106_0)).trans hw106_0), ((HB.1.cell (World.block_lt_of_cell? w _ hw106_1)).trans hw106_1), ((HB.1.cell (World.block_lt_of_cell? w _ hw106_2)).trans hw106_2), ((HB.1.cell (World.block_lt_of_cell? w _ hw106_3)).trans hw106_3), ((HB.1.cell (World.block_lt_of_cell? w _ hw107_0)).trans hw107_0), ((HB.1.cell (World.block_lt_of_cell? w _ hw107_1)).trans hw107_1), ((HB.1.cell (World.block_lt_of_cell? w _ hw107_2)).trans hw107_2), ((HB.1.cell (World.block_lt_of_cell? w _ hw107_3)).trans hw107_3)⟩ (fun hHeld => ?_)
       clear hK K
       refine norm_ (a' := ?_) ?_ ?_
       rotate_left
       · show Act.put _ (some 25) _ = _
         simp only [Act.put, List.setIfInBounds_toArray, List.set_cons_zero, List.set_cons_succ, i64_w, i32_w]
         rfl
       refine pureF 9 (N := some 26) HT_.1 ?_
       refine done_ (done_of HT_.1 (by kernel_rfl)) ?_
       try go_wp2
       go_roundg k1
       case measure => have := HK1.1; omega
       case rel => exact ⟨(wrap64 (x5_1 + 1)), RG, H', ⟨by have := HK1.1; omega⟩, ⟨BL HB.1⟩⟩
     obtain rfl := Option.some.inj H
     try go_wp2
     refine E1 (below_drew1 HB.1) ?_
     clear HB
     intro HB
     have p106 : 0 <= (x5_1 : Int) := OD
     have q106 : x5_1 < (l0.length : Int) := OD
     obtain ⟨ad106, e106, hx106_0, hx106_1, hx106_2, hx106_3⟩ := at_T66 HR0.1 x5_1 p106 q106
     have hw106_3 := hx106_3
     have hw106_2 := hx106_2
     have hw106_1 := hx106_1
     have hw106_0 := hx106_0
     cases e106
     replace hx106_0 := (HB.1.cell (World.block_lt_of_cell? w _ hx106_0)).trans hx106_0
     replace hx106_1 := (HB.1.cell (World.block_lt_of_cell? w _ hx106_1)).trans hx106_1
     replace hx106_2 := (HB.1.cell (World.block_lt_of_cell? w _ hx106_2)).trans hx106_2
     replace hx106_3 := (HB.1.cell (World.block_lt_of_cell? w _ hx106_3)).trans hx106_3
     replace p106 := eq_true p106
     replace q106 := eq_true q106
     have p107 : 0 <= (x5_1 : Int) := OD
     have q107 : x5_1 < (l1.length : Int) := OD
     obtain ⟨ad107, e107, hx107_0, hx107_1, hx107_2, hx107_3⟩ := at_T66 HR1.1 x5_1 p107 q107
     have hw107_3 := hx107_3
     have hw107_2 := hx107_2
     have hw107_1 := hx107_1
     have hw107_0 := hx107_0
     cases e107
     replace hx107_0 := (HB.1.cell (World.block_lt_of_cell? w _ hx107_0)).trans hx107_0
     replace hx107_1 := (HB.1.cell (World.block_lt_of_cell? w _ hx107_1)).trans hx107_1
     replace hx107_2 := (HB.1.cell (World.block_lt_of_cell? w _ hx107_2)).trans hx107_2
     replace hx107_3 := (HB.1.cell (World.block_lt_of_cell? w _ hx107_3)).trans hx107_3
     replace p107 := eq_true p107
     replace q107 := eq_true q107
     refine start_ (n := 10) (S := fun w' => w'.cell? (ad106.add ((x5_1).toNat * 4)) = some (.int .i64 ((rd_T66 l0 x5_1).f0)) /\ w'.cell? ⟨(ad106.add ((x5_1).toNat * 4)).block, (ad106.add ((x5_1).toNat * 4)).off + 1, none⟩ = some (.int .i64 ((rd_T66 l0 x5_1).f1.f0)) /\ w'.cell? ⟨(ad106.add ((x5_1).toNat * 4)).block, (ad106.add ((x5_1).toNat * 4)).off + 2, none⟩ = some (.int .i64 ((rd_T66 l0 x5_1).f1.f1)) /\ w'.cell? ⟨(ad106.add ((x5_1).toNat * 4)).block, (ad106.add ((x5_1).toNat * 4)).off + 3, none⟩ = some (.int .i64 ((rd_T66 l0 x5_1).f1.f2)) /\ w'.cell? (ad107.add ((x5_1).toNat * 4)) = some (.int .i64 ((rd_T66 l1 x5_1).f0)) /\ w'.cell? ⟨(ad107.add ((x5_1).toNat * 4)).block, (ad107.add ((x5_1).toNat * 4)).off + 1, none⟩ = some (.int .i64 ((rd_T66 l1 x5_1).f1.f0)) /\ w'.cell? ⟨(ad107.add ((x5_1).toNat * 4)).block, (ad107.add ((x5_1).toNat * 4)).off + 2, none⟩ = some (.int .i64 ((rd_T66 l1 x5_1).f1.f1)) /\ w'.cell? ⟨(ad107.add ((x5_1).toNat * 4)).block, (ad107.add ((x5_1).toNat * 4)).off + 3, none⟩ = some (.int .i64 ((rd_T66 l1 x5_1).f1.f2))) (ds := []) #[Zz,Zz,Zz,Zz,Zz,Zz,Zz,Zz,Zz,Zz] (by kernel_rfl) rfl rfl ⟨((HB.1.cell (World.block_lt_of_cell? w _ hw106_0)).trans hw106_0), ((HB.1.cell (World.block_lt_of_cell? w _ hw106_1)).trans hw106_1), ((HB.1.cell (World.block_lt_of_cell? w _ hw106_2)).trans hw106_2), ((HB.1.cell (World.block_lt_of_cell? w _ hw106_3)).trans hw106_3), ((HB.1.cell (World.block_lt_of_cell? w _ hw107_0)).trans hw107_0), ((HB.1.cell (World.block_lt_of_cell? w _ hw107_1)).trans hw107_1), ((HB.1.cell (World.block_lt_of_cell? w _ hw107_2)).trans hw107_2), ((HB.1.cell (World.block_lt_of_cell? w _ hw107_3)).trans hw107_3)⟩ (fun hHeld => ?_); refine with_tabW laws_eqLogEntryS.tab6 laws_eqLogEntryS.bits6 (fun HT_ HW_ => ?_)
     generalize wr.drew = w11 at HB hx106_0 hx106_1 hx106_2 hx106_3 hx107_0 hx107_1 hx107_2 hx107_3 hHeld ⊢
     refine pureF 0 (N := some 17) HT_.1 ?_
     refine pureF 1 (N := some 18) HT_.1 ?_
     refine pureF 2 (N := some 19) HT_.1 ?_
     refine pureF 4 (N := some 21) HT_.1 ?_
     refine pureF 5 (N := some 22) HT_.1 ?_
     refine pureF 6 (N := some 23) HT_.1 ?_
     refine takeE 3 (N := some 20) HT_.1 HW_.1 hHeld ?_
     refine takeE 7 (N := some 24) HT_.1 HW_.1 hHeld ?_
     refine one_ (i := 8) (N := some 25) #[Yy,Yy,Yy,Yy,Yy,Yy,Yy,Yy,Yy,Zz] rfl rfl (one_of HT_.1 (by kernel_rfl)) (by decide) (fun K hK => ?_)
     refine goes_ Tryd.func38 (by kernel_rfl) rfl #[.agg #[.int .i64 ((rd_T66 l0 x5_1).f0), .int .i64 ((rd_T66 l0 x5_1).f1.f0), .int .i64 ((rd_T66 l0 x5_1).f1.f1), .int .i64 ((rd_T66 l0 x5_1).f1.f2)], .agg #[.int .i64 ((rd_T66 l1 x5_1).f0), .int .i64 ((rd_T66 l1 x5_1).f1.f0), .int .i64 ((rd_T66 l1 x5_1).f1.f1), .int .i64 ((rd_T66 l1 x5_1).f1.f2)]] (by rfl) rfl rfl (by (try simp only [List.map_toArray, List.map_cons, List.map_nil]); first | done | rfl | (simp only [List.length_drop, List.length_take]; rfl)) ?_
     with_reducible refine (laws_eqLogEntry.calls ((rd_T66 l0 x5_1).f0) ((rd_T66 l0 x5_1).f1.f0) ((rd_T66 l0 x5_1).f1.f1) ((rd_T66 l0 x5_1).f1.f2) ((rd_T66 l1 x5_1).f0) ((rd_T66 l1 x5_1).f1.f0) ((rd_T66 l1 x5_1).f1.f1) ((rd_T66 l1 x5_1).f1.f2) false _ A7.1).mono ?_
     rintro e w12 ⟨rfl, hb⟩
     refine ⟨_, rfl, ?_⟩
     refine E1 (bS HB.1 hb) ?_
     clear HB
     intro HB
     (try clear hb)
     (try clear hb2)
     (try clear hk)
     (try clear hi)
     refine hK.out _ _ ⟨((HB.1.cell (World.block_lt_of_cell? w _ hw106_0)).trans hw106_0), ((HB.1.cell (World.block_lt_of_cell? w _ hw106_1)).trans hw106_1), ((HB.1.cell (World.block_lt_of_cell? w _ hw106_2)).trans hw106_2), ((HB.1.cell (World.block_lt_of_cell? w _ hw106_3)).trans hw106_3), ((HB.1.cell (World.block_lt_of_cell? w _ hw107_0)).trans hw107_0), ((HB.1.cell (World.block_lt_of_cell? w _ hw107_1)).trans hw107_1), ((HB.1.cell (World.block_lt_of_cell? w _ hw107_2)).trans hw107_2), ((HB.1.cell (World.block_lt_of_cell? w _ hw107_3)).trans hw107_3)⟩ (fun hHeld => ?_)
     clear hK K
     refine norm_ (a' := ?_) ?_ ?_
     rotate_left
     · show Act.put _ (some 25) _ = _
       simp only [Act.put, List.setIfInBounds_toArray, List.set_cons_zero, List.set_cons_succ, i64_w, i32_w]
       rfl
     refine pureF 9 (N := some 26) HT_.1 ?_
     refine done_ (done_of HT_.1 (by kernel_rfl)) ?_
     try go_wp2
     go_ret
     exact ⟨RF, BL HB.1⟩
   obtain rfl := Option.some.inj H
   go_wp2
   go_ret
   exact ⟨RF, BL HB.1⟩
 have c3b0 := beq_eq_false_iff_ne.mpr c3
 have c3b1 := bne_iff_ne.mpr c3
 have c3b2 : (l0.length == l1.length) = false := by first | simpa using c3 | (simp at c3 ⊢; omega)
 obtain rfl := Option.some.inj H
 go_enter Tryd.func16, Tryd.ntmps16
 go_wp2
 go_ret
 exact ⟨RF, BL HB.1⟩
/-! ### spec_l1In: function 60 -/
open Kd
def spec_l1In.f (a0 : Int) (a1 : Int) (a2 : Int) : Option (Bool) := if a0 ≥ a1 then (some (decide (a0 <= a2))) else (some false)
theorem spec_l1In.calls (a0 : Int) (a1 : Int) (a2 : Int) (r : Bool) (w : World) (h : spec_l1In.f a0 a1 a2 = some r) :
 Calls Tryd.prog 60 #[.int .i64 a0, .int .i64 a1, .int .i64 a2] w fun e w' => e = .returned (.bool r) /\ Drawn0 w w' := by
 have H := h
 clear h
 unfold spec_l1In.f at H
 replace H := ifQ H; rcases H with ⟨c4, H⟩ | ⟨c4, H⟩
 · have c4b0 : decide (a1 <= a0) = true := decide_eq_true c4
   clear c4
   obtain rfl := Option.some.inj H
   go_enter Tryd.func60, Tryd.ntmps60
   go_wp2
   go_ret
   exact ⟨RG, DR⟩
 have c4b0 : decide (a1 <= a0) = false := decide_eq_false c4
 clear c4
 obtain rfl := Option.some.inj H
 go_enter Tryd.func60, Tryd.ntmps60
 go_wp2
 go_ret
 exact ⟨RG, DR⟩
/-! ### spec_loEntry: function 57 -/
open Kd
def spec_loEntry.f (a0_0 : Int) (a0_1 : Int) (a0_2 : Int) (a0_3 : Int) : Option (Bool) := (spec_l1In.f a0_0 0 1).bind fun t110 => (if t110 = true then ((spec_l1In.f a0_1 1 3).bind fun t111 => (if t111 = true then ((spec_l1In.f a0_2 0 10).bind fun t112 => (if t112 = true then ((spec_l1In.f a0_3 (-1) 9).bind fun t113 => (some t113)) else (some false))) else (some false))) else (some false))
theorem spec_loEntry.calls (a0_0 : Int) (a0_1 : Int) (a0_2 : Int) (a0_3 : Int) (r : Bool) (w : World) (h : spec_loEntry.f a0_0 a0_1 a0_2 a0_3 = some r) :
 Calls Tryd.prog 57 #[.agg #[.int .i64 a0_0, .int .i64 a0_1, .int .i64 a0_2, .int .i64 a0_3]] w fun e w' => e = .returned (.bool r) /\ Below w.heap.size w w' := by
 have hu66 := Tryd.underlying66
 have HB := Aside0.mk (Below.refl w.heap.size w)
 have H := h
 clear h
 unfold spec_loEntry.f at H
 replace H := bindA H; obtain ⟨t110, A2, H⟩ := H
 replace H := ifX H; rcases H with ⟨rfl, H⟩ | ⟨rfl, H⟩
 · replace H := bindA H; obtain ⟨t111, A4, H⟩ := H
   replace H := ifX H; rcases H with ⟨rfl, H⟩ | ⟨rfl, H⟩
   · replace H := bindA H; obtain ⟨t112, A6, H⟩ := H
     replace H := ifX H; rcases H with ⟨rfl, H⟩ | ⟨rfl, H⟩
     · replace H := bindA H; obtain ⟨t113, A8, H⟩ := H
       obtain rfl := Option.some.inj H
       go_enter Tryd.func57, Tryd.ntmps57
       go_wp2_with (first | ((with_reducible refine gate_dst (N := 1) rfl ?_); refine boxE (cs := #[.int .i64 a0_0, .int .i64 a0_1, .int .i64 a0_2, .int .i64 a0_3]) (t := 66) ?_; intro gb109 hg w9 hbox hb; refine E4b HB.1 hg hbox hb ?_; clear HB; intro HB BK109 GW109 GE109; clear hb hbox hg; obtain ⟨hcz10_0, hcz10_1, hcz10_2, hcz10_3, hfz10_0, hfz10_1, hfz10_2, hfz10_3⟩ := cz4 BK109.1) | ((with_reducible refine gate_callee (f := 60) rfl ?_); refine goesM (N := (some 5)) #[.int .i64 a0_0, .int .i64 0, .int .i64 1] Tryd.func60 ?_; (with_reducible refine (spec_l1In.calls a0_0 0 1 true _ A2.1).mono ?_); rintro e w' ⟨rfl, ⟨nd, rfl⟩⟩; refine ⟨_, rfl, ?_⟩) | (go_at_call 60; (with_reducible refine (spec_l1In.calls a0_1 1 3 true _ A4.1).mono ?_); rintro e w' ⟨rfl, ⟨nd, rfl⟩⟩) | (go_at_call 60; (with_reducible refine (spec_l1In.calls a0_2 0 10 true _ A6.1).mono ?_); rintro e w' ⟨rfl, ⟨nd, rfl⟩⟩) | (go_at_call 60; (with_reducible refine (spec_l1In.calls a0_3 (-1) 9 t113 _ A8.1).mono ?_); rintro e w' ⟨rfl, ⟨nd, rfl⟩⟩))
       go_ret
       exact ⟨RF, BL HB.1⟩
     obtain rfl := Option.some.inj H
     go_enter Tryd.func57, Tryd.ntmps57
     go_wp2_with (first | ((with_reducible refine gate_dst (N := 1) rfl ?_); refine boxE (cs := #[.int .i64 a0_0, .int .i64 a0_1, .int .i64 a0_2, .int .i64 a0_3]) (t := 66) ?_; intro gb109 hg w11 hbox hb; refine E4b HB.1 hg hbox hb ?_; clear HB; intro HB BK109 GW109 GE109; clear hb hbox hg; obtain ⟨hcz12_0, hcz12_1, hcz12_2, hcz12_3, hfz12_0, hfz12_1, hfz12_2, hfz12_3⟩ := cz4 BK109.1) | ((with_reducible refine gate_callee (f := 60) rfl ?_); refine goesM (N := (some 5)) #[.int .i64 a0_0, .int .i64 0, .int .i64 1] Tryd.func60 ?_; (with_reducible refine (spec_l1In.calls a0_0 0 1 true _ A2.1).mono ?_); rintro e w' ⟨rfl, ⟨nd, rfl⟩⟩; refine ⟨_, rfl, ?_⟩) | (go_at_call 60; (with_reducible refine (spec_l1In.calls a0_1 1 3 true _ A4.1).mono ?_); rintro e w' ⟨rfl, ⟨nd, rfl⟩⟩) | (go_at_call 60; (with_reducible refine (spec_l1In.calls a0_2 0 10 false _ A6.1).mono ?_); rintro e w' ⟨rfl, ⟨nd, rfl⟩⟩))
     go_ret
     exact ⟨RF, BL HB.1⟩
   obtain rfl := Option.some.inj H
   go_enter Tryd.func57, Tryd.ntmps57
   go_wp2_with (first | ((with_reducible refine gate_dst (N := 1) rfl ?_); refine boxE (cs := #[.int .i64 a0_0, .int .i64 a0_1, .int .i64 a0_2, .int .i64 a0_3]) (t := 66) ?_; intro gb109 hg w13 hbox hb; refine E4b HB.1 hg hbox hb ?_; clear HB; intro HB BK109 GW109 GE109; clear hb hbox hg; obtain ⟨hcz14_0, hcz14_1, hcz14_2, hcz14_3, hfz14_0, hfz14_1, hfz14_2, hfz14_3⟩ := cz4 BK109.1) | ((with_reducible refine gate_callee (f := 60) rfl ?_); refine goesM (N := (some 5)) #[.int .i64 a0_0, .int .i64 0, .int .i64 1] Tryd.func60 ?_; (with_reducible refine (spec_l1In.calls a0_0 0 1 true _ A2.1).mono ?_); rintro e w' ⟨rfl, ⟨nd, rfl⟩⟩; refine ⟨_, rfl, ?_⟩) | (go_at_call 60; (with_reducible refine (spec_l1In.calls a0_1 1 3 false _ A4.1).mono ?_); rintro e w' ⟨rfl, ⟨nd, rfl⟩⟩))
   go_ret
   exact ⟨RF, BL HB.1⟩
 obtain rfl := Option.some.inj H
 go_enter Tryd.func57, Tryd.ntmps57
 go_wp2_with (first | ((with_reducible refine gate_dst (N := 1) rfl ?_); refine boxE (cs := #[.int .i64 a0_0, .int .i64 a0_1, .int .i64 a0_2, .int .i64 a0_3]) (t := 66) ?_; intro gb109 hg w15 hbox hb; refine E4b HB.1 hg hbox hb ?_; clear HB; intro HB BK109 GW109 GE109; clear hb hbox hg; obtain ⟨hcz16_0, hcz16_1, hcz16_2, hcz16_3, hfz16_0, hfz16_1, hfz16_2, hfz16_3⟩ := cz4 BK109.1) | ((with_reducible refine gate_callee (f := 60) rfl ?_); refine goesM (N := (some 5)) #[.int .i64 a0_0, .int .i64 0, .int .i64 1] Tryd.func60 ?_; (with_reducible refine (spec_l1In.calls a0_0 0 1 false _ A2.1).mono ?_); rintro e w' ⟨rfl, ⟨nd, rfl⟩⟩; refine ⟨_, rfl, ?_⟩))
 go_ret
 exact ⟨RF, BL HB.1⟩

/-! ### spec_loGood: function 34 -/
open Kd
def spec_loGood.l0 : Nat -> List (S66) -> List (S66) -> Int -> Int -> Option (Bool)
 | 0, _, _, _, _ => none
 | k + 1, x0, x5, x6, x7 => if x7 < x6 then (if 0 <= x7 then (if x7 < (x5.length : Int) then ((spec_loEntry.f ((rd_T66 x5 x7).f0) ((rd_T66 x5 x7).f1.f0) ((rd_T66 x5 x7).f1.f1) ((rd_T66 x5 x7).f1.f2)).bind fun t116 => (if t116 = true then (spec_loGood.l0 k x0 x5 x6 (wrap64 (x7 + 1))) else (some false))) else (none)) else (none)) else (some (decide ((x0.length : Int) <= 60)))
def spec_loGood.f (k : Nat) (l0 : List (S66)) : Option (Bool) := spec_loGood.l0 k l0 l0 (l0.length : Int) 0
theorem spec_loGood.mono_l : ∀ k, (∀ y0 y1 y2 y3, LeO (spec_loGood.l0 k y0 y1 y2 y3) (spec_loGood.l0 (k + 1) y0 y1 y2 y3))
 | 0 => fun _ _ _ _ r h => by simp [spec_loGood.l0] at h
 | k + 1 => by
  have ih0 := spec_loGood.mono_l k
  intros
  first | unfold spec_loGood.l0
  exact LM1 ih0
theorem spec_loGood.mono : ∀ a0 k, LeO (spec_loGood.f k a0) (spec_loGood.f (k + 1) a0) := by
 intro a0 k
 have ih0 := spec_loGood.mono_l k
 unfold spec_loGood.f
 exact LM1 ih0
theorem spec_loGood.calls (k : Nat) (A0 : Option Addr) (c0 : Nat) (l0 : List (S66)) (r : Bool) (w : World) (hr0 : Kd.C k66 w A0 l0.length l0) (hc0 : l0.length <= c0) (h : spec_loGood.f k l0 = some r) :
 Calls Tryd.prog 34 #[.slice A0 l0.length c0] w fun e w' => e = .returned (.bool r) /\ Below w.heap.size w w' := by
 have hu66 := Tryd.underlying66
 have HR0 := Aside0.mk hr0
 have HC0 := Aside0.mk hc0
 clear hr0 hc0
 have HB := Aside0.mk (Below.refl w.heap.size w)
 have H := h
 clear h
 unfold spec_loGood.f at H
 have H' := Aside0.mk H
 clear H
 go_enter Tryd.func34, Tryd.ntmps34
 go_wp2
 go_loopg [7] k (fun kq v7 w' => ∃ (x7_1 : Int), v7 = .int .i64 x7_1 /\ Aside0 (spec_loGood.l0 kq l0 l0 (l0.length : Int) x7_1 = some r) /\ Aside0 (kq <= k) /\ Aside0 (Below w.heap.size w w'))
 case atStart => exact ⟨(0), RG, H', ⟨Nat.le_refl _⟩, ⟨BL HB.1⟩⟩
 clear H'
 obtain ⟨x7_1, rfl, HA, HK1, HB⟩ := hrel
 cases gk with
 | zero => exact absurd HA.1 (by simp [spec_loGood.l0])
 | succ k1 => ?_
 have H := HA.1
 clear HA
 simp only [spec_loGood.l0] at H
 replace H := ifB H; rcases H with ⟨c2b0, H⟩ | ⟨c2b0, H⟩
 · replace H := ifN H; obtain ⟨c3b0, H⟩ := H
   replace H := ifN H; obtain ⟨c4b0, H⟩ := H
   replace H := bindA H; obtain ⟨t116, A5, H⟩ := H
   replace H := ifX H; rcases H with ⟨rfl, H⟩ | ⟨rfl, H⟩
   · have H' := Aside0.mk H
     clear H
     have p114 : 0 <= (x7_1 : Int) := OD
     have q114 : x7_1 < (l0.length : Int) := OD
     obtain ⟨ad114, e114, hx114_0, hx114_1, hx114_2, hx114_3⟩ := at_T66 HR0.1 x7_1 p114 q114
     cases e114
     replace hx114_0 := (HB.1.cell (World.block_lt_of_cell? w _ hx114_0)).trans hx114_0
     replace hx114_1 := (HB.1.cell (World.block_lt_of_cell? w _ hx114_1)).trans hx114_1
     replace hx114_2 := (HB.1.cell (World.block_lt_of_cell? w _ hx114_2)).trans hx114_2
     replace hx114_3 := (HB.1.cell (World.block_lt_of_cell? w _ hx114_3)).trans hx114_3
     replace p114 := eq_true p114
     replace q114 := eq_true q114
     go_wp2_with (first | ((with_reducible refine gate_dst (N := 4) rfl ?_); refine boxE (cs := #[.int .i64 0, .int .i64 0, .int .i64 0, .int .i64 0]) (t := 66) ?_; intro gb115 hg w7 hbox hb; refine E4b HB.1 hg hbox hb ?_; clear HB; intro HB BK115 GW115 GE115; clear hb hbox hg; obtain ⟨hcz8_0, hcz8_1, hcz8_2, hcz8_3, hfz8_0, hfz8_1, hfz8_2, hfz8_3⟩ := cz4 BK115.1) | ((with_reducible refine gate_callee (f := 57) rfl ?_); refine goesM (N := (some 12)) #[.agg #[.int .i64 ((rd_T66 l0 x7_1).f0), .int .i64 ((rd_T66 l0 x7_1).f1.f0), .int .i64 ((rd_T66 l0 x7_1).f1.f1), .int .i64 ((rd_T66 l0 x7_1).f1.f2)]] Tryd.func57 ?_; (with_reducible refine (spec_loEntry.calls ((rd_T66 l0 x7_1).f0) ((rd_T66 l0 x7_1).f1.f0) ((rd_T66 l0 x7_1).f1.f1) ((rd_T66 l0 x7_1).f1.f2) true _ A5.1).mono ?_); rintro e w9 ⟨rfl, hb⟩; refine ⟨_, rfl, ?_⟩; refine E2 (blk_below (g := gb115) (o := .cells #[.int .i64 ((rd_T66 l0 x7_1).f0), .int .i64 ((rd_T66 l0 x7_1).f1.f0), .int .i64 ((rd_T66 l0 x7_1).f1.f1), .int .i64 ((rd_T66 l0 x7_1).f1.f2)] 66 (0, 0)) (PF0 BK115.1) hb) (bS HB.1 hb) ?_; clear BK115 HB; intro BK115 HB; (try clear hb)))
     go_roundg k1
     case measure => have := HK1.1; omega
     case rel => exact ⟨(wrap64 (x7_1 + 1)), RG, H', ⟨by have := HK1.1; omega⟩, ⟨BL HB.1⟩⟩
   obtain rfl := Option.some.inj H
   have p114 : 0 <= (x7_1 : Int) := OD
   have q114 : x7_1 < (l0.length : Int) := OD
   obtain ⟨ad114, e114, hx114_0, hx114_1, hx114_2, hx114_3⟩ := at_T66 HR0.1 x7_1 p114 q114
   cases e114
   replace hx114_0 := (HB.1.cell (World.block_lt_of_cell? w _ hx114_0)).trans hx114_0
   replace hx114_1 := (HB.1.cell (World.block_lt_of_cell? w _ hx114_1)).trans hx114_1
   replace hx114_2 := (HB.1.cell (World.block_lt_of_cell? w _ hx114_2)).trans hx114_2
   replace hx114_3 := (HB.1.cell (World.block_lt_of_cell? w _ hx114_3)).trans hx114_3
   replace p114 := eq_true p114
   replace q114 := eq_true q114
   go_wp2_with (first | ((with_reducible refine gate_dst (N := 4) rfl ?_); refine boxE (cs := #[.int .i64 0, .int .i64 0, .int .i64 0, .int .i64 0]) (t := 66) ?_; intro gb115 hg w10 hbox hb; refine E4b HB.1 hg hbox hb ?_; clear HB; intro HB BK115 GW115 GE115; clear hb hbox hg; obtain ⟨hcz11_0, hcz11_1, hcz11_2, hcz11_3, hfz11_0, hfz11_1, hfz11_2, hfz11_3⟩ := cz4 BK115.1) | ((with_reducible refine gate_callee (f := 57) rfl ?_); refine goesM (N := (some 12)) #[.agg #[.int .i64 ((rd_T66 l0 x7_1).f0), .int .i64 ((rd_T66 l0 x7_1).f1.f0), .int .i64 ((rd_T66 l0 x7_1).f1.f1), .int .i64 ((rd_T66 l0 x7_1).f1.f2)]] Tryd.func57 ?_; (with_reducible refine (spec_loEntry.calls ((rd_T66 l0 x7_1).f0) ((rd_T66 l0 x7_1).f1.f0) ((rd_T66 l0 x7_1).f1.f1) ((rd_T66 l0 x7_1).f1.f2) false _ A5.1).mono ?_); rintro e w12 ⟨rfl, hb⟩; refine ⟨_, rfl, ?_⟩; refine E2 (blk_below (g := gb115) (o := .cells #[.int .i64 ((rd_T66 l0 x7_1).f0), .int .i64 ((rd_T66 l0 x7_1).f1.f0), .int .i64 ((rd_T66 l0 x7_1).f1.f1), .int .i64 ((rd_T66 l0 x7_1).f1.f2)] 66 (0, 0)) (PF0 BK115.1) hb) (bS HB.1 hb) ?_; clear BK115 HB; intro BK115 HB; (try clear hb)))
   go_ret
   exact ⟨RF, BL HB.1⟩
 obtain rfl := Option.some.inj H
 go_wp2
 go_ret
 exact ⟨RF, BL HB.1⟩
/-! ### spec_loColours: function 41 -/
open Kd
def spec_loColours.f  : Option (List ByteArray) := some (([(⟨#[98, 108, 117, 101]⟩ : ByteArray), (⟨#[114, 101, 100]⟩ : ByteArray)] : List ByteArray))
theorem spec_loColours.calls  (r : List ByteArray) (w : World) (h : spec_loColours.f  = some r) :
 Calls Tryd.prog 41 #[] w fun e w' => ∃ v0_ : Value, e = .returned (v0_) /\ Kd.R Kd.string 9 w' w.heap.size (fun _ => True) v0_ r /\ Below w.heap.size w w' := by
 have HB := Aside0.mk (Below.refl w.heap.size w)
 have H := h
 clear h
 unfold spec_loColours.f at H
 generalize hy117 : ((([(⟨#[98, 108, 117, 101]⟩ : ByteArray), (⟨#[114, 101, 100]⟩ : ByteArray)] : List ByteArray)) : List ByteArray) = y117 at H
 have Ny117 := Aside0.mk hy117.symm; clear hy117
 obtain rfl := Option.some.inj H
 go_enter Tryd.func41, Tryd.ntmps41
 go_wp2_with (first | ((with_reducible refine gate_dst (N := 1) rfl ?_); refine R_lit Kd.string _ 9 ?hg (N := 1) ?hd (xs := ([(⟨#[98, 108, 117, 101]⟩ : ByteArray), (⟨#[114, 101, 100]⟩ : ByteArray)] : List ByteArray)) (inner := [.string (⟨#[98, 108, 117, 101]⟩ : ByteArray), .string (⟨#[114, 101, 100]⟩ : ByteArray)]) (ok := fun _ => True) (okp := fun _ => True) ?hr ?hp (fun _ hk => hk) trivial (Below.refl _ _) (Nat.le_refl _) (by simp) ?_; (case hd => rfl); (case hg => rfl); (case hr => first | (go_simp; done) | (go_simp; rfl)); (case hp => exact (Reps.one (show Kd.M Kd.string _ _ _ (⟨#[98, 108, 117, 101]⟩ : ByteArray) [.string (⟨#[98, 108, 117, 101]⟩ : ByteArray)] from rfl) (Reps.one (show Kd.M Kd.string _ _ _ (⟨#[114, 101, 100]⟩ : ByteArray) [.string (⟨#[114, 101, 100]⟩ : ByteArray)] from rfl) (Reps.none _ _)))); intro v118 w1 ho2 hb hg_ hnew_; clear hg_ hnew_; (first | rw [<- Ny117.1] at ho2 | (simp only [Int.reduceToNat] at ho2; rw [<- Ny117.1] at ho2)); refine E2 (R_lower ho2 (bZ HB.1)) (bS HB.1 hb) ?_; clear HB; intro HO119 HB; clear hb ho2))
 go_ret
 exact ⟨_, RF, RPE (HO119.1), BL HB.1⟩

/-! ### spec_loEnds: function 42 -/
open Kd
def spec_loEnds.f  : Option (List ByteArray) := some (([(⟨#[]⟩ : ByteArray), (⟨#[98, 111, 116, 116, 111, 109]⟩ : ByteArray), (⟨#[115, 116, 111, 112]⟩ : ByteArray), (⟨#[108, 111, 115, 116]⟩ : ByteArray)] : List ByteArray))
theorem spec_loEnds.calls  (r : List ByteArray) (w : World) (h : spec_loEnds.f  = some r) :
 Calls Tryd.prog 42 #[] w fun e w' => ∃ v0_ : Value, e = .returned (v0_) /\ Kd.R Kd.string 9 w' w.heap.size (fun _ => True) v0_ r /\ Below w.heap.size w w' := by
 have HB := Aside0.mk (Below.refl w.heap.size w)
 have H := h
 clear h
 unfold spec_loEnds.f at H
 generalize hy120 : ((([(⟨#[]⟩ : ByteArray), (⟨#[98, 111, 116, 116, 111, 109]⟩ : ByteArray), (⟨#[115, 116, 111, 112]⟩ : ByteArray), (⟨#[108, 111, 115, 116]⟩ : ByteArray)] : List ByteArray)) : List ByteArray) = y120 at H
 have Ny120 := Aside0.mk hy120.symm; clear hy120
 obtain rfl := Option.some.inj H
 go_enter Tryd.func42, Tryd.ntmps42
 go_wp2_with (first | ((with_reducible refine gate_dst (N := 1) rfl ?_); refine R_lit Kd.string _ 9 ?hg (N := 1) ?hd (xs := ([(⟨#[]⟩ : ByteArray), (⟨#[98, 111, 116, 116, 111, 109]⟩ : ByteArray), (⟨#[115, 116, 111, 112]⟩ : ByteArray), (⟨#[108, 111, 115, 116]⟩ : ByteArray)] : List ByteArray)) (inner := [.string (⟨#[]⟩ : ByteArray), .string (⟨#[98, 111, 116, 116, 111, 109]⟩ : ByteArray), .string (⟨#[115, 116, 111, 112]⟩ : ByteArray), .string (⟨#[108, 111, 115, 116]⟩ : ByteArray)]) (ok := fun _ => True) (okp := fun _ => True) ?hr ?hp (fun _ hk => hk) trivial (Below.refl _ _) (Nat.le_refl _) (by simp) ?_; (case hd => rfl); (case hg => rfl); (case hr => first | (go_simp; done) | (go_simp; rfl)); (case hp => exact (Reps.one (show Kd.M Kd.string _ _ _ (⟨#[]⟩ : ByteArray) [.string (⟨#[]⟩ : ByteArray)] from rfl) (Reps.one (show Kd.M Kd.string _ _ _ (⟨#[98, 111, 116, 116, 111, 109]⟩ : ByteArray) [.string (⟨#[98, 111, 116, 116, 111, 109]⟩ : ByteArray)] from rfl) (Reps.one (show Kd.M Kd.string _ _ _ (⟨#[115, 116, 111, 112]⟩ : ByteArray) [.string (⟨#[115, 116, 111, 112]⟩ : ByteArray)] from rfl) (Reps.one (show Kd.M Kd.string _ _ _ (⟨#[108, 111, 115, 116]⟩ : ByteArray) [.string (⟨#[108, 111, 115, 116]⟩ : ByteArray)] from rfl) (Reps.none _ _)))))); intro v121 w1 ho2 hb hg_ hnew_; clear hg_ hnew_; (first | rw [<- Ny120.1] at ho2 | (simp only [Int.reduceToNat] at ho2; rw [<- Ny120.1] at ho2)); refine E2 (R_lower ho2 (bZ HB.1)) (bS HB.1 hb) ?_; clear HB; intro HO122 HB; clear hb ho2))
 go_ret
 exact ⟨_, RF, RPE (HO122.1), BL HB.1⟩

/-! ### spec_l1Num: function 48 -/
open Kd
def spec_l1Num.f : Nat -> Int -> Option (ByteArray)
 | 0, _ => none
 | k + 1, a0 => if a0 < 10 then (some (strOfNums (([(wrap64 (48 + a0)) % 256] : List Int)))) else ((spec_l1Num.f k (wrap64 (Int.tdiv a0 10))).bind fun t126 => ((some (([(wrap64 (48 + (Int.tmod a0 10))) % 256] : List Int) : List Int)).bind fun y127 => (if t126.size + (strOfNums y127).size <= 9223372036854775807 then (some (t126 ++ (strOfNums y127))) else (none))))
theorem spec_l1Num.mono_l : ∀ k, (∀ y0, LeO (spec_l1Num.f k y0) (spec_l1Num.f (k + 1) y0))
 | 0 => fun _ r h => by simp [spec_l1Num.f] at h
 | k + 1 => by
  have ih0 := spec_l1Num.mono_l k
  intros
  first | unfold spec_l1Num.f
  exact LM1 ih0
theorem spec_l1Num.mono : ∀ a0 k, LeO (spec_l1Num.f k a0) (spec_l1Num.f (k + 1) a0) := by
 intro a0 k
 have ih0 := spec_l1Num.mono_l k
 exact ih0 a0
def spec_l1Num.T3 : Bool × List (List Nat × List Nat) := (true, [([], []), ([0], [0]), ([1], [1]), ([], []), ([3], [3]), ([4], [4]), ([5], [5]), ([6], [6]), ([7], [7]), ([2, 8], [2, 8]), ([9, 2, 0, 1, 2, 3, 4, 5, 6, 7, 8, 9], [9])])
def spec_l1Num.B3 : List Nat := [0, 1, 3, 0, 8, 24, 56, 120, 248, 511, 1023]
theorem spec_l1Num.tab3 : rtab .any (opsOf Tryd.f48 3) = spec_l1Num.T3 := by kernel_rfl
theorem spec_l1Num.bits3 : waitsOk spec_l1Num.T3.2 spec_l1Num.B3 = true := by kernel_rfl
theorem spec_l1Num.calls (k : Nat) : ∀ (a0 : Int) (r : ByteArray) (w : World) (h : spec_l1Num.f k a0 = some r),
 Calls Tryd.prog 48 #[.int .i64 a0] w fun e w' => e = .returned (.string r) /\ Below w.heap.size w w' := by
 induction k using Nat.strongRecOn with
 | _ k ih =>
 intro a0 r w h
 cases k with
 | zero => exact absurd h (by simp [spec_l1Num.f])
 | succ k =>
 simp only [spec_l1Num.f] at h
 have HB := Aside0.mk (Below.refl w.heap.size w)
 have H : (if a0 < 10 then (some (strOfNums (([(wrap64 (48 + a0)) % 256] : List Int)))) else ((spec_l1Num.f k (wrap64 (Int.tdiv a0 10))).bind fun t126 => ((some (([(wrap64 (48 + (Int.tmod a0 10))) % 256] : List Int) : List Int)).bind fun y127 => (if t126.size + (strOfNums y127).size <= 9223372036854775807 then (some (t126 ++ (strOfNums y127))) else (none))))) = some r := h
 clear h
 replace H := ifB H; rcases H with ⟨c2b0, H⟩ | ⟨c2b0, H⟩
 · generalize hy123 : ((([(wrap64 (48 + a0)) % 256] : List Int)) : List Int) = y123 at H
   have Ny123 := Aside0.mk hy123.symm; clear hy123
   obtain rfl := Option.some.inj H
   go_enter Tryd.func48, Tryd.ntmps48
   go_wp2_with (first | ((with_reducible refine gate_dst (N := 8) rfl ?_); refine R_lit (Kd.int .u8) _ 5 ?hg (N := 8) ?hd (xs := ([(wrap64 (48 + a0)) % 256] : List Int)) (inner := [.int .u8 ((wrap64 (48 + a0)) % 256)]) (ok := fun _ => True) (okp := fun _ => True) ?hr ?hp (fun _ hk => hk) trivial (Below.refl _ _) (Nat.le_refl _) (by simp) ?_; (case hd => rfl); (case hg => rfl); (case hr => first | (go_simp; done) | (go_simp; rfl)); (case hp => exact (Reps.one (show Kd.M (Kd.int .u8) _ _ _ ((wrap64 (48 + a0)) % 256) [.int .u8 ((wrap64 (48 + a0)) % 256)] from rfl) (Reps.none _ _))); intro v124 w3 ho4 hb hg_ hnew_; clear hg_ hnew_; (first | rw [<- Ny123.1] at ho4 | (simp only [Int.reduceToNat] at ho4; rw [<- Ny123.1] at ho4)); refine E2 (R_lower ho4 (bZ HB.1)) (bS HB.1 hb) ?_; clear HB; intro HO125 HB; clear hb ho4; have hcv5 := own_string (P := Tryd.prog) Tryd.underlying93 Tryd.underlying5 Tryd.underlying9 (Kd.own_of_R HO125.1)))
   go_ret
   exact ⟨RF, BL HB.1⟩
 replace H := bindA H; obtain ⟨t126, A6, H⟩ := H
 replace H := nameB H; obtain ⟨y127, Ny127, H⟩ := H
 replace H := ifP H; obtain ⟨c7, H⟩ := H
 have c7b0 := eq_true c7
 have c7b1 := decide_eq_true c7
 try have c7b2 : (9223372036854775807 < t126.size + (strOfNums y127).size) = False := eq_false (Nat.not_lt.2 c7)
 obtain rfl := Option.some.inj H
 go_enter Tryd.func48, Tryd.ntmps48
 try go_wp2
 refine E1 (below_drew1 HB.1) ?_
 clear HB
 intro HB
 refine start_ (n := 11) (S := fun w' => True) (ds := []) #[Zz,Zz,Zz,Zz,Zz,Zz,Zz,Zz,Zz,Zz,Zz] (by kernel_rfl) rfl rfl trivial (fun hHeld => ?_); refine with_tabW spec_l1Num.tab3 spec_l1Num.bits3 (fun HT_ HW_ => ?_)
 generalize w.drew = w8 at HB hHeld ⊢
 refine pureF 0 (N := some 10) HT_.1 ?_
 refine pureF 1 (N := some 11) HT_.1 ?_
 refine pureF 3 (N := some 13) HT_.1 ?_
 refine pureF 4 (N := some 14) HT_.1 ?_
 refine pureF 5 (N := some 15) HT_.1 ?_
 refine pureF 6 (N := some 16) HT_.1 ?_
 refine join_ (σ := Value) 2 #[Yy,Yy,Yy,Yy,Yy,Yy,Yy,Yy,Yy,Zz,Zz] (fun s_ => [(12, .string t126), (17, s_), (18, .string (strOfNums y127))]) (fun s_ w' => (Kd.R (Kd.int .u8) 5 w' w.heap.size (fun _ => True) s_ y127) /\ (Below w.heap.size w w')) ?_ ?_
 rotate_left
 · intro hCont
   refine two_ (i := 2) (j := 7) (Ni := some 12) (Nj := some 17) #[Yy,Yy,Yy,Yy,Yy,Yy,Yy,Zz,Zz,Zz,Zz] #[Yy,Yy,Zz,Yy,Yy,Yy,Yy,Yy,Zz,Zz,Zz] rfl rfl rfl rfl (two_of HT_.1 (by kernel_rfl)) (by decide) (by decide) (fun K hK => ?_) (fun K hK => ?_)
   · skip
     refine goes_ Tryd.func48 (by kernel_rfl) rfl #[.int .i64 (wrap64 (Int.tdiv a0 10))] (by rfl) rfl rfl (by (try simp only [List.map_toArray, List.map_cons, List.map_nil]); first | done | rfl | (simp only [List.length_drop, List.length_take]; rfl)) ?_
     with_reducible refine (ih k (by omega) (wrap64 (Int.tdiv a0 10)) t126 _ A6.1).mono ?_
     rintro e w9 ⟨rfl, hb⟩
     refine ⟨_, rfl, ?_⟩
     refine E1 (bS HB.1 hb) ?_
     clear HB
     intro HB
     (try clear hb)
     (try clear hb2)
     (try clear hk)
     (try clear hi)
     refine hK.out _ _ trivial (fun hHeld => ?_)
     clear hK K
     refine norm_ (a' := ?_) ?_ ?_
     rotate_left
     · show Act.put _ (some 12) _ = _
       simp only [Act.put, List.setIfInBounds_toArray, List.set_cons_zero, List.set_cons_succ, i64_w, i32_w]
       rfl
     refine one_ (i := 7) (N := some 17) #[Yy,Yy,Yy,Yy,Yy,Yy,Yy,Yy,Zz,Zz,Zz] rfl rfl (one_of HT_.1 (by kernel_rfl)) (by decide) (fun K hK => ?_)
     refine R_lit_step (Kd.int .u8) _ 5 ?hg (N := 17) ?hd (xs := ([(wrap64 (48 + (Int.tmod a0 10))) % 256] : List Int)) (inner := [.int .u8 ((wrap64 (48 + (Int.tmod a0 10))) % 256)]) (ok := fun _ => True) (okp := fun _ => True) ?hr ?hp (fun _ hk => hk) trivial (Below.refl _ _) (Nat.le_refl _) (by simp) ?_; (case hd => rfl); (case hg => rfl); (case hr => first | (go_simp; done) | (go_simp; rfl)); (case hp => exact (Reps.one (show Kd.M (Kd.int .u8) _ _ _ ((wrap64 (48 + (Int.tmod a0 10))) % 256) [.int .u8 ((wrap64 (48 + (Int.tmod a0 10))) % 256)] from rfl) (Reps.none _ _)))
     intro v128 w10 ho11 hb hg_ hnew_
     clear hg_ hnew_
     (first | rw [<- Ny127.1] at ho11 | (simp only [Int.reduceToNat] at ho11; rw [<- Ny127.1] at ho11))
     refine E2 (R_lower ho11 (bZ HB.1)) (bS HB.1 hb) ?_
     clear HB
     intro HO129 HB
     clear hb ho11
     refine hK.out _ _ trivial (fun hHeld => ?_)
     clear hK K
     refine norm_ (a' := ?_) ?_ ?_
     rotate_left
     · show Act.put _ (some 17) _ = _
       simp only [Act.put, List.setIfInBounds_toArray, List.set_cons_zero, List.set_cons_succ, i64_w, i32_w]
       rfl
     refine one_ (i := 8) (N := some 18) #[Yy,Yy,Yy,Yy,Yy,Yy,Yy,Yy,Yy,Zz,Zz] rfl rfl (one_of HT_.1 (by kernel_rfl)) (by decide) (fun K hK => ?_)
     have hcv12 := own_string (P := Tryd.prog) Tryd.underlying93 Tryd.underlying5 Tryd.underlying9 (Kd.own_of_R HO129.1)
     refine value_ (w1 := ?_) (v := ?_) (by rfl) rfl ?_ ?_
     rotate_left 2
     · go_simp
       constructor
       · rfl
       rfl
     clear hcv12
     refine hK.out _ _ trivial (fun hHeld => ?_)
     clear hK K
     refine norm_ (a' := ?_) ?_ ?_
     rotate_left
     · show Act.put _ (some 18) _ = _
       simp only [Act.put, List.setIfInBounds_toArray, List.set_cons_zero, List.set_cons_succ, i64_w, i32_w]
       rfl
     exact norm_ NA (hCont (v128) _ ⟨(PR HO129.1), (BL HB.1)⟩)
   skip
   refine R_lit_step (Kd.int .u8) _ 5 ?hg (N := 17) ?hd (xs := ([(wrap64 (48 + (Int.tmod a0 10))) % 256] : List Int)) (inner := [.int .u8 ((wrap64 (48 + (Int.tmod a0 10))) % 256)]) (ok := fun _ => True) (okp := fun _ => True) ?hr ?hp (fun _ hk => hk) trivial (Below.refl _ _) (Nat.le_refl _) (by simp) ?_; (case hd => rfl); (case hg => rfl); (case hr => first | (go_simp; done) | (go_simp; rfl)); (case hp => exact (Reps.one (show Kd.M (Kd.int .u8) _ _ _ ((wrap64 (48 + (Int.tmod a0 10))) % 256) [.int .u8 ((wrap64 (48 + (Int.tmod a0 10))) % 256)] from rfl) (Reps.none _ _)))
   intro v128 w9 ho10 hb hg_ hnew_
   clear hg_ hnew_
   (first | rw [<- Ny127.1] at ho10 | (simp only [Int.reduceToNat] at ho10; rw [<- Ny127.1] at ho10))
   refine E2 (R_lower ho10 (bZ HB.1)) (bS HB.1 hb) ?_
   clear HB
   intro HO129 HB
   clear hb ho10
   refine hK.out _ _ trivial (fun hHeld => ?_)
   clear hK K
   refine norm_ (a' := ?_) ?_ ?_
   rotate_left
   · show Act.put _ (some 17) _ = _
     simp only [Act.put, List.setIfInBounds_toArray, List.set_cons_zero, List.set_cons_succ, i64_w, i32_w]
     rfl
   refine two_ (i := 2) (j := 8) (Ni := some 12) (Nj := some 18) #[Yy,Yy,Yy,Yy,Yy,Yy,Yy,Yy,Zz,Zz,Zz] #[Yy,Yy,Zz,Yy,Yy,Yy,Yy,Yy,Yy,Zz,Zz] rfl rfl rfl rfl (two_of HT_.1 (by kernel_rfl)) (by decide) (by decide) (fun K hK => ?_) (fun K hK => ?_)
   · skip
     refine goes_ Tryd.func48 (by kernel_rfl) rfl #[.int .i64 (wrap64 (Int.tdiv a0 10))] (by rfl) rfl rfl (by (try simp only [List.map_toArray, List.map_cons, List.map_nil]); first | done | rfl | (simp only [List.length_drop, List.length_take]; rfl)) ?_
     with_reducible refine (ih k (by omega) (wrap64 (Int.tdiv a0 10)) t126 _ A6.1).mono ?_
     rintro e w11 ⟨rfl, hb⟩
     refine ⟨_, rfl, ?_⟩
     refine E2 (rB HO129.1 hb) (bS HB.1 hb) ?_
     clear HO129 HB
     intro HO129 HB
     (try clear hb)
     (try clear hb2)
     (try clear hk)
     (try clear hi)
     refine hK.out _ _ trivial (fun hHeld => ?_)
     clear hK K
     refine norm_ (a' := ?_) ?_ ?_
     rotate_left
     · show Act.put _ (some 12) _ = _
       simp only [Act.put, List.setIfInBounds_toArray, List.set_cons_zero, List.set_cons_succ, i64_w, i32_w]
       rfl
     refine one_ (i := 8) (N := some 18) #[Yy,Yy,Yy,Yy,Yy,Yy,Yy,Yy,Yy,Zz,Zz] rfl rfl (one_of HT_.1 (by kernel_rfl)) (by decide) (fun K hK => ?_)
     have hcv12 := own_string (P := Tryd.prog) Tryd.underlying93 Tryd.underlying5 Tryd.underlying9 (Kd.own_of_R HO129.1)
     refine value_ (w1 := ?_) (v := ?_) (by rfl) rfl ?_ ?_
     rotate_left 2
     · go_simp
       constructor
       · rfl
       rfl
     clear hcv12
     refine hK.out _ _ trivial (fun hHeld => ?_)
     clear hK K
     refine norm_ (a' := ?_) ?_ ?_
     rotate_left
     · show Act.put _ (some 18) _ = _
       simp only [Act.put, List.setIfInBounds_toArray, List.set_cons_zero, List.set_cons_succ, i64_w, i32_w]
       rfl
     exact norm_ NA (hCont (v128) _ ⟨(PR HO129.1), (BL HB.1)⟩)
   skip
   have hcv11 := own_string (P := Tryd.prog) Tryd.underlying93 Tryd.underlying5 Tryd.underlying9 (Kd.own_of_R HO129.1)
   refine value_ (w1 := ?_) (v := ?_) (by rfl) rfl ?_ ?_
   rotate_left 2
   · go_simp
     constructor
     · rfl
     rfl
   clear hcv11
   refine hK.out _ _ trivial (fun hHeld => ?_)
   clear hK K
   refine norm_ (a' := ?_) ?_ ?_
   rotate_left
   · show Act.put _ (some 18) _ = _
     simp only [Act.put, List.setIfInBounds_toArray, List.set_cons_zero, List.set_cons_succ, i64_w, i32_w]
     rfl
   refine one_ (i := 2) (N := some 12) #[Yy,Yy,Yy,Yy,Yy,Yy,Yy,Yy,Yy,Zz,Zz] rfl rfl (one_of HT_.1 (by kernel_rfl)) (by decide) (fun K hK => ?_)
   refine goes_ Tryd.func48 (by kernel_rfl) rfl #[.int .i64 (wrap64 (Int.tdiv a0 10))] (by rfl) rfl rfl (by (try simp only [List.map_toArray, List.map_cons, List.map_nil]); first | done | rfl | (simp only [List.length_drop, List.length_take]; rfl)) ?_
   with_reducible refine (ih k (by omega) (wrap64 (Int.tdiv a0 10)) t126 _ A6.1).mono ?_
   rintro e w12 ⟨rfl, hb⟩
   refine ⟨_, rfl, ?_⟩
   refine E2 (rB HO129.1 hb) (bS HB.1 hb) ?_
   clear HO129 HB
   intro HO129 HB
   (try clear hb)
   (try clear hb2)
   (try clear hk)
   (try clear hi)
   refine hK.out _ _ trivial (fun hHeld => ?_)
   clear hK K
   refine norm_ (a' := ?_) ?_ ?_
   rotate_left
   · show Act.put _ (some 12) _ = _
     simp only [Act.put, List.setIfInBounds_toArray, List.set_cons_zero, List.set_cons_succ, i64_w, i32_w]
     rfl
   exact norm_ NA (hCont (v128) _ ⟨(PR HO129.1), (BL HB.1)⟩)
 rintro v128 w13 ⟨h0_, h1_⟩
 refine E2 h0_ h1_ ?_
 clear HB h0_ h1_
 intro HO129 HB
 have hHeld := trivial
 refine norm_ (a' := ?_) ?_ ?_
 rotate_left
 · simp only [putAll, Act.put, List.setIfInBounds_toArray, List.set_cons_zero, List.set_cons_succ]
   rfl
 refine pureF 9 (N := some 19) HT_.1 ?_
 refine pureF 10 (N := some 2) HT_.1 ?_
 refine done_ (done_of HT_.1 (by kernel_rfl)) ?_
 try go_wp2
 go_ret
 exact ⟨RF, BL HB.1⟩
/-! ### spec_loText: function 35 -/
open Kd
theorem later_ {P : Program} {md : Region.Mode} {ops : Array Oper} {Q : Exit -> Act -> World -> Prop} {S S2 S' : World -> Prop} (hi : ∀ w, S' w ↔ (S w /\ S2 w)) :
 ∀ (fuel : Nat) (l : Array Bool) (a : Act) (w : World), S w -> S2 w -> (S' w -> wpAnyLast P md ops Q S' [] fuel l a w) -> wpAnyLast P md ops Q S [] fuel l a w
 | 0, _, _, w, h1, h2, h => h ((hi w).2 ⟨h1, h2⟩)
 | fuel + 1, _, _, w, h1, h2, h => ⟨(h ((hi w).2 ⟨h1, h2⟩)).1, fun i hm => wpOp_mono (fun a' w' h' => by
  have hs := (hi w').1 (h'.1 (by simp) ((hi w).2 ⟨h1, h2⟩))
  exact ⟨fun _ _ => hs.1, later_ hi fuel _ a' w' hs.1 hs.2 (fun _ => h'.2)⟩) ((h ((hi w).2 ⟨h1, h2⟩)).2 i hm)⟩
def spec_loText.l0 : Nat -> ByteArray -> List (S66) -> Int -> Int -> Option (ByteArray)
 | 0, _, _, _, _ => none
 | k + 1, x3, x6, x7, x8 => if x8 < x7 then (if 0 <= x8 then (if x8 < (x6.length : Int) then ((spec_loColours.f).bind fun t132 => (if 0 <= ((rd_T66 x6 x8).f0) then (if ((rd_T66 x6 x8).f0) < (t132.length : Int) then (if (rdOf ByteArray.empty t132 ((rd_T66 x6 x8).f0)).size + 1 <= 9223372036854775807 then ((spec_loEnds.f).bind fun t136 => (if 0 <= ((rd_T66 x6 x8).f1.f0) then (if ((rd_T66 x6 x8).f1.f0) < (t136.length : Int) then (if ((rdOf ByteArray.empty t132 ((rd_T66 x6 x8).f0)) ++ (⟨#[32]⟩ : ByteArray)).size + (rdOf ByteArray.empty t136 ((rd_T66 x6 x8).f1.f0)).size <= 9223372036854775807 then (if (((rdOf ByteArray.empty t132 ((rd_T66 x6 x8).f0)) ++ (⟨#[32]⟩ : ByteArray)) ++ (rdOf ByteArray.empty t136 ((rd_T66 x6 x8).f1.f0))).size + 1 <= 9223372036854775807 then ((spec_l1Num.f k ((rd_T66 x6 x8).f1.f1)).bind fun t140 => (if ((((rdOf ByteArray.empty t132 ((rd_T66 x6 x8).f0)) ++ (⟨#[32]⟩ : ByteArray)) ++ (rdOf ByteArray.empty t136 ((rd_T66 x6 x8).f1.f0))) ++ (⟨#[32]⟩ : ByteArray)).size + t140.size <= 9223372036854775807 then (if (((((rdOf ByteArray.empty t132 ((rd_T66 x6 x8).f0)) ++ (⟨#[32]⟩ : ByteArray)) ++ (rdOf ByteArray.empty t136 ((rd_T66 x6 x8).f1.f0))) ++ (⟨#[32]⟩ : ByteArray)) ++ t140).size + 1 <= 9223372036854775807 then (if x3.size + ((((((rdOf ByteArray.empty t132 ((rd_T66 x6 x8).f0)) ++ (⟨#[32]⟩ : ByteArray)) ++ (rdOf ByteArray.empty t136 ((rd_T66 x6 x8).f1.f0))) ++ (⟨#[32]⟩ : ByteArray)) ++ t140) ++ (⟨#[32]⟩ : ByteArray)).size <= 9223372036854775807 then (if ((rd_T66 x6 x8).f1.f2) < 0 then (if (x3 ++ ((((((rdOf ByteArray.empty t132 ((rd_T66 x6 x8).f0)) ++ (⟨#[32]⟩ : ByteArray)) ++ (rdOf ByteArray.empty t136 ((rd_T66 x6 x8).f1.f0))) ++ (⟨#[32]⟩ : ByteArray)) ++ t140) ++ (⟨#[32]⟩ : ByteArray))).size + 2 <= 9223372036854775807 then (spec_loText.l0 k ((x3 ++ ((((((rdOf ByteArray.empty t132 ((rd_T66 x6 x8).f0)) ++ (⟨#[32]⟩ : ByteArray)) ++ (rdOf ByteArray.empty t136 ((rd_T66 x6 x8).f1.f0))) ++ (⟨#[32]⟩ : ByteArray)) ++ t140) ++ (⟨#[32]⟩ : ByteArray))) ++ (⟨#[45, 10]⟩ : ByteArray)) x6 x7 (wrap64 (x8 + 1))) else (none)) else ((spec_l1Num.f k ((rd_T66 x6 x8).f1.f2)).bind fun t141 => (if t141.size + 1 <= 9223372036854775807 then (if (x3 ++ ((((((rdOf ByteArray.empty t132 ((rd_T66 x6 x8).f0)) ++ (⟨#[32]⟩ : ByteArray)) ++ (rdOf ByteArray.empty t136 ((rd_T66 x6 x8).f1.f0))) ++ (⟨#[32]⟩ : ByteArray)) ++ t140) ++ (⟨#[32]⟩ : ByteArray))).size + (t141 ++ (⟨#[10]⟩ : ByteArray)).size <= 9223372036854775807 then (spec_loText.l0 k ((x3 ++ ((((((rdOf ByteArray.empty t132 ((rd_T66 x6 x8).f0)) ++ (⟨#[32]⟩ : ByteArray)) ++ (rdOf ByteArray.empty t136 ((rd_T66 x6 x8).f1.f0))) ++ (⟨#[32]⟩ : ByteArray)) ++ t140) ++ (⟨#[32]⟩ : ByteArray))) ++ (t141 ++ (⟨#[10]⟩ : ByteArray))) x6 x7 (wrap64 (x8 + 1))) else (none)) else (none)))) else (none)) else (none)) else (none))) else (none)) else (none)) else (none)) else (none))) else (none)) else (none)) else (none))) else (none)) else (none)) else (some x3)
def spec_loText.f (k : Nat) (l0 : List (S66)) : Option (ByteArray) := spec_loText.l0 k (⟨#[]⟩ : ByteArray) l0 (l0.length : Int) 0
theorem spec_loText.mono_l : ∀ k, (∀ y0 y1 y2 y3, LeO (spec_loText.l0 k y0 y1 y2 y3) (spec_loText.l0 (k + 1) y0 y1 y2 y3))
 | 0 => fun _ _ _ _ r h => by simp [spec_loText.l0] at h
 | k + 1 => by
  have ih0 := spec_loText.mono_l k
  intros
  first | unfold spec_loText.l0
  exact LM2 ih0 spec_l1Num.mono
theorem spec_loText.mono : ∀ a0 k, LeO (spec_loText.f k a0) (spec_loText.f (k + 1) a0) := by
 intro a0 k
 have ih0 := spec_loText.mono_l k
 unfold spec_loText.f
 exact LM2 ih0 spec_l1Num.mono
def spec_loText.T5 : Bool × List (List Nat × List Nat) := (true, [([], []), ([], []), ([], []), ([2], [2]), ([1, 3], [1, 3]), ([4], [4]), ([5], [5]), ([1], []), ([], []), ([8], [8]), ([9], [9]), ([7, 10], [7, 10]), ([11], [11]), ([6, 12], [6, 12]), ([13], [13]), ([], []), ([15], [15]), ([16], [16]), ([17, 7], [17]), ([14, 18], [14, 18]), ([19], [19]), ([0, 20], [0, 20]), ([21, 18, 0, 1, 2, 3, 4, 5, 6, 7, 8, 9, 10, 11, 12, 13, 14, 15, 16, 17, 18, 19, 20, 21], [0, 21])])
def spec_loText.B5 : List Nat := [0, 0, 0, 4, 14, 30, 62, 2, 0, 256, 768, 1922, 3970, 8190, 16382, 0, 32768, 98304, 229506, 524286, 1048574, 2097151, 4194303]
theorem spec_loText.tab5 : rtab .any (opsOf Tryd.f35 5) = spec_loText.T5 := by kernel_rfl
theorem spec_loText.bits5 : waitsOk spec_loText.T5.2 spec_loText.B5 = true := by kernel_rfl
theorem spec_loText.calls (k : Nat) (A0 : Option Addr) (c0 : Nat) (l0 : List (S66)) (r : ByteArray) (w : World) (hr0 : Kd.C k66 w A0 l0.length l0) (hc0 : l0.length <= c0) (h : spec_loText.f k l0 = some r) :
 Calls Tryd.prog 35 #[.slice A0 l0.length c0] w fun e w' => e = .returned (.string r) /\ Below w.heap.size w w' := by
 have hu66 := Tryd.underlying66
 have HR0 := Aside0.mk hr0
 have HC0 := Aside0.mk hc0
 clear hr0 hc0
 have HB := Aside0.mk (Below.refl w.heap.size w)
 have H := h
 clear h
 unfold spec_loText.f at H
 have H' := Aside0.mk H
 clear H
 go_enter Tryd.func35, Tryd.ntmps35
 go_wp2
 go_loopg [3, 8] k (fun kq v3 v8 w' => ∃ (x3_1 : ByteArray) (x8_1 : Int), v3 = .string x3_1 /\ v8 = .int .i64 x8_1 /\ Aside0 (spec_loText.l0 kq x3_1 l0 (l0.length : Int) x8_1 = some r) /\ Aside0 (kq <= k) /\ Aside0 (Below w.heap.size w w'))
 case atStart => exact ⟨((⟨#[]⟩ : ByteArray)), (0), RG, RG, H', ⟨Nat.le_refl _⟩, ⟨BL HB.1⟩⟩
 clear H'
 obtain ⟨x3_1, x8_1, rfl, rfl, HA, HK1, HB⟩ := hrel
 cases gk with
 | zero => exact absurd HA.1 (by simp [spec_loText.l0])
 | succ k1 => ?_
 have H := HA.1
 clear HA
 simp only [spec_loText.l0] at H
 replace H := ifB H; rcases H with ⟨c2b0, H⟩ | ⟨c2b0, H⟩
 · replace H := ifN H; obtain ⟨c3b0, H⟩ := H
   replace H := ifN H; obtain ⟨c4b0, H⟩ := H
   replace H := bindA H; obtain ⟨t132, A5, H⟩ := H
   replace H := ifN H; obtain ⟨c6b0, H⟩ := H
   replace H := ifN H; obtain ⟨c7b0, H⟩ := H
   replace H := ifP H; obtain ⟨c8, H⟩ := H
   have c8b0 := eq_true c8
   have c8b1 := decide_eq_true c8
   try have c8b2 : (9223372036854775807 < (rdOf ByteArray.empty t132 ((rd_T66 l0 x8_1).f0)).size + 1) = False := eq_false (Nat.not_lt.2 c8)
   replace H := bindA H; obtain ⟨t136, A9, H⟩ := H
   replace H := ifN H; obtain ⟨c10b0, H⟩ := H
   replace H := ifN H; obtain ⟨c11b0, H⟩ := H
   replace H := ifP H; obtain ⟨c12, H⟩ := H
   have c12b0 := eq_true c12
   have c12b1 := decide_eq_true c12
   try have c12b2 : (9223372036854775807 < ((rdOf ByteArray.empty t132 ((rd_T66 l0 x8_1).f0)) ++ (⟨#[32]⟩ : ByteArray)).size + (rdOf ByteArray.empty t136 ((rd_T66 l0 x8_1).f1.f0)).size) = False := eq_false (Nat.not_lt.2 c12)
   try have c12b3 : (9223372036854775807 < (rdOf ByteArray.empty t132 ((rd_T66 l0 x8_1).f0)).size + 1 + (rdOf ByteArray.empty t136 ((rd_T66 l0 x8_1).f1.f0)).size) = False := by have h_ := c12b2; simp only [ByteArray.size_append] at h_; exact h_
   replace H := ifP H; obtain ⟨c13, H⟩ := H
   have c13b0 := eq_true c13
   have c13b1 := decide_eq_true c13
   try have c13b2 : (9223372036854775807 < (((rdOf ByteArray.empty t132 ((rd_T66 l0 x8_1).f0)) ++ (⟨#[32]⟩ : ByteArray)) ++ (rdOf ByteArray.empty t136 ((rd_T66 l0 x8_1).f1.f0))).size + 1) = False := eq_false (Nat.not_lt.2 c13)
   try have c13b3 : (9223372036854775807 < (rdOf ByteArray.empty t132 ((rd_T66 l0 x8_1).f0)).size + 1 + (rdOf ByteArray.empty t136 ((rd_T66 l0 x8_1).f1.f0)).size + 1) = False := by have h_ := c13b2; simp only [ByteArray.size_append] at h_; exact h_
   replace H := bindA H; obtain ⟨t140, A14, H⟩ := H
   replace H := ifP H; obtain ⟨c15, H⟩ := H
   have c15b0 := eq_true c15
   have c15b1 := decide_eq_true c15
   try have c15b2 : (9223372036854775807 < ((((rdOf ByteArray.empty t132 ((rd_T66 l0 x8_1).f0)) ++ (⟨#[32]⟩ : ByteArray)) ++ (rdOf ByteArray.empty t136 ((rd_T66 l0 x8_1).f1.f0))) ++ (⟨#[32]⟩ : ByteArray)).size + t140.size) = False := eq_false (Nat.not_lt.2 c15)
   try have c15b3 : (9223372036854775807 < (rdOf ByteArray.empty t132 ((rd_T66 l0 x8_1).f0)).size + 1 + (rdOf ByteArray.empty t136 ((rd_T66 l0 x8_1).f1.f0)).size + 1 + t140.size) = False := by have h_ := c15b2; simp only [ByteArray.size_append] at h_; exact h_
   replace H := ifP H; obtain ⟨c16, H⟩ := H
   have c16b0 := eq_true c16
   have c16b1 := decide_eq_true c16
   try have c16b2 : (9223372036854775807 < (((((rdOf ByteArray.empty t132 ((rd_T66 l0 x8_1).f0)) ++ (⟨#[32]⟩ : ByteArray)) ++ (rdOf ByteArray.empty t136 ((rd_T66 l0 x8_1).f1.f0))) ++ (⟨#[32]⟩ : ByteArray)) ++ t140).size + 1) = False := eq_false (Nat.not_lt.2 c16)
   try have c16b3 : (9223372036854775807 < (rdOf ByteArray.empty t132 ((rd_T66 l0 x8_1).f0)).size + 1 + (rdOf ByteArray.empty t136 ((rd_T66 l0 x8_1).f1.f0)).size + 1 + t140.size + 1) = False := by have h_ := c16b2; simp only [ByteArray.size_append] at h_; exact h_
   replace H := ifP H; obtain ⟨c17, H⟩ := H
   have c17b0 := eq_true c17
   have c17b1 := decide_eq_true c17
   try have c17b2 : (9223372036854775807 < x3_1.size + ((((((rdOf ByteArray.empty t132 ((rd_T66 l0 x8_1).f0)) ++ (⟨#[32]⟩ : ByteArray)) ++ (rdOf ByteArray.empty t136 ((rd_T66 l0 x8_1).f1.f0))) ++ (⟨#[32]⟩ : ByteArray)) ++ t140) ++ (⟨#[32]⟩ : ByteArray)).size) = False := eq_false (Nat.not_lt.2 c17)
   try have c17b3 : (9223372036854775807 < x3_1.size + ((rdOf ByteArray.empty t132 ((rd_T66 l0 x8_1).f0)).size + 1 + (rdOf ByteArray.empty t136 ((rd_T66 l0 x8_1).f1.f0)).size + 1 + t140.size + 1)) = False := by have h_ := c17b2; simp only [ByteArray.size_append] at h_; exact h_
   replace H := ifB H; rcases H with ⟨c18b0, H⟩ | ⟨c18b0, H⟩
   · replace H := ifP H; obtain ⟨c19, H⟩ := H
     have c19b0 := eq_true c19
     have c19b1 := decide_eq_true c19
     try have c19b2 : (9223372036854775807 < (x3_1 ++ ((((((rdOf ByteArray.empty t132 ((rd_T66 l0 x8_1).f0)) ++ (⟨#[32]⟩ : ByteArray)) ++ (rdOf ByteArray.empty t136 ((rd_T66 l0 x8_1).f1.f0))) ++ (⟨#[32]⟩ : ByteArray)) ++ t140) ++ (⟨#[32]⟩ : ByteArray))).size + 2) = False := eq_false (Nat.not_lt.2 c19)
     try have c19b3 : (9223372036854775807 < x3_1.size + ((rdOf ByteArray.empty t132 ((rd_T66 l0 x8_1).f0)).size + 1 + (rdOf ByteArray.empty t136 ((rd_T66 l0 x8_1).f1.f0)).size + 1 + t140.size + 1) + 2) = False := by have h_ := c19b2; simp only [ByteArray.size_append] at h_; exact h_
     have H' := Aside0.mk H
     clear H
     have p130 : 0 <= (x8_1 : Int) := OD
     have q130 : x8_1 < (l0.length : Int) := OD
     obtain ⟨ad130, e130, hx130_0, hx130_1, hx130_2, hx130_3⟩ := at_T66 HR0.1 x8_1 p130 q130
     cases e130
     replace hx130_0 := (HB.1.cell (World.block_lt_of_cell? w _ hx130_0)).trans hx130_0
     replace hx130_1 := (HB.1.cell (World.block_lt_of_cell? w _ hx130_1)).trans hx130_1
     replace hx130_2 := (HB.1.cell (World.block_lt_of_cell? w _ hx130_2)).trans hx130_2
     replace hx130_3 := (HB.1.cell (World.block_lt_of_cell? w _ hx130_3)).trans hx130_3
     replace p130 := eq_true p130
     replace q130 := eq_true q130
     try go_wp2_with (first | ((with_reducible refine gate_dst (N := 5) rfl ?_); refine boxE (cs := #[.int .i64 0, .int .i64 0, .int .i64 0, .int .i64 0]) (t := 66) ?_; intro gb131 hg w20 hbox hb; refine E4b HB.1 hg hbox hb ?_; clear HB; intro HB BK131 GW131 GE131; clear hb hbox hg; obtain ⟨hcz21_0, hcz21_1, hcz21_2, hcz21_3, hfz21_0, hfz21_1, hfz21_2, hfz21_3⟩ := cz4 BK131.1))
     have n_ : (fun w22 : World => (w22.heap[gb131]? = some (.cells #[.int .i64 ((rd_T66 l0 x8_1).f0), .int .i64 ((rd_T66 l0 x8_1).f1.f0), .int .i64 ((rd_T66 l0 x8_1).f1.f1), .int .i64 ((rd_T66 l0 x8_1).f1.f2)] 66 (0, 0))) /\ (Below w.heap.size w w22)) ((((w20.setCell ⟨gb131, 0, none⟩ (.int .i64 ((rd_T66 l0 x8_1).f0))).setCell ⟨gb131, 1, none⟩ (.int .i64 ((rd_T66 l0 x8_1).f1.f0))).setCell ⟨gb131, 2, none⟩ (.int .i64 ((rd_T66 l0 x8_1).f1.f1))).setCell ⟨gb131, 3, none⟩ (.int .i64 ((rd_T66 l0 x8_1).f1.f2))) := ⟨by (with_reducible repeat (first | refine blk_drewN ?_ _ | refine blk_drew ?_ | refine blk_alloc ?_ _)); refine blk_put (cs := #[.int .i64 ((rd_T66 l0 x8_1).f0), .int .i64 ((rd_T66 l0 x8_1).f1.f0), .int .i64 ((rd_T66 l0 x8_1).f1.f1), .int .i64 0]) ?_ 3 _ rfl; (with_reducible repeat (first | refine blk_drewN ?_ _ | refine blk_drew ?_ | refine blk_alloc ?_ _)); refine blk_put (cs := #[.int .i64 ((rd_T66 l0 x8_1).f0), .int .i64 ((rd_T66 l0 x8_1).f1.f0), .int .i64 0, .int .i64 0]) ?_ 2 _ rfl; (with_reducible repeat (first | refine blk_drewN ?_ _ | refine blk_drew ?_ | refine blk_alloc ?_ _)); refine blk_put (cs := #[.int .i64 ((rd_T66 l0 x8_1).f0), .int .i64 0, .int .i64 0, .int .i64 0]) ?_ 1 _ rfl; (with_reducible repeat (first | refine blk_drewN ?_ _ | refine blk_drew ?_ | refine blk_alloc ?_ _)); refine blk_put (cs := #[.int .i64 0, .int .i64 0, .int .i64 0, .int .i64 0]) ?_ 0 _ rfl; (with_reducible repeat (first | refine blk_drewN ?_ _ | refine blk_drew ?_ | refine blk_alloc ?_ _)); exact BK131.1, BL HB.1⟩
     (try clear BK131)
     (try clear HB)
     generalize ((((w20.setCell ⟨gb131, 0, none⟩ (.int .i64 ((rd_T66 l0 x8_1).f0))).setCell ⟨gb131, 1, none⟩ (.int .i64 ((rd_T66 l0 x8_1).f1.f0))).setCell ⟨gb131, 2, none⟩ (.int .i64 ((rd_T66 l0 x8_1).f1.f1))).setCell ⟨gb131, 3, none⟩ (.int .i64 ((rd_T66 l0 x8_1).f1.f2))) = w22 at n_ ⊢
     obtain ⟨h0_, h1_⟩ := n_
     refine E2 h0_ h1_ ?_
     clear h0_ h1_
     intro BK131 HB
     refine E2 (blk_drew BK131.1) (below_drew1 HB.1) ?_
     clear BK131 HB
     intro BK131 HB
     refine start_ (n := 23) (S := fun w' => w'.cell? ⟨gb131, 0, none⟩ = some (.int .i64 ((rd_T66 l0 x8_1).f0)) /\ w'.cell? ⟨gb131, 1, none⟩ = some (.int .i64 ((rd_T66 l0 x8_1).f1.f0)) /\ w'.cell? ⟨gb131, 2, none⟩ = some (.int .i64 ((rd_T66 l0 x8_1).f1.f1)) /\ w'.cell? ⟨gb131, 3, none⟩ = some (.int .i64 ((rd_T66 l0 x8_1).f1.f2))) (ds := []) #[Zz,Zz,Zz,Zz,Zz,Zz,Zz,Zz,Zz,Zz,Zz,Zz,Zz,Zz,Zz,Zz,Zz,Zz,Zz,Zz,Zz,Zz,Zz] (by kernel_rfl) rfl rfl ⟨(blk_cell BK131.1 0).trans rfl, (blk_cell BK131.1 1).trans rfl, (blk_cell BK131.1 2).trans rfl, (blk_cell BK131.1 3).trans rfl⟩ (fun hHeld => ?_); refine with_tabW spec_loText.tab5 spec_loText.bits5 (fun HT_ HW_ => ?_)
     generalize w22.drew = w23 at BK131 HB hHeld ⊢
     refine pureF 0 (N := some 12) HT_.1 ?_
     refine pureF 2 (N := some 14) HT_.1 ?_
     refine pureF 8 (N := some 20) HT_.1 ?_
     refine pureF 9 (N := some 21) HT_.1 ?_
     refine pureF 15 (N := some 27) HT_.1 ?_
     refine pureF 16 (N := some 28) HT_.1 ?_
     refine takeE 3 (N := some 15) HT_.1 HW_.1 hHeld ?_
     refine takeE 10 (N := some 22) HT_.1 HW_.1 hHeld ?_
     refine takeE 17 (N := some 29) HT_.1 HW_.1 hHeld ?_
     refine one_ (i := 1) (N := some 13) #[Yy,Yy,Yy,Yy,Zz,Zz,Zz,Zz,Yy,Yy,Yy,Zz,Zz,Zz,Zz,Yy,Yy,Yy,Zz,Zz,Zz,Zz,Zz] rfl rfl (one_of HT_.1 (by kernel_rfl)) (by decide) (fun K hK => ?_)
     refine goes_ Tryd.func41 (by kernel_rfl) rfl #[] (by rfl) rfl rfl (by (try simp only [List.map_toArray, List.map_cons, List.map_nil]); first | done | rfl | (simp only [List.length_drop, List.length_take]; rfl)) ?_
     with_reducible refine (spec_loColours.calls  t132 _ A5.1).mono ?_
     rintro e w24 ⟨v133, rfl, ho0, hb⟩
     refine ⟨_, rfl, ?_⟩
     refine E3 (R_lower ho0 (bZ HB.1)) (bB BK131.1 hb) (bS HB.1 hb) ?_
     clear BK131 HB
     intro HO134 BK131 HB
     (try clear hb)
     (try clear hb2)
     (try clear hk)
     (try clear hi)
     (try clear ho0)
     obtain ⟨Ao25, co25, eo25⟩ := R_slice HO134.1
     (first | subst eo25 | (injection eo25 with f1_ f2_ f3_; have f4_ := f1_.symm; have f5_ := f3_.symm; clear f1_ f2_ f3_; subst f4_; subst f5_))
     have p135 : 0 <= (((rd_T66 l0 x8_1).f0) : Int) := OD
     have q135 : ((rd_T66 l0 x8_1).f0) < (t132.length : Int) := OD
     obtain ⟨ad135, e135, hx135_0⟩ := Kd.at_string (R_reads' HO134.1).2.2 ((rd_T66 l0 x8_1).f0) p135 q135
     cases e135
     replace p135 := eq_true p135
     replace q135 := eq_true q135
     refine hK.out _ _ ⟨(blk_cell BK131.1 0).trans rfl, (blk_cell BK131.1 1).trans rfl, (blk_cell BK131.1 2).trans rfl, (blk_cell BK131.1 3).trans rfl⟩ (fun hHeld => ?_)
     refine later_ (S2 := fun w' => w'.cell? (ad135.add (((rd_T66 l0 x8_1).f0)).toNat) = some (.string (rdOf ByteArray.empty t132 ((rd_T66 l0 x8_1).f0)))) (S' := fun w' => w'.cell? ⟨gb131, 0, none⟩ = some (.int .i64 ((rd_T66 l0 x8_1).f0)) /\ w'.cell? ⟨gb131, 1, none⟩ = some (.int .i64 ((rd_T66 l0 x8_1).f1.f0)) /\ w'.cell? ⟨gb131, 2, none⟩ = some (.int .i64 ((rd_T66 l0 x8_1).f1.f1)) /\ w'.cell? ⟨gb131, 3, none⟩ = some (.int .i64 ((rd_T66 l0 x8_1).f1.f2)) /\ w'.cell? (ad135.add (((rd_T66 l0 x8_1).f0)).toNat) = some (.string (rdOf ByteArray.empty t132 ((rd_T66 l0 x8_1).f0)))) (fun _ => by simp only [and_assoc]) _ _ _ _ hHeld hx135_0 (fun hHeld => ?_)
     clear hK K
     refine norm_ (a' := ?_) ?_ ?_
     rotate_left
     · show Act.put _ (some 13) _ = _
       simp only [Act.put, List.setIfInBounds_toArray, List.set_cons_zero, List.set_cons_succ, i64_w, i32_w]
       rfl
     refine pureF 4 (N := some 16) HT_.1 ?_
     refine takeE 5 (N := some 17) HT_.1 HW_.1 hHeld ?_
     refine pureF 6 (N := some 18) HT_.1 ?_
     refine one_ (i := 7) (N := some 19) #[Yy,Yy,Yy,Yy,Yy,Yy,Yy,Yy,Yy,Yy,Yy,Zz,Zz,Zz,Zz,Yy,Yy,Yy,Zz,Zz,Zz,Zz,Zz] rfl rfl (one_of HT_.1 (by kernel_rfl)) (by decide) (fun K hK => ?_)
     refine goes_ Tryd.func42 (by kernel_rfl) rfl #[] (by rfl) rfl rfl (by (try simp only [List.map_toArray, List.map_cons, List.map_nil]); first | done | rfl | (simp only [List.length_drop, List.length_take]; rfl)) ?_
     with_reducible refine (spec_loEnds.calls  t136 _ A9.1).mono ?_
     rintro e w26 ⟨v137, rfl, ho0, hb⟩
     have HS4_ := (hb.cell (World.block_lt_of_cell? _ _ (hHeld.2.2.2.2))).trans (hHeld.2.2.2.2)
     refine ⟨_, rfl, ?_⟩
     refine E4 (R_elder' (PR HO134.1) (R_base ho0) hb) (R_lower (R_new' ho0 (R_lt (PR HO134.1))) (bZ HB.1)) (bB BK131.1 hb) (bS HB.1 hb) ?_
     clear HO134 BK131 HB
     intro HO134 HO138 BK131 HB
     (try clear hb)
     (try clear hb2)
     (try clear hk)
     (try clear hi)
     (try clear ho0)
     obtain ⟨Ao27, co27, eo27⟩ := R_slice HO138.1
     (first | subst eo27 | (injection eo27 with f1_ f2_ f3_; have f4_ := f1_.symm; have f5_ := f3_.symm; clear f1_ f2_ f3_; subst f4_; subst f5_))
     have p139 : 0 <= (((rd_T66 l0 x8_1).f1.f0) : Int) := OD
     have q139 : ((rd_T66 l0 x8_1).f1.f0) < (t136.length : Int) := OD
     obtain ⟨ad139, e139, hx139_0⟩ := Kd.at_string (R_reads' HO138.1).2.2 ((rd_T66 l0 x8_1).f1.f0) p139 q139
     cases e139
     replace p139 := eq_true p139
     replace q139 := eq_true q139
     refine hK.out _ _ ⟨(blk_cell BK131.1 0).trans rfl, (blk_cell BK131.1 1).trans rfl, (blk_cell BK131.1 2).trans rfl, (blk_cell BK131.1 3).trans rfl, HS4_⟩ (fun hHeld => ?_)
     refine later_ (S2 := fun w' => w'.cell? (ad139.add (((rd_T66 l0 x8_1).f1.f0)).toNat) = some (.string (rdOf ByteArray.empty t136 ((rd_T66 l0 x8_1).f1.f0)))) (S' := fun w' => w'.cell? ⟨gb131, 0, none⟩ = some (.int .i64 ((rd_T66 l0 x8_1).f0)) /\ w'.cell? ⟨gb131, 1, none⟩ = some (.int .i64 ((rd_T66 l0 x8_1).f1.f0)) /\ w'.cell? ⟨gb131, 2, none⟩ = some (.int .i64 ((rd_T66 l0 x8_1).f1.f1)) /\ w'.cell? ⟨gb131, 3, none⟩ = some (.int .i64 ((rd_T66 l0 x8_1).f1.f2)) /\ w'.cell? (ad135.add (((rd_T66 l0 x8_1).f0)).toNat) = some (.string (rdOf ByteArray.empty t132 ((rd_T66 l0 x8_1).f0))) /\ w'.cell? (ad139.add (((rd_T66 l0 x8_1).f1.f0)).toNat) = some (.string (rdOf ByteArray.empty t136 ((rd_T66 l0 x8_1).f1.f0)))) (fun _ => by simp only [and_assoc]) _ _ _ _ hHeld hx139_0 (fun hHeld => ?_)
     clear hK K
     refine norm_ (a' := ?_) ?_ ?_
     rotate_left
     · show Act.put _ (some 19) _ = _
       simp only [Act.put, List.setIfInBounds_toArray, List.set_cons_zero, List.set_cons_succ, i64_w, i32_w]
       rfl
     refine pureF 11 (N := some 23) HT_.1 ?_
     refine takeE 12 (N := some 24) HT_.1 HW_.1 hHeld ?_
     refine pureF 13 (N := some 25) HT_.1 ?_
     refine pureF 14 (N := some 26) HT_.1 ?_
     refine one_ (i := 18) (N := some 30) #[Yy,Yy,Yy,Yy,Yy,Yy,Yy,Yy,Yy,Yy,Yy,Yy,Yy,Yy,Yy,Yy,Yy,Yy,Yy,Zz,Zz,Zz,Zz] rfl rfl (one_of HT_.1 (by kernel_rfl)) (by decide) (fun K hK => ?_)
     refine goes_ Tryd.func48 (by kernel_rfl) rfl #[.int .i64 ((rd_T66 l0 x8_1).f1.f1)] (by rfl) rfl rfl (by (try simp only [List.map_toArray, List.map_cons, List.map_nil]); first | done | rfl | (simp only [List.length_drop, List.length_take]; rfl)) ?_
     with_reducible refine (spec_l1Num.calls k1 ((rd_T66 l0 x8_1).f1.f1) t140 _ A14.1).mono ?_
     rintro e w28 ⟨rfl, hb⟩
     have HS4_ := (hb.cell (World.block_lt_of_cell? _ _ (hHeld.2.2.2.2.1))).trans (hHeld.2.2.2.2.1)
     have HS5_ := (hb.cell (World.block_lt_of_cell? _ _ (hHeld.2.2.2.2.2))).trans (hHeld.2.2.2.2.2)
     refine ⟨_, rfl, ?_⟩
     refine E4 (rB HO134.1 hb) (rB HO138.1 hb) (bB BK131.1 hb) (bS HB.1 hb) ?_
     clear HO134 HO138 BK131 HB
     intro HO134 HO138 BK131 HB
     (try clear hb)
     (try clear hb2)
     (try clear hk)
     (try clear hi)
     refine hK.out _ _ ⟨(blk_cell BK131.1 0).trans rfl, (blk_cell BK131.1 1).trans rfl, (blk_cell BK131.1 2).trans rfl, (blk_cell BK131.1 3).trans rfl, HS4_, HS5_⟩ (fun hHeld => ?_)
     clear hK K
     refine norm_ (a' := ?_) ?_ ?_
     rotate_left
     · show Act.put _ (some 30) _ = _
       simp only [Act.put, List.setIfInBounds_toArray, List.set_cons_zero, List.set_cons_succ, i64_w, i32_w]
       rfl
     refine pureF 19 (N := some 31) HT_.1 ?_
     refine pureF 20 (N := some 32) HT_.1 ?_
     refine pureF 21 (N := some 33) HT_.1 ?_
     refine pureF 22 (N := some 3) HT_.1 ?_
     refine done_ (done_of HT_.1 (by kernel_rfl)) ?_
     obtain ⟨hcz29_0, hcz29_1, hcz29_2, hcz29_3, hfz29_0, hfz29_1, hfz29_2, hfz29_3⟩ := cz4 BK131.1
     try go_wp2
     go_roundg k1
     case measure => have := HK1.1; omega
     case rel => exact ⟨((x3_1 ++ ((((((rdOf ByteArray.empty t132 ((rd_T66 l0 x8_1).f0)) ++ (⟨#[32]⟩ : ByteArray)) ++ (rdOf ByteArray.empty t136 ((rd_T66 l0 x8_1).f1.f0))) ++ (⟨#[32]⟩ : ByteArray)) ++ t140) ++ (⟨#[32]⟩ : ByteArray))) ++ (⟨#[45, 10]⟩ : ByteArray)), (wrap64 (x8_1 + 1)), RG, RG, H', ⟨by have := HK1.1; omega⟩, ⟨BL HB.1⟩⟩
   replace H := bindA H; obtain ⟨t141, A30, H⟩ := H
   replace H := ifP H; obtain ⟨c31, H⟩ := H
   have c31b0 := eq_true c31
   have c31b1 := decide_eq_true c31
   try have c31b2 : (9223372036854775807 < t141.size + 1) = False := eq_false (Nat.not_lt.2 c31)
   replace H := ifP H; obtain ⟨c32, H⟩ := H
   have c32b0 := eq_true c32
   have c32b1 := decide_eq_true c32
   try have c32b2 : (9223372036854775807 < (x3_1 ++ ((((((rdOf ByteArray.empty t132 ((rd_T66 l0 x8_1).f0)) ++ (⟨#[32]⟩ : ByteArray)) ++ (rdOf ByteArray.empty t136 ((rd_T66 l0 x8_1).f1.f0))) ++ (⟨#[32]⟩ : ByteArray)) ++ t140) ++ (⟨#[32]⟩ : ByteArray))).size + (t141 ++ (⟨#[10]⟩ : ByteArray)).size) = False := eq_false (Nat.not_lt.2 c32)
   try have c32b3 : (9223372036854775807 < x3_1.size + ((rdOf ByteArray.empty t132 ((rd_T66 l0 x8_1).f0)).size + 1 + (rdOf ByteArray.empty t136 ((rd_T66 l0 x8_1).f1.f0)).size + 1 + t140.size + 1) + (t141.size + 1)) = False := by have h_ := c32b2; simp only [ByteArray.size_append] at h_; exact h_
   have H' := Aside0.mk H
   clear H
   have p130 : 0 <= (x8_1 : Int) := OD
   have q130 : x8_1 < (l0.length : Int) := OD
   obtain ⟨ad130, e130, hx130_0, hx130_1, hx130_2, hx130_3⟩ := at_T66 HR0.1 x8_1 p130 q130
   cases e130
   replace hx130_0 := (HB.1.cell (World.block_lt_of_cell? w _ hx130_0)).trans hx130_0
   replace hx130_1 := (HB.1.cell (World.block_lt_of_cell? w _ hx130_1)).trans hx130_1
   replace hx130_2 := (HB.1.cell (World.block_lt_of_cell? w _ hx130_2)).trans hx130_2
   replace hx130_3 := (HB.1.cell (World.block_lt_of_cell? w _ hx130_3)).trans hx130_3
   replace p130 := eq_true p130
   replace q130 := eq_true q130
   try go_wp2_with (first | ((with_reducible refine gate_dst (N := 5) rfl ?_); refine boxE (cs := #[.int .i64 0, .int .i64 0, .int .i64 0, .int .i64 0]) (t := 66) ?_; intro gb131 hg w33 hbox hb; refine E4b HB.1 hg hbox hb ?_; clear HB; intro HB BK131 GW131 GE131; clear hb hbox hg; obtain ⟨hcz34_0, hcz34_1, hcz34_2, hcz34_3, hfz34_0, hfz34_1, hfz34_2, hfz34_3⟩ := cz4 BK131.1))
   have n_ : (fun w35 : World => (w35.heap[gb131]? = some (.cells #[.int .i64 ((rd_T66 l0 x8_1).f0), .int .i64 ((rd_T66 l0 x8_1).f1.f0), .int .i64 ((rd_T66 l0 x8_1).f1.f1), .int .i64 ((rd_T66 l0 x8_1).f1.f2)] 66 (0, 0))) /\ (Below w.heap.size w w35)) ((((w33.setCell ⟨gb131, 0, none⟩ (.int .i64 ((rd_T66 l0 x8_1).f0))).setCell ⟨gb131, 1, none⟩ (.int .i64 ((rd_T66 l0 x8_1).f1.f0))).setCell ⟨gb131, 2, none⟩ (.int .i64 ((rd_T66 l0 x8_1).f1.f1))).setCell ⟨gb131, 3, none⟩ (.int .i64 ((rd_T66 l0 x8_1).f1.f2))) := ⟨by (with_reducible repeat (first | refine blk_drewN ?_ _ | refine blk_drew ?_ | refine blk_alloc ?_ _)); refine blk_put (cs := #[.int .i64 ((rd_T66 l0 x8_1).f0), .int .i64 ((rd_T66 l0 x8_1).f1.f0), .int .i64 ((rd_T66 l0 x8_1).f1.f1), .int .i64 0]) ?_ 3 _ rfl; (with_reducible repeat (first | refine blk_drewN ?_ _ | refine blk_drew ?_ | refine blk_alloc ?_ _)); refine blk_put (cs := #[.int .i64 ((rd_T66 l0 x8_1).f0), .int .i64 ((rd_T66 l0 x8_1).f1.f0), .int .i64 0, .int .i64 0]) ?_ 2 _ rfl; (with_reducible repeat (first | refine blk_drewN ?_ _ | refine blk_drew ?_ | refine blk_alloc ?_ _)); refine blk_put (cs := #[.int .i64 ((rd_T66 l0 x8_1).f0), .int .i64 0, .int .i64 0, .int .i64 0]) ?_ 1 _ rfl; (with_reducible repeat (first | refine blk_drewN ?_ _ | refine blk_drew ?_ | refine blk_alloc ?_ _)); refine blk_put (cs := #[.int .i64 0, .int .i64 0, .int .i64 0, .int .i64 0]) ?_ 0 _ rfl; (with_reducible repeat (first | refine blk_drewN ?_ _ | refine blk_drew ?_ | refine blk_alloc ?_ _)); exact BK131.1, BL HB.1⟩
   (try clear BK131)
   (try clear HB)
   generalize ((((w33.setCell ⟨gb131, 0, none⟩ (.int .i64 ((rd_T66 l0 x8_1).f0))).setCell ⟨gb131, 1, none⟩ (.int .i64 ((rd_T66 l0 x8_1).f1.f0))).setCell ⟨gb131, 2, none⟩ (.int .i64 ((rd_T66 l0 x8_1).f1.f1))).setCell ⟨gb131, 3, none⟩ (.int .i64 ((rd_T66 l0 x8_1).f1.f2))) = w35 at n_ ⊢
   obtain ⟨h0_, h1_⟩ := n_
   refine E2 h0_ h1_ ?_
   clear h0_ h1_
   intro BK131 HB
   refine E2 (blk_drew BK131.1) (below_drew1 HB.1) ?_
   clear BK131 HB
   intro BK131 HB
   refine start_ (n := 23) (S := fun w' => w'.cell? ⟨gb131, 0, none⟩ = some (.int .i64 ((rd_T66 l0 x8_1).f0)) /\ w'.cell? ⟨gb131, 1, none⟩ = some (.int .i64 ((rd_T66 l0 x8_1).f1.f0)) /\ w'.cell? ⟨gb131, 2, none⟩ = some (.int .i64 ((rd_T66 l0 x8_1).f1.f1)) /\ w'.cell? ⟨gb131, 3, none⟩ = some (.int .i64 ((rd_T66 l0 x8_1).f1.f2))) (ds := []) #[Zz,Zz,Zz,Zz,Zz,Zz,Zz,Zz,Zz,Zz,Zz,Zz,Zz,Zz,Zz,Zz,Zz,Zz,Zz,Zz,Zz,Zz,Zz] (by kernel_rfl) rfl rfl ⟨(blk_cell BK131.1 0).trans rfl, (blk_cell BK131.1 1).trans rfl, (blk_cell BK131.1 2).trans rfl, (blk_cell BK131.1 3).trans rfl⟩ (fun hHeld => ?_); refine with_tabW spec_loText.tab5 spec_loText.bits5 (fun HT_ HW_ => ?_)
   generalize w35.drew = w36 at BK131 HB hHeld ⊢
   refine pureF 0 (N := some 12) HT_.1 ?_
   refine pureF 2 (N := some 14) HT_.1 ?_
   refine pureF 8 (N := some 20) HT_.1 ?_
   refine pureF 9 (N := some 21) HT_.1 ?_
   refine pureF 15 (N := some 27) HT_.1 ?_
   refine pureF 16 (N := some 28) HT_.1 ?_
   refine takeE 3 (N := some 15) HT_.1 HW_.1 hHeld ?_
   refine takeE 10 (N := some 22) HT_.1 HW_.1 hHeld ?_
   refine takeE 17 (N := some 29) HT_.1 HW_.1 hHeld ?_
   refine one_ (i := 1) (N := some 13) #[Yy,Yy,Yy,Yy,Zz,Zz,Zz,Zz,Yy,Yy,Yy,Zz,Zz,Zz,Zz,Yy,Yy,Yy,Zz,Zz,Zz,Zz,Zz] rfl rfl (one_of HT_.1 (by kernel_rfl)) (by decide) (fun K hK => ?_)
   refine goes_ Tryd.func41 (by kernel_rfl) rfl #[] (by rfl) rfl rfl (by (try simp only [List.map_toArray, List.map_cons, List.map_nil]); first | done | rfl | (simp only [List.length_drop, List.length_take]; rfl)) ?_
   with_reducible refine (spec_loColours.calls  t132 _ A5.1).mono ?_
   rintro e w37 ⟨v133, rfl, ho0, hb⟩
   refine ⟨_, rfl, ?_⟩
   refine E3 (R_lower ho0 (bZ HB.1)) (bB BK131.1 hb) (bS HB.1 hb) ?_
   clear BK131 HB
   intro HO134 BK131 HB
   (try clear hb)
   (try clear hb2)
   (try clear hk)
   (try clear hi)
   (try clear ho0)
   obtain ⟨Ao38, co38, eo38⟩ := R_slice HO134.1
   (first | subst eo38 | (injection eo38 with f1_ f2_ f3_; have f4_ := f1_.symm; have f5_ := f3_.symm; clear f1_ f2_ f3_; subst f4_; subst f5_))
   have p135 : 0 <= (((rd_T66 l0 x8_1).f0) : Int) := OD
   have q135 : ((rd_T66 l0 x8_1).f0) < (t132.length : Int) := OD
   obtain ⟨ad135, e135, hx135_0⟩ := Kd.at_string (R_reads' HO134.1).2.2 ((rd_T66 l0 x8_1).f0) p135 q135
   cases e135
   replace p135 := eq_true p135
   replace q135 := eq_true q135
   refine hK.out _ _ ⟨(blk_cell BK131.1 0).trans rfl, (blk_cell BK131.1 1).trans rfl, (blk_cell BK131.1 2).trans rfl, (blk_cell BK131.1 3).trans rfl⟩ (fun hHeld => ?_)
   refine later_ (S2 := fun w' => w'.cell? (ad135.add (((rd_T66 l0 x8_1).f0)).toNat) = some (.string (rdOf ByteArray.empty t132 ((rd_T66 l0 x8_1).f0)))) (S' := fun w' => w'.cell? ⟨gb131, 0, none⟩ = some (.int .i64 ((rd_T66 l0 x8_1).f0)) /\ w'.cell? ⟨gb131, 1, none⟩ = some (.int .i64 ((rd_T66 l0 x8_1).f1.f0)) /\ w'.cell? ⟨gb131, 2, none⟩ = some (.int .i64 ((rd_T66 l0 x8_1).f1.f1)) /\ w'.cell? ⟨gb131, 3, none⟩ = some (.int .i64 ((rd_T66 l0 x8_1).f1.f2)) /\ w'.cell? (ad135.add (((rd_T66 l0 x8_1).f0)).toNat) = some (.string (rdOf ByteArray.empty t132 ((rd_T66 l0 x8_1).f0)))) (fun _ => by simp only [and_assoc]) _ _ _ _ hHeld hx135_0 (fun hHeld => ?_)
   clear hK K
   refine norm_ (a' := ?_) ?_ ?_
   rotate_left
   · show Act.put _ (some 13) _ = _
     simp only [Act.put, List.setIfInBounds_toArray, List.set_cons_zero, List.set_cons_succ, i64_w, i32_w]
     rfl
   refine pureF 4 (N := some 16) HT_.1 ?_
   refine takeE 5 (N := some 17) HT_.1 HW_.1 hHeld ?_
   refine pureF 6 (N := some 18) HT_.1 ?_
   refine one_ (i := 7) (N := some 19) #[Yy,Yy,Yy,Yy,Yy,Yy,Yy,Yy,Yy,Yy,Yy,Zz,Zz,Zz,Zz,Yy,Yy,Yy,Zz,Zz,Zz,Zz,Zz] rfl rfl (one_of HT_.1 (by kernel_rfl)) (by decide) (fun K hK => ?_)
   refine goes_ Tryd.func42 (by kernel_rfl) rfl #[] (by rfl) rfl rfl (by (try simp only [List.map_toArray, List.map_cons, List.map_nil]); first | done | rfl | (simp only [List.length_drop, List.length_take]; rfl)) ?_
   with_reducible refine (spec_loEnds.calls  t136 _ A9.1).mono ?_
   rintro e w39 ⟨v137, rfl, ho0, hb⟩
   have HS4_ := (hb.cell (World.block_lt_of_cell? _ _ (hHeld.2.2.2.2))).trans (hHeld.2.2.2.2)
   refine ⟨_, rfl, ?_⟩
   refine E4 (R_elder' (PR HO134.1) (R_base ho0) hb) (R_lower (R_new' ho0 (R_lt (PR HO134.1))) (bZ HB.1)) (bB BK131.1 hb) (bS HB.1 hb) ?_
   clear HO134 BK131 HB
   intro HO134 HO138 BK131 HB
   (try clear hb)
   (try clear hb2)
   (try clear hk)
   (try clear hi)
   (try clear ho0)
   obtain ⟨Ao40, co40, eo40⟩ := R_slice HO138.1
   (first | subst eo40 | (injection eo40 with f1_ f2_ f3_; have f4_ := f1_.symm; have f5_ := f3_.symm; clear f1_ f2_ f3_; subst f4_; subst f5_))
   have p139 : 0 <= (((rd_T66 l0 x8_1).f1.f0) : Int) := OD
   have q139 : ((rd_T66 l0 x8_1).f1.f0) < (t136.length : Int) := OD
   obtain ⟨ad139, e139, hx139_0⟩ := Kd.at_string (R_reads' HO138.1).2.2 ((rd_T66 l0 x8_1).f1.f0) p139 q139
   cases e139
   replace p139 := eq_true p139
   replace q139 := eq_true q139
   refine hK.out _ _ ⟨(blk_cell BK131.1 0).trans rfl, (blk_cell BK131.1 1).trans rfl, (blk_cell BK131.1 2).trans rfl, (blk_cell BK131.1 3).trans rfl, HS4_⟩ (fun hHeld => ?_)
   refine later_ (S2 := fun w' => w'.cell? (ad139.add (((rd_T66 l0 x8_1).f1.f0)).toNat) = some (.string (rdOf ByteArray.empty t136 ((rd_T66 l0 x8_1).f1.f0)))) (S' := fun w' => w'.cell? ⟨gb131, 0, none⟩ = some (.int .i64 ((rd_T66 l0 x8_1).f0)) /\ w'.cell? ⟨gb131, 1, none⟩ = some (.int .i64 ((rd_T66 l0 x8_1).f1.f0)) /\ w'.cell? ⟨gb131, 2, none⟩ = some (.int .i64 ((rd_T66 l0 x8_1).f1.f1)) /\ w'.cell? ⟨gb131, 3, none⟩ = some (.int .i64 ((rd_T66 l0 x8_1).f1.f2)) /\ w'.cell? (ad135.add (((rd_T66 l0 x8_1).f0)).toNat) = some (.string (rdOf ByteArray.empty t132 ((rd_T66 l0 x8_1).f0))) /\ w'.cell? (ad139.add (((rd_T66 l0 x8_1).f1.f0)).toNat) = some (.string (rdOf ByteArray.empty t136 ((rd_T66 l0 x8_1).f1.f0)))) (fun _ => by simp only [and_assoc]) _ _ _ _ hHeld hx139_0 (fun hHeld => ?_)
   clear hK K
   refine norm_ (a' := ?_) ?_ ?_
   rotate_left
   · show Act.put _ (some 19) _ = _
     simp only [Act.put, List.setIfInBounds_toArray, List.set_cons_zero, List.set_cons_succ, i64_w, i32_w]
     rfl
   refine pureF 11 (N := some 23) HT_.1 ?_
   refine takeE 12 (N := some 24) HT_.1 HW_.1 hHeld ?_
   refine pureF 13 (N := some 25) HT_.1 ?_
   refine pureF 14 (N := some 26) HT_.1 ?_
   refine one_ (i := 18) (N := some 30) #[Yy,Yy,Yy,Yy,Yy,Yy,Yy,Yy,Yy,Yy,Yy,Yy,Yy,Yy,Yy,Yy,Yy,Yy,Yy,Zz,Zz,Zz,Zz] rfl rfl (one_of HT_.1 (by kernel_rfl)) (by decide) (fun K hK => ?_)
   refine goes_ Tryd.func48 (by kernel_rfl) rfl #[.int .i64 ((rd_T66 l0 x8_1).f1.f1)] (by rfl) rfl rfl (by (try simp only [List.map_toArray, List.map_cons, List.map_nil]); first | done | rfl | (simp only [List.length_drop, List.length_take]; rfl)) ?_
   with_reducible refine (spec_l1Num.calls k1 ((rd_T66 l0 x8_1).f1.f1) t140 _ A14.1).mono ?_
   rintro e w41 ⟨rfl, hb⟩
   have HS4_ := (hb.cell (World.block_lt_of_cell? _ _ (hHeld.2.2.2.2.1))).trans (hHeld.2.2.2.2.1)
   have HS5_ := (hb.cell (World.block_lt_of_cell? _ _ (hHeld.2.2.2.2.2))).trans (hHeld.2.2.2.2.2)
   refine ⟨_, rfl, ?_⟩
   refine E4 (rB HO134.1 hb) (rB HO138.1 hb) (bB BK131.1 hb) (bS HB.1 hb) ?_
   clear HO134 HO138 BK131 HB
   intro HO134 HO138 BK131 HB
   (try clear hb)
   (try clear hb2)
   (try clear hk)
   (try clear hi)
   refine hK.out _ _ ⟨(blk_cell BK131.1 0).trans rfl, (blk_cell BK131.1 1).trans rfl, (blk_cell BK131.1 2).trans rfl, (blk_cell BK131.1 3).trans rfl, HS4_, HS5_⟩ (fun hHeld => ?_)
   clear hK K
   refine norm_ (a' := ?_) ?_ ?_
   rotate_left
   · show Act.put _ (some 30) _ = _
     simp only [Act.put, List.setIfInBounds_toArray, List.set_cons_zero, List.set_cons_succ, i64_w, i32_w]
     rfl
   refine pureF 19 (N := some 31) HT_.1 ?_
   refine pureF 20 (N := some 32) HT_.1 ?_
   refine pureF 21 (N := some 33) HT_.1 ?_
   refine pureF 22 (N := some 3) HT_.1 ?_
   refine done_ (done_of HT_.1 (by kernel_rfl)) ?_
   obtain ⟨hcz42_0, hcz42_1, hcz42_2, hcz42_3, hfz42_0, hfz42_1, hfz42_2, hfz42_3⟩ := cz4 BK131.1
   try go_wp2_with (first | ((with_reducible refine gate_callee (f := 48) rfl ?_); refine goesM (N := (some 44)) #[.int .i64 ((rd_T66 l0 x8_1).f1.f2)] Tryd.func48 ?_; (with_reducible refine (spec_l1Num.calls k1 ((rd_T66 l0 x8_1).f1.f2) t141 _ A30.1).mono ?_); rintro e w43 ⟨rfl, hb⟩; refine ⟨_, rfl, ?_⟩; refine E4 (rB HO134.1 hb) (rB HO138.1 hb) (bB BK131.1 hb) (bS HB.1 hb) ?_; clear HO134 HO138 BK131 HB; intro HO134 HO138 BK131 HB; (try clear hb)))
   go_roundg k1
   case measure => have := HK1.1; omega
   case rel => exact ⟨((x3_1 ++ ((((((rdOf ByteArray.empty t132 ((rd_T66 l0 x8_1).f0)) ++ (⟨#[32]⟩ : ByteArray)) ++ (rdOf ByteArray.empty t136 ((rd_T66 l0 x8_1).f1.f0))) ++ (⟨#[32]⟩ : ByteArray)) ++ t140) ++ (⟨#[32]⟩ : ByteArray))) ++ (t141 ++ (⟨#[10]⟩ : ByteArray))), (wrap64 (x8_1 + 1)), RG, RG, H', ⟨by have := HK1.1; omega⟩, ⟨BL HB.1⟩⟩
 obtain rfl := Option.some.inj H
 go_wp2
 go_ret
 exact ⟨RF, BL HB.1⟩
end Go.Proofs.YtfekgidcnidijaaDoor.P
