-- PRINTED by print.py (a twelfth state) out of the translation. Not trusted: Lean checks it.
import Derived.Test.YtdkfgomjfigmbaaPx0
import Derived.Test.YtdkfgomjfigmbaaPx1
import Derived.Test.YtdkfgomjfigmbaaPx2
import Derived.Test.YtdkfgomjfigmbaaPx3
namespace Go.Proofs.Ytdkfgomjfigmbaa.P
open Go.RowKit Go.Proofs.YtdkfgomjfigmbaaW.PrintWords Go.Proofs.YtdkfgomjfigmbaaW.PrintLast Go.Proofs.YtdkfgomjfigmbaaW.PrintMore
attribute [local go_sem] max2_int min2_int max_two min_two max_three min_three max_four min_four   -- for this text's walks alone
set_option linter.unusedVariables false
set_option linter.unusedSimpArgs false
set_option maxHeartbeats 8000000
set_option maxRecDepth 100000

attribute [local go_sem high] eqA63
/-! ### laws_szNodeS: function 44 -/
open Kd
def laws_szNodeS.f (l0 : List (S86)) (a1 : Int) : Option (Int) := if (wrap64 (a1 - (l0.length : Int))) < 0 then (some (-1)) else (some (wrap64 (a1 - (l0.length : Int))))
theorem laws_szNodeS.calls (A0 : Option Addr) (c0 : Nat) (l0 : List (S86)) (a1 : Int) (r : Int) (w : World) (hr0 : Kd.C k86 w A0 l0.length l0) (hc0 : l0.length <= c0) (h : laws_szNodeS.f l0 a1 = some r) :
 Calls Try.prog 44 #[.slice A0 l0.length c0, .int .i64 a1] w fun e w' => e = .returned (.int .i64 r) /\ Drawn0 w w' := by
 have HR0 := Aside0.mk hr0
 have HC0 := Aside0.mk hc0
 clear hr0 hc0
 have H := h
 clear h
 unfold laws_szNodeS.f at H
 replace H := ifB H; rcases H with ⟨c3b0, H⟩ | ⟨c3b0, H⟩
 · obtain rfl := Option.some.inj H
   go_enter Try.func44, Try.ntmps44
   go_wp2
   go_ret
   exact ⟨RG, DR⟩
 obtain rfl := Option.some.inj H
 go_enter Try.func44, Try.ntmps44
 go_wp2
 go_ret
 exact ⟨RG, DR⟩
/-! ### laws_szDiagram: function 12 -/
open Kd
def laws_szDiagram.f (a0_0 : Int) (l0_1 : List (S86)) (a0_2 : Int) (a1 : Int) : Option (Int) := (laws_szNodeS.f l0_1 a1).bind fun t102 => (if t102 < 0 then (some (-1)) else (some t102))
theorem laws_szDiagram.calls (a0_0 : Int) (A0_1 : Option Addr) (c0_1 : Nat) (l0_1 : List (S86)) (a0_2 : Int) (a1 : Int) (r : Int) (w : World) (hr0_1 : Kd.C k86 w A0_1 l0_1.length l0_1) (hc0_1 : l0_1.length <= c0_1) (h : laws_szDiagram.f a0_0 l0_1 a0_2 a1 = some r) :
 Calls Try.prog 12 #[.agg #[.int .i64 a0_0, .slice A0_1 l0_1.length c0_1, .int .i64 a0_2], .int .i64 a1] w fun e w' => e = .returned (.int .i64 r) /\ Below w.heap.size w w' := by
 have hu24 := Try.underlying24
 have HR0_1 := Aside0.mk hr0_1
 have HC0_1 := Aside0.mk hc0_1
 clear hr0_1 hc0_1
 have HB := Aside0.mk (Below.refl w.heap.size w)
 have H := h
 clear h
 unfold laws_szDiagram.f at H
 replace H := bindA H; obtain ⟨t102, A3, H⟩ := H
 replace H := ifB H; rcases H with ⟨c4b0, H⟩ | ⟨c4b0, H⟩
 · obtain rfl := Option.some.inj H
   go_enter Try.func12, Try.ntmps12
   go_wp2_with (first | ((with_reducible refine gate_dst (N := 2) rfl ?_); refine boxE (cs := #[.int .i64 a0_0, .slice A0_1 l0_1.length c0_1, .int .i64 a0_2]) (t := 24) ?_; intro gb101 hg w5 hbox hb; refine E4b HB.1 hg hbox hb ?_; clear HB; intro HB BK101 GW101 GE101; clear hb hbox hg; obtain ⟨hcz6_0, hcz6_1, hcz6_2, hfz6_0, hfz6_1, hfz6_2⟩ := cz3 BK101.1) | ((with_reducible refine gate_callee (f := 44) rfl ?_); refine goesM (N := (some 8)) #[.slice A0_1 l0_1.length c0_1, .int .i64 a1] Try.func44 ?_; (with_reducible refine (laws_szNodeS.calls _ _ l0_1 a1 t102 _ ?side1 ?side2 A3.1).mono ?_); (case side1 => exact CB (C_below HR0_1.1 HB.1)); (case side2 => exact HC0_1.1); rintro e w' ⟨rfl, ⟨nd, rfl⟩⟩; refine ⟨_, rfl, ?_⟩))
   go_ret
   exact ⟨RF, BL HB.1⟩
 obtain rfl := Option.some.inj H
 go_enter Try.func12, Try.ntmps12
 go_wp2_with (first | ((with_reducible refine gate_dst (N := 2) rfl ?_); refine boxE (cs := #[.int .i64 a0_0, .slice A0_1 l0_1.length c0_1, .int .i64 a0_2]) (t := 24) ?_; intro gb101 hg w7 hbox hb; refine E4b HB.1 hg hbox hb ?_; clear HB; intro HB BK101 GW101 GE101; clear hb hbox hg; obtain ⟨hcz8_0, hcz8_1, hcz8_2, hfz8_0, hfz8_1, hfz8_2⟩ := cz3 BK101.1) | ((with_reducible refine gate_callee (f := 44) rfl ?_); refine goesM (N := (some 8)) #[.slice A0_1 l0_1.length c0_1, .int .i64 a1] Try.func44 ?_; (with_reducible refine (laws_szNodeS.calls _ _ l0_1 a1 t102 _ ?side1 ?side2 A3.1).mono ?_); (case side1 => exact CB (C_below HR0_1.1 HB.1)); (case side2 => exact HC0_1.1); rintro e w' ⟨rfl, ⟨nd, rfl⟩⟩; refine ⟨_, rfl, ?_⟩))
 go_ret
 exact ⟨RF, BL HB.1⟩
/-! ### spec_ddValue: function 65 -/
open Kd
def spec_ddValue.l0 : Nat -> Int -> Int -> Int -> List (S63) -> Int -> Option (Int)
 | 0, _, _, _, _, _ => none
 | k + 1, x1, x5, x111000, x111001, x111002 => if x5 > 1 then (if 0 <= (wrap64 (x5 - 2)) then (if (wrap64 (x5 - 2)) < (x111001.length : Int) then ((spec_ttBit.f x1 ((rd_T63 x111001 (wrap64 (x5 - 2))).f0)).bind fun t113 => (if t113 = 0 then (spec_ddValue.l0 k x1 ((rd_T63 x111001 (wrap64 (x5 - 2))).f1) x111000 x111001 x111002) else (spec_ddValue.l0 k x1 ((rd_T63 x111001 (wrap64 (x5 - 2))).f2) x111000 x111001 x111002))) else (none)) else (none)) else (some x5)
def spec_ddValue.f (k : Nat) (a0_0 : Int) (l0_1 : List (S63)) (a0_2 : Int) (a1 : Int) : Option (Int) := spec_ddValue.l0 k a1 a0_2 a0_0 l0_1 a0_2
theorem spec_ddValue.mono_l : ∀ k, (∀ y0 y1 y2 y3 y4, LeO (spec_ddValue.l0 k y0 y1 y2 y3 y4) (spec_ddValue.l0 (k + 1) y0 y1 y2 y3 y4))
 | 0 => fun _ _ _ _ _ r h => by simp [spec_ddValue.l0] at h
 | k + 1 => by
  have ih0 := spec_ddValue.mono_l k
  intros
  first | unfold spec_ddValue.l0
  exact LM1 ih0
theorem spec_ddValue.mono : ∀ a0 a1 a2 a3 k, LeO (spec_ddValue.f k a0 a1 a2 a3) (spec_ddValue.f (k + 1) a0 a1 a2 a3) := by
 intro a0 a1 a2 a3 k
 have ih0 := spec_ddValue.mono_l k
 unfold spec_ddValue.f
 exact LM1 ih0
theorem spec_ddValue.calls (k : Nat) (a0_0 : Int) (A0_1 : Option Addr) (c0_1 : Nat) (l0_1 : List (S63)) (a0_2 : Int) (a1 : Int) (r : Int) (w : World) (hr0_1 : Kd.C k63 w A0_1 l0_1.length l0_1) (hc0_1 : l0_1.length <= c0_1) (h : spec_ddValue.f k a0_0 l0_1 a0_2 a1 = some r) :
 Calls Try.prog 65 #[.agg #[.int .i64 a0_0, .slice A0_1 l0_1.length c0_1, .int .i64 a0_2], .int .i64 a1] w fun e w' => e = .returned (.int .i64 r) /\ Below w.heap.size w w' := by
 have hu29 := Try.underlying29
 have hu63 := Try.underlying63
 have HR0_1 := Aside0.mk hr0_1
 have HC0_1 := Aside0.mk hc0_1
 clear hr0_1 hc0_1
 have HB := Aside0.mk (Below.refl w.heap.size w)
 have H := h
 clear h
 unfold spec_ddValue.f at H
 have H' := Aside0.mk H
 clear H
 go_enter Try.func65, Try.ntmps65
 go_wp2_with (first | ((with_reducible refine gate_dst (N := 2) rfl ?_); refine boxE (cs := #[.int .i64 a0_0, .slice A0_1 l0_1.length c0_1, .int .i64 a0_2]) (t := 29) ?_; intro gb110 hg w3 hbox hb; refine E4b HB.1 hg hbox hb ?_; clear HB; intro HB BK110 GW110 GE110; clear hb hbox hg; obtain ⟨hcz4_0, hcz4_1, hcz4_2, hfz4_0, hfz4_1, hfz4_2⟩ := cz3 BK110.1))
 go_loopg [5] k (fun kq v5 w' => ∃ (x5_1 : Int), v5 = .int .i64 x5_1 /\ Aside0 (spec_ddValue.l0 kq a1 x5_1 a0_0 l0_1 a0_2 = some r) /\ Aside0 (kq <= k) /\ Aside0 (w'.heap[gb110]? = some (.cells #[.int .i64 a0_0, (.slice A0_1 l0_1.length c0_1), .int .i64 a0_2] 29 (0, 0))) /\ Aside0 (Below w.heap.size w w'))
 case atStart => exact ⟨(a0_2), RG, H', ⟨Nat.le_refl _⟩, ⟨PB BK110.1⟩, ⟨BL HB.1⟩⟩
 clear H'
 clear hcz4_0 hcz4_1 hcz4_2 hfz4_0 hfz4_1 hfz4_2
 obtain ⟨x5_1, rfl, HA, HK1, BK110, HB⟩ := hrel
 cases gk with
 | zero => exact absurd HA.1 (by simp [spec_ddValue.l0])
 | succ k1 => ?_
 have H := HA.1
 clear HA
 simp only [spec_ddValue.l0] at H
 replace H := ifQ H; rcases H with ⟨c5, H⟩ | ⟨c5, H⟩
 · have c5b0 : decide (1 < x5_1) = true := decide_eq_true c5
   clear c5
   obtain ⟨ji6, hji6⟩ : ∃ j_ : Int, (wrap64 (x5_1 - 2)) = j_ := ⟨_, rfl⟩
   replace H : (if 0 <= (ji6) then (if (ji6) < (l0_1.length : Int) then ((spec_ttBit.f a1 ((rd_T63 l0_1 (ji6)).f0)).bind fun t113 => (if t113 = 0 then (spec_ddValue.l0 k1 a1 ((rd_T63 l0_1 (ji6)).f1) a0_0 l0_1 a0_2) else (spec_ddValue.l0 k1 a1 ((rd_T63 l0_1 (ji6)).f2) a0_0 l0_1 a0_2))) else (none)) else (none)) = some r := by first | (rw [hji6] at H; exact H) | (simp only [hji6] at H ⊢; exact H)
   have hji6w : (IntKind.i64.wrap (x5_1 - 2)) = ji6 := (i64_w _).trans hji6
   replace H := ifN H; obtain ⟨c7b0, H⟩ := H
   replace H := ifN H; obtain ⟨c8b0, H⟩ := H
   replace H := bindA H; obtain ⟨t113, A9, H⟩ := H
   replace H := ifQ H; rcases H with ⟨c10, H⟩ | ⟨c10, H⟩
   · have c10b0 := beq_iff_eq.mpr c10
     have c10b1 := bne_eq_false_iff_eq.mpr c10
     clear c10
     have H' := Aside0.mk H
     clear H
     obtain ⟨hcz11_0, hcz11_1, hcz11_2, hfz11_0, hfz11_1, hfz11_2⟩ := cz3 BK110.1
     have p111 : 0 <= ((ji6) : Int) := OD
     have q111 : (ji6) < (l0_1.length : Int) := OD
     obtain ⟨ad111, e111, hx111_0, hx111_1, hx111_2⟩ := at_T63 HR0_1.1 (ji6) p111 q111
     cases e111
     replace hx111_0 := (HB.1.cell (World.block_lt_of_cell? w _ hx111_0)).trans hx111_0
     replace hx111_1 := (HB.1.cell (World.block_lt_of_cell? w _ hx111_1)).trans hx111_1
     replace hx111_2 := (HB.1.cell (World.block_lt_of_cell? w _ hx111_2)).trans hx111_2
     replace p111 := eq_true p111
     replace q111 := eq_true q111
     go_wp2_with (first | ((with_reducible refine gate_dst (N := 6) rfl ?_); refine boxE (cs := #[.int .i64 0, .int .i64 0, .int .i64 0]) (t := 63) ?_; intro gb112 hg w12 hbox hb; refine E7 (bB BK110.1 hb) (bS HB.1 hb) (hbox) (gX HB.1 hg) (gX HB.1 hg) (nB BK110.1 hg) (nC BK110.1 hg) ?_; clear BK110 HB; intro BK110 HB BK112 GW112 GE112 NB110_112 NB112_110; clear hb hbox hg; have hnb13 := NB112_110.1; have hnc13 := NB110_112.1; obtain ⟨hcz14_0, hcz14_1, hcz14_2, hfz14_0, hfz14_1, hfz14_2⟩ := cz3 BK112.1) | ((with_reducible refine gate_callee (f := 83) rfl ?_); refine goesL_ (some 20) rfl rfl Try.func83 (by kernel_rfl) rfl #[.int .i64 a1, .int .i64 ((rd_T63 l0_1 (ji6)).f0)] rfl (by (try simp only [List.map_toArray, List.map_cons, List.map_nil]); first | done | (simp only [hji6]; rfl) | rfl | (simp only [List.length_drop, List.length_take]; rfl)) ?_; (with_reducible refine (spec_ttBit.calls a1 ((rd_T63 l0_1 (ji6)).f0) t113 _ A9.1).mono ?_); rintro e w' ⟨rfl, ⟨nd, rfl⟩⟩; refine ⟨_, rfl, ?_⟩))
     go_roundg k1
     case measure => have := HK1.1; omega
     case rel => exact ⟨((rd_T63 l0_1 (ji6)).f1), (by first | rfl | (simp; done) | (simp only [<- hji6] <;> (first | rfl | simp)) | (simp [*]; done)), H', ⟨by have := HK1.1; omega⟩, ⟨by (with_reducible repeat (first | refine blk_drewN ?_ _ | refine blk_drew ?_ | refine blk_alloc ?_ _)); refine blk_far ?_ NB110_112.1 _; (with_reducible repeat (first | refine blk_drewN ?_ _ | refine blk_drew ?_ | refine blk_alloc ?_ _)); refine blk_far ?_ NB110_112.1 _; (with_reducible repeat (first | refine blk_drewN ?_ _ | refine blk_drew ?_ | refine blk_alloc ?_ _)); refine blk_far ?_ NB110_112.1 _; (with_reducible repeat (first | refine blk_drewN ?_ _ | refine blk_drew ?_ | refine blk_alloc ?_ _)); exact BK110.1⟩, ⟨BL HB.1⟩⟩
   have c10b0 := beq_eq_false_iff_ne.mpr c10
   have c10b1 := bne_iff_ne.mpr c10
   have H' := Aside0.mk H
   clear H
   obtain ⟨hcz15_0, hcz15_1, hcz15_2, hfz15_0, hfz15_1, hfz15_2⟩ := cz3 BK110.1
   have p111 : 0 <= ((ji6) : Int) := OD
   have q111 : (ji6) < (l0_1.length : Int) := OD
   obtain ⟨ad111, e111, hx111_0, hx111_1, hx111_2⟩ := at_T63 HR0_1.1 (ji6) p111 q111
   cases e111
   replace hx111_0 := (HB.1.cell (World.block_lt_of_cell? w _ hx111_0)).trans hx111_0
   replace hx111_1 := (HB.1.cell (World.block_lt_of_cell? w _ hx111_1)).trans hx111_1
   replace hx111_2 := (HB.1.cell (World.block_lt_of_cell? w _ hx111_2)).trans hx111_2
   replace p111 := eq_true p111
   replace q111 := eq_true q111
   go_wp2_with (first | ((with_reducible refine gate_dst (N := 6) rfl ?_); refine boxE (cs := #[.int .i64 0, .int .i64 0, .int .i64 0]) (t := 63) ?_; intro gb112 hg w16 hbox hb; refine E7 (bB BK110.1 hb) (bS HB.1 hb) (hbox) (gX HB.1 hg) (gX HB.1 hg) (nB BK110.1 hg) (nC BK110.1 hg) ?_; clear BK110 HB; intro BK110 HB BK112 GW112 GE112 NB110_112 NB112_110; clear hb hbox hg; have hnb17 := NB112_110.1; have hnc17 := NB110_112.1; obtain ⟨hcz18_0, hcz18_1, hcz18_2, hfz18_0, hfz18_1, hfz18_2⟩ := cz3 BK112.1) | ((with_reducible refine gate_callee (f := 83) rfl ?_); refine goesL_ (some 20) rfl rfl Try.func83 (by kernel_rfl) rfl #[.int .i64 a1, .int .i64 ((rd_T63 l0_1 (ji6)).f0)] rfl (by (try simp only [List.map_toArray, List.map_cons, List.map_nil]); first | done | (simp only [hji6]; rfl) | rfl | (simp only [List.length_drop, List.length_take]; rfl)) ?_; (with_reducible refine (spec_ttBit.calls a1 ((rd_T63 l0_1 (ji6)).f0) t113 _ A9.1).mono ?_); rintro e w' ⟨rfl, ⟨nd, rfl⟩⟩; refine ⟨_, rfl, ?_⟩))
   go_roundg k1
   case measure => have := HK1.1; omega
   case rel => exact ⟨((rd_T63 l0_1 (ji6)).f2), (by first | rfl | (simp; done) | (simp only [<- hji6] <;> (first | rfl | simp)) | (simp [*]; done)), H', ⟨by have := HK1.1; omega⟩, ⟨by (with_reducible repeat (first | refine blk_drewN ?_ _ | refine blk_drew ?_ | refine blk_alloc ?_ _)); refine blk_far ?_ NB110_112.1 _; (with_reducible repeat (first | refine blk_drewN ?_ _ | refine blk_drew ?_ | refine blk_alloc ?_ _)); refine blk_far ?_ NB110_112.1 _; (with_reducible repeat (first | refine blk_drewN ?_ _ | refine blk_drew ?_ | refine blk_alloc ?_ _)); refine blk_far ?_ NB110_112.1 _; (with_reducible repeat (first | refine blk_drewN ?_ _ | refine blk_drew ?_ | refine blk_alloc ?_ _)); exact BK110.1⟩, ⟨BL HB.1⟩⟩
 have c5b0 : decide (1 < x5_1) = false := decide_eq_false c5
 clear c5
 obtain rfl := Option.some.inj H
 go_wp2
 go_ret
 exact ⟨RF, BL HB.1⟩
/-! ### spec_ddTable: function 58 -/
open Kd
def spec_ddTable.l0 : Nat -> Int -> Int -> List (S63) -> Int -> Int -> List Int -> Option (Int × List Int)
 | 0, _, _, _, _, _, _ => none
 | k + 1, x4, x115000, x115001, x115002, x117000, x117001 => if 0 <= (IntKind.u64.wrap (x115000)) then (if x4 < (shl .i64 1 (IntKind.u64.wrap (x115000))) then ((spec_ddValue.f k x115000 x115001 x115002 x4).bind fun t117 => (if x117001.length < 17592186044416 then (spec_ddTable.l0 k (wrap64 (x4 + 1)) x115000 x115001 x115002 x117000 (x117001 ++ [t117])) else (none))) else (some (x117000, x117001))) else (none)
def spec_ddTable.f (k : Nat) (a0_0 : Int) (l0_1 : List (S63)) (a0_2 : Int) : Option (Int × List Int) := spec_ddTable.l0 k 0 a0_0 l0_1 a0_2 a0_0 ([] : List Int)
theorem spec_ddTable.mono_l : ∀ k, (∀ y0 y1 y2 y3 y4 y5, LeO (spec_ddTable.l0 k y0 y1 y2 y3 y4 y5) (spec_ddTable.l0 (k + 1) y0 y1 y2 y3 y4 y5))
 | 0 => fun _ _ _ _ _ _ r h => by simp [spec_ddTable.l0] at h
 | k + 1 => by
  have ih0 := spec_ddTable.mono_l k
  intros
  first | unfold spec_ddTable.l0
  exact LM2 ih0 spec_ddValue.mono
theorem spec_ddTable.mono : ∀ a0 a1 a2 k, LeO (spec_ddTable.f k a0 a1 a2) (spec_ddTable.f (k + 1) a0 a1 a2) := by
 intro a0 a1 a2 k
 have ih0 := spec_ddTable.mono_l k
 unfold spec_ddTable.f
 exact LM2 ih0 spec_ddValue.mono
def spec_ddTable.T5 : Bool × List (List Nat × List Nat) := (true, [([], []), ([0], [0]), ([], []), ([], []), ([2, 3], [2, 3]), ([4], [4]), ([1, 5, 4], [1, 5]), ([0, 1, 2, 3, 4, 5, 6], []), ([7, 6, 6, 0, 1, 2, 3, 4, 5, 6], [6, 7])])
def spec_ddTable.B5 : List Nat := [0, 1, 0, 0, 12, 28, 63, 127, 255]
theorem spec_ddTable.tab5 : rtab .any (opsOf Try.f58 5) = spec_ddTable.T5 := by kernel_rfl
theorem spec_ddTable.bits5 : waitsOk spec_ddTable.T5.2 spec_ddTable.B5 = true := by kernel_rfl
theorem spec_ddTable.calls (k : Nat) (a0_0 : Int) (A0_1 : Option Addr) (c0_1 : Nat) (l0_1 : List (S63)) (a0_2 : Int) (r1 : Int) (r2 : List Int) (w : World) (hr0_1 : Kd.C k63 w A0_1 l0_1.length l0_1) (hc0_1 : l0_1.length <= c0_1) (h : spec_ddTable.f k a0_0 l0_1 a0_2 = some (r1, r2)) :
 Calls Try.prog 58 #[.agg #[.int .i64 a0_0, .slice A0_1 l0_1.length c0_1, .int .i64 a0_2]] w fun e w' => ∃ v1_ : Value, e = .returned (.agg #[.int .i64 r1, v1_]) /\ Kd.R (Kd.int .i64) 3 w' w.heap.size (fun _ => True) v1_ r2 /\ Below w.heap.size w w' := by
 have hu29 := Try.underlying29
 have hu41 := Try.underlying41
 have HR0_1 := Aside0.mk hr0_1
 have HC0_1 := Aside0.mk hc0_1
 clear hr0_1 hc0_1
 have HB := Aside0.mk (Below.refl w.heap.size w)
 have H := h
 clear h
 unfold spec_ddTable.f at H
 have H' := Aside0.mk H
 clear H
 go_enter Try.func58, Try.ntmps58
 go_wp2_with (first | ((with_reducible refine gate_dst (N := 1) rfl ?_); refine boxE (cs := #[.int .i64 a0_0, .slice A0_1 l0_1.length c0_1, .int .i64 a0_2]) (t := 29) ?_; intro gb114 hg w2 hbox hb; refine E4b HB.1 hg hbox hb ?_; clear HB; intro HB BK114 GW114 GE114; clear hb hbox hg) | ((with_reducible refine gate_dst (N := 2) rfl ?_); refine boxE (cs := #[.int .i64 0, .slice none 0 0]) (t := 41) ?_; intro gb115 hg w3 hbox hb; refine E7 (bB BK114.1 hb) (bS HB.1 hb) (hbox) (gX HB.1 hg) (gX HB.1 hg) (nB BK114.1 hg) (nC BK114.1 hg) ?_; clear BK114 HB; intro BK114 HB BK115 GW115 GE115 NB114_115 NB115_114; clear hb hbox hg; have hnb4 := NB114_115.1; have hnc4 := NB115_114.1; obtain ⟨hcz5_0, hcz5_1, hcz5_2, hfz5_0, hfz5_1, hfz5_2⟩ := cz3 BK114.1) | ((with_reducible refine gate_dst (N := 3) rfl ?_); refine boxE (cs := #[.int .i64 0, .slice none 0 0]) (t := 41) ?_; intro gb116 hg w6 hbox hb; refine E10 (bB BK114.1 hb) (bB BK115.1 hb) (bS HB.1 hb) (hbox) (gX HB.1 hg) (gX HB.1 hg) (nB BK114.1 hg) (nC BK114.1 hg) (nB BK115.1 hg) (nC BK115.1 hg) ?_; clear BK114 BK115 HB; intro BK114 BK115 HB BK116 GW116 GE116 NB114_116 NB116_114 NB115_116 NB116_115; clear hb hbox hg; have hnb7 := NB116_114.1; have hnc7 := NB114_116.1; have hnb8 := NB116_115.1; have hnc8 := NB115_116.1; obtain ⟨hcz9_0, hcz9_1, hfz9_0, hfz9_1⟩ := cz2 BK116.1))
 go_loopg [4] k (fun kq v4 w' => ∃ (x4_1 : Int) (x117001_1 : List Int) (u117001 : Value), v4 = .int .i64 x4_1 /\ Aside0 (spec_ddTable.l0 kq x4_1 a0_0 l0_1 a0_2 a0_0 x117001_1 = some (r1, r2)) /\ Aside0 (kq <= k) /\ Aside0 (Kd.R (Kd.int .i64) 3 w' w.heap.size (fun _ => True) u117001 x117001_1) /\ Aside0 (w'.heap[gb114]? = some (.cells #[.int .i64 a0_0, (.slice A0_1 l0_1.length c0_1), .int .i64 a0_2] 29 (0, 0))) /\ Aside0 (w'.heap[gb115]? = some (.cells #[.int .i64 0, (.slice none 0 0)] 41 (0, 0))) /\ Aside0 (w'.heap[gb116]? = some (.cells #[.int .i64 a0_0, u117001] 41 (0, 0))) /\ Aside0 (Below w.heap.size w w'))
 case atStart => exact ⟨(0), (([] : List Int)), (.slice none 0 0), RG, H', ⟨Nat.le_refl _⟩, ⟨by first | exact R_nil _ _ _ _ _ | exact N_nil _ _ _ _ _ | exact V_nil _ _ _ _ _ | exact Q_nil _ _ _ _ _ | exact S_nil _ _ _ _ _⟩, ⟨by (with_reducible repeat (first | refine blk_drewN ?_ _ | refine blk_drew ?_ | refine blk_alloc ?_ _)); refine blk_far ?_ NB114_116.1 _; (with_reducible repeat (first | refine blk_drewN ?_ _ | refine blk_drew ?_ | refine blk_alloc ?_ _)); refine blk_far ?_ NB114_116.1 _; (with_reducible repeat (first | refine blk_drewN ?_ _ | refine blk_drew ?_ | refine blk_alloc ?_ _)); exact BK114.1⟩, ⟨by (with_reducible repeat (first | refine blk_drewN ?_ _ | refine blk_drew ?_ | refine blk_alloc ?_ _)); refine blk_far ?_ NB115_116.1 _; (with_reducible repeat (first | refine blk_drewN ?_ _ | refine blk_drew ?_ | refine blk_alloc ?_ _)); refine blk_far ?_ NB115_116.1 _; (with_reducible repeat (first | refine blk_drewN ?_ _ | refine blk_drew ?_ | refine blk_alloc ?_ _)); exact BK115.1⟩, ⟨by (with_reducible repeat (first | refine blk_drewN ?_ _ | refine blk_drew ?_ | refine blk_alloc ?_ _)); refine blk_put (cs := #[.int .i64 a0_0, .slice none 0 0]) ?_ 1 _ rfl; (with_reducible repeat (first | refine blk_drewN ?_ _ | refine blk_drew ?_ | refine blk_alloc ?_ _)); refine blk_put (cs := #[.int .i64 0, .slice none 0 0]) ?_ 0 _ rfl; (with_reducible repeat (first | refine blk_drewN ?_ _ | refine blk_drew ?_ | refine blk_alloc ?_ _)); exact BK116.1⟩, ⟨BL HB.1⟩⟩
 clear H'
 clear hcz5_0 hcz5_1 hcz5_2 hcz9_0 hcz9_1 hfz5_0 hfz5_1 hfz5_2 hfz9_0 hfz9_1
 obtain ⟨x4_1, x117001_1, u117001, rfl, HA, HK1, HO_117001, BK114, BK115, BK116, HB⟩ := hrel
 cases gk with
 | zero => exact absurd HA.1 (by simp [spec_ddTable.l0])
 | succ k1 => ?_
 have H := HA.1
 clear HA
 simp only [spec_ddTable.l0] at H
 obtain ⟨ji10, hji10⟩ : ∃ j_ : Int, (IntKind.u64.wrap (a0_0)) = j_ := ⟨_, rfl⟩
 replace H : (if 0 <= (ji10) then (if x4_1 < (shl .i64 1 (ji10)) then ((spec_ddValue.f k1 a0_0 l0_1 a0_2 x4_1).bind fun t117 => (if x117001_1.length < 17592186044416 then (spec_ddTable.l0 k1 (wrap64 (x4_1 + 1)) a0_0 l0_1 a0_2 a0_0 (x117001_1 ++ [t117])) else (none))) else (some (a0_0, x117001_1))) else (none)) = some (r1, r2) := by first | (rw [hji10] at H; exact H) | (simp only [hji10] at H ⊢; exact H)
 replace H := ifP H; obtain ⟨c11, H⟩ := H
 have c11b0 := eq_true c11
 have c11b1 := decide_eq_true c11
 clear c11
 obtain ⟨ji12, hji12⟩ : ∃ j_ : Int, (shl .i64 1 (ji10)) = j_ := ⟨_, rfl⟩
 replace H : (if x4_1 < (ji12) then ((spec_ddValue.f k1 a0_0 l0_1 a0_2 x4_1).bind fun t117 => (if x117001_1.length < 17592186044416 then (spec_ddTable.l0 k1 (wrap64 (x4_1 + 1)) a0_0 l0_1 a0_2 a0_0 (x117001_1 ++ [t117])) else (none))) else (some (a0_0, x117001_1))) = some (r1, r2) := by first | (rw [hji12] at H; exact H) | (simp only [hji12] at H ⊢; exact H)
 have hji12_ : (IntKind.i64.wrap (1 * 2 ^ min (ji10).toNat 64)) = ji12 := hji12
 have hji12z : (ji10) <= 64 -> (IntKind.i64.wrap (1 * 2 ^ (ji10).toNat)) = ji12 := shl_small hji12
 have hji12u : (IntKind.i64.wrap (2 ^ min (ji10).toNat 64)) = ji12 := by have h_ := hji12_; rw [Int.one_mul] at h_; exact h_
 have hji12v : (ji10) <= 64 -> (IntKind.i64.wrap (2 ^ (ji10).toNat)) = ji12 := fun hle_ => by have h_ := hji12z hle_; rw [Int.one_mul] at h_; exact h_
 have hji12y : (wrap64 (1 * 2 ^ min (ji10).toNat 64)) = ji12 := (i64_w _).symm.trans hji12_
 have hji12x : (ji10) <= 64 -> (wrap64 (1 * 2 ^ (ji10).toNat)) = ji12 := fun h_ => (i64_w _).symm.trans (hji12z h_)
 replace H := ifB H; rcases H with ⟨c13b0, H⟩ | ⟨c13b0, H⟩
 · replace H := bindA H; obtain ⟨t117, A14, H⟩ := H
   replace H := ifP H; obtain ⟨c15, H⟩ := H
   have LMc15 := Aside0.mk c15
   clear c15
   generalize hy118 : ((x117001_1 ++ [t117]) : List Int) = y118 at H
   have Ny118 := Aside0.mk hy118.symm; clear hy118
   have H' := Aside0.mk H
   clear H
   obtain ⟨hcz18_0, hcz18_1, hcz18_2, hfz18_0, hfz18_1, hfz18_2⟩ := cz3 BK114.1
   try go_wp2
   refine E5 (R_drew HO_117001.1) (blk_drew BK114.1) (blk_drew BK115.1) (blk_drew BK116.1) (below_drew1 HB.1) ?_
   clear HO_117001 BK114 BK115 BK116 HB
   intro HO_117001 BK114 BK115 BK116 HB
   refine start_ (n := 9) (S := fun w' => w'.cell? ⟨gb116, 0, none⟩ = some (.int .i64 a0_0) /\ w'.cell? ⟨gb116, 1, none⟩ = some (u117001) /\ w'.cell? ⟨gb114, 0, none⟩ = some (.int .i64 a0_0) /\ w'.cell? ⟨gb114, 1, none⟩ = some (.slice A0_1 l0_1.length c0_1) /\ w'.cell? ⟨gb114, 2, none⟩ = some (.int .i64 a0_2)) (ds := [8]) #[Zz,Zz,Zz,Zz,Zz,Zz,Zz,Zz,Zz] (by kernel_rfl) rfl rfl ⟨(blk_cell BK116.1 0).trans rfl, (blk_cell BK116.1 1).trans rfl, (blk_cell BK114.1 0).trans rfl, (blk_cell BK114.1 1).trans rfl, (blk_cell BK114.1 2).trans rfl⟩ (fun hHeld => ?_); refine with_tabW spec_ddTable.tab5 spec_ddTable.bits5 (fun HT_ HW_ => ?_)
   generalize wr.drew = w19 at HO_117001 BK114 BK115 BK116 HB hHeld ⊢
   refine pureF 0 (N := some 16) HT_.1 ?_
   refine pureF 3 (N := some 19) HT_.1 ?_
   refine takeE 1 (N := some 17) HT_.1 HW_.1 hHeld ?_
   refine takeE 2 (N := some 18) HT_.1 HW_.1 hHeld ?_
   refine one_ (i := 4) (N := some 20) #[Yy,Yy,Yy,Yy,Yy,Zz,Zz,Zz,Zz] rfl rfl (one_of HT_.1 (by kernel_rfl)) (by decide) (fun K hK => ?_)
   refine goes_ Try.func65 (by kernel_rfl) rfl #[.agg #[.int .i64 a0_0, .slice A0_1 l0_1.length c0_1, .int .i64 a0_2], .int .i64 x4_1] (by rfl) rfl rfl (by (try simp only [List.map_toArray, List.map_cons, List.map_nil]); first | done | rfl | (simp only [List.length_drop, List.length_take]; rfl)) ?_
   with_reducible refine (spec_ddValue.calls k1 a0_0 _ _ l0_1 a0_2 x4_1 t117 _ ?side1 ?side2 A14.1).mono ?_
   (case side1 => exact CB (C_below HR0_1.1 HB.1))
   (case side2 => exact HC0_1.1)
   rintro e w20 ⟨rfl, hb⟩
   refine ⟨_, rfl, ?_⟩
   refine E5 (rB HO_117001.1 hb) (bB BK114.1 hb) (bB BK115.1 hb) (bB BK116.1 hb) (bS HB.1 hb) ?_
   clear HO_117001 BK114 BK115 BK116 HB
   intro HO_117001 BK114 BK115 BK116 HB
   (try clear hb)
   (try clear hb2)
   (try clear hk)
   (try clear hi)
   refine hK.out _ _ ⟨(blk_cell BK116.1 0).trans rfl, (blk_cell BK116.1 1).trans rfl, (blk_cell BK114.1 0).trans rfl, (blk_cell BK114.1 1).trans rfl, (blk_cell BK114.1 2).trans rfl⟩ (fun hHeld => ?_)
   clear hK K
   refine norm_ (a' := ?_) ?_ ?_
   rotate_left
   · show Act.put _ (some 20) _ = _
     simp only [Act.put, List.setIfInBounds_toArray, List.set_cons_zero, List.set_cons_succ, i64_w, i32_w]
     rfl
   refine one_ (i := 5) (N := some 21) #[Yy,Yy,Yy,Yy,Yy,Yy,Zz,Zz,Zz] rfl rfl (one_of HT_.1 (by kernel_rfl)) (by decide) (fun K hK => ?_)
   refine value_ (w1 := ?_) (v := ?_) (by rfl) rfl ?_ ?_
   rotate_left 2
   · go_simp
     constructor
     · rfl
     rfl
   refine hK.out _ _ ⟨(blk_cell (blk_alloc BK116.1 _) 0).trans rfl, (blk_cell (blk_alloc BK116.1 _) 1).trans rfl, (blk_cell (blk_alloc BK114.1 _) 0).trans rfl, (blk_cell (blk_alloc BK114.1 _) 1).trans rfl, (blk_cell (blk_alloc BK114.1 _) 2).trans rfl⟩ (fun hHeld => ?_)
   clear hK K
   refine norm_ (a' := ?_) ?_ ?_
   rotate_left
   · show Act.put _ (some 21) _ = _
     simp only [Act.put, List.setIfInBounds_toArray, List.set_cons_zero, List.set_cons_succ, i64_w, i32_w]
     rfl
   refine one_ (i := 6) (N := some 22) #[Yy,Yy,Yy,Yy,Yy,Yy,Yy,Zz,Zz] rfl rfl (one_of HT_.1 (by kernel_rfl)) (by decide) (fun K hK => ?_)
   refine R_append_step (Kd.int .i64) (w0 := w) w.heap.size (by rfl) (.tmp 17) (.tmp 21) 35 3 (.int .i64 0) 8 rfl Try.underlying35 info3 rfl (by decide) (by omega) u117001 x117001_1 t117 [.int .i64 t117] (fun _ => True) (fun _ => False) rfl rfl ?aP (fun _ hk => hk.elim) ?aF ?aO ?aB ?aS ?aL ?_
   (case aP => exact rfl)
   (case aB => exact (BL HB.1))
   (case aF => exact (fun _ _ => trivial))
   (case aO => exact (PR HO_117001.1))
   (case aS => exact (bZ HB.1))
   (case aL => have := LMc15.1; omega)
   intro v119 w21 ho hb hg hat
   rw [<- Ny118.1] at ho
   refine E5 (bG BK114.1 hg (R_ne HO_117001.1 BK114.1 (by decide))) (bG BK115.1 hg (R_ne HO_117001.1 BK115.1 (by decide))) (bG BK116.1 hg (R_ne HO_117001.1 BK116.1 (by decide))) (hb) (ho) ?_
   clear BK114 BK115 BK116 HB HO_117001
   intro BK114 BK115 BK116 HB HO120
   clear ho hb hg hat
   obtain ⟨Ao22, co22, eo22⟩ := R_slice HO120.1
   (first | subst eo22 | (injection eo22 with f1_ f2_ f3_; have f4_ := f1_.symm; have f5_ := f3_.symm; clear f1_ f2_ f3_; subst f4_; subst f5_))
   refine hK.out _ _ ⟨(blk_cell BK116.1 0).trans rfl, (blk_cell BK116.1 1).trans rfl, (blk_cell BK114.1 0).trans rfl, (blk_cell BK114.1 1).trans rfl, (blk_cell BK114.1 2).trans rfl⟩ (fun hHeld => ?_)
   clear hK K
   refine norm_ (a' := ?_) ?_ ?_
   rotate_left
   · show Act.put _ (some 22) _ = _
     simp only [Act.put, List.setIfInBounds_toArray, List.set_cons_zero, List.set_cons_succ, i64_w, i32_w]
     rfl
   refine pureF 7 (N := some 23) HT_.1 ?_
   refine last_ (i := 8) (N := none) #[Yy,Yy,Yy,Yy,Yy,Yy,Yy,Yy,Yy] rfl rfl (one_of HT_.1 (by kernel_rfl)) (by decide) (fun K hK => ?_)
   have hs23 : w21.cell? ⟨gb116, 1, none⟩ = some (u117001) := (blk_cell BK116.1 1).trans rfl
   have hfs23 := blk_frozen BK116.1 1
   refine skip_ (w1 := ?_) (by rfl) rfl ?_ ?_
   rotate_left
   · go_simp
     rfl
   refine hK.out _ _ ?_
   clear hK K
   refine done_ (done_of HT_.1 (by kernel_rfl)) ?_
   try go_wp2
   go_roundg k1
   case measure => have := HK1.1; omega
   case rel => exact ⟨(wrap64 (x4_1 + 1)), (y118), (.slice Ao22 y118.length co22), RG, H', ⟨by have := HK1.1; omega⟩, ⟨by (with_reducible repeat (first | apply R_alloc | apply R_drewN | apply R_drew)); exact R_mono (RQ gb116 1 (R_types HO120.1 BK116.1 (by decide)) _) (fun _ hk => trivial)⟩, ⟨by (with_reducible repeat (first | refine blk_drewN ?_ _ | refine blk_drew ?_ | refine blk_alloc ?_ _)); refine blk_far ?_ NB114_116.1 _; (with_reducible repeat (first | refine blk_drewN ?_ _ | refine blk_drew ?_ | refine blk_alloc ?_ _)); exact BK114.1⟩, ⟨by (with_reducible repeat (first | refine blk_drewN ?_ _ | refine blk_drew ?_ | refine blk_alloc ?_ _)); refine blk_far ?_ NB115_116.1 _; (with_reducible repeat (first | refine blk_drewN ?_ _ | refine blk_drew ?_ | refine blk_alloc ?_ _)); exact BK115.1⟩, ⟨by (with_reducible repeat (first | refine blk_drewN ?_ _ | refine blk_drew ?_ | refine blk_alloc ?_ _)); refine blk_put (cs := #[.int .i64 a0_0, u117001]) ?_ 1 _ rfl; (with_reducible repeat (first | refine blk_drewN ?_ _ | refine blk_drew ?_ | refine blk_alloc ?_ _)); exact BK116.1⟩, ⟨BL HB.1⟩⟩
 simp only [Option.some.injEq, Prod.mk.injEq] at H
 obtain ⟨rfl, rfl⟩ := H
 obtain ⟨hcz26_0, hcz26_1, hcz26_2, hfz26_0, hfz26_1, hfz26_2⟩ := cz3 BK114.1
 obtain ⟨hcz28_0, hcz28_1, hfz28_0, hfz28_1⟩ := cz2 BK116.1
 obtain ⟨hcz29_0, hcz29_1, hfz29_0, hfz29_1⟩ := cz2 BK115.1
 obtain ⟨Ao30, co30, eo30⟩ := R_slice HO_117001.1
 subst eo30
 go_wp2
 refine bodyPost_ret (results_cell_row rfl _ _ gb115 41 #[.int .i64 a0_0, .slice Ao30 x117001_1.length co30] (0, 0) _ rfl (PF0 BK115.1) Try.underlying41 rfl (by kernel_rfl)) rfl ?_
 exact ⟨_, by first | rfl | (simp [errW_none, errW_some] <;> rfl) | (simp only [<- hji10, <- hji12]; first | rfl | (simp [errW_none, errW_some] <;> rfl)) | (simp [*, errW_none, errW_some] <;> rfl), by (with_reducible repeat (first | apply R_alloc | apply R_drewN | apply R_drew)); exact R_mono (RQ gb115 1 (RQ gb115 0 (R_types HO_117001.1 BK115.1 (by decide)) _) _) (fun _ hk => trivial), BL HB.1⟩
/-! ### spec_ddSame: function 74 -/
open Kd
mutual
def spec_ddSame.j0 : Nat -> Bool -> Int -> List (S63) -> Int -> Int -> List (S63) -> Int -> Option (Bool)
 | 0, _, _, _, _, _, _, _ => none
 | k + 1, x27, x123000, x123001, x123002, x124000, x124001, x124002 => if x27 = true then (some false) else (spec_ddSame.l0 k x123001 (x123001.length : Int) 0 x124000 x124001 x124002)
def spec_ddSame.l0 : Nat -> List (S63) -> Int -> Int -> Int -> List (S63) -> Int -> Option (Bool)
 | 0, _, _, _, _, _, _ => none
 | k + 1, x29, x30, x31, x124000, x124001, x124002 => if x31 < x30 then (if 0 <= x31 then (if x31 < (x29.length : Int) then (if x31 < (x124001.length : Int) then (if (!(((rd_T63 x29 x31).f0) == ((rd_T63 x124001 x31).f0)) || (!(((rd_T63 x29 x31).f1) == ((rd_T63 x124001 x31).f1)) || (!(((rd_T63 x29 x31).f2) == ((rd_T63 x124001 x31).f2))))) = true then (some false) else (spec_ddSame.l0 k x29 x30 (wrap64 (x31 + 1)) x124000 x124001 x124002)) else (none)) else (none)) else (none)) else (some true)
end
def spec_ddSame.f (k : Nat) (a0_0 : Int) (l0_1 : List (S63)) (a0_2 : Int) (a1_0 : Int) (l1_1 : List (S63)) (a1_2 : Int) : Option (Bool) := if a0_0 = a1_0 then (if a0_2 = a1_2 then (spec_ddSame.j0 k ((l0_1.length : Int) != (l1_1.length : Int)) a0_0 l0_1 a0_2 a1_0 l1_1 a1_2) else (spec_ddSame.j0 k true a0_0 l0_1 a0_2 a1_0 l1_1 a1_2)) else (spec_ddSame.j0 k true a0_0 l0_1 a0_2 a1_0 l1_1 a1_2)
theorem spec_ddSame.mono_l : ∀ k, (∀ y0 y1 y2 y3 y4 y5 y6, LeO (spec_ddSame.j0 k y0 y1 y2 y3 y4 y5 y6) (spec_ddSame.j0 (k + 1) y0 y1 y2 y3 y4 y5 y6)) /\ (∀ y0 y1 y2 y3 y4 y5, LeO (spec_ddSame.l0 k y0 y1 y2 y3 y4 y5) (spec_ddSame.l0 (k + 1) y0 y1 y2 y3 y4 y5))
 | 0 => by refine ⟨?_, ?_⟩ <;> (intros; intro r h; first | (simp [spec_ddSame.j0] at h; done) | (simp [spec_ddSame.l0] at h; done))
 | k + 1 => by
  obtain ⟨ih0, ih1⟩ := spec_ddSame.mono_l k
  refine ⟨?_, ?_⟩ <;> (
   intros
   first | unfold spec_ddSame.j0 | unfold spec_ddSame.l0
   exact LM2 ih0 ih1)
theorem spec_ddSame.mono : ∀ a0 a1 a2 a3 a4 a5 k, LeO (spec_ddSame.f k a0 a1 a2 a3 a4 a5) (spec_ddSame.f (k + 1) a0 a1 a2 a3 a4 a5) := by
 intro a0 a1 a2 a3 a4 a5 k
 obtain ⟨ih0, ih1⟩ := spec_ddSame.mono_l k
 unfold spec_ddSame.f
 exact LM2 ih0 ih1
theorem spec_ddSame.calls (k : Nat) (a0_0 : Int) (A0_1 : Option Addr) (c0_1 : Nat) (l0_1 : List (S63)) (a0_2 : Int) (a1_0 : Int) (A1_1 : Option Addr) (c1_1 : Nat) (l1_1 : List (S63)) (a1_2 : Int) (r : Bool) (w : World) (hr0_1 : Kd.C k63 w A0_1 l0_1.length l0_1) (hc0_1 : l0_1.length <= c0_1) (hr1_1 : Kd.C k63 w A1_1 l1_1.length l1_1) (hc1_1 : l1_1.length <= c1_1) (h : spec_ddSame.f k a0_0 l0_1 a0_2 a1_0 l1_1 a1_2 = some r) :
 Calls Try.prog 74 #[.agg #[.int .i64 a0_0, .slice A0_1 l0_1.length c0_1, .int .i64 a0_2], .agg #[.int .i64 a1_0, .slice A1_1 l1_1.length c1_1, .int .i64 a1_2]] w fun e w' => e = .returned (.bool r) /\ Below w.heap.size w w' := by
 have hu29 := Try.underlying29
 have hu63 := Try.underlying63
 have HR0_1 := Aside0.mk hr0_1
 have HC0_1 := Aside0.mk hc0_1
 clear hr0_1 hc0_1
 have HR1_1 := Aside0.mk hr1_1
 have HC1_1 := Aside0.mk hc1_1
 clear hr1_1 hc1_1
 have HB := Aside0.mk (Below.refl w.heap.size w)
 have H := h
 clear h
 unfold spec_ddSame.f at H
 have HC3 := Aside0.mk H
 clear H
 go_enter Try.func74, Try.ntmps74
 go_upto_region 1 with (first | ((with_reducible refine gate_dst (N := 2) rfl ?_); (try (refine gate_guard (by rfl) ?_; dsimp only)); refine boxE (cs := #[.int .i64 a0_0, .slice A0_1 l0_1.length c0_1, .int .i64 a0_2]) (t := 29) ?_; intro gb122 hg w4 hbox hb; refine E4b HB.1 hg hbox hb ?_; clear HB; intro HB BK122 GW122 GE122; clear hb hbox hg) | ((with_reducible refine gate_dst (N := 3) rfl ?_); (try (refine gate_guard (by rfl) ?_; dsimp only)); refine boxE (cs := #[.int .i64 a1_0, .slice A1_1 l1_1.length c1_1, .int .i64 a1_2]) (t := 29) ?_; intro gb123 hg w5 hbox hb; refine E7 (bB BK122.1 hb) (bS HB.1 hb) (hbox) (gX HB.1 hg) (gX HB.1 hg) (nB BK122.1 hg) (nC BK122.1 hg) ?_; clear BK122 HB; intro BK122 HB BK123 GW123 GE123 NB122_123 NB123_122; clear hb hbox hg))
 repeat (go_quiet (first | ((with_reducible refine gate_dst (N := 2) rfl ?_); (try (refine gate_guard (by rfl) ?_; dsimp only)); refine boxE (cs := #[.int .i64 a0_0, .slice A0_1 l0_1.length c0_1, .int .i64 a0_2]) (t := 29) ?_; intro gb122 hg w4 hbox hb; refine E4b HB.1 hg hbox hb ?_; clear HB; intro HB BK122 GW122 GE122; clear hb hbox hg) | ((with_reducible refine gate_dst (N := 3) rfl ?_); (try (refine gate_guard (by rfl) ?_; dsimp only)); refine boxE (cs := #[.int .i64 a1_0, .slice A1_1 l1_1.length c1_1, .int .i64 a1_2]) (t := 29) ?_; intro gb123 hg w5 hbox hb; refine E7 (bB BK122.1 hb) (bS HB.1 hb) (hbox) (gX HB.1 hg) (gX HB.1 hg) (nB BK122.1 hg) (nC BK122.1 hg) ?_; clear BK122 HB; intro BK122 HB BK123 GW123 GE123 NB122_123 NB123_122; clear hb hbox hg)); go_upto_region 1 with (first | ((with_reducible refine gate_dst (N := 2) rfl ?_); (try (refine gate_guard (by rfl) ?_; dsimp only)); refine boxE (cs := #[.int .i64 a0_0, .slice A0_1 l0_1.length c0_1, .int .i64 a0_2]) (t := 29) ?_; intro gb122 hg w4 hbox hb; refine E4b HB.1 hg hbox hb ?_; clear HB; intro HB BK122 GW122 GE122; clear hb hbox hg) | ((with_reducible refine gate_dst (N := 3) rfl ?_); (try (refine gate_guard (by rfl) ?_; dsimp only)); refine boxE (cs := #[.int .i64 a1_0, .slice A1_1 l1_1.length c1_1, .int .i64 a1_2]) (t := 29) ?_; intro gb123 hg w5 hbox hb; refine E7 (bB BK122.1 hb) (bS HB.1 hb) (hbox) (gX HB.1 hg) (gX HB.1 hg) (nB BK122.1 hg) (nC BK122.1 hg) ?_; clear BK122 HB; intro BK122 HB BK123 GW123 GE123 NB122_123 NB123_122; clear hb hbox hg)))
 (try simp only [Act.put, List.setIfInBounds_toArray, List.set_cons_zero, List.set_cons_succ])
 go_cut [27] (fun v27 wc => ∃ (kq : Nat) (x27_2 : Bool), v27 = .bool x27_2 /\ Aside0 (spec_ddSame.j0 kq x27_2 a0_0 l0_1 a0_2 a1_0 l1_1 a1_2 = some r) /\ Aside0 (kq <= k) /\ Aside0 (wc.heap[gb122]? = some (.cells #[.int .i64 a0_0, (.slice A0_1 l0_1.length c0_1), .int .i64 a0_2] 29 (0, 0))) /\ Aside0 (wc.heap[gb123]? = some (.cells #[.int .i64 a1_0, (.slice A1_1 l1_1.length c1_1), .int .i64 a1_2] 29 (0, 0))) /\ Aside0 (Below w.heap.size w wc))
 case first =>
  have H := HC3.1
  clear HC3
  replace H := ifQ H; rcases H with ⟨c6, H⟩ | ⟨c6, H⟩
  · have c6b0 := beq_iff_eq.mpr c6
    have c6b1 := bne_eq_false_iff_eq.mpr c6
    clear c6
    (first | rw [c6b0] | (simp only [i64_w, i32_w]; rw [c6b0]) | skip)
    replace H := ifQ H; rcases H with ⟨c7, H⟩ | ⟨c7, H⟩
    · have c7b0 := beq_iff_eq.mpr c7
      have c7b1 := bne_eq_false_iff_eq.mpr c7
      clear c7
      have H' := Aside0.mk H
      clear H
      have hnb8 := NB122_123.1
      have hnc8 := NB123_122.1
      obtain ⟨hcz9_0, hcz9_1, hcz9_2, hfz9_0, hfz9_1, hfz9_2⟩ := cz3 BK122.1
      obtain ⟨hcz10_0, hcz10_1, hcz10_2, hfz10_0, hfz10_1, hfz10_2⟩ := cz3 BK123.1
      go_wp2
      repeat (go_quiet (fail); try go_wp2)
      go_meet
      case rel => exact ⟨_, (((l0_1.length : Int) != (l1_1.length : Int))), RG, H', ⟨by first | omega | exact Nat.le_refl _⟩, ⟨PB BK122.1⟩, ⟨PB BK123.1⟩, ⟨BL HB.1⟩⟩
    have c7b0 := beq_eq_false_iff_ne.mpr c7
    have c7b1 := bne_iff_ne.mpr c7
    have H' := Aside0.mk H
    clear H
    have hnb11 := NB122_123.1
    have hnc11 := NB123_122.1
    obtain ⟨hcz12_0, hcz12_1, hcz12_2, hfz12_0, hfz12_1, hfz12_2⟩ := cz3 BK122.1
    obtain ⟨hcz13_0, hcz13_1, hcz13_2, hfz13_0, hfz13_1, hfz13_2⟩ := cz3 BK123.1
    go_wp2
    repeat (go_quiet (fail); try go_wp2)
    go_meet
    case rel => exact ⟨_, (true), RG, H', ⟨by first | omega | exact Nat.le_refl _⟩, ⟨PB BK122.1⟩, ⟨PB BK123.1⟩, ⟨BL HB.1⟩⟩
  have c6b0 := beq_eq_false_iff_ne.mpr c6
  have c6b1 := bne_iff_ne.mpr c6
  (first | rw [c6b0] | (simp only [i64_w, i32_w]; rw [c6b0]) | skip)
  have H' := Aside0.mk H
  clear H
  have hnb14 := NB122_123.1
  have hnc14 := NB123_122.1
  obtain ⟨hcz15_0, hcz15_1, hcz15_2, hfz15_0, hfz15_1, hfz15_2⟩ := cz3 BK122.1
  obtain ⟨hcz16_0, hcz16_1, hcz16_2, hfz16_0, hfz16_1, hfz16_2⟩ := cz3 BK123.1
  go_wp2
  repeat (go_quiet (fail); try go_wp2)
  go_meet
  case rel => exact ⟨_, (true), RG, H', ⟨by first | omega | exact Nat.le_refl _⟩, ⟨PB BK122.1⟩, ⟨PB BK123.1⟩, ⟨BL HB.1⟩⟩
 clear HC3
 obtain ⟨kq, x27_2, rfl, HA, HJ2, BK122, BK123, HB⟩ := hcut
 cases kq with
 | zero => exact absurd HA.1 (by simp [spec_ddSame.j0])
 | succ kj2 => ?_
 have H := HA.1
 clear HA
 simp only [spec_ddSame.j0] at H
 replace H := ifX H; rcases H with ⟨rfl, H⟩ | ⟨rfl, H⟩
 · obtain rfl := Option.some.inj H
   go_wp2
   repeat (go_quiet (fail); try go_wp2)
   go_ret
   exact ⟨RF, BL HB.1⟩
 have H' := Aside0.mk H
 clear H
 have hnb18 := NB122_123.1
 have hnc18 := NB123_122.1
 obtain ⟨hcz19_0, hcz19_1, hcz19_2, hfz19_0, hfz19_1, hfz19_2⟩ := cz3 BK122.1
 go_wp2
 repeat (go_quiet (fail); try go_wp2)
 go_loopg [31] kj2 (fun kq v31 w' => ∃ (x31_2 : Int), v31 = .int .i64 x31_2 /\ Aside0 (spec_ddSame.l0 kq l0_1 (l0_1.length : Int) x31_2 a1_0 l1_1 a1_2 = some r) /\ Aside0 (kq <= kj2) /\ Aside0 (w'.heap[gb122]? = some (.cells #[.int .i64 a0_0, (.slice A0_1 l0_1.length c0_1), .int .i64 a0_2] 29 (0, 0))) /\ Aside0 (w'.heap[gb123]? = some (.cells #[.int .i64 a1_0, (.slice A1_1 l1_1.length c1_1), .int .i64 a1_2] 29 (0, 0))) /\ Aside0 (Below w.heap.size w w'))
 case atStart => exact ⟨(0), RG, H', ⟨Nat.le_refl _⟩, ⟨PB BK122.1⟩, ⟨PB BK123.1⟩, ⟨BL HB.1⟩⟩
 clear H'
 clear hcz19_0 hcz19_1 hcz19_2 hfz19_0 hfz19_1 hfz19_2
 obtain ⟨x31_2, rfl, HA, HK2, BK122, BK123, HB⟩ := hrel
 cases gk with
 | zero => exact absurd HA.1 (by simp [spec_ddSame.l0])
 | succ k2 => ?_
 have H := HA.1
 clear HA
 simp only [spec_ddSame.l0] at H
 replace H := ifB H; rcases H with ⟨c20b0, H⟩ | ⟨c20b0, H⟩
 · replace H := ifN H; obtain ⟨c21b0, H⟩ := H
   replace H := ifN H; obtain ⟨c22b0, H⟩ := H
   replace H := ifN H; obtain ⟨c23b0, H⟩ := H
   replace H := ifQ H; rcases H with ⟨c24, H⟩ | ⟨c24, H⟩
   · have c24b0 : (!(((rd_T63 l0_1 x31_2).f0) == ((rd_T63 l1_1 x31_2).f0)) || (!(((rd_T63 l0_1 x31_2).f1) == ((rd_T63 l1_1 x31_2).f1)) || (!(((rd_T63 l0_1 x31_2).f2) == ((rd_T63 l1_1 x31_2).f2))))) = true := c24
     clear c24
     obtain rfl := Option.some.inj H
     have p124 : 0 <= (x31_2 : Int) := OD
     have q124 : x31_2 < (l0_1.length : Int) := OD
     obtain ⟨ad124, e124, hx124_0, hx124_1, hx124_2⟩ := at_T63 HR0_1.1 x31_2 p124 q124
     cases e124
     replace hx124_0 := (HB.1.cell (World.block_lt_of_cell? w _ hx124_0)).trans hx124_0
     replace hx124_1 := (HB.1.cell (World.block_lt_of_cell? w _ hx124_1)).trans hx124_1
     replace hx124_2 := (HB.1.cell (World.block_lt_of_cell? w _ hx124_2)).trans hx124_2
     replace p124 := eq_true p124
     replace q124 := eq_true q124
     go_wp2_with (first | ((with_reducible refine gate_dst (N := 6) rfl ?_); (try (refine gate_guard (by rfl) ?_; dsimp only)); refine boxE (cs := #[.int .i64 0, .int .i64 0, .int .i64 0]) (t := 63) ?_; intro gb125 hg w25 hbox hb; refine E10 (bB BK122.1 hb) (bB BK123.1 hb) (bS HB.1 hb) (hbox) (gX HB.1 hg) (gX HB.1 hg) (nB BK122.1 hg) (nC BK122.1 hg) (nB BK123.1 hg) (nC BK123.1 hg) ?_; clear BK122 BK123 HB; intro BK122 BK123 HB BK125 GW125 GE125 NB122_125 NB125_122 NB123_125 NB125_123; clear hb hbox hg; have hnb26 := NB125_122.1; have hnc26 := NB122_125.1; have hnb27 := NB125_123.1; have hnc27 := NB123_125.1; obtain ⟨hcz28_0, hcz28_1, hcz28_2, hfz28_0, hfz28_1, hfz28_2⟩ := cz3 BK125.1; have hnb29 := NB123_122.1; have hnc29 := NB122_123.1; obtain ⟨hcz30_0, hcz30_1, hcz30_2, hfz30_0, hfz30_1, hfz30_2⟩ := cz3 BK123.1; have p126 : 0 <= (x31_2 : Int) := OD; have q126 : x31_2 < (l1_1.length : Int) := OD; obtain ⟨ad126, e126, hx126_0, hx126_1, hx126_2⟩ := at_T63 HR1_1.1 x31_2 p126 q126; cases e126; have hn126_0 : ad126.block ≠ gb125 := Nat.ne_of_lt (Nat.lt_of_lt_of_le (by have := World.block_lt_of_cell? _ _ hx126_0; first | rwa [add_block] at this | exact this) GW125.1); have hn126_1 : ad126.block ≠ gb125 := Nat.ne_of_lt (Nat.lt_of_lt_of_le (by have := World.block_lt_of_cell? _ _ hx126_0; first | rwa [add_block] at this | exact this) GW125.1); have hn126_2 : ad126.block ≠ gb125 := Nat.ne_of_lt (Nat.lt_of_lt_of_le (by have := World.block_lt_of_cell? _ _ hx126_0; first | rwa [add_block] at this | exact this) GW125.1); replace hx126_0 := (HB.1.cell (World.block_lt_of_cell? w _ hx126_0)).trans hx126_0; replace hx126_1 := (HB.1.cell (World.block_lt_of_cell? w _ hx126_1)).trans hx126_1; replace hx126_2 := (HB.1.cell (World.block_lt_of_cell? w _ hx126_2)).trans hx126_2; replace hx126_0 := (cell_far (p := ⟨gb125, 0, none⟩) (by first | (rw [add_block]; exact hn126_0) | (show (Addr.add _ _).block ≠ _; rw [add_block]; exact hn126_0) | exact hn126_0) (.int .i64 ((rd_T63 l0_1 x31_2).f0))).trans hx126_0; replace hx126_1 := (cell_far (p := ⟨gb125, 0, none⟩) (by first | (rw [add_block]; exact hn126_0) | (show (Addr.add _ _).block ≠ _; rw [add_block]; exact hn126_0) | exact hn126_0) (.int .i64 ((rd_T63 l0_1 x31_2).f0))).trans hx126_1; replace hx126_2 := (cell_far (p := ⟨gb125, 0, none⟩) (by first | (rw [add_block]; exact hn126_0) | (show (Addr.add _ _).block ≠ _; rw [add_block]; exact hn126_0) | exact hn126_0) (.int .i64 ((rd_T63 l0_1 x31_2).f0))).trans hx126_2; replace hx126_0 := (cell_far (p := ⟨gb125, 1, none⟩) (by first | (rw [add_block]; exact hn126_1) | (show (Addr.add _ _).block ≠ _; rw [add_block]; exact hn126_1) | exact hn126_1) (.int .i64 ((rd_T63 l0_1 x31_2).f1))).trans hx126_0; replace hx126_1 := (cell_far (p := ⟨gb125, 1, none⟩) (by first | (rw [add_block]; exact hn126_1) | (show (Addr.add _ _).block ≠ _; rw [add_block]; exact hn126_1) | exact hn126_1) (.int .i64 ((rd_T63 l0_1 x31_2).f1))).trans hx126_1; replace hx126_2 := (cell_far (p := ⟨gb125, 1, none⟩) (by first | (rw [add_block]; exact hn126_1) | (show (Addr.add _ _).block ≠ _; rw [add_block]; exact hn126_1) | exact hn126_1) (.int .i64 ((rd_T63 l0_1 x31_2).f1))).trans hx126_2; replace hx126_0 := (cell_far (p := ⟨gb125, 2, none⟩) (by first | (rw [add_block]; exact hn126_2) | (show (Addr.add _ _).block ≠ _; rw [add_block]; exact hn126_2) | exact hn126_2) (.int .i64 ((rd_T63 l0_1 x31_2).f2))).trans hx126_0; replace hx126_1 := (cell_far (p := ⟨gb125, 2, none⟩) (by first | (rw [add_block]; exact hn126_2) | (show (Addr.add _ _).block ≠ _; rw [add_block]; exact hn126_2) | exact hn126_2) (.int .i64 ((rd_T63 l0_1 x31_2).f2))).trans hx126_1; replace hx126_2 := (cell_far (p := ⟨gb125, 2, none⟩) (by first | (rw [add_block]; exact hn126_2) | (show (Addr.add _ _).block ≠ _; rw [add_block]; exact hn126_2) | exact hn126_2) (.int .i64 ((rd_T63 l0_1 x31_2).f2))).trans hx126_2; (try have hy126_0 := fun (n_ : Nat) => (show (((((w25.drewN n_).setCell ⟨gb125, 0, none⟩ (.int .i64 ((rd_T63 l0_1 x31_2).f0))).setCell ⟨gb125, 1, none⟩ (.int .i64 ((rd_T63 l0_1 x31_2).f1))).setCell ⟨gb125, 2, none⟩ (.int .i64 ((rd_T63 l0_1 x31_2).f2)))).cell? _ = some _ from hx126_0)); (try have hy126_1 := fun (n_ : Nat) => (show (((((w25.drewN n_).setCell ⟨gb125, 0, none⟩ (.int .i64 ((rd_T63 l0_1 x31_2).f0))).setCell ⟨gb125, 1, none⟩ (.int .i64 ((rd_T63 l0_1 x31_2).f1))).setCell ⟨gb125, 2, none⟩ (.int .i64 ((rd_T63 l0_1 x31_2).f2)))).cell? _ = some _ from hx126_1)); (try have hy126_2 := fun (n_ : Nat) => (show (((((w25.drewN n_).setCell ⟨gb125, 0, none⟩ (.int .i64 ((rd_T63 l0_1 x31_2).f0))).setCell ⟨gb125, 1, none⟩ (.int .i64 ((rd_T63 l0_1 x31_2).f1))).setCell ⟨gb125, 2, none⟩ (.int .i64 ((rd_T63 l0_1 x31_2).f2)))).cell? _ = some _ from hx126_2)); clear hn126_0; clear hn126_1; clear hn126_2; replace p126 := eq_true p126; replace q126 := eq_true q126))
     repeat (go_quiet (first | ((with_reducible refine gate_dst (N := 6) rfl ?_); (try (refine gate_guard (by rfl) ?_; dsimp only)); refine boxE (cs := #[.int .i64 0, .int .i64 0, .int .i64 0]) (t := 63) ?_; intro gb125 hg w25 hbox hb; refine E10 (bB BK122.1 hb) (bB BK123.1 hb) (bS HB.1 hb) (hbox) (gX HB.1 hg) (gX HB.1 hg) (nB BK122.1 hg) (nC BK122.1 hg) (nB BK123.1 hg) (nC BK123.1 hg) ?_; clear BK122 BK123 HB; intro BK122 BK123 HB BK125 GW125 GE125 NB122_125 NB125_122 NB123_125 NB125_123; clear hb hbox hg; have hnb26 := NB125_122.1; have hnc26 := NB122_125.1; have hnb27 := NB125_123.1; have hnc27 := NB123_125.1; obtain ⟨hcz28_0, hcz28_1, hcz28_2, hfz28_0, hfz28_1, hfz28_2⟩ := cz3 BK125.1; have hnb29 := NB123_122.1; have hnc29 := NB122_123.1; obtain ⟨hcz30_0, hcz30_1, hcz30_2, hfz30_0, hfz30_1, hfz30_2⟩ := cz3 BK123.1; have p126 : 0 <= (x31_2 : Int) := OD; have q126 : x31_2 < (l1_1.length : Int) := OD; obtain ⟨ad126, e126, hx126_0, hx126_1, hx126_2⟩ := at_T63 HR1_1.1 x31_2 p126 q126; cases e126; have hn126_0 : ad126.block ≠ gb125 := Nat.ne_of_lt (Nat.lt_of_lt_of_le (by have := World.block_lt_of_cell? _ _ hx126_0; first | rwa [add_block] at this | exact this) GW125.1); have hn126_1 : ad126.block ≠ gb125 := Nat.ne_of_lt (Nat.lt_of_lt_of_le (by have := World.block_lt_of_cell? _ _ hx126_0; first | rwa [add_block] at this | exact this) GW125.1); have hn126_2 : ad126.block ≠ gb125 := Nat.ne_of_lt (Nat.lt_of_lt_of_le (by have := World.block_lt_of_cell? _ _ hx126_0; first | rwa [add_block] at this | exact this) GW125.1); replace hx126_0 := (HB.1.cell (World.block_lt_of_cell? w _ hx126_0)).trans hx126_0; replace hx126_1 := (HB.1.cell (World.block_lt_of_cell? w _ hx126_1)).trans hx126_1; replace hx126_2 := (HB.1.cell (World.block_lt_of_cell? w _ hx126_2)).trans hx126_2; replace hx126_0 := (cell_far (p := ⟨gb125, 0, none⟩) (by first | (rw [add_block]; exact hn126_0) | (show (Addr.add _ _).block ≠ _; rw [add_block]; exact hn126_0) | exact hn126_0) (.int .i64 ((rd_T63 l0_1 x31_2).f0))).trans hx126_0; replace hx126_1 := (cell_far (p := ⟨gb125, 0, none⟩) (by first | (rw [add_block]; exact hn126_0) | (show (Addr.add _ _).block ≠ _; rw [add_block]; exact hn126_0) | exact hn126_0) (.int .i64 ((rd_T63 l0_1 x31_2).f0))).trans hx126_1; replace hx126_2 := (cell_far (p := ⟨gb125, 0, none⟩) (by first | (rw [add_block]; exact hn126_0) | (show (Addr.add _ _).block ≠ _; rw [add_block]; exact hn126_0) | exact hn126_0) (.int .i64 ((rd_T63 l0_1 x31_2).f0))).trans hx126_2; replace hx126_0 := (cell_far (p := ⟨gb125, 1, none⟩) (by first | (rw [add_block]; exact hn126_1) | (show (Addr.add _ _).block ≠ _; rw [add_block]; exact hn126_1) | exact hn126_1) (.int .i64 ((rd_T63 l0_1 x31_2).f1))).trans hx126_0; replace hx126_1 := (cell_far (p := ⟨gb125, 1, none⟩) (by first | (rw [add_block]; exact hn126_1) | (show (Addr.add _ _).block ≠ _; rw [add_block]; exact hn126_1) | exact hn126_1) (.int .i64 ((rd_T63 l0_1 x31_2).f1))).trans hx126_1; replace hx126_2 := (cell_far (p := ⟨gb125, 1, none⟩) (by first | (rw [add_block]; exact hn126_1) | (show (Addr.add _ _).block ≠ _; rw [add_block]; exact hn126_1) | exact hn126_1) (.int .i64 ((rd_T63 l0_1 x31_2).f1))).trans hx126_2; replace hx126_0 := (cell_far (p := ⟨gb125, 2, none⟩) (by first | (rw [add_block]; exact hn126_2) | (show (Addr.add _ _).block ≠ _; rw [add_block]; exact hn126_2) | exact hn126_2) (.int .i64 ((rd_T63 l0_1 x31_2).f2))).trans hx126_0; replace hx126_1 := (cell_far (p := ⟨gb125, 2, none⟩) (by first | (rw [add_block]; exact hn126_2) | (show (Addr.add _ _).block ≠ _; rw [add_block]; exact hn126_2) | exact hn126_2) (.int .i64 ((rd_T63 l0_1 x31_2).f2))).trans hx126_1; replace hx126_2 := (cell_far (p := ⟨gb125, 2, none⟩) (by first | (rw [add_block]; exact hn126_2) | (show (Addr.add _ _).block ≠ _; rw [add_block]; exact hn126_2) | exact hn126_2) (.int .i64 ((rd_T63 l0_1 x31_2).f2))).trans hx126_2; (try have hy126_0 := fun (n_ : Nat) => (show (((((w25.drewN n_).setCell ⟨gb125, 0, none⟩ (.int .i64 ((rd_T63 l0_1 x31_2).f0))).setCell ⟨gb125, 1, none⟩ (.int .i64 ((rd_T63 l0_1 x31_2).f1))).setCell ⟨gb125, 2, none⟩ (.int .i64 ((rd_T63 l0_1 x31_2).f2)))).cell? _ = some _ from hx126_0)); (try have hy126_1 := fun (n_ : Nat) => (show (((((w25.drewN n_).setCell ⟨gb125, 0, none⟩ (.int .i64 ((rd_T63 l0_1 x31_2).f0))).setCell ⟨gb125, 1, none⟩ (.int .i64 ((rd_T63 l0_1 x31_2).f1))).setCell ⟨gb125, 2, none⟩ (.int .i64 ((rd_T63 l0_1 x31_2).f2)))).cell? _ = some _ from hx126_1)); (try have hy126_2 := fun (n_ : Nat) => (show (((((w25.drewN n_).setCell ⟨gb125, 0, none⟩ (.int .i64 ((rd_T63 l0_1 x31_2).f0))).setCell ⟨gb125, 1, none⟩ (.int .i64 ((rd_T63 l0_1 x31_2).f1))).setCell ⟨gb125, 2, none⟩ (.int .i64 ((rd_T63 l0_1 x31_2).f2)))).cell? _ = some _ from hx126_2)); clear hn126_0; clear hn126_1; clear hn126_2; replace p126 := eq_true p126; replace q126 := eq_true q126)); try go_wp2_with (first | ((with_reducible refine gate_dst (N := 6) rfl ?_); (try (refine gate_guard (by rfl) ?_; dsimp only)); refine boxE (cs := #[.int .i64 0, .int .i64 0, .int .i64 0]) (t := 63) ?_; intro gb125 hg w25 hbox hb; refine E10 (bB BK122.1 hb) (bB BK123.1 hb) (bS HB.1 hb) (hbox) (gX HB.1 hg) (gX HB.1 hg) (nB BK122.1 hg) (nC BK122.1 hg) (nB BK123.1 hg) (nC BK123.1 hg) ?_; clear BK122 BK123 HB; intro BK122 BK123 HB BK125 GW125 GE125 NB122_125 NB125_122 NB123_125 NB125_123; clear hb hbox hg; have hnb26 := NB125_122.1; have hnc26 := NB122_125.1; have hnb27 := NB125_123.1; have hnc27 := NB123_125.1; obtain ⟨hcz28_0, hcz28_1, hcz28_2, hfz28_0, hfz28_1, hfz28_2⟩ := cz3 BK125.1; have hnb29 := NB123_122.1; have hnc29 := NB122_123.1; obtain ⟨hcz30_0, hcz30_1, hcz30_2, hfz30_0, hfz30_1, hfz30_2⟩ := cz3 BK123.1; have p126 : 0 <= (x31_2 : Int) := OD; have q126 : x31_2 < (l1_1.length : Int) := OD; obtain ⟨ad126, e126, hx126_0, hx126_1, hx126_2⟩ := at_T63 HR1_1.1 x31_2 p126 q126; cases e126; have hn126_0 : ad126.block ≠ gb125 := Nat.ne_of_lt (Nat.lt_of_lt_of_le (by have := World.block_lt_of_cell? _ _ hx126_0; first | rwa [add_block] at this | exact this) GW125.1); have hn126_1 : ad126.block ≠ gb125 := Nat.ne_of_lt (Nat.lt_of_lt_of_le (by have := World.block_lt_of_cell? _ _ hx126_0; first | rwa [add_block] at this | exact this) GW125.1); have hn126_2 : ad126.block ≠ gb125 := Nat.ne_of_lt (Nat.lt_of_lt_of_le (by have := World.block_lt_of_cell? _ _ hx126_0; first | rwa [add_block] at this | exact this) GW125.1); replace hx126_0 := (HB.1.cell (World.block_lt_of_cell? w _ hx126_0)).trans hx126_0; replace hx126_1 := (HB.1.cell (World.block_lt_of_cell? w _ hx126_1)).trans hx126_1; replace hx126_2 := (HB.1.cell (World.block_lt_of_cell? w _ hx126_2)).trans hx126_2; replace hx126_0 := (cell_far (p := ⟨gb125, 0, none⟩) (by first | (rw [add_block]; exact hn126_0) | (show (Addr.add _ _).block ≠ _; rw [add_block]; exact hn126_0) | exact hn126_0) (.int .i64 ((rd_T63 l0_1 x31_2).f0))).trans hx126_0; replace hx126_1 := (cell_far (p := ⟨gb125, 0, none⟩) (by first | (rw [add_block]; exact hn126_0) | (show (Addr.add _ _).block ≠ _; rw [add_block]; exact hn126_0) | exact hn126_0) (.int .i64 ((rd_T63 l0_1 x31_2).f0))).trans hx126_1; replace hx126_2 := (cell_far (p := ⟨gb125, 0, none⟩) (by first | (rw [add_block]; exact hn126_0) | (show (Addr.add _ _).block ≠ _; rw [add_block]; exact hn126_0) | exact hn126_0) (.int .i64 ((rd_T63 l0_1 x31_2).f0))).trans hx126_2; replace hx126_0 := (cell_far (p := ⟨gb125, 1, none⟩) (by first | (rw [add_block]; exact hn126_1) | (show (Addr.add _ _).block ≠ _; rw [add_block]; exact hn126_1) | exact hn126_1) (.int .i64 ((rd_T63 l0_1 x31_2).f1))).trans hx126_0; replace hx126_1 := (cell_far (p := ⟨gb125, 1, none⟩) (by first | (rw [add_block]; exact hn126_1) | (show (Addr.add _ _).block ≠ _; rw [add_block]; exact hn126_1) | exact hn126_1) (.int .i64 ((rd_T63 l0_1 x31_2).f1))).trans hx126_1; replace hx126_2 := (cell_far (p := ⟨gb125, 1, none⟩) (by first | (rw [add_block]; exact hn126_1) | (show (Addr.add _ _).block ≠ _; rw [add_block]; exact hn126_1) | exact hn126_1) (.int .i64 ((rd_T63 l0_1 x31_2).f1))).trans hx126_2; replace hx126_0 := (cell_far (p := ⟨gb125, 2, none⟩) (by first | (rw [add_block]; exact hn126_2) | (show (Addr.add _ _).block ≠ _; rw [add_block]; exact hn126_2) | exact hn126_2) (.int .i64 ((rd_T63 l0_1 x31_2).f2))).trans hx126_0; replace hx126_1 := (cell_far (p := ⟨gb125, 2, none⟩) (by first | (rw [add_block]; exact hn126_2) | (show (Addr.add _ _).block ≠ _; rw [add_block]; exact hn126_2) | exact hn126_2) (.int .i64 ((rd_T63 l0_1 x31_2).f2))).trans hx126_1; replace hx126_2 := (cell_far (p := ⟨gb125, 2, none⟩) (by first | (rw [add_block]; exact hn126_2) | (show (Addr.add _ _).block ≠ _; rw [add_block]; exact hn126_2) | exact hn126_2) (.int .i64 ((rd_T63 l0_1 x31_2).f2))).trans hx126_2; (try have hy126_0 := fun (n_ : Nat) => (show (((((w25.drewN n_).setCell ⟨gb125, 0, none⟩ (.int .i64 ((rd_T63 l0_1 x31_2).f0))).setCell ⟨gb125, 1, none⟩ (.int .i64 ((rd_T63 l0_1 x31_2).f1))).setCell ⟨gb125, 2, none⟩ (.int .i64 ((rd_T63 l0_1 x31_2).f2)))).cell? _ = some _ from hx126_0)); (try have hy126_1 := fun (n_ : Nat) => (show (((((w25.drewN n_).setCell ⟨gb125, 0, none⟩ (.int .i64 ((rd_T63 l0_1 x31_2).f0))).setCell ⟨gb125, 1, none⟩ (.int .i64 ((rd_T63 l0_1 x31_2).f1))).setCell ⟨gb125, 2, none⟩ (.int .i64 ((rd_T63 l0_1 x31_2).f2)))).cell? _ = some _ from hx126_1)); (try have hy126_2 := fun (n_ : Nat) => (show (((((w25.drewN n_).setCell ⟨gb125, 0, none⟩ (.int .i64 ((rd_T63 l0_1 x31_2).f0))).setCell ⟨gb125, 1, none⟩ (.int .i64 ((rd_T63 l0_1 x31_2).f1))).setCell ⟨gb125, 2, none⟩ (.int .i64 ((rd_T63 l0_1 x31_2).f2)))).cell? _ = some _ from hx126_2)); clear hn126_0; clear hn126_1; clear hn126_2; replace p126 := eq_true p126; replace q126 := eq_true q126)))
     go_ret
     exact ⟨RF, BL HB.1⟩
   have c24b0 : (!(((rd_T63 l0_1 x31_2).f0) == ((rd_T63 l1_1 x31_2).f0)) || (!(((rd_T63 l0_1 x31_2).f1) == ((rd_T63 l1_1 x31_2).f1)) || (!(((rd_T63 l0_1 x31_2).f2) == ((rd_T63 l1_1 x31_2).f2))))) = false := by simpa using c24
   clear c24
   have H' := Aside0.mk H
   clear H
   have p124 : 0 <= (x31_2 : Int) := OD
   have q124 : x31_2 < (l0_1.length : Int) := OD
   obtain ⟨ad124, e124, hx124_0, hx124_1, hx124_2⟩ := at_T63 HR0_1.1 x31_2 p124 q124
   cases e124
   replace hx124_0 := (HB.1.cell (World.block_lt_of_cell? w _ hx124_0)).trans hx124_0
   replace hx124_1 := (HB.1.cell (World.block_lt_of_cell? w _ hx124_1)).trans hx124_1
   replace hx124_2 := (HB.1.cell (World.block_lt_of_cell? w _ hx124_2)).trans hx124_2
   replace p124 := eq_true p124
   replace q124 := eq_true q124
   go_wp2_with (first | ((with_reducible refine gate_dst (N := 6) rfl ?_); (try (refine gate_guard (by rfl) ?_; dsimp only)); refine boxE (cs := #[.int .i64 0, .int .i64 0, .int .i64 0]) (t := 63) ?_; intro gb125 hg w31 hbox hb; refine E10 (bB BK122.1 hb) (bB BK123.1 hb) (bS HB.1 hb) (hbox) (gX HB.1 hg) (gX HB.1 hg) (nB BK122.1 hg) (nC BK122.1 hg) (nB BK123.1 hg) (nC BK123.1 hg) ?_; clear BK122 BK123 HB; intro BK122 BK123 HB BK125 GW125 GE125 NB122_125 NB125_122 NB123_125 NB125_123; clear hb hbox hg; have hnb32 := NB125_122.1; have hnc32 := NB122_125.1; have hnb33 := NB125_123.1; have hnc33 := NB123_125.1; obtain ⟨hcz34_0, hcz34_1, hcz34_2, hfz34_0, hfz34_1, hfz34_2⟩ := cz3 BK125.1; have hnb35 := NB123_122.1; have hnc35 := NB122_123.1; obtain ⟨hcz36_0, hcz36_1, hcz36_2, hfz36_0, hfz36_1, hfz36_2⟩ := cz3 BK123.1; have p126 : 0 <= (x31_2 : Int) := OD; have q126 : x31_2 < (l1_1.length : Int) := OD; obtain ⟨ad126, e126, hx126_0, hx126_1, hx126_2⟩ := at_T63 HR1_1.1 x31_2 p126 q126; cases e126; have hn126_0 : ad126.block ≠ gb125 := Nat.ne_of_lt (Nat.lt_of_lt_of_le (by have := World.block_lt_of_cell? _ _ hx126_0; first | rwa [add_block] at this | exact this) GW125.1); have hn126_1 : ad126.block ≠ gb125 := Nat.ne_of_lt (Nat.lt_of_lt_of_le (by have := World.block_lt_of_cell? _ _ hx126_0; first | rwa [add_block] at this | exact this) GW125.1); have hn126_2 : ad126.block ≠ gb125 := Nat.ne_of_lt (Nat.lt_of_lt_of_le (by have := World.block_lt_of_cell? _ _ hx126_0; first | rwa [add_block] at this | exact this) GW125.1); replace hx126_0 := (HB.1.cell (World.block_lt_of_cell? w _ hx126_0)).trans hx126_0; replace hx126_1 := (HB.1.cell (World.block_lt_of_cell? w _ hx126_1)).trans hx126_1; replace hx126_2 := (HB.1.cell (World.block_lt_of_cell? w _ hx126_2)).trans hx126_2; replace hx126_0 := (cell_far (p := ⟨gb125, 0, none⟩) (by first | (rw [add_block]; exact hn126_0) | (show (Addr.add _ _).block ≠ _; rw [add_block]; exact hn126_0) | exact hn126_0) (.int .i64 ((rd_T63 l0_1 x31_2).f0))).trans hx126_0; replace hx126_1 := (cell_far (p := ⟨gb125, 0, none⟩) (by first | (rw [add_block]; exact hn126_0) | (show (Addr.add _ _).block ≠ _; rw [add_block]; exact hn126_0) | exact hn126_0) (.int .i64 ((rd_T63 l0_1 x31_2).f0))).trans hx126_1; replace hx126_2 := (cell_far (p := ⟨gb125, 0, none⟩) (by first | (rw [add_block]; exact hn126_0) | (show (Addr.add _ _).block ≠ _; rw [add_block]; exact hn126_0) | exact hn126_0) (.int .i64 ((rd_T63 l0_1 x31_2).f0))).trans hx126_2; replace hx126_0 := (cell_far (p := ⟨gb125, 1, none⟩) (by first | (rw [add_block]; exact hn126_1) | (show (Addr.add _ _).block ≠ _; rw [add_block]; exact hn126_1) | exact hn126_1) (.int .i64 ((rd_T63 l0_1 x31_2).f1))).trans hx126_0; replace hx126_1 := (cell_far (p := ⟨gb125, 1, none⟩) (by first | (rw [add_block]; exact hn126_1) | (show (Addr.add _ _).block ≠ _; rw [add_block]; exact hn126_1) | exact hn126_1) (.int .i64 ((rd_T63 l0_1 x31_2).f1))).trans hx126_1; replace hx126_2 := (cell_far (p := ⟨gb125, 1, none⟩) (by first | (rw [add_block]; exact hn126_1) | (show (Addr.add _ _).block ≠ _; rw [add_block]; exact hn126_1) | exact hn126_1) (.int .i64 ((rd_T63 l0_1 x31_2).f1))).trans hx126_2; replace hx126_0 := (cell_far (p := ⟨gb125, 2, none⟩) (by first | (rw [add_block]; exact hn126_2) | (show (Addr.add _ _).block ≠ _; rw [add_block]; exact hn126_2) | exact hn126_2) (.int .i64 ((rd_T63 l0_1 x31_2).f2))).trans hx126_0; replace hx126_1 := (cell_far (p := ⟨gb125, 2, none⟩) (by first | (rw [add_block]; exact hn126_2) | (show (Addr.add _ _).block ≠ _; rw [add_block]; exact hn126_2) | exact hn126_2) (.int .i64 ((rd_T63 l0_1 x31_2).f2))).trans hx126_1; replace hx126_2 := (cell_far (p := ⟨gb125, 2, none⟩) (by first | (rw [add_block]; exact hn126_2) | (show (Addr.add _ _).block ≠ _; rw [add_block]; exact hn126_2) | exact hn126_2) (.int .i64 ((rd_T63 l0_1 x31_2).f2))).trans hx126_2; (try have hy126_0 := fun (n_ : Nat) => (show (((((w31.drewN n_).setCell ⟨gb125, 0, none⟩ (.int .i64 ((rd_T63 l0_1 x31_2).f0))).setCell ⟨gb125, 1, none⟩ (.int .i64 ((rd_T63 l0_1 x31_2).f1))).setCell ⟨gb125, 2, none⟩ (.int .i64 ((rd_T63 l0_1 x31_2).f2)))).cell? _ = some _ from hx126_0)); (try have hy126_1 := fun (n_ : Nat) => (show (((((w31.drewN n_).setCell ⟨gb125, 0, none⟩ (.int .i64 ((rd_T63 l0_1 x31_2).f0))).setCell ⟨gb125, 1, none⟩ (.int .i64 ((rd_T63 l0_1 x31_2).f1))).setCell ⟨gb125, 2, none⟩ (.int .i64 ((rd_T63 l0_1 x31_2).f2)))).cell? _ = some _ from hx126_1)); (try have hy126_2 := fun (n_ : Nat) => (show (((((w31.drewN n_).setCell ⟨gb125, 0, none⟩ (.int .i64 ((rd_T63 l0_1 x31_2).f0))).setCell ⟨gb125, 1, none⟩ (.int .i64 ((rd_T63 l0_1 x31_2).f1))).setCell ⟨gb125, 2, none⟩ (.int .i64 ((rd_T63 l0_1 x31_2).f2)))).cell? _ = some _ from hx126_2)); clear hn126_0; clear hn126_1; clear hn126_2; replace p126 := eq_true p126; replace q126 := eq_true q126))
   repeat (go_quiet (first | ((with_reducible refine gate_dst (N := 6) rfl ?_); (try (refine gate_guard (by rfl) ?_; dsimp only)); refine boxE (cs := #[.int .i64 0, .int .i64 0, .int .i64 0]) (t := 63) ?_; intro gb125 hg w31 hbox hb; refine E10 (bB BK122.1 hb) (bB BK123.1 hb) (bS HB.1 hb) (hbox) (gX HB.1 hg) (gX HB.1 hg) (nB BK122.1 hg) (nC BK122.1 hg) (nB BK123.1 hg) (nC BK123.1 hg) ?_; clear BK122 BK123 HB; intro BK122 BK123 HB BK125 GW125 GE125 NB122_125 NB125_122 NB123_125 NB125_123; clear hb hbox hg; have hnb32 := NB125_122.1; have hnc32 := NB122_125.1; have hnb33 := NB125_123.1; have hnc33 := NB123_125.1; obtain ⟨hcz34_0, hcz34_1, hcz34_2, hfz34_0, hfz34_1, hfz34_2⟩ := cz3 BK125.1; have hnb35 := NB123_122.1; have hnc35 := NB122_123.1; obtain ⟨hcz36_0, hcz36_1, hcz36_2, hfz36_0, hfz36_1, hfz36_2⟩ := cz3 BK123.1; have p126 : 0 <= (x31_2 : Int) := OD; have q126 : x31_2 < (l1_1.length : Int) := OD; obtain ⟨ad126, e126, hx126_0, hx126_1, hx126_2⟩ := at_T63 HR1_1.1 x31_2 p126 q126; cases e126; have hn126_0 : ad126.block ≠ gb125 := Nat.ne_of_lt (Nat.lt_of_lt_of_le (by have := World.block_lt_of_cell? _ _ hx126_0; first | rwa [add_block] at this | exact this) GW125.1); have hn126_1 : ad126.block ≠ gb125 := Nat.ne_of_lt (Nat.lt_of_lt_of_le (by have := World.block_lt_of_cell? _ _ hx126_0; first | rwa [add_block] at this | exact this) GW125.1); have hn126_2 : ad126.block ≠ gb125 := Nat.ne_of_lt (Nat.lt_of_lt_of_le (by have := World.block_lt_of_cell? _ _ hx126_0; first | rwa [add_block] at this | exact this) GW125.1); replace hx126_0 := (HB.1.cell (World.block_lt_of_cell? w _ hx126_0)).trans hx126_0; replace hx126_1 := (HB.1.cell (World.block_lt_of_cell? w _ hx126_1)).trans hx126_1; replace hx126_2 := (HB.1.cell (World.block_lt_of_cell? w _ hx126_2)).trans hx126_2; replace hx126_0 := (cell_far (p := ⟨gb125, 0, none⟩) (by first | (rw [add_block]; exact hn126_0) | (show (Addr.add _ _).block ≠ _; rw [add_block]; exact hn126_0) | exact hn126_0) (.int .i64 ((rd_T63 l0_1 x31_2).f0))).trans hx126_0; replace hx126_1 := (cell_far (p := ⟨gb125, 0, none⟩) (by first | (rw [add_block]; exact hn126_0) | (show (Addr.add _ _).block ≠ _; rw [add_block]; exact hn126_0) | exact hn126_0) (.int .i64 ((rd_T63 l0_1 x31_2).f0))).trans hx126_1; replace hx126_2 := (cell_far (p := ⟨gb125, 0, none⟩) (by first | (rw [add_block]; exact hn126_0) | (show (Addr.add _ _).block ≠ _; rw [add_block]; exact hn126_0) | exact hn126_0) (.int .i64 ((rd_T63 l0_1 x31_2).f0))).trans hx126_2; replace hx126_0 := (cell_far (p := ⟨gb125, 1, none⟩) (by first | (rw [add_block]; exact hn126_1) | (show (Addr.add _ _).block ≠ _; rw [add_block]; exact hn126_1) | exact hn126_1) (.int .i64 ((rd_T63 l0_1 x31_2).f1))).trans hx126_0; replace hx126_1 := (cell_far (p := ⟨gb125, 1, none⟩) (by first | (rw [add_block]; exact hn126_1) | (show (Addr.add _ _).block ≠ _; rw [add_block]; exact hn126_1) | exact hn126_1) (.int .i64 ((rd_T63 l0_1 x31_2).f1))).trans hx126_1; replace hx126_2 := (cell_far (p := ⟨gb125, 1, none⟩) (by first | (rw [add_block]; exact hn126_1) | (show (Addr.add _ _).block ≠ _; rw [add_block]; exact hn126_1) | exact hn126_1) (.int .i64 ((rd_T63 l0_1 x31_2).f1))).trans hx126_2; replace hx126_0 := (cell_far (p := ⟨gb125, 2, none⟩) (by first | (rw [add_block]; exact hn126_2) | (show (Addr.add _ _).block ≠ _; rw [add_block]; exact hn126_2) | exact hn126_2) (.int .i64 ((rd_T63 l0_1 x31_2).f2))).trans hx126_0; replace hx126_1 := (cell_far (p := ⟨gb125, 2, none⟩) (by first | (rw [add_block]; exact hn126_2) | (show (Addr.add _ _).block ≠ _; rw [add_block]; exact hn126_2) | exact hn126_2) (.int .i64 ((rd_T63 l0_1 x31_2).f2))).trans hx126_1; replace hx126_2 := (cell_far (p := ⟨gb125, 2, none⟩) (by first | (rw [add_block]; exact hn126_2) | (show (Addr.add _ _).block ≠ _; rw [add_block]; exact hn126_2) | exact hn126_2) (.int .i64 ((rd_T63 l0_1 x31_2).f2))).trans hx126_2; (try have hy126_0 := fun (n_ : Nat) => (show (((((w31.drewN n_).setCell ⟨gb125, 0, none⟩ (.int .i64 ((rd_T63 l0_1 x31_2).f0))).setCell ⟨gb125, 1, none⟩ (.int .i64 ((rd_T63 l0_1 x31_2).f1))).setCell ⟨gb125, 2, none⟩ (.int .i64 ((rd_T63 l0_1 x31_2).f2)))).cell? _ = some _ from hx126_0)); (try have hy126_1 := fun (n_ : Nat) => (show (((((w31.drewN n_).setCell ⟨gb125, 0, none⟩ (.int .i64 ((rd_T63 l0_1 x31_2).f0))).setCell ⟨gb125, 1, none⟩ (.int .i64 ((rd_T63 l0_1 x31_2).f1))).setCell ⟨gb125, 2, none⟩ (.int .i64 ((rd_T63 l0_1 x31_2).f2)))).cell? _ = some _ from hx126_1)); (try have hy126_2 := fun (n_ : Nat) => (show (((((w31.drewN n_).setCell ⟨gb125, 0, none⟩ (.int .i64 ((rd_T63 l0_1 x31_2).f0))).setCell ⟨gb125, 1, none⟩ (.int .i64 ((rd_T63 l0_1 x31_2).f1))).setCell ⟨gb125, 2, none⟩ (.int .i64 ((rd_T63 l0_1 x31_2).f2)))).cell? _ = some _ from hx126_2)); clear hn126_0; clear hn126_1; clear hn126_2; replace p126 := eq_true p126; replace q126 := eq_true q126)); try go_wp2_with (first | ((with_reducible refine gate_dst (N := 6) rfl ?_); (try (refine gate_guard (by rfl) ?_; dsimp only)); refine boxE (cs := #[.int .i64 0, .int .i64 0, .int .i64 0]) (t := 63) ?_; intro gb125 hg w31 hbox hb; refine E10 (bB BK122.1 hb) (bB BK123.1 hb) (bS HB.1 hb) (hbox) (gX HB.1 hg) (gX HB.1 hg) (nB BK122.1 hg) (nC BK122.1 hg) (nB BK123.1 hg) (nC BK123.1 hg) ?_; clear BK122 BK123 HB; intro BK122 BK123 HB BK125 GW125 GE125 NB122_125 NB125_122 NB123_125 NB125_123; clear hb hbox hg; have hnb32 := NB125_122.1; have hnc32 := NB122_125.1; have hnb33 := NB125_123.1; have hnc33 := NB123_125.1; obtain ⟨hcz34_0, hcz34_1, hcz34_2, hfz34_0, hfz34_1, hfz34_2⟩ := cz3 BK125.1; have hnb35 := NB123_122.1; have hnc35 := NB122_123.1; obtain ⟨hcz36_0, hcz36_1, hcz36_2, hfz36_0, hfz36_1, hfz36_2⟩ := cz3 BK123.1; have p126 : 0 <= (x31_2 : Int) := OD; have q126 : x31_2 < (l1_1.length : Int) := OD; obtain ⟨ad126, e126, hx126_0, hx126_1, hx126_2⟩ := at_T63 HR1_1.1 x31_2 p126 q126; cases e126; have hn126_0 : ad126.block ≠ gb125 := Nat.ne_of_lt (Nat.lt_of_lt_of_le (by have := World.block_lt_of_cell? _ _ hx126_0; first | rwa [add_block] at this | exact this) GW125.1); have hn126_1 : ad126.block ≠ gb125 := Nat.ne_of_lt (Nat.lt_of_lt_of_le (by have := World.block_lt_of_cell? _ _ hx126_0; first | rwa [add_block] at this | exact this) GW125.1); have hn126_2 : ad126.block ≠ gb125 := Nat.ne_of_lt (Nat.lt_of_lt_of_le (by have := World.block_lt_of_cell? _ _ hx126_0; first | rwa [add_block] at this | exact this) GW125.1); replace hx126_0 := (HB.1.cell (World.block_lt_of_cell? w _ hx126_0)).trans hx126_0; replace hx126_1 := (HB.1.cell (World.block_lt_of_cell? w _ hx126_1)).trans hx126_1; replace hx126_2 := (HB.1.cell (World.block_lt_of_cell? w _ hx126_2)).trans hx126_2; replace hx126_0 := (cell_far (p := ⟨gb125, 0, none⟩) (by first | (rw [add_block]; exact hn126_0) | (show (Addr.add _ _).block ≠ _; rw [add_block]; exact hn126_0) | exact hn126_0) (.int .i64 ((rd_T63 l0_1 x31_2).f0))).trans hx126_0; replace hx126_1 := (cell_far (p := ⟨gb125, 0, none⟩) (by first | (rw [add_block]; exact hn126_0) | (show (Addr.add _ _).block ≠ _; rw [add_block]; exact hn126_0) | exact hn126_0) (.int .i64 ((rd_T63 l0_1 x31_2).f0))).trans hx126_1; replace hx126_2 := (cell_far (p := ⟨gb125, 0, none⟩) (by first | (rw [add_block]; exact hn126_0) | (show (Addr.add _ _).block ≠ _; rw [add_block]; exact hn126_0) | exact hn126_0) (.int .i64 ((rd_T63 l0_1 x31_2).f0))).trans hx126_2; replace hx126_0 := (cell_far (p := ⟨gb125, 1, none⟩) (by first | (rw [add_block]; exact hn126_1) | (show (Addr.add _ _).block ≠ _; rw [add_block]; exact hn126_1) | exact hn126_1) (.int .i64 ((rd_T63 l0_1 x31_2).f1))).trans hx126_0; replace hx126_1 := (cell_far (p := ⟨gb125, 1, none⟩) (by first | (rw [add_block]; exact hn126_1) | (show (Addr.add _ _).block ≠ _; rw [add_block]; exact hn126_1) | exact hn126_1) (.int .i64 ((rd_T63 l0_1 x31_2).f1))).trans hx126_1; replace hx126_2 := (cell_far (p := ⟨gb125, 1, none⟩) (by first | (rw [add_block]; exact hn126_1) | (show (Addr.add _ _).block ≠ _; rw [add_block]; exact hn126_1) | exact hn126_1) (.int .i64 ((rd_T63 l0_1 x31_2).f1))).trans hx126_2; replace hx126_0 := (cell_far (p := ⟨gb125, 2, none⟩) (by first | (rw [add_block]; exact hn126_2) | (show (Addr.add _ _).block ≠ _; rw [add_block]; exact hn126_2) | exact hn126_2) (.int .i64 ((rd_T63 l0_1 x31_2).f2))).trans hx126_0; replace hx126_1 := (cell_far (p := ⟨gb125, 2, none⟩) (by first | (rw [add_block]; exact hn126_2) | (show (Addr.add _ _).block ≠ _; rw [add_block]; exact hn126_2) | exact hn126_2) (.int .i64 ((rd_T63 l0_1 x31_2).f2))).trans hx126_1; replace hx126_2 := (cell_far (p := ⟨gb125, 2, none⟩) (by first | (rw [add_block]; exact hn126_2) | (show (Addr.add _ _).block ≠ _; rw [add_block]; exact hn126_2) | exact hn126_2) (.int .i64 ((rd_T63 l0_1 x31_2).f2))).trans hx126_2; (try have hy126_0 := fun (n_ : Nat) => (show (((((w31.drewN n_).setCell ⟨gb125, 0, none⟩ (.int .i64 ((rd_T63 l0_1 x31_2).f0))).setCell ⟨gb125, 1, none⟩ (.int .i64 ((rd_T63 l0_1 x31_2).f1))).setCell ⟨gb125, 2, none⟩ (.int .i64 ((rd_T63 l0_1 x31_2).f2)))).cell? _ = some _ from hx126_0)); (try have hy126_1 := fun (n_ : Nat) => (show (((((w31.drewN n_).setCell ⟨gb125, 0, none⟩ (.int .i64 ((rd_T63 l0_1 x31_2).f0))).setCell ⟨gb125, 1, none⟩ (.int .i64 ((rd_T63 l0_1 x31_2).f1))).setCell ⟨gb125, 2, none⟩ (.int .i64 ((rd_T63 l0_1 x31_2).f2)))).cell? _ = some _ from hx126_1)); (try have hy126_2 := fun (n_ : Nat) => (show (((((w31.drewN n_).setCell ⟨gb125, 0, none⟩ (.int .i64 ((rd_T63 l0_1 x31_2).f0))).setCell ⟨gb125, 1, none⟩ (.int .i64 ((rd_T63 l0_1 x31_2).f1))).setCell ⟨gb125, 2, none⟩ (.int .i64 ((rd_T63 l0_1 x31_2).f2)))).cell? _ = some _ from hx126_2)); clear hn126_0; clear hn126_1; clear hn126_2; replace p126 := eq_true p126; replace q126 := eq_true q126)))
   go_roundg k2
   case measure => have := HJ2.1; have := HK2.1; omega
   case rel => exact ⟨(wrap64 (x31_2 + 1)), RG, H', ⟨by have := HJ2.1; have := HK2.1; omega⟩, ⟨by (with_reducible repeat (first | refine blk_drewN ?_ _ | refine blk_drew ?_ | refine blk_alloc ?_ _)); refine blk_far ?_ NB122_125.1 _; (with_reducible repeat (first | refine blk_drewN ?_ _ | refine blk_drew ?_ | refine blk_alloc ?_ _)); refine blk_far ?_ NB122_125.1 _; (with_reducible repeat (first | refine blk_drewN ?_ _ | refine blk_drew ?_ | refine blk_alloc ?_ _)); refine blk_far ?_ NB122_125.1 _; (with_reducible repeat (first | refine blk_drewN ?_ _ | refine blk_drew ?_ | refine blk_alloc ?_ _)); exact BK122.1⟩, ⟨by (with_reducible repeat (first | refine blk_drewN ?_ _ | refine blk_drew ?_ | refine blk_alloc ?_ _)); refine blk_far ?_ NB123_125.1 _; (with_reducible repeat (first | refine blk_drewN ?_ _ | refine blk_drew ?_ | refine blk_alloc ?_ _)); refine blk_far ?_ NB123_125.1 _; (with_reducible repeat (first | refine blk_drewN ?_ _ | refine blk_drew ?_ | refine blk_alloc ?_ _)); refine blk_far ?_ NB123_125.1 _; (with_reducible repeat (first | refine blk_drewN ?_ _ | refine blk_drew ?_ | refine blk_alloc ?_ _)); exact BK123.1⟩, ⟨BL HB.1⟩⟩
 obtain rfl := Option.some.inj H
 go_wp2
 repeat (go_quiet (fail); try go_wp2)
 go_ret
 exact ⟨RF, BL HB.1⟩
/-! ### spec_ddGood: function 45 -/
open Kd
mutual
def spec_ddGood.j0 : Nat -> Bool -> Int -> List (S63) -> Int -> Option (Bool)
 | 0, _, _, _, _ => none
 | k + 1, x24, x128000, x128001, x128002 => if x24 = true then (some false) else (spec_ddGood.l0 k x128001 (x128001.length : Int) 0 x128000 x128001 x128002)
def spec_ddGood.l0 : Nat -> List (S63) -> Int -> Int -> Int -> List (S63) -> Int -> Option (Bool)
 | 0, _, _, _, _, _, _ => none
 | k + 1, x26, x27, x28, x128000, x128001, x128002 => if x28 < x27 then (if 0 <= x28 then (if x28 < (x26.length : Int) then ((spec_l1In.f ((rd_T63 x26 x28).f0) 0 (wrap64 (x128000 - 1))).bind fun t142 => (if t142 = true then ((spec_l1In.f ((rd_T63 x26 x28).f1) 0 (wrap64 (x28 + 1))).bind fun t143 => (if t143 = true then ((spec_l1In.f ((rd_T63 x26 x28).f2) 0 (wrap64 (x28 + 1))).bind fun t144 => (if t144 = true then (spec_ddGood.l0 k x26 x27 (wrap64 (x28 + 1)) x128000 x128001 x128002) else (some false))) else (some false))) else (some false))) else (none)) else (none)) else ((spec_ddTable.f k x128000 x128001 x128002).bind fun bt130 => ((spec_ddMake.f bt130.1 bt130.2).bind fun bt134 => ((spec_ddSame.f k x128000 x128001 x128002 bt134.1 bt134.2.1 bt134.2.2).bind fun t139 => (some t139))))
end
def spec_ddGood.f (k : Nat) (a0_0 : Int) (l0_1 : List (S63)) (a0_2 : Int) : Option (Bool) := (spec_ttInputs.f a0_0).bind fun t128 => (if t128 = true then (if (l0_1.length : Int) > 40 then (spec_ddGood.j0 k true a0_0 l0_1 a0_2) else ((spec_l1In.f a0_2 0 (wrap64 ((l0_1.length : Int) + 1))).bind fun t129 => (spec_ddGood.j0 k (!t129) a0_0 l0_1 a0_2))) else (spec_ddGood.j0 k true a0_0 l0_1 a0_2))
theorem spec_ddGood.mono_l : ∀ k, (∀ y0 y1 y2 y3, LeO (spec_ddGood.j0 k y0 y1 y2 y3) (spec_ddGood.j0 (k + 1) y0 y1 y2 y3)) /\ (∀ y0 y1 y2 y3 y4 y5, LeO (spec_ddGood.l0 k y0 y1 y2 y3 y4 y5) (spec_ddGood.l0 (k + 1) y0 y1 y2 y3 y4 y5))
 | 0 => by refine ⟨?_, ?_⟩ <;> (intros; intro r h; first | (simp [spec_ddGood.j0] at h; done) | (simp [spec_ddGood.l0] at h; done))
 | k + 1 => by
  obtain ⟨ih0, ih1⟩ := spec_ddGood.mono_l k
  refine ⟨?_, ?_⟩ <;> (
   intros
   first | unfold spec_ddGood.j0 | unfold spec_ddGood.l0
   exact LM4 ih0 ih1 spec_ddSame.mono spec_ddTable.mono)
theorem spec_ddGood.mono : ∀ a0 a1 a2 k, LeO (spec_ddGood.f k a0 a1 a2) (spec_ddGood.f (k + 1) a0 a1 a2) := by
 intro a0 a1 a2 k
 obtain ⟨ih0, ih1⟩ := spec_ddGood.mono_l k
 unfold spec_ddGood.f
 exact LM4 ih0 ih1 spec_ddSame.mono spec_ddTable.mono
theorem spec_ddGood.calls (k : Nat) (a0_0 : Int) (A0_1 : Option Addr) (c0_1 : Nat) (l0_1 : List (S63)) (a0_2 : Int) (r : Bool) (w : World) (hr0_1 : Kd.C k63 w A0_1 l0_1.length l0_1) (hc0_1 : l0_1.length <= c0_1) (h : spec_ddGood.f k a0_0 l0_1 a0_2 = some r) :
 Calls Try.prog 45 #[.agg #[.int .i64 a0_0, .slice A0_1 l0_1.length c0_1, .int .i64 a0_2]] w fun e w' => e = .returned (.bool r) /\ Below w.heap.size w w' := by
 have hu29 := Try.underlying29
 have hu63 := Try.underlying63
 have HR0_1 := Aside0.mk hr0_1
 have HC0_1 := Aside0.mk hc0_1
 clear hr0_1 hc0_1
 have HB := Aside0.mk (Below.refl w.heap.size w)
 have H := h
 clear h
 unfold spec_ddGood.f at H
 have HC2 := Aside0.mk H
 clear H
 go_enter Try.func45, Try.ntmps45
 go_upto_region 1 with (first | ((with_reducible refine gate_dst (N := 1) rfl ?_); (try (refine gate_guard (by rfl) ?_; dsimp only)); refine boxE (cs := #[.int .i64 a0_0, .slice A0_1 l0_1.length c0_1, .int .i64 a0_2]) (t := 29) ?_; intro gb127 hg w3 hbox hb; refine E4b HB.1 hg hbox hb ?_; clear HB; intro HB BK127 GW127 GE127; clear hb hbox hg))
 (try simp only [Act.put, List.setIfInBounds_toArray, List.set_cons_zero, List.set_cons_succ])
 go_cut [24] (fun v24 wc => ∃ (kq : Nat) (x24_1 : Bool), v24 = .bool x24_1 /\ Aside0 (spec_ddGood.j0 kq x24_1 a0_0 l0_1 a0_2 = some r) /\ Aside0 (kq <= k) /\ Aside0 (wc.heap[gb127]? = some (.cells #[.int .i64 a0_0, (.slice A0_1 l0_1.length c0_1), .int .i64 a0_2] 29 (0, 0))) /\ Aside0 (Below w.heap.size w wc))
 case first =>
  have H := HC2.1
  clear HC2
  replace H := bindA H; obtain ⟨t128, A4, H⟩ := H
  replace H := ifX H; rcases H with ⟨rfl, H⟩ | ⟨rfl, H⟩
  · replace H := ifQ H; rcases H with ⟨c6, H⟩ | ⟨c6, H⟩
    · have c6b0 : decide (40 < (l0_1.length : Int)) = true := decide_eq_true c6
      have c6b1 : decide (40 < l0_1.length) = true := decide_eq_true (by omega)
      clear c6
      (first | rw [c6b0] | (simp only [i64_w, i32_w]; rw [c6b0]) | skip)
      have H' := Aside0.mk H
      clear H
      obtain ⟨hcz7_0, hcz7_1, hcz7_2, hfz7_0, hfz7_1, hfz7_2⟩ := cz3 BK127.1
      go_wp2_with (first | ((with_reducible refine gate_callee (f := 72) rfl ?_); refine goesM (N := (some 7)) #[.int .i64 a0_0] Try.func72 ?_; (with_reducible refine (spec_ttInputs.calls a0_0 true _ A4.1).mono ?_); rintro e w' ⟨rfl, ⟨nd, rfl⟩⟩; refine ⟨_, rfl, ?_⟩))
      go_meet
      case rel => exact ⟨_, (true), RG, H', ⟨by first | omega | exact Nat.le_refl _⟩, ⟨PB BK127.1⟩, ⟨BL HB.1⟩⟩
    have c6b0 : decide (40 < (l0_1.length : Int)) = false := decide_eq_false c6
    have c6b1 : decide (40 < l0_1.length) = false := decide_eq_false (by omega)
    clear c6
    (first | rw [c6b0] | (simp only [i64_w, i32_w]; rw [c6b0]) | skip)
    replace H := bindA H; obtain ⟨t129, A8, H⟩ := H
    have H' := Aside0.mk H
    clear H
    obtain ⟨hcz9_0, hcz9_1, hcz9_2, hfz9_0, hfz9_1, hfz9_2⟩ := cz3 BK127.1
    go_wp2_with (first | ((with_reducible refine gate_callee (f := 72) rfl ?_); refine goesM (N := (some 7)) #[.int .i64 a0_0] Try.func72 ?_; (with_reducible refine (spec_ttInputs.calls a0_0 true _ A4.1).mono ?_); rintro e w' ⟨rfl, ⟨nd, rfl⟩⟩; refine ⟨_, rfl, ?_⟩) | (go_at_call 73; (with_reducible refine (spec_l1In.calls a0_2 0 (wrap64 ((l0_1.length : Int) + 1)) t129 _ A8.1).mono ?_); rintro e w' ⟨rfl, ⟨nd, rfl⟩⟩))
    go_meet
    case rel => exact ⟨_, (!t129), RG, H', ⟨by first | omega | exact Nat.le_refl _⟩, ⟨PB BK127.1⟩, ⟨BL HB.1⟩⟩
  have H' := Aside0.mk H
  clear H
  obtain ⟨hcz10_0, hcz10_1, hcz10_2, hfz10_0, hfz10_1, hfz10_2⟩ := cz3 BK127.1
  go_wp2_with (first | ((with_reducible refine gate_callee (f := 72) rfl ?_); refine goesM (N := (some 7)) #[.int .i64 a0_0] Try.func72 ?_; (with_reducible refine (spec_ttInputs.calls a0_0 false _ A4.1).mono ?_); rintro e w' ⟨rfl, ⟨nd, rfl⟩⟩; refine ⟨_, rfl, ?_⟩))
  go_meet
  case rel => exact ⟨_, (true), RG, H', ⟨by first | omega | exact Nat.le_refl _⟩, ⟨PB BK127.1⟩, ⟨BL HB.1⟩⟩
 clear HC2
 obtain ⟨kq, x24_1, rfl, HA, HJ1, BK127, HB⟩ := hcut
 cases kq with
 | zero => exact absurd HA.1 (by simp [spec_ddGood.j0])
 | succ kj1 => ?_
 have H := HA.1
 clear HA
 simp only [spec_ddGood.j0] at H
 replace H := ifX H; rcases H with ⟨rfl, H⟩ | ⟨rfl, H⟩
 · obtain rfl := Option.some.inj H
   go_wp2
   go_ret
   exact ⟨RF, BL HB.1⟩
 have H' := Aside0.mk H
 clear H
 obtain ⟨hcz12_0, hcz12_1, hcz12_2, hfz12_0, hfz12_1, hfz12_2⟩ := cz3 BK127.1
 go_wp2
 go_loopg [28] kj1 (fun kq v28 w' => ∃ (x28_2 : Int), v28 = .int .i64 x28_2 /\ Aside0 (spec_ddGood.l0 kq l0_1 (l0_1.length : Int) x28_2 a0_0 l0_1 a0_2 = some r) /\ Aside0 (kq <= kj1) /\ Aside0 (w'.heap[gb127]? = some (.cells #[.int .i64 a0_0, (.slice A0_1 l0_1.length c0_1), .int .i64 a0_2] 29 (0, 0))) /\ Aside0 (Below w.heap.size w w'))
 case atStart => exact ⟨(0), RG, H', ⟨Nat.le_refl _⟩, ⟨PB BK127.1⟩, ⟨BL HB.1⟩⟩
 clear H'
 clear hcz12_0 hcz12_1 hcz12_2 hfz12_0 hfz12_1 hfz12_2
 obtain ⟨x28_2, rfl, HA, HK2, BK127, HB⟩ := hrel
 cases gk with
 | zero => exact absurd HA.1 (by simp [spec_ddGood.l0])
 | succ k2 => ?_
 have H := HA.1
 clear HA
 simp only [spec_ddGood.l0] at H
 replace H := ifB H; rcases H with ⟨c13b0, H⟩ | ⟨c13b0, H⟩
 · replace H := ifN H; obtain ⟨c14b0, H⟩ := H
   replace H := ifN H; obtain ⟨c15b0, H⟩ := H
   replace H := bindA H; obtain ⟨t142, A16, H⟩ := H
   replace H := ifX H; rcases H with ⟨rfl, H⟩ | ⟨rfl, H⟩
   · replace H := bindA H; obtain ⟨t143, A18, H⟩ := H
     replace H := ifX H; rcases H with ⟨rfl, H⟩ | ⟨rfl, H⟩
     · replace H := bindA H; obtain ⟨t144, A20, H⟩ := H
       replace H := ifX H; rcases H with ⟨rfl, H⟩ | ⟨rfl, H⟩
       · have H' := Aside0.mk H
         clear H
         have p140 : 0 <= (x28_2 : Int) := OD
         have q140 : x28_2 < (l0_1.length : Int) := OD
         obtain ⟨ad140, e140, hx140_0, hx140_1, hx140_2⟩ := at_T63 HR0_1.1 x28_2 p140 q140
         cases e140
         replace hx140_0 := (HB.1.cell (World.block_lt_of_cell? w _ hx140_0)).trans hx140_0
         replace hx140_1 := (HB.1.cell (World.block_lt_of_cell? w _ hx140_1)).trans hx140_1
         replace hx140_2 := (HB.1.cell (World.block_lt_of_cell? w _ hx140_2)).trans hx140_2
         replace p140 := eq_true p140
         replace q140 := eq_true q140
         go_wp2_with (first | ((with_reducible refine gate_dst (N := 4) rfl ?_); (try (refine gate_guard (by rfl) ?_; dsimp only)); refine boxE (cs := #[.int .i64 0, .int .i64 0, .int .i64 0]) (t := 63) ?_; intro gb141 hg w22 hbox hb; refine E7 (bB BK127.1 hb) (bS HB.1 hb) (hbox) (gX HB.1 hg) (gX HB.1 hg) (nB BK127.1 hg) (nC BK127.1 hg) ?_; clear BK127 HB; intro BK127 HB BK141 GW141 GE141 NB127_141 NB141_127; clear hb hbox hg; have hnb23 := NB141_127.1; have hnc23 := NB127_141.1; obtain ⟨hcz24_0, hcz24_1, hcz24_2, hfz24_0, hfz24_1, hfz24_2⟩ := cz3 BK141.1; obtain ⟨hcz25_0, hcz25_1, hcz25_2, hfz25_0, hfz25_1, hfz25_2⟩ := cz3 BK127.1) | ((with_reducible refine gate_callee (f := 73) rfl ?_); refine goesM (N := (some 38)) #[.int .i64 ((rd_T63 l0_1 x28_2).f0), .int .i64 0, .int .i64 (wrap64 (a0_0 - 1))] Try.func73 ?_; (with_reducible refine (spec_l1In.calls ((rd_T63 l0_1 x28_2).f0) 0 (wrap64 (a0_0 - 1)) true _ A16.1).mono ?_); rintro e w' ⟨rfl, ⟨nd, rfl⟩⟩; refine ⟨_, rfl, ?_⟩) | (go_at_call 73; (with_reducible refine (spec_l1In.calls ((rd_T63 l0_1 x28_2).f1) 0 (wrap64 (x28_2 + 1)) true _ A18.1).mono ?_); rintro e w' ⟨rfl, ⟨nd, rfl⟩⟩) | (go_at_call 73; (with_reducible refine (spec_l1In.calls ((rd_T63 l0_1 x28_2).f2) 0 (wrap64 (x28_2 + 1)) true _ A20.1).mono ?_); rintro e w' ⟨rfl, ⟨nd, rfl⟩⟩))
         go_roundg k2
         case measure => have := HJ1.1; have := HK2.1; omega
         case rel => exact ⟨(wrap64 (x28_2 + 1)), RG, H', ⟨by have := HJ1.1; have := HK2.1; omega⟩, ⟨by (with_reducible repeat (first | refine blk_drewN ?_ _ | refine blk_drew ?_ | refine blk_alloc ?_ _)); refine blk_far ?_ NB127_141.1 _; (with_reducible repeat (first | refine blk_drewN ?_ _ | refine blk_drew ?_ | refine blk_alloc ?_ _)); refine blk_far ?_ NB127_141.1 _; (with_reducible repeat (first | refine blk_drewN ?_ _ | refine blk_drew ?_ | refine blk_alloc ?_ _)); refine blk_far ?_ NB127_141.1 _; (with_reducible repeat (first | refine blk_drewN ?_ _ | refine blk_drew ?_ | refine blk_alloc ?_ _)); exact BK127.1⟩, ⟨BL HB.1⟩⟩
       obtain rfl := Option.some.inj H
       have p140 : 0 <= (x28_2 : Int) := OD
       have q140 : x28_2 < (l0_1.length : Int) := OD
       obtain ⟨ad140, e140, hx140_0, hx140_1, hx140_2⟩ := at_T63 HR0_1.1 x28_2 p140 q140
       cases e140
       replace hx140_0 := (HB.1.cell (World.block_lt_of_cell? w _ hx140_0)).trans hx140_0
       replace hx140_1 := (HB.1.cell (World.block_lt_of_cell? w _ hx140_1)).trans hx140_1
       replace hx140_2 := (HB.1.cell (World.block_lt_of_cell? w _ hx140_2)).trans hx140_2
       replace p140 := eq_true p140
       replace q140 := eq_true q140
       go_wp2_with (first | ((with_reducible refine gate_dst (N := 4) rfl ?_); (try (refine gate_guard (by rfl) ?_; dsimp only)); refine boxE (cs := #[.int .i64 0, .int .i64 0, .int .i64 0]) (t := 63) ?_; intro gb141 hg w26 hbox hb; refine E7 (bB BK127.1 hb) (bS HB.1 hb) (hbox) (gX HB.1 hg) (gX HB.1 hg) (nB BK127.1 hg) (nC BK127.1 hg) ?_; clear BK127 HB; intro BK127 HB BK141 GW141 GE141 NB127_141 NB141_127; clear hb hbox hg; have hnb27 := NB141_127.1; have hnc27 := NB127_141.1; obtain ⟨hcz28_0, hcz28_1, hcz28_2, hfz28_0, hfz28_1, hfz28_2⟩ := cz3 BK141.1; obtain ⟨hcz29_0, hcz29_1, hcz29_2, hfz29_0, hfz29_1, hfz29_2⟩ := cz3 BK127.1) | ((with_reducible refine gate_callee (f := 73) rfl ?_); refine goesM (N := (some 38)) #[.int .i64 ((rd_T63 l0_1 x28_2).f0), .int .i64 0, .int .i64 (wrap64 (a0_0 - 1))] Try.func73 ?_; (with_reducible refine (spec_l1In.calls ((rd_T63 l0_1 x28_2).f0) 0 (wrap64 (a0_0 - 1)) true _ A16.1).mono ?_); rintro e w' ⟨rfl, ⟨nd, rfl⟩⟩; refine ⟨_, rfl, ?_⟩) | (go_at_call 73; (with_reducible refine (spec_l1In.calls ((rd_T63 l0_1 x28_2).f1) 0 (wrap64 (x28_2 + 1)) true _ A18.1).mono ?_); rintro e w' ⟨rfl, ⟨nd, rfl⟩⟩) | (go_at_call 73; (with_reducible refine (spec_l1In.calls ((rd_T63 l0_1 x28_2).f2) 0 (wrap64 (x28_2 + 1)) false _ A20.1).mono ?_); rintro e w' ⟨rfl, ⟨nd, rfl⟩⟩))
       go_ret
       exact ⟨RF, BL HB.1⟩
     obtain rfl := Option.some.inj H
     have p140 : 0 <= (x28_2 : Int) := OD
     have q140 : x28_2 < (l0_1.length : Int) := OD
     obtain ⟨ad140, e140, hx140_0, hx140_1, hx140_2⟩ := at_T63 HR0_1.1 x28_2 p140 q140
     cases e140
     replace hx140_0 := (HB.1.cell (World.block_lt_of_cell? w _ hx140_0)).trans hx140_0
     replace hx140_1 := (HB.1.cell (World.block_lt_of_cell? w _ hx140_1)).trans hx140_1
     replace hx140_2 := (HB.1.cell (World.block_lt_of_cell? w _ hx140_2)).trans hx140_2
     replace p140 := eq_true p140
     replace q140 := eq_true q140
     go_wp2_with (first | ((with_reducible refine gate_dst (N := 4) rfl ?_); (try (refine gate_guard (by rfl) ?_; dsimp only)); refine boxE (cs := #[.int .i64 0, .int .i64 0, .int .i64 0]) (t := 63) ?_; intro gb141 hg w30 hbox hb; refine E7 (bB BK127.1 hb) (bS HB.1 hb) (hbox) (gX HB.1 hg) (gX HB.1 hg) (nB BK127.1 hg) (nC BK127.1 hg) ?_; clear BK127 HB; intro BK127 HB BK141 GW141 GE141 NB127_141 NB141_127; clear hb hbox hg; have hnb31 := NB141_127.1; have hnc31 := NB127_141.1; obtain ⟨hcz32_0, hcz32_1, hcz32_2, hfz32_0, hfz32_1, hfz32_2⟩ := cz3 BK141.1; obtain ⟨hcz33_0, hcz33_1, hcz33_2, hfz33_0, hfz33_1, hfz33_2⟩ := cz3 BK127.1) | ((with_reducible refine gate_callee (f := 73) rfl ?_); refine goesM (N := (some 38)) #[.int .i64 ((rd_T63 l0_1 x28_2).f0), .int .i64 0, .int .i64 (wrap64 (a0_0 - 1))] Try.func73 ?_; (with_reducible refine (spec_l1In.calls ((rd_T63 l0_1 x28_2).f0) 0 (wrap64 (a0_0 - 1)) true _ A16.1).mono ?_); rintro e w' ⟨rfl, ⟨nd, rfl⟩⟩; refine ⟨_, rfl, ?_⟩) | (go_at_call 73; (with_reducible refine (spec_l1In.calls ((rd_T63 l0_1 x28_2).f1) 0 (wrap64 (x28_2 + 1)) false _ A18.1).mono ?_); rintro e w' ⟨rfl, ⟨nd, rfl⟩⟩))
     go_ret
     exact ⟨RF, BL HB.1⟩
   obtain rfl := Option.some.inj H
   have p140 : 0 <= (x28_2 : Int) := OD
   have q140 : x28_2 < (l0_1.length : Int) := OD
   obtain ⟨ad140, e140, hx140_0, hx140_1, hx140_2⟩ := at_T63 HR0_1.1 x28_2 p140 q140
   cases e140
   replace hx140_0 := (HB.1.cell (World.block_lt_of_cell? w _ hx140_0)).trans hx140_0
   replace hx140_1 := (HB.1.cell (World.block_lt_of_cell? w _ hx140_1)).trans hx140_1
   replace hx140_2 := (HB.1.cell (World.block_lt_of_cell? w _ hx140_2)).trans hx140_2
   replace p140 := eq_true p140
   replace q140 := eq_true q140
   go_wp2_with (first | ((with_reducible refine gate_dst (N := 4) rfl ?_); (try (refine gate_guard (by rfl) ?_; dsimp only)); refine boxE (cs := #[.int .i64 0, .int .i64 0, .int .i64 0]) (t := 63) ?_; intro gb141 hg w34 hbox hb; refine E7 (bB BK127.1 hb) (bS HB.1 hb) (hbox) (gX HB.1 hg) (gX HB.1 hg) (nB BK127.1 hg) (nC BK127.1 hg) ?_; clear BK127 HB; intro BK127 HB BK141 GW141 GE141 NB127_141 NB141_127; clear hb hbox hg; have hnb35 := NB141_127.1; have hnc35 := NB127_141.1; obtain ⟨hcz36_0, hcz36_1, hcz36_2, hfz36_0, hfz36_1, hfz36_2⟩ := cz3 BK141.1; obtain ⟨hcz37_0, hcz37_1, hcz37_2, hfz37_0, hfz37_1, hfz37_2⟩ := cz3 BK127.1) | ((with_reducible refine gate_callee (f := 73) rfl ?_); refine goesM (N := (some 38)) #[.int .i64 ((rd_T63 l0_1 x28_2).f0), .int .i64 0, .int .i64 (wrap64 (a0_0 - 1))] Try.func73 ?_; (with_reducible refine (spec_l1In.calls ((rd_T63 l0_1 x28_2).f0) 0 (wrap64 (a0_0 - 1)) false _ A16.1).mono ?_); rintro e w' ⟨rfl, ⟨nd, rfl⟩⟩; refine ⟨_, rfl, ?_⟩))
   go_ret
   exact ⟨RF, BL HB.1⟩
 replace H := bindA H; obtain ⟨⟨t130, t131⟩, A38, H⟩ := H
 dsimp only at H
 replace H := bindA H; obtain ⟨⟨t134, t135, t138⟩, A39, H⟩ := H
 dsimp only at H
 replace H := bindA H; obtain ⟨t139, A40, H⟩ := H
 obtain rfl := Option.some.inj H
 try go_wp2
 refine E2 (blk_drew BK127.1) (below_drew1 HB.1) ?_
 clear BK127 HB
 intro BK127 HB
 refine start_ (n := 6) (S := fun w' => w'.cell? ⟨gb127, 0, none⟩ = some (.int .i64 a0_0) /\ w'.cell? ⟨gb127, 1, none⟩ = some (.slice A0_1 l0_1.length c0_1) /\ w'.cell? ⟨gb127, 2, none⟩ = some (.int .i64 a0_2)) (ds := []) #[Zz,Zz,Zz,Zz,Zz,Zz] (by kernel_rfl) rfl rfl ⟨(blk_cell BK127.1 0).trans rfl, (blk_cell BK127.1 1).trans rfl, (blk_cell BK127.1 2).trans rfl⟩ (fun hHeld => ?_)
 generalize wr.drew = w41 at BK127 HB hHeld ⊢
 refine takeF 0 (N := some 57) hHeld ?_
 refine takeF 1 (N := some 58) hHeld ?_
 refine one_ (i := 2) (N := some 59) #[Yy,Yy,Yy,Zz,Zz,Zz] rfl rfl (by kernel_rfl) (by decide) (fun K hK => ?_)
 refine goes_ Try.func58 (by kernel_rfl) rfl #[.agg #[.int .i64 a0_0, .slice A0_1 l0_1.length c0_1, .int .i64 a0_2]] (by rfl) rfl rfl (by (try simp only [List.map_toArray, List.map_cons, List.map_nil]); first | done | rfl | (simp only [List.length_drop, List.length_take]; rfl)) ?_
 with_reducible refine (spec_ddTable.calls k2 a0_0 _ _ l0_1 a0_2 t130 t131 _ ?side1 ?side2 A38.1).mono ?_
 (case side1 => exact CB (C_below HR0_1.1 HB.1))
 (case side2 => exact HC0_1.1)
 rintro e w42 ⟨v132, rfl, ho0, hb⟩
 refine ⟨_, rfl, ?_⟩
 refine E3 (R_lower ho0 (bZ HB.1)) (bB BK127.1 hb) (bS HB.1 hb) ?_
 clear BK127 HB
 intro HO133 BK127 HB
 (try clear hb)
 (try clear hb2)
 (try clear hk)
 (try clear hi)
 (try clear ho0)
 obtain ⟨Ao43, co43, eo43⟩ := R_slice HO133.1
 (first | subst eo43 | (injection eo43 with f1_ f2_ f3_; have f4_ := f1_.symm; have f5_ := f3_.symm; clear f1_ f2_ f3_; subst f4_; subst f5_))
 refine hK.out _ _ ⟨(blk_cell BK127.1 0).trans rfl, (blk_cell BK127.1 1).trans rfl, (blk_cell BK127.1 2).trans rfl⟩ (fun hHeld => ?_)
 clear hK K
 refine norm_ (a' := ?_) ?_ ?_
 rotate_left
 · show Act.put _ (some 59) _ = _
   simp only [Act.put, List.setIfInBounds_toArray, List.set_cons_zero, List.set_cons_succ, i64_w, i32_w]
   rfl
 refine one_ (i := 3) (N := some 60) #[Yy,Yy,Yy,Yy,Zz,Zz] rfl rfl (by kernel_rfl) (by decide) (fun K hK => ?_)
 refine goes_ Try.func52 (by kernel_rfl) rfl #[.agg #[.int .i64 t130, .slice Ao43 t131.length co43]] (by rfl) rfl rfl (by (try simp only [List.map_toArray, List.map_cons, List.map_nil]); first | done | rfl | (simp only [List.length_drop, List.length_take]; rfl)) ?_
 with_reducible refine (spec_ddMake.calls t130 _ _ t131 t134 t135 t138 _ ?side1 ?side2 A39.1).mono ?_
 (case side1 => exact CB (R_reads' HO133.1).2.2)
 (case side2 => exact (R_reads' HO133.1).2.1)
 rintro e w44 ⟨v136, rfl, ho0, hb⟩
 refine ⟨_, rfl, ?_⟩
 refine E4 (rB HO133.1 hb) (R_lower ho0 (bZ HB.1)) (bB BK127.1 hb) (bS HB.1 hb) ?_
 clear HO133 BK127 HB
 intro HO133 HO137 BK127 HB
 (try clear hb)
 (try clear hb2)
 (try clear hk)
 (try clear hi)
 (try clear ho0)
 obtain ⟨Ao45, co45, eo45⟩ := R_slice HO137.1
 (first | subst eo45 | (injection eo45 with f1_ f2_ f3_; have f4_ := f1_.symm; have f5_ := f3_.symm; clear f1_ f2_ f3_; subst f4_; subst f5_))
 refine hK.out _ _ ⟨(blk_cell BK127.1 0).trans rfl, (blk_cell BK127.1 1).trans rfl, (blk_cell BK127.1 2).trans rfl⟩ (fun hHeld => ?_)
 clear hK K
 refine norm_ (a' := ?_) ?_ ?_
 rotate_left
 · show Act.put _ (some 60) _ = _
   simp only [Act.put, List.setIfInBounds_toArray, List.set_cons_zero, List.set_cons_succ, i64_w, i32_w]
   rfl
 refine one_ (i := 4) (N := some 61) #[Yy,Yy,Yy,Yy,Yy,Zz] rfl rfl (by kernel_rfl) (by decide) (fun K hK => ?_)
 refine goes_ Try.func74 (by kernel_rfl) rfl #[.agg #[.int .i64 a0_0, .slice A0_1 l0_1.length c0_1, .int .i64 a0_2], .agg #[.int .i64 t134, .slice Ao45 t135.length co45, .int .i64 t138]] (by rfl) rfl rfl (by (try simp only [List.map_toArray, List.map_cons, List.map_nil]); first | done | rfl | (simp only [List.length_drop, List.length_take]; rfl)) ?_
 with_reducible refine (spec_ddSame.calls k2 a0_0 _ _ l0_1 a0_2 t134 _ _ t135 t138 t139 _ ?side1 ?side2 ?side3 ?side4 A40.1).mono ?_
 (case side1 => exact CB (C_below HR0_1.1 HB.1))
 (case side2 => exact HC0_1.1)
 (case side3 => exact CB (R_reads' HO137.1).2.2)
 (case side4 => exact (R_reads' HO137.1).2.1)
 rintro e w46 ⟨rfl, hb⟩
 refine ⟨_, rfl, ?_⟩
 refine E4 (rB HO133.1 hb) (rB HO137.1 hb) (bB BK127.1 hb) (bS HB.1 hb) ?_
 clear HO133 HO137 BK127 HB
 intro HO133 HO137 BK127 HB
 (try clear hb)
 (try clear hb2)
 (try clear hk)
 (try clear hi)
 refine hK.out _ _ ⟨(blk_cell BK127.1 0).trans rfl, (blk_cell BK127.1 1).trans rfl, (blk_cell BK127.1 2).trans rfl⟩ (fun hHeld => ?_)
 clear hK K
 refine norm_ (a' := ?_) ?_ ?_
 rotate_left
 · show Act.put _ (some 61) _ = _
   simp only [Act.put, List.setIfInBounds_toArray, List.set_cons_zero, List.set_cons_succ, i64_w, i32_w]
   rfl
 refine pure_ (i := 5) (N := some 2) (v := ?_) (a' := ?_) #[Yy,Yy,Yy,Yy,Yy,Yy] rfl rfl (by kernel_rfl) (fun _ _ _ h => h) (Or.inl ⟨by rfl, ?_⟩) ?_ ?_
 rotate_left
 · intro w'
   go_simp
   with_reducible rfl
 rotate_left
 · simp only [Act.put, List.setIfInBounds_toArray, List.set_cons_zero, List.set_cons_succ, i64_w, i32_w]
   rfl
 refine done_ (by kernel_rfl) ?_
 try go_wp2
 go_ret
 exact ⟨RF, BL HB.1⟩
/-! ### laws_toNode: function 75 -/
open Kd
def laws_toNode.f (a0_0 : Int) (a0_1 : Int) (a0_2 : Int) : Option (Int × Int × Int) := some (a0_0, a0_1, a0_2)
theorem laws_toNode.calls (a0_0 : Int) (a0_1 : Int) (a0_2 : Int) (r1 : Int) (r2 : Int) (r3 : Int) (w : World) (h : laws_toNode.f a0_0 a0_1 a0_2 = some (r1, r2, r3)) :
 Calls Try.prog 75 #[.agg #[.int .i64 a0_0, .int .i64 a0_1, .int .i64 a0_2]] w fun e w' => e = .returned (.agg #[.int .i64 r1, .int .i64 r2, .int .i64 r3]) /\ Below w.heap.size w w' := by
 have hu86 := Try.underlying86
 have hu63 := Try.underlying63
 have HB := Aside0.mk (Below.refl w.heap.size w)
 have H := h
 clear h
 unfold laws_toNode.f at H
 simp only [Option.some.injEq, Prod.mk.injEq] at H
 obtain ⟨rfl, rfl, rfl⟩ := H
 go_enter Try.func75, Try.ntmps75
 go_wp2_with (first | ((with_reducible refine gate_dst (N := 1) rfl ?_); refine boxE (cs := #[.int .i64 a0_0, .int .i64 a0_1, .int .i64 a0_2]) (t := 86) ?_; intro gb147 hg w2 hbox hb; refine E4b HB.1 hg hbox hb ?_; clear HB; intro HB BK147 GW147 GE147; clear hb hbox hg) | ((with_reducible refine gate_dst (N := 2) rfl ?_); refine boxE (cs := #[.int .i64 0, .int .i64 0, .int .i64 0]) (t := 63) ?_; intro gb148 hg w3 hbox hb; refine E7 (bB BK147.1 hb) (bS HB.1 hb) (hbox) (gX HB.1 hg) (gX HB.1 hg) (nB BK147.1 hg) (nC BK147.1 hg) ?_; clear BK147 HB; intro BK147 HB BK148 GW148 GE148 NB147_148 NB148_147; clear hb hbox hg) | ((with_reducible refine gate_dst (N := 3) rfl ?_); refine boxE (cs := #[.int .i64 0, .int .i64 0, .int .i64 0]) (t := 63) ?_; intro gb149 hg w4 hbox hb; refine E10 (bB BK147.1 hb) (bB BK148.1 hb) (bS HB.1 hb) (hbox) (gX HB.1 hg) (gX HB.1 hg) (nB BK147.1 hg) (nC BK147.1 hg) (nB BK148.1 hg) (nC BK148.1 hg) ?_; clear BK147 BK148 HB; intro BK147 BK148 HB BK149 GW149 GE149 NB147_149 NB149_147 NB148_149 NB149_148; clear hb hbox hg; have hnb5 := NB147_148.1; have hnc5 := NB148_147.1; have hnb6 := NB147_149.1; have hnc6 := NB149_147.1; obtain ⟨hcz7_0, hcz7_1, hcz7_2, hfz7_0, hfz7_1, hfz7_2⟩ := cz3 BK147.1; have hnb8 := NB149_148.1; have hnc8 := NB148_149.1; obtain ⟨hcz9_0, hcz9_1, hcz9_2, hfz9_0, hfz9_1, hfz9_2⟩ := cz3 BK149.1; obtain ⟨hcz10_0, hcz10_1, hcz10_2, hfz10_0, hfz10_1, hfz10_2⟩ := cz3 BK148.1))
 refine bodyPost_ret (results_cell_row rfl _ _ gb148 63 #[.int .i64 a0_0, .int .i64 a0_1, .int .i64 a0_2] (0, 0) _ rfl (PF1 NB148_149.1 BK148.1) Try.underlying63 rfl (by kernel_rfl)) rfl ?_
 exact ⟨RF, BL HB.1⟩

/-! ### laws_toNodeS: function 46 -/
open Kd
def laws_toNodeS.l0 : Nat -> List (S86) -> List (S63) -> Int -> Option ((List (S63)))
 | 0, _, _, _ => none
 | k + 1, x0, x3, x4 => if x4 < (x0.length : Int) then (if 0 <= x4 then ((laws_toNode.f ((rd_T86 x0 x4).f0) ((rd_T86 x0 x4).f1) ((rd_T86 x0 x4).f2)).bind fun bt154 => (if x4 < (x3.length : Int) then (laws_toNodeS.l0 k x0 (x3.set (x4 : Int).toNat (⟨bt154.1, bt154.2.1, bt154.2.2⟩ : S63)) (wrap64 (x4 + 1))) else (none))) else (none)) else (some x3)
def laws_toNodeS.f (k : Nat) (l0 : List (S86)) : Option ((List (S63))) := if 0 <= (l0.length : Int) then (if ((l0.length : Int) : Int).toNat <= 11728124029610 then (laws_toNodeS.l0 k l0 (List.replicate ((l0.length : Int) : Int).toNat z63) 0) else (none)) else (none)
theorem laws_toNodeS.mono_l : ∀ k, (∀ y0 y1 y2, LeO (laws_toNodeS.l0 k y0 y1 y2) (laws_toNodeS.l0 (k + 1) y0 y1 y2))
 | 0 => fun _ _ _ r h => by simp [laws_toNodeS.l0] at h
 | k + 1 => by
  have ih0 := laws_toNodeS.mono_l k
  intros
  first | unfold laws_toNodeS.l0
  exact LM1 ih0
theorem laws_toNodeS.mono : ∀ a0 k, LeO (laws_toNodeS.f k a0) (laws_toNodeS.f (k + 1) a0) := by
 intro a0 k
 have ih0 := laws_toNodeS.mono_l k
 unfold laws_toNodeS.f
 exact LM1 ih0
theorem laws_toNodeS.calls (k : Nat) (A0 : Option Addr) (c0 : Nat) (l0 : List (S86)) (r : List (S63)) (w : World) (hr0 : Kd.C k86 w A0 l0.length l0) (hc0 : l0.length <= c0) (h : laws_toNodeS.f k l0 = some r) :
 Calls Try.prog 46 #[.slice A0 l0.length c0] w fun e w' => ∃ v0_ : Value, e = .returned (v0_) /\ Kd.R k63 63 w' w.heap.size (fun _ => True) v0_ r /\ Below w.heap.size w w' := by
 have hu86 := Try.underlying86
 have hu63 := Try.underlying63
 have HR0 := Aside0.mk hr0
 have HC0 := Aside0.mk hc0
 clear hr0 hc0
 have HB := Aside0.mk (Below.refl w.heap.size w)
 have H := h
 clear h
 unfold laws_toNodeS.f at H
 replace H := ifP H; obtain ⟨c2, H⟩ := H
 have c2b0 := eq_true c2
 have c2b1 := decide_eq_true c2
 clear c2
 replace H := ifP H; obtain ⟨c3, H⟩ := H
 have c3b0 := eq_true c3
 have c3b1 := decide_eq_true c3
 clear c3
 generalize hy150 : ((List.replicate ((l0.length : Int) : Int).toNat z63) : List (S63)) = y150 at H
 have Ny150 := Aside0.mk hy150.symm; clear hy150
 have H' := Aside0.mk H
 clear H
 go_enter Try.func46, Try.ntmps46
 go_wp2_with (first | ((with_reducible refine gate_dst (N := 7) rfl ?_); refine R_make k63 _ 63 rfl (N := 7) rfl 27 _ _ rfl (l0.length : Int) rfl rfl Try.underlying27 (.agg #[(.int .i64 0), (.int .i64 0), (.int .i64 0)]) 24 info63 rfl (by decide) (by omega) z63 (ok := fun _ => True) (okp := fun _ => True) (k63_mkM _ _ _ z63 ) (fun _ hk => hk) trivial (OD) (Nat.le_trans (Nat.mul_le_mul_right _ (OD : (l0.length : Int).toNat <= 11728124029610)) (by omega)) (Below.refl _ _) (Nat.le_refl _) ?_; intro v151 w4 ho5 hb hg_ hnew_; clear hg_ hnew_; (first | rw [<- Ny150.1] at ho5 | (simp only [Int.reduceToNat] at ho5; rw [<- Ny150.1] at ho5)); refine E2 (R_lower ho5 (bZ HB.1)) (bS HB.1 hb) ?_; clear HB; intro HO152 HB; clear hb ho5))
 go_loopg [4] k (fun kq v4 w' => ∃ (x3_1 : List (S63)) (x4_1 : Int), v4 = .int .i64 x4_1 /\ Aside0 (laws_toNodeS.l0 kq l0 x3_1 x4_1 = some r) /\ Aside0 (kq <= k) /\ Aside0 (Kd.R k63 63 w' w.heap.size (fun _ => True) v151 x3_1) /\ Aside0 (Below w.heap.size w w'))
 case atStart => exact ⟨(y150), (0), RG, H', ⟨Nat.le_refl _⟩, ⟨PR HO152.1⟩, ⟨BL HB.1⟩⟩
 clear H'
 clear c2b0 c2b1 c3b0 c3b1
 obtain ⟨x3_1, x4_1, rfl, HA, HK1, HO_3, HB⟩ := hrel
 cases gk with
 | zero => exact absurd HA.1 (by simp [laws_toNodeS.l0])
 | succ k1 => ?_
 have H := HA.1
 clear HA
 simp only [laws_toNodeS.l0] at H
 replace H := ifB H; rcases H with ⟨c6b0, H⟩ | ⟨c6b0, H⟩
 · replace H := ifN H; obtain ⟨c7b0, H⟩ := H
   replace H := bindA H; obtain ⟨⟨t154, t155, t156⟩, A8, H⟩ := H
   dsimp only at H
   replace H := ifN H; obtain ⟨c9b0, H⟩ := H
   generalize hy157 : ((x3_1.set (x4_1 : Int).toNat (⟨t154, t155, t156⟩ : S63)) : List (S63)) = y157 at H
   have Ny157 := Aside0.mk hy157.symm; clear hy157
   have H' := Aside0.mk H
   clear H
   have p153 : 0 <= (x4_1 : Int) := OD
   have q153 : x4_1 < (l0.length : Int) := OD
   obtain ⟨ad153, e153, hx153_0, hx153_1, hx153_2⟩ := at_T86 HR0.1 x4_1 p153 q153
   cases e153
   replace hx153_0 := (HB.1.cell (World.block_lt_of_cell? w _ hx153_0)).trans hx153_0
   replace hx153_1 := (HB.1.cell (World.block_lt_of_cell? w _ hx153_1)).trans hx153_1
   replace hx153_2 := (HB.1.cell (World.block_lt_of_cell? w _ hx153_2)).trans hx153_2
   replace p153 := eq_true p153
   replace q153 := eq_true q153
   go_wp2_with (first | ((with_reducible refine gate_callee (f := 75) rfl ?_); refine goesM (N := (some 20)) #[.agg #[.int .i64 ((rd_T86 l0 x4_1).f0), .int .i64 ((rd_T86 l0 x4_1).f1), .int .i64 ((rd_T86 l0 x4_1).f2)]] Try.func75 ?_; (with_reducible refine (laws_toNode.calls ((rd_T86 l0 x4_1).f0) ((rd_T86 l0 x4_1).f1) ((rd_T86 l0 x4_1).f2) t154 t155 t156 _ A8.1).mono ?_); rintro e w11 ⟨rfl, hb⟩; refine ⟨_, rfl, ?_⟩; refine E2 (rB HO_3.1 hb) (bS HB.1 hb) ?_; clear HO_3 HB; intro HO_3 HB; (try clear hb); have p10 : 0 <= (x4_1 : Int) := OD; have q10 : (x4_1 : Int) < ((x3_1.length : Int) : Int) := OD; obtain ⟨go10, co10, eo10, gb10, gl10, cl10, HG10⟩ := R_form HO_3.1 (by omega); (first | cases eo10 | (injection eo10 with ea_ en_ ec_; (first | subst ea_ | (injection ea_ with ea_; subst ea_)); subst ec_; clear en_)); have GB10 := Aside0.mk gb10; have GG10 := Aside0.mk HG10; clear gb10 gl10 HG10; obtain ⟨ce10, hcl10, hM10, hcc10, hfr10⟩ := R_elem HO_3.1 z63 (x4_1 : Int) p10 q10; obtain rfl := k63_openM hM10; have hx10_0 : w11.cell? ⟨go10, (x4_1 : Int).toNat * 3, none⟩ = some (.int .i64 ((rd_T63 x3_1 x4_1).f0)) := hcc10 0 _ rfl; have hx10_1 : w11.cell? ⟨go10, (x4_1 : Int).toNat * 3 + 1, none⟩ = some (.int .i64 ((rd_T63 x3_1 x4_1).f1)) := hcc10 1 _ rfl; have hx10_2 : w11.cell? ⟨go10, (x4_1 : Int).toNat * 3 + 2, none⟩ = some (.int .i64 ((rd_T63 x3_1 x4_1).f2)) := hcc10 2 _ rfl; have hf10_0 : w11.frozen? ⟨go10, (x4_1 : Int).toNat * 3, none⟩ = false := hfr10 0; have hf10_1 : w11.frozen? ⟨go10, (x4_1 : Int).toNat * 3 + 1, none⟩ = false := hfr10 1; have hf10_2 : w11.frozen? ⟨go10, (x4_1 : Int).toNat * 3 + 2, none⟩ = false := hfr10 2; (try clear hM10); clear hcl10 hcc10 hfr10; replace p10 := eq_true p10; replace q10 := eq_true q10; have HX12 := Aside0.mk (show Kd.R k63 63 w11 w.heap.size (fun _ => True) (.slice (some ⟨go10, 0, none⟩) x3_1.length co10) x3_1 from (PR HO_3.1)); obtain ⟨ce12, hcl12, hM12, hcc12, hfr12⟩ := R_elem HX12.1 z63 (x4_1 : Int) (OD) (by have h_ : (x4_1 : Int) < ((x3_1.length : Int) : Int) := OD; first | exact h_ | (have e_ := (R_reads' HO_3.1).1; omega) | simpa using h_); obtain rfl := k63_openM hM12; have HP12 := R_seg HX12.1 (x4_1 : Int) (OD) (by have h_ : (x4_1 : Int) < ((x3_1.length : Int) : Int) := OD; first | exact h_ | (have e_ := (R_reads' HO_3.1).1; omega) | simpa using h_) (seg := [.int .i64 t154, .int .i64 t155, .int .i64 t156]) (j := 0) hcl12 hcc12 (show 3 <= 3 from by decide) (x' := (⟨t154, t155, t156⟩ : S63)) (k63_mkM _ _ _ (⟨t154, t155, t156⟩ : S63) ) (fun _ hk => hk); have hx12_0 := hcc12 0 _ rfl; (try simp only [show (k63).sz = 3 from rfl, Nat.mul_one, Nat.add_zero] at hx12_0); have hf12_0 := hfr12 0; (try simp only [show (k63).sz = 3 from rfl, Nat.mul_one, Nat.add_zero] at hf12_0); have hx12_1 := hcc12 1 _ rfl; (try simp only [show (k63).sz = 3 from rfl, Nat.mul_one, Nat.add_zero] at hx12_1); have hf12_1 := hfr12 1; (try simp only [show (k63).sz = 3 from rfl, Nat.mul_one, Nat.add_zero] at hf12_1); have hx12_2 := hcc12 2 _ rfl; (try simp only [show (k63).sz = 3 from rfl, Nat.mul_one, Nat.add_zero] at hx12_2); have hf12_2 := hfr12 2; (try simp only [show (k63).sz = 3 from rfl, Nat.mul_one, Nat.add_zero] at hf12_2); clear hcl12 hcc12 hfr12) | ((with_reducible refine gate_store (t := 63) (p := 21) rfl ?_); refine storeE (t := 63) (p := 21) (w1 := (((w11.setCell ⟨go10, (x4_1 : Int).toNat * 3, none⟩ (.int .i64 t154)).setCell ⟨go10, (x4_1 : Int).toNat * 3 + 1, none⟩ (.int .i64 t155)).setCell ⟨go10, (x4_1 : Int).toNat * 3 + 2, none⟩ (.int .i64 t156))) ?_; intro w13 hw; have hg : w11.grownBy w13 (some go10) := (by rw [hw]; exact HP12.2); have hp_ : Kd.R k63 63 w13 w.heap.size (fun _ => True) (.slice (some ⟨go10, 0, none⟩) x3_1.length co10) y157 := (by rw [hw, Ny157.1]; exact HP12.1); clear HP12; refine E2 (hp_) ((by rw [hw]; exact below_set (below_set (below_set (HB.1) GB10.1) GB10.1) GB10.1 : Below w.heap.size w w13)) ?_; clear HO_3 HB; intro HO_3 HB; clear hg hw hp_))
   go_roundg k1
   case measure => have := HK1.1; omega
   case rel => exact ⟨(y157), (wrap64 (x4_1 + 1)), RG, H', ⟨by have := HK1.1; omega⟩, ⟨PR HO_3.1⟩, ⟨BL HB.1⟩⟩
 obtain rfl := Option.some.inj H
 go_wp2
 go_ret
 exact ⟨_, RF, RPE (HO_3.1), BL HB.1⟩
/-! ### laws_toDiagram: function 14 -/
open Kd
def laws_toDiagram.f (k : Nat) (a0_0 : Int) (l0_1 : List (S86)) (a0_2 : Int) : Option (Int × (List (S63)) × Int) := (laws_toNodeS.f k l0_1).bind fun t161 => (some (a0_0, t161, a0_2))
theorem laws_toDiagram.mono : ∀ a0 a1 a2 k, LeO (laws_toDiagram.f k a0 a1 a2) (laws_toDiagram.f (k + 1) a0 a1 a2) := by
 intro a0 a1 a2 k
 unfold laws_toDiagram.f
 repeat' first
  | (with_reducible exact laws_toNodeS.mono _ _)
  | (with_reducible exact LeO.refl _)
  | (with_reducible exact LeO.none _)
  | (with_reducible refine LeO.ite ?_ ?_)
  | (with_reducible refine LeO.bind ?_ (fun _ => ?_))
  | exact laws_toNodeS.mono _ _
  | exact LeO.none _
  | refine LeO.ite ?_ ?_
  | refine LeO.bind ?_ (fun _ => ?_)
theorem laws_toDiagram.calls (k : Nat) (a0_0 : Int) (A0_1 : Option Addr) (c0_1 : Nat) (l0_1 : List (S86)) (a0_2 : Int) (r1 : Int) (r2 : List (S63)) (r3 : Int) (w : World) (hr0_1 : Kd.C k86 w A0_1 l0_1.length l0_1) (hc0_1 : l0_1.length <= c0_1) (h : laws_toDiagram.f k a0_0 l0_1 a0_2 = some (r1, r2, r3)) :
 Calls Try.prog 14 #[.agg #[.int .i64 a0_0, .slice A0_1 l0_1.length c0_1, .int .i64 a0_2]] w fun e w' => ∃ v1_ : Value, e = .returned (.agg #[.int .i64 r1, v1_, .int .i64 r3]) /\ Kd.R k63 63 w' w.heap.size (fun _ => True) v1_ r2 /\ Below w.heap.size w w' := by
 have hu24 := Try.underlying24
 have hu29 := Try.underlying29
 have HR0_1 := Aside0.mk hr0_1
 have HC0_1 := Aside0.mk hc0_1
 clear hr0_1 hc0_1
 have HB := Aside0.mk (Below.refl w.heap.size w)
 have H := h
 clear h
 unfold laws_toDiagram.f at H
 replace H := bindA H; obtain ⟨t161, A2, H⟩ := H
 simp only [Option.some.injEq, Prod.mk.injEq] at H
 obtain ⟨rfl, rfl, rfl⟩ := H
 go_enter Try.func14, Try.ntmps14
 go_wp2_with (first | ((with_reducible refine gate_dst (N := 1) rfl ?_); refine boxE (cs := #[.int .i64 a0_0, .slice A0_1 l0_1.length c0_1, .int .i64 a0_2]) (t := 24) ?_; intro gb158 hg w3 hbox hb; refine E4b HB.1 hg hbox hb ?_; clear HB; intro HB BK158 GW158 GE158; clear hb hbox hg) | ((with_reducible refine gate_dst (N := 2) rfl ?_); refine boxE (cs := #[.int .i64 0, .slice none 0 0, .int .i64 0]) (t := 29) ?_; intro gb159 hg w4 hbox hb; refine E7 (bB BK158.1 hb) (bS HB.1 hb) (hbox) (gX HB.1 hg) (gX HB.1 hg) (nB BK158.1 hg) (nC BK158.1 hg) ?_; clear BK158 HB; intro BK158 HB BK159 GW159 GE159 NB158_159 NB159_158; clear hb hbox hg) | ((with_reducible refine gate_dst (N := 3) rfl ?_); refine boxE (cs := #[.int .i64 0, .slice none 0 0, .int .i64 0]) (t := 29) ?_; intro gb160 hg w5 hbox hb; refine E10 (bB BK158.1 hb) (bB BK159.1 hb) (bS HB.1 hb) (hbox) (gX HB.1 hg) (gX HB.1 hg) (nB BK158.1 hg) (nC BK158.1 hg) (nB BK159.1 hg) (nC BK159.1 hg) ?_; clear BK158 BK159 HB; intro BK158 BK159 HB BK160 GW160 GE160 NB158_160 NB160_158 NB159_160 NB160_159; clear hb hbox hg; have hnb6 := NB158_159.1; have hnc6 := NB159_158.1; have hnb7 := NB158_160.1; have hnc7 := NB160_158.1; obtain ⟨hcz8_0, hcz8_1, hcz8_2, hfz8_0, hfz8_1, hfz8_2⟩ := cz3 BK158.1; have hnb9 := NB160_159.1; have hnc9 := NB159_160.1; obtain ⟨hcz10_0, hcz10_1, hcz10_2, hfz10_0, hfz10_1, hfz10_2⟩ := cz3 BK160.1) | ((with_reducible refine gate_callee (f := 46) rfl ?_); refine goesM (N := (some 9)) #[.slice A0_1 l0_1.length c0_1] Try.func46 ?_; (with_reducible refine (laws_toNodeS.calls k _ _ l0_1 t161 _ ?side1 ?side2 A2.1).mono ?_); (case side1 => exact C_below HR0_1.1 (BL HB.1)); (case side2 => exact HC0_1.1); rintro e w11 ⟨v162, rfl, ho0, hb⟩; refine ⟨_, rfl, ?_⟩; refine E5 (R_lower ho0 (bZ HB.1)) (blk_below (g := gb158) (o := .cells #[.int .i64 a0_0, .slice A0_1 l0_1.length c0_1, .int .i64 a0_2] 24 (0, 0)) (PF1 NB158_160.1 BK158.1) hb) (blk_below (g := gb159) (o := .cells #[.int .i64 0, .slice none 0 0, .int .i64 0] 29 (0, 0)) (PF1 NB159_160.1 BK159.1) hb) (blk_below (g := gb160) (o := .cells #[.int .i64 a0_0, .slice none 0 0, .int .i64 0] 29 (0, 0)) (PF0 BK160.1) hb) (bS HB.1 hb) ?_; clear BK158 BK159 BK160 HB; intro HO163 BK158 BK159 BK160 HB; (try clear hb); (try clear ho0); obtain ⟨Ao12, co12, eo12⟩ := R_slice HO163.1; subst eo12; obtain ⟨hcz13_0, hcz13_1, hcz13_2, hfz13_0, hfz13_1, hfz13_2⟩ := cz3 BK160.1; obtain ⟨hcz14_0, hcz14_1, hcz14_2, hfz14_0, hfz14_1, hfz14_2⟩ := cz3 BK158.1; obtain ⟨hcz15_0, hcz15_1, hcz15_2, hfz15_0, hfz15_1, hfz15_2⟩ := cz3 BK159.1))
 refine bodyPost_ret (results_cell_row rfl _ _ gb159 29 #[.int .i64 a0_0, .slice Ao12 t161.length co12, .int .i64 a0_2] (0, 0) _ rfl (PF1 NB159_160.1 BK159.1) Try.underlying29 rfl (by kernel_rfl)) rfl ?_
 exact ⟨_, RF, by (with_reducible repeat (first | apply R_alloc | apply R_drewN | apply R_drew)); exact R_mono (RQ gb159 2 (RQ gb159 1 (RQ gb159 0 (R_far (p := ⟨gb160, 2, none⟩) (R_far (p := ⟨gb160, 1, none⟩) (R_types (R_types HO163.1 BK160.1 (by decide)) BK159.1 (by decide)) (fun _ hk => hk.1.2) (.slice Ao12 t161.length co12)) (fun _ hk => hk.1.2) (.int .i64 a0_2)) _) _) _) (fun _ hk => trivial), BL HB.1⟩

end Go.Proofs.Ytdkfgomjfigmbaa.P
