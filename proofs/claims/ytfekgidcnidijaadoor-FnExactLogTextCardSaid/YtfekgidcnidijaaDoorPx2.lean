-- PRINTED by print.py (a twelfth state) out of the translation. Not trusted: Lean checks it.
import Derived.Test.YtfekgidcnidijaaDoorPx0
import Derived.Test.YtfekgidcnidijaaDoorPx1
namespace Go.Proofs.YtfekgidcnidijaaDoor.P
open Go.RowKit Go.Proofs.YtfekgidcnidijaaDoorW.PrintWords Go.Proofs.YtfekgidcnidijaaDoorW.PrintLast Go.Proofs.YtfekgidcnidijaaDoorW.PrintMore
attribute [local go_sem] max2_int min2_int max_two min_two max_three min_three max_four min_four   -- for this text's walks alone
set_option linter.unusedVariables false
set_option linter.unusedSimpArgs false
set_option maxHeartbeats 8000000
set_option maxRecDepth 100000

/-! ### impl_IsLog: function 37 -/
open Kd
def impl_IsLog.l0 : Nat -> List (S66) -> Int -> Int -> Option (Bool)
 | 0, _, _, _ => none
 | k + 1, x9, x10, x11 => if x11 < x10 then (if 0 <= x11 then (if x11 < (x9.length : Int) then (if ((rd_T66 x9 x11).f0) < 0 then (some false) else (if ((rd_T66 x9 x11).f0) > 1 then (some false) else (if ((rd_T66 x9 x11).f1.f0) < 1 then (some false) else (if ((rd_T66 x9 x11).f1.f0) > 3 then (some false) else (if ((rd_T66 x9 x11).f1.f1) < 0 then (some false) else (if ((rd_T66 x9 x11).f1.f1) > 10 then (some false) else (if ((rd_T66 x9 x11).f1.f2) < (-1) then (some false) else (if ((rd_T66 x9 x11).f1.f2) > 9 then (some false) else (impl_IsLog.l0 k x9 x10 (wrap64 (x11 + 1))))))))))) else (none)) else (none)) else (some true)
def impl_IsLog.f (k : Nat) (l0 : List (S66)) : Option (Bool) := if (l0.length : Int) > 60 then (some false) else (impl_IsLog.l0 k l0 (l0.length : Int) 0)
theorem impl_IsLog.mono_l : ∀ k, (∀ y0 y1 y2, LeO (impl_IsLog.l0 k y0 y1 y2) (impl_IsLog.l0 (k + 1) y0 y1 y2))
 | 0 => fun _ _ _ r h => by simp [impl_IsLog.l0] at h
 | k + 1 => by
  have ih0 := impl_IsLog.mono_l k
  intros
  first | unfold impl_IsLog.l0
  exact LM1 ih0
theorem impl_IsLog.mono : ∀ a0 k, LeO (impl_IsLog.f k a0) (impl_IsLog.f (k + 1) a0) := by
 intro a0 k
 have ih0 := impl_IsLog.mono_l k
 unfold impl_IsLog.f
 exact LM1 ih0
theorem impl_IsLog.calls (k : Nat) (A0 : Option Addr) (c0 : Nat) (l0 : List (S66)) (r : Bool) (w : World) (hr0 : Kd.C k66 w A0 l0.length l0) (hc0 : l0.length <= c0) (h : impl_IsLog.f k l0 = some r) :
 Calls Tryd.prog 37 #[.slice A0 l0.length c0] w fun e w' => e = .returned (.bool r) /\ Below w.heap.size w w' := by
 have hu66 := Tryd.underlying66
 have hu64 := Tryd.underlying64
 have HR0 := Aside0.mk hr0
 have HC0 := Aside0.mk hc0
 clear hr0 hc0
 have HB := Aside0.mk (Below.refl w.heap.size w)
 have H := h
 clear h
 unfold impl_IsLog.f at H
 replace H := ifQ H; rcases H with ⟨c2, H⟩ | ⟨c2, H⟩
 · have c2b0 : decide (60 < (l0.length : Int)) = true := decide_eq_true c2
   have c2b1 : decide (60 < l0.length) = true := decide_eq_true (by omega)
   clear c2
   obtain rfl := Option.some.inj H
   go_enter Tryd.func37, Tryd.ntmps37
   go_wp2
   go_ret
   exact ⟨RF, BL HB.1⟩
 have c2b0 : decide (60 < (l0.length : Int)) = false := decide_eq_false c2
 have c2b1 : decide (60 < l0.length) = false := decide_eq_false (by omega)
 clear c2
 have H' := Aside0.mk H
 clear H
 go_enter Tryd.func37, Tryd.ntmps37
 go_wp2
 go_loopg [11] k (fun kq v11 w' => ∃ (x11_1 : Int), v11 = .int .i64 x11_1 /\ Aside0 (impl_IsLog.l0 kq l0 (l0.length : Int) x11_1 = some r) /\ Aside0 (kq <= k) /\ Aside0 (Below w.heap.size w w'))
 case atStart => exact ⟨(0), RG, H', ⟨Nat.le_refl _⟩, ⟨BL HB.1⟩⟩
 clear H'
 clear c2b0 c2b1
 obtain ⟨x11_1, rfl, HA, HK1, HB⟩ := hrel
 cases gk with
 | zero => exact absurd HA.1 (by simp [impl_IsLog.l0])
 | succ k1 => ?_
 have H := HA.1
 clear HA
 simp only [impl_IsLog.l0] at H
 replace H := ifB H; rcases H with ⟨c3b0, H⟩ | ⟨c3b0, H⟩
 · replace H := ifN H; obtain ⟨c4b0, H⟩ := H
   replace H := ifN H; obtain ⟨c5b0, H⟩ := H
   replace H := ifB H; rcases H with ⟨c6b0, H⟩ | ⟨c6b0, H⟩
   · obtain rfl := Option.some.inj H
     have p154 : 0 <= (x11_1 : Int) := OD
     have q154 : x11_1 < (l0.length : Int) := OD
     obtain ⟨ad154, e154, hx154_0, hx154_1, hx154_2, hx154_3⟩ := at_T66 HR0.1 x11_1 p154 q154
     cases e154
     replace hx154_0 := (HB.1.cell (World.block_lt_of_cell? w _ hx154_0)).trans hx154_0
     replace hx154_1 := (HB.1.cell (World.block_lt_of_cell? w _ hx154_1)).trans hx154_1
     replace hx154_2 := (HB.1.cell (World.block_lt_of_cell? w _ hx154_2)).trans hx154_2
     replace hx154_3 := (HB.1.cell (World.block_lt_of_cell? w _ hx154_3)).trans hx154_3
     replace p154 := eq_true p154
     replace q154 := eq_true q154
     go_wp2_with (first | ((with_reducible refine gate_dst (N := 4) rfl ?_); refine boxE (cs := #[.int .i64 0, .int .i64 0, .int .i64 0, .int .i64 0]) (t := 66) ?_; intro gb155 hg w7 hbox hb; refine E4b HB.1 hg hbox hb ?_; clear HB; intro HB BK155 GW155 GE155; clear hb hbox hg; obtain ⟨hcz8_0, hcz8_1, hcz8_2, hcz8_3, hfz8_0, hfz8_1, hfz8_2, hfz8_3⟩ := cz4 BK155.1) | ((with_reducible refine gate_dst (N := 5) rfl ?_); refine boxE (cs := #[.int .i64 0, .int .i64 0, .int .i64 0]) (t := 64) ?_; intro gb156 hg w9 hbox hb; refine E7 (blk_below (g := gb155) (o := .cells #[.int .i64 ((rd_T66 l0 x11_1).f0), .int .i64 ((rd_T66 l0 x11_1).f1.f0), .int .i64 ((rd_T66 l0 x11_1).f1.f1), .int .i64 ((rd_T66 l0 x11_1).f1.f2)] 66 (0, 0)) (PF0 BK155.1) hb) (bS HB.1 hb) (hbox) (gX HB.1 hg) (gX HB.1 hg) ((by rw [hg]; exact Nat.ne_of_lt (blk_lt (g := gb155) (o := .cells #[.int .i64 ((rd_T66 l0 x11_1).f0), .int .i64 ((rd_T66 l0 x11_1).f1.f0), .int .i64 ((rd_T66 l0 x11_1).f1.f1), .int .i64 ((rd_T66 l0 x11_1).f1.f2)] 66 (0, 0)) (PF0 BK155.1)) : gb155 ≠ gb156)) ((by rw [hg]; exact Nat.ne_of_gt (blk_lt (g := gb155) (o := .cells #[.int .i64 ((rd_T66 l0 x11_1).f0), .int .i64 ((rd_T66 l0 x11_1).f1.f0), .int .i64 ((rd_T66 l0 x11_1).f1.f1), .int .i64 ((rd_T66 l0 x11_1).f1.f2)] 66 (0, 0)) (PF0 BK155.1)) : gb156 ≠ gb155)) ?_; clear BK155 HB; intro BK155 HB BK156 GW156 GE156 NB155_156 NB156_155; clear hb hbox hg; have hnb10 := NB156_155.1; have hnc10 := NB155_156.1; obtain ⟨hcz11_0, hcz11_1, hcz11_2, hfz11_0, hfz11_1, hfz11_2⟩ := cz3 BK156.1; obtain ⟨hcz12_0, hcz12_1, hcz12_2, hcz12_3, hfz12_0, hfz12_1, hfz12_2, hfz12_3⟩ := cz4 BK155.1))
     go_ret
     exact ⟨RF, BL HB.1⟩
   replace H := ifQ H; rcases H with ⟨c13, H⟩ | ⟨c13, H⟩
   · have c13b0 : decide (1 < ((rd_T66 l0 x11_1).f0)) = true := decide_eq_true c13
     clear c13
     obtain rfl := Option.some.inj H
     have p154 : 0 <= (x11_1 : Int) := OD
     have q154 : x11_1 < (l0.length : Int) := OD
     obtain ⟨ad154, e154, hx154_0, hx154_1, hx154_2, hx154_3⟩ := at_T66 HR0.1 x11_1 p154 q154
     cases e154
     replace hx154_0 := (HB.1.cell (World.block_lt_of_cell? w _ hx154_0)).trans hx154_0
     replace hx154_1 := (HB.1.cell (World.block_lt_of_cell? w _ hx154_1)).trans hx154_1
     replace hx154_2 := (HB.1.cell (World.block_lt_of_cell? w _ hx154_2)).trans hx154_2
     replace hx154_3 := (HB.1.cell (World.block_lt_of_cell? w _ hx154_3)).trans hx154_3
     replace p154 := eq_true p154
     replace q154 := eq_true q154
     go_wp2_with (first | ((with_reducible refine gate_dst (N := 4) rfl ?_); refine boxE (cs := #[.int .i64 0, .int .i64 0, .int .i64 0, .int .i64 0]) (t := 66) ?_; intro gb155 hg w14 hbox hb; refine E4b HB.1 hg hbox hb ?_; clear HB; intro HB BK155 GW155 GE155; clear hb hbox hg; obtain ⟨hcz15_0, hcz15_1, hcz15_2, hcz15_3, hfz15_0, hfz15_1, hfz15_2, hfz15_3⟩ := cz4 BK155.1) | ((with_reducible refine gate_dst (N := 5) rfl ?_); refine boxE (cs := #[.int .i64 0, .int .i64 0, .int .i64 0]) (t := 64) ?_; intro gb156 hg w16 hbox hb; refine E7 (blk_below (g := gb155) (o := .cells #[.int .i64 ((rd_T66 l0 x11_1).f0), .int .i64 ((rd_T66 l0 x11_1).f1.f0), .int .i64 ((rd_T66 l0 x11_1).f1.f1), .int .i64 ((rd_T66 l0 x11_1).f1.f2)] 66 (0, 0)) (PF0 BK155.1) hb) (bS HB.1 hb) (hbox) (gX HB.1 hg) (gX HB.1 hg) ((by rw [hg]; exact Nat.ne_of_lt (blk_lt (g := gb155) (o := .cells #[.int .i64 ((rd_T66 l0 x11_1).f0), .int .i64 ((rd_T66 l0 x11_1).f1.f0), .int .i64 ((rd_T66 l0 x11_1).f1.f1), .int .i64 ((rd_T66 l0 x11_1).f1.f2)] 66 (0, 0)) (PF0 BK155.1)) : gb155 ≠ gb156)) ((by rw [hg]; exact Nat.ne_of_gt (blk_lt (g := gb155) (o := .cells #[.int .i64 ((rd_T66 l0 x11_1).f0), .int .i64 ((rd_T66 l0 x11_1).f1.f0), .int .i64 ((rd_T66 l0 x11_1).f1.f1), .int .i64 ((rd_T66 l0 x11_1).f1.f2)] 66 (0, 0)) (PF0 BK155.1)) : gb156 ≠ gb155)) ?_; clear BK155 HB; intro BK155 HB BK156 GW156 GE156 NB155_156 NB156_155; clear hb hbox hg; have hnb17 := NB156_155.1; have hnc17 := NB155_156.1; obtain ⟨hcz18_0, hcz18_1, hcz18_2, hfz18_0, hfz18_1, hfz18_2⟩ := cz3 BK156.1; obtain ⟨hcz19_0, hcz19_1, hcz19_2, hcz19_3, hfz19_0, hfz19_1, hfz19_2, hfz19_3⟩ := cz4 BK155.1))
     go_ret
     exact ⟨RF, BL HB.1⟩
   have c13b0 : decide (1 < ((rd_T66 l0 x11_1).f0)) = false := decide_eq_false c13
   clear c13
   replace H := ifB H; rcases H with ⟨c20b0, H⟩ | ⟨c20b0, H⟩
   · obtain rfl := Option.some.inj H
     have p154 : 0 <= (x11_1 : Int) := OD
     have q154 : x11_1 < (l0.length : Int) := OD
     obtain ⟨ad154, e154, hx154_0, hx154_1, hx154_2, hx154_3⟩ := at_T66 HR0.1 x11_1 p154 q154
     cases e154
     replace hx154_0 := (HB.1.cell (World.block_lt_of_cell? w _ hx154_0)).trans hx154_0
     replace hx154_1 := (HB.1.cell (World.block_lt_of_cell? w _ hx154_1)).trans hx154_1
     replace hx154_2 := (HB.1.cell (World.block_lt_of_cell? w _ hx154_2)).trans hx154_2
     replace hx154_3 := (HB.1.cell (World.block_lt_of_cell? w _ hx154_3)).trans hx154_3
     replace p154 := eq_true p154
     replace q154 := eq_true q154
     go_wp2_with (first | ((with_reducible refine gate_dst (N := 4) rfl ?_); refine boxE (cs := #[.int .i64 0, .int .i64 0, .int .i64 0, .int .i64 0]) (t := 66) ?_; intro gb155 hg w21 hbox hb; refine E4b HB.1 hg hbox hb ?_; clear HB; intro HB BK155 GW155 GE155; clear hb hbox hg; obtain ⟨hcz22_0, hcz22_1, hcz22_2, hcz22_3, hfz22_0, hfz22_1, hfz22_2, hfz22_3⟩ := cz4 BK155.1) | ((with_reducible refine gate_dst (N := 5) rfl ?_); refine boxE (cs := #[.int .i64 0, .int .i64 0, .int .i64 0]) (t := 64) ?_; intro gb156 hg w23 hbox hb; refine E7 (blk_below (g := gb155) (o := .cells #[.int .i64 ((rd_T66 l0 x11_1).f0), .int .i64 ((rd_T66 l0 x11_1).f1.f0), .int .i64 ((rd_T66 l0 x11_1).f1.f1), .int .i64 ((rd_T66 l0 x11_1).f1.f2)] 66 (0, 0)) (PF0 BK155.1) hb) (bS HB.1 hb) (hbox) (gX HB.1 hg) (gX HB.1 hg) ((by rw [hg]; exact Nat.ne_of_lt (blk_lt (g := gb155) (o := .cells #[.int .i64 ((rd_T66 l0 x11_1).f0), .int .i64 ((rd_T66 l0 x11_1).f1.f0), .int .i64 ((rd_T66 l0 x11_1).f1.f1), .int .i64 ((rd_T66 l0 x11_1).f1.f2)] 66 (0, 0)) (PF0 BK155.1)) : gb155 ≠ gb156)) ((by rw [hg]; exact Nat.ne_of_gt (blk_lt (g := gb155) (o := .cells #[.int .i64 ((rd_T66 l0 x11_1).f0), .int .i64 ((rd_T66 l0 x11_1).f1.f0), .int .i64 ((rd_T66 l0 x11_1).f1.f1), .int .i64 ((rd_T66 l0 x11_1).f1.f2)] 66 (0, 0)) (PF0 BK155.1)) : gb156 ≠ gb155)) ?_; clear BK155 HB; intro BK155 HB BK156 GW156 GE156 NB155_156 NB156_155; clear hb hbox hg; have hnb24 := NB156_155.1; have hnc24 := NB155_156.1; obtain ⟨hcz25_0, hcz25_1, hcz25_2, hfz25_0, hfz25_1, hfz25_2⟩ := cz3 BK156.1; obtain ⟨hcz26_0, hcz26_1, hcz26_2, hcz26_3, hfz26_0, hfz26_1, hfz26_2, hfz26_3⟩ := cz4 BK155.1))
     go_ret
     exact ⟨RF, BL HB.1⟩
   replace H := ifQ H; rcases H with ⟨c27, H⟩ | ⟨c27, H⟩
   · have c27b0 : decide (3 < ((rd_T66 l0 x11_1).f1.f0)) = true := decide_eq_true c27
     clear c27
     obtain rfl := Option.some.inj H
     have p154 : 0 <= (x11_1 : Int) := OD
     have q154 : x11_1 < (l0.length : Int) := OD
     obtain ⟨ad154, e154, hx154_0, hx154_1, hx154_2, hx154_3⟩ := at_T66 HR0.1 x11_1 p154 q154
     cases e154
     replace hx154_0 := (HB.1.cell (World.block_lt_of_cell? w _ hx154_0)).trans hx154_0
     replace hx154_1 := (HB.1.cell (World.block_lt_of_cell? w _ hx154_1)).trans hx154_1
     replace hx154_2 := (HB.1.cell (World.block_lt_of_cell? w _ hx154_2)).trans hx154_2
     replace hx154_3 := (HB.1.cell (World.block_lt_of_cell? w _ hx154_3)).trans hx154_3
     replace p154 := eq_true p154
     replace q154 := eq_true q154
     go_wp2_with (first | ((with_reducible refine gate_dst (N := 4) rfl ?_); refine boxE (cs := #[.int .i64 0, .int .i64 0, .int .i64 0, .int .i64 0]) (t := 66) ?_; intro gb155 hg w28 hbox hb; refine E4b HB.1 hg hbox hb ?_; clear HB; intro HB BK155 GW155 GE155; clear hb hbox hg; obtain ⟨hcz29_0, hcz29_1, hcz29_2, hcz29_3, hfz29_0, hfz29_1, hfz29_2, hfz29_3⟩ := cz4 BK155.1) | ((with_reducible refine gate_dst (N := 5) rfl ?_); refine boxE (cs := #[.int .i64 0, .int .i64 0, .int .i64 0]) (t := 64) ?_; intro gb156 hg w30 hbox hb; refine E7 (blk_below (g := gb155) (o := .cells #[.int .i64 ((rd_T66 l0 x11_1).f0), .int .i64 ((rd_T66 l0 x11_1).f1.f0), .int .i64 ((rd_T66 l0 x11_1).f1.f1), .int .i64 ((rd_T66 l0 x11_1).f1.f2)] 66 (0, 0)) (PF0 BK155.1) hb) (bS HB.1 hb) (hbox) (gX HB.1 hg) (gX HB.1 hg) ((by rw [hg]; exact Nat.ne_of_lt (blk_lt (g := gb155) (o := .cells #[.int .i64 ((rd_T66 l0 x11_1).f0), .int .i64 ((rd_T66 l0 x11_1).f1.f0), .int .i64 ((rd_T66 l0 x11_1).f1.f1), .int .i64 ((rd_T66 l0 x11_1).f1.f2)] 66 (0, 0)) (PF0 BK155.1)) : gb155 ≠ gb156)) ((by rw [hg]; exact Nat.ne_of_gt (blk_lt (g := gb155) (o := .cells #[.int .i64 ((rd_T66 l0 x11_1).f0), .int .i64 ((rd_T66 l0 x11_1).f1.f0), .int .i64 ((rd_T66 l0 x11_1).f1.f1), .int .i64 ((rd_T66 l0 x11_1).f1.f2)] 66 (0, 0)) (PF0 BK155.1)) : gb156 ≠ gb155)) ?_; clear BK155 HB; intro BK155 HB BK156 GW156 GE156 NB155_156 NB156_155; clear hb hbox hg; have hnb31 := NB156_155.1; have hnc31 := NB155_156.1; obtain ⟨hcz32_0, hcz32_1, hcz32_2, hfz32_0, hfz32_1, hfz32_2⟩ := cz3 BK156.1; obtain ⟨hcz33_0, hcz33_1, hcz33_2, hcz33_3, hfz33_0, hfz33_1, hfz33_2, hfz33_3⟩ := cz4 BK155.1))
     go_ret
     exact ⟨RF, BL HB.1⟩
   have c27b0 : decide (3 < ((rd_T66 l0 x11_1).f1.f0)) = false := decide_eq_false c27
   clear c27
   replace H := ifB H; rcases H with ⟨c34b0, H⟩ | ⟨c34b0, H⟩
   · obtain rfl := Option.some.inj H
     have p154 : 0 <= (x11_1 : Int) := OD
     have q154 : x11_1 < (l0.length : Int) := OD
     obtain ⟨ad154, e154, hx154_0, hx154_1, hx154_2, hx154_3⟩ := at_T66 HR0.1 x11_1 p154 q154
     cases e154
     replace hx154_0 := (HB.1.cell (World.block_lt_of_cell? w _ hx154_0)).trans hx154_0
     replace hx154_1 := (HB.1.cell (World.block_lt_of_cell? w _ hx154_1)).trans hx154_1
     replace hx154_2 := (HB.1.cell (World.block_lt_of_cell? w _ hx154_2)).trans hx154_2
     replace hx154_3 := (HB.1.cell (World.block_lt_of_cell? w _ hx154_3)).trans hx154_3
     replace p154 := eq_true p154
     replace q154 := eq_true q154
     go_wp2_with (first | ((with_reducible refine gate_dst (N := 4) rfl ?_); refine boxE (cs := #[.int .i64 0, .int .i64 0, .int .i64 0, .int .i64 0]) (t := 66) ?_; intro gb155 hg w35 hbox hb; refine E4b HB.1 hg hbox hb ?_; clear HB; intro HB BK155 GW155 GE155; clear hb hbox hg; obtain ⟨hcz36_0, hcz36_1, hcz36_2, hcz36_3, hfz36_0, hfz36_1, hfz36_2, hfz36_3⟩ := cz4 BK155.1) | ((with_reducible refine gate_dst (N := 5) rfl ?_); refine boxE (cs := #[.int .i64 0, .int .i64 0, .int .i64 0]) (t := 64) ?_; intro gb156 hg w37 hbox hb; refine E7 (blk_below (g := gb155) (o := .cells #[.int .i64 ((rd_T66 l0 x11_1).f0), .int .i64 ((rd_T66 l0 x11_1).f1.f0), .int .i64 ((rd_T66 l0 x11_1).f1.f1), .int .i64 ((rd_T66 l0 x11_1).f1.f2)] 66 (0, 0)) (PF0 BK155.1) hb) (bS HB.1 hb) (hbox) (gX HB.1 hg) (gX HB.1 hg) ((by rw [hg]; exact Nat.ne_of_lt (blk_lt (g := gb155) (o := .cells #[.int .i64 ((rd_T66 l0 x11_1).f0), .int .i64 ((rd_T66 l0 x11_1).f1.f0), .int .i64 ((rd_T66 l0 x11_1).f1.f1), .int .i64 ((rd_T66 l0 x11_1).f1.f2)] 66 (0, 0)) (PF0 BK155.1)) : gb155 ≠ gb156)) ((by rw [hg]; exact Nat.ne_of_gt (blk_lt (g := gb155) (o := .cells #[.int .i64 ((rd_T66 l0 x11_1).f0), .int .i64 ((rd_T66 l0 x11_1).f1.f0), .int .i64 ((rd_T66 l0 x11_1).f1.f1), .int .i64 ((rd_T66 l0 x11_1).f1.f2)] 66 (0, 0)) (PF0 BK155.1)) : gb156 ≠ gb155)) ?_; clear BK155 HB; intro BK155 HB BK156 GW156 GE156 NB155_156 NB156_155; clear hb hbox hg; have hnb38 := NB156_155.1; have hnc38 := NB155_156.1; obtain ⟨hcz39_0, hcz39_1, hcz39_2, hfz39_0, hfz39_1, hfz39_2⟩ := cz3 BK156.1; obtain ⟨hcz40_0, hcz40_1, hcz40_2, hcz40_3, hfz40_0, hfz40_1, hfz40_2, hfz40_3⟩ := cz4 BK155.1))
     go_ret
     exact ⟨RF, BL HB.1⟩
   replace H := ifQ H; rcases H with ⟨c41, H⟩ | ⟨c41, H⟩
   · have c41b0 : decide (10 < ((rd_T66 l0 x11_1).f1.f1)) = true := decide_eq_true c41
     clear c41
     obtain rfl := Option.some.inj H
     have p154 : 0 <= (x11_1 : Int) := OD
     have q154 : x11_1 < (l0.length : Int) := OD
     obtain ⟨ad154, e154, hx154_0, hx154_1, hx154_2, hx154_3⟩ := at_T66 HR0.1 x11_1 p154 q154
     cases e154
     replace hx154_0 := (HB.1.cell (World.block_lt_of_cell? w _ hx154_0)).trans hx154_0
     replace hx154_1 := (HB.1.cell (World.block_lt_of_cell? w _ hx154_1)).trans hx154_1
     replace hx154_2 := (HB.1.cell (World.block_lt_of_cell? w _ hx154_2)).trans hx154_2
     replace hx154_3 := (HB.1.cell (World.block_lt_of_cell? w _ hx154_3)).trans hx154_3
     replace p154 := eq_true p154
     replace q154 := eq_true q154
     go_wp2_with (first | ((with_reducible refine gate_dst (N := 4) rfl ?_); refine boxE (cs := #[.int .i64 0, .int .i64 0, .int .i64 0, .int .i64 0]) (t := 66) ?_; intro gb155 hg w42 hbox hb; refine E4b HB.1 hg hbox hb ?_; clear HB; intro HB BK155 GW155 GE155; clear hb hbox hg; obtain ⟨hcz43_0, hcz43_1, hcz43_2, hcz43_3, hfz43_0, hfz43_1, hfz43_2, hfz43_3⟩ := cz4 BK155.1) | ((with_reducible refine gate_dst (N := 5) rfl ?_); refine boxE (cs := #[.int .i64 0, .int .i64 0, .int .i64 0]) (t := 64) ?_; intro gb156 hg w44 hbox hb; refine E7 (blk_below (g := gb155) (o := .cells #[.int .i64 ((rd_T66 l0 x11_1).f0), .int .i64 ((rd_T66 l0 x11_1).f1.f0), .int .i64 ((rd_T66 l0 x11_1).f1.f1), .int .i64 ((rd_T66 l0 x11_1).f1.f2)] 66 (0, 0)) (PF0 BK155.1) hb) (bS HB.1 hb) (hbox) (gX HB.1 hg) (gX HB.1 hg) ((by rw [hg]; exact Nat.ne_of_lt (blk_lt (g := gb155) (o := .cells #[.int .i64 ((rd_T66 l0 x11_1).f0), .int .i64 ((rd_T66 l0 x11_1).f1.f0), .int .i64 ((rd_T66 l0 x11_1).f1.f1), .int .i64 ((rd_T66 l0 x11_1).f1.f2)] 66 (0, 0)) (PF0 BK155.1)) : gb155 ≠ gb156)) ((by rw [hg]; exact Nat.ne_of_gt (blk_lt (g := gb155) (o := .cells #[.int .i64 ((rd_T66 l0 x11_1).f0), .int .i64 ((rd_T66 l0 x11_1).f1.f0), .int .i64 ((rd_T66 l0 x11_1).f1.f1), .int .i64 ((rd_T66 l0 x11_1).f1.f2)] 66 (0, 0)) (PF0 BK155.1)) : gb156 ≠ gb155)) ?_; clear BK155 HB; intro BK155 HB BK156 GW156 GE156 NB155_156 NB156_155; clear hb hbox hg; have hnb45 := NB156_155.1; have hnc45 := NB155_156.1; obtain ⟨hcz46_0, hcz46_1, hcz46_2, hfz46_0, hfz46_1, hfz46_2⟩ := cz3 BK156.1; obtain ⟨hcz47_0, hcz47_1, hcz47_2, hcz47_3, hfz47_0, hfz47_1, hfz47_2, hfz47_3⟩ := cz4 BK155.1))
     go_ret
     exact ⟨RF, BL HB.1⟩
   have c41b0 : decide (10 < ((rd_T66 l0 x11_1).f1.f1)) = false := decide_eq_false c41
   clear c41
   replace H := ifB H; rcases H with ⟨c48b0, H⟩ | ⟨c48b0, H⟩
   · obtain rfl := Option.some.inj H
     have p154 : 0 <= (x11_1 : Int) := OD
     have q154 : x11_1 < (l0.length : Int) := OD
     obtain ⟨ad154, e154, hx154_0, hx154_1, hx154_2, hx154_3⟩ := at_T66 HR0.1 x11_1 p154 q154
     cases e154
     replace hx154_0 := (HB.1.cell (World.block_lt_of_cell? w _ hx154_0)).trans hx154_0
     replace hx154_1 := (HB.1.cell (World.block_lt_of_cell? w _ hx154_1)).trans hx154_1
     replace hx154_2 := (HB.1.cell (World.block_lt_of_cell? w _ hx154_2)).trans hx154_2
     replace hx154_3 := (HB.1.cell (World.block_lt_of_cell? w _ hx154_3)).trans hx154_3
     replace p154 := eq_true p154
     replace q154 := eq_true q154
     go_wp2_with (first | ((with_reducible refine gate_dst (N := 4) rfl ?_); refine boxE (cs := #[.int .i64 0, .int .i64 0, .int .i64 0, .int .i64 0]) (t := 66) ?_; intro gb155 hg w49 hbox hb; refine E4b HB.1 hg hbox hb ?_; clear HB; intro HB BK155 GW155 GE155; clear hb hbox hg; obtain ⟨hcz50_0, hcz50_1, hcz50_2, hcz50_3, hfz50_0, hfz50_1, hfz50_2, hfz50_3⟩ := cz4 BK155.1) | ((with_reducible refine gate_dst (N := 5) rfl ?_); refine boxE (cs := #[.int .i64 0, .int .i64 0, .int .i64 0]) (t := 64) ?_; intro gb156 hg w51 hbox hb; refine E7 (blk_below (g := gb155) (o := .cells #[.int .i64 ((rd_T66 l0 x11_1).f0), .int .i64 ((rd_T66 l0 x11_1).f1.f0), .int .i64 ((rd_T66 l0 x11_1).f1.f1), .int .i64 ((rd_T66 l0 x11_1).f1.f2)] 66 (0, 0)) (PF0 BK155.1) hb) (bS HB.1 hb) (hbox) (gX HB.1 hg) (gX HB.1 hg) ((by rw [hg]; exact Nat.ne_of_lt (blk_lt (g := gb155) (o := .cells #[.int .i64 ((rd_T66 l0 x11_1).f0), .int .i64 ((rd_T66 l0 x11_1).f1.f0), .int .i64 ((rd_T66 l0 x11_1).f1.f1), .int .i64 ((rd_T66 l0 x11_1).f1.f2)] 66 (0, 0)) (PF0 BK155.1)) : gb155 ≠ gb156)) ((by rw [hg]; exact Nat.ne_of_gt (blk_lt (g := gb155) (o := .cells #[.int .i64 ((rd_T66 l0 x11_1).f0), .int .i64 ((rd_T66 l0 x11_1).f1.f0), .int .i64 ((rd_T66 l0 x11_1).f1.f1), .int .i64 ((rd_T66 l0 x11_1).f1.f2)] 66 (0, 0)) (PF0 BK155.1)) : gb156 ≠ gb155)) ?_; clear BK155 HB; intro BK155 HB BK156 GW156 GE156 NB155_156 NB156_155; clear hb hbox hg; have hnb52 := NB156_155.1; have hnc52 := NB155_156.1; obtain ⟨hcz53_0, hcz53_1, hcz53_2, hfz53_0, hfz53_1, hfz53_2⟩ := cz3 BK156.1; obtain ⟨hcz54_0, hcz54_1, hcz54_2, hcz54_3, hfz54_0, hfz54_1, hfz54_2, hfz54_3⟩ := cz4 BK155.1))
     go_ret
     exact ⟨RF, BL HB.1⟩
   replace H := ifQ H; rcases H with ⟨c55, H⟩ | ⟨c55, H⟩
   · have c55b0 : decide (9 < ((rd_T66 l0 x11_1).f1.f2)) = true := decide_eq_true c55
     clear c55
     obtain rfl := Option.some.inj H
     have p154 : 0 <= (x11_1 : Int) := OD
     have q154 : x11_1 < (l0.length : Int) := OD
     obtain ⟨ad154, e154, hx154_0, hx154_1, hx154_2, hx154_3⟩ := at_T66 HR0.1 x11_1 p154 q154
     cases e154
     replace hx154_0 := (HB.1.cell (World.block_lt_of_cell? w _ hx154_0)).trans hx154_0
     replace hx154_1 := (HB.1.cell (World.block_lt_of_cell? w _ hx154_1)).trans hx154_1
     replace hx154_2 := (HB.1.cell (World.block_lt_of_cell? w _ hx154_2)).trans hx154_2
     replace hx154_3 := (HB.1.cell (World.block_lt_of_cell? w _ hx154_3)).trans hx154_3
     replace p154 := eq_true p154
     replace q154 := eq_true q154
     go_wp2_with (first | ((with_reducible refine gate_dst (N := 4) rfl ?_); refine boxE (cs := #[.int .i64 0, .int .i64 0, .int .i64 0, .int .i64 0]) (t := 66) ?_; intro gb155 hg w56 hbox hb; refine E4b HB.1 hg hbox hb ?_; clear HB; intro HB BK155 GW155 GE155; clear hb hbox hg; obtain ⟨hcz57_0, hcz57_1, hcz57_2, hcz57_3, hfz57_0, hfz57_1, hfz57_2, hfz57_3⟩ := cz4 BK155.1) | ((with_reducible refine gate_dst (N := 5) rfl ?_); refine boxE (cs := #[.int .i64 0, .int .i64 0, .int .i64 0]) (t := 64) ?_; intro gb156 hg w58 hbox hb; refine E7 (blk_below (g := gb155) (o := .cells #[.int .i64 ((rd_T66 l0 x11_1).f0), .int .i64 ((rd_T66 l0 x11_1).f1.f0), .int .i64 ((rd_T66 l0 x11_1).f1.f1), .int .i64 ((rd_T66 l0 x11_1).f1.f2)] 66 (0, 0)) (PF0 BK155.1) hb) (bS HB.1 hb) (hbox) (gX HB.1 hg) (gX HB.1 hg) ((by rw [hg]; exact Nat.ne_of_lt (blk_lt (g := gb155) (o := .cells #[.int .i64 ((rd_T66 l0 x11_1).f0), .int .i64 ((rd_T66 l0 x11_1).f1.f0), .int .i64 ((rd_T66 l0 x11_1).f1.f1), .int .i64 ((rd_T66 l0 x11_1).f1.f2)] 66 (0, 0)) (PF0 BK155.1)) : gb155 ≠ gb156)) ((by rw [hg]; exact Nat.ne_of_gt (blk_lt (g := gb155) (o := .cells #[.int .i64 ((rd_T66 l0 x11_1).f0), .int .i64 ((rd_T66 l0 x11_1).f1.f0), .int .i64 ((rd_T66 l0 x11_1).f1.f1), .int .i64 ((rd_T66 l0 x11_1).f1.f2)] 66 (0, 0)) (PF0 BK155.1)) : gb156 ≠ gb155)) ?_; clear BK155 HB; intro BK155 HB BK156 GW156 GE156 NB155_156 NB156_155; clear hb hbox hg; have hnb59 := NB156_155.1; have hnc59 := NB155_156.1; obtain ⟨hcz60_0, hcz60_1, hcz60_2, hfz60_0, hfz60_1, hfz60_2⟩ := cz3 BK156.1; obtain ⟨hcz61_0, hcz61_1, hcz61_2, hcz61_3, hfz61_0, hfz61_1, hfz61_2, hfz61_3⟩ := cz4 BK155.1))
     go_ret
     exact ⟨RF, BL HB.1⟩
   have c55b0 : decide (9 < ((rd_T66 l0 x11_1).f1.f2)) = false := decide_eq_false c55
   clear c55
   have H' := Aside0.mk H
   clear H
   have p154 : 0 <= (x11_1 : Int) := OD
   have q154 : x11_1 < (l0.length : Int) := OD
   obtain ⟨ad154, e154, hx154_0, hx154_1, hx154_2, hx154_3⟩ := at_T66 HR0.1 x11_1 p154 q154
   cases e154
   replace hx154_0 := (HB.1.cell (World.block_lt_of_cell? w _ hx154_0)).trans hx154_0
   replace hx154_1 := (HB.1.cell (World.block_lt_of_cell? w _ hx154_1)).trans hx154_1
   replace hx154_2 := (HB.1.cell (World.block_lt_of_cell? w _ hx154_2)).trans hx154_2
   replace hx154_3 := (HB.1.cell (World.block_lt_of_cell? w _ hx154_3)).trans hx154_3
   replace p154 := eq_true p154
   replace q154 := eq_true q154
   go_wp2_with (first | ((with_reducible refine gate_dst (N := 4) rfl ?_); refine boxE (cs := #[.int .i64 0, .int .i64 0, .int .i64 0, .int .i64 0]) (t := 66) ?_; intro gb155 hg w62 hbox hb; refine E4b HB.1 hg hbox hb ?_; clear HB; intro HB BK155 GW155 GE155; clear hb hbox hg; obtain ⟨hcz63_0, hcz63_1, hcz63_2, hcz63_3, hfz63_0, hfz63_1, hfz63_2, hfz63_3⟩ := cz4 BK155.1) | ((with_reducible refine gate_dst (N := 5) rfl ?_); refine boxE (cs := #[.int .i64 0, .int .i64 0, .int .i64 0]) (t := 64) ?_; intro gb156 hg w64 hbox hb; refine E7 (blk_below (g := gb155) (o := .cells #[.int .i64 ((rd_T66 l0 x11_1).f0), .int .i64 ((rd_T66 l0 x11_1).f1.f0), .int .i64 ((rd_T66 l0 x11_1).f1.f1), .int .i64 ((rd_T66 l0 x11_1).f1.f2)] 66 (0, 0)) (PF0 BK155.1) hb) (bS HB.1 hb) (hbox) (gX HB.1 hg) (gX HB.1 hg) ((by rw [hg]; exact Nat.ne_of_lt (blk_lt (g := gb155) (o := .cells #[.int .i64 ((rd_T66 l0 x11_1).f0), .int .i64 ((rd_T66 l0 x11_1).f1.f0), .int .i64 ((rd_T66 l0 x11_1).f1.f1), .int .i64 ((rd_T66 l0 x11_1).f1.f2)] 66 (0, 0)) (PF0 BK155.1)) : gb155 ≠ gb156)) ((by rw [hg]; exact Nat.ne_of_gt (blk_lt (g := gb155) (o := .cells #[.int .i64 ((rd_T66 l0 x11_1).f0), .int .i64 ((rd_T66 l0 x11_1).f1.f0), .int .i64 ((rd_T66 l0 x11_1).f1.f1), .int .i64 ((rd_T66 l0 x11_1).f1.f2)] 66 (0, 0)) (PF0 BK155.1)) : gb156 ≠ gb155)) ?_; clear BK155 HB; intro BK155 HB BK156 GW156 GE156 NB155_156 NB156_155; clear hb hbox hg; have hnb65 := NB156_155.1; have hnc65 := NB155_156.1; obtain ⟨hcz66_0, hcz66_1, hcz66_2, hfz66_0, hfz66_1, hfz66_2⟩ := cz3 BK156.1; obtain ⟨hcz67_0, hcz67_1, hcz67_2, hcz67_3, hfz67_0, hfz67_1, hfz67_2, hfz67_3⟩ := cz4 BK155.1))
   go_roundg k1
   case measure => have := HK1.1; omega
   case rel => exact ⟨(wrap64 (x11_1 + 1)), RG, H', ⟨by have := HK1.1; omega⟩, ⟨BL HB.1⟩⟩
 obtain rfl := Option.some.inj H
 go_wp2
 go_ret
 exact ⟨RF, BL HB.1⟩
/-! ### impl_LogText: function 15 -/
open Kd
open Kd
/-- The two arrays of names. -/
def cNames : List ByteArray := [⟨#[98, 108, 117, 101]⟩, ⟨#[114, 101, 100]⟩]
def eNames : List ByteArray := [⟨#[98, 111, 116, 116, 111, 109]⟩, ⟨#[115, 116, 111, 112]⟩, ⟨#[108, 111, 115, 116]⟩]
/-- The two package-level arrays hold them. -/
def Globs (w : World) : Prop := Kd.C Kd.string w (some ⟨0, 0, none⟩) 2 cNames /\ Kd.C Kd.string w (some ⟨1, 0, none⟩) 3 eNames
theorem glob_at {w : World} {g n : Nat} {xs : List ByteArray} (h : Kd.C Kd.string w (some ⟨g, 0, none⟩) n xs) (i : Int) (h0 : 0 <= i) (h1 : i < n) : w.cell? ⟨g, i.toNat, none⟩ = some (.string (rdOf ByteArray.empty xs i)) := by
 obtain ⟨ad, e, hx⟩ := Kd.at_string h i h0 h1
 cases e
 have e : (⟨g, 0, none⟩ : Addr).add i.toNat = ⟨g, i.toNat, none⟩ := by by_cases h : i.toNat = 0 <;> simp [Addr.add, h]
 rw [e] at hx
 exact hx
theorem Globs.below {w w1 : World} (h : Globs w) (hb : Below w.heap.size w w1) : Globs w1 := ⟨C_below h.1 hb, C_below h.2 hb⟩
def impl_LogText.l0 : Nat -> ByteArray -> List (S66) -> Int -> Int -> Option (ByteArray × Bool)
 | 0, _, _, _, _ => none
 | k + 1, x8, x15, x16, x17 => if x17 < x16 then (if 0 <= x17 then (if x17 < (x15.length : Int) then (if ((rd_T66 x15 x17).f1.f2) ≥ 0 then ((strconv_Itoa_31.f ((rd_T66 x15 x17).f1.f2)).bind fun t160 => (if 0 <= ((rd_T66 x15 x17).f0) then (if ((rd_T66 x15 x17).f0) < 2 then (if (rdOf ByteArray.empty cNames ((rd_T66 x15 x17).f0)).size + 1 <= 9223372036854775807 then (if 0 <= (wrap64 (((rd_T66 x15 x17).f1.f0) - 1)) then (if (wrap64 (((rd_T66 x15 x17).f1.f0) - 1)) < 3 then (if ((rdOf ByteArray.empty cNames ((rd_T66 x15 x17).f0)) ++ (⟨#[32]⟩ : ByteArray)).size + (rdOf ByteArray.empty eNames (wrap64 (((rd_T66 x15 x17).f1.f0) - 1))).size <= 9223372036854775807 then (if (((rdOf ByteArray.empty cNames ((rd_T66 x15 x17).f0)) ++ (⟨#[32]⟩ : ByteArray)) ++ (rdOf ByteArray.empty eNames (wrap64 (((rd_T66 x15 x17).f1.f0) - 1)))).size + 1 <= 9223372036854775807 then ((strconv_Itoa_31.f ((rd_T66 x15 x17).f1.f1)).bind fun t163 => (if ((((rdOf ByteArray.empty cNames ((rd_T66 x15 x17).f0)) ++ (⟨#[32]⟩ : ByteArray)) ++ (rdOf ByteArray.empty eNames (wrap64 (((rd_T66 x15 x17).f1.f0) - 1)))) ++ (⟨#[32]⟩ : ByteArray)).size + t163.size <= 9223372036854775807 then (if (((((rdOf ByteArray.empty cNames ((rd_T66 x15 x17).f0)) ++ (⟨#[32]⟩ : ByteArray)) ++ (rdOf ByteArray.empty eNames (wrap64 (((rd_T66 x15 x17).f1.f0) - 1)))) ++ (⟨#[32]⟩ : ByteArray)) ++ t163).size + 1 <= 9223372036854775807 then (if ((((((rdOf ByteArray.empty cNames ((rd_T66 x15 x17).f0)) ++ (⟨#[32]⟩ : ByteArray)) ++ (rdOf ByteArray.empty eNames (wrap64 (((rd_T66 x15 x17).f1.f0) - 1)))) ++ (⟨#[32]⟩ : ByteArray)) ++ t163) ++ (⟨#[32]⟩ : ByteArray)).size + t160.size <= 9223372036854775807 then (if (((((((rdOf ByteArray.empty cNames ((rd_T66 x15 x17).f0)) ++ (⟨#[32]⟩ : ByteArray)) ++ (rdOf ByteArray.empty eNames (wrap64 (((rd_T66 x15 x17).f1.f0) - 1)))) ++ (⟨#[32]⟩ : ByteArray)) ++ t163) ++ (⟨#[32]⟩ : ByteArray)) ++ t160).size + 1 <= 9223372036854775807 then (if x8.size + ((((((((rdOf ByteArray.empty cNames ((rd_T66 x15 x17).f0)) ++ (⟨#[32]⟩ : ByteArray)) ++ (rdOf ByteArray.empty eNames (wrap64 (((rd_T66 x15 x17).f1.f0) - 1)))) ++ (⟨#[32]⟩ : ByteArray)) ++ t163) ++ (⟨#[32]⟩ : ByteArray)) ++ t160) ++ (⟨#[10]⟩ : ByteArray)).size <= 9223372036854775807 then (impl_LogText.l0 k (x8 ++ ((((((((rdOf ByteArray.empty cNames ((rd_T66 x15 x17).f0)) ++ (⟨#[32]⟩ : ByteArray)) ++ (rdOf ByteArray.empty eNames (wrap64 (((rd_T66 x15 x17).f1.f0) - 1)))) ++ (⟨#[32]⟩ : ByteArray)) ++ t163) ++ (⟨#[32]⟩ : ByteArray)) ++ t160) ++ (⟨#[10]⟩ : ByteArray))) x15 x16 (wrap64 (x17 + 1))) else (none)) else (none)) else (none)) else (none)) else (none))) else (none)) else (none)) else (none)) else (none)) else (none)) else (none)) else (none))) else (if 0 <= ((rd_T66 x15 x17).f0) then (if ((rd_T66 x15 x17).f0) < 2 then (if (rdOf ByteArray.empty cNames ((rd_T66 x15 x17).f0)).size + 1 <= 9223372036854775807 then (if 0 <= (wrap64 (((rd_T66 x15 x17).f1.f0) - 1)) then (if (wrap64 (((rd_T66 x15 x17).f1.f0) - 1)) < 3 then (if ((rdOf ByteArray.empty cNames ((rd_T66 x15 x17).f0)) ++ (⟨#[32]⟩ : ByteArray)).size + (rdOf ByteArray.empty eNames (wrap64 (((rd_T66 x15 x17).f1.f0) - 1))).size <= 9223372036854775807 then (if (((rdOf ByteArray.empty cNames ((rd_T66 x15 x17).f0)) ++ (⟨#[32]⟩ : ByteArray)) ++ (rdOf ByteArray.empty eNames (wrap64 (((rd_T66 x15 x17).f1.f0) - 1)))).size + 1 <= 9223372036854775807 then ((strconv_Itoa_31.f ((rd_T66 x15 x17).f1.f1)).bind fun t166 => (if ((((rdOf ByteArray.empty cNames ((rd_T66 x15 x17).f0)) ++ (⟨#[32]⟩ : ByteArray)) ++ (rdOf ByteArray.empty eNames (wrap64 (((rd_T66 x15 x17).f1.f0) - 1)))) ++ (⟨#[32]⟩ : ByteArray)).size + t166.size <= 9223372036854775807 then (if (((((rdOf ByteArray.empty cNames ((rd_T66 x15 x17).f0)) ++ (⟨#[32]⟩ : ByteArray)) ++ (rdOf ByteArray.empty eNames (wrap64 (((rd_T66 x15 x17).f1.f0) - 1)))) ++ (⟨#[32]⟩ : ByteArray)) ++ t166).size + 1 <= 9223372036854775807 then (if ((((((rdOf ByteArray.empty cNames ((rd_T66 x15 x17).f0)) ++ (⟨#[32]⟩ : ByteArray)) ++ (rdOf ByteArray.empty eNames (wrap64 (((rd_T66 x15 x17).f1.f0) - 1)))) ++ (⟨#[32]⟩ : ByteArray)) ++ t166) ++ (⟨#[32]⟩ : ByteArray)).size + 1 <= 9223372036854775807 then (if (((((((rdOf ByteArray.empty cNames ((rd_T66 x15 x17).f0)) ++ (⟨#[32]⟩ : ByteArray)) ++ (rdOf ByteArray.empty eNames (wrap64 (((rd_T66 x15 x17).f1.f0) - 1)))) ++ (⟨#[32]⟩ : ByteArray)) ++ t166) ++ (⟨#[32]⟩ : ByteArray)) ++ (⟨#[45]⟩ : ByteArray)).size + 1 <= 9223372036854775807 then (if x8.size + ((((((((rdOf ByteArray.empty cNames ((rd_T66 x15 x17).f0)) ++ (⟨#[32]⟩ : ByteArray)) ++ (rdOf ByteArray.empty eNames (wrap64 (((rd_T66 x15 x17).f1.f0) - 1)))) ++ (⟨#[32]⟩ : ByteArray)) ++ t166) ++ (⟨#[32]⟩ : ByteArray)) ++ (⟨#[45]⟩ : ByteArray)) ++ (⟨#[10]⟩ : ByteArray)).size <= 9223372036854775807 then (impl_LogText.l0 k (x8 ++ ((((((((rdOf ByteArray.empty cNames ((rd_T66 x15 x17).f0)) ++ (⟨#[32]⟩ : ByteArray)) ++ (rdOf ByteArray.empty eNames (wrap64 (((rd_T66 x15 x17).f1.f0) - 1)))) ++ (⟨#[32]⟩ : ByteArray)) ++ t166) ++ (⟨#[32]⟩ : ByteArray)) ++ (⟨#[45]⟩ : ByteArray)) ++ (⟨#[10]⟩ : ByteArray))) x15 x16 (wrap64 (x17 + 1))) else (none)) else (none)) else (none)) else (none)) else (none))) else (none)) else (none)) else (none)) else (none)) else (none)) else (none)) else (none))) else (none)) else (none)) else (some (x8, true))
def impl_LogText.f (k : Nat) (l0 : List (S66)) : Option (ByteArray × Bool) := (impl_IsLog.f k l0).bind fun t157 => (if t157 = true then (impl_LogText.l0 k (⟨#[]⟩ : ByteArray) l0 (l0.length : Int) 0) else (some ((⟨#[]⟩ : ByteArray), false)))
theorem impl_LogText.mono_l : ∀ k, (∀ y0 y1 y2 y3, LeO (impl_LogText.l0 k y0 y1 y2 y3) (impl_LogText.l0 (k + 1) y0 y1 y2 y3))
 | 0 => fun _ _ _ _ r h => by simp [impl_LogText.l0] at h
 | k + 1 => by
  have ih0 := impl_LogText.mono_l k
  intros
  first | unfold impl_LogText.l0
  exact LM2 ih0 impl_IsLog.mono
theorem impl_LogText.mono : ∀ a0 k, LeO (impl_LogText.f k a0) (impl_LogText.f (k + 1) a0) := by
 intro a0 k
 have ih0 := impl_LogText.mono_l k
 unfold impl_LogText.f
 exact LM2 ih0 impl_IsLog.mono
theorem impl_LogText.calls (k : Nat) (A0 : Option Addr) (c0 : Nat) (l0 : List (S66)) (r1 : ByteArray) (r2 : Bool) (w : World) (hr0 : Kd.C k66 w A0 l0.length l0) (hc0 : l0.length <= c0) (hG : Globs w) (h : impl_LogText.f k l0 = some (r1, r2)) :
 Calls Tryd.prog 15 #[.slice A0 l0.length c0] w fun e w' => e = .returned (.tuple #[.string r1, .bool r2]) /\ Below w.heap.size w w' := by
 have hu66 := Tryd.underlying66
 have HR0 := Aside0.mk hr0
 have HC0 := Aside0.mk hc0
 clear hr0 hc0
 have HR1 := Aside0.mk hG.1
 have HR2 := Aside0.mk hG.2
 clear hG
 have HB := Aside0.mk (Below.refl w.heap.size w)
 have H := h
 clear h
 unfold impl_LogText.f at H
 replace H := bindA H; obtain ⟨t157, A4, H⟩ := H
 replace H := ifX H; rcases H with ⟨rfl, H⟩ | ⟨rfl, H⟩
 · have H' := Aside0.mk H
   clear H
   go_enter Tryd.func15, Tryd.ntmps15
   go_wp2_with (first | (go_at_call 37; (with_reducible refine (impl_IsLog.calls k _ _ l0 true _ ?side1 ?side2 A4.1).mono ?_); (case side1 => repeat (first | exact HR0.1 | (with_reducible refine C_alloc ?_ _) | (with_reducible refine C_drewN ?_ _) | (with_reducible refine C_drew ?_))); (case side2 => exact HC0.1); rintro e w6 ⟨rfl, hb⟩; refine E1 (bS HB.1 hb) ?_; clear HB; intro HB; (try clear hb)))
   repeat (go_quiet (first | (go_at_call 37; (with_reducible refine (impl_IsLog.calls k _ _ l0 true _ ?side1 ?side2 A4.1).mono ?_); (case side1 => repeat (first | exact HR0.1 | (with_reducible refine C_alloc ?_ _) | (with_reducible refine C_drewN ?_ _) | (with_reducible refine C_drew ?_))); (case side2 => exact HC0.1); rintro e w6 ⟨rfl, hb⟩; refine E1 (bS HB.1 hb) ?_; clear HB; intro HB; (try clear hb))); try go_wp2_with (first | (go_at_call 37; (with_reducible refine (impl_IsLog.calls k _ _ l0 true _ ?side1 ?side2 A4.1).mono ?_); (case side1 => repeat (first | exact HR0.1 | (with_reducible refine C_alloc ?_ _) | (with_reducible refine C_drewN ?_ _) | (with_reducible refine C_drew ?_))); (case side2 => exact HC0.1); rintro e w6 ⟨rfl, hb⟩; refine E1 (bS HB.1 hb) ?_; clear HB; intro HB; (try clear hb))))
   go_loopg [4, 13] k (fun kq v8 v17 w' => ∃ (x8_1 : ByteArray) (x17_1 : Int), v8 = .string x8_1 /\ v17 = .int .i64 x17_1 /\ Aside0 (impl_LogText.l0 kq x8_1 l0 (l0.length : Int) x17_1 = some (r1, r2)) /\ Aside0 (kq <= k) /\ Aside0 (Below w.heap.size w w'))
   case atStart => exact ⟨((⟨#[]⟩ : ByteArray)), (0), RG, RG, H', ⟨Nat.le_refl _⟩, ⟨BL HB.1⟩⟩
   clear H'
   obtain ⟨x8_1, x17_1, rfl, rfl, HA, HK1, HB⟩ := hrel
   cases gk with
   | zero => exact absurd HA.1 (by simp [impl_LogText.l0])
   | succ k1 => ?_
   have H := HA.1
   clear HA
   simp only [impl_LogText.l0] at H
   replace H := ifB H; rcases H with ⟨c7b0, H⟩ | ⟨c7b0, H⟩
   · replace H := ifN H; obtain ⟨c8b0, H⟩ := H
     replace H := ifN H; obtain ⟨c9b0, H⟩ := H
     replace H := ifQ H; rcases H with ⟨c10, H⟩ | ⟨c10, H⟩
     · have c10b0 : decide (0 <= ((rd_T66 l0 x17_1).f1.f2)) = true := decide_eq_true c10
       clear c10
       replace H := bindA H; obtain ⟨t160, A11, H⟩ := H
       replace H := ifN H; obtain ⟨c12b0, H⟩ := H
       replace H := ifN H; obtain ⟨c13b0, H⟩ := H
       replace H := ifP H; obtain ⟨c14, H⟩ := H
       have c14b0 := eq_true c14
       have c14b1 := decide_eq_true c14
       try have c14b2 : (9223372036854775807 < (rdOf ByteArray.empty cNames ((rd_T66 l0 x17_1).f0)).size + 1) = False := eq_false (Nat.not_lt.2 c14)
       obtain ⟨ji15, hji15⟩ : ∃ j_ : Int, (wrap64 (((rd_T66 l0 x17_1).f1.f0) - 1)) = j_ := ⟨_, rfl⟩
       replace H : (if 0 <= (ji15) then (if (ji15) < 3 then (if ((rdOf ByteArray.empty cNames ((rd_T66 l0 x17_1).f0)) ++ (⟨#[32]⟩ : ByteArray)).size + (rdOf ByteArray.empty eNames (ji15)).size <= 9223372036854775807 then (if (((rdOf ByteArray.empty cNames ((rd_T66 l0 x17_1).f0)) ++ (⟨#[32]⟩ : ByteArray)) ++ (rdOf ByteArray.empty eNames (ji15))).size + 1 <= 9223372036854775807 then ((strconv_Itoa_31.f ((rd_T66 l0 x17_1).f1.f1)).bind fun t163 => (if ((((rdOf ByteArray.empty cNames ((rd_T66 l0 x17_1).f0)) ++ (⟨#[32]⟩ : ByteArray)) ++ (rdOf ByteArray.empty eNames (ji15))) ++ (⟨#[32]⟩ : ByteArray)).size + t163.size <= 9223372036854775807 then (if (((((rdOf ByteArray.empty cNames ((rd_T66 l0 x17_1).f0)) ++ (⟨#[32]⟩ : ByteArray)) ++ (rdOf ByteArray.empty eNames (ji15))) ++ (⟨#[32]⟩ : ByteArray)) ++ t163).size + 1 <= 9223372036854775807 then (if ((((((rdOf ByteArray.empty cNames ((rd_T66 l0 x17_1).f0)) ++ (⟨#[32]⟩ : ByteArray)) ++ (rdOf ByteArray.empty eNames (ji15))) ++ (⟨#[32]⟩ : ByteArray)) ++ t163) ++ (⟨#[32]⟩ : ByteArray)).size + t160.size <= 9223372036854775807 then (if (((((((rdOf ByteArray.empty cNames ((rd_T66 l0 x17_1).f0)) ++ (⟨#[32]⟩ : ByteArray)) ++ (rdOf ByteArray.empty eNames (ji15))) ++ (⟨#[32]⟩ : ByteArray)) ++ t163) ++ (⟨#[32]⟩ : ByteArray)) ++ t160).size + 1 <= 9223372036854775807 then (if x8_1.size + ((((((((rdOf ByteArray.empty cNames ((rd_T66 l0 x17_1).f0)) ++ (⟨#[32]⟩ : ByteArray)) ++ (rdOf ByteArray.empty eNames (ji15))) ++ (⟨#[32]⟩ : ByteArray)) ++ t163) ++ (⟨#[32]⟩ : ByteArray)) ++ t160) ++ (⟨#[10]⟩ : ByteArray)).size <= 9223372036854775807 then (impl_LogText.l0 k1 (x8_1 ++ ((((((((rdOf ByteArray.empty cNames ((rd_T66 l0 x17_1).f0)) ++ (⟨#[32]⟩ : ByteArray)) ++ (rdOf ByteArray.empty eNames (ji15))) ++ (⟨#[32]⟩ : ByteArray)) ++ t163) ++ (⟨#[32]⟩ : ByteArray)) ++ t160) ++ (⟨#[10]⟩ : ByteArray))) l0 (l0.length : Int) (wrap64 (x17_1 + 1))) else (none)) else (none)) else (none)) else (none)) else (none))) else (none)) else (none)) else (none)) else (none)) = some (r1, r2) := by first | (rw [hji15] at H; exact H) | (simp only [hji15] at H ⊢; exact H)
       (try rw [hji15] at A11)
       have hji15w : (IntKind.i64.wrap (((rd_T66 l0 x17_1).f1.f0) - 1)) = ji15 := (i64_w _).trans hji15
       replace H := ifN H; obtain ⟨c16b0, H⟩ := H
       replace H := ifN H; obtain ⟨c17b0, H⟩ := H
       replace H := ifP H; obtain ⟨c18, H⟩ := H
       have c18b0 := eq_true c18
       have c18b1 := decide_eq_true c18
       try have c18b2 : (9223372036854775807 < ((rdOf ByteArray.empty cNames ((rd_T66 l0 x17_1).f0)) ++ (⟨#[32]⟩ : ByteArray)).size + (rdOf ByteArray.empty eNames (ji15)).size) = False := eq_false (Nat.not_lt.2 c18)
       try have c18b3 : (9223372036854775807 < (rdOf ByteArray.empty cNames ((rd_T66 l0 x17_1).f0)).size + 1 + (rdOf ByteArray.empty eNames (ji15)).size) = False := by have h_ := c18b2; simp only [ByteArray.size_append] at h_; exact h_
       try have c18b3 : (9223372036854775807 < (rdOf ByteArray.empty cNames ((rd_T66 l0 x17_1).f0)).size + 1 + (rdOf ByteArray.empty eNames (ji15)).size) = False := by have h_ := c18b2; simp only [ByteArray.size_append] at h_; exact h_
       replace H := ifP H; obtain ⟨c19, H⟩ := H
       have c19b0 := eq_true c19
       have c19b1 := decide_eq_true c19
       try have c19b2 : (9223372036854775807 < (((rdOf ByteArray.empty cNames ((rd_T66 l0 x17_1).f0)) ++ (⟨#[32]⟩ : ByteArray)) ++ (rdOf ByteArray.empty eNames (ji15))).size + 1) = False := eq_false (Nat.not_lt.2 c19)
       try have c19b3 : (9223372036854775807 < (rdOf ByteArray.empty cNames ((rd_T66 l0 x17_1).f0)).size + 1 + (rdOf ByteArray.empty eNames (ji15)).size + 1) = False := by have h_ := c19b2; simp only [ByteArray.size_append] at h_; exact h_
       try have c19b3 : (9223372036854775807 < (rdOf ByteArray.empty cNames ((rd_T66 l0 x17_1).f0)).size + 1 + (rdOf ByteArray.empty eNames (ji15)).size + 1) = False := by have h_ := c19b2; simp only [ByteArray.size_append] at h_; exact h_
       replace H := bindA H; obtain ⟨t163, A20, H⟩ := H
       replace H := ifP H; obtain ⟨c21, H⟩ := H
       have c21b0 := eq_true c21
       have c21b1 := decide_eq_true c21
       try have c21b2 : (9223372036854775807 < ((((rdOf ByteArray.empty cNames ((rd_T66 l0 x17_1).f0)) ++ (⟨#[32]⟩ : ByteArray)) ++ (rdOf ByteArray.empty eNames (ji15))) ++ (⟨#[32]⟩ : ByteArray)).size + t163.size) = False := eq_false (Nat.not_lt.2 c21)
       try have c21b3 : (9223372036854775807 < (rdOf ByteArray.empty cNames ((rd_T66 l0 x17_1).f0)).size + 1 + (rdOf ByteArray.empty eNames (ji15)).size + 1 + t163.size) = False := by have h_ := c21b2; simp only [ByteArray.size_append] at h_; exact h_
       try have c21b3 : (9223372036854775807 < (rdOf ByteArray.empty cNames ((rd_T66 l0 x17_1).f0)).size + 1 + (rdOf ByteArray.empty eNames (ji15)).size + 1 + t163.size) = False := by have h_ := c21b2; simp only [ByteArray.size_append] at h_; exact h_
       replace H := ifP H; obtain ⟨c22, H⟩ := H
       have c22b0 := eq_true c22
       have c22b1 := decide_eq_true c22
       try have c22b2 : (9223372036854775807 < (((((rdOf ByteArray.empty cNames ((rd_T66 l0 x17_1).f0)) ++ (⟨#[32]⟩ : ByteArray)) ++ (rdOf ByteArray.empty eNames (ji15))) ++ (⟨#[32]⟩ : ByteArray)) ++ t163).size + 1) = False := eq_false (Nat.not_lt.2 c22)
       try have c22b3 : (9223372036854775807 < (rdOf ByteArray.empty cNames ((rd_T66 l0 x17_1).f0)).size + 1 + (rdOf ByteArray.empty eNames (ji15)).size + 1 + t163.size + 1) = False := by have h_ := c22b2; simp only [ByteArray.size_append] at h_; exact h_
       try have c22b3 : (9223372036854775807 < (rdOf ByteArray.empty cNames ((rd_T66 l0 x17_1).f0)).size + 1 + (rdOf ByteArray.empty eNames (ji15)).size + 1 + t163.size + 1) = False := by have h_ := c22b2; simp only [ByteArray.size_append] at h_; exact h_
       replace H := ifP H; obtain ⟨c23, H⟩ := H
       have c23b0 := eq_true c23
       have c23b1 := decide_eq_true c23
       try have c23b2 : (9223372036854775807 < ((((((rdOf ByteArray.empty cNames ((rd_T66 l0 x17_1).f0)) ++ (⟨#[32]⟩ : ByteArray)) ++ (rdOf ByteArray.empty eNames (ji15))) ++ (⟨#[32]⟩ : ByteArray)) ++ t163) ++ (⟨#[32]⟩ : ByteArray)).size + t160.size) = False := eq_false (Nat.not_lt.2 c23)
       try have c23b3 : (9223372036854775807 < (rdOf ByteArray.empty cNames ((rd_T66 l0 x17_1).f0)).size + 1 + (rdOf ByteArray.empty eNames (ji15)).size + 1 + t163.size + 1 + t160.size) = False := by have h_ := c23b2; simp only [ByteArray.size_append] at h_; exact h_
       try have c23b3 : (9223372036854775807 < (rdOf ByteArray.empty cNames ((rd_T66 l0 x17_1).f0)).size + 1 + (rdOf ByteArray.empty eNames (ji15)).size + 1 + t163.size + 1 + t160.size) = False := by have h_ := c23b2; simp only [ByteArray.size_append] at h_; exact h_
       replace H := ifP H; obtain ⟨c24, H⟩ := H
       have c24b0 := eq_true c24
       have c24b1 := decide_eq_true c24
       try have c24b2 : (9223372036854775807 < (((((((rdOf ByteArray.empty cNames ((rd_T66 l0 x17_1).f0)) ++ (⟨#[32]⟩ : ByteArray)) ++ (rdOf ByteArray.empty eNames (ji15))) ++ (⟨#[32]⟩ : ByteArray)) ++ t163) ++ (⟨#[32]⟩ : ByteArray)) ++ t160).size + 1) = False := eq_false (Nat.not_lt.2 c24)
       try have c24b3 : (9223372036854775807 < (rdOf ByteArray.empty cNames ((rd_T66 l0 x17_1).f0)).size + 1 + (rdOf ByteArray.empty eNames (ji15)).size + 1 + t163.size + 1 + t160.size + 1) = False := by have h_ := c24b2; simp only [ByteArray.size_append] at h_; exact h_
       try have c24b3 : (9223372036854775807 < (rdOf ByteArray.empty cNames ((rd_T66 l0 x17_1).f0)).size + 1 + (rdOf ByteArray.empty eNames (ji15)).size + 1 + t163.size + 1 + t160.size + 1) = False := by have h_ := c24b2; simp only [ByteArray.size_append] at h_; exact h_
       replace H := ifP H; obtain ⟨c25, H⟩ := H
       have c25b0 := eq_true c25
       have c25b1 := decide_eq_true c25
       try have c25b2 : (9223372036854775807 < x8_1.size + ((((((((rdOf ByteArray.empty cNames ((rd_T66 l0 x17_1).f0)) ++ (⟨#[32]⟩ : ByteArray)) ++ (rdOf ByteArray.empty eNames (ji15))) ++ (⟨#[32]⟩ : ByteArray)) ++ t163) ++ (⟨#[32]⟩ : ByteArray)) ++ t160) ++ (⟨#[10]⟩ : ByteArray)).size) = False := eq_false (Nat.not_lt.2 c25)
       try have c25b3 : (9223372036854775807 < x8_1.size + ((rdOf ByteArray.empty cNames ((rd_T66 l0 x17_1).f0)).size + 1 + (rdOf ByteArray.empty eNames (ji15)).size + 1 + t163.size + 1 + t160.size + 1)) = False := by have h_ := c25b2; simp only [ByteArray.size_append] at h_; exact h_
       try have c25b3 : (9223372036854775807 < x8_1.size + ((rdOf ByteArray.empty cNames ((rd_T66 l0 x17_1).f0)).size + 1 + (rdOf ByteArray.empty eNames (ji15)).size + 1 + t163.size + 1 + t160.size + 1)) = False := by have h_ := c25b2; simp only [ByteArray.size_append] at h_; exact h_
       have H' := Aside0.mk H
       clear H
       have p158 : 0 <= (x17_1 : Int) := OD
       have q158 : x17_1 < (l0.length : Int) := OD
       obtain ⟨ad158, e158, hx158_0, hx158_1, hx158_2, hx158_3⟩ := at_T66 HR0.1 x17_1 p158 q158
       cases e158
       replace hx158_0 := (HB.1.cell (World.block_lt_of_cell? w _ hx158_0)).trans hx158_0
       replace hx158_1 := (HB.1.cell (World.block_lt_of_cell? w _ hx158_1)).trans hx158_1
       replace hx158_2 := (HB.1.cell (World.block_lt_of_cell? w _ hx158_2)).trans hx158_2
       replace hx158_3 := (HB.1.cell (World.block_lt_of_cell? w _ hx158_3)).trans hx158_3
       replace p158 := eq_true p158
       replace q158 := eq_true q158
       go_wp2_with (first | ((with_reducible refine gate_dst (N := 6) rfl ?_); refine boxE (cs := #[.int .i64 0, .int .i64 0, .int .i64 0, .int .i64 0]) (t := 66) ?_; intro gb159 hg w26 hbox hb; refine E4b HB.1 hg hbox hb ?_; clear HB; intro HB BK159 GW159 GE159; clear hb hbox hg; obtain ⟨hcz27_0, hcz27_1, hcz27_2, hcz27_3, hfz27_0, hfz27_1, hfz27_2, hfz27_3⟩ := cz4 BK159.1) | (go_at_call 31; (with_reducible refine (strconv_Itoa_31.calls ((rd_T66 l0 x17_1).f1.f2) t160 _ A11.1).mono ?_); rintro e w' ⟨rfl, ⟨nd, rfl⟩⟩; (try first | exact ⟨rfl, _, World.drewN_drewN _ _ _⟩ | exact ⟨rfl, _, Eq.trans (World.drewN_drewN _ _ _) (congrArg (World.drewN _) (Nat.add_assoc _ _ _))⟩); have p161 : 0 <= (((rd_T66 l0 x17_1).f0) : Int) := OD; have q161 : ((rd_T66 l0 x17_1).f0) < 2 := OD; have hx161_0 := glob_at HR1.1 ((rd_T66 l0 x17_1).f0) p161 (by have := q161; omega); have hn161_0 : (⟨0, 0, none⟩ : Addr).block ≠ gb159 := Nat.ne_of_lt (Nat.lt_of_lt_of_le (by have := World.block_lt_of_cell? _ _ hx161_0; first | rwa [add_block] at this | exact this) GW159.1); have hn161_1 : (⟨0, 0, none⟩ : Addr).block ≠ gb159 := Nat.ne_of_lt (Nat.lt_of_lt_of_le (by have := World.block_lt_of_cell? _ _ hx161_0; first | rwa [add_block] at this | exact this) GW159.1); have hn161_2 : (⟨0, 0, none⟩ : Addr).block ≠ gb159 := Nat.ne_of_lt (Nat.lt_of_lt_of_le (by have := World.block_lt_of_cell? _ _ hx161_0; first | rwa [add_block] at this | exact this) GW159.1); have hn161_3 : (⟨0, 0, none⟩ : Addr).block ≠ gb159 := Nat.ne_of_lt (Nat.lt_of_lt_of_le (by have := World.block_lt_of_cell? _ _ hx161_0; first | rwa [add_block] at this | exact this) GW159.1); replace hx161_0 := (HB.1.cell (World.block_lt_of_cell? w _ hx161_0)).trans hx161_0; replace hx161_0 := (cell_far (p := ⟨gb159, 0, none⟩) (by first | (rw [add_block]; exact hn161_0) | (show (Addr.add _ _).block ≠ _; rw [add_block]; exact hn161_0) | exact hn161_0) (.int .i64 ((rd_T66 l0 x17_1).f0))).trans hx161_0; replace hx161_0 := (cell_far (p := ⟨gb159, 1, none⟩) (by first | (rw [add_block]; exact hn161_1) | (show (Addr.add _ _).block ≠ _; rw [add_block]; exact hn161_1) | exact hn161_1) (.int .i64 ((rd_T66 l0 x17_1).f1.f0))).trans hx161_0; replace hx161_0 := (cell_far (p := ⟨gb159, 2, none⟩) (by first | (rw [add_block]; exact hn161_2) | (show (Addr.add _ _).block ≠ _; rw [add_block]; exact hn161_2) | exact hn161_2) (.int .i64 ((rd_T66 l0 x17_1).f1.f1))).trans hx161_0; replace hx161_0 := (cell_far (p := ⟨gb159, 3, none⟩) (by first | (rw [add_block]; exact hn161_3) | (show (Addr.add _ _).block ≠ _; rw [add_block]; exact hn161_3) | exact hn161_3) (.int .i64 ((rd_T66 l0 x17_1).f1.f2))).trans hx161_0; (try have hy161_0 := fun (n_ : Nat) => (show ((((((w26.drewN n_).setCell ⟨gb159, 0, none⟩ (.int .i64 ((rd_T66 l0 x17_1).f0))).setCell ⟨gb159, 1, none⟩ (.int .i64 ((rd_T66 l0 x17_1).f1.f0))).setCell ⟨gb159, 2, none⟩ (.int .i64 ((rd_T66 l0 x17_1).f1.f1))).setCell ⟨gb159, 3, none⟩ (.int .i64 ((rd_T66 l0 x17_1).f1.f2)))).cell? _ = some _ from hx161_0)); clear hn161_0; clear hn161_1; clear hn161_2; clear hn161_3; replace p161 := eq_true p161; replace q161 := eq_true q161; have p162 : 0 <= ((ji15) : Int) := OD; have q162 : (ji15) < 3 := OD; have hx162_0 := glob_at HR2.1 (ji15) p162 (by have := q162; omega); have hn162_0 : (⟨1, 0, none⟩ : Addr).block ≠ gb159 := Nat.ne_of_lt (Nat.lt_of_lt_of_le (by have := World.block_lt_of_cell? _ _ hx162_0; first | rwa [add_block] at this | exact this) GW159.1); have hn162_1 : (⟨1, 0, none⟩ : Addr).block ≠ gb159 := Nat.ne_of_lt (Nat.lt_of_lt_of_le (by have := World.block_lt_of_cell? _ _ hx162_0; first | rwa [add_block] at this | exact this) GW159.1); have hn162_2 : (⟨1, 0, none⟩ : Addr).block ≠ gb159 := Nat.ne_of_lt (Nat.lt_of_lt_of_le (by have := World.block_lt_of_cell? _ _ hx162_0; first | rwa [add_block] at this | exact this) GW159.1); have hn162_3 : (⟨1, 0, none⟩ : Addr).block ≠ gb159 := Nat.ne_of_lt (Nat.lt_of_lt_of_le (by have := World.block_lt_of_cell? _ _ hx162_0; first | rwa [add_block] at this | exact this) GW159.1); replace hx162_0 := (HB.1.cell (World.block_lt_of_cell? w _ hx162_0)).trans hx162_0; replace hx162_0 := (cell_far (p := ⟨gb159, 0, none⟩) (by first | (rw [add_block]; exact hn162_0) | (show (Addr.add _ _).block ≠ _; rw [add_block]; exact hn162_0) | exact hn162_0) (.int .i64 ((rd_T66 l0 x17_1).f0))).trans hx162_0; replace hx162_0 := (cell_far (p := ⟨gb159, 1, none⟩) (by first | (rw [add_block]; exact hn162_1) | (show (Addr.add _ _).block ≠ _; rw [add_block]; exact hn162_1) | exact hn162_1) (.int .i64 ((rd_T66 l0 x17_1).f1.f0))).trans hx162_0; replace hx162_0 := (cell_far (p := ⟨gb159, 2, none⟩) (by first | (rw [add_block]; exact hn162_2) | (show (Addr.add _ _).block ≠ _; rw [add_block]; exact hn162_2) | exact hn162_2) (.int .i64 ((rd_T66 l0 x17_1).f1.f1))).trans hx162_0; replace hx162_0 := (cell_far (p := ⟨gb159, 3, none⟩) (by first | (rw [add_block]; exact hn162_3) | (show (Addr.add _ _).block ≠ _; rw [add_block]; exact hn162_3) | exact hn162_3) (.int .i64 ((rd_T66 l0 x17_1).f1.f2))).trans hx162_0; (try have hy162_0 := fun (n_ : Nat) => (show ((((((w26.drewN n_).setCell ⟨gb159, 0, none⟩ (.int .i64 ((rd_T66 l0 x17_1).f0))).setCell ⟨gb159, 1, none⟩ (.int .i64 ((rd_T66 l0 x17_1).f1.f0))).setCell ⟨gb159, 2, none⟩ (.int .i64 ((rd_T66 l0 x17_1).f1.f1))).setCell ⟨gb159, 3, none⟩ (.int .i64 ((rd_T66 l0 x17_1).f1.f2)))).cell? _ = some _ from hx162_0)); clear hn162_0; clear hn162_1; clear hn162_2; clear hn162_3; replace p162 := eq_true p162; replace q162 := eq_true q162) | (go_at_call 31; (with_reducible refine (strconv_Itoa_31.calls ((rd_T66 l0 x17_1).f1.f1) t163 _ A20.1).mono ?_); rintro e w' ⟨rfl, ⟨nd, rfl⟩⟩; (try first | exact ⟨rfl, _, World.drewN_drewN _ _ _⟩ | exact ⟨rfl, _, Eq.trans (World.drewN_drewN _ _ _) (congrArg (World.drewN _) (Nat.add_assoc _ _ _))⟩)))
       repeat (go_quiet (first | ((with_reducible refine gate_dst (N := 6) rfl ?_); refine boxE (cs := #[.int .i64 0, .int .i64 0, .int .i64 0, .int .i64 0]) (t := 66) ?_; intro gb159 hg w26 hbox hb; refine E4b HB.1 hg hbox hb ?_; clear HB; intro HB BK159 GW159 GE159; clear hb hbox hg; obtain ⟨hcz27_0, hcz27_1, hcz27_2, hcz27_3, hfz27_0, hfz27_1, hfz27_2, hfz27_3⟩ := cz4 BK159.1) | (go_at_call 31; (with_reducible refine (strconv_Itoa_31.calls ((rd_T66 l0 x17_1).f1.f2) t160 _ A11.1).mono ?_); rintro e w' ⟨rfl, ⟨nd, rfl⟩⟩; (try first | exact ⟨rfl, _, World.drewN_drewN _ _ _⟩ | exact ⟨rfl, _, Eq.trans (World.drewN_drewN _ _ _) (congrArg (World.drewN _) (Nat.add_assoc _ _ _))⟩); have p161 : 0 <= (((rd_T66 l0 x17_1).f0) : Int) := OD; have q161 : ((rd_T66 l0 x17_1).f0) < 2 := OD; have hx161_0 := glob_at HR1.1 ((rd_T66 l0 x17_1).f0) p161 (by have := q161; omega); have hn161_0 : (⟨0, 0, none⟩ : Addr).block ≠ gb159 := Nat.ne_of_lt (Nat.lt_of_lt_of_le (by have := World.block_lt_of_cell? _ _ hx161_0; first | rwa [add_block] at this | exact this) GW159.1); have hn161_1 : (⟨0, 0, none⟩ : Addr).block ≠ gb159 := Nat.ne_of_lt (Nat.lt_of_lt_of_le (by have := World.block_lt_of_cell? _ _ hx161_0; first | rwa [add_block] at this | exact this) GW159.1); have hn161_2 : (⟨0, 0, none⟩ : Addr).block ≠ gb159 := Nat.ne_of_lt (Nat.lt_of_lt_of_le (by have := World.block_lt_of_cell? _ _ hx161_0; first | rwa [add_block] at this | exact this) GW159.1); have hn161_3 : (⟨0, 0, none⟩ : Addr).block ≠ gb159 := Nat.ne_of_lt (Nat.lt_of_lt_of_le (by have := World.block_lt_of_cell? _ _ hx161_0; first | rwa [add_block] at this | exact this) GW159.1); replace hx161_0 := (HB.1.cell (World.block_lt_of_cell? w _ hx161_0)).trans hx161_0; replace hx161_0 := (cell_far (p := ⟨gb159, 0, none⟩) (by first | (rw [add_block]; exact hn161_0) | (show (Addr.add _ _).block ≠ _; rw [add_block]; exact hn161_0) | exact hn161_0) (.int .i64 ((rd_T66 l0 x17_1).f0))).trans hx161_0; replace hx161_0 := (cell_far (p := ⟨gb159, 1, none⟩) (by first | (rw [add_block]; exact hn161_1) | (show (Addr.add _ _).block ≠ _; rw [add_block]; exact hn161_1) | exact hn161_1) (.int .i64 ((rd_T66 l0 x17_1).f1.f0))).trans hx161_0; replace hx161_0 := (cell_far (p := ⟨gb159, 2, none⟩) (by first | (rw [add_block]; exact hn161_2) | (show (Addr.add _ _).block ≠ _; rw [add_block]; exact hn161_2) | exact hn161_2) (.int .i64 ((rd_T66 l0 x17_1).f1.f1))).trans hx161_0; replace hx161_0 := (cell_far (p := ⟨gb159, 3, none⟩) (by first | (rw [add_block]; exact hn161_3) | (show (Addr.add _ _).block ≠ _; rw [add_block]; exact hn161_3) | exact hn161_3) (.int .i64 ((rd_T66 l0 x17_1).f1.f2))).trans hx161_0; (try have hy161_0 := fun (n_ : Nat) => (show ((((((w26.drewN n_).setCell ⟨gb159, 0, none⟩ (.int .i64 ((rd_T66 l0 x17_1).f0))).setCell ⟨gb159, 1, none⟩ (.int .i64 ((rd_T66 l0 x17_1).f1.f0))).setCell ⟨gb159, 2, none⟩ (.int .i64 ((rd_T66 l0 x17_1).f1.f1))).setCell ⟨gb159, 3, none⟩ (.int .i64 ((rd_T66 l0 x17_1).f1.f2)))).cell? _ = some _ from hx161_0)); clear hn161_0; clear hn161_1; clear hn161_2; clear hn161_3; replace p161 := eq_true p161; replace q161 := eq_true q161; have p162 : 0 <= ((ji15) : Int) := OD; have q162 : (ji15) < 3 := OD; have hx162_0 := glob_at HR2.1 (ji15) p162 (by have := q162; omega); have hn162_0 : (⟨1, 0, none⟩ : Addr).block ≠ gb159 := Nat.ne_of_lt (Nat.lt_of_lt_of_le (by have := World.block_lt_of_cell? _ _ hx162_0; first | rwa [add_block] at this | exact this) GW159.1); have hn162_1 : (⟨1, 0, none⟩ : Addr).block ≠ gb159 := Nat.ne_of_lt (Nat.lt_of_lt_of_le (by have := World.block_lt_of_cell? _ _ hx162_0; first | rwa [add_block] at this | exact this) GW159.1); have hn162_2 : (⟨1, 0, none⟩ : Addr).block ≠ gb159 := Nat.ne_of_lt (Nat.lt_of_lt_of_le (by have := World.block_lt_of_cell? _ _ hx162_0; first | rwa [add_block] at this | exact this) GW159.1); have hn162_3 : (⟨1, 0, none⟩ : Addr).block ≠ gb159 := Nat.ne_of_lt (Nat.lt_of_lt_of_le (by have := World.block_lt_of_cell? _ _ hx162_0; first | rwa [add_block] at this | exact this) GW159.1); replace hx162_0 := (HB.1.cell (World.block_lt_of_cell? w _ hx162_0)).trans hx162_0; replace hx162_0 := (cell_far (p := ⟨gb159, 0, none⟩) (by first | (rw [add_block]; exact hn162_0) | (show (Addr.add _ _).block ≠ _; rw [add_block]; exact hn162_0) | exact hn162_0) (.int .i64 ((rd_T66 l0 x17_1).f0))).trans hx162_0; replace hx162_0 := (cell_far (p := ⟨gb159, 1, none⟩) (by first | (rw [add_block]; exact hn162_1) | (show (Addr.add _ _).block ≠ _; rw [add_block]; exact hn162_1) | exact hn162_1) (.int .i64 ((rd_T66 l0 x17_1).f1.f0))).trans hx162_0; replace hx162_0 := (cell_far (p := ⟨gb159, 2, none⟩) (by first | (rw [add_block]; exact hn162_2) | (show (Addr.add _ _).block ≠ _; rw [add_block]; exact hn162_2) | exact hn162_2) (.int .i64 ((rd_T66 l0 x17_1).f1.f1))).trans hx162_0; replace hx162_0 := (cell_far (p := ⟨gb159, 3, none⟩) (by first | (rw [add_block]; exact hn162_3) | (show (Addr.add _ _).block ≠ _; rw [add_block]; exact hn162_3) | exact hn162_3) (.int .i64 ((rd_T66 l0 x17_1).f1.f2))).trans hx162_0; (try have hy162_0 := fun (n_ : Nat) => (show ((((((w26.drewN n_).setCell ⟨gb159, 0, none⟩ (.int .i64 ((rd_T66 l0 x17_1).f0))).setCell ⟨gb159, 1, none⟩ (.int .i64 ((rd_T66 l0 x17_1).f1.f0))).setCell ⟨gb159, 2, none⟩ (.int .i64 ((rd_T66 l0 x17_1).f1.f1))).setCell ⟨gb159, 3, none⟩ (.int .i64 ((rd_T66 l0 x17_1).f1.f2)))).cell? _ = some _ from hx162_0)); clear hn162_0; clear hn162_1; clear hn162_2; clear hn162_3; replace p162 := eq_true p162; replace q162 := eq_true q162) | (go_at_call 31; (with_reducible refine (strconv_Itoa_31.calls ((rd_T66 l0 x17_1).f1.f1) t163 _ A20.1).mono ?_); rintro e w' ⟨rfl, ⟨nd, rfl⟩⟩; (try first | exact ⟨rfl, _, World.drewN_drewN _ _ _⟩ | exact ⟨rfl, _, Eq.trans (World.drewN_drewN _ _ _) (congrArg (World.drewN _) (Nat.add_assoc _ _ _))⟩))); try go_wp2_with (first | ((with_reducible refine gate_dst (N := 6) rfl ?_); refine boxE (cs := #[.int .i64 0, .int .i64 0, .int .i64 0, .int .i64 0]) (t := 66) ?_; intro gb159 hg w26 hbox hb; refine E4b HB.1 hg hbox hb ?_; clear HB; intro HB BK159 GW159 GE159; clear hb hbox hg; obtain ⟨hcz27_0, hcz27_1, hcz27_2, hcz27_3, hfz27_0, hfz27_1, hfz27_2, hfz27_3⟩ := cz4 BK159.1) | (go_at_call 31; (with_reducible refine (strconv_Itoa_31.calls ((rd_T66 l0 x17_1).f1.f2) t160 _ A11.1).mono ?_); rintro e w' ⟨rfl, ⟨nd, rfl⟩⟩; (try first | exact ⟨rfl, _, World.drewN_drewN _ _ _⟩ | exact ⟨rfl, _, Eq.trans (World.drewN_drewN _ _ _) (congrArg (World.drewN _) (Nat.add_assoc _ _ _))⟩); have p161 : 0 <= (((rd_T66 l0 x17_1).f0) : Int) := OD; have q161 : ((rd_T66 l0 x17_1).f0) < 2 := OD; have hx161_0 := glob_at HR1.1 ((rd_T66 l0 x17_1).f0) p161 (by have := q161; omega); have hn161_0 : (⟨0, 0, none⟩ : Addr).block ≠ gb159 := Nat.ne_of_lt (Nat.lt_of_lt_of_le (by have := World.block_lt_of_cell? _ _ hx161_0; first | rwa [add_block] at this | exact this) GW159.1); have hn161_1 : (⟨0, 0, none⟩ : Addr).block ≠ gb159 := Nat.ne_of_lt (Nat.lt_of_lt_of_le (by have := World.block_lt_of_cell? _ _ hx161_0; first | rwa [add_block] at this | exact this) GW159.1); have hn161_2 : (⟨0, 0, none⟩ : Addr).block ≠ gb159 := Nat.ne_of_lt (Nat.lt_of_lt_of_le (by have := World.block_lt_of_cell? _ _ hx161_0; first | rwa [add_block] at this | exact this) GW159.1); have hn161_3 : (⟨0, 0, none⟩ : Addr).block ≠ gb159 := Nat.ne_of_lt (Nat.lt_of_lt_of_le (by have := World.block_lt_of_cell? _ _ hx161_0; first | rwa [add_block] at this | exact this) GW159.1); replace hx161_0 := (HB.1.cell (World.block_lt_of_cell? w _ hx161_0)).trans hx161_0; replace hx161_0 := (cell_far (p := ⟨gb159, 0, none⟩) (by first | (rw [add_block]; exact hn161_0) | (show (Addr.add _ _).block ≠ _; rw [add_block]; exact hn161_0) | exact hn161_0) (.int .i64 ((rd_T66 l0 x17_1).f0))).trans hx161_0; replace hx161_0 := (cell_far (p := ⟨gb159, 1, none⟩) (by first | (rw [add_block]; exact hn161_1) | (show (Addr.add _ _).block ≠ _; rw [add_block]; exact hn161_1) | exact hn161_1) (.int .i64 ((rd_T66 l0 x17_1).f1.f0))).trans hx161_0; replace hx161_0 := (cell_far (p := ⟨gb159, 2, none⟩) (by first | (rw [add_block]; exact hn161_2) | (show (Addr.add _ _).block ≠ _; rw [add_block]; exact hn161_2) | exact hn161_2) (.int .i64 ((rd_T66 l0 x17_1).f1.f1))).trans hx161_0; replace hx161_0 := (cell_far (p := ⟨gb159, 3, none⟩) (by first | (rw [add_block]; exact hn161_3) | (show (Addr.add _ _).block ≠ _; rw [add_block]; exact hn161_3) | exact hn161_3) (.int .i64 ((rd_T66 l0 x17_1).f1.f2))).trans hx161_0; (try have hy161_0 := fun (n_ : Nat) => (show ((((((w26.drewN n_).setCell ⟨gb159, 0, none⟩ (.int .i64 ((rd_T66 l0 x17_1).f0))).setCell ⟨gb159, 1, none⟩ (.int .i64 ((rd_T66 l0 x17_1).f1.f0))).setCell ⟨gb159, 2, none⟩ (.int .i64 ((rd_T66 l0 x17_1).f1.f1))).setCell ⟨gb159, 3, none⟩ (.int .i64 ((rd_T66 l0 x17_1).f1.f2)))).cell? _ = some _ from hx161_0)); clear hn161_0; clear hn161_1; clear hn161_2; clear hn161_3; replace p161 := eq_true p161; replace q161 := eq_true q161; have p162 : 0 <= ((ji15) : Int) := OD; have q162 : (ji15) < 3 := OD; have hx162_0 := glob_at HR2.1 (ji15) p162 (by have := q162; omega); have hn162_0 : (⟨1, 0, none⟩ : Addr).block ≠ gb159 := Nat.ne_of_lt (Nat.lt_of_lt_of_le (by have := World.block_lt_of_cell? _ _ hx162_0; first | rwa [add_block] at this | exact this) GW159.1); have hn162_1 : (⟨1, 0, none⟩ : Addr).block ≠ gb159 := Nat.ne_of_lt (Nat.lt_of_lt_of_le (by have := World.block_lt_of_cell? _ _ hx162_0; first | rwa [add_block] at this | exact this) GW159.1); have hn162_2 : (⟨1, 0, none⟩ : Addr).block ≠ gb159 := Nat.ne_of_lt (Nat.lt_of_lt_of_le (by have := World.block_lt_of_cell? _ _ hx162_0; first | rwa [add_block] at this | exact this) GW159.1); have hn162_3 : (⟨1, 0, none⟩ : Addr).block ≠ gb159 := Nat.ne_of_lt (Nat.lt_of_lt_of_le (by have := World.block_lt_of_cell? _ _ hx162_0; first | rwa [add_block] at this | exact this) GW159.1); replace hx162_0 := (HB.1.cell (World.block_lt_of_cell? w _ hx162_0)).trans hx162_0; replace hx162_0 := (cell_far (p := ⟨gb159, 0, none⟩) (by first | (rw [add_block]; exact hn162_0) | (show (Addr.add _ _).block ≠ _; rw [add_block]; exact hn162_0) | exact hn162_0) (.int .i64 ((rd_T66 l0 x17_1).f0))).trans hx162_0; replace hx162_0 := (cell_far (p := ⟨gb159, 1, none⟩) (by first | (rw [add_block]; exact hn162_1) | (show (Addr.add _ _).block ≠ _; rw [add_block]; exact hn162_1) | exact hn162_1) (.int .i64 ((rd_T66 l0 x17_1).f1.f0))).trans hx162_0; replace hx162_0 := (cell_far (p := ⟨gb159, 2, none⟩) (by first | (rw [add_block]; exact hn162_2) | (show (Addr.add _ _).block ≠ _; rw [add_block]; exact hn162_2) | exact hn162_2) (.int .i64 ((rd_T66 l0 x17_1).f1.f1))).trans hx162_0; replace hx162_0 := (cell_far (p := ⟨gb159, 3, none⟩) (by first | (rw [add_block]; exact hn162_3) | (show (Addr.add _ _).block ≠ _; rw [add_block]; exact hn162_3) | exact hn162_3) (.int .i64 ((rd_T66 l0 x17_1).f1.f2))).trans hx162_0; (try have hy162_0 := fun (n_ : Nat) => (show ((((((w26.drewN n_).setCell ⟨gb159, 0, none⟩ (.int .i64 ((rd_T66 l0 x17_1).f0))).setCell ⟨gb159, 1, none⟩ (.int .i64 ((rd_T66 l0 x17_1).f1.f0))).setCell ⟨gb159, 2, none⟩ (.int .i64 ((rd_T66 l0 x17_1).f1.f1))).setCell ⟨gb159, 3, none⟩ (.int .i64 ((rd_T66 l0 x17_1).f1.f2)))).cell? _ = some _ from hx162_0)); clear hn162_0; clear hn162_1; clear hn162_2; clear hn162_3; replace p162 := eq_true p162; replace q162 := eq_true q162) | (go_at_call 31; (with_reducible refine (strconv_Itoa_31.calls ((rd_T66 l0 x17_1).f1.f1) t163 _ A20.1).mono ?_); rintro e w' ⟨rfl, ⟨nd, rfl⟩⟩; (try first | exact ⟨rfl, _, World.drewN_drewN _ _ _⟩ | exact ⟨rfl, _, Eq.trans (World.drewN_drewN _ _ _) (congrArg (World.drewN _) (Nat.add_assoc _ _ _))⟩))))
       go_roundg k1
       case measure => have := HK1.1; omega
       case rel => exact ⟨(x8_1 ++ ((((((((rdOf ByteArray.empty cNames ((rd_T66 l0 x17_1).f0)) ++ (⟨#[32]⟩ : ByteArray)) ++ (rdOf ByteArray.empty eNames (ji15))) ++ (⟨#[32]⟩ : ByteArray)) ++ t163) ++ (⟨#[32]⟩ : ByteArray)) ++ t160) ++ (⟨#[10]⟩ : ByteArray))), (wrap64 (x17_1 + 1)), (by first | rfl | (simp; done) | (simp only [<- hji15] <;> (first | rfl | simp)) | (simp [*]; done)), RG, H', ⟨by have := HK1.1; omega⟩, ⟨BL HB.1⟩⟩
     have c10b0 : decide (0 <= ((rd_T66 l0 x17_1).f1.f2)) = false := decide_eq_false c10
     clear c10
     replace H := ifN H; obtain ⟨c28b0, H⟩ := H
     replace H := ifN H; obtain ⟨c29b0, H⟩ := H
     replace H := ifP H; obtain ⟨c30, H⟩ := H
     have c30b0 := eq_true c30
     have c30b1 := decide_eq_true c30
     try have c30b2 : (9223372036854775807 < (rdOf ByteArray.empty cNames ((rd_T66 l0 x17_1).f0)).size + 1) = False := eq_false (Nat.not_lt.2 c30)
     obtain ⟨ji31, hji31⟩ : ∃ j_ : Int, (wrap64 (((rd_T66 l0 x17_1).f1.f0) - 1)) = j_ := ⟨_, rfl⟩
     replace H : (if 0 <= (ji31) then (if (ji31) < 3 then (if ((rdOf ByteArray.empty cNames ((rd_T66 l0 x17_1).f0)) ++ (⟨#[32]⟩ : ByteArray)).size + (rdOf ByteArray.empty eNames (ji31)).size <= 9223372036854775807 then (if (((rdOf ByteArray.empty cNames ((rd_T66 l0 x17_1).f0)) ++ (⟨#[32]⟩ : ByteArray)) ++ (rdOf ByteArray.empty eNames (ji31))).size + 1 <= 9223372036854775807 then ((strconv_Itoa_31.f ((rd_T66 l0 x17_1).f1.f1)).bind fun t166 => (if ((((rdOf ByteArray.empty cNames ((rd_T66 l0 x17_1).f0)) ++ (⟨#[32]⟩ : ByteArray)) ++ (rdOf ByteArray.empty eNames (ji31))) ++ (⟨#[32]⟩ : ByteArray)).size + t166.size <= 9223372036854775807 then (if (((((rdOf ByteArray.empty cNames ((rd_T66 l0 x17_1).f0)) ++ (⟨#[32]⟩ : ByteArray)) ++ (rdOf ByteArray.empty eNames (ji31))) ++ (⟨#[32]⟩ : ByteArray)) ++ t166).size + 1 <= 9223372036854775807 then (if ((((((rdOf ByteArray.empty cNames ((rd_T66 l0 x17_1).f0)) ++ (⟨#[32]⟩ : ByteArray)) ++ (rdOf ByteArray.empty eNames (ji31))) ++ (⟨#[32]⟩ : ByteArray)) ++ t166) ++ (⟨#[32]⟩ : ByteArray)).size + 1 <= 9223372036854775807 then (if (((((((rdOf ByteArray.empty cNames ((rd_T66 l0 x17_1).f0)) ++ (⟨#[32]⟩ : ByteArray)) ++ (rdOf ByteArray.empty eNames (ji31))) ++ (⟨#[32]⟩ : ByteArray)) ++ t166) ++ (⟨#[32]⟩ : ByteArray)) ++ (⟨#[45]⟩ : ByteArray)).size + 1 <= 9223372036854775807 then (if x8_1.size + ((((((((rdOf ByteArray.empty cNames ((rd_T66 l0 x17_1).f0)) ++ (⟨#[32]⟩ : ByteArray)) ++ (rdOf ByteArray.empty eNames (ji31))) ++ (⟨#[32]⟩ : ByteArray)) ++ t166) ++ (⟨#[32]⟩ : ByteArray)) ++ (⟨#[45]⟩ : ByteArray)) ++ (⟨#[10]⟩ : ByteArray)).size <= 9223372036854775807 then (impl_LogText.l0 k1 (x8_1 ++ ((((((((rdOf ByteArray.empty cNames ((rd_T66 l0 x17_1).f0)) ++ (⟨#[32]⟩ : ByteArray)) ++ (rdOf ByteArray.empty eNames (ji31))) ++ (⟨#[32]⟩ : ByteArray)) ++ t166) ++ (⟨#[32]⟩ : ByteArray)) ++ (⟨#[45]⟩ : ByteArray)) ++ (⟨#[10]⟩ : ByteArray))) l0 (l0.length : Int) (wrap64 (x17_1 + 1))) else (none)) else (none)) else (none)) else (none)) else (none))) else (none)) else (none)) else (none)) else (none)) = some (r1, r2) := by first | (rw [hji31] at H; exact H) | (simp only [hji31] at H ⊢; exact H)
     have hji31w : (IntKind.i64.wrap (((rd_T66 l0 x17_1).f1.f0) - 1)) = ji31 := (i64_w _).trans hji31
     replace H := ifN H; obtain ⟨c32b0, H⟩ := H
     replace H := ifN H; obtain ⟨c33b0, H⟩ := H
     replace H := ifP H; obtain ⟨c34, H⟩ := H
     have c34b0 := eq_true c34
     have c34b1 := decide_eq_true c34
     try have c34b2 : (9223372036854775807 < ((rdOf ByteArray.empty cNames ((rd_T66 l0 x17_1).f0)) ++ (⟨#[32]⟩ : ByteArray)).size + (rdOf ByteArray.empty eNames (ji31)).size) = False := eq_false (Nat.not_lt.2 c34)
     try have c34b3 : (9223372036854775807 < (rdOf ByteArray.empty cNames ((rd_T66 l0 x17_1).f0)).size + 1 + (rdOf ByteArray.empty eNames (ji31)).size) = False := by have h_ := c34b2; simp only [ByteArray.size_append] at h_; exact h_
     try have c34b3 : (9223372036854775807 < (rdOf ByteArray.empty cNames ((rd_T66 l0 x17_1).f0)).size + 1 + (rdOf ByteArray.empty eNames (ji31)).size) = False := by have h_ := c34b2; simp only [ByteArray.size_append] at h_; exact h_
     replace H := ifP H; obtain ⟨c35, H⟩ := H
     have c35b0 := eq_true c35
     have c35b1 := decide_eq_true c35
     try have c35b2 : (9223372036854775807 < (((rdOf ByteArray.empty cNames ((rd_T66 l0 x17_1).f0)) ++ (⟨#[32]⟩ : ByteArray)) ++ (rdOf ByteArray.empty eNames (ji31))).size + 1) = False := eq_false (Nat.not_lt.2 c35)
     try have c35b3 : (9223372036854775807 < (rdOf ByteArray.empty cNames ((rd_T66 l0 x17_1).f0)).size + 1 + (rdOf ByteArray.empty eNames (ji31)).size + 1) = False := by have h_ := c35b2; simp only [ByteArray.size_append] at h_; exact h_
     try have c35b3 : (9223372036854775807 < (rdOf ByteArray.empty cNames ((rd_T66 l0 x17_1).f0)).size + 1 + (rdOf ByteArray.empty eNames (ji31)).size + 1) = False := by have h_ := c35b2; simp only [ByteArray.size_append] at h_; exact h_
     replace H := bindA H; obtain ⟨t166, A36, H⟩ := H
     replace H := ifP H; obtain ⟨c37, H⟩ := H
     have c37b0 := eq_true c37
     have c37b1 := decide_eq_true c37
     try have c37b2 : (9223372036854775807 < ((((rdOf ByteArray.empty cNames ((rd_T66 l0 x17_1).f0)) ++ (⟨#[32]⟩ : ByteArray)) ++ (rdOf ByteArray.empty eNames (ji31))) ++ (⟨#[32]⟩ : ByteArray)).size + t166.size) = False := eq_false (Nat.not_lt.2 c37)
     try have c37b3 : (9223372036854775807 < (rdOf ByteArray.empty cNames ((rd_T66 l0 x17_1).f0)).size + 1 + (rdOf ByteArray.empty eNames (ji31)).size + 1 + t166.size) = False := by have h_ := c37b2; simp only [ByteArray.size_append] at h_; exact h_
     try have c37b3 : (9223372036854775807 < (rdOf ByteArray.empty cNames ((rd_T66 l0 x17_1).f0)).size + 1 + (rdOf ByteArray.empty eNames (ji31)).size + 1 + t166.size) = False := by have h_ := c37b2; simp only [ByteArray.size_append] at h_; exact h_
     replace H := ifP H; obtain ⟨c38, H⟩ := H
     have c38b0 := eq_true c38
     have c38b1 := decide_eq_true c38
     try have c38b2 : (9223372036854775807 < (((((rdOf ByteArray.empty cNames ((rd_T66 l0 x17_1).f0)) ++ (⟨#[32]⟩ : ByteArray)) ++ (rdOf ByteArray.empty eNames (ji31))) ++ (⟨#[32]⟩ : ByteArray)) ++ t166).size + 1) = False := eq_false (Nat.not_lt.2 c38)
     try have c38b3 : (9223372036854775807 < (rdOf ByteArray.empty cNames ((rd_T66 l0 x17_1).f0)).size + 1 + (rdOf ByteArray.empty eNames (ji31)).size + 1 + t166.size + 1) = False := by have h_ := c38b2; simp only [ByteArray.size_append] at h_; exact h_
     try have c38b3 : (9223372036854775807 < (rdOf ByteArray.empty cNames ((rd_T66 l0 x17_1).f0)).size + 1 + (rdOf ByteArray.empty eNames (ji31)).size + 1 + t166.size + 1) = False := by have h_ := c38b2; simp only [ByteArray.size_append] at h_; exact h_
     replace H := ifP H; obtain ⟨c39, H⟩ := H
     have c39b0 := eq_true c39
     have c39b1 := decide_eq_true c39
     try have c39b2 : (9223372036854775807 < ((((((rdOf ByteArray.empty cNames ((rd_T66 l0 x17_1).f0)) ++ (⟨#[32]⟩ : ByteArray)) ++ (rdOf ByteArray.empty eNames (ji31))) ++ (⟨#[32]⟩ : ByteArray)) ++ t166) ++ (⟨#[32]⟩ : ByteArray)).size + 1) = False := eq_false (Nat.not_lt.2 c39)
     try have c39b3 : (9223372036854775807 < (rdOf ByteArray.empty cNames ((rd_T66 l0 x17_1).f0)).size + 1 + (rdOf ByteArray.empty eNames (ji31)).size + 1 + t166.size + 1 + 1) = False := by have h_ := c39b2; simp only [ByteArray.size_append] at h_; exact h_
     try have c39b3 : (9223372036854775807 < (rdOf ByteArray.empty cNames ((rd_T66 l0 x17_1).f0)).size + 1 + (rdOf ByteArray.empty eNames (ji31)).size + 1 + t166.size + 1 + 1) = False := by have h_ := c39b2; simp only [ByteArray.size_append] at h_; exact h_
     replace H := ifP H; obtain ⟨c40, H⟩ := H
     have c40b0 := eq_true c40
     have c40b1 := decide_eq_true c40
     try have c40b2 : (9223372036854775807 < (((((((rdOf ByteArray.empty cNames ((rd_T66 l0 x17_1).f0)) ++ (⟨#[32]⟩ : ByteArray)) ++ (rdOf ByteArray.empty eNames (ji31))) ++ (⟨#[32]⟩ : ByteArray)) ++ t166) ++ (⟨#[32]⟩ : ByteArray)) ++ (⟨#[45]⟩ : ByteArray)).size + 1) = False := eq_false (Nat.not_lt.2 c40)
     try have c40b3 : (9223372036854775807 < (rdOf ByteArray.empty cNames ((rd_T66 l0 x17_1).f0)).size + 1 + (rdOf ByteArray.empty eNames (ji31)).size + 1 + t166.size + 1 + 1 + 1) = False := by have h_ := c40b2; simp only [ByteArray.size_append] at h_; exact h_
     try have c40b3 : (9223372036854775807 < (rdOf ByteArray.empty cNames ((rd_T66 l0 x17_1).f0)).size + 1 + (rdOf ByteArray.empty eNames (ji31)).size + 1 + t166.size + 1 + 1 + 1) = False := by have h_ := c40b2; simp only [ByteArray.size_append] at h_; exact h_
     replace H := ifP H; obtain ⟨c41, H⟩ := H
     have c41b0 := eq_true c41
     have c41b1 := decide_eq_true c41
     try have c41b2 : (9223372036854775807 < x8_1.size + ((((((((rdOf ByteArray.empty cNames ((rd_T66 l0 x17_1).f0)) ++ (⟨#[32]⟩ : ByteArray)) ++ (rdOf ByteArray.empty eNames (ji31))) ++ (⟨#[32]⟩ : ByteArray)) ++ t166) ++ (⟨#[32]⟩ : ByteArray)) ++ (⟨#[45]⟩ : ByteArray)) ++ (⟨#[10]⟩ : ByteArray)).size) = False := eq_false (Nat.not_lt.2 c41)
     try have c41b3 : (9223372036854775807 < x8_1.size + ((rdOf ByteArray.empty cNames ((rd_T66 l0 x17_1).f0)).size + 1 + (rdOf ByteArray.empty eNames (ji31)).size + 1 + t166.size + 1 + 1 + 1)) = False := by have h_ := c41b2; simp only [ByteArray.size_append] at h_; exact h_
     try have c41b3 : (9223372036854775807 < x8_1.size + ((rdOf ByteArray.empty cNames ((rd_T66 l0 x17_1).f0)).size + 1 + (rdOf ByteArray.empty eNames (ji31)).size + 1 + t166.size + 1 + 1 + 1)) = False := by have h_ := c41b2; simp only [ByteArray.size_append] at h_; exact h_
     have H' := Aside0.mk H
     clear H
     have p158 : 0 <= (x17_1 : Int) := OD
     have q158 : x17_1 < (l0.length : Int) := OD
     obtain ⟨ad158, e158, hx158_0, hx158_1, hx158_2, hx158_3⟩ := at_T66 HR0.1 x17_1 p158 q158
     cases e158
     replace hx158_0 := (HB.1.cell (World.block_lt_of_cell? w _ hx158_0)).trans hx158_0
     replace hx158_1 := (HB.1.cell (World.block_lt_of_cell? w _ hx158_1)).trans hx158_1
     replace hx158_2 := (HB.1.cell (World.block_lt_of_cell? w _ hx158_2)).trans hx158_2
     replace hx158_3 := (HB.1.cell (World.block_lt_of_cell? w _ hx158_3)).trans hx158_3
     replace p158 := eq_true p158
     replace q158 := eq_true q158
     go_wp2_with (first | ((with_reducible refine gate_dst (N := 6) rfl ?_); refine boxE (cs := #[.int .i64 0, .int .i64 0, .int .i64 0, .int .i64 0]) (t := 66) ?_; intro gb159 hg w42 hbox hb; refine E4b HB.1 hg hbox hb ?_; clear HB; intro HB BK159 GW159 GE159; clear hb hbox hg; obtain ⟨hcz43_0, hcz43_1, hcz43_2, hcz43_3, hfz43_0, hfz43_1, hfz43_2, hfz43_3⟩ := cz4 BK159.1; have p164 : 0 <= (((rd_T66 l0 x17_1).f0) : Int) := OD; have q164 : ((rd_T66 l0 x17_1).f0) < 2 := OD; have hx164_0 := glob_at HR1.1 ((rd_T66 l0 x17_1).f0) p164 (by have := q164; omega); have hn164_0 : (⟨0, 0, none⟩ : Addr).block ≠ gb159 := Nat.ne_of_lt (Nat.lt_of_lt_of_le (by have := World.block_lt_of_cell? _ _ hx164_0; first | rwa [add_block] at this | exact this) GW159.1); have hn164_1 : (⟨0, 0, none⟩ : Addr).block ≠ gb159 := Nat.ne_of_lt (Nat.lt_of_lt_of_le (by have := World.block_lt_of_cell? _ _ hx164_0; first | rwa [add_block] at this | exact this) GW159.1); have hn164_2 : (⟨0, 0, none⟩ : Addr).block ≠ gb159 := Nat.ne_of_lt (Nat.lt_of_lt_of_le (by have := World.block_lt_of_cell? _ _ hx164_0; first | rwa [add_block] at this | exact this) GW159.1); have hn164_3 : (⟨0, 0, none⟩ : Addr).block ≠ gb159 := Nat.ne_of_lt (Nat.lt_of_lt_of_le (by have := World.block_lt_of_cell? _ _ hx164_0; first | rwa [add_block] at this | exact this) GW159.1); replace hx164_0 := (HB.1.cell (World.block_lt_of_cell? w _ hx164_0)).trans hx164_0; replace hx164_0 := (cell_far (p := ⟨gb159, 0, none⟩) (by first | (rw [add_block]; exact hn164_0) | (show (Addr.add _ _).block ≠ _; rw [add_block]; exact hn164_0) | exact hn164_0) (.int .i64 ((rd_T66 l0 x17_1).f0))).trans hx164_0; replace hx164_0 := (cell_far (p := ⟨gb159, 1, none⟩) (by first | (rw [add_block]; exact hn164_1) | (show (Addr.add _ _).block ≠ _; rw [add_block]; exact hn164_1) | exact hn164_1) (.int .i64 ((rd_T66 l0 x17_1).f1.f0))).trans hx164_0; replace hx164_0 := (cell_far (p := ⟨gb159, 2, none⟩) (by first | (rw [add_block]; exact hn164_2) | (show (Addr.add _ _).block ≠ _; rw [add_block]; exact hn164_2) | exact hn164_2) (.int .i64 ((rd_T66 l0 x17_1).f1.f1))).trans hx164_0; replace hx164_0 := (cell_far (p := ⟨gb159, 3, none⟩) (by first | (rw [add_block]; exact hn164_3) | (show (Addr.add _ _).block ≠ _; rw [add_block]; exact hn164_3) | exact hn164_3) (.int .i64 ((rd_T66 l0 x17_1).f1.f2))).trans hx164_0; (try have hy164_0 := fun (n_ : Nat) => (show ((((((w42.drewN n_).setCell ⟨gb159, 0, none⟩ (.int .i64 ((rd_T66 l0 x17_1).f0))).setCell ⟨gb159, 1, none⟩ (.int .i64 ((rd_T66 l0 x17_1).f1.f0))).setCell ⟨gb159, 2, none⟩ (.int .i64 ((rd_T66 l0 x17_1).f1.f1))).setCell ⟨gb159, 3, none⟩ (.int .i64 ((rd_T66 l0 x17_1).f1.f2)))).cell? _ = some _ from hx164_0)); clear hn164_0; clear hn164_1; clear hn164_2; clear hn164_3; replace p164 := eq_true p164; replace q164 := eq_true q164; have p165 : 0 <= ((ji31) : Int) := OD; have q165 : (ji31) < 3 := OD; have hx165_0 := glob_at HR2.1 (ji31) p165 (by have := q165; omega); have hn165_0 : (⟨1, 0, none⟩ : Addr).block ≠ gb159 := Nat.ne_of_lt (Nat.lt_of_lt_of_le (by have := World.block_lt_of_cell? _ _ hx165_0; first | rwa [add_block] at this | exact this) GW159.1); have hn165_1 : (⟨1, 0, none⟩ : Addr).block ≠ gb159 := Nat.ne_of_lt (Nat.lt_of_lt_of_le (by have := World.block_lt_of_cell? _ _ hx165_0; first | rwa [add_block] at this | exact this) GW159.1); have hn165_2 : (⟨1, 0, none⟩ : Addr).block ≠ gb159 := Nat.ne_of_lt (Nat.lt_of_lt_of_le (by have := World.block_lt_of_cell? _ _ hx165_0; first | rwa [add_block] at this | exact this) GW159.1); have hn165_3 : (⟨1, 0, none⟩ : Addr).block ≠ gb159 := Nat.ne_of_lt (Nat.lt_of_lt_of_le (by have := World.block_lt_of_cell? _ _ hx165_0; first | rwa [add_block] at this | exact this) GW159.1); replace hx165_0 := (HB.1.cell (World.block_lt_of_cell? w _ hx165_0)).trans hx165_0; replace hx165_0 := (cell_far (p := ⟨gb159, 0, none⟩) (by first | (rw [add_block]; exact hn165_0) | (show (Addr.add _ _).block ≠ _; rw [add_block]; exact hn165_0) | exact hn165_0) (.int .i64 ((rd_T66 l0 x17_1).f0))).trans hx165_0; replace hx165_0 := (cell_far (p := ⟨gb159, 1, none⟩) (by first | (rw [add_block]; exact hn165_1) | (show (Addr.add _ _).block ≠ _; rw [add_block]; exact hn165_1) | exact hn165_1) (.int .i64 ((rd_T66 l0 x17_1).f1.f0))).trans hx165_0; replace hx165_0 := (cell_far (p := ⟨gb159, 2, none⟩) (by first | (rw [add_block]; exact hn165_2) | (show (Addr.add _ _).block ≠ _; rw [add_block]; exact hn165_2) | exact hn165_2) (.int .i64 ((rd_T66 l0 x17_1).f1.f1))).trans hx165_0; replace hx165_0 := (cell_far (p := ⟨gb159, 3, none⟩) (by first | (rw [add_block]; exact hn165_3) | (show (Addr.add _ _).block ≠ _; rw [add_block]; exact hn165_3) | exact hn165_3) (.int .i64 ((rd_T66 l0 x17_1).f1.f2))).trans hx165_0; (try have hy165_0 := fun (n_ : Nat) => (show ((((((w42.drewN n_).setCell ⟨gb159, 0, none⟩ (.int .i64 ((rd_T66 l0 x17_1).f0))).setCell ⟨gb159, 1, none⟩ (.int .i64 ((rd_T66 l0 x17_1).f1.f0))).setCell ⟨gb159, 2, none⟩ (.int .i64 ((rd_T66 l0 x17_1).f1.f1))).setCell ⟨gb159, 3, none⟩ (.int .i64 ((rd_T66 l0 x17_1).f1.f2)))).cell? _ = some _ from hx165_0)); clear hn165_0; clear hn165_1; clear hn165_2; clear hn165_3; replace p165 := eq_true p165; replace q165 := eq_true q165) | (go_at_call 31; (with_reducible refine (strconv_Itoa_31.calls ((rd_T66 l0 x17_1).f1.f1) t166 _ A36.1).mono ?_); rintro e w' ⟨rfl, ⟨nd, rfl⟩⟩; (try first | exact ⟨rfl, _, World.drewN_drewN _ _ _⟩ | exact ⟨rfl, _, Eq.trans (World.drewN_drewN _ _ _) (congrArg (World.drewN _) (Nat.add_assoc _ _ _))⟩)))
     repeat (go_quiet (first | ((with_reducible refine gate_dst (N := 6) rfl ?_); refine boxE (cs := #[.int .i64 0, .int .i64 0, .int .i64 0, .int .i64 0]) (t := 66) ?_; intro gb159 hg w42 hbox hb; refine E4b HB.1 hg hbox hb ?_; clear HB; intro HB BK159 GW159 GE159; clear hb hbox hg; obtain ⟨hcz43_0, hcz43_1, hcz43_2, hcz43_3, hfz43_0, hfz43_1, hfz43_2, hfz43_3⟩ := cz4 BK159.1; have p164 : 0 <= (((rd_T66 l0 x17_1).f0) : Int) := OD; have q164 : ((rd_T66 l0 x17_1).f0) < 2 := OD; have hx164_0 := glob_at HR1.1 ((rd_T66 l0 x17_1).f0) p164 (by have := q164; omega); have hn164_0 : (⟨0, 0, none⟩ : Addr).block ≠ gb159 := Nat.ne_of_lt (Nat.lt_of_lt_of_le (by have := World.block_lt_of_cell? _ _ hx164_0; first | rwa [add_block] at this | exact this) GW159.1); have hn164_1 : (⟨0, 0, none⟩ : Addr).block ≠ gb159 := Nat.ne_of_lt (Nat.lt_of_lt_of_le (by have := World.block_lt_of_cell? _ _ hx164_0; first | rwa [add_block] at this | exact this) GW159.1); have hn164_2 : (⟨0, 0, none⟩ : Addr).block ≠ gb159 := Nat.ne_of_lt (Nat.lt_of_lt_of_le (by have := World.block_lt_of_cell? _ _ hx164_0; first | rwa [add_block] at this | exact this) GW159.1); have hn164_3 : (⟨0, 0, none⟩ : Addr).block ≠ gb159 := Nat.ne_of_lt (Nat.lt_of_lt_of_le (by have := World.block_lt_of_cell? _ _ hx164_0; first | rwa [add_block] at this | exact this) GW159.1); replace hx164_0 := (HB.1.cell (World.block_lt_of_cell? w _ hx164_0)).trans hx164_0; replace hx164_0 := (cell_far (p := ⟨gb159, 0, none⟩) (by first | (rw [add_block]; exact hn164_0) | (show (Addr.add _ _).block ≠ _; rw [add_block]; exact hn164_0) | exact hn164_0) (.int .i64 ((rd_T66 l0 x17_1).f0))).trans hx164_0; replace hx164_0 := (cell_far (p := ⟨gb159, 1, none⟩) (by first | (rw [add_block]; exact hn164_1) | (show (Addr.add _ _).block ≠ _; rw [add_block]; exact hn164_1) | exact hn164_1) (.int .i64 ((rd_T66 l0 x17_1).f1.f0))).trans hx164_0; replace hx164_0 := (cell_far (p := ⟨gb159, 2, none⟩) (by first | (rw [add_block]; exact hn164_2) | (show (Addr.add _ _).block ≠ _; rw [add_block]; exact hn164_2) | exact hn164_2) (.int .i64 ((rd_T66 l0 x17_1).f1.f1))).trans hx164_0; replace hx164_0 := (cell_far (p := ⟨gb159, 3, none⟩) (by first | (rw [add_block]; exact hn164_3) | (show (Addr.add _ _).block ≠ _; rw [add_block]; exact hn164_3) | exact hn164_3) (.int .i64 ((rd_T66 l0 x17_1).f1.f2))).trans hx164_0; (try have hy164_0 := fun (n_ : Nat) => (show ((((((w42.drewN n_).setCell ⟨gb159, 0, none⟩ (.int .i64 ((rd_T66 l0 x17_1).f0))).setCell ⟨gb159, 1, none⟩ (.int .i64 ((rd_T66 l0 x17_1).f1.f0))).setCell ⟨gb159, 2, none⟩ (.int .i64 ((rd_T66 l0 x17_1).f1.f1))).setCell ⟨gb159, 3, none⟩ (.int .i64 ((rd_T66 l0 x17_1).f1.f2)))).cell? _ = some _ from hx164_0)); clear hn164_0; clear hn164_1; clear hn164_2; clear hn164_3; replace p164 := eq_true p164; replace q164 := eq_true q164; have p165 : 0 <= ((ji31) : Int) := OD; have q165 : (ji31) < 3 := OD; have hx165_0 := glob_at HR2.1 (ji31) p165 (by have := q165; omega); have hn165_0 : (⟨1, 0, none⟩ : Addr).block ≠ gb159 := Nat.ne_of_lt (Nat.lt_of_lt_of_le (by have := World.block_lt_of_cell? _ _ hx165_0; first | rwa [add_block] at this | exact this) GW159.1); have hn165_1 : (⟨1, 0, none⟩ : Addr).block ≠ gb159 := Nat.ne_of_lt (Nat.lt_of_lt_of_le (by have := World.block_lt_of_cell? _ _ hx165_0; first | rwa [add_block] at this | exact this) GW159.1); have hn165_2 : (⟨1, 0, none⟩ : Addr).block ≠ gb159 := Nat.ne_of_lt (Nat.lt_of_lt_of_le (by have := World.block_lt_of_cell? _ _ hx165_0; first | rwa [add_block] at this | exact this) GW159.1); have hn165_3 : (⟨1, 0, none⟩ : Addr).block ≠ gb159 := Nat.ne_of_lt (Nat.lt_of_lt_of_le (by have := World.block_lt_of_cell? _ _ hx165_0; first | rwa [add_block] at this | exact this) GW159.1); replace hx165_0 := (HB.1.cell (World.block_lt_of_cell? w _ hx165_0)).trans hx165_0; replace hx165_0 := (cell_far (p := ⟨gb159, 0, none⟩) (by first | (rw [add_block]; exact hn165_0) | (show (Addr.add _ _).block ≠ _; rw [add_block]; exact hn165_0) | exact hn165_0) (.int .i64 ((rd_T66 l0 x17_1).f0))).trans hx165_0; replace hx165_0 := (cell_far (p := ⟨gb159, 1, none⟩) (by first | (rw [add_block]; exact hn165_1) | (show (Addr.add _ _).block ≠ _; rw [add_block]; exact hn165_1) | exact hn165_1) (.int .i64 ((rd_T66 l0 x17_1).f1.f0))).trans hx165_0; replace hx165_0 := (cell_far (p := ⟨gb159, 2, none⟩) (by first | (rw [add_block]; exact hn165_2) | (show (Addr.add _ _).block ≠ _; rw [add_block]; exact hn165_2) | exact hn165_2) (.int .i64 ((rd_T66 l0 x17_1).f1.f1))).trans hx165_0; replace hx165_0 := (cell_far (p := ⟨gb159, 3, none⟩) (by first | (rw [add_block]; exact hn165_3) | (show (Addr.add _ _).block ≠ _; rw [add_block]; exact hn165_3) | exact hn165_3) (.int .i64 ((rd_T66 l0 x17_1).f1.f2))).trans hx165_0; (try have hy165_0 := fun (n_ : Nat) => (show ((((((w42.drewN n_).setCell ⟨gb159, 0, none⟩ (.int .i64 ((rd_T66 l0 x17_1).f0))).setCell ⟨gb159, 1, none⟩ (.int .i64 ((rd_T66 l0 x17_1).f1.f0))).setCell ⟨gb159, 2, none⟩ (.int .i64 ((rd_T66 l0 x17_1).f1.f1))).setCell ⟨gb159, 3, none⟩ (.int .i64 ((rd_T66 l0 x17_1).f1.f2)))).cell? _ = some _ from hx165_0)); clear hn165_0; clear hn165_1; clear hn165_2; clear hn165_3; replace p165 := eq_true p165; replace q165 := eq_true q165) | (go_at_call 31; (with_reducible refine (strconv_Itoa_31.calls ((rd_T66 l0 x17_1).f1.f1) t166 _ A36.1).mono ?_); rintro e w' ⟨rfl, ⟨nd, rfl⟩⟩; (try first | exact ⟨rfl, _, World.drewN_drewN _ _ _⟩ | exact ⟨rfl, _, Eq.trans (World.drewN_drewN _ _ _) (congrArg (World.drewN _) (Nat.add_assoc _ _ _))⟩))); try go_wp2_with (first | ((with_reducible refine gate_dst (N := 6) rfl ?_); refine boxE (cs := #[.int .i64 0, .int .i64 0, .int .i64 0, .int .i64 0]) (t := 66) ?_; intro gb159 hg w42 hbox hb; refine E4b HB.1 hg hbox hb ?_; clear HB; intro HB BK159 GW159 GE159; clear hb hbox hg; obtain ⟨hcz43_0, hcz43_1, hcz43_2, hcz43_3, hfz43_0, hfz43_1, hfz43_2, hfz43_3⟩ := cz4 BK159.1; have p164 : 0 <= (((rd_T66 l0 x17_1).f0) : Int) := OD; have q164 : ((rd_T66 l0 x17_1).f0) < 2 := OD; have hx164_0 := glob_at HR1.1 ((rd_T66 l0 x17_1).f0) p164 (by have := q164; omega); have hn164_0 : (⟨0, 0, none⟩ : Addr).block ≠ gb159 := Nat.ne_of_lt (Nat.lt_of_lt_of_le (by have := World.block_lt_of_cell? _ _ hx164_0; first | rwa [add_block] at this | exact this) GW159.1); have hn164_1 : (⟨0, 0, none⟩ : Addr).block ≠ gb159 := Nat.ne_of_lt (Nat.lt_of_lt_of_le (by have := World.block_lt_of_cell? _ _ hx164_0; first | rwa [add_block] at this | exact this) GW159.1); have hn164_2 : (⟨0, 0, none⟩ : Addr).block ≠ gb159 := Nat.ne_of_lt (Nat.lt_of_lt_of_le (by have := World.block_lt_of_cell? _ _ hx164_0; first | rwa [add_block] at this | exact this) GW159.1); have hn164_3 : (⟨0, 0, none⟩ : Addr).block ≠ gb159 := Nat.ne_of_lt (Nat.lt_of_lt_of_le (by have := World.block_lt_of_cell? _ _ hx164_0; first | rwa [add_block] at this | exact this) GW159.1); replace hx164_0 := (HB.1.cell (World.block_lt_of_cell? w _ hx164_0)).trans hx164_0; replace hx164_0 := (cell_far (p := ⟨gb159, 0, none⟩) (by first | (rw [add_block]; exact hn164_0) | (show (Addr.add _ _).block ≠ _; rw [add_block]; exact hn164_0) | exact hn164_0) (.int .i64 ((rd_T66 l0 x17_1).f0))).trans hx164_0; replace hx164_0 := (cell_far (p := ⟨gb159, 1, none⟩) (by first | (rw [add_block]; exact hn164_1) | (show (Addr.add _ _).block ≠ _; rw [add_block]; exact hn164_1) | exact hn164_1) (.int .i64 ((rd_T66 l0 x17_1).f1.f0))).trans hx164_0; replace hx164_0 := (cell_far (p := ⟨gb159, 2, none⟩) (by first | (rw [add_block]; exact hn164_2) | (show (Addr.add _ _).block ≠ _; rw [add_block]; exact hn164_2) | exact hn164_2) (.int .i64 ((rd_T66 l0 x17_1).f1.f1))).trans hx164_0; replace hx164_0 := (cell_far (p := ⟨gb159, 3, none⟩) (by first | (rw [add_block]; exact hn164_3) | (show (Addr.add _ _).block ≠ _; rw [add_block]; exact hn164_3) | exact hn164_3) (.int .i64 ((rd_T66 l0 x17_1).f1.f2))).trans hx164_0; (try have hy164_0 := fun (n_ : Nat) => (show ((((((w42.drewN n_).setCell ⟨gb159, 0, none⟩ (.int .i64 ((rd_T66 l0 x17_1).f0))).setCell ⟨gb159, 1, none⟩ (.int .i64 ((rd_T66 l0 x17_1).f1.f0))).setCell ⟨gb159, 2, none⟩ (.int .i64 ((rd_T66 l0 x17_1).f1.f1))).setCell ⟨gb159, 3, none⟩ (.int .i64 ((rd_T66 l0 x17_1).f1.f2)))).cell? _ = some _ from hx164_0)); clear hn164_0; clear hn164_1; clear hn164_2; clear hn164_3; replace p164 := eq_true p164; replace q164 := eq_true q164; have p165 : 0 <= ((ji31) : Int) := OD; have q165 : (ji31) < 3 := OD; have hx165_0 := glob_at HR2.1 (ji31) p165 (by have := q165; omega); have hn165_0 : (⟨1, 0, none⟩ : Addr).block ≠ gb159 := Nat.ne_of_lt (Nat.lt_of_lt_of_le (by have := World.block_lt_of_cell? _ _ hx165_0; first | rwa [add_block] at this | exact this) GW159.1); have hn165_1 : (⟨1, 0, none⟩ : Addr).block ≠ gb159 := Nat.ne_of_lt (Nat.lt_of_lt_of_le (by have := World.block_lt_of_cell? _ _ hx165_0; first | rwa [add_block] at this | exact this) GW159.1); have hn165_2 : (⟨1, 0, none⟩ : Addr).block ≠ gb159 := Nat.ne_of_lt (Nat.lt_of_lt_of_le (by have := World.block_lt_of_cell? _ _ hx165_0; first | rwa [add_block] at this | exact this) GW159.1); have hn165_3 : (⟨1, 0, none⟩ : Addr).block ≠ gb159 := Nat.ne_of_lt (Nat.lt_of_lt_of_le (by have := World.block_lt_of_cell? _ _ hx165_0; first | rwa [add_block] at this | exact this) GW159.1); replace hx165_0 := (HB.1.cell (World.block_lt_of_cell? w _ hx165_0)).trans hx165_0; replace hx165_0 := (cell_far (p := ⟨gb159, 0, none⟩) (by first | (rw [add_block]; exact hn165_0) | (show (Addr.add _ _).block ≠ _; rw [add_block]; exact hn165_0) | exact hn165_0) (.int .i64 ((rd_T66 l0 x17_1).f0))).trans hx165_0; replace hx165_0 := (cell_far (p := ⟨gb159, 1, none⟩) (by first | (rw [add_block]; exact hn165_1) | (show (Addr.add _ _).block ≠ _; rw [add_block]; exact hn165_1) | exact hn165_1) (.int .i64 ((rd_T66 l0 x17_1).f1.f0))).trans hx165_0; replace hx165_0 := (cell_far (p := ⟨gb159, 2, none⟩) (by first | (rw [add_block]; exact hn165_2) | (show (Addr.add _ _).block ≠ _; rw [add_block]; exact hn165_2) | exact hn165_2) (.int .i64 ((rd_T66 l0 x17_1).f1.f1))).trans hx165_0; replace hx165_0 := (cell_far (p := ⟨gb159, 3, none⟩) (by first | (rw [add_block]; exact hn165_3) | (show (Addr.add _ _).block ≠ _; rw [add_block]; exact hn165_3) | exact hn165_3) (.int .i64 ((rd_T66 l0 x17_1).f1.f2))).trans hx165_0; (try have hy165_0 := fun (n_ : Nat) => (show ((((((w42.drewN n_).setCell ⟨gb159, 0, none⟩ (.int .i64 ((rd_T66 l0 x17_1).f0))).setCell ⟨gb159, 1, none⟩ (.int .i64 ((rd_T66 l0 x17_1).f1.f0))).setCell ⟨gb159, 2, none⟩ (.int .i64 ((rd_T66 l0 x17_1).f1.f1))).setCell ⟨gb159, 3, none⟩ (.int .i64 ((rd_T66 l0 x17_1).f1.f2)))).cell? _ = some _ from hx165_0)); clear hn165_0; clear hn165_1; clear hn165_2; clear hn165_3; replace p165 := eq_true p165; replace q165 := eq_true q165) | (go_at_call 31; (with_reducible refine (strconv_Itoa_31.calls ((rd_T66 l0 x17_1).f1.f1) t166 _ A36.1).mono ?_); rintro e w' ⟨rfl, ⟨nd, rfl⟩⟩; (try first | exact ⟨rfl, _, World.drewN_drewN _ _ _⟩ | exact ⟨rfl, _, Eq.trans (World.drewN_drewN _ _ _) (congrArg (World.drewN _) (Nat.add_assoc _ _ _))⟩))))
     go_roundg k1
     case measure => have := HK1.1; omega
     case rel => exact ⟨(x8_1 ++ ((((((((rdOf ByteArray.empty cNames ((rd_T66 l0 x17_1).f0)) ++ (⟨#[32]⟩ : ByteArray)) ++ (rdOf ByteArray.empty eNames (ji31))) ++ (⟨#[32]⟩ : ByteArray)) ++ t166) ++ (⟨#[32]⟩ : ByteArray)) ++ (⟨#[45]⟩ : ByteArray)) ++ (⟨#[10]⟩ : ByteArray))), (wrap64 (x17_1 + 1)), (by first | rfl | (simp; done) | (simp only [<- hji31] <;> (first | rfl | simp)) | (simp [*]; done)), RG, H', ⟨by have := HK1.1; omega⟩, ⟨BL HB.1⟩⟩
   simp only [Option.some.injEq, Prod.mk.injEq] at H
   obtain ⟨rfl, rfl⟩ := H
   go_wp2
   repeat (go_quiet (fail); try go_wp2)
   go_ret2
   exact ⟨RF, BL HB.1⟩
 simp only [Option.some.injEq, Prod.mk.injEq] at H
 obtain ⟨rfl, rfl⟩ := H
 go_enter Tryd.func15, Tryd.ntmps15
 go_wp2_with (first | (go_at_call 37; (with_reducible refine (impl_IsLog.calls k _ _ l0 false _ ?side1 ?side2 A4.1).mono ?_); (case side1 => repeat (first | exact HR0.1 | (with_reducible refine C_alloc ?_ _) | (with_reducible refine C_drewN ?_ _) | (with_reducible refine C_drew ?_))); (case side2 => exact HC0.1); rintro e w44 ⟨rfl, hb⟩; refine E1 (bS HB.1 hb) ?_; clear HB; intro HB; (try clear hb)))
 repeat (go_quiet (first | (go_at_call 37; (with_reducible refine (impl_IsLog.calls k _ _ l0 false _ ?side1 ?side2 A4.1).mono ?_); (case side1 => repeat (first | exact HR0.1 | (with_reducible refine C_alloc ?_ _) | (with_reducible refine C_drewN ?_ _) | (with_reducible refine C_drew ?_))); (case side2 => exact HC0.1); rintro e w44 ⟨rfl, hb⟩; refine E1 (bS HB.1 hb) ?_; clear HB; intro HB; (try clear hb))); try go_wp2_with (first | (go_at_call 37; (with_reducible refine (impl_IsLog.calls k _ _ l0 false _ ?side1 ?side2 A4.1).mono ?_); (case side1 => repeat (first | exact HR0.1 | (with_reducible refine C_alloc ?_ _) | (with_reducible refine C_drewN ?_ _) | (with_reducible refine C_drew ?_))); (case side2 => exact HC0.1); rintro e w44 ⟨rfl, hb⟩; refine E1 (bS HB.1 hb) ?_; clear HB; intro HB; (try clear hb))))
 go_ret2
 exact ⟨RF, BL HB.1⟩


/-! ### laws_eqFall: function 59 -/
open Kd
def laws_eqFall.f (a0_0 : Int) (a0_1 : Int) (a0_2 : Int) (a1_0 : Int) (a1_1 : Int) (a1_2 : Int) : Option (Bool) := if a0_0 = a1_0 then (if a0_1 = a1_1 then (if a0_2 = a1_2 then (some true) else (some false)) else (some false)) else (some false)
theorem laws_eqFall.calls (a0_0 : Int) (a0_1 : Int) (a0_2 : Int) (a1_0 : Int) (a1_1 : Int) (a1_2 : Int) (r : Bool) (w : World) (h : laws_eqFall.f a0_0 a0_1 a0_2 a1_0 a1_1 a1_2 = some r) :
 Calls Tryd.prog 59 #[.agg #[.int .i64 a0_0, .int .i64 a0_1, .int .i64 a0_2], .agg #[.int .i64 a1_0, .int .i64 a1_1, .int .i64 a1_2]] w fun e w' => e = .returned (.bool r) /\ Below w.heap.size w w' := by
 have hu64 := Tryd.underlying64
 have HB := Aside0.mk (Below.refl w.heap.size w)
 have H := h
 clear h
 unfold laws_eqFall.f at H
 replace H := ifQ H; rcases H with ⟨c3, H⟩ | ⟨c3, H⟩
 · have c3b0 := beq_iff_eq.mpr c3
   have c3b1 := bne_eq_false_iff_eq.mpr c3
   clear c3
   replace H := ifQ H; rcases H with ⟨c4, H⟩ | ⟨c4, H⟩
   · have c4b0 := beq_iff_eq.mpr c4
     have c4b1 := bne_eq_false_iff_eq.mpr c4
     clear c4
     replace H := ifQ H; rcases H with ⟨c5, H⟩ | ⟨c5, H⟩
     · have c5b0 := beq_iff_eq.mpr c5
       have c5b1 := bne_eq_false_iff_eq.mpr c5
       clear c5
       obtain rfl := Option.some.inj H
       go_enter Tryd.func59, Tryd.ntmps59
       go_wp2_with (first | ((with_reducible refine gate_dst (N := 2) rfl ?_); refine boxE (cs := #[.int .i64 a0_0, .int .i64 a0_1, .int .i64 a0_2]) (t := 64) ?_; intro gb157 hg w6 hbox hb; refine E4b HB.1 hg hbox hb ?_; clear HB; intro HB BK157 GW157 GE157; clear hb hbox hg) | ((with_reducible refine gate_dst (N := 3) rfl ?_); refine boxE (cs := #[.int .i64 a1_0, .int .i64 a1_1, .int .i64 a1_2]) (t := 64) ?_; intro gb158 hg w7 hbox hb; refine E7 (bB BK157.1 hb) (bS HB.1 hb) (hbox) (gX HB.1 hg) (gX HB.1 hg) (nB BK157.1 hg) (nC BK157.1 hg) ?_; clear BK157 HB; intro BK157 HB BK158 GW158 GE158 NB157_158 NB158_157; clear hb hbox hg; have hnb8 := NB157_158.1; have hnc8 := NB158_157.1; obtain ⟨hcz9_0, hcz9_1, hcz9_2, hfz9_0, hfz9_1, hfz9_2⟩ := cz3 BK157.1; obtain ⟨hcz10_0, hcz10_1, hcz10_2, hfz10_0, hfz10_1, hfz10_2⟩ := cz3 BK158.1))
       go_ret
       exact ⟨RF, BL HB.1⟩
     have c5b0 := beq_eq_false_iff_ne.mpr c5
     have c5b1 := bne_iff_ne.mpr c5
     obtain rfl := Option.some.inj H
     go_enter Tryd.func59, Tryd.ntmps59
     go_wp2_with (first | ((with_reducible refine gate_dst (N := 2) rfl ?_); refine boxE (cs := #[.int .i64 a0_0, .int .i64 a0_1, .int .i64 a0_2]) (t := 64) ?_; intro gb157 hg w11 hbox hb; refine E4b HB.1 hg hbox hb ?_; clear HB; intro HB BK157 GW157 GE157; clear hb hbox hg) | ((with_reducible refine gate_dst (N := 3) rfl ?_); refine boxE (cs := #[.int .i64 a1_0, .int .i64 a1_1, .int .i64 a1_2]) (t := 64) ?_; intro gb158 hg w12 hbox hb; refine E7 (bB BK157.1 hb) (bS HB.1 hb) (hbox) (gX HB.1 hg) (gX HB.1 hg) (nB BK157.1 hg) (nC BK157.1 hg) ?_; clear BK157 HB; intro BK157 HB BK158 GW158 GE158 NB157_158 NB158_157; clear hb hbox hg; have hnb13 := NB157_158.1; have hnc13 := NB158_157.1; obtain ⟨hcz14_0, hcz14_1, hcz14_2, hfz14_0, hfz14_1, hfz14_2⟩ := cz3 BK157.1; obtain ⟨hcz15_0, hcz15_1, hcz15_2, hfz15_0, hfz15_1, hfz15_2⟩ := cz3 BK158.1))
     go_ret
     exact ⟨RF, BL HB.1⟩
   have c4b0 := beq_eq_false_iff_ne.mpr c4
   have c4b1 := bne_iff_ne.mpr c4
   obtain rfl := Option.some.inj H
   go_enter Tryd.func59, Tryd.ntmps59
   go_wp2_with (first | ((with_reducible refine gate_dst (N := 2) rfl ?_); refine boxE (cs := #[.int .i64 a0_0, .int .i64 a0_1, .int .i64 a0_2]) (t := 64) ?_; intro gb157 hg w16 hbox hb; refine E4b HB.1 hg hbox hb ?_; clear HB; intro HB BK157 GW157 GE157; clear hb hbox hg) | ((with_reducible refine gate_dst (N := 3) rfl ?_); refine boxE (cs := #[.int .i64 a1_0, .int .i64 a1_1, .int .i64 a1_2]) (t := 64) ?_; intro gb158 hg w17 hbox hb; refine E7 (bB BK157.1 hb) (bS HB.1 hb) (hbox) (gX HB.1 hg) (gX HB.1 hg) (nB BK157.1 hg) (nC BK157.1 hg) ?_; clear BK157 HB; intro BK157 HB BK158 GW158 GE158 NB157_158 NB158_157; clear hb hbox hg; have hnb18 := NB157_158.1; have hnc18 := NB158_157.1; obtain ⟨hcz19_0, hcz19_1, hcz19_2, hfz19_0, hfz19_1, hfz19_2⟩ := cz3 BK157.1; obtain ⟨hcz20_0, hcz20_1, hcz20_2, hfz20_0, hfz20_1, hfz20_2⟩ := cz3 BK158.1))
   go_ret
   exact ⟨RF, BL HB.1⟩
 have c3b0 := beq_eq_false_iff_ne.mpr c3
 have c3b1 := bne_iff_ne.mpr c3
 obtain rfl := Option.some.inj H
 go_enter Tryd.func59, Tryd.ntmps59
 go_wp2_with (first | ((with_reducible refine gate_dst (N := 2) rfl ?_); refine boxE (cs := #[.int .i64 a0_0, .int .i64 a0_1, .int .i64 a0_2]) (t := 64) ?_; intro gb157 hg w21 hbox hb; refine E4b HB.1 hg hbox hb ?_; clear HB; intro HB BK157 GW157 GE157; clear hb hbox hg) | ((with_reducible refine gate_dst (N := 3) rfl ?_); refine boxE (cs := #[.int .i64 a1_0, .int .i64 a1_1, .int .i64 a1_2]) (t := 64) ?_; intro gb158 hg w22 hbox hb; refine E7 (bB BK157.1 hb) (bS HB.1 hb) (hbox) (gX HB.1 hg) (gX HB.1 hg) (nB BK157.1 hg) (nC BK157.1 hg) ?_; clear BK157 HB; intro BK157 HB BK158 GW158 GE158 NB157_158 NB158_157; clear hb hbox hg; have hnb23 := NB157_158.1; have hnc23 := NB158_157.1; obtain ⟨hcz24_0, hcz24_1, hcz24_2, hfz24_0, hfz24_1, hfz24_2⟩ := cz3 BK157.1; obtain ⟨hcz25_0, hcz25_1, hcz25_2, hfz25_0, hfz25_1, hfz25_2⟩ := cz3 BK158.1))
 go_ret
 exact ⟨RF, BL HB.1⟩
/-! ### laws_eqLogEntry: function 38 -/
open Kd
def laws_eqLogEntry.f (a0_0 : Int) (a0_1 : Int) (a0_2 : Int) (a0_3 : Int) (a1_0 : Int) (a1_1 : Int) (a1_2 : Int) (a1_3 : Int) : Option (Bool) := if a0_0 = a1_0 then ((laws_eqFall.f a0_1 a0_2 a0_3 a1_1 a1_2 a1_3).bind fun t161 => (if t161 = true then (some true) else (some false))) else (some false)
theorem laws_eqLogEntry.calls (a0_0 : Int) (a0_1 : Int) (a0_2 : Int) (a0_3 : Int) (a1_0 : Int) (a1_1 : Int) (a1_2 : Int) (a1_3 : Int) (r : Bool) (w : World) (h : laws_eqLogEntry.f a0_0 a0_1 a0_2 a0_3 a1_0 a1_1 a1_2 a1_3 = some r) :
 Calls Tryd.prog 38 #[.agg #[.int .i64 a0_0, .int .i64 a0_1, .int .i64 a0_2, .int .i64 a0_3], .agg #[.int .i64 a1_0, .int .i64 a1_1, .int .i64 a1_2, .int .i64 a1_3]] w fun e w' => e = .returned (.bool r) /\ Below w.heap.size w w' := by
 have hu66 := Tryd.underlying66
 have hu64 := Tryd.underlying64
 have HB := Aside0.mk (Below.refl w.heap.size w)
 have H := h
 clear h
 unfold laws_eqLogEntry.f at H
 replace H := ifQ H; rcases H with ⟨c3, H⟩ | ⟨c3, H⟩
 · have c3b0 := beq_iff_eq.mpr c3
   have c3b1 := bne_eq_false_iff_eq.mpr c3
   clear c3
   replace H := bindA H; obtain ⟨t161, A4, H⟩ := H
   replace H := ifX H; rcases H with ⟨rfl, H⟩ | ⟨rfl, H⟩
   · obtain rfl := Option.some.inj H
     go_enter Tryd.func38, Tryd.ntmps38
     go_wp2_with (first | ((with_reducible refine gate_dst (N := 2) rfl ?_); refine boxE (cs := #[.int .i64 a0_0, .int .i64 a0_1, .int .i64 a0_2, .int .i64 a0_3]) (t := 66) ?_; intro gb159 hg w6 hbox hb; refine E4b HB.1 hg hbox hb ?_; clear HB; intro HB BK159 GW159 GE159; clear hb hbox hg) | ((with_reducible refine gate_dst (N := 3) rfl ?_); refine boxE (cs := #[.int .i64 a1_0, .int .i64 a1_1, .int .i64 a1_2, .int .i64 a1_3]) (t := 66) ?_; intro gb160 hg w7 hbox hb; refine E7 (bB BK159.1 hb) (bS HB.1 hb) (hbox) (gX HB.1 hg) (gX HB.1 hg) (nB BK159.1 hg) (nC BK159.1 hg) ?_; clear BK159 HB; intro BK159 HB BK160 GW160 GE160 NB159_160 NB160_159; clear hb hbox hg; have hnb8 := NB159_160.1; have hnc8 := NB160_159.1; obtain ⟨hcz9_0, hcz9_1, hcz9_2, hcz9_3, hfz9_0, hfz9_1, hfz9_2, hfz9_3⟩ := cz4 BK159.1; obtain ⟨hcz10_0, hcz10_1, hcz10_2, hcz10_3, hfz10_0, hfz10_1, hfz10_2, hfz10_3⟩ := cz4 BK160.1) | ((with_reducible refine gate_callee (f := 59) rfl ?_); refine goesM (N := (some 14)) #[.agg #[.int .i64 a0_1, .int .i64 a0_2, .int .i64 a0_3], .agg #[.int .i64 a1_1, .int .i64 a1_2, .int .i64 a1_3]] Tryd.func59 ?_; (with_reducible refine (laws_eqFall.calls a0_1 a0_2 a0_3 a1_1 a1_2 a1_3 true _ A4.1).mono ?_); rintro e w11 ⟨rfl, hb⟩; refine ⟨_, rfl, ?_⟩; refine E3 (bB BK159.1 hb) (bB BK160.1 hb) (bS HB.1 hb) ?_; clear BK159 BK160 HB; intro BK159 BK160 HB; (try clear hb)))
     go_ret
     exact ⟨RF, BL HB.1⟩
   obtain rfl := Option.some.inj H
   go_enter Tryd.func38, Tryd.ntmps38
   go_wp2_with (first | ((with_reducible refine gate_dst (N := 2) rfl ?_); refine boxE (cs := #[.int .i64 a0_0, .int .i64 a0_1, .int .i64 a0_2, .int .i64 a0_3]) (t := 66) ?_; intro gb159 hg w12 hbox hb; refine E4b HB.1 hg hbox hb ?_; clear HB; intro HB BK159 GW159 GE159; clear hb hbox hg) | ((with_reducible refine gate_dst (N := 3) rfl ?_); refine boxE (cs := #[.int .i64 a1_0, .int .i64 a1_1, .int .i64 a1_2, .int .i64 a1_3]) (t := 66) ?_; intro gb160 hg w13 hbox hb; refine E7 (bB BK159.1 hb) (bS HB.1 hb) (hbox) (gX HB.1 hg) (gX HB.1 hg) (nB BK159.1 hg) (nC BK159.1 hg) ?_; clear BK159 HB; intro BK159 HB BK160 GW160 GE160 NB159_160 NB160_159; clear hb hbox hg; have hnb14 := NB159_160.1; have hnc14 := NB160_159.1; obtain ⟨hcz15_0, hcz15_1, hcz15_2, hcz15_3, hfz15_0, hfz15_1, hfz15_2, hfz15_3⟩ := cz4 BK159.1; obtain ⟨hcz16_0, hcz16_1, hcz16_2, hcz16_3, hfz16_0, hfz16_1, hfz16_2, hfz16_3⟩ := cz4 BK160.1) | ((with_reducible refine gate_callee (f := 59) rfl ?_); refine goesM (N := (some 14)) #[.agg #[.int .i64 a0_1, .int .i64 a0_2, .int .i64 a0_3], .agg #[.int .i64 a1_1, .int .i64 a1_2, .int .i64 a1_3]] Tryd.func59 ?_; (with_reducible refine (laws_eqFall.calls a0_1 a0_2 a0_3 a1_1 a1_2 a1_3 false _ A4.1).mono ?_); rintro e w17 ⟨rfl, hb⟩; refine ⟨_, rfl, ?_⟩; refine E3 (bB BK159.1 hb) (bB BK160.1 hb) (bS HB.1 hb) ?_; clear BK159 BK160 HB; intro BK159 BK160 HB; (try clear hb)))
   go_ret
   exact ⟨RF, BL HB.1⟩
 have c3b0 := beq_eq_false_iff_ne.mpr c3
 have c3b1 := bne_iff_ne.mpr c3
 obtain rfl := Option.some.inj H
 go_enter Tryd.func38, Tryd.ntmps38
 go_wp2_with (first | ((with_reducible refine gate_dst (N := 2) rfl ?_); refine boxE (cs := #[.int .i64 a0_0, .int .i64 a0_1, .int .i64 a0_2, .int .i64 a0_3]) (t := 66) ?_; intro gb159 hg w18 hbox hb; refine E4b HB.1 hg hbox hb ?_; clear HB; intro HB BK159 GW159 GE159; clear hb hbox hg) | ((with_reducible refine gate_dst (N := 3) rfl ?_); refine boxE (cs := #[.int .i64 a1_0, .int .i64 a1_1, .int .i64 a1_2, .int .i64 a1_3]) (t := 66) ?_; intro gb160 hg w19 hbox hb; refine E7 (bB BK159.1 hb) (bS HB.1 hb) (hbox) (gX HB.1 hg) (gX HB.1 hg) (nB BK159.1 hg) (nC BK159.1 hg) ?_; clear BK159 HB; intro BK159 HB BK160 GW160 GE160 NB159_160 NB160_159; clear hb hbox hg; have hnb20 := NB159_160.1; have hnc20 := NB160_159.1; obtain ⟨hcz21_0, hcz21_1, hcz21_2, hcz21_3, hfz21_0, hfz21_1, hfz21_2, hfz21_3⟩ := cz4 BK159.1; obtain ⟨hcz22_0, hcz22_1, hcz22_2, hcz22_3, hfz22_0, hfz22_1, hfz22_2, hfz22_3⟩ := cz4 BK160.1))
 go_ret
 exact ⟨RF, BL HB.1⟩
/-! ### laws_eqLogEntryS: function 16 -/
open Kd
def laws_eqLogEntryS.l0 : Nat -> List (S66) -> List (S66) -> Int -> Option (Bool)
 | 0, _, _, _ => none
 | k + 1, x0, x1, x5 => if x5 < (x0.length : Int) then (if 0 <= x5 then (if x5 < (x1.length : Int) then ((laws_eqLogEntry.f ((rd_T66 x0 x5).f0) ((rd_T66 x0 x5).f1.f0) ((rd_T66 x0 x5).f1.f1) ((rd_T66 x0 x5).f1.f2) ((rd_T66 x1 x5).f0) ((rd_T66 x1 x5).f1.f0) ((rd_T66 x1 x5).f1.f1) ((rd_T66 x1 x5).f1.f2)).bind fun t164 => (if t164 = true then (laws_eqLogEntryS.l0 k x0 x1 (wrap64 (x5 + 1))) else (some false))) else (none)) else (none)) else (some true)
def laws_eqLogEntryS.f (k : Nat) (l0 : List (S66)) (l1 : List (S66)) : Option (Bool) := if (l0.length : Int) = (l1.length : Int) then (laws_eqLogEntryS.l0 k l0 l1 0) else (some false)
theorem laws_eqLogEntryS.mono_l : ∀ k, (∀ y0 y1 y2, LeO (laws_eqLogEntryS.l0 k y0 y1 y2) (laws_eqLogEntryS.l0 (k + 1) y0 y1 y2))
 | 0 => fun _ _ _ r h => by simp [laws_eqLogEntryS.l0] at h
 | k + 1 => by
  have ih0 := laws_eqLogEntryS.mono_l k
  intros
  first | unfold laws_eqLogEntryS.l0
  exact LM1 ih0
theorem laws_eqLogEntryS.mono : ∀ a0 a1 k, LeO (laws_eqLogEntryS.f k a0 a1) (laws_eqLogEntryS.f (k + 1) a0 a1) := by
 intro a0 a1 k
 have ih0 := laws_eqLogEntryS.mono_l k
 unfold laws_eqLogEntryS.f
 exact LM1 ih0
def laws_eqLogEntryS.T6 : Bool × List (List Nat × List Nat) := (true, [([], []), ([], []), ([0, 1], [0, 1]), ([2], [2]), ([], []), ([], []), ([4, 5], [4, 5]), ([6], [6]), ([3, 7], [3, 7]), ([8], [8])])
def laws_eqLogEntryS.B6 : List Nat := [0, 0, 3, 7, 0, 0, 48, 112, 255, 511]
theorem laws_eqLogEntryS.tab6 : rtab .any (opsOf Tryd.f16 6) = laws_eqLogEntryS.T6 := by kernel_rfl
theorem laws_eqLogEntryS.bits6 : waitsOk laws_eqLogEntryS.T6.2 laws_eqLogEntryS.B6 = true := by kernel_rfl
theorem laws_eqLogEntryS.calls (k : Nat) (A0 : Option Addr) (c0 : Nat) (l0 : List (S66)) (A1 : Option Addr) (c1 : Nat) (l1 : List (S66)) (r : Bool) (w : World) (hr0 : Kd.C k66 w A0 l0.length l0) (hc0 : l0.length <= c0) (hr1 : Kd.C k66 w A1 l1.length l1) (hc1 : l1.length <= c1) (h : laws_eqLogEntryS.f k l0 l1 = some r) :
 Calls Tryd.prog 16 #[.slice A0 l0.length c0, .slice A1 l1.length c1] w fun e w' => e = .returned (.bool r) /\ Below w.heap.size w w' := by
 have hu66 := Tryd.underlying66
 have HR0 := Aside0.mk hr0
 have HC0 := Aside0.mk hc0
 clear hr0 hc0
 have HR1 := Aside0.mk hr1
 have HC1 := Aside0.mk hc1
 clear hr1 hc1
 have HB := Aside0.mk (Below.refl w.heap.size w)
 have H := h
 clear h
 unfold laws_eqLogEntryS.f at H
 replace H := ifQ H; rcases H with ⟨c3, H⟩ | ⟨c3, H⟩
 · have c3b0 := beq_iff_eq.mpr c3
   have c3b1 := bne_eq_false_iff_eq.mpr c3
   have c3b2 : (l0.length == l1.length) = true := by first | simpa using c3 | (simp at c3 ⊢; omega)
   clear c3
   have H' := Aside0.mk H
   clear H
   go_enter Tryd.func16, Tryd.ntmps16
   go_wp2
   go_loopg [5] k (fun kq v5 w' => ∃ (x5_1 : Int), v5 = .int .i64 x5_1 /\ Aside0 (laws_eqLogEntryS.l0 kq l0 l1 x5_1 = some r) /\ Aside0 (kq <= k) /\ Aside0 (Below w.heap.size w w'))
   case atStart => exact ⟨(0), RG, H', ⟨Nat.le_refl _⟩, ⟨BL HB.1⟩⟩
   clear H'
   try clear c1; clear c3b0 c3b1 c3b2
   obtain ⟨x5_1, rfl, HA, HK1, HB⟩ := hrel
   cases gk with
   | zero => exact absurd HA.1 (by simp [laws_eqLogEntryS.l0])
   | succ k1 => ?_
   have H := HA.1
   clear HA
   simp only [laws_eqLogEntryS.l0] at H
   replace H := ifB H; rcases H with ⟨c4b0, H⟩ | ⟨c4b0, H⟩
   · replace H := ifN H; obtain ⟨c5b0, H⟩ := H
     replace H := ifN H; obtain ⟨c6b0, H⟩ := H
     replace H := bindA H; obtain ⟨t164, A7, H⟩ := H
     replace H := ifX H; rcases H with ⟨rfl, H⟩ | ⟨rfl, H⟩
     · have H' := Aside0.mk H
       clear H
       try go_wp2
       refine E1 (below_drew1 HB.1) ?_
       clear HB
       intro HB
       have p162 : 0 <= (x5_1 : Int) := OD
       have q162 : x5_1 < (l0.length : Int) := OD
       obtain ⟨ad162, e162, hx162_0, hx162_1, hx162_2, hx162_3⟩ := at_T66 HR0.1 x5_1 p162 q162
       have hw162_3 := hx162_3
       have hw162_2 := hx162_2
       have hw162_1 := hx162_1
       have hw162_0 := hx162_0
       cases e162
       replace hx162_0 := (HB.1.cell (World.block_lt_of_cell? w _ hx162_0)).trans hx162_0
       replace hx162_1 := (HB.1.cell (World.block_lt_of_cell? w _ hx162_1)).trans hx162_1
       replace hx162_2 := (HB.1.cell (World.block_lt_of_cell? w _ hx162_2)).trans hx162_2
       replace hx162_3 := (HB.1.cell (World.block_lt_of_cell? w _ hx162_3)).trans hx162_3
       replace p162 := eq_true p162
       replace q162 := eq_true q162
       have p163 : 0 <= (x5_1 : Int) := OD
       have q163 : x5_1 < (l1.length : Int) := OD
       obtain ⟨ad163, e163, hx163_0, hx163_1, hx163_2, hx163_3⟩ := at_T66 HR1.1 x5_1 p163 q163
       have hw163_3 := hx163_3
       have hw163_2 := hx163_2
       have hw163_1 := hx163_1
       have hw163_0 := hx163_0
       cases e163
       replace hx163_0 := (HB.1.cell (World.block_lt_of_cell? w _ hx163_0)).trans hx163_0
       replace hx163_1 := (HB.1.cell (World.block_lt_of_cell? w _ hx163_1)).trans hx163_1
       replace hx163_2 := (HB.1.cell (World.block_lt_of_cell? w _ hx163_2)).trans hx163_2
       replace hx163_3 := (HB.1.cell (World.block_lt_of_cell? w _ hx163_3)).trans hx163_3
       replace p163 := eq_true p163
       replace q163 := eq_true q163
       refine start_ (n := 10) (S := fun w' => w'.cell? (ad162.add ((x5_1).toNat * 4)) = some (.int .i64 ((rd_T66 l0 x5_1).f0)) /\ w'.cell? ⟨(ad162.add ((x5_1).toNat * 4)).block, (ad162.add ((x5_1).toNat * 4)).off + 1, none⟩ = some (.int .i64 ((rd_T66 l0 x5_1).f1.f0)) /\ w'.cell? ⟨(ad162.add ((x5_1).toNat * 4)).block, (ad162.add ((x5_1).toNat * 4)).off + 2, none⟩ = some (.int .i64 ((rd_T66 l0 x5_1).f1.f1)) /\ w'.cell? ⟨(ad162.add ((x5_1).toNat * 4)).block, (ad162.add ((x5_1).toNat * 4)).off + 3, none⟩ = some (.int .i64 ((rd_T66 l0 x5_1).f1.f2)) /\ w'.cell? (ad163.add ((x5_1).toNat * 4)) = some (.int .i64 ((rd_T66 l1 x5_1).f0)) /\ w'.cell? ⟨(ad163.add ((x5_1).toNat * 4)).block, (ad163.add ((x5_1).toNat * 4)).off + 1, none⟩ = some (.int .i64 ((rd_T66 l1 x5_1).f1.f0)) /\ w'.cell? ⟨(ad163.add ((x5_1).toNat * 4)).block, (ad163.add ((x5_1).toNat * 4)).off + 2, none⟩ = some (.int .i64 ((rd_T66 l1 x5_1).f1.f1)) /\ w'.cell? ⟨(ad163.add ((x5_1).toNat * 4)).block, (ad163.add ((x5_1).toNat * 4)).off + 3, none⟩ = some (.int .i64 ((rd_T66 l1 x5_1).f1.f2))) (ds := []) #[Zz,Zz,Zz,Zz,Zz,Zz,Zz,Zz,Zz,Zz] (by kernel_rfl) rfl rfl ⟨((HB.1.cell (World.block_lt_of_cell? w _ hw162_0)).trans hw162_0), ((HB.1.cell (World.block_lt_of_cell? w _ hw162_1)).trans hw162_1), ((HB.1.cell (World.block_lt_of_cell? w _ hw162_2)).trans hw162_2), ((HB.1.cell (World.block_lt_of_cell? w _ hw162_3)).trans hw162_3), ((HB.1.cell (World.block_lt_of_cell? w _ hw163_0)).trans hw163_0), ((HB.1.cell (World.block_lt_of_cell? w _ hw163_1)).trans hw163_1), ((HB.1.cell (World.block_lt_of_cell? w _ hw163_2)).trans hw163_2), ((HB.1.cell (World.block_lt_of_cell? w _ hw163_3)).trans hw163_3)⟩ (fun hHeld => ?_); refine with_tabW laws_eqLogEntryS.tab6 laws_eqLogEntryS.bits6 (fun HT_ HW_ => ?_)
       generalize wr.drew = w9 at HB hx162_0 hx162_1 hx162_2 hx162_3 hx163_0 hx163_1 hx163_2 hx163_3 hHeld ⊢
       refine pureF 0 (N := some 17) HT_.1 ?_
       refine pureF 1 (N := some 18) HT_.1 ?_
       refine pureF 2 (N := some 19) HT_.1 ?_
       refine pureF 4 (N := some 21) HT_.1 ?_
       refine pureF 5 (N := some 22) HT_.1 ?_
       refine pureF 6 (N := some 23) HT_.1 ?_
       refine takeE 3 (N := some 20) HT_.1 HW_.1 hHeld ?_
       refine takeE 7 (N := some 24) HT_.1 HW_.1 hHeld ?_
       refine one_ (i := 8) (N := some 25) #[Yy,Yy,Yy,Yy,Yy,Yy,Yy,Yy,Yy,Zz] rfl rfl (one_of HT_.1 (by kernel_rfl)) (by decide) (fun K hK => ?_)
       refine goes_ Tryd.func38 (by kernel_rfl) rfl #[.agg #[.int .i64 ((rd_T66 l0 x5_1).f0), .int .i64 ((rd_T66 l0 x5_1).f1.f0), .int .i64 ((rd_T66 l0 x5_1).f1.f1), .int .i64 ((rd_T66 l0 x5_1).f1.f2)], .agg #[.int .i64 ((rd_T66 l1 x5_1).f0), .int .i64 ((rd_T66 l1 x5_1).f1.f0), .int .i64 ((rd_T66 l1 x5_1).f1.f1), .int .i64 ((rd_T66 l1 x5_1).f1.f2)]] (by rfl) rfl rfl (by (try simp only [List.map_toArray, List.map_cons, List.map_nil]); first | done | rfl | (simp only [List.length_drop, List.length_take]; rfl)) ?_
       with_reducible refine (laws_eqLogEntry.calls ((rd_T66 l0 x5_1).f0) ((rd_T66 l0 x5_1).f1.f0) ((rd_T66 l0 x5_1).f1.f1) ((rd_T66 l0 x5_1).f1.f2) ((rd_T66 l1 x5_1).f0) ((rd_T66 l1 x5_1).f1.f0) ((rd_T66 l1 x5_1).f1.f1) ((rd_T66 l1 x5_1).f1.f2) true _ A7.1).mono ?_
       rintro e w10 ⟨rfl, hb⟩
       refine ⟨_, rfl, ?_⟩
       refine E1 (bS HB.1 hb) ?_
       clear HB
       intro HB
       (try clear hb)
       (try clear hb2)
       (try clear hk)
       (try clear hi)
       refine hK.out _ _ ⟨((HB.1.cell (World.block_lt_of_cell? w _ hw162_0)).trans hw162_0), ((HB.1.cell (World.block_lt_of_cell? w _ hw162_1)).trans hw162_1), ((HB.1.cell (World.block_lt_of_cell? w _ hw162_2)).trans hw162_2), ((HB.1.cell (World.block_lt_of_cell? w _ hw162_3)).trans hw162_3), ((HB.1.cell (World.block_lt_of_cell? w _ hw163_0)).trans hw163_0), ((HB.1.cell (World.block_lt_of_cell? w _ hw163_1)).trans hw163_1), ((HB.1.cell (World.block_lt_of_cell? w _ hw163_2)).trans hw163_2), ((HB.1.cell (World.block_lt_of_cell? w _ hw163_3)).trans hw163_3)⟩ (fun hHeld => ?_)
       clear hK K
       refine norm_ (a' := ?_) ?_ ?_
       rotate_left
       · show Act.put _ (some 25) _ = _
         simp only [Act.put, List.setIfInBounds_toArray, List.set_cons_zero, List.set_cons_succ, i64_w, i32_w]
         rfl
       refine pureF 9 (N := some 26) HT_.1 ?_
       refine done_ (done_of HT_.1 (by kernel_rfl)) ?_
       try go_wp2
       go_roundg k1
       case measure => have := HK1.1; omega
       case rel => exact ⟨(wrap64 (x5_1 + 1)), RG, H', ⟨by have := HK1.1; omega⟩, ⟨BL HB.1⟩⟩
     obtain rfl := Option.some.inj H
     try go_wp2
     refine E1 (below_drew1 HB.1) ?_
     clear HB
     intro HB
     have p162 : 0 <= (x5_1 : Int) := OD
     have q162 : x5_1 < (l0.length : Int) := OD
     obtain ⟨ad162, e162, hx162_0, hx162_1, hx162_2, hx162_3⟩ := at_T66 HR0.1 x5_1 p162 q162
     have hw162_3 := hx162_3
     have hw162_2 := hx162_2
     have hw162_1 := hx162_1
     have hw162_0 := hx162_0
     cases e162
     replace hx162_0 := (HB.1.cell (World.block_lt_of_cell? w _ hx162_0)).trans hx162_0
     replace hx162_1 := (HB.1.cell (World.block_lt_of_cell? w _ hx162_1)).trans hx162_1
     replace hx162_2 := (HB.1.cell (World.block_lt_of_cell? w _ hx162_2)).trans hx162_2
     replace hx162_3 := (HB.1.cell (World.block_lt_of_cell? w _ hx162_3)).trans hx162_3
     replace p162 := eq_true p162
     replace q162 := eq_true q162
     have p163 : 0 <= (x5_1 : Int) := OD
     have q163 : x5_1 < (l1.length : Int) := OD
     obtain ⟨ad163, e163, hx163_0, hx163_1, hx163_2, hx163_3⟩ := at_T66 HR1.1 x5_1 p163 q163
     have hw163_3 := hx163_3
     have hw163_2 := hx163_2
     have hw163_1 := hx163_1
     have hw163_0 := hx163_0
     cases e163
     replace hx163_0 := (HB.1.cell (World.block_lt_of_cell? w _ hx163_0)).trans hx163_0
     replace hx163_1 := (HB.1.cell (World.block_lt_of_cell? w _ hx163_1)).trans hx163_1
     replace hx163_2 := (HB.1.cell (World.block_lt_of_cell? w _ hx163_2)).trans hx163_2
     replace hx163_3 := (HB.1.cell (World.block_lt_of_cell? w _ hx163_3)).trans hx163_3
     replace p163 := eq_true p163
     replace q163 := eq_true q163
     refine start_ (n := 10) (S := fun w' => w'.cell? (ad162.add ((x5_1).toNat * 4)) = some (.int .i64 ((rd_T66 l0 x5_1).f0)) /\ w'.cell? ⟨(ad162.add ((x5_1).toNat * 4)).block, (ad162.add ((x5_1).toNat * 4)).off + 1, none⟩ = some (.int .i64 ((rd_T66 l0 x5_1).f1.f0)) /\ w'.cell? ⟨(ad162.add ((x5_1).toNat * 4)).block, (ad162.add ((x5_1).toNat * 4)).off + 2, none⟩ = some (.int .i64 ((rd_T66 l0 x5_1).f1.f1)) /\ w'.cell? ⟨(ad162.add ((x5_1).toNat * 4)).block, (ad162.add ((x5_1).toNat * 4)).off + 3, none⟩ = some (.int .i64 ((rd_T66 l0 x5_1).f1.f2)) /\ w'.cell? (ad163.add ((x5_1).toNat * 4)) = some (.int .i64 ((rd_T66 l1 x5_1).f0)) /\ w'.cell? ⟨(ad163.add ((x5_1).toNat * 4)).block, (ad163.add ((x5_1).toNat * 4)).off + 1, none⟩ = some (.int .i64 ((rd_T66 l1 x5_1).f1.f0)) /\ w'.cell? ⟨(ad163.add ((x5_1).toNat * 4)).block, (ad163.add ((x5_1).toNat * 4)).off + 2, none⟩ = some (.int .i64 ((rd_T66 l1 x5_1).f1.f1)) /\ w'.cell? ⟨(ad163.add ((x5_1).toNat * 4)).block, (ad163.add ((x5_1).toNat * 4)).off + 3, none⟩ = some (.int .i64 ((rd_T66 l1 x5_1).f1.f2))) (ds := []) #[Zz,Zz,Zz,Zz,Zz,Zz,Zz,Zz,Zz,Zz] (by kernel_rfl) rfl rfl ⟨((HB.1.cell (World.block_lt_of_cell? w _ hw162_0)).trans hw162_0), ((HB.1.cell (World.block_lt_of_cell? w _ hw162_1)).trans hw162_1), ((HB.1.cell (World.block_lt_of_cell? w _ hw162_2)).trans hw162_2), ((HB.1.cell (World.block_lt_of_cell? w _ hw162_3)).trans hw162_3), ((HB.1.cell (World.block_lt_of_cell? w _ hw163_0)).trans hw163_0), ((HB.1.cell (World.block_lt_of_cell? w _ hw163_1)).trans hw163_1), ((HB.1.cell (World.block_lt_of_cell? w _ hw163_2)).trans hw163_2), ((HB.1.cell (World.block_lt_of_cell? w _ hw163_3)).trans hw163_3)⟩ (fun hHeld => ?_); refine with_tabW laws_eqLogEntryS.tab6 laws_eqLogEntryS.bits6 (fun HT_ HW_ => ?_)
     generalize wr.drew = w11 at HB hx162_0 hx162_1 hx162_2 hx162_3 hx163_0 hx163_1 hx163_2 hx163_3 hHeld ⊢
     refine pureF 0 (N := some 17) HT_.1 ?_
     refine pureF 1 (N := some 18) HT_.1 ?_
     refine pureF 2 (N := some 19) HT_.1 ?_
     refine pureF 4 (N := some 21) HT_.1 ?_
     refine pureF 5 (N := some 22) HT_.1 ?_
     refine pureF 6 (N := some 23) HT_.1 ?_
     refine takeE 3 (N := some 20) HT_.1 HW_.1 hHeld ?_
     refine takeE 7 (N := some 24) HT_.1 HW_.1 hHeld ?_
     refine one_ (i := 8) (N := some 25) #[Yy,Yy,Yy,Yy,Yy,Yy,Yy,Yy,Yy,Zz] rfl rfl (one_of HT_.1 (by kernel_rfl)) (by decide) (fun K hK => ?_)
     refine goes_ Tryd.func38 (by kernel_rfl) rfl #[.agg #[.int .i64 ((rd_T66 l0 x5_1).f0), .int .i64 ((rd_T66 l0 x5_1).f1.f0), .int .i64 ((rd_T66 l0 x5_1).f1.f1), .int .i64 ((rd_T66 l0 x5_1).f1.f2)], .agg #[.int .i64 ((rd_T66 l1 x5_1).f0), .int .i64 ((rd_T66 l1 x5_1).f1.f0), .int .i64 ((rd_T66 l1 x5_1).f1.f1), .int .i64 ((rd_T66 l1 x5_1).f1.f2)]] (by rfl) rfl rfl (by (try simp only [List.map_toArray, List.map_cons, List.map_nil]); first | done | rfl | (simp only [List.length_drop, List.length_take]; rfl)) ?_
     with_reducible refine (laws_eqLogEntry.calls ((rd_T66 l0 x5_1).f0) ((rd_T66 l0 x5_1).f1.f0) ((rd_T66 l0 x5_1).f1.f1) ((rd_T66 l0 x5_1).f1.f2) ((rd_T66 l1 x5_1).f0) ((rd_T66 l1 x5_1).f1.f0) ((rd_T66 l1 x5_1).f1.f1) ((rd_T66 l1 x5_1).f1.f2) false _ A7.1).mono ?_
     rintro e w12 ⟨rfl, hb⟩
     refine ⟨_, rfl, ?_⟩
     refine E1 (bS HB.1 hb) ?_
     clear HB
     intro HB
     (try clear hb)
     (try clear hb2)
     (try clear hk)
     (try clear hi)
     refine hK.out _ _ ⟨((HB.1.cell (World.block_lt_of_cell? w _ hw162_0)).trans hw162_0), ((HB.1.cell (World.block_lt_of_cell? w _ hw162_1)).trans hw162_1), ((HB.1.cell (World.block_lt_of_cell? w _ hw162_2)).trans hw162_2), ((HB.1.cell (World.block_lt_of_cell? w _ hw162_3)).trans hw162_3), ((HB.1.cell (World.block_lt_of_cell? w _ hw163_0)).trans hw163_0), ((HB.1.cell (World.block_lt_of_cell? w _ hw163_1)).trans hw163_1), ((HB.1.cell (World.block_lt_of_cell? w _ hw163_2)).trans hw163_2), ((HB.1.cell (World.block_lt_of_cell? w _ hw163_3)).trans hw163_3)⟩ (fun hHeld => ?_)
     clear hK K
     refine norm_ (a' := ?_) ?_ ?_
     rotate_left
     · show Act.put _ (some 25) _ = _
       simp only [Act.put, List.setIfInBounds_toArray, List.set_cons_zero, List.set_cons_succ, i64_w, i32_w]
       rfl
     refine pureF 9 (N := some 26) HT_.1 ?_
     refine done_ (done_of HT_.1 (by kernel_rfl)) ?_
     try go_wp2
     go_ret
     exact ⟨RF, BL HB.1⟩
   obtain rfl := Option.some.inj H
   go_wp2
   go_ret
   exact ⟨RF, BL HB.1⟩
 have c3b0 := beq_eq_false_iff_ne.mpr c3
 have c3b1 := bne_iff_ne.mpr c3
 have c3b2 : (l0.length == l1.length) = false := by first | simpa using c3 | (simp at c3 ⊢; omega)
 obtain rfl := Option.some.inj H
 go_enter Tryd.func16, Tryd.ntmps16
 go_wp2
 go_ret
 exact ⟨RF, BL HB.1⟩
/-! ### laws_FnExactLogText: function 4 -/
open Kd
def laws_FnExactLogText.j0 : Nat -> List (S70) -> List (S66) -> Bool -> Option (Bool)
 | 0, _, _, _ => none
 | k + 1, x0, x6, x34 => if x34 = true then (some false) else ((laws_toLogEntryS.f k x0).bind fun t176 => ((laws_eqLogEntryS.f k x6 t176).bind fun t179 => (if t179 = true then (some true) else (some false))))
def laws_FnExactLogText.f (k : Nat) (l0 : List (S70)) : Option (Bool) := (laws_szLogEntryS.f l0 1048576).bind fun t165 => (if t165 < 0 then (some true) else ((laws_toLogEntryS.f k l0).bind fun t166 => ((spec_LogText.f k t166).bind fun bt169 => ((laws_toLogEntryS.f k l0).bind fun t171 => ((impl_LogText.f k t171).bind fun bt174 => (if bt174.1.toList = bt169.1.toList then (laws_FnExactLogText.j0 k l0 t171 (bt174.2 != bt169.2)) else (laws_FnExactLogText.j0 k l0 t171 true)))))))
theorem laws_FnExactLogText.mono_l : ∀ k, (∀ y0 y1 y2, LeO (laws_FnExactLogText.j0 k y0 y1 y2) (laws_FnExactLogText.j0 (k + 1) y0 y1 y2))
 | 0 => fun _ _ _ r h => by simp [laws_FnExactLogText.j0] at h
 | k + 1 => by
  have ih0 := laws_FnExactLogText.mono_l k
  intros
  first | unfold laws_FnExactLogText.j0
  exact LM5 ih0 impl_LogText.mono laws_eqLogEntryS.mono laws_toLogEntryS.mono spec_LogText.mono
theorem laws_FnExactLogText.mono : ∀ a0 k, LeO (laws_FnExactLogText.f k a0) (laws_FnExactLogText.f (k + 1) a0) := by
 intro a0 k
 have ih0 := laws_FnExactLogText.mono_l k
 unfold laws_FnExactLogText.f
 exact LM5 ih0 impl_LogText.mono laws_eqLogEntryS.mono laws_toLogEntryS.mono spec_LogText.mono
theorem laws_FnExactLogText.calls (k : Nat) (A0 : Option Addr) (c0 : Nat) (l0 : List (S70)) (w : World) (hr0 : Kd.C k70 w A0 l0.length l0) (hc0 : l0.length <= c0) (hG : Globs w) (h : laws_FnExactLogText.f k l0 = some true) :
 Calls Tryd.prog 4 #[.slice A0 l0.length c0] w fun e w' => e = .returned (.bool true) /\ Below w.heap.size w w' := by
 have HR0 := Aside0.mk hr0
 have HC0 := Aside0.mk hc0
 clear hr0 hc0
 have HB := Aside0.mk (Below.refl w.heap.size w)
 have H := h
 clear h
 unfold laws_FnExactLogText.f at H
 replace H := bindA H; obtain ⟨t165, A2, H⟩ := H
 replace H := ifB H; rcases H with ⟨c3b0, H⟩ | ⟨c3b0, H⟩
 · first | (obtain rfl := Option.some.inj H) | clear H
   go_enter Tryd.func4, Tryd.ntmps4
   go_wp2_with (first | ((with_reducible refine gate_callee (f := 12) rfl ?_); refine goesM (N := (some 11)) #[.slice A0 l0.length c0, .int .i64 1048576] Tryd.func12 ?_; (with_reducible refine (laws_szLogEntryS.calls _ _ l0 1048576 t165 _ ?side1 ?side2 A2.1).mono ?_); (case side1 => repeat (first | exact HR0.1 | (with_reducible refine C_alloc ?_ _) | (with_reducible refine C_drewN ?_ _) | (with_reducible refine C_drew ?_))); (case side2 => exact HC0.1); rintro e w' ⟨rfl, ⟨nd, rfl⟩⟩; refine ⟨_, rfl, ?_⟩))
   go_ret
   exact ⟨RF, BL HB.1⟩
 replace H := bindA H; obtain ⟨t166, A4, H⟩ := H
 replace H := bindA H; obtain ⟨⟨t169, t170⟩, A5, H⟩ := H
 dsimp only at H
 replace H := bindA H; obtain ⟨t171, A6, H⟩ := H
 replace H := bindA H; obtain ⟨⟨t174, t175⟩, A7, H⟩ := H
 dsimp only at H
 have HC8 := Aside0.mk H
 clear H
 go_enter Tryd.func4, Tryd.ntmps4
 go_upto_region 8 with (first | ((with_reducible refine gate_callee (f := 12) rfl ?_); refine goesM (N := (some 11)) #[.slice A0 l0.length c0, .int .i64 1048576] Tryd.func12 ?_; (with_reducible refine (laws_szLogEntryS.calls _ _ l0 1048576 t165 _ ?side1 ?side2 A2.1).mono ?_); (case side1 => repeat (first | exact HR0.1 | (with_reducible refine C_alloc ?_ _) | (with_reducible refine C_drewN ?_ _) | (with_reducible refine C_drew ?_))); (case side2 => exact HC0.1); rintro e w' ⟨rfl, ⟨nd, rfl⟩⟩; refine ⟨_, rfl, ?_⟩) | ((with_reducible refine gate_callee (f := 14) rfl ?_); refine goesM (N := (some 16)) #[.slice A0 l0.length c0] Tryd.func14 ?_; (with_reducible refine (laws_toLogEntryS.calls k _ _ l0 t166 _ ?side1 ?side2 A4.1).mono ?_); (case side1 => repeat (first | exact HR0.1 | (with_reducible refine C_alloc ?_ _) | (with_reducible refine C_drewN ?_ _) | (with_reducible refine C_drew ?_))); (case side2 => exact HC0.1); rintro e w9 ⟨v167, rfl, ho0, hb⟩; refine ⟨_, rfl, ?_⟩; refine E2 (R_lower ho0 (bZ HB.1)) (bS HB.1 hb) ?_; clear HB; intro HO168 HB; (try clear hb); (try clear ho0); obtain ⟨Ao10, co10, eo10⟩ := R_slice HO168.1; subst eo10) | ((with_reducible refine gate_callee (f := 13) rfl ?_); refine goesM (N := (some 17)) #[.slice Ao10 t166.length co10] Tryd.func13 ?_; (with_reducible refine (spec_LogText.calls k _ _ t166 t169 t170 _ ?side1 ?side2 A5.1).mono ?_); (case side1 => exact CB (R_reads' HO168.1).2.2); (case side2 => exact (R_reads' HO168.1).2.1); rintro e w11 ⟨rfl, hb⟩; refine ⟨_, rfl, ?_⟩; refine E2 (rB HO168.1 hb) (bS HB.1 hb) ?_; clear HO168 HB; intro HO168 HB; (try clear hb)) | ((with_reducible refine gate_callee (f := 14) rfl ?_); refine goesM (N := (some 21)) #[.slice A0 l0.length c0] Tryd.func14 ?_; (with_reducible refine (laws_toLogEntryS.calls k _ _ l0 t171 _ ?side1 ?side2 A6.1).mono ?_); (case side1 => exact CB (C_below HR0.1 HB.1)); (case side2 => exact HC0.1); rintro e w12 ⟨v172, rfl, ho0, hb⟩; refine ⟨_, rfl, ?_⟩; refine E3 (R_elder' (PR HO168.1) (R_base ho0) hb) (R_lower (R_new' ho0 (R_lt (PR HO168.1))) (bZ HB.1)) (bS HB.1 hb) ?_; clear HO168 HB; intro HO168 HO173 HB; (try clear hb); (try clear ho0); obtain ⟨Ao13, co13, eo13⟩ := R_slice HO173.1; subst eo13) | ((with_reducible refine gate_callee (f := 15) rfl ?_); refine goesM (N := (some 24)) #[.slice Ao13 t171.length co13] Tryd.func15 ?_; (with_reducible refine (impl_LogText.calls k _ _ t171 t174 t175 _ ?side1 ?side2 (hG.below (BL HB.1)) A7.1).mono ?_); (case side1 => exact CB (R_reads' HO173.1).2.2); (case side2 => exact (R_reads' HO173.1).2.1); rintro e w14 ⟨rfl, hb⟩; refine ⟨_, rfl, ?_⟩; refine E3 (rB HO168.1 hb) (rB HO173.1 hb) (bS HB.1 hb) ?_; clear HO168 HO173 HB; intro HO168 HO173 HB; (try clear hb)))
 (try simp only [Act.put, List.setIfInBounds_toArray, List.set_cons_zero, List.set_cons_succ])
 go_cut [34] (fun v34 wc => ∃ (kq : Nat) (x34_7 : Bool), v34 = .bool x34_7 /\ Aside0 (laws_FnExactLogText.j0 kq l0 t171 x34_7 = some true) /\ Aside0 (kq <= k) /\ Aside0 (Kd.R k66 66 wc w.heap.size (fun _ => True) (.slice Ao13 t171.length co13) t171) /\ Aside0 (Below w.heap.size w wc))
 case first =>
  have H := HC8.1
  clear HC8
  replace H := ifQ H; rcases H with ⟨c15, H⟩ | ⟨c15, H⟩
  · have c15b0 := beq_iff_eq.mpr c15
    have c15b1 := bne_eq_false_iff_eq.mpr c15
    clear c15
    (first | rw [c15b0] | (simp only [i64_w, i32_w]; rw [c15b0]) | skip)
    have H' := Aside0.mk H
    clear H
    go_wp2
    go_meet
    case rel => exact ⟨_, ((t175 != t170)), RG, H', ⟨by first | omega | exact Nat.le_refl _⟩, ⟨RPE (R_mono HO173.1 (fun _ hk => trivial))⟩, ⟨BL HB.1⟩⟩
  exact absurd H (by cases k <;> simp [laws_FnExactLogText.j0])
 clear HC8
 try clear c3b0
 obtain ⟨kq, x34_7, rfl, HA, HJ7, HO_6, HB⟩ := hcut
 cases kq with
 | zero => exact absurd HA.1 (by simp [laws_FnExactLogText.j0])
 | succ kj7 => ?_
 have H := HA.1
 clear HA
 simp only [laws_FnExactLogText.j0] at H
 replace H := ifF H (by simp); obtain ⟨rfl, H⟩ := H
 replace H := bindA H; obtain ⟨t176, A17, H⟩ := H
 replace H := bindA H; obtain ⟨t179, A18, H⟩ := H
 replace H := ifT H (by simp); obtain ⟨rfl, H⟩ := H
 first | (obtain rfl := Option.some.inj H) | clear H
 go_wp2_with (first | ((with_reducible refine gate_callee (f := 14) rfl ?_); refine goesM (N := (some 37)) #[.slice A0 l0.length c0] Tryd.func14 ?_; (with_reducible refine (laws_toLogEntryS.calls kj7 _ _ l0 t176 _ ?side1 ?side2 A17.1).mono ?_); (case side1 => exact CB (C_below HR0.1 HB.1)); (case side2 => exact HC0.1); rintro e w20 ⟨v177, rfl, ho0, hb⟩; refine ⟨_, rfl, ?_⟩; refine E3 (R_elder' (PR HO_6.1) (R_base ho0) hb) (R_lower (R_new' ho0 (R_lt (PR HO_6.1))) (bZ HB.1)) (bS HB.1 hb) ?_; clear HO_6 HB; intro HO_6 HO178 HB; (try clear hb); (try clear ho0); obtain ⟨Ao21, co21, eo21⟩ := R_slice HO178.1; subst eo21) | ((with_reducible refine gate_callee (f := 16) rfl ?_); refine goesM (N := (some 38)) #[.slice Ao13 t171.length co13, .slice Ao21 t176.length co21] Tryd.func16 ?_; (with_reducible refine (laws_eqLogEntryS.calls kj7 _ _ t171 _ _ t176 true _ ?side1 ?side2 ?side3 ?side4 A18.1).mono ?_); (case side1 => exact CB (R_reads' HO_6.1).2.2); (case side2 => exact (R_reads' HO_6.1).2.1); (case side3 => exact CB (R_reads' HO178.1).2.2); (case side4 => exact (R_reads' HO178.1).2.1); rintro e w22 ⟨rfl, hb⟩; refine ⟨_, rfl, ?_⟩; refine E3 (rB HO_6.1 hb) (rB HO178.1 hb) (bS HB.1 hb) ?_; clear HO_6 HO178 HB; intro HO_6 HO178 HB; (try clear hb)))
 go_ret
 exact ⟨RF, BL HB.1⟩
end Go.Proofs.YtfekgidcnidijaaDoor.P
