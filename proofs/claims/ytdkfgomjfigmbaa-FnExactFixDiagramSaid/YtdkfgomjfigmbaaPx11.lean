-- PRINTED by print.py (a twelfth state) out of the translation. Not trusted: Lean checks it.
import Derived.Test.YtdkfgomjfigmbaaPx0
namespace Go.Proofs.Ytdkfgomjfigmbaa.P
open Go.RowKit Go.Proofs.YtdkfgomjfigmbaaW.PrintWords Go.Proofs.YtdkfgomjfigmbaaW.PrintLast Go.Proofs.YtdkfgomjfigmbaaW.PrintMore
attribute [local go_sem] max2_int min2_int max_two min_two max_three min_three max_four min_four   -- for this text's walks alone
set_option linter.unusedVariables false
set_option linter.unusedSimpArgs false

/-! ### impl_diagramValue: function 68 -/
open Kd
def impl_diagramValue.l0 : Nat -> List Int -> Int -> Int -> List (S63) -> Int -> Option (Int)
 | 0, _, _, _, _, _ => none
 | k + 1, x1, x5, x377000, x377001, x377002 => if x5 > 1 then (if 0 <= (wrap64 (x5 - 2)) then (if (wrap64 (x5 - 2)) < (x377001.length : Int) then (if 0 <= ((rd_T63 x377001 (wrap64 (x5 - 2))).f0) then (if ((rd_T63 x377001 (wrap64 (x5 - 2))).f0) < (x1.length : Int) then (if (rd x1 ((rd_T63 x377001 (wrap64 (x5 - 2))).f0)) = 1 then (impl_diagramValue.l0 k x1 ((rd_T63 x377001 (wrap64 (x5 - 2))).f2) x377000 x377001 x377002) else (impl_diagramValue.l0 k x1 ((rd_T63 x377001 (wrap64 (x5 - 2))).f1) x377000 x377001 x377002)) else (none)) else (none)) else (none)) else (none)) else (some x5)
def impl_diagramValue.f (k : Nat) (a0_0 : Int) (l0_1 : List (S63)) (a0_2 : Int) (l1 : List Int) : Option (Int) := impl_diagramValue.l0 k l1 a0_2 a0_0 l0_1 a0_2
theorem impl_diagramValue.mono_l : ∀ k, (∀ y0 y1 y2 y3 y4, LeO (impl_diagramValue.l0 k y0 y1 y2 y3 y4) (impl_diagramValue.l0 (k + 1) y0 y1 y2 y3 y4))
 | 0 => fun _ _ _ _ _ r h => by simp [impl_diagramValue.l0] at h
 | k + 1 => by
  have ih0 := impl_diagramValue.mono_l k
  intros
  first | unfold impl_diagramValue.l0
  repeat' first | (with_reducible first | apply ih0 | exact LeO.refl _ | exact LeO.none _ | refine LeO.ite ?_ ?_ | refine LeO.bind ?_ (fun _ => ?_)) | exact LeO.none _ | refine LeO.ite ?_ ?_ | refine LeO.bind ?_ (fun _ => ?_)
theorem impl_diagramValue.mono : ∀ a0 a1 a2 a3 k, LeO (impl_diagramValue.f k a0 a1 a2 a3) (impl_diagramValue.f (k + 1) a0 a1 a2 a3) := by
 intro a0 a1 a2 a3 k
 have ih0 := impl_diagramValue.mono_l k
 unfold impl_diagramValue.f
 repeat' first | (with_reducible first | apply ih0 | exact LeO.refl _ | exact LeO.none _ | refine LeO.ite ?_ ?_ | refine LeO.bind ?_ (fun _ => ?_)) | exact LeO.none _ | refine LeO.ite ?_ ?_ | refine LeO.bind ?_ (fun _ => ?_)
set_option maxHeartbeats 8000000 in
set_option maxRecDepth 100000 in
theorem impl_diagramValue.calls (k : Nat) (a0_0 : Int) (A0_1 : Option Addr) (c0_1 : Nat) (l0_1 : List (S63)) (a0_2 : Int) (A1 : Option Addr) (c1 : Nat) (l1 : List Int) (r : Int) (w : World) (hr0_1 : Kd.C k63 w A0_1 l0_1.length l0_1) (hc0_1 : l0_1.length <= c0_1) (hr1 : Kd.C (Kd.int .i64) w A1 l1.length l1) (hc1 : l1.length <= c1) (h : impl_diagramValue.f k a0_0 l0_1 a0_2 l1 = some r) :
 Calls Try.prog 68 #[.agg #[.int .i64 a0_0, .slice A0_1 l0_1.length c0_1, .int .i64 a0_2], .slice A1 l1.length c1] w fun e w' => e = .returned (.int .i64 r) /\ Below w.heap.size w w' := by
 have hu29 := Try.underlying29
 have hu63 := Try.underlying63
 have HR0_1 := Aside0.mk hr0_1
 have HC0_1 := Aside0.mk hc0_1
 clear hr0_1 hc0_1
 have HR1 := Aside0.mk hr1
 have HC1 := Aside0.mk hc1
 clear hr1 hc1
 have HB := Aside0.mk (Below.refl w.heap.size w)
 have H := h
 clear h
 unfold impl_diagramValue.f at H
 have H' := Aside0.mk H
 clear H
 go_enter Try.func68, Try.ntmps68
 go_wp2_with (first | ((with_reducible refine gate_dst (N := 2) rfl ?_); refine boxE (cs := #[.int .i64 a0_0, .slice A0_1 l0_1.length c0_1, .int .i64 a0_2]) (t := 29) ?_; intro gb376 hg w3 hbox hb; refine E4b HB.1 hg hbox hb ?_; clear HB; intro HB BK376 GW376 GE376; clear hb hbox hg; obtain ⟨hcz4_0, hcz4_1, hcz4_2, hfz4_0, hfz4_1, hfz4_2⟩ := cz3 BK376.1))
 go_loopg [5] k (fun kq v5 w' => ∃ (x5_1 : Int), v5 = .int .i64 x5_1 /\ Aside0 (impl_diagramValue.l0 kq l1 x5_1 a0_0 l0_1 a0_2 = some r) /\ Aside0 (kq <= k) /\ Aside0 (w'.heap[gb376]? = some (.cells #[.int .i64 a0_0, (.slice A0_1 l0_1.length c0_1), .int .i64 a0_2] 29 (0, 0))) /\ Aside0 (Below w.heap.size w w'))
 case atStart => exact ⟨(a0_2), RG, H', ⟨Nat.le_refl _⟩, ⟨PB BK376.1⟩, ⟨BL HB.1⟩⟩
 clear H'
 try clear c1; clear hcz4_0 hcz4_1 hcz4_2 hfz4_0 hfz4_1 hfz4_2
 obtain ⟨x5_1, rfl, HA, HK1, BK376, HB⟩ := hrel
 cases gk with
 | zero => exact absurd HA.1 (by simp [impl_diagramValue.l0])
 | succ k1 => ?_
 have H := HA.1
 clear HA
 simp only [impl_diagramValue.l0] at H
 replace H := ifQ H; rcases H with ⟨c5, H⟩ | ⟨c5, H⟩
 · have c5b0 : decide (1 < x5_1) = true := decide_eq_true c5
   clear c5
   obtain ⟨ji6, hji6⟩ : ∃ j_ : Int, (wrap64 (x5_1 - 2)) = j_ := ⟨_, rfl⟩
   replace H : (if 0 <= (ji6) then (if (ji6) < (l0_1.length : Int) then (if 0 <= ((rd_T63 l0_1 (ji6)).f0) then (if ((rd_T63 l0_1 (ji6)).f0) < (l1.length : Int) then (if (rd l1 ((rd_T63 l0_1 (ji6)).f0)) = 1 then (impl_diagramValue.l0 k1 l1 ((rd_T63 l0_1 (ji6)).f2) a0_0 l0_1 a0_2) else (impl_diagramValue.l0 k1 l1 ((rd_T63 l0_1 (ji6)).f1) a0_0 l0_1 a0_2)) else (none)) else (none)) else (none)) else (none)) = some r := by first | (rw [hji6] at H; exact H) | (simp only [hji6] at H ⊢; exact H)
   have hji6w : (IntKind.i64.wrap (x5_1 - 2)) = ji6 := (i64_w _).trans hji6
   replace H := ifN H; obtain ⟨c7b0, H⟩ := H
   replace H := ifN H; obtain ⟨c8b0, H⟩ := H
   replace H := ifN H; obtain ⟨c9b0, H⟩ := H
   replace H := ifN H; obtain ⟨c10b0, H⟩ := H
   replace H := ifQ H; rcases H with ⟨c11, H⟩ | ⟨c11, H⟩
   · have c11b0 := beq_iff_eq.mpr c11
     have c11b1 := bne_eq_false_iff_eq.mpr c11
     clear c11
     have H' := Aside0.mk H
     clear H
     obtain ⟨hcz12_0, hcz12_1, hcz12_2, hfz12_0, hfz12_1, hfz12_2⟩ := cz3 BK376.1
     have p377 : 0 <= ((ji6) : Int) := OD
     have q377 : (ji6) < (l0_1.length : Int) := OD
     obtain ⟨ad377, e377, hx377_0, hx377_1, hx377_2⟩ := at_T63 HR0_1.1 (ji6) p377 q377
     cases e377
     replace hx377_0 := (HB.1.cell (World.block_lt_of_cell? w _ hx377_0)).trans hx377_0
     replace hx377_1 := (HB.1.cell (World.block_lt_of_cell? w _ hx377_1)).trans hx377_1
     replace hx377_2 := (HB.1.cell (World.block_lt_of_cell? w _ hx377_2)).trans hx377_2
     replace p377 := eq_true p377
     replace q377 := eq_true q377
     go_wp2_with (first | ((with_reducible refine gate_dst (N := 6) rfl ?_); refine boxE (cs := #[.int .i64 0, .int .i64 0, .int .i64 0]) (t := 63) ?_; intro gb378 hg w13 hbox hb; refine E7 (bB BK376.1 hb) (bS HB.1 hb) (hbox) (gX HB.1 hg) (gX HB.1 hg) (nB BK376.1 hg) (nC BK376.1 hg) ?_; clear BK376 HB; intro BK376 HB BK378 GW378 GE378 NB376_378 NB378_376; clear hb hbox hg; have hnb14 := NB378_376.1; have hnc14 := NB376_378.1; obtain ⟨hcz15_0, hcz15_1, hcz15_2, hfz15_0, hfz15_1, hfz15_2⟩ := cz3 BK378.1; have p379 : 0 <= (((rd_T63 l0_1 (ji6)).f0) : Int) := OD; have q379 : ((rd_T63 l0_1 (ji6)).f0) < (l1.length : Int) := OD; obtain ⟨ad379, e379, hx379_0⟩ := Kd.at_int HR1.1 ((rd_T63 l0_1 (ji6)).f0) p379 q379; cases e379; have hn379_0 : ad379.block ≠ gb378 := Nat.ne_of_lt (Nat.lt_of_lt_of_le (by have := World.block_lt_of_cell? _ _ hx379_0; first | rwa [add_block] at this | exact this) GW378.1); have hn379_1 : ad379.block ≠ gb378 := Nat.ne_of_lt (Nat.lt_of_lt_of_le (by have := World.block_lt_of_cell? _ _ hx379_0; first | rwa [add_block] at this | exact this) GW378.1); have hn379_2 : ad379.block ≠ gb378 := Nat.ne_of_lt (Nat.lt_of_lt_of_le (by have := World.block_lt_of_cell? _ _ hx379_0; first | rwa [add_block] at this | exact this) GW378.1); replace hx379_0 := (HB.1.cell (World.block_lt_of_cell? w _ hx379_0)).trans hx379_0; replace hx379_0 := (cell_far (p := ⟨gb378, 0, none⟩) (by first | (rw [add_block]; exact hn379_0) | (show (Addr.add _ _).block ≠ _; rw [add_block]; exact hn379_0) | exact hn379_0) (.int .i64 ((rd_T63 l0_1 (ji6)).f0))).trans hx379_0; replace hx379_0 := (cell_far (p := ⟨gb378, 1, none⟩) (by first | (rw [add_block]; exact hn379_1) | (show (Addr.add _ _).block ≠ _; rw [add_block]; exact hn379_1) | exact hn379_1) (.int .i64 ((rd_T63 l0_1 (ji6)).f1))).trans hx379_0; replace hx379_0 := (cell_far (p := ⟨gb378, 2, none⟩) (by first | (rw [add_block]; exact hn379_2) | (show (Addr.add _ _).block ≠ _; rw [add_block]; exact hn379_2) | exact hn379_2) (.int .i64 ((rd_T63 l0_1 (ji6)).f2))).trans hx379_0; clear hn379_0; clear hn379_1; clear hn379_2; replace p379 := eq_true p379; replace q379 := eq_true q379))
     go_roundg k1
     case measure => have := HK1.1; omega
     case rel => exact ⟨((rd_T63 l0_1 (ji6)).f2), (by first | rfl | (simp; done) | (simp only [<- hji6] <;> (first | rfl | simp)) | (simp [*]; done)), H', ⟨by have := HK1.1; omega⟩, ⟨by (with_reducible repeat (first | refine blk_drewN ?_ _ | refine blk_drew ?_ | refine blk_alloc ?_ _)); refine blk_far ?_ NB376_378.1 _; (with_reducible repeat (first | refine blk_drewN ?_ _ | refine blk_drew ?_ | refine blk_alloc ?_ _)); refine blk_far ?_ NB376_378.1 _; (with_reducible repeat (first | refine blk_drewN ?_ _ | refine blk_drew ?_ | refine blk_alloc ?_ _)); refine blk_far ?_ NB376_378.1 _; (with_reducible repeat (first | refine blk_drewN ?_ _ | refine blk_drew ?_ | refine blk_alloc ?_ _)); exact BK376.1⟩, ⟨BL HB.1⟩⟩
   have c11b0 := beq_eq_false_iff_ne.mpr c11
   have c11b1 := bne_iff_ne.mpr c11
   have H' := Aside0.mk H
   clear H
   obtain ⟨hcz16_0, hcz16_1, hcz16_2, hfz16_0, hfz16_1, hfz16_2⟩ := cz3 BK376.1
   have p377 : 0 <= ((ji6) : Int) := OD
   have q377 : (ji6) < (l0_1.length : Int) := OD
   obtain ⟨ad377, e377, hx377_0, hx377_1, hx377_2⟩ := at_T63 HR0_1.1 (ji6) p377 q377
   cases e377
   replace hx377_0 := (HB.1.cell (World.block_lt_of_cell? w _ hx377_0)).trans hx377_0
   replace hx377_1 := (HB.1.cell (World.block_lt_of_cell? w _ hx377_1)).trans hx377_1
   replace hx377_2 := (HB.1.cell (World.block_lt_of_cell? w _ hx377_2)).trans hx377_2
   replace p377 := eq_true p377
   replace q377 := eq_true q377
   go_wp2_with (first | ((with_reducible refine gate_dst (N := 6) rfl ?_); refine boxE (cs := #[.int .i64 0, .int .i64 0, .int .i64 0]) (t := 63) ?_; intro gb378 hg w17 hbox hb; refine E7 (bB BK376.1 hb) (bS HB.1 hb) (hbox) (gX HB.1 hg) (gX HB.1 hg) (nB BK376.1 hg) (nC BK376.1 hg) ?_; clear BK376 HB; intro BK376 HB BK378 GW378 GE378 NB376_378 NB378_376; clear hb hbox hg; have hnb18 := NB378_376.1; have hnc18 := NB376_378.1; obtain ⟨hcz19_0, hcz19_1, hcz19_2, hfz19_0, hfz19_1, hfz19_2⟩ := cz3 BK378.1; have p379 : 0 <= (((rd_T63 l0_1 (ji6)).f0) : Int) := OD; have q379 : ((rd_T63 l0_1 (ji6)).f0) < (l1.length : Int) := OD; obtain ⟨ad379, e379, hx379_0⟩ := Kd.at_int HR1.1 ((rd_T63 l0_1 (ji6)).f0) p379 q379; cases e379; have hn379_0 : ad379.block ≠ gb378 := Nat.ne_of_lt (Nat.lt_of_lt_of_le (by have := World.block_lt_of_cell? _ _ hx379_0; first | rwa [add_block] at this | exact this) GW378.1); have hn379_1 : ad379.block ≠ gb378 := Nat.ne_of_lt (Nat.lt_of_lt_of_le (by have := World.block_lt_of_cell? _ _ hx379_0; first | rwa [add_block] at this | exact this) GW378.1); have hn379_2 : ad379.block ≠ gb378 := Nat.ne_of_lt (Nat.lt_of_lt_of_le (by have := World.block_lt_of_cell? _ _ hx379_0; first | rwa [add_block] at this | exact this) GW378.1); replace hx379_0 := (HB.1.cell (World.block_lt_of_cell? w _ hx379_0)).trans hx379_0; replace hx379_0 := (cell_far (p := ⟨gb378, 0, none⟩) (by first | (rw [add_block]; exact hn379_0) | (show (Addr.add _ _).block ≠ _; rw [add_block]; exact hn379_0) | exact hn379_0) (.int .i64 ((rd_T63 l0_1 (ji6)).f0))).trans hx379_0; replace hx379_0 := (cell_far (p := ⟨gb378, 1, none⟩) (by first | (rw [add_block]; exact hn379_1) | (show (Addr.add _ _).block ≠ _; rw [add_block]; exact hn379_1) | exact hn379_1) (.int .i64 ((rd_T63 l0_1 (ji6)).f1))).trans hx379_0; replace hx379_0 := (cell_far (p := ⟨gb378, 2, none⟩) (by first | (rw [add_block]; exact hn379_2) | (show (Addr.add _ _).block ≠ _; rw [add_block]; exact hn379_2) | exact hn379_2) (.int .i64 ((rd_T63 l0_1 (ji6)).f2))).trans hx379_0; clear hn379_0; clear hn379_1; clear hn379_2; replace p379 := eq_true p379; replace q379 := eq_true q379))
   go_roundg k1
   case measure => have := HK1.1; omega
   case rel => exact ⟨((rd_T63 l0_1 (ji6)).f1), (by first | rfl | (simp; done) | (simp only [<- hji6] <;> (first | rfl | simp)) | (simp [*]; done)), H', ⟨by have := HK1.1; omega⟩, ⟨by (with_reducible repeat (first | refine blk_drewN ?_ _ | refine blk_drew ?_ | refine blk_alloc ?_ _)); refine blk_far ?_ NB376_378.1 _; (with_reducible repeat (first | refine blk_drewN ?_ _ | refine blk_drew ?_ | refine blk_alloc ?_ _)); refine blk_far ?_ NB376_378.1 _; (with_reducible repeat (first | refine blk_drewN ?_ _ | refine blk_drew ?_ | refine blk_alloc ?_ _)); refine blk_far ?_ NB376_378.1 _; (with_reducible repeat (first | refine blk_drewN ?_ _ | refine blk_drew ?_ | refine blk_alloc ?_ _)); exact BK376.1⟩, ⟨BL HB.1⟩⟩
 have c5b0 : decide (1 < x5_1) = false := decide_eq_false c5
 clear c5
 obtain rfl := Option.some.inj H
 go_wp2
 go_ret
 exact ⟨RF, BL HB.1⟩
end Go.Proofs.Ytdkfgomjfigmbaa.P
