-- PRINTED by print.py (a twelfth state) out of the translation. Not trusted: Lean checks it.
import Derived.Test.YthnehlphifegaaaPx0
import Derived.Test.YthnehlphifegaaaPx2
import Derived.Test.YthnehlphifegaaaPx6
import Derived.Test.YthnehlphifegaaaPx9
import Derived.Test.YthnehlphifegaaaPx10
namespace Go.Proofs.Ythnehlphifegaaa.P
open Go.RowKit Go.Proofs.YthnehlphifegaaaW.PrintWords Go.Proofs.YthnehlphifegaaaW.PrintLast Go.Proofs.YthnehlphifegaaaW.PrintMore
attribute [local go_sem] max2_int min2_int max_two min_two max_three min_three max_four min_four   -- for this text's walks alone
set_option linter.unusedVariables false
set_option linter.unusedSimpArgs false
set_option maxHeartbeats 8000000
set_option maxRecDepth 100000

/-! ### spec_ArrivalColumns: function 8 -/
open Kd
def spec_ArrivalColumns.l0 : Nat -> List Int -> List (S61) -> Int -> Int -> Option (List Int × Bool)
 | 0, _, _, _, _ => none
 | k + 1, x7, x19, x20, x21 => if x21 < x20 then (if 0 <= x21 then (if x21 < (x19.length : Int) then (if ((rd_T61 x19 x21).f0) = 1 then (if x7.length < 17592186044416 then (spec_ArrivalColumns.l0 k (x7 ++ [(rd_T61 x19 x21).f2]) x19 x20 (wrap64 (x21 + 1))) else (none)) else (spec_ArrivalColumns.l0 k x7 x19 x20 (wrap64 (x21 + 1)))) else (none)) else (none)) else (some (x7, true))
def spec_ArrivalColumns.f (k : Nat) (a0_0 : Int) (a0_1 : Int) (l0_2 : List (S98)) (a0_3 : Int) (a0_4 : Int) (a0_5 : Int) (a0_6 : Int) (a0_7 : Int) : Option (List Int × Bool) := (spec_maGood.f k a0_0 a0_1 l0_2 a0_3 a0_4 a0_5 a0_6 a0_7).bind fun t264 => (if t264 = true then ((spec_maRun.f k a0_0 a0_1 l0_2 a0_3 a0_4 a0_5 a0_6 a0_7 60).bind fun bt265 => (spec_ArrivalColumns.l0 k ([] : List Int) bt265.2.2.2.2.2.2.2.2.2 (bt265.2.2.2.2.2.2.2.2.2.length : Int) 0)) else (some (([] : List Int), false)))
theorem spec_ArrivalColumns.mono_l : ∀ k, (∀ y0 y1 y2 y3, LeO (spec_ArrivalColumns.l0 k y0 y1 y2 y3) (spec_ArrivalColumns.l0 (k + 1) y0 y1 y2 y3))
 | 0 => fun _ _ _ _ r h => by simp [spec_ArrivalColumns.l0] at h
 | k + 1 => by
  have ih0 := spec_ArrivalColumns.mono_l k
  intros
  first | unfold spec_ArrivalColumns.l0
  exact LM3 ih0 spec_maGood.mono spec_maRun.mono
theorem spec_ArrivalColumns.mono : ∀ a0 a1 a2 a3 a4 a5 a6 a7 k, LeO (spec_ArrivalColumns.f k a0 a1 a2 a3 a4 a5 a6 a7) (spec_ArrivalColumns.f (k + 1) a0 a1 a2 a3 a4 a5 a6 a7) := by
 intro a0 a1 a2 a3 a4 a5 a6 a7 k
 have ih0 := spec_ArrivalColumns.mono_l k
 unfold spec_ArrivalColumns.f
 exact LM3 ih0 spec_maGood.mono spec_maRun.mono
theorem spec_ArrivalColumns.calls (k : Nat) (a0_0 : Int) (a0_1 : Int) (A0_2 : Option Addr) (c0_2 : Nat) (l0_2 : List (S98)) (a0_3 : Int) (a0_4 : Int) (a0_5 : Int) (a0_6 : Int) (a0_7 : Int) (r1 : List Int) (r2 : Bool) (w : World) (hr0_2 : Kd.C k98 w A0_2 l0_2.length l0_2) (hc0_2 : l0_2.length <= c0_2) (h : spec_ArrivalColumns.f k a0_0 a0_1 l0_2 a0_3 a0_4 a0_5 a0_6 a0_7 = some (r1, r2)) :
 Calls Try.prog 8 #[.agg #[.int .i64 a0_0, .int .i64 a0_1, .slice A0_2 l0_2.length c0_2, .int .i64 a0_3, .int .i64 a0_4, .int .i64 a0_5, .int .i64 a0_6, .int .i64 a0_7]] w fun e w' => ∃ v0_ : Value, e = .returned (.tuple #[v0_, .bool r2]) /\ Kd.R (Kd.int .i64) 3 w' w.heap.size (fun _ => True) v0_ r1 /\ Below w.heap.size w w' := by
 have hu35 := Try.underlying35
 have hu61 := Try.underlying61
 have HR0_2 := Aside0.mk hr0_2
 have HC0_2 := Aside0.mk hc0_2
 clear hr0_2 hc0_2
 have HB := Aside0.mk (Below.refl w.heap.size w)
 have H := h
 clear h
 unfold spec_ArrivalColumns.f at H
 replace H := bindA H; obtain ⟨t264, A2, H⟩ := H
 replace H := ifX H; rcases H with ⟨rfl, H⟩ | ⟨rfl, H⟩
 · replace H := bindA H; obtain ⟨⟨t265, t266, t267, t270, t271, t272, t273, t274, t275, t278⟩, A4, H⟩ := H
   dsimp only at H
   have H' := Aside0.mk H
   clear H
   go_enter Try.func8, Try.ntmps8
   go_wp2_with (first | ((with_reducible refine gate_dst (N := 1) rfl ?_); refine boxE (cs := #[.int .i64 a0_0, .int .i64 a0_1, .slice A0_2 l0_2.length c0_2, .int .i64 a0_3, .int .i64 a0_4, .int .i64 a0_5, .int .i64 a0_6, .int .i64 a0_7]) (t := 35) ?_; intro gb263 hg w5 hbox hb; refine E4b HB.1 hg hbox hb ?_; clear HB; intro HB BK263 GW263 GE263; clear hb hbox hg; obtain ⟨hcz6_0, hcz6_1, hcz6_2, hcz6_3, hcz6_4, hcz6_5, hcz6_6, hcz6_7, hfz6_0, hfz6_1, hfz6_2, hfz6_3, hfz6_4, hfz6_5, hfz6_6, hfz6_7⟩ := cz8 BK263.1) | ((with_reducible refine gate_callee (f := 29) rfl ?_); refine goesM (N := (some 11)) #[.agg #[.int .i64 a0_0, .int .i64 a0_1, .slice A0_2 l0_2.length c0_2, .int .i64 a0_3, .int .i64 a0_4, .int .i64 a0_5, .int .i64 a0_6, .int .i64 a0_7]] Try.func29 ?_; (with_reducible refine (spec_maGood.calls k a0_0 a0_1 _ _ l0_2 a0_3 a0_4 a0_5 a0_6 a0_7 true _ ?side1 ?side2 A2.1).mono ?_); (case side1 => exact CB (C_below HR0_2.1 HB.1)); (case side2 => exact HC0_2.1); rintro e w7 ⟨rfl, hb⟩; refine ⟨_, rfl, ?_⟩; refine E2 (bB BK263.1 hb) (bS HB.1 hb) ?_; clear BK263 HB; intro BK263 HB; (try clear hb); obtain ⟨hcz8_0, hcz8_1, hcz8_2, hcz8_3, hcz8_4, hcz8_5, hcz8_6, hcz8_7, hfz8_0, hfz8_1, hfz8_2, hfz8_3, hfz8_4, hfz8_5, hfz8_6, hfz8_7⟩ := cz8 BK263.1) | ((with_reducible refine gate_callee (f := 30) rfl ?_); refine goesM (N := (some 15)) #[.agg #[.int .i64 a0_0, .int .i64 a0_1, .slice A0_2 l0_2.length c0_2, .int .i64 a0_3, .int .i64 a0_4, .int .i64 a0_5, .int .i64 a0_6, .int .i64 a0_7], .int .i64 60] Try.func30 ?_; (with_reducible refine (spec_maRun.calls k a0_0 a0_1 _ _ l0_2 a0_3 a0_4 a0_5 a0_6 a0_7 60 t265 t266 t267 t270 t271 t272 t273 t274 t275 t278 _ ?side1 ?side2 A4.1).mono ?_); (case side1 => exact CB (C_below HR0_2.1 HB.1)); (case side2 => exact HC0_2.1); rintro e w9 ⟨v268, v276, v279, rfl, ho0, ho1, ho2, hb⟩; refine ⟨_, rfl, ?_⟩; refine E5 (R_lower ho0 (bZ HB.1)) (R_lower ho1 (bZ HB.1)) (R_lower ho2 (bZ HB.1)) (bB BK263.1 hb) (bS HB.1 hb) ?_; clear BK263 HB; intro HO269 HO277 HO280 BK263 HB; (try clear hb); (try clear ho0); (try clear ho1); (try clear ho2)) | ((with_reducible refine gate_dst (N := 4) rfl ?_); refine boxE (cs := #[.int .i64 0, .int .i64 0, .slice none 0 0, .int .i64 0, .int .i64 0, .int .i64 0, .int .i64 0, .int .i64 0]) (t := 35) ?_; intro gb281 hg w10 hbox hb; refine E10 (rB HO269.1 hb) (rB HO277.1 hb) (rB HO280.1 hb) (bB BK263.1 hb) (bS HB.1 hb) (hbox) (gX HB.1 hg) (gX HB.1 hg) (nB BK263.1 hg) (nC BK263.1 hg) ?_; clear HO269 HO277 HO280 BK263 HB; intro HO269 HO277 HO280 BK263 HB BK281 GW281 GE281 NB263_281 NB281_263; clear hb hbox hg; have hnb11 := NB281_263.1; have hnc11 := NB263_281.1; obtain ⟨hcz12_0, hcz12_1, hcz12_2, hcz12_3, hcz12_4, hcz12_5, hcz12_6, hcz12_7, hfz12_0, hfz12_1, hfz12_2, hfz12_3, hfz12_4, hfz12_5, hfz12_6, hfz12_7⟩ := cz8 BK281.1; obtain ⟨Ao13, co13, eo13⟩ := R_slice HO269.1; subst eo13; obtain ⟨Ao14, co14, eo14⟩ := R_slice HO280.1; subst eo14))
   go_loopg [7, 21] k (fun kq v7 v21 w' => ∃ (x7_1 : List Int) (x21_1 : Int), v21 = .int .i64 x21_1 /\ Aside0 (spec_ArrivalColumns.l0 kq x7_1 t278 (t278.length : Int) x21_1 = some (r1, r2)) /\ Aside0 (kq <= k) /\ Aside0 (Kd.R (Kd.int .i64) 3 w' w.heap.size (fun _ => True) v7 x7_1) /\ Aside0 (Kd.R k61 61 w' w.heap.size (fun _ => True) (.slice Ao14 t278.length co14) t278) /\ Aside0 (Kd.R k98 98 w' w.heap.size (fun _ => True) (.slice Ao13 t267.length co13) t267) /\ Aside0 (w'.heap[gb263]? = some (.cells #[.int .i64 a0_0, .int .i64 a0_1, (.slice A0_2 l0_2.length c0_2), .int .i64 a0_3, .int .i64 a0_4, .int .i64 a0_5, .int .i64 a0_6, .int .i64 a0_7] 35 (0, 0))) /\ Aside0 (w'.heap[gb281]? = some (.cells #[.int .i64 t265, .int .i64 t266, (.slice Ao13 t267.length co13), .int .i64 t270, .int .i64 t271, .int .i64 t272, .int .i64 t273, .int .i64 t274] 35 (0, 0))) /\ Aside0 (Below w.heap.size w w'))
   case atStart => exact ⟨(([] : List Int)), (0), RG, H', ⟨Nat.le_refl _⟩, ⟨by first | exact R_nil _ _ _ _ _ | exact N_nil _ _ _ _ _ | exact V_nil _ _ _ _ _ | exact Q_nil _ _ _ _ _ | exact S_nil _ _ _ _ _⟩, ⟨by (with_reducible repeat (first | apply R_alloc | apply R_drewN | apply R_drew)); exact R_mono (RQ gb281 7 (RQ gb281 6 (RQ gb281 5 (RQ gb281 4 (RQ gb281 3 (RQ gb281 2 (RQ gb281 1 (RQ gb281 0 (R_types HO280.1 BK281.1 (by decide)) _) _) _) _) _) _) _) _) (fun _ hk => trivial)⟩, ⟨by (with_reducible repeat (first | apply R_alloc | apply R_drewN | apply R_drew)); exact R_mono (RQ gb281 7 (RQ gb281 6 (RQ gb281 5 (RQ gb281 4 (RQ gb281 3 (RQ gb281 2 (RQ gb281 1 (RQ gb281 0 (R_types HO269.1 BK281.1 (by decide)) _) _) _) _) _) _) _) _) (fun _ hk => trivial)⟩, ⟨by (with_reducible repeat (first | refine blk_drewN ?_ _ | refine blk_drew ?_ | refine blk_alloc ?_ _)); refine blk_far ?_ NB263_281.1 _; (with_reducible repeat (first | refine blk_drewN ?_ _ | refine blk_drew ?_ | refine blk_alloc ?_ _)); refine blk_far ?_ NB263_281.1 _; (with_reducible repeat (first | refine blk_drewN ?_ _ | refine blk_drew ?_ | refine blk_alloc ?_ _)); refine blk_far ?_ NB263_281.1 _; (with_reducible repeat (first | refine blk_drewN ?_ _ | refine blk_drew ?_ | refine blk_alloc ?_ _)); refine blk_far ?_ NB263_281.1 _; (with_reducible repeat (first | refine blk_drewN ?_ _ | refine blk_drew ?_ | refine blk_alloc ?_ _)); refine blk_far ?_ NB263_281.1 _; (with_reducible repeat (first | refine blk_drewN ?_ _ | refine blk_drew ?_ | refine blk_alloc ?_ _)); refine blk_far ?_ NB263_281.1 _; (with_reducible repeat (first | refine blk_drewN ?_ _ | refine blk_drew ?_ | refine blk_alloc ?_ _)); refine blk_far ?_ NB263_281.1 _; (with_reducible repeat (first | refine blk_drewN ?_ _ | refine blk_drew ?_ | refine blk_alloc ?_ _)); refine blk_far ?_ NB263_281.1 _; (with_reducible repeat (first | refine blk_drewN ?_ _ | refine blk_drew ?_ | refine blk_alloc ?_ _)); exact BK263.1⟩, ⟨by (with_reducible repeat (first | refine blk_drewN ?_ _ | refine blk_drew ?_ | refine blk_alloc ?_ _)); refine blk_put (cs := #[.int .i64 t265, .int .i64 t266, .slice Ao13 t267.length co13, .int .i64 t270, .int .i64 t271, .int .i64 t272, .int .i64 t273, .int .i64 0]) ?_ 7 _ rfl; (with_reducible repeat (first | refine blk_drewN ?_ _ | refine blk_drew ?_ | refine blk_alloc ?_ _)); refine blk_put (cs := #[.int .i64 t265, .int .i64 t266, .slice Ao13 t267.length co13, .int .i64 t270, .int .i64 t271, .int .i64 t272, .int .i64 0, .int .i64 0]) ?_ 6 _ rfl; (with_reducible repeat (first | refine blk_drewN ?_ _ | refine blk_drew ?_ | refine blk_alloc ?_ _)); refine blk_put (cs := #[.int .i64 t265, .int .i64 t266, .slice Ao13 t267.length co13, .int .i64 t270, .int .i64 t271, .int .i64 0, .int .i64 0, .int .i64 0]) ?_ 5 _ rfl; (with_reducible repeat (first | refine blk_drewN ?_ _ | refine blk_drew ?_ | refine blk_alloc ?_ _)); refine blk_put (cs := #[.int .i64 t265, .int .i64 t266, .slice Ao13 t267.length co13, .int .i64 t270, .int .i64 0, .int .i64 0, .int .i64 0, .int .i64 0]) ?_ 4 _ rfl; (with_reducible repeat (first | refine blk_drewN ?_ _ | refine blk_drew ?_ | refine blk_alloc ?_ _)); refine blk_put (cs := #[.int .i64 t265, .int .i64 t266, .slice Ao13 t267.length co13, .int .i64 0, .int .i64 0, .int .i64 0, .int .i64 0, .int .i64 0]) ?_ 3 _ rfl; (with_reducible repeat (first | refine blk_drewN ?_ _ | refine blk_drew ?_ | refine blk_alloc ?_ _)); refine blk_put (cs := #[.int .i64 t265, .int .i64 t266, .slice none 0 0, .int .i64 0, .int .i64 0, .int .i64 0, .int .i64 0, .int .i64 0]) ?_ 2 _ rfl; (with_reducible repeat (first | refine blk_drewN ?_ _ | refine blk_drew ?_ | refine blk_alloc ?_ _)); refine blk_put (cs := #[.int .i64 t265, .int .i64 0, .slice none 0 0, .int .i64 0, .int .i64 0, .int .i64 0, .int .i64 0, .int .i64 0]) ?_ 1 _ rfl; (with_reducible repeat (first | refine blk_drewN ?_ _ | refine blk_drew ?_ | refine blk_alloc ?_ _)); refine blk_put (cs := #[.int .i64 0, .int .i64 0, .slice none 0 0, .int .i64 0, .int .i64 0, .int .i64 0, .int .i64 0, .int .i64 0]) ?_ 0 _ rfl; (with_reducible repeat (first | refine blk_drewN ?_ _ | refine blk_drew ?_ | refine blk_alloc ?_ _)); exact BK281.1⟩, ⟨BL HB.1⟩⟩
   clear H'
   clear hcz12_0 hcz12_1 hcz12_2 hcz12_3 hcz12_4 hcz12_5 hcz12_6 hcz12_7 hcz6_0 hcz6_1 hcz6_2 hcz6_3 hcz6_4 hcz6_5 hcz6_6 hcz6_7 hcz8_0 hcz8_1 hcz8_2 hcz8_3 hcz8_4 hcz8_5 hcz8_6 hcz8_7 hfz12_0 hfz12_1 hfz12_2 hfz12_3 hfz12_4 hfz12_5 hfz12_6 hfz12_7 hfz6_0 hfz6_1 hfz6_2 hfz6_3 hfz6_4 hfz6_5 hfz6_6 hfz6_7 hfz8_0 hfz8_1 hfz8_2 hfz8_3 hfz8_4 hfz8_5 hfz8_6 hfz8_7
   obtain ⟨x7_1, x21_1, rfl, HA, HK1, HO_7, HO_19, HO_282002, BK263, BK281, HB⟩ := hrel
   cases gk with
   | zero => exact absurd HA.1 (by simp [spec_ArrivalColumns.l0])
   | succ k1 => ?_
   have H := HA.1
   clear HA
   simp only [spec_ArrivalColumns.l0] at H
   replace H := ifB H; rcases H with ⟨c15b0, H⟩ | ⟨c15b0, H⟩
   · replace H := ifN H; obtain ⟨c16b0, H⟩ := H
     replace H := ifN H; obtain ⟨c17b0, H⟩ := H
     replace H := ifQ H; rcases H with ⟨c18, H⟩ | ⟨c18, H⟩
     · have c18b0 := beq_iff_eq.mpr c18
       have c18b1 := bne_eq_false_iff_eq.mpr c18
       clear c18
       replace H := ifP H; obtain ⟨c19, H⟩ := H
       have LMc19 := Aside0.mk c19
       clear c19
       generalize hy284 : ((x7_1 ++ [(rd_T61 t278 x21_1).f2]) : List Int) = y284 at H
       have Ny284 := Aside0.mk hy284.symm; clear hy284
       have H' := Aside0.mk H
       clear H
       have p282 : 0 <= (x21_1 : Int) := OD
       have q282 : x21_1 < (t278.length : Int) := OD
       obtain ⟨ad282, e282, hx282_0, hx282_1, hx282_2⟩ := at_T61 (R_reads' HO_19.1).2.2 x21_1 p282 q282
       cases e282
       replace p282 := eq_true p282
       replace q282 := eq_true q282
       go_wp2_with (first | ((with_reducible refine gate_dst (N := 9) rfl ?_); refine boxE (cs := #[.int .i64 0, .int .i64 0, .int .i64 0]) (t := 61) ?_; intro gb283 hg w20 hbox hb; refine E13 (rB HO_7.1 hb) (R_below (R_elderB (PR HO_19.1) gb283 (Nat.le_of_eq hg.symm)) hb) (rB HO_282002.1 hb) (bB BK263.1 hb) (bB BK281.1 hb) (bS HB.1 hb) (hbox) (gX HB.1 hg) (gX HB.1 hg) (nB BK263.1 hg) (nC BK263.1 hg) (nB BK281.1 hg) (nC BK281.1 hg) ?_; clear HO_7 HO_19 HO_282002 BK263 BK281 HB; intro HO_7 HO_19 HO_282002 BK263 BK281 HB BK283 GW283 GE283 NB263_283 NB283_263 NB281_283 NB283_281; clear hb hbox hg; have hnb21 := NB283_263.1; have hnc21 := NB263_283.1; have hnb22 := NB283_281.1; have hnc22 := NB281_283.1; obtain ⟨hcz23_0, hcz23_1, hcz23_2, hfz23_0, hfz23_1, hfz23_2⟩ := cz3 BK283.1) | ((with_reducible refine gate_builtin (b := .append) (xs := #[.tmp 28, .tmp 31]) rfl ?_); at_builtin; refine R_append (Kd.int .i64) (w0 := w) w.heap.size rfl (.tmp 28) (.tmp 31) 28 3 (.int .i64 0) 8 rfl Try.underlying28 info3 rfl (by decide) (by omega) u7 x7_1 ((rd_T61 t278 x21_1).f2) [.int .i64 ((rd_T61 t278 x21_1).f2)] (fun _ => True) (fun _ => False) rfl (by first | (go_simp; done) | (go_simp; rfl)) ?aP (fun _ hk => hk.elim) ?aF ?aO ?aB ?aS ?aL ?_; (case aP => exact rfl); (case aB => exact (BL HB.1)); (case aF => exact (fun _ _ => trivial)); (case aO => exact (by (with_reducible repeat (first | apply R_alloc | apply R_drewN | apply R_drew)); exact R_mono (RQ gb283 2 (RQ gb283 1 (RQ gb283 0 (R_types HO_7.1 BK283.1 (by decide)) _) _) _) (fun _ hk => trivial))); (case aS => exact (bZ HB.1)); (case aL => have := LMc19.1; omega); intro v285 w24 ho hb hg hat; rw [<- Ny284.1] at ho; refine E7 (R_over' (by (with_reducible repeat (first | apply R_alloc | apply R_drewN | apply R_drew)); exact (R_mono (RQ gb283 2 (RQ gb283 1 (RQ gb283 0 (R_mono HO_19.1 (fun k_ hk => (⟨hk, hk.2⟩ : _ /\ k_ ≠ gb283))) _) _) _) (fun _ h_ => h_.1))) (R_typed (by (with_reducible repeat (first | apply R_alloc | apply R_drewN | apply R_drew)); exact (R_mono (RQ gb283 2 (RQ gb283 1 (RQ gb283 0 (R_types HO_7.1 BK283.1 (by decide)) _) _) _) (fun _ h_ => h_.1)))) (by decide) hg) (R_over' (by (with_reducible repeat (first | apply R_alloc | apply R_drewN | apply R_drew)); exact (R_mono (RQ gb283 2 (RQ gb283 1 (RQ gb283 0 (R_types HO_282002.1 BK283.1 (by decide)) _) _) _) (fun _ h_ => h_.1))) (R_typed (by (with_reducible repeat (first | apply R_alloc | apply R_drewN | apply R_drew)); exact (R_mono (RQ gb283 2 (RQ gb283 1 (RQ gb283 0 (R_types HO_7.1 BK283.1 (by decide)) _) _) _) (fun _ h_ => h_.1)))) (by decide) hg) (blk_grown (g := gb263) (o := .cells #[.int .i64 a0_0, .int .i64 a0_1, .slice A0_2 l0_2.length c0_2, .int .i64 a0_3, .int .i64 a0_4, .int .i64 a0_5, .int .i64 a0_6, .int .i64 a0_7] 35 (0, 0)) (PF1 NB263_283.1 BK263.1) hg (R_ne HO_7.1 BK263.1 (by decide))) (blk_grown (g := gb281) (o := .cells #[.int .i64 t265, .int .i64 t266, .slice Ao13 t267.length co13, .int .i64 t270, .int .i64 t271, .int .i64 t272, .int .i64 t273, .int .i64 t274] 35 (0, 0)) (PF1 NB281_283.1 BK281.1) hg (R_ne HO_7.1 BK281.1 (by decide))) (blk_grown (g := gb283) (o := .cells #[.int .i64 ((rd_T61 t278 x21_1).f0), .int .i64 ((rd_T61 t278 x21_1).f1), .int .i64 ((rd_T61 t278 x21_1).f2)] 61 (0, 0)) (PF0 BK283.1) hg (R_ne HO_7.1 BK283.1 (by decide))) (hb) (ho) ?_; clear HO_19 HO_282002 BK263 BK281 BK283 HB HO_7; intro HO_19 HO_282002 BK263 BK281 BK283 HB HO286; clear ho hb hg hat))
       go_roundg k1
       case measure => have := HK1.1; omega
       case rel => exact ⟨(y284), (wrap64 (x21_1 + 1)), RG, H', ⟨by have := HK1.1; omega⟩, ⟨PR HO286.1⟩, ⟨RPE (R_mono HO_19.1 (fun _ hk => trivial))⟩, ⟨PR HO_282002.1⟩, ⟨PB BK263.1⟩, ⟨PB BK281.1⟩, ⟨BL HB.1⟩⟩
     have c18b0 := beq_eq_false_iff_ne.mpr c18
     have c18b1 := bne_iff_ne.mpr c18
     have H' := Aside0.mk H
     clear H
     have p282 : 0 <= (x21_1 : Int) := OD
     have q282 : x21_1 < (t278.length : Int) := OD
     obtain ⟨ad282, e282, hx282_0, hx282_1, hx282_2⟩ := at_T61 (R_reads' HO_19.1).2.2 x21_1 p282 q282
     cases e282
     replace p282 := eq_true p282
     replace q282 := eq_true q282
     go_wp2_with (first | ((with_reducible refine gate_dst (N := 9) rfl ?_); refine boxE (cs := #[.int .i64 0, .int .i64 0, .int .i64 0]) (t := 61) ?_; intro gb283 hg w25 hbox hb; refine E13 (rB HO_7.1 hb) (R_below (R_elderB (PR HO_19.1) gb283 (Nat.le_of_eq hg.symm)) hb) (rB HO_282002.1 hb) (bB BK263.1 hb) (bB BK281.1 hb) (bS HB.1 hb) (hbox) (gX HB.1 hg) (gX HB.1 hg) (nB BK263.1 hg) (nC BK263.1 hg) (nB BK281.1 hg) (nC BK281.1 hg) ?_; clear HO_7 HO_19 HO_282002 BK263 BK281 HB; intro HO_7 HO_19 HO_282002 BK263 BK281 HB BK283 GW283 GE283 NB263_283 NB283_263 NB281_283 NB283_281; clear hb hbox hg; have hnb26 := NB283_263.1; have hnc26 := NB263_283.1; have hnb27 := NB283_281.1; have hnc27 := NB281_283.1; obtain ⟨hcz28_0, hcz28_1, hcz28_2, hfz28_0, hfz28_1, hfz28_2⟩ := cz3 BK283.1))
     go_roundg k1
     case measure => have := HK1.1; omega
     case rel => exact ⟨(x7_1), (wrap64 (x21_1 + 1)), RG, H', ⟨by have := HK1.1; omega⟩, ⟨by (with_reducible repeat (first | apply R_alloc | apply R_drewN | apply R_drew)); exact R_mono (RQ gb283 2 (RQ gb283 1 (RQ gb283 0 (R_types HO_7.1 BK283.1 (by decide)) _) _) _) (fun _ hk => trivial)⟩, ⟨by (with_reducible repeat (first | apply R_alloc | apply R_drewN | apply R_drew)); exact R_mono (RQ gb283 2 (RQ gb283 1 (RQ gb283 0 (R_mono HO_19.1 (fun k_ hk => (⟨hk, hk.2⟩ : _ /\ k_ ≠ gb283))) _) _) _) (fun _ hk => trivial)⟩, ⟨by (with_reducible repeat (first | apply R_alloc | apply R_drewN | apply R_drew)); exact R_mono (RQ gb283 2 (RQ gb283 1 (RQ gb283 0 (R_types HO_282002.1 BK283.1 (by decide)) _) _) _) (fun _ hk => trivial)⟩, ⟨by (with_reducible repeat (first | refine blk_drewN ?_ _ | refine blk_drew ?_ | refine blk_alloc ?_ _)); refine blk_far ?_ NB263_283.1 _; (with_reducible repeat (first | refine blk_drewN ?_ _ | refine blk_drew ?_ | refine blk_alloc ?_ _)); refine blk_far ?_ NB263_283.1 _; (with_reducible repeat (first | refine blk_drewN ?_ _ | refine blk_drew ?_ | refine blk_alloc ?_ _)); refine blk_far ?_ NB263_283.1 _; (with_reducible repeat (first | refine blk_drewN ?_ _ | refine blk_drew ?_ | refine blk_alloc ?_ _)); exact BK263.1⟩, ⟨by (with_reducible repeat (first | refine blk_drewN ?_ _ | refine blk_drew ?_ | refine blk_alloc ?_ _)); refine blk_far ?_ NB281_283.1 _; (with_reducible repeat (first | refine blk_drewN ?_ _ | refine blk_drew ?_ | refine blk_alloc ?_ _)); refine blk_far ?_ NB281_283.1 _; (with_reducible repeat (first | refine blk_drewN ?_ _ | refine blk_drew ?_ | refine blk_alloc ?_ _)); refine blk_far ?_ NB281_283.1 _; (with_reducible repeat (first | refine blk_drewN ?_ _ | refine blk_drew ?_ | refine blk_alloc ?_ _)); exact BK281.1⟩, ⟨BL HB.1⟩⟩
   simp only [Option.some.injEq, Prod.mk.injEq] at H
   obtain ⟨rfl, rfl⟩ := H
   go_wp2
   go_ret2
   exact ⟨_, RF, RPE (HO_7.1), BL HB.1⟩
 simp only [Option.some.injEq, Prod.mk.injEq] at H
 obtain ⟨rfl, rfl⟩ := H
 go_enter Try.func8, Try.ntmps8
 go_wp2_with (first | ((with_reducible refine gate_dst (N := 1) rfl ?_); refine boxE (cs := #[.int .i64 a0_0, .int .i64 a0_1, .slice A0_2 l0_2.length c0_2, .int .i64 a0_3, .int .i64 a0_4, .int .i64 a0_5, .int .i64 a0_6, .int .i64 a0_7]) (t := 35) ?_; intro gb263 hg w29 hbox hb; refine E4b HB.1 hg hbox hb ?_; clear HB; intro HB BK263 GW263 GE263; clear hb hbox hg; obtain ⟨hcz30_0, hcz30_1, hcz30_2, hcz30_3, hcz30_4, hcz30_5, hcz30_6, hcz30_7, hfz30_0, hfz30_1, hfz30_2, hfz30_3, hfz30_4, hfz30_5, hfz30_6, hfz30_7⟩ := cz8 BK263.1) | ((with_reducible refine gate_callee (f := 29) rfl ?_); refine goesM (N := (some 11)) #[.agg #[.int .i64 a0_0, .int .i64 a0_1, .slice A0_2 l0_2.length c0_2, .int .i64 a0_3, .int .i64 a0_4, .int .i64 a0_5, .int .i64 a0_6, .int .i64 a0_7]] Try.func29 ?_; (with_reducible refine (spec_maGood.calls k a0_0 a0_1 _ _ l0_2 a0_3 a0_4 a0_5 a0_6 a0_7 false _ ?side1 ?side2 A2.1).mono ?_); (case side1 => exact CB (C_below HR0_2.1 HB.1)); (case side2 => exact HC0_2.1); rintro e w31 ⟨rfl, hb⟩; refine ⟨_, rfl, ?_⟩; refine E2 (bB BK263.1 hb) (bS HB.1 hb) ?_; clear BK263 HB; intro BK263 HB; (try clear hb)))
 go_ret2
 exact ⟨_, RF, by first | exact R_nil _ _ _ _ _ | exact N_nil _ _ _ _ _ | exact V_nil _ _ _ _ _ | exact Q_nil _ _ _ _ _ | exact S_nil _ _ _ _ _, BL HB.1⟩

/-! ### impl_ArrivalColumns: function 10 -/
open Kd
def impl_ArrivalColumns.l0 : Nat -> List Int -> List (S66) -> Int -> Int -> Option (List Int × Bool)
 | 0, _, _, _, _ => none
 | k + 1, x6, x18, x19, x20 => if x20 < x19 then (if 0 <= x20 then (if x20 < (x18.length : Int) then (if ((rd_T66 x18 x20).f1.f0) = 1 then (if x6.length < 17592186044416 then (impl_ArrivalColumns.l0 k (x6 ++ [(rd_T66 x18 x20).f1.f2]) x18 x19 (wrap64 (x20 + 1))) else (none)) else (impl_ArrivalColumns.l0 k x6 x18 x19 (wrap64 (x20 + 1)))) else (none)) else (none)) else (some (x6, true))
def impl_ArrivalColumns.f (k : Nat) (a0_0 : Int) (a0_1 : Int) (l0_2 : List (S98)) (a0_3 : Int) (a0_4 : Int) (a0_5 : Int) (a0_6 : Int) (a0_7 : Int) : Option (List Int × Bool) := (impl_IsMachine.f k a0_0 a0_1 l0_2 a0_3 a0_4 a0_5 a0_6 a0_7).bind fun t410 => (if t410 = true then ((impl_runSteps.f k a0_0 a0_1 l0_2 a0_3 a0_4 a0_5 a0_6 a0_7 60).bind fun bt411 => (impl_ArrivalColumns.l0 k (([] : List Int)) bt411.2.2.2.2.2.2.2.2 (bt411.2.2.2.2.2.2.2.2.length : Int) 0)) else (some (([] : List Int), false)))
theorem impl_ArrivalColumns.mono_l : ∀ k, (∀ y0 y1 y2 y3, LeO (impl_ArrivalColumns.l0 k y0 y1 y2 y3) (impl_ArrivalColumns.l0 (k + 1) y0 y1 y2 y3))
 | 0 => fun _ _ _ _ r h => by simp [impl_ArrivalColumns.l0] at h
 | k + 1 => by
  have ih0 := impl_ArrivalColumns.mono_l k
  intros
  first | unfold impl_ArrivalColumns.l0
  exact LM3 ih0 impl_IsMachine.mono impl_runSteps.mono
theorem impl_ArrivalColumns.mono : ∀ a0 a1 a2 a3 a4 a5 a6 a7 k, LeO (impl_ArrivalColumns.f k a0 a1 a2 a3 a4 a5 a6 a7) (impl_ArrivalColumns.f (k + 1) a0 a1 a2 a3 a4 a5 a6 a7) := by
 intro a0 a1 a2 a3 a4 a5 a6 a7 k
 have ih0 := impl_ArrivalColumns.mono_l k
 unfold impl_ArrivalColumns.f
 exact LM3 ih0 impl_IsMachine.mono impl_runSteps.mono
theorem impl_ArrivalColumns.calls (k : Nat) (a0_0 : Int) (a0_1 : Int) (A0_2 : Option Addr) (c0_2 : Nat) (l0_2 : List (S98)) (a0_3 : Int) (a0_4 : Int) (a0_5 : Int) (a0_6 : Int) (a0_7 : Int) (r1 : List Int) (r2 : Bool) (w : World) (hr0_2 : Kd.C k98 w A0_2 l0_2.length l0_2) (hc0_2 : l0_2.length <= c0_2) (h : impl_ArrivalColumns.f k a0_0 a0_1 l0_2 a0_3 a0_4 a0_5 a0_6 a0_7 = some (r1, r2)) :
 Calls Try.prog 10 #[.agg #[.int .i64 a0_0, .int .i64 a0_1, .slice A0_2 l0_2.length c0_2, .int .i64 a0_3, .int .i64 a0_4, .int .i64 a0_5, .int .i64 a0_6, .int .i64 a0_7]] w fun e w' => ∃ v0_ : Value, e = .returned (.tuple #[v0_, .bool r2]) /\ Kd.R (Kd.int .i64) 3 w' w.heap.size (fun _ => True) v0_ r1 /\ Below w.heap.size w w' := by
 have hu35 := Try.underlying35
 have hu66 := Try.underlying66
 have HR0_2 := Aside0.mk hr0_2
 have HC0_2 := Aside0.mk hc0_2
 clear hr0_2 hc0_2
 have HB := Aside0.mk (Below.refl w.heap.size w)
 have H := h
 clear h
 unfold impl_ArrivalColumns.f at H
 replace H := bindA H; obtain ⟨t410, A2, H⟩ := H
 replace H := ifX H; rcases H with ⟨rfl, H⟩ | ⟨rfl, H⟩
 · replace H := bindA H; obtain ⟨⟨t411, t412, t413, t416, t417, t418, t419, t420, t421⟩, A4, H⟩ := H
   dsimp only at H
   generalize hy425 : ((([] : List Int)) : List Int) = y425 at H
   have Ny425 := Aside0.mk hy425.symm; clear hy425
   have H' := Aside0.mk H
   clear H
   go_enter Try.func10, Try.ntmps10
   go_wp2_with (first | ((with_reducible refine gate_dst (N := 1) rfl ?_); refine boxE (cs := #[.int .i64 a0_0, .int .i64 a0_1, .slice A0_2 l0_2.length c0_2, .int .i64 a0_3, .int .i64 a0_4, .int .i64 a0_5, .int .i64 a0_6, .int .i64 a0_7]) (t := 35) ?_; intro gb409 hg w5 hbox hb; refine E4b HB.1 hg hbox hb ?_; clear HB; intro HB BK409 GW409 GE409; clear hb hbox hg; obtain ⟨hcz6_0, hcz6_1, hcz6_2, hcz6_3, hcz6_4, hcz6_5, hcz6_6, hcz6_7, hfz6_0, hfz6_1, hfz6_2, hfz6_3, hfz6_4, hfz6_5, hfz6_6, hfz6_7⟩ := cz8 BK409.1) | ((with_reducible refine gate_callee (f := 32) rfl ?_); refine goesM (N := (some 10)) #[.agg #[.int .i64 a0_0, .int .i64 a0_1, .slice A0_2 l0_2.length c0_2, .int .i64 a0_3, .int .i64 a0_4, .int .i64 a0_5, .int .i64 a0_6, .int .i64 a0_7]] Try.func32 ?_; (with_reducible refine (impl_IsMachine.calls k a0_0 a0_1 _ _ l0_2 a0_3 a0_4 a0_5 a0_6 a0_7 true _ ?side1 ?side2 A2.1).mono ?_); (case side1 => exact CB (C_below HR0_2.1 HB.1)); (case side2 => exact HC0_2.1); rintro e w7 ⟨rfl, hb⟩; refine ⟨_, rfl, ?_⟩; refine E2 (bB BK409.1 hb) (bS HB.1 hb) ?_; clear BK409 HB; intro BK409 HB; (try clear hb); obtain ⟨hcz8_0, hcz8_1, hcz8_2, hcz8_3, hcz8_4, hcz8_5, hcz8_6, hcz8_7, hfz8_0, hfz8_1, hfz8_2, hfz8_3, hfz8_4, hfz8_5, hfz8_6, hfz8_7⟩ := cz8 BK409.1) | ((with_reducible refine gate_callee (f := 33) rfl ?_); refine goesM (N := (some 14)) #[.agg #[.int .i64 a0_0, .int .i64 a0_1, .slice A0_2 l0_2.length c0_2, .int .i64 a0_3, .int .i64 a0_4, .int .i64 a0_5, .int .i64 a0_6, .int .i64 a0_7], .int .i64 60] Try.func33 ?_; (with_reducible refine (impl_runSteps.calls k a0_0 a0_1 _ _ l0_2 a0_3 a0_4 a0_5 a0_6 a0_7 60 t411 t412 t413 t416 t417 t418 t419 t420 t421 _ ?side1 ?side2 A4.1).mono ?_); (case side1 => exact CB (C_below HR0_2.1 HB.1)); (case side2 => exact HC0_2.1); rintro e w9 ⟨v414, v422, rfl, ho0, ho1, hb⟩; refine ⟨_, rfl, ?_⟩; refine E4 (R_lower ho0 (bZ HB.1)) (R_lower ho1 (bZ HB.1)) (bB BK409.1 hb) (bS HB.1 hb) ?_; clear BK409 HB; intro HO415 HO423 BK409 HB; (try clear hb); (try clear ho0); (try clear ho1)) | ((with_reducible refine gate_dst (N := 4) rfl ?_); refine boxE (cs := #[.int .i64 0, .int .i64 0, .slice none 0 0, .int .i64 0, .int .i64 0, .int .i64 0, .int .i64 0, .int .i64 0]) (t := 35) ?_; intro gb424 hg w10 hbox hb; refine E9 (rB HO415.1 hb) (rB HO423.1 hb) (bB BK409.1 hb) (bS HB.1 hb) (hbox) (gX HB.1 hg) (gX HB.1 hg) (nB BK409.1 hg) (nC BK409.1 hg) ?_; clear HO415 HO423 BK409 HB; intro HO415 HO423 BK409 HB BK424 GW424 GE424 NB409_424 NB424_409; clear hb hbox hg; have hnb11 := NB424_409.1; have hnc11 := NB409_424.1; obtain ⟨hcz12_0, hcz12_1, hcz12_2, hcz12_3, hcz12_4, hcz12_5, hcz12_6, hcz12_7, hfz12_0, hfz12_1, hfz12_2, hfz12_3, hfz12_4, hfz12_5, hfz12_6, hfz12_7⟩ := cz8 BK424.1; obtain ⟨Ao13, co13, eo13⟩ := R_slice HO415.1; subst eo13) | ((with_reducible refine gate_dst (N := 17) rfl ?_); refine R_lit (Kd.int .i64) _ 3 ?hg (N := 17) ?hd (xs := ([] : List Int)) (inner := []) (ok := fun _ => True) (okp := fun _ => True) ?hr ?hp (fun _ hk => hk) trivial (Below.refl _ _) (Nat.le_refl _) (by simp) ?_; (case hd => rfl); (case hg => rfl); (case hr => first | (go_simp; done) | (go_simp; rfl)); (case hp => exact (Reps.none _ _)); intro v426 w14 ho15 hb hg_ hnew_; clear hg_ hnew_; (first | rw [<- Ny425.1] at ho15 | (simp only [Int.reduceToNat] at ho15; rw [<- Ny425.1] at ho15)); refine E6 (R_below (by (with_reducible repeat (first | apply R_alloc | apply R_drewN | apply R_drew)); exact (R_mono (RQ gb424 7 (RQ gb424 6 (RQ gb424 5 (RQ gb424 4 (RQ gb424 3 (RQ gb424 2 (RQ gb424 1 (RQ gb424 0 (R_types HO415.1 BK424.1 (by decide)) _) _) _) _) _) _) _) _) (fun _ h_ => h_.1))) hb) (R_below (by (with_reducible repeat (first | apply R_alloc | apply R_drewN | apply R_drew)); exact (R_mono (RQ gb424 7 (RQ gb424 6 (RQ gb424 5 (RQ gb424 4 (RQ gb424 3 (RQ gb424 2 (RQ gb424 1 (RQ gb424 0 (R_types HO423.1 BK424.1 (by decide)) _) _) _) _) _) _) _) _) (fun _ h_ => h_.1))) hb) (R_lower ho15 (bZ HB.1)) (blk_below (g := gb409) (o := .cells #[.int .i64 a0_0, .int .i64 a0_1, .slice A0_2 l0_2.length c0_2, .int .i64 a0_3, .int .i64 a0_4, .int .i64 a0_5, .int .i64 a0_6, .int .i64 a0_7] 35 (0, 0)) (PF1 NB409_424.1 BK409.1) hb) (blk_below (g := gb424) (o := .cells #[.int .i64 t411, .int .i64 t412, .slice Ao13 t413.length co13, .int .i64 t416, .int .i64 t417, .int .i64 t418, .int .i64 t419, .int .i64 t420] 35 (0, 0)) (PF0 BK424.1) hb) (bS HB.1 hb) ?_; clear HO415 HO423 BK409 BK424 HB; intro HO415 HO423 HO427 BK409 BK424 HB; clear hb ho15; obtain ⟨Ao16, co16, eo16⟩ := R_slice HO423.1; subst eo16))
   go_loopg [6, 20] k (fun kq v6 v20 w' => ∃ (x6_1 : List Int) (x20_1 : Int), v20 = .int .i64 x20_1 /\ Aside0 (impl_ArrivalColumns.l0 kq x6_1 t421 (t421.length : Int) x20_1 = some (r1, r2)) /\ Aside0 (kq <= k) /\ Aside0 (Kd.R (Kd.int .i64) 3 w' w.heap.size (fun _ => True) v6 x6_1) /\ Aside0 (Kd.R k66 66 w' w.heap.size (fun _ => True) (.slice Ao16 t421.length co16) t421) /\ Aside0 (Kd.R k98 98 w' w.heap.size (fun _ => True) (.slice Ao13 t413.length co13) t413) /\ Aside0 (w'.heap[gb409]? = some (.cells #[.int .i64 a0_0, .int .i64 a0_1, (.slice A0_2 l0_2.length c0_2), .int .i64 a0_3, .int .i64 a0_4, .int .i64 a0_5, .int .i64 a0_6, .int .i64 a0_7] 35 (0, 0))) /\ Aside0 (w'.heap[gb424]? = some (.cells #[.int .i64 t411, .int .i64 t412, (.slice Ao13 t413.length co13), .int .i64 t416, .int .i64 t417, .int .i64 t418, .int .i64 t419, .int .i64 t420] 35 (0, 0))) /\ Aside0 (Below w.heap.size w w'))
   case atStart => exact ⟨(y425), (0), RG, H', ⟨Nat.le_refl _⟩, ⟨PR HO427.1⟩, ⟨PR HO423.1⟩, ⟨PR HO415.1⟩, ⟨PB BK409.1⟩, ⟨PB BK424.1⟩, ⟨BL HB.1⟩⟩
   clear H'
   clear hcz12_0 hcz12_1 hcz12_2 hcz12_3 hcz12_4 hcz12_5 hcz12_6 hcz12_7 hcz6_0 hcz6_1 hcz6_2 hcz6_3 hcz6_4 hcz6_5 hcz6_6 hcz6_7 hcz8_0 hcz8_1 hcz8_2 hcz8_3 hcz8_4 hcz8_5 hcz8_6 hcz8_7 hfz12_0 hfz12_1 hfz12_2 hfz12_3 hfz12_4 hfz12_5 hfz12_6 hfz12_7 hfz6_0 hfz6_1 hfz6_2 hfz6_3 hfz6_4 hfz6_5 hfz6_6 hfz6_7 hfz8_0 hfz8_1 hfz8_2 hfz8_3 hfz8_4 hfz8_5 hfz8_6 hfz8_7
   obtain ⟨x6_1, x20_1, rfl, HA, HK1, HO_6, HO_18, HO_425002, BK409, BK424, HB⟩ := hrel
   cases gk with
   | zero => exact absurd HA.1 (by simp [impl_ArrivalColumns.l0])
   | succ k1 => ?_
   have H := HA.1
   clear HA
   simp only [impl_ArrivalColumns.l0] at H
   replace H := ifB H; rcases H with ⟨c17b0, H⟩ | ⟨c17b0, H⟩
   · replace H := ifN H; obtain ⟨c18b0, H⟩ := H
     replace H := ifN H; obtain ⟨c19b0, H⟩ := H
     replace H := ifQ H; rcases H with ⟨c20, H⟩ | ⟨c20, H⟩
     · have c20b0 := beq_iff_eq.mpr c20
       have c20b1 := bne_eq_false_iff_eq.mpr c20
       clear c20
       replace H := ifP H; obtain ⟨c21, H⟩ := H
       have LMc21 := Aside0.mk c21
       clear c21
       generalize hy430 : ((x6_1 ++ [(rd_T66 t421 x20_1).f1.f2]) : List Int) = y430 at H
       have Ny430 := Aside0.mk hy430.symm; clear hy430
       have H' := Aside0.mk H
       clear H
       have p428 : 0 <= (x20_1 : Int) := OD
       have q428 : x20_1 < (t421.length : Int) := OD
       obtain ⟨ad428, e428, hx428_0, hx428_1, hx428_2, hx428_3⟩ := at_T66 (R_reads' HO_18.1).2.2 x20_1 p428 q428
       cases e428
       replace p428 := eq_true p428
       replace q428 := eq_true q428
       go_wp2_with (first | ((with_reducible refine gate_dst (N := 8) rfl ?_); refine boxE (cs := #[.int .i64 0, .int .i64 0, .int .i64 0, .int .i64 0]) (t := 66) ?_; intro gb429 hg w22 hbox hb; refine E13 (rB HO_6.1 hb) (R_below (R_elderB (PR HO_18.1) gb429 (Nat.le_of_eq hg.symm)) hb) (rB HO_425002.1 hb) (bB BK409.1 hb) (bB BK424.1 hb) (bS HB.1 hb) (hbox) (gX HB.1 hg) (gX HB.1 hg) (nB BK409.1 hg) (nC BK409.1 hg) (nB BK424.1 hg) (nC BK424.1 hg) ?_; clear HO_6 HO_18 HO_425002 BK409 BK424 HB; intro HO_6 HO_18 HO_425002 BK409 BK424 HB BK429 GW429 GE429 NB409_429 NB429_409 NB424_429 NB429_424; clear hb hbox hg; have hnb23 := NB429_409.1; have hnc23 := NB409_429.1; have hnb24 := NB429_424.1; have hnc24 := NB424_429.1; obtain ⟨hcz25_0, hcz25_1, hcz25_2, hcz25_3, hfz25_0, hfz25_1, hfz25_2, hfz25_3⟩ := cz4 BK429.1) | ((with_reducible refine gate_builtin (b := .append) (xs := #[.tmp 28, .tmp 32]) rfl ?_); at_builtin; refine R_append (Kd.int .i64) (w0 := w) w.heap.size rfl (.tmp 28) (.tmp 32) 28 3 (.int .i64 0) 8 rfl Try.underlying28 info3 rfl (by decide) (by omega) u6 x6_1 ((rd_T66 t421 x20_1).f1.f2) [.int .i64 ((rd_T66 t421 x20_1).f1.f2)] (fun _ => True) (fun _ => False) rfl (by first | (go_simp; done) | (go_simp; rfl)) ?aP (fun _ hk => hk.elim) ?aF ?aO ?aB ?aS ?aL ?_; (case aP => exact rfl); (case aB => exact (BL HB.1)); (case aF => exact (fun _ _ => trivial)); (case aO => exact (by (with_reducible repeat (first | apply R_alloc | apply R_drewN | apply R_drew)); exact R_mono (RQ gb429 3 (RQ gb429 2 (RQ gb429 1 (RQ gb429 0 (R_types HO_6.1 BK429.1 (by decide)) _) _) _) _) (fun _ hk => trivial))); (case aS => exact (bZ HB.1)); (case aL => have := LMc21.1; omega); intro v431 w26 ho hb hg hat; rw [<- Ny430.1] at ho; refine E7 (R_over' (by (with_reducible repeat (first | apply R_alloc | apply R_drewN | apply R_drew)); exact (R_mono (RQ gb429 3 (RQ gb429 2 (RQ gb429 1 (RQ gb429 0 (R_mono HO_18.1 (fun k_ hk => (⟨hk, hk.2⟩ : _ /\ k_ ≠ gb429))) _) _) _) _) (fun _ h_ => h_.1))) (R_typed (by (with_reducible repeat (first | apply R_alloc | apply R_drewN | apply R_drew)); exact (R_mono (RQ gb429 3 (RQ gb429 2 (RQ gb429 1 (RQ gb429 0 (R_types HO_6.1 BK429.1 (by decide)) _) _) _) _) (fun _ h_ => h_.1)))) (by decide) hg) (R_over' (by (with_reducible repeat (first | apply R_alloc | apply R_drewN | apply R_drew)); exact (R_mono (RQ gb429 3 (RQ gb429 2 (RQ gb429 1 (RQ gb429 0 (R_types HO_425002.1 BK429.1 (by decide)) _) _) _) _) (fun _ h_ => h_.1))) (R_typed (by (with_reducible repeat (first | apply R_alloc | apply R_drewN | apply R_drew)); exact (R_mono (RQ gb429 3 (RQ gb429 2 (RQ gb429 1 (RQ gb429 0 (R_types HO_6.1 BK429.1 (by decide)) _) _) _) _) (fun _ h_ => h_.1)))) (by decide) hg) (blk_grown (g := gb409) (o := .cells #[.int .i64 a0_0, .int .i64 a0_1, .slice A0_2 l0_2.length c0_2, .int .i64 a0_3, .int .i64 a0_4, .int .i64 a0_5, .int .i64 a0_6, .int .i64 a0_7] 35 (0, 0)) (PF1 NB409_429.1 BK409.1) hg (R_ne HO_6.1 BK409.1 (by decide))) (blk_grown (g := gb424) (o := .cells #[.int .i64 t411, .int .i64 t412, .slice Ao13 t413.length co13, .int .i64 t416, .int .i64 t417, .int .i64 t418, .int .i64 t419, .int .i64 t420] 35 (0, 0)) (PF1 NB424_429.1 BK424.1) hg (R_ne HO_6.1 BK424.1 (by decide))) (blk_grown (g := gb429) (o := .cells #[.int .i64 ((rd_T66 t421 x20_1).f0), .int .i64 ((rd_T66 t421 x20_1).f1.f0), .int .i64 ((rd_T66 t421 x20_1).f1.f1), .int .i64 ((rd_T66 t421 x20_1).f1.f2)] 66 (0, 0)) (PF0 BK429.1) hg (R_ne HO_6.1 BK429.1 (by decide))) (hb) (ho) ?_; clear HO_18 HO_425002 BK409 BK424 BK429 HB HO_6; intro HO_18 HO_425002 BK409 BK424 BK429 HB HO432; clear ho hb hg hat))
       go_roundg k1
       case measure => have := HK1.1; omega
       case rel => exact ⟨(y430), (wrap64 (x20_1 + 1)), RG, H', ⟨by have := HK1.1; omega⟩, ⟨PR HO432.1⟩, ⟨RPE (R_mono HO_18.1 (fun _ hk => trivial))⟩, ⟨PR HO_425002.1⟩, ⟨PB BK409.1⟩, ⟨PB BK424.1⟩, ⟨BL HB.1⟩⟩
     have c20b0 := beq_eq_false_iff_ne.mpr c20
     have c20b1 := bne_iff_ne.mpr c20
     have H' := Aside0.mk H
     clear H
     have p428 : 0 <= (x20_1 : Int) := OD
     have q428 : x20_1 < (t421.length : Int) := OD
     obtain ⟨ad428, e428, hx428_0, hx428_1, hx428_2, hx428_3⟩ := at_T66 (R_reads' HO_18.1).2.2 x20_1 p428 q428
     cases e428
     replace p428 := eq_true p428
     replace q428 := eq_true q428
     go_wp2_with (first | ((with_reducible refine gate_dst (N := 8) rfl ?_); refine boxE (cs := #[.int .i64 0, .int .i64 0, .int .i64 0, .int .i64 0]) (t := 66) ?_; intro gb429 hg w27 hbox hb; refine E13 (rB HO_6.1 hb) (R_below (R_elderB (PR HO_18.1) gb429 (Nat.le_of_eq hg.symm)) hb) (rB HO_425002.1 hb) (bB BK409.1 hb) (bB BK424.1 hb) (bS HB.1 hb) (hbox) (gX HB.1 hg) (gX HB.1 hg) (nB BK409.1 hg) (nC BK409.1 hg) (nB BK424.1 hg) (nC BK424.1 hg) ?_; clear HO_6 HO_18 HO_425002 BK409 BK424 HB; intro HO_6 HO_18 HO_425002 BK409 BK424 HB BK429 GW429 GE429 NB409_429 NB429_409 NB424_429 NB429_424; clear hb hbox hg; have hnb28 := NB429_409.1; have hnc28 := NB409_429.1; have hnb29 := NB429_424.1; have hnc29 := NB424_429.1; obtain ⟨hcz30_0, hcz30_1, hcz30_2, hcz30_3, hfz30_0, hfz30_1, hfz30_2, hfz30_3⟩ := cz4 BK429.1))
     go_roundg k1
     case measure => have := HK1.1; omega
     case rel => exact ⟨(x6_1), (wrap64 (x20_1 + 1)), RG, H', ⟨by have := HK1.1; omega⟩, ⟨by (with_reducible repeat (first | apply R_alloc | apply R_drewN | apply R_drew)); exact R_mono (RQ gb429 3 (RQ gb429 2 (RQ gb429 1 (RQ gb429 0 (R_types HO_6.1 BK429.1 (by decide)) _) _) _) _) (fun _ hk => trivial)⟩, ⟨by (with_reducible repeat (first | apply R_alloc | apply R_drewN | apply R_drew)); exact R_mono (RQ gb429 3 (RQ gb429 2 (RQ gb429 1 (RQ gb429 0 (R_mono HO_18.1 (fun k_ hk => (⟨hk, hk.2⟩ : _ /\ k_ ≠ gb429))) _) _) _) _) (fun _ hk => trivial)⟩, ⟨by (with_reducible repeat (first | apply R_alloc | apply R_drewN | apply R_drew)); exact R_mono (RQ gb429 3 (RQ gb429 2 (RQ gb429 1 (RQ gb429 0 (R_types HO_425002.1 BK429.1 (by decide)) _) _) _) _) (fun _ hk => trivial)⟩, ⟨by (with_reducible repeat (first | refine blk_drewN ?_ _ | refine blk_drew ?_ | refine blk_alloc ?_ _)); refine blk_far ?_ NB409_429.1 _; (with_reducible repeat (first | refine blk_drewN ?_ _ | refine blk_drew ?_ | refine blk_alloc ?_ _)); refine blk_far ?_ NB409_429.1 _; (with_reducible repeat (first | refine blk_drewN ?_ _ | refine blk_drew ?_ | refine blk_alloc ?_ _)); refine blk_far ?_ NB409_429.1 _; (with_reducible repeat (first | refine blk_drewN ?_ _ | refine blk_drew ?_ | refine blk_alloc ?_ _)); refine blk_far ?_ NB409_429.1 _; (with_reducible repeat (first | refine blk_drewN ?_ _ | refine blk_drew ?_ | refine blk_alloc ?_ _)); exact BK409.1⟩, ⟨by (with_reducible repeat (first | refine blk_drewN ?_ _ | refine blk_drew ?_ | refine blk_alloc ?_ _)); refine blk_far ?_ NB424_429.1 _; (with_reducible repeat (first | refine blk_drewN ?_ _ | refine blk_drew ?_ | refine blk_alloc ?_ _)); refine blk_far ?_ NB424_429.1 _; (with_reducible repeat (first | refine blk_drewN ?_ _ | refine blk_drew ?_ | refine blk_alloc ?_ _)); refine blk_far ?_ NB424_429.1 _; (with_reducible repeat (first | refine blk_drewN ?_ _ | refine blk_drew ?_ | refine blk_alloc ?_ _)); refine blk_far ?_ NB424_429.1 _; (with_reducible repeat (first | refine blk_drewN ?_ _ | refine blk_drew ?_ | refine blk_alloc ?_ _)); exact BK424.1⟩, ⟨BL HB.1⟩⟩
   simp only [Option.some.injEq, Prod.mk.injEq] at H
   obtain ⟨rfl, rfl⟩ := H
   go_wp2
   go_ret2
   exact ⟨_, RF, RPE (HO_6.1), BL HB.1⟩
 simp only [Option.some.injEq, Prod.mk.injEq] at H
 obtain ⟨rfl, rfl⟩ := H
 go_enter Try.func10, Try.ntmps10
 go_wp2_with (first | ((with_reducible refine gate_dst (N := 1) rfl ?_); refine boxE (cs := #[.int .i64 a0_0, .int .i64 a0_1, .slice A0_2 l0_2.length c0_2, .int .i64 a0_3, .int .i64 a0_4, .int .i64 a0_5, .int .i64 a0_6, .int .i64 a0_7]) (t := 35) ?_; intro gb409 hg w31 hbox hb; refine E4b HB.1 hg hbox hb ?_; clear HB; intro HB BK409 GW409 GE409; clear hb hbox hg; obtain ⟨hcz32_0, hcz32_1, hcz32_2, hcz32_3, hcz32_4, hcz32_5, hcz32_6, hcz32_7, hfz32_0, hfz32_1, hfz32_2, hfz32_3, hfz32_4, hfz32_5, hfz32_6, hfz32_7⟩ := cz8 BK409.1) | ((with_reducible refine gate_callee (f := 32) rfl ?_); refine goesM (N := (some 10)) #[.agg #[.int .i64 a0_0, .int .i64 a0_1, .slice A0_2 l0_2.length c0_2, .int .i64 a0_3, .int .i64 a0_4, .int .i64 a0_5, .int .i64 a0_6, .int .i64 a0_7]] Try.func32 ?_; (with_reducible refine (impl_IsMachine.calls k a0_0 a0_1 _ _ l0_2 a0_3 a0_4 a0_5 a0_6 a0_7 false _ ?side1 ?side2 A2.1).mono ?_); (case side1 => exact CB (C_below HR0_2.1 HB.1)); (case side2 => exact HC0_2.1); rintro e w33 ⟨rfl, hb⟩; refine ⟨_, rfl, ?_⟩; refine E2 (bB BK409.1 hb) (bS HB.1 hb) ?_; clear BK409 HB; intro BK409 HB; (try clear hb)))
 go_ret2
 exact ⟨_, RF, by first | exact R_nil _ _ _ _ _ | exact N_nil _ _ _ _ _ | exact V_nil _ _ _ _ _ | exact Q_nil _ _ _ _ _ | exact S_nil _ _ _ _ _, BL HB.1⟩

/-! ### laws_eqIntS: function 11 -/
open Kd
def laws_eqIntS.l0 : Nat -> List Int -> List Int -> Int -> Option (Bool)
 | 0, _, _, _ => none
 | k + 1, x0, x1, x5 => if x5 < (x0.length : Int) then (if 0 <= x5 then (if x5 < (x1.length : Int) then (if (rd x0 x5) = (rd x1 x5) then (laws_eqIntS.l0 k x0 x1 (wrap64 (x5 + 1))) else (some false)) else (none)) else (none)) else (some true)
def laws_eqIntS.f (k : Nat) (l0 : List Int) (l1 : List Int) : Option (Bool) := if (l0.length : Int) = (l1.length : Int) then (laws_eqIntS.l0 k l0 l1 0) else (some false)
theorem laws_eqIntS.mono_l : ∀ k, (∀ y0 y1 y2, LeO (laws_eqIntS.l0 k y0 y1 y2) (laws_eqIntS.l0 (k + 1) y0 y1 y2))
 | 0 => fun _ _ _ r h => by simp [laws_eqIntS.l0] at h
 | k + 1 => by
  have ih0 := laws_eqIntS.mono_l k
  intros
  first | unfold laws_eqIntS.l0
  exact LM1 ih0
theorem laws_eqIntS.mono : ∀ a0 a1 k, LeO (laws_eqIntS.f k a0 a1) (laws_eqIntS.f (k + 1) a0 a1) := by
 intro a0 a1 k
 have ih0 := laws_eqIntS.mono_l k
 unfold laws_eqIntS.f
 exact LM1 ih0
theorem laws_eqIntS.calls (k : Nat) (A0 : Option Addr) (c0 : Nat) (l0 : List Int) (A1 : Option Addr) (c1 : Nat) (l1 : List Int) (r : Bool) (w : World) (hr0 : Kd.C (Kd.int .i64) w A0 l0.length l0) (hc0 : l0.length <= c0) (hr1 : Kd.C (Kd.int .i64) w A1 l1.length l1) (hc1 : l1.length <= c1) (h : laws_eqIntS.f k l0 l1 = some r) :
 Calls Try.prog 11 #[.slice A0 l0.length c0, .slice A1 l1.length c1] w fun e w' => e = .returned (.bool r) /\ Drawn0 w w' := by
 have HR0 := Aside0.mk hr0
 have HC0 := Aside0.mk hc0
 clear hr0 hc0
 have HR1 := Aside0.mk hr1
 have HC1 := Aside0.mk hc1
 clear hr1 hc1
 have H := h
 clear h
 unfold laws_eqIntS.f at H
 replace H := ifQ H; rcases H with ⟨c3, H⟩ | ⟨c3, H⟩
 · have c3b0 := beq_iff_eq.mpr c3
   have c3b1 := bne_eq_false_iff_eq.mpr c3
   have c3b2 : (l0.length == l1.length) = true := by first | simpa using c3 | (simp at c3 ⊢; omega)
   clear c3
   have H' := Aside0.mk H
   clear H
   go_enter Try.func11, Try.ntmps11
   go_wp2
   repeat (go_quiet (fail); try go_wp2)
   go_loopg [5] k (fun kq v5 w' => ∃ (x5_1 : Int), v5 = .int .i64 x5_1 /\ Aside0 (laws_eqIntS.l0 kq l0 l1 x5_1 = some r) /\ Aside0 (kq <= k) /\ Drawn0 w w')
   case atStart => exact ⟨(0), RG, H', ⟨Nat.le_refl _⟩, DR⟩
   clear H'
   try clear c1; clear c3b0 c3b1 c3b2
   obtain ⟨x5_1, rfl, HA, HK1, ⟨m1, rfl⟩⟩ := hrel
   cases gk with
   | zero => exact absurd HA.1 (by simp [laws_eqIntS.l0])
   | succ k1 => ?_
   have H := HA.1
   clear HA
   simp only [laws_eqIntS.l0] at H
   replace H := ifB H; rcases H with ⟨c4b0, H⟩ | ⟨c4b0, H⟩
   · replace H := ifN H; obtain ⟨c5b0, H⟩ := H
     replace H := ifN H; obtain ⟨c6b0, H⟩ := H
     replace H := ifQ H; rcases H with ⟨c7, H⟩ | ⟨c7, H⟩
     · have c7b0 := beq_iff_eq.mpr c7
       have c7b1 := bne_eq_false_iff_eq.mpr c7
       clear c7
       have H' := Aside0.mk H
       clear H
       have p433 : 0 <= (x5_1 : Int) := OD
       have q433 : x5_1 < (l0.length : Int) := OD
       obtain ⟨ad433, e433, hx433_0⟩ := Kd.at_int HR0.1 x5_1 p433 q433
       cases e433
       replace p433 := eq_true p433
       replace q433 := eq_true q433
       have p434 : 0 <= (x5_1 : Int) := OD
       have q434 : x5_1 < (l1.length : Int) := OD
       obtain ⟨ad434, e434, hx434_0⟩ := Kd.at_int HR1.1 x5_1 p434 q434
       cases e434
       replace p434 := eq_true p434
       replace q434 := eq_true q434
       go_wp2
       repeat (go_quiet (fail); try go_wp2)
       go_roundg k1
       case measure => have := HK1.1; omega
       case rel => exact ⟨(wrap64 (x5_1 + 1)), RG, H', ⟨by have := HK1.1; omega⟩, DR⟩
     have c7b0 := beq_eq_false_iff_ne.mpr c7
     have c7b1 := bne_iff_ne.mpr c7
     obtain rfl := Option.some.inj H
     have p433 : 0 <= (x5_1 : Int) := OD
     have q433 : x5_1 < (l0.length : Int) := OD
     obtain ⟨ad433, e433, hx433_0⟩ := Kd.at_int HR0.1 x5_1 p433 q433
     cases e433
     replace p433 := eq_true p433
     replace q433 := eq_true q433
     have p434 : 0 <= (x5_1 : Int) := OD
     have q434 : x5_1 < (l1.length : Int) := OD
     obtain ⟨ad434, e434, hx434_0⟩ := Kd.at_int HR1.1 x5_1 p434 q434
     cases e434
     replace p434 := eq_true p434
     replace q434 := eq_true q434
     go_wp2
     repeat (go_quiet (fail); try go_wp2)
     go_ret
     exact ⟨RG, DR⟩
   obtain rfl := Option.some.inj H
   go_wp2
   repeat (go_quiet (fail); try go_wp2)
   go_ret
   exact ⟨RG, DR⟩
 have c3b0 := beq_eq_false_iff_ne.mpr c3
 have c3b1 := bne_iff_ne.mpr c3
 have c3b2 : (l0.length == l1.length) = false := by first | simpa using c3 | (simp at c3 ⊢; omega)
 obtain rfl := Option.some.inj H
 go_enter Try.func11, Try.ntmps11
 go_wp2
 repeat (go_quiet (fail); try go_wp2)
 go_ret
 exact ⟨RG, DR⟩
/-! ### laws_markIntS: function 14 -/
open Kd
def laws_markIntS.l0 : Nat -> List Int -> Int -> Int -> Option (Int × List Int)
 | 0, _, _, _ => none
 | k + 1, x0, x1, x5 => if x5 < (x0.length : Int) then (if 0 <= x5 then (laws_markIntS.l0 k (x0.set (x5 : Int).toNat x1) (wrap64 (x1 + 1)) (wrap64 (x5 + 1))) else (none)) else (some (x1, x0))
def laws_markIntS.f (k : Nat) (l0 : List Int) (a1 : Int) : Option (Int × List Int) := laws_markIntS.l0 k l0 a1 0
theorem laws_markIntS.mono_l : ∀ k, (∀ y0 y1 y2, LeO (laws_markIntS.l0 k y0 y1 y2) (laws_markIntS.l0 (k + 1) y0 y1 y2))
 | 0 => fun _ _ _ r h => by simp [laws_markIntS.l0] at h
 | k + 1 => by
  have ih0 := laws_markIntS.mono_l k
  intros
  first | unfold laws_markIntS.l0
  exact LM1 ih0
theorem laws_markIntS.mono : ∀ a0 a1 k, LeO (laws_markIntS.f k a0 a1) (laws_markIntS.f (k + 1) a0 a1) := by
 intro a0 a1 k
 have ih0 := laws_markIntS.mono_l k
 unfold laws_markIntS.f
 exact LM1 ih0
theorem laws_markIntS.calls (k : Nat) (P0_ : Nat -> Prop) (u9000_ : Value) (l0 : List Int) (a1 : Int) (r1 : Int) (r2 : List Int) (w0 w : World) (hB : Below w0.heap.size w0 w) (ho0 : Kd.R (Kd.int .i64) 3 w w0.heap.size P0_ u9000_ l0) (h : laws_markIntS.f k l0 a1 = some (r1, r2)) :
 Calls Try.prog 14 #[u9000_, .int .i64 a1] w fun e w' => e = .returned (.int .i64 r1) /\ Kd.R (Kd.int .i64) 3 w' w0.heap.size (fun k_ => (P0_ k_ ∨ w.heap.size <= k_)) u9000_ r2 /\ Below w0.heap.size w0 w' /\ Kept w w' (fun k_ => P0_ k_) := by
 have HO0 := Aside0.mk (show Kd.R (Kd.int .i64) 3 w w0.heap.size (fun k_ => (P0_ k_ ∨ w.heap.size <= k_)) u9000_ l0 from R_mono ho0 (fun k_ hk => (.inl hk)))
 have HK := Aside0.mk (Kept.refl w (fun k_ => P0_ k_))
 have HW0 := Aside0.mk hB.size
 have HB := Aside0.mk hB
 clear hB
 have H := h
 clear h
 unfold laws_markIntS.f at H
 have H' := Aside0.mk H
 clear H
 go_enter Try.func14, Try.ntmps14
 go_wp2
 go_loopg [1, 5] k (fun kq v1 v5 w' => ∃ (x0_1 : List Int) (x1_1 : Int) (x5_1 : Int), v1 = .int .i64 x1_1 /\ v5 = .int .i64 x5_1 /\ Aside0 (laws_markIntS.l0 kq x0_1 x1_1 x5_1 = some (r1, r2)) /\ Aside0 (kq <= k) /\ Aside0 (Kd.R (Kd.int .i64) 3 w' w0.heap.size (fun k_ => (P0_ k_ ∨ w.heap.size <= k_)) u9000_ x0_1) /\ Aside0 (Kept w w' (fun k_ => P0_ k_)) /\ Aside0 (Below w0.heap.size w0 w'))
 case atStart => exact ⟨(l0), (a1), (0), RG, RG, H', ⟨Nat.le_refl _⟩, ⟨PR HO0.1⟩, ⟨KL HK.1⟩, ⟨BL HB.1⟩⟩
 clear H'
 obtain ⟨x0_1, x1_1, x5_1, rfl, rfl, HA, HK1, HO_0, HK, HB⟩ := hrel
 cases gk with
 | zero => exact absurd HA.1 (by simp [laws_markIntS.l0])
 | succ k1 => ?_
 have H := HA.1
 clear HA
 simp only [laws_markIntS.l0] at H
 replace H := ifB H; rcases H with ⟨c3b0, H⟩ | ⟨c3b0, H⟩
 · replace H := ifN H; obtain ⟨c4b0, H⟩ := H
   generalize hy454 : ((x0_1.set (x5_1 : Int).toNat x1_1) : List Int) = y454 at H
   have Ny454 := Aside0.mk hy454.symm; clear hy454
   have H' := Aside0.mk H
   clear H
   obtain ⟨Ao6, co6, eo6⟩ := R_slice HO_0.1
   subst eo6
   have p5 : 0 <= (x5_1 : Int) := OD
   have q5 : (x5_1 : Int) < ((x0_1.length : Int) : Int) := OD
   obtain ⟨go5, co5, eo5, gb5, gl5, cl5, HG5⟩ := R_form HO_0.1 (by omega)
   (first | cases eo5 | (injection eo5 with ea_ en_ ec_; (first | subst ea_ | (injection ea_ with ea_; subst ea_)); subst ec_; clear en_))
   have GB5 := Aside0.mk gb5
   have GG5 := Aside0.mk HG5
   clear gb5 gl5 HG5
   have HMgo5 := Aside0.mk (show (P0_ go5 ∨ w.heap.size <= go5) from (HO_0.1.1 _ rfl))
   obtain ⟨hx5_0, hf5_0⟩ := R_celln 0 HO_0.1 (x5_1 : Int) p5 q5
   replace p5 := eq_true p5
   replace q5 := eq_true q5
   have HP7 := R_putg HO_0.1 (x5_1 : Int) x1_1
   go_wp2_with (first | ((with_reducible refine gate_store (t := 3) (p := 15) rfl ?_); refine storeE (t := 3) (p := 15) (w1 := (wr.setCell ⟨go5, (x5_1 : Int).toNat, none⟩ (.int .i64 x1_1))) ?_; intro w8 hw; have hg : wr.grownBy w8 (some go5) := (by rw [hw]; exact HP7.2); have hp_ : Kd.R (Kd.int .i64) 3 w8 w0.heap.size (fun k_ => (P0_ k_ ∨ w.heap.size <= k_)) (.slice (some ⟨go5, 0, none⟩) x0_1.length co6) y454 := (by rw [hw, Ny454.1]; exact HP7.1); clear HP7; refine E3 (hp_) ((by rw [hw]; exact below_set (HB.1) GB5.1 : Below w0.heap.size w0 w8)) (Kept.of_grown (S := (fun k_ => P0_ k_)) hg (KL HK.1) (fun k_ e_ => (HO_0.1.1 k_ e_))) ?_; clear HO_0 HB HK; intro HO_0 HB HK; clear hg hw hp_))
   go_roundg k1
   case measure => have := HK1.1; omega
   case rel => exact ⟨(y454), (wrap64 (x1_1 + 1)), (wrap64 (x5_1 + 1)), RG, RG, H', ⟨by have := HK1.1; omega⟩, ⟨PR HO_0.1⟩, ⟨KL HK.1⟩, ⟨BL HB.1⟩⟩
 simp only [Option.some.injEq, Prod.mk.injEq] at H
 obtain ⟨rfl, rfl⟩ := H
 obtain ⟨Ao9, co9, eo9⟩ := R_slice HO_0.1
 subst eo9
 go_wp2
 go_ret
 exact ⟨RF, RPE (HO_0.1), BL HB.1, KL HK.1⟩
/-! ### laws_heldIntS: function 15 -/
open Kd
def laws_heldIntS.l0 : Nat -> List Int -> Int -> Int -> Option (Int)
 | 0, _, _, _ => none
 | k + 1, x0, x1, x5 => if x5 < (x0.length : Int) then (if 0 <= x5 then (if (rd x0 x5) = x1 then (laws_heldIntS.l0 k x0 (wrap64 (x1 + 1)) (wrap64 (x5 + 1))) else (some (-1))) else (none)) else (some x1)
def laws_heldIntS.f (k : Nat) (l0 : List Int) (a1 : Int) : Option (Int) := laws_heldIntS.l0 k l0 a1 0
theorem laws_heldIntS.mono_l : ∀ k, (∀ y0 y1 y2, LeO (laws_heldIntS.l0 k y0 y1 y2) (laws_heldIntS.l0 (k + 1) y0 y1 y2))
 | 0 => fun _ _ _ r h => by simp [laws_heldIntS.l0] at h
 | k + 1 => by
  have ih0 := laws_heldIntS.mono_l k
  intros
  first | unfold laws_heldIntS.l0
  exact LM1 ih0
theorem laws_heldIntS.mono : ∀ a0 a1 k, LeO (laws_heldIntS.f k a0 a1) (laws_heldIntS.f (k + 1) a0 a1) := by
 intro a0 a1 k
 have ih0 := laws_heldIntS.mono_l k
 unfold laws_heldIntS.f
 exact LM1 ih0
theorem laws_heldIntS.calls (k : Nat) (A0 : Option Addr) (c0 : Nat) (l0 : List Int) (a1 : Int) (r : Int) (w : World) (hr0 : Kd.C (Kd.int .i64) w A0 l0.length l0) (hc0 : l0.length <= c0) (h : laws_heldIntS.f k l0 a1 = some r) :
 Calls Try.prog 15 #[.slice A0 l0.length c0, .int .i64 a1] w fun e w' => e = .returned (.int .i64 r) /\ Drawn0 w w' := by
 have HR0 := Aside0.mk hr0
 have HC0 := Aside0.mk hc0
 clear hr0 hc0
 have H := h
 clear h
 unfold laws_heldIntS.f at H
 have H' := Aside0.mk H
 clear H
 go_enter Try.func15, Try.ntmps15
 go_wp2
 go_loopg [1, 5] k (fun kq v1 v5 w' => ∃ (x1_1 : Int) (x5_1 : Int), v1 = .int .i64 x1_1 /\ v5 = .int .i64 x5_1 /\ Aside0 (laws_heldIntS.l0 kq l0 x1_1 x5_1 = some r) /\ Aside0 (kq <= k) /\ Drawn0 w w')
 case atStart => exact ⟨(a1), (0), RG, RG, H', ⟨Nat.le_refl _⟩, DR⟩
 clear H'
 obtain ⟨x1_1, x5_1, rfl, rfl, HA, HK1, ⟨m1, rfl⟩⟩ := hrel
 cases gk with
 | zero => exact absurd HA.1 (by simp [laws_heldIntS.l0])
 | succ k1 => ?_
 have H := HA.1
 clear HA
 simp only [laws_heldIntS.l0] at H
 replace H := ifB H; rcases H with ⟨c3b0, H⟩ | ⟨c3b0, H⟩
 · replace H := ifN H; obtain ⟨c4b0, H⟩ := H
   replace H := ifQ H; rcases H with ⟨c5, H⟩ | ⟨c5, H⟩
   · have c5b0 := beq_iff_eq.mpr c5
     have c5b1 := bne_eq_false_iff_eq.mpr c5
     clear c5
     have H' := Aside0.mk H
     clear H
     have p455 : 0 <= (x5_1 : Int) := OD
     have q455 : x5_1 < (l0.length : Int) := OD
     obtain ⟨ad455, e455, hx455_0⟩ := Kd.at_int HR0.1 x5_1 p455 q455
     cases e455
     replace p455 := eq_true p455
     replace q455 := eq_true q455
     go_wp2
     go_roundg k1
     case measure => have := HK1.1; omega
     case rel => exact ⟨(wrap64 (x1_1 + 1)), (wrap64 (x5_1 + 1)), RG, RG, H', ⟨by have := HK1.1; omega⟩, DR⟩
   have c5b0 := beq_eq_false_iff_ne.mpr c5
   have c5b1 := bne_iff_ne.mpr c5
   obtain rfl := Option.some.inj H
   have p455 : 0 <= (x5_1 : Int) := OD
   have q455 : x5_1 < (l0.length : Int) := OD
   obtain ⟨ad455, e455, hx455_0⟩ := Kd.at_int HR0.1 x5_1 p455 q455
   cases e455
   replace p455 := eq_true p455
   replace q455 := eq_true q455
   go_wp2
   go_ret
   exact ⟨RG, DR⟩
 obtain rfl := Option.some.inj H
 go_wp2
 go_ret
 exact ⟨RG, DR⟩
/-! ### laws_FnExactArrivalColumns: function 3 -/
open Kd
mutual
def laws_FnExactArrivalColumns.j0 : Nat -> List Int -> Bool -> List Int -> Bool -> Bool -> Int -> Int -> List (S100) -> Int -> Int -> Int -> Int -> Int -> Int -> Int -> List (S98) -> Int -> Int -> Int -> Int -> Int -> Option (Bool)
 | 0, _, _, _, _, _, _, _, _, _, _, _, _, _, _, _, _, _, _, _, _, _ => none
 | k + 1, x4, x5, x7, x8, x40, x457000, x457001, x457002, x457003, x457004, x457005, x457006, x457007, x483000, x483001, x483002, x483003, x483004, x483005, x483006, x483007 => if x40 = true then (some false) else ((laws_toMachine.f k x457000 x457001 x457002 x457003 x457004 x457005 x457006 x457007).bind fun bt488 => ((laws_eqMachine.f k x483000 x483001 x483002 x483003 x483004 x483005 x483006 x483007 bt488.1 bt488.2.1 bt488.2.2.1 bt488.2.2.2.1 bt488.2.2.2.2.1 bt488.2.2.2.2.2.1 bt488.2.2.2.2.2.2.1 bt488.2.2.2.2.2.2.2).bind fun t498 => (if t498 = true then ((laws_markMachine.f k x483000 x483001 x483002 x483003 x483004 x483005 x483006 x483007 1).bind fun bt499 => (if bt499.1 < 0 then (laws_FnExactArrivalColumns.j1 k x4 x5 x7 true x457000 x457001 x457002 x457003 x457004 x457005 x457006 x457007) else ((laws_eqIntS.f k x7 x4).bind fun t501 => (if t501 = true then (laws_FnExactArrivalColumns.j1 k x4 x5 x7 (x8 != x5) x457000 x457001 x457002 x457003 x457004 x457005 x457006 x457007) else (laws_FnExactArrivalColumns.j1 k x4 x5 x7 true x457000 x457001 x457002 x457003 x457004 x457005 x457006 x457007))))) else (some false))))
def laws_FnExactArrivalColumns.j1 : Nat -> List Int -> Bool -> List Int -> Bool -> Int -> Int -> List (S100) -> Int -> Int -> Int -> Int -> Int -> Option (Bool)
 | 0, _, _, _, _, _, _, _, _, _, _, _, _ => none
 | k + 1, x4, x5, x7, x61, x457000, x457001, x457002, x457003, x457004, x457005, x457006, x457007 => if x61 = true then (some false) else ((laws_markIntS.f k x7 1).bind fun bt502 => ((laws_heldIntS.f k bt502.2 1).bind fun t504 => (if t504 < 0 then (some false) else (if t504 = bt502.1 then ((laws_toMachine.f k x457000 x457001 x457002 x457003 x457004 x457005 x457006 x457007).bind fun bt505 => ((impl_ArrivalColumns.f k bt505.1 bt505.2.1 bt505.2.2.1 bt505.2.2.2.1 bt505.2.2.2.2.1 bt505.2.2.2.2.2.1 bt505.2.2.2.2.2.2.1 bt505.2.2.2.2.2.2.2).bind fun bt515 => ((laws_eqIntS.f k bt515.1 x4).bind fun t519 => (if t519 = true then (laws_FnExactArrivalColumns.j2 k bt502.2 bt502.1 (bt515.2 != x5)) else (laws_FnExactArrivalColumns.j2 k bt502.2 bt502.1 true))))) else (some false)))))
def laws_FnExactArrivalColumns.j2 : Nat -> List Int -> Int -> Bool -> Option (Bool)
 | 0, _, _, _ => none
 | k + 1, x7, x10, x87 => if x87 = true then (some false) else ((laws_heldIntS.f k x7 1).bind fun t520 => (if t520 < 0 then (some false) else (if t520 = x10 then (some true) else (some false))))
end
def laws_FnExactArrivalColumns.f (k : Nat) (a0_0 : Int) (a0_1 : Int) (l0_2 : List (S100)) (a0_3 : Int) (a0_4 : Int) (a0_5 : Int) (a0_6 : Int) (a0_7 : Int) : Option (Bool) := (laws_szMachine.f a0_0 a0_1 l0_2 a0_3 a0_4 a0_5 a0_6 a0_7 1048576).bind fun t457 => (if t457 < 0 then (some true) else ((laws_toMachine.f k a0_0 a0_1 l0_2 a0_3 a0_4 a0_5 a0_6 a0_7).bind fun bt458 => ((spec_ArrivalColumns.f k bt458.1 bt458.2.1 bt458.2.2.1 bt458.2.2.2.1 bt458.2.2.2.2.1 bt458.2.2.2.2.2.1 bt458.2.2.2.2.2.2.1 bt458.2.2.2.2.2.2.2).bind fun bt468 => ((laws_toMachine.f k a0_0 a0_1 l0_2 a0_3 a0_4 a0_5 a0_6 a0_7).bind fun bt472 => ((impl_ArrivalColumns.f k bt472.1 bt472.2.1 bt472.2.2.1 bt472.2.2.2.1 bt472.2.2.2.2.1 bt472.2.2.2.2.2.1 bt472.2.2.2.2.2.2.1 bt472.2.2.2.2.2.2.2).bind fun bt483 => ((laws_eqIntS.f k bt483.1 bt468.1).bind fun t487 => (if t487 = true then (laws_FnExactArrivalColumns.j0 k bt468.1 bt468.2 bt483.1 bt483.2 (bt483.2 != bt468.2) a0_0 a0_1 l0_2 a0_3 a0_4 a0_5 a0_6 a0_7 bt472.1 bt472.2.1 bt472.2.2.1 bt472.2.2.2.1 bt472.2.2.2.2.1 bt472.2.2.2.2.2.1 bt472.2.2.2.2.2.2.1 bt472.2.2.2.2.2.2.2) else (laws_FnExactArrivalColumns.j0 k bt468.1 bt468.2 bt483.1 bt483.2 true a0_0 a0_1 l0_2 a0_3 a0_4 a0_5 a0_6 a0_7 bt472.1 bt472.2.1 bt472.2.2.1 bt472.2.2.2.1 bt472.2.2.2.2.1 bt472.2.2.2.2.2.1 bt472.2.2.2.2.2.2.1 bt472.2.2.2.2.2.2.2))))))))
theorem laws_FnExactArrivalColumns.mono_l : ∀ k, (∀ y0 y1 y2 y3 y4 y5 y6 y7 y8 y9 y10 y11 y12 y13 y14 y15 y16 y17 y18 y19 y20, LeO (laws_FnExactArrivalColumns.j0 k y0 y1 y2 y3 y4 y5 y6 y7 y8 y9 y10 y11 y12 y13 y14 y15 y16 y17 y18 y19 y20) (laws_FnExactArrivalColumns.j0 (k + 1) y0 y1 y2 y3 y4 y5 y6 y7 y8 y9 y10 y11 y12 y13 y14 y15 y16 y17 y18 y19 y20)) /\ (∀ y0 y1 y2 y3 y4 y5 y6 y7 y8 y9 y10 y11, LeO (laws_FnExactArrivalColumns.j1 k y0 y1 y2 y3 y4 y5 y6 y7 y8 y9 y10 y11) (laws_FnExactArrivalColumns.j1 (k + 1) y0 y1 y2 y3 y4 y5 y6 y7 y8 y9 y10 y11)) /\ (∀ y0 y1 y2, LeO (laws_FnExactArrivalColumns.j2 k y0 y1 y2) (laws_FnExactArrivalColumns.j2 (k + 1) y0 y1 y2))
 | 0 => by refine ⟨?_, ?_, ?_⟩ <;> (intros; intro r h; first | (simp [laws_FnExactArrivalColumns.j0] at h; done) | (simp [laws_FnExactArrivalColumns.j1] at h; done) | (simp [laws_FnExactArrivalColumns.j2] at h; done))
 | k + 1 => by
  obtain ⟨ih0, ih1, ih2⟩ := laws_FnExactArrivalColumns.mono_l k
  refine ⟨?_, ?_, ?_⟩ <;> (
   intros
   first | unfold laws_FnExactArrivalColumns.j0 | unfold laws_FnExactArrivalColumns.j1 | unfold laws_FnExactArrivalColumns.j2
   repeat' first | (with_reducible first | apply ih0 | apply ih1 | apply ih2 | apply impl_ArrivalColumns.mono | apply laws_eqIntS.mono | apply laws_eqMachine.mono | apply laws_heldIntS.mono | apply laws_markIntS.mono | apply laws_markMachine.mono | apply laws_toMachine.mono | apply spec_ArrivalColumns.mono | exact LeO.refl _ | exact LeO.none _ | refine LeO.ite ?_ ?_ | refine LeO.bind ?_ (fun _ => ?_)) | exact LeO.none _ | refine LeO.ite ?_ ?_ | refine LeO.bind ?_ (fun _ => ?_))
theorem laws_FnExactArrivalColumns.mono : ∀ a0 a1 a2 a3 a4 a5 a6 a7 k, LeO (laws_FnExactArrivalColumns.f k a0 a1 a2 a3 a4 a5 a6 a7) (laws_FnExactArrivalColumns.f (k + 1) a0 a1 a2 a3 a4 a5 a6 a7) := by
 intro a0 a1 a2 a3 a4 a5 a6 a7 k
 obtain ⟨ih0, ih1, ih2⟩ := laws_FnExactArrivalColumns.mono_l k
 unfold laws_FnExactArrivalColumns.f
 repeat' first | (with_reducible first | apply ih0 | apply ih1 | apply ih2 | apply impl_ArrivalColumns.mono | apply laws_eqIntS.mono | apply laws_eqMachine.mono | apply laws_heldIntS.mono | apply laws_markIntS.mono | apply laws_markMachine.mono | apply laws_toMachine.mono | apply spec_ArrivalColumns.mono | exact LeO.refl _ | exact LeO.none _ | refine LeO.ite ?_ ?_ | refine LeO.bind ?_ (fun _ => ?_)) | exact LeO.none _ | refine LeO.ite ?_ ?_ | refine LeO.bind ?_ (fun _ => ?_)
theorem laws_FnExactArrivalColumns.calls (k : Nat) (a0_0 : Int) (a0_1 : Int) (A0_2 : Option Addr) (c0_2 : Nat) (l0_2 : List (S100)) (a0_3 : Int) (a0_4 : Int) (a0_5 : Int) (a0_6 : Int) (a0_7 : Int) (w : World) (hr0_2 : Kd.C k100 w A0_2 l0_2.length l0_2) (hc0_2 : l0_2.length <= c0_2) (h : laws_FnExactArrivalColumns.f k a0_0 a0_1 l0_2 a0_3 a0_4 a0_5 a0_6 a0_7 = some true) :
 Calls Try.prog 3 #[.agg #[.int .i64 a0_0, .int .i64 a0_1, .slice A0_2 l0_2.length c0_2, .int .i64 a0_3, .int .i64 a0_4, .int .i64 a0_5, .int .i64 a0_6, .int .i64 a0_7]] w fun e w' => e = .returned (.bool true) /\ Below w.heap.size w w' := by
 have hu26 := Try.underlying26
 have hu35 := Try.underlying35
 have HR0_2 := Aside0.mk hr0_2
 have HC0_2 := Aside0.mk hc0_2
 clear hr0_2 hc0_2
 have HB := Aside0.mk (Below.refl w.heap.size w)
 have H := h
 clear h
 unfold laws_FnExactArrivalColumns.f at H
 replace H := bindA H; obtain ⟨t457, A2, H⟩ := H
 replace H := ifB H; rcases H with ⟨c3b0, H⟩ | ⟨c3b0, H⟩
 · first | (obtain rfl := Option.some.inj H) | clear H
   go_enter Try.func3, Try.ntmps3
   go_wp2_with (first | ((with_reducible refine gate_dst (N := 1) rfl ?_); refine boxE (cs := #[.int .i64 a0_0, .int .i64 a0_1, .slice A0_2 l0_2.length c0_2, .int .i64 a0_3, .int .i64 a0_4, .int .i64 a0_5, .int .i64 a0_6, .int .i64 a0_7]) (t := 26) ?_; intro gb456 hg w4 hbox hb; refine E4b HB.1 hg hbox hb ?_; clear HB; intro HB BK456 GW456 GE456; clear hb hbox hg; obtain ⟨hcz5_0, hcz5_1, hcz5_2, hcz5_3, hcz5_4, hcz5_5, hcz5_6, hcz5_7, hfz5_0, hfz5_1, hfz5_2, hfz5_3, hfz5_4, hfz5_5, hfz5_6, hfz5_7⟩ := cz8 BK456.1) | ((with_reducible refine gate_callee (f := 7) rfl ?_); refine goesM (N := (some 16)) #[.agg #[.int .i64 a0_0, .int .i64 a0_1, .slice A0_2 l0_2.length c0_2, .int .i64 a0_3, .int .i64 a0_4, .int .i64 a0_5, .int .i64 a0_6, .int .i64 a0_7], .int .i64 1048576] Try.func7 ?_; (with_reducible refine (laws_szMachine.calls a0_0 a0_1 _ _ l0_2 a0_3 a0_4 a0_5 a0_6 a0_7 1048576 t457 _ ?side1 ?side2 A2.1).mono ?_); (case side1 => exact CB (C_below HR0_2.1 HB.1)); (case side2 => exact HC0_2.1); rintro e w6 ⟨rfl, hb⟩; refine ⟨_, rfl, ?_⟩; refine E2 (bB BK456.1 hb) (bS HB.1 hb) ?_; clear BK456 HB; intro BK456 HB; (try clear hb)))
   go_ret
   exact ⟨RF, BL HB.1⟩
 replace H := bindA H; obtain ⟨⟨t458, t459, t460, t463, t464, t465, t466, t467⟩, A7, H⟩ := H
 dsimp only at H
 replace H := bindA H; obtain ⟨⟨t468, t471⟩, A8, H⟩ := H
 dsimp only at H
 replace H := bindA H; obtain ⟨⟨t472, t473, t474, t477, t478, t479, t480, t481⟩, A9, H⟩ := H
 dsimp only at H
 replace H := bindA H; obtain ⟨⟨t483, t486⟩, A10, H⟩ := H
 dsimp only at H
 have HC11 := Aside0.mk H
 clear H
 go_enter Try.func3, Try.ntmps3
 go_upto_region 8 with (first | ((with_reducible refine gate_dst (N := 1) rfl ?_); refine boxE (cs := #[.int .i64 a0_0, .int .i64 a0_1, .slice A0_2 l0_2.length c0_2, .int .i64 a0_3, .int .i64 a0_4, .int .i64 a0_5, .int .i64 a0_6, .int .i64 a0_7]) (t := 26) ?_; intro gb456 hg w12 hbox hb; refine E4b HB.1 hg hbox hb ?_; clear HB; intro HB BK456 GW456 GE456; clear hb hbox hg; obtain ⟨hcz13_0, hcz13_1, hcz13_2, hcz13_3, hcz13_4, hcz13_5, hcz13_6, hcz13_7, hfz13_0, hfz13_1, hfz13_2, hfz13_3, hfz13_4, hfz13_5, hfz13_6, hfz13_7⟩ := cz8 BK456.1) | ((with_reducible refine gate_callee (f := 7) rfl ?_); refine goesM (N := (some 16)) #[.agg #[.int .i64 a0_0, .int .i64 a0_1, .slice A0_2 l0_2.length c0_2, .int .i64 a0_3, .int .i64 a0_4, .int .i64 a0_5, .int .i64 a0_6, .int .i64 a0_7], .int .i64 1048576] Try.func7 ?_; (with_reducible refine (laws_szMachine.calls a0_0 a0_1 _ _ l0_2 a0_3 a0_4 a0_5 a0_6 a0_7 1048576 t457 _ ?side1 ?side2 A2.1).mono ?_); (case side1 => exact CB (C_below HR0_2.1 HB.1)); (case side2 => exact HC0_2.1); rintro e w14 ⟨rfl, hb⟩; refine ⟨_, rfl, ?_⟩; refine E2 (bB BK456.1 hb) (bS HB.1 hb) ?_; clear BK456 HB; intro BK456 HB; (try clear hb); obtain ⟨hcz15_0, hcz15_1, hcz15_2, hcz15_3, hcz15_4, hcz15_5, hcz15_6, hcz15_7, hfz15_0, hfz15_1, hfz15_2, hfz15_3, hfz15_4, hfz15_5, hfz15_6, hfz15_7⟩ := cz8 BK456.1) | ((with_reducible refine gate_callee (f := 9) rfl ?_); refine goesM (N := (some 21)) #[.agg #[.int .i64 a0_0, .int .i64 a0_1, .slice A0_2 l0_2.length c0_2, .int .i64 a0_3, .int .i64 a0_4, .int .i64 a0_5, .int .i64 a0_6, .int .i64 a0_7]] Try.func9 ?_; (with_reducible refine (laws_toMachine.calls k a0_0 a0_1 _ _ l0_2 a0_3 a0_4 a0_5 a0_6 a0_7 t458 t459 t460 t463 t464 t465 t466 t467 _ ?side1 ?side2 A7.1).mono ?_); (case side1 => exact CB (C_below HR0_2.1 HB.1)); (case side2 => exact HC0_2.1); rintro e w16 ⟨v461, rfl, ho0, hb⟩; refine ⟨_, rfl, ?_⟩; refine E3 (R_lower ho0 (bZ HB.1)) (bB BK456.1 hb) (bS HB.1 hb) ?_; clear BK456 HB; intro HO462 BK456 HB; (try clear hb); (try clear ho0); obtain ⟨Ao17, co17, eo17⟩ := R_slice HO462.1; subst eo17) | ((with_reducible refine gate_callee (f := 8) rfl ?_); refine goesM (N := (some 22)) #[.agg #[.int .i64 t458, .int .i64 t459, .slice Ao17 t460.length co17, .int .i64 t463, .int .i64 t464, .int .i64 t465, .int .i64 t466, .int .i64 t467]] Try.func8 ?_; (with_reducible refine (spec_ArrivalColumns.calls k t458 t459 _ _ t460 t463 t464 t465 t466 t467 t468 t471 _ ?side1 ?side2 A8.1).mono ?_); (case side1 => exact CB (R_reads' HO462.1).2.2); (case side2 => exact (R_reads' HO462.1).2.1); rintro e w18 ⟨v469, rfl, ho0, hb⟩; refine ⟨_, rfl, ?_⟩; refine E4 (rB HO462.1 hb) (R_lower ho0 (bZ HB.1)) (bB BK456.1 hb) (bS HB.1 hb) ?_; clear HO462 BK456 HB; intro HO462 HO470 BK456 HB; (try clear hb); (try clear ho0); obtain ⟨hcz19_0, hcz19_1, hcz19_2, hcz19_3, hcz19_4, hcz19_5, hcz19_6, hcz19_7, hfz19_0, hfz19_1, hfz19_2, hfz19_3, hfz19_4, hfz19_5, hfz19_6, hfz19_7⟩ := cz8 BK456.1) | ((with_reducible refine gate_callee (f := 9) rfl ?_); refine goesM (N := (some 26)) #[.agg #[.int .i64 a0_0, .int .i64 a0_1, .slice A0_2 l0_2.length c0_2, .int .i64 a0_3, .int .i64 a0_4, .int .i64 a0_5, .int .i64 a0_6, .int .i64 a0_7]] Try.func9 ?_; (with_reducible refine (laws_toMachine.calls k a0_0 a0_1 _ _ l0_2 a0_3 a0_4 a0_5 a0_6 a0_7 t472 t473 t474 t477 t478 t479 t480 t481 _ ?side1 ?side2 A9.1).mono ?_); (case side1 => exact CB (C_below HR0_2.1 HB.1)); (case side2 => exact HC0_2.1); rintro e w20 ⟨v475, rfl, ho0, hb⟩; refine ⟨_, rfl, ?_⟩; refine E5 (R_elder' (PR HO462.1) (R_base ho0) hb) (rB HO470.1 hb) (R_lower (R_new' ho0 (R_lt (PR HO462.1))) (bZ HB.1)) (bB BK456.1 hb) (bS HB.1 hb) ?_; clear HO462 HO470 BK456 HB; intro HO462 HO470 HO476 BK456 HB; (try clear hb); (try clear ho0)) | ((with_reducible refine gate_dst (N := 6) rfl ?_); refine boxE (cs := #[.int .i64 0, .int .i64 0, .slice none 0 0, .int .i64 0, .int .i64 0, .int .i64 0, .int .i64 0, .int .i64 0]) (t := 35) ?_; intro gb482 hg w21 hbox hb; refine E10 (rB HO462.1 hb) (rB HO470.1 hb) (rB HO476.1 hb) (bB BK456.1 hb) (bS HB.1 hb) (hbox) (gX HB.1 hg) (gX HB.1 hg) (nB BK456.1 hg) (nC BK456.1 hg) ?_; clear HO462 HO470 HO476 BK456 HB; intro HO462 HO470 HO476 BK456 HB BK482 GW482 GE482 NB456_482 NB482_456; clear hb hbox hg; have hnb22 := NB482_456.1; have hnc22 := NB456_482.1; obtain ⟨hcz23_0, hcz23_1, hcz23_2, hcz23_3, hcz23_4, hcz23_5, hcz23_6, hcz23_7, hfz23_0, hfz23_1, hfz23_2, hfz23_3, hfz23_4, hfz23_5, hfz23_6, hfz23_7⟩ := cz8 BK482.1; obtain ⟨Ao24, co24, eo24⟩ := R_slice HO476.1; subst eo24) | ((with_reducible refine gate_callee (f := 10) rfl ?_); refine goesM (N := (some 29)) #[.agg #[.int .i64 t472, .int .i64 t473, .slice Ao24 t474.length co24, .int .i64 t477, .int .i64 t478, .int .i64 t479, .int .i64 t480, .int .i64 t481]] Try.func10 ?_; (with_reducible refine (impl_ArrivalColumns.calls k t472 t473 _ _ t474 t477 t478 t479 t480 t481 t483 t486 _ ?side1 ?side2 A10.1).mono ?_); (case side1 => refine (R_reads' (e := 98) (base := w.heap.size) (ok := fun k_ => (True /\ some k_ ≠ (.slice Ao17 t460.length co17 : Value).ownBlock)) (n := t474.length) (c := co24) ?_).2.2; exact (by (with_reducible repeat (first | apply R_alloc | apply R_drewN | apply R_drew)); exact (R_mono (RQ gb482 7 (RQ gb482 6 (RQ gb482 5 (RQ gb482 4 (RQ gb482 3 (RQ gb482 2 (RQ gb482 1 (RQ gb482 0 (R_types HO476.1 BK482.1 (by decide)) _) _) _) _) _) _) _) _) (fun _ h_ => h_.1)))); (case side2 => exact (R_reads' HO476.1).2.1); rintro e w25 ⟨v484, rfl, ho0, hb⟩; refine ⟨_, rfl, ?_⟩; refine E7 (R_below (by (with_reducible repeat (first | apply R_alloc | apply R_drewN | apply R_drew)); exact (R_mono (RQ gb482 7 (RQ gb482 6 (RQ gb482 5 (RQ gb482 4 (RQ gb482 3 (RQ gb482 2 (RQ gb482 1 (RQ gb482 0 (R_types HO462.1 BK482.1 (by decide)) _) _) _) _) _) _) _) _) (fun _ h_ => h_.1))) hb) (R_elder' (by (with_reducible repeat (first | apply R_alloc | apply R_drewN | apply R_drew)); exact (R_mono (RQ gb482 7 (RQ gb482 6 (RQ gb482 5 (RQ gb482 4 (RQ gb482 3 (RQ gb482 2 (RQ gb482 1 (RQ gb482 0 (R_types HO470.1 BK482.1 (by decide)) _) _) _) _) _) _) _) _) (fun _ h_ => h_.1))) (R_base ho0) hb) (R_below (by (with_reducible repeat (first | apply R_alloc | apply R_drewN | apply R_drew)); exact (R_mono (RQ gb482 7 (RQ gb482 6 (RQ gb482 5 (RQ gb482 4 (RQ gb482 3 (RQ gb482 2 (RQ gb482 1 (RQ gb482 0 (R_types HO476.1 BK482.1 (by decide)) _) _) _) _) _) _) _) _) (fun _ h_ => h_.1))) hb) (R_lower (R_new' ho0 (R_lt (by (with_reducible repeat (first | apply R_alloc | apply R_drewN | apply R_drew)); exact (R_mono (RQ gb482 7 (RQ gb482 6 (RQ gb482 5 (RQ gb482 4 (RQ gb482 3 (RQ gb482 2 (RQ gb482 1 (RQ gb482 0 (R_types HO470.1 BK482.1 (by decide)) _) _) _) _) _) _) _) _) (fun _ h_ => h_.1))))) (bZ HB.1)) (blk_below (g := gb456) (o := .cells #[.int .i64 a0_0, .int .i64 a0_1, .slice A0_2 l0_2.length c0_2, .int .i64 a0_3, .int .i64 a0_4, .int .i64 a0_5, .int .i64 a0_6, .int .i64 a0_7] 26 (0, 0)) (PF1 NB456_482.1 BK456.1) hb) (blk_below (g := gb482) (o := .cells #[.int .i64 t472, .int .i64 t473, .slice Ao24 t474.length co24, .int .i64 t477, .int .i64 t478, .int .i64 t479, .int .i64 t480, .int .i64 t481] 35 (0, 0)) (PF0 BK482.1) hb) (bS HB.1 hb) ?_; clear HO462 HO470 HO476 BK456 BK482 HB; intro HO462 HO470 HO476 HO485 BK456 BK482 HB; (try clear hb); (try clear ho0)))
 (try simp only [Act.put, List.setIfInBounds_toArray, List.set_cons_zero, List.set_cons_succ])
 go_cut [40] (fun v40 wc => ∃ (kq : Nat) (x40_10 : Bool), v40 = .bool x40_10 /\ Aside0 (laws_FnExactArrivalColumns.j0 kq t468 t471 t483 t486 x40_10 a0_0 a0_1 l0_2 a0_3 a0_4 a0_5 a0_6 a0_7 t472 t473 t474 t477 t478 t479 t480 t481 = some true) /\ Aside0 (kq <= k) /\ Aside0 (Kd.R (Kd.int .i64) 3 wc w.heap.size (fun k_ => some k_ ≠ (v484 : Value).ownBlock) v469 t468) /\ Aside0 (Kd.R (Kd.int .i64) 3 wc w.heap.size (fun k_ => some k_ ≠ (v469 : Value).ownBlock) v484 t483) /\ Aside0 (Kd.R k98 98 wc w.heap.size (fun _ => True) (.slice Ao24 t474.length co24) t474) /\ Aside0 (wc.heap[gb456]? = some (.cells #[.int .i64 a0_0, .int .i64 a0_1, (.slice A0_2 l0_2.length c0_2), .int .i64 a0_3, .int .i64 a0_4, .int .i64 a0_5, .int .i64 a0_6, .int .i64 a0_7] 26 (0, 0))) /\ Aside0 (wc.heap[gb482]? = some (.cells #[.int .i64 t472, .int .i64 t473, (.slice Ao24 t474.length co24), .int .i64 t477, .int .i64 t478, .int .i64 t479, .int .i64 t480, .int .i64 t481] 35 (0, 0))) /\ Aside0 (Below w.heap.size w wc))
 case first =>
  have H := HC11.1
  clear HC11
  replace H := bindA H; obtain ⟨t487, A26, H⟩ := H
  replace H := ifT H (by cases k <;> simp [laws_FnExactArrivalColumns.j0]); obtain ⟨rfl, H⟩ := H
  have H' := Aside0.mk H
  clear H
  obtain ⟨Ao28, co28, eo28⟩ := R_slice HO485.1
  subst eo28
  obtain ⟨Ao29, co29, eo29⟩ := R_slice HO470.1
  subst eo29
  go_wp2_with (first | ((with_reducible refine gate_callee (f := 11) rfl ?_); refine goesM (N := (some 34)) #[.slice Ao28 t483.length co28, .slice Ao29 t468.length co29] Try.func11 ?_; (with_reducible refine (laws_eqIntS.calls k _ _ t483 _ _ t468 true _ ?side1 ?side2 ?side3 ?side4 A26.1).mono ?_); (case side1 => exact CB (R_reads' HO485.1).2.2); (case side2 => exact (R_reads' HO485.1).2.1); (case side3 => exact CB (R_reads' HO470.1).2.2); (case side4 => exact (R_reads' HO470.1).2.1); rintro e w' ⟨rfl, ⟨nd, rfl⟩⟩; refine ⟨_, rfl, ?_⟩))
  go_meet
  case rel => exact ⟨_, ((t486 != t471)), RG, H', ⟨by first | omega | exact Nat.le_refl _⟩, ⟨RPE (R_mono HO470.1 (fun _ hk => hk.2))⟩, ⟨RPE (R_mono HO485.1 (fun _ hk => hk.2))⟩, ⟨RPE (R_mono HO476.1 (fun _ hk => trivial))⟩, ⟨PB BK456.1⟩, ⟨PB BK482.1⟩, ⟨BL HB.1⟩⟩
 clear HC11
 clear c3b0 hcz13_0 hcz13_1 hcz13_2 hcz13_3 hcz13_4 hcz13_5 hcz13_6 hcz13_7 hcz15_0 hcz15_1 hcz15_2 hcz15_3 hcz15_4 hcz15_5 hcz15_6 hcz15_7 hcz19_0 hcz19_1 hcz19_2 hcz19_3 hcz19_4 hcz19_5 hcz19_6 hcz19_7 hcz23_0 hcz23_1 hcz23_2 hcz23_3 hcz23_4 hcz23_5 hcz23_6 hcz23_7 hfz13_0 hfz13_1 hfz13_2 hfz13_3 hfz13_4 hfz13_5 hfz13_6 hfz13_7 hfz15_0 hfz15_1 hfz15_2 hfz15_3 hfz15_4 hfz15_5 hfz15_6 hfz15_7 hfz19_0 hfz19_1 hfz19_2 hfz19_3 hfz19_4 hfz19_5 hfz19_6 hfz19_7 hfz23_0 hfz23_1 hfz23_2 hfz23_3 hfz23_4 hfz23_5 hfz23_6 hfz23_7
 obtain ⟨kq, x40_10, rfl, HA, HJ10, HO_4, HO_7, HO_483002, BK456, BK482, HB⟩ := hcut
 cases kq with
 | zero => exact absurd HA.1 (by simp [laws_FnExactArrivalColumns.j0])
 | succ kj10 => ?_
 have H := HA.1
 clear HA
 simp only [laws_FnExactArrivalColumns.j0] at H
 replace H := ifF H (by simp); obtain ⟨rfl, H⟩ := H
 replace H := bindA H; obtain ⟨⟨t488, t489, t490, t493, t494, t495, t496, t497⟩, A33, H⟩ := H
 dsimp only at H
 replace H := bindA H; obtain ⟨t498, A34, H⟩ := H
 replace H := ifT H (by simp); obtain ⟨rfl, H⟩ := H
 replace H := bindA H; obtain ⟨⟨t499, t500⟩, A36, H⟩ := H
 dsimp only at H
 have HC37 := Aside0.mk H
 clear H
 try go_wp2
 refine E6 (R_drew HO_4.1) (R_drew HO_7.1) (R_drew HO_483002.1) (blk_drew BK456.1) (blk_drew BK482.1) (below_drew1 HB.1) ?_
 clear HO_4 HO_7 HO_483002 BK456 BK482 HB
 intro HO_4 HO_7 HO_483002 BK456 BK482 HB
 refine start_ (n := 5) (S := fun w' => w'.cell? ⟨gb482, 0, none⟩ = some (.int .i64 t472) /\ w'.cell? ⟨gb482, 1, none⟩ = some (.int .i64 t473) /\ w'.cell? ⟨gb482, 2, none⟩ = some (.slice Ao24 t474.length co24) /\ w'.cell? ⟨gb482, 3, none⟩ = some (.int .i64 t477) /\ w'.cell? ⟨gb482, 4, none⟩ = some (.int .i64 t478) /\ w'.cell? ⟨gb482, 5, none⟩ = some (.int .i64 t479) /\ w'.cell? ⟨gb482, 6, none⟩ = some (.int .i64 t480) /\ w'.cell? ⟨gb482, 7, none⟩ = some (.int .i64 t481) /\ w'.cell? ⟨gb456, 0, none⟩ = some (.int .i64 a0_0) /\ w'.cell? ⟨gb456, 1, none⟩ = some (.int .i64 a0_1) /\ w'.cell? ⟨gb456, 2, none⟩ = some (.slice A0_2 l0_2.length c0_2) /\ w'.cell? ⟨gb456, 3, none⟩ = some (.int .i64 a0_3) /\ w'.cell? ⟨gb456, 4, none⟩ = some (.int .i64 a0_4) /\ w'.cell? ⟨gb456, 5, none⟩ = some (.int .i64 a0_5) /\ w'.cell? ⟨gb456, 6, none⟩ = some (.int .i64 a0_6) /\ w'.cell? ⟨gb456, 7, none⟩ = some (.int .i64 a0_7)) (ds := []) #[Zz,Zz,Zz,Zz,Zz] (by kernel_rfl) rfl rfl ⟨(blk_cell BK482.1 0).trans rfl, (blk_cell BK482.1 1).trans rfl, (blk_cell BK482.1 2).trans rfl, (blk_cell BK482.1 3).trans rfl, (blk_cell BK482.1 4).trans rfl, (blk_cell BK482.1 5).trans rfl, (blk_cell BK482.1 6).trans rfl, (blk_cell BK482.1 7).trans rfl, (blk_cell BK456.1 0).trans rfl, (blk_cell BK456.1 1).trans rfl, (blk_cell BK456.1 2).trans rfl, (blk_cell BK456.1 3).trans rfl, (blk_cell BK456.1 4).trans rfl, (blk_cell BK456.1 5).trans rfl, (blk_cell BK456.1 6).trans rfl, (blk_cell BK456.1 7).trans rfl⟩ (fun hHeld => ?_)
 generalize wc.drew = w38 at HO_4 HO_7 HO_483002 BK456 BK482 HB hHeld ⊢
 refine takeF 0 (N := some 41) hHeld ?_
 refine takeF 1 (N := some 42) hHeld ?_
 refine one_ (i := 2) (N := some 43) #[Yy,Yy,Yy,Zz,Zz] rfl rfl (by kernel_rfl) (by decide) (fun K hK => ?_)
 refine goes_ Try.func9 (by kernel_rfl) rfl #[.agg #[.int .i64 a0_0, .int .i64 a0_1, .slice A0_2 l0_2.length c0_2, .int .i64 a0_3, .int .i64 a0_4, .int .i64 a0_5, .int .i64 a0_6, .int .i64 a0_7]] (by rfl) rfl rfl (by (try simp only [List.map_toArray, List.map_cons, List.map_nil]); first | done | rfl | (simp only [List.length_drop, List.length_take]; rfl)) ?_
 with_reducible refine (laws_toMachine.calls kj10 a0_0 a0_1 _ _ l0_2 a0_3 a0_4 a0_5 a0_6 a0_7 t488 t489 t490 t493 t494 t495 t496 t497 _ ?side1 ?side2 A33.1).mono ?_
 (case side1 => exact CB (C_below HR0_2.1 HB.1))
 (case side2 => exact HC0_2.1)
 rintro e w39 ⟨v491, rfl, ho0, hb⟩
 refine ⟨_, rfl, ?_⟩
 refine E7 (rB HO_4.1 hb) (rB HO_7.1 hb) (R_elder' (PR HO_483002.1) (R_base ho0) hb) (R_lower (R_new' ho0 (R_lt (PR HO_483002.1))) (bZ HB.1)) (bB BK456.1 hb) (bB BK482.1 hb) (bS HB.1 hb) ?_
 clear HO_4 HO_7 HO_483002 BK456 BK482 HB
 intro HO_4 HO_7 HO_483002 HO492 BK456 BK482 HB
 (try clear hb)
 (try clear hb2)
 (try clear hk)
 (try clear hi)
 (try clear ho0)
 obtain ⟨Ao40, co40, eo40⟩ := R_slice HO492.1
 (first | subst eo40 | (injection eo40 with f1_ f2_ f3_; have f4_ := f1_.symm; have f5_ := f3_.symm; clear f1_ f2_ f3_; subst f4_; subst f5_))
 refine hK.out _ _ ⟨(blk_cell BK482.1 0).trans rfl, (blk_cell BK482.1 1).trans rfl, (blk_cell BK482.1 2).trans rfl, (blk_cell BK482.1 3).trans rfl, (blk_cell BK482.1 4).trans rfl, (blk_cell BK482.1 5).trans rfl, (blk_cell BK482.1 6).trans rfl, (blk_cell BK482.1 7).trans rfl, (blk_cell BK456.1 0).trans rfl, (blk_cell BK456.1 1).trans rfl, (blk_cell BK456.1 2).trans rfl, (blk_cell BK456.1 3).trans rfl, (blk_cell BK456.1 4).trans rfl, (blk_cell BK456.1 5).trans rfl, (blk_cell BK456.1 6).trans rfl, (blk_cell BK456.1 7).trans rfl⟩ (fun hHeld => ?_)
 clear hK K
 refine norm_ (a' := ?_) ?_ ?_
 rotate_left
 · show Act.put _ (some 43) _ = _
   simp only [Act.put, List.setIfInBounds_toArray, List.set_cons_zero, List.set_cons_succ, i64_w, i32_w]
   rfl
 refine one_ (i := 3) (N := some 44) #[Yy,Yy,Yy,Yy,Zz] rfl rfl (by kernel_rfl) (by decide) (fun K hK => ?_)
 refine goes_ Try.func12 (by kernel_rfl) rfl #[.agg #[.int .i64 t472, .int .i64 t473, .slice Ao24 t474.length co24, .int .i64 t477, .int .i64 t478, .int .i64 t479, .int .i64 t480, .int .i64 t481], .agg #[.int .i64 t488, .int .i64 t489, .slice Ao40 t490.length co40, .int .i64 t493, .int .i64 t494, .int .i64 t495, .int .i64 t496, .int .i64 t497]] (by rfl) rfl rfl (by (try simp only [List.map_toArray, List.map_cons, List.map_nil]); first | done | rfl | (simp only [List.length_drop, List.length_take]; rfl)) ?_
 with_reducible refine (laws_eqMachine.calls kj10 t472 t473 _ _ t474 t477 t478 t479 t480 t481 t488 t489 _ _ t490 t493 t494 t495 t496 t497 true _ ?side1 ?side2 ?side3 ?side4 A34.1).mono ?_
 (case side1 => exact CB (R_reads' HO_483002.1).2.2)
 (case side2 => exact (R_reads' HO_483002.1).2.1)
 (case side3 => exact CB (R_reads' HO492.1).2.2)
 (case side4 => exact (R_reads' HO492.1).2.1)
 rintro e w41 ⟨rfl, hb⟩
 refine ⟨_, rfl, ?_⟩
 refine E7 (rB HO_4.1 hb) (rB HO_7.1 hb) (rB HO_483002.1 hb) (rB HO492.1 hb) (bB BK456.1 hb) (bB BK482.1 hb) (bS HB.1 hb) ?_
 clear HO_4 HO_7 HO_483002 HO492 BK456 BK482 HB
 intro HO_4 HO_7 HO_483002 HO492 BK456 BK482 HB
 (try clear hb)
 (try clear hb2)
 (try clear hk)
 (try clear hi)
 refine hK.out _ _ ⟨(blk_cell BK482.1 0).trans rfl, (blk_cell BK482.1 1).trans rfl, (blk_cell BK482.1 2).trans rfl, (blk_cell BK482.1 3).trans rfl, (blk_cell BK482.1 4).trans rfl, (blk_cell BK482.1 5).trans rfl, (blk_cell BK482.1 6).trans rfl, (blk_cell BK482.1 7).trans rfl, (blk_cell BK456.1 0).trans rfl, (blk_cell BK456.1 1).trans rfl, (blk_cell BK456.1 2).trans rfl, (blk_cell BK456.1 3).trans rfl, (blk_cell BK456.1 4).trans rfl, (blk_cell BK456.1 5).trans rfl, (blk_cell BK456.1 6).trans rfl, (blk_cell BK456.1 7).trans rfl⟩ (fun hHeld => ?_)
 clear hK K
 refine norm_ (a' := ?_) ?_ ?_
 rotate_left
 · show Act.put _ (some 44) _ = _
   simp only [Act.put, List.setIfInBounds_toArray, List.set_cons_zero, List.set_cons_succ, i64_w, i32_w]
   rfl
 refine pure_ (i := 4) (N := some 45) (v := ?_) (a' := ?_) #[Yy,Yy,Yy,Yy,Yy] rfl rfl (by kernel_rfl) (fun _ _ _ h => h) (Or.inl ⟨by rfl, ?_⟩) ?_ ?_
 rotate_left
 · intro w'
   go_simp
   with_reducible rfl
 rotate_left
 · simp only [Act.put, List.setIfInBounds_toArray, List.set_cons_zero, List.set_cons_succ, i64_w, i32_w]
   rfl
 refine done_ (by kernel_rfl) ?_
 obtain ⟨hcz43_0, hcz43_1, hcz43_2, hcz43_3, hcz43_4, hcz43_5, hcz43_6, hcz43_7, hfz43_0, hfz43_1, hfz43_2, hfz43_3, hfz43_4, hfz43_5, hfz43_6, hfz43_7⟩ := cz8 BK482.1
 go_upto_region 14 with (first | ((with_reducible refine gate_callee (f := 13) rfl ?_); refine goesM (N := (some 48)) #[.agg #[.int .i64 t472, .int .i64 t473, .slice Ao24 t474.length co24, .int .i64 t477, .int .i64 t478, .int .i64 t479, .int .i64 t480, .int .i64 t481], .int .i64 1] Try.func13 ?_; (with_reducible refine (laws_markMachine.calls kj10 t472 t473 (fun k_ => some k_ = (.slice Ao24 t474.length co24 : Value).ownBlock) (.slice Ao24 t474.length co24) t474 t477 t478 t479 t480 t481 1 t499 t500 w _ ?side1 ?side2 A36.1).mono ?_); (case side1 => exact BL HB.1); (case side2 => exact R_tight rfl HO_483002.1); rintro e w44 ⟨rfl, hy0, hb, hkp⟩; refine ⟨_, rfl, ?_⟩; refine E7 (R_mono (ok' := fun k_ => some k_ ≠ (v484 : Value).ownBlock) (R_keptB ((R_apart' HO_4.1 (R_typed HO_483002.1) (by decide))) hkp (fun k_ hk_ hs_ => (hk_.2) hs_)) (fun k_ hk_ => hk_.1.1)) (R_mono (ok' := fun k_ => some k_ ≠ (v469 : Value).ownBlock) (R_keptB ((R_apart' HO_7.1 (R_typed HO_483002.1) (by decide))) hkp (fun k_ hk_ hs_ => (hk_.2) hs_)) (fun k_ hk_ => hk_.1.1)) (R_reok rfl hy0 (fun k_ e_ => HO_483002.1.1 k_ e_)) (blk_kept (PB BK456.1) hkp (fun hs_ => (fun e_ => (R_ne HO_483002.1 BK456.1 (by decide)) e_) hs_)) (blk_kept (PB BK482.1) hkp (fun hs_ => (fun e_ => (R_ne HO_483002.1 BK482.1 (by decide)) e_) hs_)) (R_mono (ok' := fun k_ => some k_ ≠ (.slice Ao24 t474.length co24 : Value).ownBlock) (R_keptB (HO492.1) hkp (fun k_ hk_ hs_ => (hk_.2) hs_)) (fun k_ hk_ => hk_.1.2)) (hb) ?_; clear HO_4 HO_7 HO_483002 BK456 BK482 HO492 HB; intro HO_4 HO_7 HO_483002 BK456 BK482 HO492 HB; (try clear hb); (try clear hkp); (try clear hy0)))
 (try simp only [Act.put, List.setIfInBounds_toArray, List.set_cons_zero, List.set_cons_succ])
 go_cut [61] (fun v61 wc => ∃ (kq : Nat) (x61_36 : Bool), v61 = .bool x61_36 /\ Aside0 (laws_FnExactArrivalColumns.j1 kq t468 t471 t483 x61_36 a0_0 a0_1 l0_2 a0_3 a0_4 a0_5 a0_6 a0_7 = some true) /\ Aside0 (kq <= kj10) /\ Aside0 (Kd.R (Kd.int .i64) 3 wc w.heap.size (fun k_ => some k_ ≠ (v484 : Value).ownBlock) v469 t468) /\ Aside0 (Kd.R (Kd.int .i64) 3 wc w.heap.size (fun k_ => some k_ ≠ (v469 : Value).ownBlock) v484 t483) /\ Aside0 (Kd.R k98 98 wc w.heap.size (fun _ => True) (.slice Ao24 t474.length co24) t500) /\ Aside0 (wc.heap[gb456]? = some (.cells #[.int .i64 a0_0, .int .i64 a0_1, (.slice A0_2 l0_2.length c0_2), .int .i64 a0_3, .int .i64 a0_4, .int .i64 a0_5, .int .i64 a0_6, .int .i64 a0_7] 26 (0, 0))) /\ Aside0 (wc.heap[gb482]? = some (.cells #[.int .i64 t472, .int .i64 t473, (.slice Ao24 t474.length co24), .int .i64 t477, .int .i64 t478, .int .i64 t479, .int .i64 t480, .int .i64 t481] 35 (0, 0))) /\ Aside0 (Below w.heap.size w wc))
 case first =>
  have H := HC37.1
  clear HC37
  replace H := ifQ H; rcases H with ⟨c45, H⟩ | ⟨c45, H⟩
  · exact absurd H (by cases kj10 <;> simp [laws_FnExactArrivalColumns.j1])
  have c45b0 := decide_eq_false c45
  clear c45
  (first | rw [c45b0] | (simp only [i64_w, i32_w]; rw [c45b0]) | skip)
  replace H := bindA H; obtain ⟨t501, A46, H⟩ := H
  replace H := ifT H (by cases kj10 <;> simp [laws_FnExactArrivalColumns.j1]); obtain ⟨rfl, H⟩ := H
  have H' := Aside0.mk H
  clear H
  obtain ⟨Ao48, co48, eo48⟩ := R_slice HO_7.1
  subst eo48
  obtain ⟨Ao49, co49, eo49⟩ := R_slice HO_4.1
  subst eo49
  go_wp2_with (first | (go_at_call 11; (with_reducible refine (laws_eqIntS.calls kj10 _ _ t483 _ _ t468 true _ ?side1 ?side2 ?side3 ?side4 A46.1).mono ?_); (case side1 => exact CB (R_reads' HO_7.1).2.2); (case side2 => exact (R_reads' HO_7.1).2.1); (case side3 => exact CB (R_reads' HO_4.1).2.2); (case side4 => exact (R_reads' HO_4.1).2.1); rintro e w' ⟨rfl, ⟨nd, rfl⟩⟩))
  go_meet
  case rel => exact ⟨_, ((t486 != t471)), RG, H', ⟨by have := HJ10.1; first | omega | exact Nat.le_refl _⟩, ⟨PR HO_4.1⟩, ⟨PR HO_7.1⟩, ⟨RPE (R_mono HO_483002.1 (fun _ hk => trivial))⟩, ⟨PB BK456.1⟩, ⟨PB BK482.1⟩, ⟨BL HB.1⟩⟩
 clear HC37
 clear hcz43_0 hcz43_1 hcz43_2 hcz43_3 hcz43_4 hcz43_5 hcz43_6 hcz43_7 hfz43_0 hfz43_1 hfz43_2 hfz43_3 hfz43_4 hfz43_5 hfz43_6 hfz43_7
 obtain ⟨kq, x61_36, rfl, HA, HJ36, HO_4, HO_7, HO_483002, BK456, BK482, HB⟩ := hcut
 have hl483002_36 := (R_reads' HO_483002.1).1
 rw [hl483002_36] at HO_483002
 (try simp only [hl483002_36])
 (try simp only [hl483002_36] at BK456)
 (try simp only [hl483002_36] at BK482)
 (try simp only [hl483002_36] at HO_4)
 (try simp only [hl483002_36] at HO_7)
 cases kq with
 | zero => exact absurd HA.1 (by simp [laws_FnExactArrivalColumns.j1])
 | succ kj36 => ?_
 have H := HA.1
 clear HA
 simp only [laws_FnExactArrivalColumns.j1] at H
 replace H := ifF H (by simp); obtain ⟨rfl, H⟩ := H
 replace H := bindA H; obtain ⟨⟨t502, t503⟩, A53, H⟩ := H
 dsimp only at H
 replace H := bindA H; obtain ⟨t504, A54, H⟩ := H
 replace H := ifQ H; rcases H with ⟨c55, H⟩ | ⟨c55, H⟩
 · exact absurd H (by simp)
 have c55b0 := decide_eq_false c55
 clear c55
 first | replace H := ifP H | replace H := ifPf H
 obtain ⟨c58, H⟩ := H
 have c58b0 := beq_iff_eq.mpr c58
 have c58b1 := bne_eq_false_iff_eq.mpr c58
 clear c58
 replace H := bindA H; obtain ⟨⟨t505, t506, t507, t510, t511, t512, t513, t514⟩, A59, H⟩ := H
 dsimp only at H
 replace H := bindA H; obtain ⟨⟨t515, t518⟩, A60, H⟩ := H
 dsimp only at H
 have HC61 := Aside0.mk H
 clear H
 obtain ⟨Ao62, co62, eo62⟩ := R_slice HO_7.1
 subst eo62
 go_upto_region 25 with (first | ((with_reducible refine gate_callee (f := 14) rfl ?_); refine goesM (N := (some 64)) #[.slice Ao62 t483.length co62, .int .i64 1] Try.func14 ?_; (with_reducible refine (laws_markIntS.calls kj36 (fun k_ => some k_ = (.slice Ao62 t483.length co62 : Value).ownBlock) (.slice Ao62 t483.length co62) t483 1 t502 t503 w _ ?side1 ?side2 A53.1).mono ?_); (case side1 => exact BL HB.1); (case side2 => exact R_tight rfl HO_7.1); rintro e w63 ⟨rfl, hy0, hb, hkp⟩; refine ⟨_, rfl, ?_⟩; refine E6 (R_mono (ok' := fun k_ => some k_ ≠ (.slice Ao62 t483.length co62 : Value).ownBlock) (R_keptB (HO_4.1) hkp (fun k_ hk_ hs_ => (hk_) hs_)) (fun k_ hk_ => hk_.1)) (R_reok rfl hy0 (fun k_ e_ => HO_7.1.1 k_ e_)) (R_mono (ok' := fun k_ => True) (R_keptB ((R_apart' HO_483002.1 (R_typed HO_7.1) (by decide))) hkp (fun k_ hk_ hs_ => (hk_.2) hs_)) (fun k_ hk_ => trivial)) (blk_kept (PB BK456.1) hkp (fun hs_ => (fun e_ => (R_ne HO_7.1 BK456.1 (by decide)) e_) hs_)) (blk_kept (PB BK482.1) hkp (fun hs_ => (fun e_ => (R_ne HO_7.1 BK482.1 (by decide)) e_) hs_)) (hb) ?_; clear HO_4 HO_7 HO_483002 BK456 BK482 HB; intro HO_4 HO_7 HO_483002 BK456 BK482 HB; (try clear hb); (try clear hkp); (try clear hy0)) | ((with_reducible refine gate_callee (f := 15) rfl ?_); refine goesL_ (some 67) rfl rfl Try.func15 (by kernel_rfl) rfl #[.slice Ao62 t503.length co62, .int .i64 1] rfl (by (try simp only [List.map_toArray, List.map_cons, List.map_nil]); first | done | (rw [show t503.length = t483.length from (R_reads' HO_7.1).1.symm] <;> rfl) | rfl | (simp only [List.length_drop, List.length_take]; rfl)) ?_; (with_reducible refine (laws_heldIntS.calls kj36 _ _ t503 1 t504 _ ?side1 ?side2 A54.1).mono ?_); (case side1 => exact CB (R_reads' HO_7.1).2.2); (case side2 => rw [show t503.length = t483.length from (R_reads' HO_7.1).1.symm]; exact (R_reads' HO_7.1).2.1); rintro e w' ⟨rfl, ⟨nd, rfl⟩⟩; refine ⟨_, rfl, ?_⟩; have hnb64 := NB456_482.1; have hnc64 := NB482_456.1; obtain ⟨hcz65_0, hcz65_1, hcz65_2, hcz65_3, hcz65_4, hcz65_5, hcz65_6, hcz65_7, hfz65_0, hfz65_1, hfz65_2, hfz65_3, hfz65_4, hfz65_5, hfz65_6, hfz65_7⟩ := cz8 BK456.1) | ((with_reducible refine gate_callee (f := 9) rfl ?_); refine goesM (N := (some 75)) #[.agg #[.int .i64 a0_0, .int .i64 a0_1, .slice A0_2 l0_2.length c0_2, .int .i64 a0_3, .int .i64 a0_4, .int .i64 a0_5, .int .i64 a0_6, .int .i64 a0_7]] Try.func9 ?_; (with_reducible refine (laws_toMachine.calls kj36 a0_0 a0_1 _ _ l0_2 a0_3 a0_4 a0_5 a0_6 a0_7 t505 t506 t507 t510 t511 t512 t513 t514 _ ?side1 ?side2 A59.1).mono ?_); (case side1 => repeat (first | exact (C_below HR0_2.1 (BL HB.1)) | (with_reducible refine C_alloc ?_ _) | (with_reducible refine C_drewN ?_ _) | (with_reducible refine C_drew ?_))); (case side2 => exact HC0_2.1); rintro e w66 ⟨v508, rfl, ho0, hb⟩; refine ⟨_, rfl, ?_⟩; refine E7 (rB HO_4.1 hb) (rB HO_7.1 hb) (R_elder' (PR HO_483002.1) (R_base ho0) hb) (R_lower (R_new' ho0 (R_lt (PR HO_483002.1))) (bZ HB.1)) (bB BK456.1 hb) (bB BK482.1 hb) (bS HB.1 hb) ?_; clear HO_4 HO_7 HO_483002 BK456 BK482 HB; intro HO_4 HO_7 HO_483002 HO509 BK456 BK482 HB; (try clear hb); (try clear ho0); obtain ⟨Ao67, co67, eo67⟩ := R_slice HO509.1; subst eo67) | ((with_reducible refine gate_callee (f := 10) rfl ?_); refine goesM (N := (some 76)) #[.agg #[.int .i64 t505, .int .i64 t506, .slice Ao67 t507.length co67, .int .i64 t510, .int .i64 t511, .int .i64 t512, .int .i64 t513, .int .i64 t514]] Try.func10 ?_; (with_reducible refine (impl_ArrivalColumns.calls kj36 t505 t506 _ _ t507 t510 t511 t512 t513 t514 t515 t518 _ ?side1 ?side2 A60.1).mono ?_); (case side1 => exact CB (R_reads' HO509.1).2.2); (case side2 => exact (R_reads' HO509.1).2.1); rintro e w68 ⟨v516, rfl, ho0, hb⟩; refine ⟨_, rfl, ?_⟩; refine E8 (R_elder' (PR HO_4.1) (R_base ho0) hb) (R_elder' (PR HO_7.1) (R_base ho0) hb) (rB HO_483002.1 hb) (rB HO509.1 hb) (R_lower (R_new' (R_new' ho0 (R_lt (PR HO_4.1))) (R_lt (PR HO_7.1))) (bZ HB.1)) (bB BK456.1 hb) (bB BK482.1 hb) (bS HB.1 hb) ?_; clear HO_4 HO_7 HO_483002 HO509 BK456 BK482 HB; intro HO_4 HO_7 HO_483002 HO509 HO517 BK456 BK482 HB; (try clear hb); (try clear ho0)))
 (try simp only [Act.put, List.setIfInBounds_toArray, List.set_cons_zero, List.set_cons_succ])
 go_cut [87] (fun v87 wc => ∃ (kq : Nat) (x87_60 : Bool), v87 = .bool x87_60 /\ Aside0 (laws_FnExactArrivalColumns.j2 kq t503 t502 x87_60 = some true) /\ Aside0 (kq <= kj36) /\ Aside0 (Kd.R (Kd.int .i64) 3 wc w.heap.size (fun _ => True) (.slice Ao62 t483.length co62) t503) /\ Aside0 (Kd.R k98 98 wc w.heap.size (fun _ => True) (.slice Ao24 t500.length co24) t500) /\ Aside0 (wc.heap[gb456]? = some (.cells #[.int .i64 a0_0, .int .i64 a0_1, (.slice A0_2 l0_2.length c0_2), .int .i64 a0_3, .int .i64 a0_4, .int .i64 a0_5, .int .i64 a0_6, .int .i64 a0_7] 26 (0, 0))) /\ Aside0 (wc.heap[gb482]? = some (.cells #[.int .i64 t472, .int .i64 t473, (.slice Ao24 t500.length co24), .int .i64 t477, .int .i64 t478, .int .i64 t479, .int .i64 t480, .int .i64 t481] 35 (0, 0))) /\ Aside0 (Below w.heap.size w wc))
 case first =>
  have H := HC61.1
  clear HC61
  replace H := bindA H; obtain ⟨t519, A69, H⟩ := H
  replace H := ifT H (by cases kj36 <;> simp [laws_FnExactArrivalColumns.j2]); obtain ⟨rfl, H⟩ := H
  have H' := Aside0.mk H
  clear H
  obtain ⟨Ao71, co71, eo71⟩ := R_slice HO517.1
  subst eo71
  obtain ⟨Ao72, co72, eo72⟩ := R_slice HO_4.1
  subst eo72
  go_wp2_with (first | ((with_reducible refine gate_callee (f := 11) rfl ?_); refine goesM (N := (some 81)) #[.slice Ao71 t515.length co71, .slice Ao72 t468.length co72] Try.func11 ?_; (with_reducible refine (laws_eqIntS.calls kj36 _ _ t515 _ _ t468 true _ ?side1 ?side2 ?side3 ?side4 A69.1).mono ?_); (case side1 => exact CB (R_reads' HO517.1).2.2); (case side2 => exact (R_reads' HO517.1).2.1); (case side3 => exact CB (R_reads' HO_4.1).2.2); (case side4 => exact (R_reads' HO_4.1).2.1); rintro e w' ⟨rfl, ⟨nd, rfl⟩⟩; refine ⟨_, rfl, ?_⟩))
  go_meet
  case rel => exact ⟨_, ((t518 != t471)), RG, H', ⟨by have := HJ10.1; have := HJ36.1; first | omega | exact Nat.le_refl _⟩, ⟨by (try simp only [hl483002_36]); (with_reducible repeat (first | apply R_alloc | apply R_drewN | apply R_drew)); exact R_mono HO_7.1 (fun _ hk => trivial)⟩, ⟨by (try simp only [hl483002_36]); (with_reducible repeat (first | apply R_alloc | apply R_drewN | apply R_drew)); exact R_mono HO_483002.1 (fun _ hk => trivial)⟩, ⟨PB1 BK456.1 hl483002_36⟩, ⟨PB1 BK482.1 hl483002_36⟩, ⟨BL HB.1⟩⟩
 clear HC61
 clear c55b0 c58b0 c58b1 hcz65_0 hcz65_1 hcz65_2 hcz65_3 hcz65_4 hcz65_5 hcz65_6 hcz65_7 hfz65_0 hfz65_1 hfz65_2 hfz65_3 hfz65_4 hfz65_5 hfz65_6 hfz65_7
 obtain ⟨kq, x87_60, rfl, HA, HJ60, HO_7, HO_483002, BK456, BK482, HB⟩ := hcut
 have hl7_60 := (R_reads' HO_7.1).1
 rw [hl7_60] at HO_7
 (try simp only [hl7_60])
 (try simp only [hl7_60] at BK456)
 (try simp only [hl7_60] at BK482)
 (try simp only [hl7_60] at HO_483002)
 cases kq with
 | zero => exact absurd HA.1 (by simp [laws_FnExactArrivalColumns.j2])
 | succ kj60 => ?_
 have H := HA.1
 clear HA
 simp only [laws_FnExactArrivalColumns.j2] at H
 replace H := ifF H (by simp); obtain ⟨rfl, H⟩ := H
 replace H := bindA H; obtain ⟨t520, A76, H⟩ := H
 replace H := ifQ H; rcases H with ⟨c77, H⟩ | ⟨c77, H⟩
 · exact absurd H (by simp)
 have c77b0 := decide_eq_false c77
 clear c77
 first | replace H := ifP H | replace H := ifPf H
 obtain ⟨c78, H⟩ := H
 have c78b0 := beq_iff_eq.mpr c78
 have c78b1 := bne_eq_false_iff_eq.mpr c78
 clear c78
 first | (obtain rfl := Option.some.inj H) | clear H
 go_wp2_with (first | ((with_reducible refine gate_callee (f := 15) rfl ?_); refine goesM (N := (some 90)) #[.slice Ao62 t503.length co62, .int .i64 1] Try.func15 ?_; (with_reducible refine (laws_heldIntS.calls kj60 _ _ t503 1 t520 _ ?side1 ?side2 A76.1).mono ?_); (case side1 => exact CB (R_reads' HO_7.1).2.2); (case side2 => exact (R_reads' HO_7.1).2.1); rintro e w' ⟨rfl, ⟨nd, rfl⟩⟩; refine ⟨_, rfl, ?_⟩))
 go_ret
 exact ⟨RF, BL HB.1⟩
end Go.Proofs.Ythnehlphifegaaa.P
