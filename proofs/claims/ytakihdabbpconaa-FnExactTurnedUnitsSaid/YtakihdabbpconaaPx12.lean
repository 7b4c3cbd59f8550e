-- PRINTED by print.py (a twelfth state) out of the translation. Not trusted: Lean checks it.
import Derived.Test.YtakihdabbpconaaPx0
import Derived.Test.YtakihdabbpconaaPx3
import Derived.Test.YtakihdabbpconaaPx7
namespace Go.Proofs.Ytakihdabbpconaa.P
open Go.RowKit Go.Proofs.YtakihdabbpconaaW.PrintWords Go.Proofs.YtakihdabbpconaaW.PrintLast Go.Proofs.YtakihdabbpconaaW.PrintMore
attribute [local go_sem] max2_int min2_int max_two min_two max_three min_three max_four min_four   -- for this text's walks alone
set_option linter.unusedVariables false
set_option linter.unusedSimpArgs false

/-! ### spec_saWith: function 68 -/
def spec_saWith.l0 : Nat → List Int → List (List Int) → Int → Int → Int → Int → List (S73) → Int → Int → List (S73) → Option (Int × Int × (List (S73)))
  | 0, _, _, _, _, _, _, _, _, _, _ => none
  | k + 1, x1, x11, x12, x13, x766000, x766001, x766002, x773000, x773001, x773002 => if x13 < x12 then (if 0 ≤ x13 then (if x13 < (x11.length : Int) then (if 0 < ((rd_L3 x11 x13).length : Int) then (if 0 ≤ (rd (rd_L3 x11 x13) 0) then (if (rd (rd_L3 x11 x13) 0) < (x766002.length : Int) then (if x13 < (x1.length : Int) then (if ((rd_T73 x766002 (rd (rd_L3 x11 x13) 0)).f1) = (rd x1 x13) then (spec_saWith.l0 k x1 x11 x12 (wrap64 (x13 + 1)) x766000 x766001 x766002 x773000 x773001 x773002) else ((spec_saTurn.f k x773000 x773001 x773002 (rd_L3 x11 x13)).bind fun t780 => (spec_saWith.l0 k x1 x11 x12 (wrap64 (x13 + 1)) x766000 x766001 x766002 x773000 x773001 t780))) else (none)) else (none)) else (none)) else (none)) else (none)) else (none)) else (some (x773000, x773001, x773002))
def spec_saWith.f (k : Nat) (a0_0 : Int) (a0_1 : Int) (l0_2 : List (S73)) (l1 : List Int) : Option (Int × Int × (List (S73))) := (spec_boOwn.f a0_0 a0_1 l0_2).bind fun bt767 => ((spec_saUnits.f k a0_0 a0_1 l0_2).bind fun t773 => (spec_saWith.l0 k l1 t773 (t773.length : Int) 0 a0_0 a0_1 l0_2 bt767.1 bt767.2.1 bt767.2.2))
theorem spec_saWith.mono_l : ∀ k, (∀ y0 y1 y2 y3 y4 y5 y6 y7 y8 y9, LeO (spec_saWith.l0 k y0 y1 y2 y3 y4 y5 y6 y7 y8 y9) (spec_saWith.l0 (k + 1) y0 y1 y2 y3 y4 y5 y6 y7 y8 y9))
  | 0 => fun _ _ _ _ _ _ _ _ _ _ r h => by simp [spec_saWith.l0] at h
  | k + 1 => by
    have ih0 := spec_saWith.mono_l k
    intros
    first | unfold spec_saWith.l0
    repeat' first | (with_reducible first | apply ih0 | apply spec_saTurn.mono | apply spec_saUnits.mono | exact LeO.refl _ | exact LeO.none _ | refine LeO.ite ?_ ?_ | refine LeO.bind ?_ (fun _ => ?_)) | apply ih0 | apply spec_saTurn.mono | apply spec_saUnits.mono | exact LeO.none _ | refine LeO.ite ?_ ?_ | refine LeO.bind ?_ (fun _ => ?_)
theorem spec_saWith.mono : ∀ a0 a1 a2 a3 k, LeO (spec_saWith.f k a0 a1 a2 a3) (spec_saWith.f (k + 1) a0 a1 a2 a3) := by
  intro a0 a1 a2 a3 k
  have ih0 := spec_saWith.mono_l k
  unfold spec_saWith.f
  repeat' first | (with_reducible first | apply ih0 | apply spec_saTurn.mono | apply spec_saUnits.mono | exact LeO.refl _ | exact LeO.none _ | refine LeO.ite ?_ ?_ | refine LeO.bind ?_ (fun _ => ?_)) | apply ih0 | apply spec_saTurn.mono | apply spec_saUnits.mono | exact LeO.none _ | refine LeO.ite ?_ ?_ | refine LeO.bind ?_ (fun _ => ?_)
set_option maxHeartbeats 8000000 in
set_option maxRecDepth 100000 in
theorem spec_saWith.calls (k : Nat) (a0_0 : Int) (a0_1 : Int) (A0_2 : Option Addr) (c0_2 : Nat) (l0_2 : List (S73)) (A1 : Option Addr) (c1 : Nat) (l1 : List Int) (r1 : Int) (r2 : Int) (r3 : List (S73)) (w : World) (hr0_2 : Kd.C k73 w A0_2 l0_2.length l0_2) (hc0_2 : l0_2.length ≤ c0_2) (hr1 : Kd.C (Kd.int .i64) w A1 l1.length l1) (hc1 : l1.length ≤ c1) (h : spec_saWith.f k a0_0 a0_1 l0_2 l1 = some (r1, r2, r3)) :
    Calls Try.prog 68 #[.agg #[.int .i64 a0_0, .int .i64 a0_1, .slice A0_2 l0_2.length c0_2], .slice A1 l1.length c1] w fun e w' => ∃ v2_ : Value, e = .returned (.agg #[.int .i64 r1, .int .i64 r2, v2_]) ∧ Kd.R k73 73 w' w.heap.size (fun _ => True) v2_ r3 ∧ Below w.heap.size w w' := by
  have hu30 := Try.underlying30
  have HR0_2 := Aside0.mk hr0_2
  have HC0_2 := Aside0.mk hc0_2
  clear hr0_2 hc0_2
  have HR1 := Aside0.mk hr1
  have HC1 := Aside0.mk hc1
  clear hr1 hc1
  have HB := Aside0.mk (Below.refl w.heap.size w)
  have H := h
  clear h
  unfold spec_saWith.f at H
  replace H := bindA H; obtain ⟨⟨t767, t768, t769⟩, A3, H⟩ := H
  dsimp only at H
  replace H := bindA H; obtain ⟨t773, A4, H⟩ := H
  have H' := Aside0.mk H
  clear H
  go_enter Try.func68, Try.ntmps68
  go_wp2_with (first | ((with_reducible refine gate_dst (N := 2) rfl ?_); refine boxE (N := 2) (cs := #[.int .i64 a0_0, .int .i64 a0_1, .slice A0_2 l0_2.length c0_2]) (t := 30) ?_; intro gb765 hg w5 hbox hb; refine E4b HB.out hg hbox hb ?_; clear HB; intro HB BK765 GW765 GE765; clear hb hbox hg) | ((with_reducible refine gate_dst (N := 4) rfl ?_); refine boxE (N := 4) (cs := #[.int .i64 0, .int .i64 0, .slice none 0 0]) (t := 30) ?_; intro gb766 hg w6 hbox hb; refine E7 (bB BK765.out hb) (below_step (BL HB.out) hb) (hbox) (gwM hg (below_size (BL HB.out)) : w.heap.size ≤ gb766) (gwM hg (below_size (BL HB.out)) : w.heap.size ≤ gb766) ((nB BK765.out hg : gb765 ≠ gb766)) ((nC BK765.out hg : gb766 ≠ gb765)) ?_; clear BK765 HB; intro BK765 HB BK766 GW766 GE766 NB765_766 NB766_765; clear hb hbox hg; have hnb7 := NB765_766.out; have hnc7 := NB766_765.out; obtain ⟨hcz8_0, hcz8_1, hcz8_2, hfz8_0, hfz8_1, hfz8_2⟩ := cz3 BK765.out) | (go_at_call 60; (with_reducible refine (spec_boOwn.calls a0_0 a0_1 _ _ l0_2 t767 t768 t769 _ ?side1 ?side2 A3.out).mono ?_); (case side1 => exact CB (Kd.C_below HR0_2.out HB.out)); (case side2 => exact HC0_2.out); rintro e w9 ⟨v770, rfl, ho0, hb⟩; refine E4 (Kd.R_lower ho0 (below_size (BL HB.out))) (bB BK765.out hb) (bB BK766.out hb) (below_step (BL HB.out) hb) ?_; clear BK765 BK766 HB; intro HO771 BK765 BK766 HB; (try clear hb); (try clear hb2); (try clear hk); (try clear hi); (try clear ho0)) | ((with_reducible refine gate_dst (N := 5) rfl ?_); refine boxE (N := 5) (cs := #[.int .i64 0, .int .i64 0, .slice none 0 0]) (t := 30) ?_; intro gb772 hg w10 hbox hb; refine E11 (Kd.R_below (PR HO771.out) hb) (bB BK765.out hb) (bB BK766.out hb) (below_step (BL HB.out) hb) (hbox) (gwM hg (below_size (BL HB.out)) : w.heap.size ≤ gb772) (gwM hg (below_size (BL HB.out)) : w.heap.size ≤ gb772) ((nB BK765.out hg : gb765 ≠ gb772)) ((nC BK765.out hg : gb772 ≠ gb765)) ((nB BK766.out hg : gb766 ≠ gb772)) ((nC BK766.out hg : gb772 ≠ gb766)) ?_; clear HO771 BK765 BK766 HB; intro HO771 BK765 BK766 HB BK772 GW772 GE772 NB765_772 NB772_765 NB766_772 NB772_766; clear hb hbox hg; have hnb11 := NB772_765.out; have hnc11 := NB765_772.out; have hnb12 := NB772_766.out; have hnc12 := NB766_772.out; obtain ⟨hcz13_0, hcz13_1, hcz13_2, hfz13_0, hfz13_1, hfz13_2⟩ := cz3 BK772.out; obtain ⟨Ao14, co14, eo14⟩ := Kd.R_slice HO771.out; subst eo14; obtain ⟨hcz15_0, hcz15_1, hcz15_2, hfz15_0, hfz15_1, hfz15_2⟩ := cz3 BK765.out) | (go_at_call 59; (with_reducible refine (spec_saUnits.calls k a0_0 a0_1 _ _ l0_2 t773 _ ?side1 ?side2 A4.out).mono ?_); (case side1 => exact Kd.C_below HR0_2.out (BL HB.out)); (case side2 => exact HC0_2.out); rintro e w16 ⟨v774, rfl, ho0, hb⟩; refine E6 (Kd.R_below (by (with_reducible repeat (first | apply Kd.R_alloc | apply Kd.R_drewN | apply Kd.R_drew)); exact (Kd.R_mono (Kd.R_far (p := ⟨gb772, 2, none⟩) (Kd.R_far (p := ⟨gb772, 1, none⟩) (Kd.R_far (p := ⟨gb772, 0, none⟩) (Kd.R_types HO771.out BK772.out (by decide)) (fun _ hk => hk.2) (.int .i64 t767)) (fun _ hk => hk.2) (.int .i64 t768)) (fun _ hk => hk.2) (.slice Ao14 t769.length co14)) (fun _ h_ => h_.1))) hb) (Kd.S_lower ho0 (below_size (BL HB.out))) (blk_below (g := gb765) (o := .cells #[.int .i64 a0_0, .int .i64 a0_1, .slice A0_2 l0_2.length c0_2] 30 (0, 0)) (by (with_reducible repeat (first | refine blk_drewN ?_ _ | refine blk_drew ?_ | refine blk_alloc ?_ _)); refine blk_far ?_ NB765_772.out _; (with_reducible repeat (first | refine blk_drewN ?_ _ | refine blk_drew ?_ | refine blk_alloc ?_ _)); refine blk_far ?_ NB765_772.out _; (with_reducible repeat (first | refine blk_drewN ?_ _ | refine blk_drew ?_ | refine blk_alloc ?_ _)); refine blk_far ?_ NB765_772.out _; (with_reducible repeat (first | refine blk_drewN ?_ _ | refine blk_drew ?_ | refine blk_alloc ?_ _)); exact BK765.out) hb) (blk_below (g := gb766) (o := .cells #[.int .i64 0, .int .i64 0, .slice none 0 0] 30 (0, 0)) (by (with_reducible repeat (first | refine blk_drewN ?_ _ | refine blk_drew ?_ | refine blk_alloc ?_ _)); refine blk_far ?_ NB766_772.out _; (with_reducible repeat (first | refine blk_drewN ?_ _ | refine blk_drew ?_ | refine blk_alloc ?_ _)); refine blk_far ?_ NB766_772.out _; (with_reducible repeat (first | refine blk_drewN ?_ _ | refine blk_drew ?_ | refine blk_alloc ?_ _)); refine blk_far ?_ NB766_772.out _; (with_reducible repeat (first | refine blk_drewN ?_ _ | refine blk_drew ?_ | refine blk_alloc ?_ _)); exact BK766.out) hb) (blk_below (g := gb772) (o := .cells #[.int .i64 t767, .int .i64 t768, .slice Ao14 t769.length co14] 30 (0, 0)) (by (with_reducible repeat (first | refine blk_drewN ?_ _ | refine blk_drew ?_ | refine blk_alloc ?_ _)); refine blk_put (cs := #[.int .i64 t767, .int .i64 t768, .slice none 0 0]) ?_ 2 _ rfl; (with_reducible repeat (first | refine blk_drewN ?_ _ | refine blk_drew ?_ | refine blk_alloc ?_ _)); refine blk_put (cs := #[.int .i64 t767, .int .i64 0, .slice none 0 0]) ?_ 1 _ rfl; (with_reducible repeat (first | refine blk_drewN ?_ _ | refine blk_drew ?_ | refine blk_alloc ?_ _)); refine blk_put (cs := #[.int .i64 0, .int .i64 0, .slice none 0 0]) ?_ 0 _ rfl; (with_reducible repeat (first | refine blk_drewN ?_ _ | refine blk_drew ?_ | refine blk_alloc ?_ _)); exact BK772.out) hb) (below_step (BL HB.out) hb) ?_; clear HO771 BK765 BK766 BK772 HB; intro HO771 HO775 BK765 BK766 BK772 HB; (try clear hb); (try clear hb2); (try clear hk); (try clear hi); (try clear ho0); obtain ⟨Ao17, co17, eo17⟩ := Kd.S_slice HO775.out; subst eo17))
  repeat (go_quiet (first | ((with_reducible refine gate_dst (N := 2) rfl ?_); refine boxE (N := 2) (cs := #[.int .i64 a0_0, .int .i64 a0_1, .slice A0_2 l0_2.length c0_2]) (t := 30) ?_; intro gb765 hg w5 hbox hb; refine E4b HB.out hg hbox hb ?_; clear HB; intro HB BK765 GW765 GE765; clear hb hbox hg) | ((with_reducible refine gate_dst (N := 4) rfl ?_); refine boxE (N := 4) (cs := #[.int .i64 0, .int .i64 0, .slice none 0 0]) (t := 30) ?_; intro gb766 hg w6 hbox hb; refine E7 (bB BK765.out hb) (below_step (BL HB.out) hb) (hbox) (gwM hg (below_size (BL HB.out)) : w.heap.size ≤ gb766) (gwM hg (below_size (BL HB.out)) : w.heap.size ≤ gb766) ((nB BK765.out hg : gb765 ≠ gb766)) ((nC BK765.out hg : gb766 ≠ gb765)) ?_; clear BK765 HB; intro BK765 HB BK766 GW766 GE766 NB765_766 NB766_765; clear hb hbox hg; have hnb7 := NB765_766.out; have hnc7 := NB766_765.out; obtain ⟨hcz8_0, hcz8_1, hcz8_2, hfz8_0, hfz8_1, hfz8_2⟩ := cz3 BK765.out) | (go_at_call 60; (with_reducible refine (spec_boOwn.calls a0_0 a0_1 _ _ l0_2 t767 t768 t769 _ ?side1 ?side2 A3.out).mono ?_); (case side1 => exact CB (Kd.C_below HR0_2.out HB.out)); (case side2 => exact HC0_2.out); rintro e w9 ⟨v770, rfl, ho0, hb⟩; refine E4 (Kd.R_lower ho0 (below_size (BL HB.out))) (bB BK765.out hb) (bB BK766.out hb) (below_step (BL HB.out) hb) ?_; clear BK765 BK766 HB; intro HO771 BK765 BK766 HB; (try clear hb); (try clear hb2); (try clear hk); (try clear hi); (try clear ho0)) | ((with_reducible refine gate_dst (N := 5) rfl ?_); refine boxE (N := 5) (cs := #[.int .i64 0, .int .i64 0, .slice none 0 0]) (t := 30) ?_; intro gb772 hg w10 hbox hb; refine E11 (Kd.R_below (PR HO771.out) hb) (bB BK765.out hb) (bB BK766.out hb) (below_step (BL HB.out) hb) (hbox) (gwM hg (below_size (BL HB.out)) : w.heap.size ≤ gb772) (gwM hg (below_size (BL HB.out)) : w.heap.size ≤ gb772) ((nB BK765.out hg : gb765 ≠ gb772)) ((nC BK765.out hg : gb772 ≠ gb765)) ((nB BK766.out hg : gb766 ≠ gb772)) ((nC BK766.out hg : gb772 ≠ gb766)) ?_; clear HO771 BK765 BK766 HB; intro HO771 BK765 BK766 HB BK772 GW772 GE772 NB765_772 NB772_765 NB766_772 NB772_766; clear hb hbox hg; have hnb11 := NB772_765.out; have hnc11 := NB765_772.out; have hnb12 := NB772_766.out; have hnc12 := NB766_772.out; obtain ⟨hcz13_0, hcz13_1, hcz13_2, hfz13_0, hfz13_1, hfz13_2⟩ := cz3 BK772.out; obtain ⟨Ao14, co14, eo14⟩ := Kd.R_slice HO771.out; subst eo14; obtain ⟨hcz15_0, hcz15_1, hcz15_2, hfz15_0, hfz15_1, hfz15_2⟩ := cz3 BK765.out) | (go_at_call 59; (with_reducible refine (spec_saUnits.calls k a0_0 a0_1 _ _ l0_2 t773 _ ?side1 ?side2 A4.out).mono ?_); (case side1 => exact Kd.C_below HR0_2.out (BL HB.out)); (case side2 => exact HC0_2.out); rintro e w16 ⟨v774, rfl, ho0, hb⟩; refine E6 (Kd.R_below (by (with_reducible repeat (first | apply Kd.R_alloc | apply Kd.R_drewN | apply Kd.R_drew)); exact (Kd.R_mono (Kd.R_far (p := ⟨gb772, 2, none⟩) (Kd.R_far (p := ⟨gb772, 1, none⟩) (Kd.R_far (p := ⟨gb772, 0, none⟩) (Kd.R_types HO771.out BK772.out (by decide)) (fun _ hk => hk.2) (.int .i64 t767)) (fun _ hk => hk.2) (.int .i64 t768)) (fun _ hk => hk.2) (.slice Ao14 t769.length co14)) (fun _ h_ => h_.1))) hb) (Kd.S_lower ho0 (below_size (BL HB.out))) (blk_below (g := gb765) (o := .cells #[.int .i64 a0_0, .int .i64 a0_1, .slice A0_2 l0_2.length c0_2] 30 (0, 0)) (by (with_reducible repeat (first | refine blk_drewN ?_ _ | refine blk_drew ?_ | refine blk_alloc ?_ _)); refine blk_far ?_ NB765_772.out _; (with_reducible repeat (first | refine blk_drewN ?_ _ | refine blk_drew ?_ | refine blk_alloc ?_ _)); refine blk_far ?_ NB765_772.out _; (with_reducible repeat (first | refine blk_drewN ?_ _ | refine blk_drew ?_ | refine blk_alloc ?_ _)); refine blk_far ?_ NB765_772.out _; (with_reducible repeat (first | refine blk_drewN ?_ _ | refine blk_drew ?_ | refine blk_alloc ?_ _)); exact BK765.out) hb) (blk_below (g := gb766) (o := .cells #[.int .i64 0, .int .i64 0, .slice none 0 0] 30 (0, 0)) (by (with_reducible repeat (first | refine blk_drewN ?_ _ | refine blk_drew ?_ | refine blk_alloc ?_ _)); refine blk_far ?_ NB766_772.out _; (with_reducible repeat (first | refine blk_drewN ?_ _ | refine blk_drew ?_ | refine blk_alloc ?_ _)); refine blk_far ?_ NB766_772.out _; (with_reducible repeat (first | refine blk_drewN ?_ _ | refine blk_drew ?_ | refine blk_alloc ?_ _)); refine blk_far ?_ NB766_772.out _; (with_reducible repeat (first | refine blk_drewN ?_ _ | refine blk_drew ?_ | refine blk_alloc ?_ _)); exact BK766.out) hb) (blk_below (g := gb772) (o := .cells #[.int .i64 t767, .int .i64 t768, .slice Ao14 t769.length co14] 30 (0, 0)) (by (with_reducible repeat (first | refine blk_drewN ?_ _ | refine blk_drew ?_ | refine blk_alloc ?_ _)); refine blk_put (cs := #[.int .i64 t767, .int .i64 t768, .slice none 0 0]) ?_ 2 _ rfl; (with_reducible repeat (first | refine blk_drewN ?_ _ | refine blk_drew ?_ | refine blk_alloc ?_ _)); refine blk_put (cs := #[.int .i64 t767, .int .i64 0, .slice none 0 0]) ?_ 1 _ rfl; (with_reducible repeat (first | refine blk_drewN ?_ _ | refine blk_drew ?_ | refine blk_alloc ?_ _)); refine blk_put (cs := #[.int .i64 0, .int .i64 0, .slice none 0 0]) ?_ 0 _ rfl; (with_reducible repeat (first | refine blk_drewN ?_ _ | refine blk_drew ?_ | refine blk_alloc ?_ _)); exact BK772.out) hb) (below_step (BL HB.out) hb) ?_; clear HO771 BK765 BK766 BK772 HB; intro HO771 HO775 BK765 BK766 BK772 HB; (try clear hb); (try clear hb2); (try clear hk); (try clear hi); (try clear ho0); obtain ⟨Ao17, co17, eo17⟩ := Kd.S_slice HO775.out; subst eo17)); try go_wp2_with (first | ((with_reducible refine gate_dst (N := 2) rfl ?_); refine boxE (N := 2) (cs := #[.int .i64 a0_0, .int .i64 a0_1, .slice A0_2 l0_2.length c0_2]) (t := 30) ?_; intro gb765 hg w5 hbox hb; refine E4b HB.out hg hbox hb ?_; clear HB; intro HB BK765 GW765 GE765; clear hb hbox hg) | ((with_reducible refine gate_dst (N := 4) rfl ?_); refine boxE (N := 4) (cs := #[.int .i64 0, .int .i64 0, .slice none 0 0]) (t := 30) ?_; intro gb766 hg w6 hbox hb; refine E7 (bB BK765.out hb) (below_step (BL HB.out) hb) (hbox) (gwM hg (below_size (BL HB.out)) : w.heap.size ≤ gb766) (gwM hg (below_size (BL HB.out)) : w.heap.size ≤ gb766) ((nB BK765.out hg : gb765 ≠ gb766)) ((nC BK765.out hg : gb766 ≠ gb765)) ?_; clear BK765 HB; intro BK765 HB BK766 GW766 GE766 NB765_766 NB766_765; clear hb hbox hg; have hnb7 := NB765_766.out; have hnc7 := NB766_765.out; obtain ⟨hcz8_0, hcz8_1, hcz8_2, hfz8_0, hfz8_1, hfz8_2⟩ := cz3 BK765.out) | (go_at_call 60; (with_reducible refine (spec_boOwn.calls a0_0 a0_1 _ _ l0_2 t767 t768 t769 _ ?side1 ?side2 A3.out).mono ?_); (case side1 => exact CB (Kd.C_below HR0_2.out HB.out)); (case side2 => exact HC0_2.out); rintro e w9 ⟨v770, rfl, ho0, hb⟩; refine E4 (Kd.R_lower ho0 (below_size (BL HB.out))) (bB BK765.out hb) (bB BK766.out hb) (below_step (BL HB.out) hb) ?_; clear BK765 BK766 HB; intro HO771 BK765 BK766 HB; (try clear hb); (try clear hb2); (try clear hk); (try clear hi); (try clear ho0)) | ((with_reducible refine gate_dst (N := 5) rfl ?_); refine boxE (N := 5) (cs := #[.int .i64 0, .int .i64 0, .slice none 0 0]) (t := 30) ?_; intro gb772 hg w10 hbox hb; refine E11 (Kd.R_below (PR HO771.out) hb) (bB BK765.out hb) (bB BK766.out hb) (below_step (BL HB.out) hb) (hbox) (gwM hg (below_size (BL HB.out)) : w.heap.size ≤ gb772) (gwM hg (below_size (BL HB.out)) : w.heap.size ≤ gb772) ((nB BK765.out hg : gb765 ≠ gb772)) ((nC BK765.out hg : gb772 ≠ gb765)) ((nB BK766.out hg : gb766 ≠ gb772)) ((nC BK766.out hg : gb772 ≠ gb766)) ?_; clear HO771 BK765 BK766 HB; intro HO771 BK765 BK766 HB BK772 GW772 GE772 NB765_772 NB772_765 NB766_772 NB772_766; clear hb hbox hg; have hnb11 := NB772_765.out; have hnc11 := NB765_772.out; have hnb12 := NB772_766.out; have hnc12 := NB766_772.out; obtain ⟨hcz13_0, hcz13_1, hcz13_2, hfz13_0, hfz13_1, hfz13_2⟩ := cz3 BK772.out; obtain ⟨Ao14, co14, eo14⟩ := Kd.R_slice HO771.out; subst eo14; obtain ⟨hcz15_0, hcz15_1, hcz15_2, hfz15_0, hfz15_1, hfz15_2⟩ := cz3 BK765.out) | (go_at_call 59; (with_reducible refine (spec_saUnits.calls k a0_0 a0_1 _ _ l0_2 t773 _ ?side1 ?side2 A4.out).mono ?_); (case side1 => exact Kd.C_below HR0_2.out (BL HB.out)); (case side2 => exact HC0_2.out); rintro e w16 ⟨v774, rfl, ho0, hb⟩; refine E6 (Kd.R_below (by (with_reducible repeat (first | apply Kd.R_alloc | apply Kd.R_drewN | apply Kd.R_drew)); exact (Kd.R_mono (Kd.R_far (p := ⟨gb772, 2, none⟩) (Kd.R_far (p := ⟨gb772, 1, none⟩) (Kd.R_far (p := ⟨gb772, 0, none⟩) (Kd.R_types HO771.out BK772.out (by decide)) (fun _ hk => hk.2) (.int .i64 t767)) (fun _ hk => hk.2) (.int .i64 t768)) (fun _ hk => hk.2) (.slice Ao14 t769.length co14)) (fun _ h_ => h_.1))) hb) (Kd.S_lower ho0 (below_size (BL HB.out))) (blk_below (g := gb765) (o := .cells #[.int .i64 a0_0, .int .i64 a0_1, .slice A0_2 l0_2.length c0_2] 30 (0, 0)) (by (with_reducible repeat (first | refine blk_drewN ?_ _ | refine blk_drew ?_ | refine blk_alloc ?_ _)); refine blk_far ?_ NB765_772.out _; (with_reducible repeat (first | refine blk_drewN ?_ _ | refine blk_drew ?_ | refine blk_alloc ?_ _)); refine blk_far ?_ NB765_772.out _; (with_reducible repeat (first | refine blk_drewN ?_ _ | refine blk_drew ?_ | refine blk_alloc ?_ _)); refine blk_far ?_ NB765_772.out _; (with_reducible repeat (first | refine blk_drewN ?_ _ | refine blk_drew ?_ | refine blk_alloc ?_ _)); exact BK765.out) hb) (blk_below (g := gb766) (o := .cells #[.int .i64 0, .int .i64 0, .slice none 0 0] 30 (0, 0)) (by (with_reducible repeat (first | refine blk_drewN ?_ _ | refine blk_drew ?_ | refine blk_alloc ?_ _)); refine blk_far ?_ NB766_772.out _; (with_reducible repeat (first | refine blk_drewN ?_ _ | refine blk_drew ?_ | refine blk_alloc ?_ _)); refine blk_far ?_ NB766_772.out _; (with_reducible repeat (first | refine blk_drewN ?_ _ | refine blk_drew ?_ | refine blk_alloc ?_ _)); refine blk_far ?_ NB766_772.out _; (with_reducible repeat (first | refine blk_drewN ?_ _ | refine blk_drew ?_ | refine blk_alloc ?_ _)); exact BK766.out) hb) (blk_below (g := gb772) (o := .cells #[.int .i64 t767, .int .i64 t768, .slice Ao14 t769.length co14] 30 (0, 0)) (by (with_reducible repeat (first | refine blk_drewN ?_ _ | refine blk_drew ?_ | refine blk_alloc ?_ _)); refine blk_put (cs := #[.int .i64 t767, .int .i64 t768, .slice none 0 0]) ?_ 2 _ rfl; (with_reducible repeat (first | refine blk_drewN ?_ _ | refine blk_drew ?_ | refine blk_alloc ?_ _)); refine blk_put (cs := #[.int .i64 t767, .int .i64 0, .slice none 0 0]) ?_ 1 _ rfl; (with_reducible repeat (first | refine blk_drewN ?_ _ | refine blk_drew ?_ | refine blk_alloc ?_ _)); refine blk_put (cs := #[.int .i64 0, .int .i64 0, .slice none 0 0]) ?_ 0 _ rfl; (with_reducible repeat (first | refine blk_drewN ?_ _ | refine blk_drew ?_ | refine blk_alloc ?_ _)); exact BK772.out) hb) (below_step (BL HB.out) hb) ?_; clear HO771 BK765 BK766 BK772 HB; intro HO771 HO775 BK765 BK766 BK772 HB; (try clear hb); (try clear hb2); (try clear hk); (try clear hi); (try clear ho0); obtain ⟨Ao17, co17, eo17⟩ := Kd.S_slice HO775.out; subst eo17)))
  go_loopg [13] k (fun kq v13 w' => ∃ (x13_1 : Int) (x773002_1 : List (S73)) (u773002 : Value), v13 = .int .i64 x13_1 ∧ Aside0 (spec_saWith.l0 kq l1 t773 (t773.length : Int) x13_1 a0_0 a0_1 l0_2 t767 t768 x773002_1 = some (r1, r2, r3)) ∧ Aside0 (kq ≤ k) ∧ Aside0 (Kd.S (Kd.slice 3 (Kd.int .i64)) 36 w' w.heap.size (fun _ => True) (.slice Ao17 t773.length co17) t773) ∧ Aside0 (Kd.R k73 73 w' w.heap.size (fun _ => True) u773002 x773002_1) ∧ Aside0 (w'.heap[gb765]? = some (.cells #[.int .i64 a0_0, .int .i64 a0_1, (.slice A0_2 l0_2.length c0_2)] 30 (0, 0))) ∧ Aside0 (w'.heap[gb766]? = some (.cells #[.int .i64 0, .int .i64 0, (.slice none 0 0)] 30 (0, 0))) ∧ Aside0 (w'.heap[gb772]? = some (.cells #[.int .i64 t767, .int .i64 t768, u773002] 30 (0, 0))) ∧ Aside0 (Below w.heap.size w w'))
  case atStart => exact ⟨(0), (t769), (.slice Ao14 t769.length co14), RG, H', ⟨Nat.le_refl _⟩, ⟨PS HO775.out⟩, ⟨PR HO771.out⟩, ⟨PB BK765.out⟩, ⟨PB BK766.out⟩, ⟨PB BK772.out⟩, ⟨BL HB.out⟩⟩
  clear H'
  try clear c1; try clear hcz13_0; try clear hcz13_1; try clear hcz13_2; try clear hcz15_0; try clear hcz15_1; try clear hcz15_2; try clear hcz8_0; try clear hcz8_1; try clear hcz8_2; try clear hfz13_0; try clear hfz13_1; try clear hfz13_2; try clear hfz15_0; try clear hfz15_1; try clear hfz15_2; try clear hfz8_0; try clear hfz8_1; try clear hfz8_2
  obtain ⟨x13_1, x773002_1, u773002, rfl, HA, HK1, HO_11, HO_773002, BK765, BK766, BK772, HB⟩ := hrel
  cases gk with
  | zero => exact absurd HA.out (by simp [spec_saWith.l0])
  | succ k1 => ?_
  have H := HA.out
  clear HA
  simp only [spec_saWith.l0] at H
  replace H := ifB H; rcases H with ⟨c18b0, H⟩ | ⟨c18b0, H⟩
  · replace H := ifN H; obtain ⟨c19b0, H⟩ := H
    replace H := ifN H; obtain ⟨c20b0, H⟩ := H
    replace H := ifP H; obtain ⟨c21, H⟩ := H
    have c21b0 := decide_eq_true c21
    have c21b1 : decide (0 < (rd_L3 t773 x13_1).length) = true := decide_eq_true (by omega)
    clear c21
    replace H := ifN H; obtain ⟨c22b0, H⟩ := H
    replace H := ifN H; obtain ⟨c23b0, H⟩ := H
    replace H := ifN H; obtain ⟨c24b0, H⟩ := H
    replace H := ifQ H; rcases H with ⟨c25, H⟩ | ⟨c25, H⟩
    · have c25b0 := beq_iff_eq.mpr c25
      have c25b1 := bne_eq_false_iff_eq.mpr c25
      clear c25
      have H' := Aside0.mk H
      clear H
      have p776 : 0 ≤ (x13_1 : Int) := OD
      have q776 : x13_1 < (t773.length : Int) := OD
      obtain ⟨ad776, A776_0, c776_0, e776, hx776_0, hl776_0, hi776_0⟩ := at_L3 (Kd.S_reads' HO_11.out).2.2 x13_1 p776 q776
      cases e776
      obtain ⟨ce776, hce776, hMe776, hcc776⟩ := Kd.S_get HO_11.out [] x13_1 p776 (by first | exact q776 | exact OD | (have e_ := (Kd.S_reads' HO_11.out).1; omega))
      obtain ⟨ve776_0, rfl, ge776_0⟩ := hMe776
      have hv776_0 := hcc776 0 _ rfl
      rw [Nat.add_zero, show ((Kd.slice 3 (Kd.int .i64))).sz = 1 from rfl, Nat.mul_one] at hv776_0
      replace hv776_0 := Option.some.inj (hv776_0.symm.trans hx776_0)
      rw [hv776_0] at ge776_0
      have HL776_0 := Aside0.mk (show Kd.R (Kd.int .i64) 3 _ _ _ _ (rd_L3 t773 x13_1) from ge776_0)
      clear hv776_0 ge776_0
      clear hcc776 hce776
      have HR776_0 := Aside0.mk hi776_0
      have HC776_0 := Aside0.mk hl776_0
      clear hi776_0 hl776_0
      replace p776 := eq_true p776
      replace q776 := eq_true q776
      have hnb26 := NB765_766.out
      have hnc26 := NB766_765.out
      have hnb27 := NB765_772.out
      have hnc27 := NB772_765.out
      obtain ⟨hcz28_0, hcz28_1, hcz28_2, hfz28_0, hfz28_1, hfz28_2⟩ := cz3 BK765.out
      have p777 : 0 ≤ (0 : Int) := (by omega)
      have q777 : 0 < ((rd_L3 t773 x13_1).length : Int) := OD
      obtain ⟨ad777, e777, hx777_0⟩ := Kd.at_int (by repeat (first | (with_reducible exact HR776_0.out) | (with_reducible refine Kd.C_alloc ?_ _) | (with_reducible refine Kd.C_drewN ?_ _) | (with_reducible refine Kd.C_drew ?_) | exact HR776_0.out)) 0 p777 q777
      cases e777
      have qi777 : (0 < (rd_L3 t773 x13_1).length) = True := eq_true (by omega)
      (try rw [show ((0 : Int)).toNat = 0 from rfl] at hx777_0)
      (try rw [Addr.add_zero'] at hx777_0)
      replace p777 := eq_true p777
      replace q777 := eq_true q777
      have p778 : 0 ≤ ((rd (rd_L3 t773 x13_1) 0) : Int) := OD
      have q778 : (rd (rd_L3 t773 x13_1) 0) < (l0_2.length : Int) := OD
      obtain ⟨ad778, e778, hx778_0, hx778_1⟩ := at_T73 HR0_2.out (rd (rd_L3 t773 x13_1) 0) p778 q778
      cases e778
      replace hx778_0 := (HB.out.cell (World.block_lt_of_cell? w _ hx778_0)).trans hx778_0
      replace hx778_1 := (HB.out.cell (World.block_lt_of_cell? w _ hx778_1)).trans hx778_1
      replace p778 := eq_true p778
      replace q778 := eq_true q778
      have p779 : 0 ≤ (x13_1 : Int) := OD
      have q779 : x13_1 < (l1.length : Int) := OD
      obtain ⟨ad779, e779, hx779_0⟩ := Kd.at_int HR1.out x13_1 p779 q779
      cases e779
      replace hx779_0 := (HB.out.cell (World.block_lt_of_cell? w _ hx779_0)).trans hx779_0
      replace p779 := eq_true p779
      replace q779 := eq_true q779
      go_wp2
      repeat (go_quiet (fail); try go_wp2)
      go_roundg k1
      case measure => have := HK1.out; omega
      case rel => exact ⟨(wrap64 (x13_1 + 1)), (x773002_1), (u773002), RG, H', ⟨by have := HK1.out; omega⟩, ⟨PS HO_11.out⟩, ⟨PR HO_773002.out⟩, ⟨PB BK765.out⟩, ⟨PB BK766.out⟩, ⟨PB BK772.out⟩, ⟨BL HB.out⟩⟩
    have c25b0 := beq_eq_false_iff_ne.mpr c25
    have c25b1 := bne_iff_ne.mpr c25
    replace H := bindA H; obtain ⟨t780, A29, H⟩ := H
    have H' := Aside0.mk H
    clear H
    have p776 : 0 ≤ (x13_1 : Int) := OD
    have q776 : x13_1 < (t773.length : Int) := OD
    obtain ⟨ad776, A776_0, c776_0, e776, hx776_0, hl776_0, hi776_0⟩ := at_L3 (Kd.S_reads' HO_11.out).2.2 x13_1 p776 q776
    cases e776
    obtain ⟨ce776, hce776, hMe776, hcc776⟩ := Kd.S_get HO_11.out [] x13_1 p776 (by first | exact q776 | exact OD | (have e_ := (Kd.S_reads' HO_11.out).1; omega))
    obtain ⟨ve776_0, rfl, ge776_0⟩ := hMe776
    have hv776_0 := hcc776 0 _ rfl
    rw [Nat.add_zero, show ((Kd.slice 3 (Kd.int .i64))).sz = 1 from rfl, Nat.mul_one] at hv776_0
    replace hv776_0 := Option.some.inj (hv776_0.symm.trans hx776_0)
    rw [hv776_0] at ge776_0
    have HL776_0 := Aside0.mk (show Kd.R (Kd.int .i64) 3 _ _ _ _ (rd_L3 t773 x13_1) from ge776_0)
    clear hv776_0 ge776_0
    clear hcc776 hce776
    have HR776_0 := Aside0.mk hi776_0
    have HC776_0 := Aside0.mk hl776_0
    clear hi776_0 hl776_0
    replace p776 := eq_true p776
    replace q776 := eq_true q776
    have hnb30 := NB765_766.out
    have hnc30 := NB766_765.out
    have hnb31 := NB765_772.out
    have hnc31 := NB772_765.out
    obtain ⟨hcz32_0, hcz32_1, hcz32_2, hfz32_0, hfz32_1, hfz32_2⟩ := cz3 BK765.out
    have p777 : 0 ≤ (0 : Int) := (by omega)
    have q777 : 0 < ((rd_L3 t773 x13_1).length : Int) := OD
    obtain ⟨ad777, e777, hx777_0⟩ := Kd.at_int (by repeat (first | (with_reducible exact HR776_0.out) | (with_reducible refine Kd.C_alloc ?_ _) | (with_reducible refine Kd.C_drewN ?_ _) | (with_reducible refine Kd.C_drew ?_) | exact HR776_0.out)) 0 p777 q777
    cases e777
    have qi777 : (0 < (rd_L3 t773 x13_1).length) = True := eq_true (by omega)
    (try rw [show ((0 : Int)).toNat = 0 from rfl] at hx777_0)
    (try rw [Addr.add_zero'] at hx777_0)
    replace p777 := eq_true p777
    replace q777 := eq_true q777
    have p778 : 0 ≤ ((rd (rd_L3 t773 x13_1) 0) : Int) := OD
    have q778 : (rd (rd_L3 t773 x13_1) 0) < (l0_2.length : Int) := OD
    obtain ⟨ad778, e778, hx778_0, hx778_1⟩ := at_T73 HR0_2.out (rd (rd_L3 t773 x13_1) 0) p778 q778
    cases e778
    replace hx778_0 := (HB.out.cell (World.block_lt_of_cell? w _ hx778_0)).trans hx778_0
    replace hx778_1 := (HB.out.cell (World.block_lt_of_cell? w _ hx778_1)).trans hx778_1
    replace p778 := eq_true p778
    replace q778 := eq_true q778
    have p779 : 0 ≤ (x13_1 : Int) := OD
    have q779 : x13_1 < (l1.length : Int) := OD
    obtain ⟨ad779, e779, hx779_0⟩ := Kd.at_int HR1.out x13_1 p779 q779
    cases e779
    replace hx779_0 := (HB.out.cell (World.block_lt_of_cell? w _ hx779_0)).trans hx779_0
    replace p779 := eq_true p779
    replace q779 := eq_true q779
    have hnb33 := NB772_766.out
    have hnc33 := NB766_772.out
    obtain ⟨hcz34_0, hcz34_1, hcz34_2, hfz34_0, hfz34_1, hfz34_2⟩ := cz3 BK772.out
    obtain ⟨Ao35, co35, eo35⟩ := Kd.R_slice HO_773002.out
    subst eo35
    go_wp2_with (first | (go_at_call 61; (with_reducible refine (spec_saTurn.calls k1 t767 t768 (fun k_ => some k_ = (.slice Ao35 x773002_1.length co35 : Value).ownBlock) (.slice Ao35 x773002_1.length co35) x773002_1 _ _ (rd_L3 t773 x13_1) t780 w _ ?side1 ?side2 ?side3 ?side4 A29.out).mono ?_); (case side1 => repeat (first | (with_reducible first | exact HB.out | apply below_alloc | apply pw_below_drewN | apply below_drew1 | refine below_set ?_ GE765.out | refine below_set ?_ GE766.out | refine below_set ?_ GE772.out) | exact HB.out)); (case side2 => exact Kd.R_tight rfl HO_773002.out); (case side3 => exact Kd.C_kept_own ((Kd.R_apart' HL776_0.out (Kd.R_typed HO_773002.out) (by decide))) (fun k_ hk_ hs_ => (hk_.2) hs_)); (case side4 => exact HC776_0.out); rintro e w36 ⟨rfl, hy0, hb, hkp⟩; refine E6 (Kd.S_mono (ok' := fun k_ => True) (Kd.S_keptB ((Kd.S_apart' HO_11.out (Kd.R_typed HO_773002.out) (by decide))) hkp (fun k_ hk_ hs_ => (hk_.2) hs_)) (fun k_ hk_ => trivial)) (Kd.R_reok rfl hy0 (fun k_ e_ => HO_773002.out.1 k_ e_)) (blk_kept (PB BK765.out) hkp (fun hs_ => (fun e_ => (Kd.R_ne HO_773002.out BK765.out (by decide)) e_) hs_)) (blk_kept (PB BK766.out) hkp (fun hs_ => (fun e_ => (Kd.R_ne HO_773002.out BK766.out (by decide)) e_) hs_)) (blk_kept (PB BK772.out) hkp (fun hs_ => (fun e_ => (Kd.R_ne HO_773002.out BK772.out (by decide)) e_) hs_)) (hb) ?_; clear HO_11 HO_773002 BK765 BK766 BK772 HB HL776_0; intro HO_11 HO_773002 BK765 BK766 BK772 HB; (try clear hb); (try clear hkp); (try clear hy0)))
    repeat (go_quiet (first | (go_at_call 61; (with_reducible refine (spec_saTurn.calls k1 t767 t768 (fun k_ => some k_ = (.slice Ao35 x773002_1.length co35 : Value).ownBlock) (.slice Ao35 x773002_1.length co35) x773002_1 _ _ (rd_L3 t773 x13_1) t780 w _ ?side1 ?side2 ?side3 ?side4 A29.out).mono ?_); (case side1 => repeat (first | (with_reducible first | exact HB.out | apply below_alloc | apply pw_below_drewN | apply below_drew1 | refine below_set ?_ GE765.out | refine below_set ?_ GE766.out | refine below_set ?_ GE772.out) | exact HB.out)); (case side2 => exact Kd.R_tight rfl HO_773002.out); (case side3 => exact Kd.C_kept_own ((Kd.R_apart' HL776_0.out (Kd.R_typed HO_773002.out) (by decide))) (fun k_ hk_ hs_ => (hk_.2) hs_)); (case side4 => exact HC776_0.out); rintro e w36 ⟨rfl, hy0, hb, hkp⟩; refine E6 (Kd.S_mono (ok' := fun k_ => True) (Kd.S_keptB ((Kd.S_apart' HO_11.out (Kd.R_typed HO_773002.out) (by decide))) hkp (fun k_ hk_ hs_ => (hk_.2) hs_)) (fun k_ hk_ => trivial)) (Kd.R_reok rfl hy0 (fun k_ e_ => HO_773002.out.1 k_ e_)) (blk_kept (PB BK765.out) hkp (fun hs_ => (fun e_ => (Kd.R_ne HO_773002.out BK765.out (by decide)) e_) hs_)) (blk_kept (PB BK766.out) hkp (fun hs_ => (fun e_ => (Kd.R_ne HO_773002.out BK766.out (by decide)) e_) hs_)) (blk_kept (PB BK772.out) hkp (fun hs_ => (fun e_ => (Kd.R_ne HO_773002.out BK772.out (by decide)) e_) hs_)) (hb) ?_; clear HO_11 HO_773002 BK765 BK766 BK772 HB HL776_0; intro HO_11 HO_773002 BK765 BK766 BK772 HB; (try clear hb); (try clear hkp); (try clear hy0))); try go_wp2_with (first | (go_at_call 61; (with_reducible refine (spec_saTurn.calls k1 t767 t768 (fun k_ => some k_ = (.slice Ao35 x773002_1.length co35 : Value).ownBlock) (.slice Ao35 x773002_1.length co35) x773002_1 _ _ (rd_L3 t773 x13_1) t780 w _ ?side1 ?side2 ?side3 ?side4 A29.out).mono ?_); (case side1 => repeat (first | (with_reducible first | exact HB.out | apply below_alloc | apply pw_below_drewN | apply below_drew1 | refine below_set ?_ GE765.out | refine below_set ?_ GE766.out | refine below_set ?_ GE772.out) | exact HB.out)); (case side2 => exact Kd.R_tight rfl HO_773002.out); (case side3 => exact Kd.C_kept_own ((Kd.R_apart' HL776_0.out (Kd.R_typed HO_773002.out) (by decide))) (fun k_ hk_ hs_ => (hk_.2) hs_)); (case side4 => exact HC776_0.out); rintro e w36 ⟨rfl, hy0, hb, hkp⟩; refine E6 (Kd.S_mono (ok' := fun k_ => True) (Kd.S_keptB ((Kd.S_apart' HO_11.out (Kd.R_typed HO_773002.out) (by decide))) hkp (fun k_ hk_ hs_ => (hk_.2) hs_)) (fun k_ hk_ => trivial)) (Kd.R_reok rfl hy0 (fun k_ e_ => HO_773002.out.1 k_ e_)) (blk_kept (PB BK765.out) hkp (fun hs_ => (fun e_ => (Kd.R_ne HO_773002.out BK765.out (by decide)) e_) hs_)) (blk_kept (PB BK766.out) hkp (fun hs_ => (fun e_ => (Kd.R_ne HO_773002.out BK766.out (by decide)) e_) hs_)) (blk_kept (PB BK772.out) hkp (fun hs_ => (fun e_ => (Kd.R_ne HO_773002.out BK772.out (by decide)) e_) hs_)) (hb) ?_; clear HO_11 HO_773002 BK765 BK766 BK772 HB HL776_0; intro HO_11 HO_773002 BK765 BK766 BK772 HB; (try clear hb); (try clear hkp); (try clear hy0))))
    go_roundg k1
    case measure => have := HK1.out; omega
    case rel => exact ⟨(wrap64 (x13_1 + 1)), (t780), (.slice Ao35 x773002_1.length co35), RG, H', ⟨by have := HK1.out; omega⟩, ⟨PS HO_11.out⟩, ⟨PR HO_773002.out⟩, ⟨PB BK765.out⟩, ⟨PB BK766.out⟩, ⟨PB BK772.out⟩, ⟨BL HB.out⟩⟩
  simp only [Option.some.injEq, Prod.mk.injEq] at H
  obtain ⟨rfl, rfl, rfl⟩ := H
  have hnb37 := NB772_765.out
  have hnc37 := NB765_772.out
  have hnb38 := NB772_766.out
  have hnc38 := NB766_772.out
  obtain ⟨hcz39_0, hcz39_1, hcz39_2, hfz39_0, hfz39_1, hfz39_2⟩ := cz3 BK772.out
  have hnb40 := NB766_765.out
  have hnc40 := NB765_766.out
  obtain ⟨hcz41_0, hcz41_1, hcz41_2, hfz41_0, hfz41_1, hfz41_2⟩ := cz3 BK766.out
  obtain ⟨Ao42, co42, eo42⟩ := Kd.R_slice HO_773002.out
  subst eo42
  go_wp2
  repeat (go_quiet (fail); try go_wp2)
  refine bodyPost_ret (results_cell_row rfl _ _ gb766 30 #[.int .i64 t767, .int .i64 t768, .slice Ao42 x773002_1.length co42] (0, 0) _ rfl (by (with_reducible repeat (first | refine blk_drewN ?_ _ | refine blk_drew ?_ | refine blk_alloc ?_ _)); refine blk_put (cs := #[.int .i64 t767, .int .i64 t768, .slice none 0 0]) ?_ 2 _ rfl; (with_reducible repeat (first | refine blk_drewN ?_ _ | refine blk_drew ?_ | refine blk_alloc ?_ _)); refine blk_put (cs := #[.int .i64 t767, .int .i64 0, .slice none 0 0]) ?_ 1 _ rfl; (with_reducible repeat (first | refine blk_drewN ?_ _ | refine blk_drew ?_ | refine blk_alloc ?_ _)); refine blk_put (cs := #[.int .i64 0, .int .i64 0, .slice none 0 0]) ?_ 0 _ rfl; (with_reducible repeat (first | refine blk_drewN ?_ _ | refine blk_drew ?_ | refine blk_alloc ?_ _)); exact BK766.out) Try.underlying30 rfl (by kernel_rfl)) rfl ?_
  exact ⟨_, RF, by (with_reducible repeat (first | apply Kd.R_alloc | apply Kd.R_drewN | apply Kd.R_drew)); exact Kd.R_mono (Kd.R_far (p := ⟨gb766, 2, none⟩) (Kd.R_far (p := ⟨gb766, 1, none⟩) (Kd.R_far (p := ⟨gb766, 0, none⟩) (Kd.R_types HO_773002.out BK766.out (by decide)) (fun _ hk => hk.2) (.int .i64 t767)) (fun _ hk => hk.2) (.int .i64 t768)) (fun _ hk => hk.2) (.slice Ao42 x773002_1.length co42)) (fun _ hk => trivial), BL HB.out⟩
theorem foot_inner3 {w W : World} {S : Nat → Prop} {ad : Addr} {n : Nat} {xs : List (List Int)} {i : Int} {A : Option Addr} {c : Nat}
    (hr : ∀ W_, Kept w W_ S → Kd.C (Kd.slice 3 (Kd.int .i64)) W_ (some ad) n xs) (hk : Kept w W S) (h0 : 0 ≤ i) (h1 : i < n)
    (hx : W.cell? (ad.add i.toNat) = some (.slice A (rd_L3 xs i).length c)) : ∀ W_, Kept w W_ S → Kd.C (Kd.int .i64) W_ A (rd_L3 xs i).length (rd_L3 xs i) := by
  obtain ⟨ad1, A1, c1, e1, hw, _, _⟩ := at_L3 (hr w (Kept.refl w S)) i h0 h1
  cases e1
  have hne : ¬ S (ad.add i.toNat).block := by
    intro hS
    obtain ⟨ad2, A2, c2, e2, hw2, _, _⟩ := at_L3 (hr _ ((Kept.refl w S).setCell (p := ad.add i.toNat) (.inl hS) (.int .i64 0))) i h0 h1
    cases e2
    rw [World.cell?_setCell_same' _ _ _ (by rw [hw]; rfl)] at hw2
    cases hw2
  have a1 := cell_kept hw hk hne
  rw [a1] at hx
  injection hx with hx
  injection hx with hA _ _
  intro W_ hk_
  obtain ⟨ad2, A2, c2, e2, hw2, _, hC2⟩ := at_L3 (hr W_ hk_) i h0 h1
  cases e2
  have a2 := cell_kept hw hk_ hne
  rw [a2] at hw2
  injection hw2 with hw2
  injection hw2 with hA2 _ _
  rw [← hA, hA2]
  exact hC2
/-! ### impl_setBits: function 69 -/
mutual
def impl_setBits.l0 : Nat → List Int → List (List Int) → Int → Int → Int → Int → List (S73) → Option ((List (S73)))
  | 0, _, _, _, _, _, _, _ => none
  | k + 1, x2, x10, x11, x12, x796000, x796001, x796002 => if x12 < x11 then (if 0 ≤ x12 then (if x12 < (x10.length : Int) then (if 0 < ((rd_L3 x10 x12).length : Int) then (if 0 ≤ (rd (rd_L3 x10 x12) 0) then (if (rd (rd_L3 x10 x12) 0) < (x796002.length : Int) then (if x12 < (x2.length : Int) then (if ((rd_T73 x796002 (rd (rd_L3 x10 x12) 0)).f1) = (rd x2 x12) then (impl_setBits.l0 k x2 x10 x11 (wrap64 (x12 + 1)) x796000 x796001 x796002) else (impl_setBits.l1 k x2 x10 x11 x12 (rd_L3 x10 x12) ((rd_L3 x10 x12).length : Int) 0 x796000 x796001 x796002)) else (none)) else (none)) else (none)) else (none)) else (none)) else (none)) else (some x796002)
def impl_setBits.l1 : Nat → List Int → List (List Int) → Int → Int → List Int → Int → Int → Int → Int → List (S73) → Option ((List (S73)))
  | 0, _, _, _, _, _, _, _, _, _, _ => none
  | k + 1, x2, x10, x11, x12, x30, x31, x32, x796000, x796001, x796002 => if x32 < x31 then (if 0 ≤ x32 then (if x32 < (x30.length : Int) then (if 0 ≤ (rd x30 x32) then (if (rd x30 x32) < (x796002.length : Int) then (impl_setBits.l1 k x2 x10 x11 x12 x30 x31 (wrap64 (x32 + 1)) x796000 x796001 (x796002.set ((rd x30 x32) : Int).toNat (⟨(rd_T73 x796002 (rd x30 x32)).f0, wrap64 (1 - ((rd_T73 x796002 (rd x30 x32)).f1))⟩ : S73))) else (none)) else (none)) else (none)) else (none)) else (impl_setBits.l0 k x2 x10 x11 (wrap64 (x12 + 1)) x796000 x796001 x796002)
end
def impl_setBits.f (k : Nat) (a0_0 : Int) (a0_1 : Int) (l0_2 : List (S73)) (l1 : List (List Int)) (l2 : List Int) : Option ((List (S73))) := impl_setBits.l0 k l2 l1 (l1.length : Int) 0 a0_0 a0_1 l0_2
theorem impl_setBits.mono_l : ∀ k, (∀ y0 y1 y2 y3 y4 y5 y6, LeO (impl_setBits.l0 k y0 y1 y2 y3 y4 y5 y6) (impl_setBits.l0 (k + 1) y0 y1 y2 y3 y4 y5 y6)) ∧ (∀ y0 y1 y2 y3 y4 y5 y6 y7 y8 y9, LeO (impl_setBits.l1 k y0 y1 y2 y3 y4 y5 y6 y7 y8 y9) (impl_setBits.l1 (k + 1) y0 y1 y2 y3 y4 y5 y6 y7 y8 y9))
  | 0 => by refine ⟨?_, ?_⟩ <;> (intros; intro r h; first | (simp [impl_setBits.l0] at h; done) | (simp [impl_setBits.l1] at h; done))
  | k + 1 => by
    obtain ⟨ih0, ih1⟩ := impl_setBits.mono_l k
    refine ⟨?_, ?_⟩ <;> (
      intros
      first | unfold impl_setBits.l0 | unfold impl_setBits.l1
      repeat' first | (with_reducible first | apply ih0 | apply ih1 | exact LeO.refl _ | exact LeO.none _ | refine LeO.ite ?_ ?_ | refine LeO.bind ?_ (fun _ => ?_)) | apply ih0 | apply ih1 | exact LeO.none _ | refine LeO.ite ?_ ?_ | refine LeO.bind ?_ (fun _ => ?_))
theorem impl_setBits.mono : ∀ a0 a1 a2 a3 a4 k, LeO (impl_setBits.f k a0 a1 a2 a3 a4) (impl_setBits.f (k + 1) a0 a1 a2 a3 a4) := by
  intro a0 a1 a2 a3 a4 k
  obtain ⟨ih0, ih1⟩ := impl_setBits.mono_l k
  unfold impl_setBits.f
  repeat' first | (with_reducible first | apply ih0 | apply ih1 | exact LeO.refl _ | exact LeO.none _ | refine LeO.ite ?_ ?_ | refine LeO.bind ?_ (fun _ => ?_)) | apply ih0 | apply ih1 | exact LeO.none _ | refine LeO.ite ?_ ?_ | refine LeO.bind ?_ (fun _ => ?_)
def impl_setBits.T4 : Bool × List (List Nat × List Nat) := (true, [([], []), ([0], [0]), ([], []), ([2], [2]), ([3], [3]), ([1, 4], [1, 4]), ([5], [5]), ([6], [6]), ([], []), ([], []), ([8, 9], [8, 9]), ([10], [10]), ([7, 11], [7, 11])])
def impl_setBits.B4 : List Nat := [0, 1, 0, 4, 12, 31, 63, 127, 0, 0, 768, 1792, 4095]
theorem impl_setBits.tab4 : rtab .any (opsOf Try.f69 4) = impl_setBits.T4 := by kernel_rfl
theorem impl_setBits.bits4 : waitsOk impl_setBits.T4.2 impl_setBits.B4 = true := by kernel_rfl
def impl_setBits.T8 : Bool × List (List Nat × List Nat) := (true, [([], []), ([0], [0]), ([], []), ([], []), ([3], [3]), ([], []), ([4, 5], [4, 5]), ([6], [6]), ([7], [7]), ([8], [8]), ([1, 2, 0, 1, 2, 3, 4, 5, 6, 7, 8, 9], [1, 2]), ([10, 0, 1, 2, 3, 4, 5, 6, 7, 8, 9], [10]), ([11, 9, 0, 1, 2, 3, 4, 5, 6, 7, 8, 9], [9, 11])])
def impl_setBits.B8 : List Nat := [0, 1, 0, 0, 8, 0, 56, 120, 248, 504, 1023, 2047, 4095]
theorem impl_setBits.tab8 : rtab .any (opsOf Try.f69 8) = impl_setBits.T8 := by kernel_rfl
theorem impl_setBits.bits8 : waitsOk impl_setBits.T8.2 impl_setBits.B8 = true := by kernel_rfl
set_option maxHeartbeats 8000000 in
set_option maxRecDepth 100000 in
theorem impl_setBits.calls (k : Nat) (a0_0 : Int) (a0_1 : Int) (P0_2_ : Nat → Prop) (u9000_ : Value) (l0_2 : List (S73)) (A1 : Option Addr) (c1 : Nat) (l1 : List (List Int)) (A2 : Option Addr) (c2 : Nat) (l2 : List Int) (r : List (S73)) (w0 w : World) (hB : Below w0.heap.size w0 w) (ho0_2 : Kd.R k73 73 w w0.heap.size P0_2_ u9000_ l0_2) (hr1 : ∀ W_, Kept w W_ (fun k_ => P0_2_ k_) → Kd.C (Kd.slice 3 (Kd.int .i64)) W_ A1 l1.length l1) (hc1 : l1.length ≤ c1) (hr2 : ∀ W_, Kept w W_ (fun k_ => P0_2_ k_) → Kd.C (Kd.int .i64) W_ A2 l2.length l2) (hc2 : l2.length ≤ c2) (h : impl_setBits.f k a0_0 a0_1 l0_2 l1 l2 = some r) :
    Calls Try.prog 69 #[.agg #[.int .i64 a0_0, .int .i64 a0_1, u9000_], .slice A1 l1.length c1, .slice A2 l2.length c2] w fun e w' => e = .returned (.tuple #[]) ∧ Kd.R k73 73 w' w0.heap.size (fun k_ => (P0_2_ k_ ∨ w.heap.size ≤ k_)) u9000_ r ∧ Below w0.heap.size w0 w' ∧ Kept w w' (fun k_ => P0_2_ k_) := by
  have hu30 := Try.underlying30
  have HO0_2 := Aside0.mk (show Kd.R k73 73 w w0.heap.size (fun k_ => (P0_2_ k_ ∨ w.heap.size ≤ k_)) u9000_ l0_2 from Kd.R_mono ho0_2 (fun k_ hk => (.inl hk)))
  have HR1 := Aside0.mk hr1
  have HC1 := Aside0.mk hc1
  clear hr1 hc1
  have HR2 := Aside0.mk hr2
  have HC2 := Aside0.mk hc2
  clear hr2 hc2
  have HK := Aside0.mk (Kept.refl w (fun k_ => P0_2_ k_))
  have HW0 := Aside0.mk hB.size
  have HB := Aside0.mk hB
  clear hB
  have H := h
  clear h
  unfold impl_setBits.f at H
  have H' := Aside0.mk H
  clear H
  obtain ⟨Ao4, co4, eo4⟩ := Kd.R_slice HO0_2.out
  subst eo4
  go_enter Try.func69, Try.ntmps69
  go_wp2_with (first | ((with_reducible refine gate_dst (N := 3) rfl ?_); refine boxE (N := 3) (cs := #[.int .i64 a0_0, .int .i64 a0_1, .slice Ao4 l0_2.length co4]) (t := 30) ?_; intro gb795 hg w5 hbox hb; refine E6 (Kd.R_below (PR HO0_2.out) hb) (Kept.below (S := (fun k_ => P0_2_ k_)) (by repeat (first | (with_reducible first | exact HK.out | apply Kept.alloc | apply Kept.drewN | apply Kept.drew) | exact HK.out)) hb) (below_step (BL HB.out) hb) (hbox) ((by rw [hg]; exact (by first | exact HK.out.1 | exact (show Kept w _ (fun k_ => P0_2_ k_) from by repeat (first | (with_reducible first | exact HK.out | apply Kept.alloc | apply Kept.drewN | apply Kept.drew) | exact HK.out)).1) : w.heap.size ≤ gb795)) (gwM hg (below_size (BL HB.out)) : w0.heap.size ≤ gb795) ?_; clear HO0_2 HK HB; intro HO0_2 HK HB BK795 GW795 GE795; clear hb hbox hg))
  go_loopg [12] k (fun kq v12 w' => ∃ (x12_1 : Int) (x796002_1 : List (S73)), v12 = .int .i64 x12_1 ∧ Aside0 (impl_setBits.l0 kq l2 l1 (l1.length : Int) x12_1 a0_0 a0_1 x796002_1 = some r) ∧ Aside0 (kq ≤ k) ∧ Aside0 (Kd.R k73 73 w' w0.heap.size (fun k_ => (P0_2_ k_ ∨ w.heap.size ≤ k_)) (.slice Ao4 l0_2.length co4) x796002_1) ∧ Aside0 (w'.heap[gb795]? = some (.cells #[.int .i64 a0_0, .int .i64 a0_1, (.slice Ao4 l0_2.length co4)] 30 (0, 0))) ∧ Aside0 (Kept w w' (fun k_ => P0_2_ k_)) ∧ Aside0 (Below w0.heap.size w0 w'))
  case atStart => exact ⟨(0), (l0_2), RG, H', ⟨Nat.le_refl _⟩, ⟨PR HO0_2.out⟩, ⟨PB BK795.out⟩, ⟨by repeat (first | (with_reducible first | exact HK.out | apply Kept.alloc | apply Kept.drewN | apply Kept.drew | refine Kept.setCell ?_ (.inr GW795.out) _) | exact HK.out)⟩, ⟨BL HB.out⟩⟩
  clear H'
  try clear c1; try clear c2
  obtain ⟨x12_1, x796002_1, rfl, HA, HK1, HO_796002, BK795, HK, HB⟩ := hrel
  have hl796002_1 := (Kd.R_reads' HO_796002.out).1
  rw [hl796002_1] at HO_796002
  (try simp only [hl796002_1])
  (try simp only [hl796002_1] at BK795)
  cases gk with
  | zero => exact absurd HA.out (by simp [impl_setBits.l0])
  | succ k1 => ?_
  have H := HA.out
  clear HA
  simp only [impl_setBits.l0] at H
  replace H := ifB H; rcases H with ⟨c6b0, H⟩ | ⟨c6b0, H⟩
  · replace H := ifN H; obtain ⟨c7b0, H⟩ := H
    replace H := ifN H; obtain ⟨c8b0, H⟩ := H
    replace H := ifP H; obtain ⟨c9, H⟩ := H
    have c9b0 := decide_eq_true c9
    have c9b1 : decide (0 < (rd_L3 l1 x12_1).length) = true := decide_eq_true (by omega)
    clear c9
    replace H := ifN H; obtain ⟨c10b0, H⟩ := H
    replace H := ifN H; obtain ⟨c11b0, H⟩ := H
    replace H := ifN H; obtain ⟨c12b0, H⟩ := H
    replace H := ifQ H; rcases H with ⟨c13, H⟩ | ⟨c13, H⟩
    · have c13b0 := beq_iff_eq.mpr c13
      have c13b1 := bne_eq_false_iff_eq.mpr c13
      clear c13
      have H' := Aside0.mk H
      clear H
      have p796 : 0 ≤ (x12_1 : Int) := OD
      have q796 : x12_1 < (l1.length : Int) := OD
      obtain ⟨ad796, A796_0, c796_0, e796, hx796_0, hl796_0, hi796_0⟩ := at_L3 (Kd.C_kept_now HR1.out HK.out) x12_1 p796 q796
      cases e796
      have HR796_0 := Aside0.mk hi796_0
      have HS796_0 := Aside0.mk (foot_inner3 HR1.out HK.out p796 q796 hx796_0)
      have HC796_0 := Aside0.mk hl796_0
      clear hi796_0 hl796_0
      replace p796 := eq_true p796
      replace q796 := eq_true q796
      try go_wp2
      refine E5 (Kd.R_drew HO_796002.out) (blk_drew BK795.out) (Kd.C_drew HR796_0.out) (Kept.drew HK.out) (below_drew1 HB.out) ?_
      clear HO_796002 BK795 HR796_0 HK HB
      intro HO_796002 BK795 HR796_0 HK HB
      have p797 : 0 ≤ (0 : Int) := (by omega)
      have q797 : 0 < ((rd_L3 l1 x12_1).length : Int) := OD
      obtain ⟨ad797, e797, hx797_0⟩ := Kd.at_int (by repeat (first | (with_reducible exact HR796_0.out) | (with_reducible refine Kd.C_alloc ?_ _) | (with_reducible refine Kd.C_drewN ?_ _) | (with_reducible refine Kd.C_drew ?_) | exact HR796_0.out)) 0 p797 q797
      cases e797
      have qi797 : (0 < (rd_L3 l1 x12_1).length) = True := eq_true (by omega)
      (try rw [show ((0 : Int)).toNat = 0 from rfl] at hx797_0)
      (try rw [Addr.add_zero'] at hx797_0)
      replace p797 := eq_true p797
      replace q797 := eq_true q797
      have p798 : 0 ≤ ((rd (rd_L3 l1 x12_1) 0) : Int) := OD
      have q798 : (rd (rd_L3 l1 x12_1) 0) < (x796002_1.length : Int) := OD
      obtain ⟨ad798, e798, hx798_0, hx798_1⟩ := at_T73 (Kd.R_reads' HO_796002.out).2.2 (rd (rd_L3 l1 x12_1) 0) p798 q798
      cases e798
      replace p798 := eq_true p798
      replace q798 := eq_true q798
      have p799 : 0 ≤ (x12_1 : Int) := OD
      have q799 : x12_1 < (l2.length : Int) := OD
      obtain ⟨ad799, e799, hx799_0⟩ := Kd.at_int (Kd.C_kept_now HR2.out HK.out) x12_1 p799 q799
      have hw799_0 := hx799_0
      cases e799
      replace p799 := eq_true p799
      replace q799 := eq_true q799
      refine start_ (n := 13) (S := fun w' => w'.cell? ⟨gb795, 0, none⟩ = some (.int .i64 a0_0) ∧ w'.cell? ⟨gb795, 1, none⟩ = some (.int .i64 a0_1) ∧ w'.cell? ⟨gb795, 2, none⟩ = some (.slice (some ad798) x796002_1.length co4) ∧ w'.cell? ad797 = some (.int .i64 (rd (rd_L3 l1 x12_1) 0)) ∧ w'.cell? (ad798.add (((rd (rd_L3 l1 x12_1) 0)).toNat * 2)) = some (.int .i64 ((rd_T73 x796002_1 (rd (rd_L3 l1 x12_1) 0)).f0)) ∧ w'.cell? ⟨(ad798.add (((rd (rd_L3 l1 x12_1) 0)).toNat * 2)).block, (ad798.add (((rd (rd_L3 l1 x12_1) 0)).toNat * 2)).off + 1, none⟩ = some (.int .i64 ((rd_T73 x796002_1 (rd (rd_L3 l1 x12_1) 0)).f1)) ∧ w'.cell? (ad799.add (x12_1).toNat) = some (.int .i64 (rd l2 x12_1))) (ds := []) #[false, false, false, false, false, false, false, false, false, false, false, false, false] (by kernel_rfl) rfl rfl ⟨(blk_cell BK795.out 0).trans rfl, (blk_cell BK795.out 1).trans rfl, (blk_cell BK795.out 2).trans rfl, hx797_0, hx798_0, hx798_1, (Kd.foot_int (HR2.out _ (by repeat (first | exact HK.out | apply Kept.alloc | apply Kept.drewN | apply Kept.drew))) x12_1 (of_eq_true p799) (of_eq_true q799))⟩ (fun hHeld => ?_); refine with_tabW impl_setBits.tab4 impl_setBits.bits4 (fun HT_ HW_ => ?_)
      generalize wr.drew = w14 at HO_796002 BK795 HR796_0 HK HB hx797_0 hx798_0 hx798_1 hx799_0 hHeld ⊢
      refine pureE (i := 0) (N := some 17) #[true, false, false, false, false, false, false, false, false, false, false, false, false] HT_.out ?_
      refine pureE (i := 2) (N := some 19) #[true, false, true, false, false, false, false, false, false, false, false, false, false] HT_.out ?_
      refine pureE (i := 3) (N := some 20) #[true, false, true, true, false, false, false, false, false, false, false, false, false] HT_.out ?_
      refine pureE (i := 8) (N := some 25) #[true, false, true, true, false, false, false, false, true, false, false, false, false] HT_.out ?_
      refine pureE (i := 9) (N := some 26) #[true, false, true, true, false, false, false, false, true, true, false, false, false] HT_.out ?_
      refine pureE (i := 10) (N := some 27) #[true, false, true, true, false, false, false, false, true, true, true, false, false] HT_.out ?_
      refine take_ (i := 1) (N := some 18) (v := ?_) (a' := ?_) #[true, true, true, true, false, false, false, false, true, true, true, false, false] rfl rfl (take_ofW HT_.out HW_.out (by kernel_rfl)) (fun _ _ _ h => h) (Or.inl ⟨by rfl, ?_⟩) hHeld ?_ ?_
      rotate_left
      · rintro w' ⟨s0, s1, s2, s3, s4, s5, s6⟩
        go_simp
        with_reducible rfl
      rotate_left
      · simp only [Act.put, List.setIfInBounds_toArray, List.set_cons_zero, List.set_cons_succ, i64_w, i32_w]
        rfl
      refine take_ (i := 4) (N := some 21) (v := ?_) (a' := ?_) #[true, true, true, true, true, false, false, false, true, true, true, false, false] rfl rfl (take_ofW HT_.out HW_.out (by kernel_rfl)) (fun _ _ _ h => h) (Or.inl ⟨by rfl, ?_⟩) hHeld ?_ ?_
      rotate_left
      · rintro w' ⟨s0, s1, s2, s3, s4, s5, s6⟩
        go_simp
        with_reducible rfl
      rotate_left
      · simp only [Act.put, List.setIfInBounds_toArray, List.set_cons_zero, List.set_cons_succ, i64_w, i32_w]
        rfl
      refine pureE (i := 5) (N := some 22) #[true, true, true, true, true, true, false, false, true, true, true, false, false] HT_.out ?_
      refine pureE (i := 6) (N := some 23) #[true, true, true, true, true, true, true, false, true, true, true, false, false] HT_.out ?_
      refine take_ (i := 7) (N := some 24) (v := ?_) (a' := ?_) #[true, true, true, true, true, true, true, true, true, true, true, false, false] rfl rfl (take_ofW HT_.out HW_.out (by kernel_rfl)) (fun _ _ _ h => h) (Or.inl ⟨by rfl, ?_⟩) hHeld ?_ ?_
      rotate_left
      · rintro w' ⟨s0, s1, s2, s3, s4, s5, s6⟩
        go_simp
        with_reducible rfl
      rotate_left
      · simp only [Act.put, List.setIfInBounds_toArray, List.set_cons_zero, List.set_cons_succ, i64_w, i32_w]
        rfl
      refine take_ (i := 11) (N := some 28) (v := ?_) (a' := ?_) #[true, true, true, true, true, true, true, true, true, true, true, true, false] rfl rfl (take_ofW HT_.out HW_.out (by kernel_rfl)) (fun _ _ _ h => h) (Or.inl ⟨by rfl, ?_⟩) hHeld ?_ ?_
      rotate_left
      · rintro w' ⟨s0, s1, s2, s3, s4, s5, s6⟩
        go_simp
        with_reducible rfl
      rotate_left
      · simp only [Act.put, List.setIfInBounds_toArray, List.set_cons_zero, List.set_cons_succ, i64_w, i32_w]
        rfl
      refine pureE (i := 12) (N := some 29) #[true, true, true, true, true, true, true, true, true, true, true, true, true] HT_.out ?_
      refine done_ (done_of HT_.out (by kernel_rfl)) ?_
      try go_wp2
      (try simp only [← hl796002_1])
      go_roundg k1
      case measure => have := HK1.out; omega
      case rel => exact ⟨(wrap64 (x12_1 + 1)), (x796002_1), RG, H', ⟨by have := HK1.out; omega⟩, ⟨PR1 HO_796002.out hl796002_1⟩, ⟨PB1 BK795.out hl796002_1⟩, ⟨by repeat (first | (with_reducible first | exact HK.out | apply Kept.alloc | apply Kept.drewN | apply Kept.drew | refine Kept.setCell ?_ (.inr GW795.out) _) | exact HK.out)⟩, ⟨BL HB.out⟩⟩
    have c13b0 := beq_eq_false_iff_ne.mpr c13
    have c13b1 := bne_iff_ne.mpr c13
    have H' := Aside0.mk H
    clear H
    have p796 : 0 ≤ (x12_1 : Int) := OD
    have q796 : x12_1 < (l1.length : Int) := OD
    obtain ⟨ad796, A796_0, c796_0, e796, hx796_0, hl796_0, hi796_0⟩ := at_L3 (Kd.C_kept_now HR1.out HK.out) x12_1 p796 q796
    cases e796
    have HR796_0 := Aside0.mk hi796_0
    have HS796_0 := Aside0.mk (foot_inner3 HR1.out HK.out p796 q796 hx796_0)
    have HC796_0 := Aside0.mk hl796_0
    clear hi796_0 hl796_0
    replace p796 := eq_true p796
    replace q796 := eq_true q796
    try go_wp2
    refine E5 (Kd.R_drew HO_796002.out) (blk_drew BK795.out) (Kd.C_drew HR796_0.out) (Kept.drew HK.out) (below_drew1 HB.out) ?_
    clear HO_796002 BK795 HR796_0 HK HB
    intro HO_796002 BK795 HR796_0 HK HB
    have p797 : 0 ≤ (0 : Int) := (by omega)
    have q797 : 0 < ((rd_L3 l1 x12_1).length : Int) := OD
    obtain ⟨ad797, e797, hx797_0⟩ := Kd.at_int (by repeat (first | (with_reducible exact HR796_0.out) | (with_reducible refine Kd.C_alloc ?_ _) | (with_reducible refine Kd.C_drewN ?_ _) | (with_reducible refine Kd.C_drew ?_) | exact HR796_0.out)) 0 p797 q797
    cases e797
    have qi797 : (0 < (rd_L3 l1 x12_1).length) = True := eq_true (by omega)
    (try rw [show ((0 : Int)).toNat = 0 from rfl] at hx797_0)
    (try rw [Addr.add_zero'] at hx797_0)
    replace p797 := eq_true p797
    replace q797 := eq_true q797
    have p798 : 0 ≤ ((rd (rd_L3 l1 x12_1) 0) : Int) := OD
    have q798 : (rd (rd_L3 l1 x12_1) 0) < (x796002_1.length : Int) := OD
    obtain ⟨ad798, e798, hx798_0, hx798_1⟩ := at_T73 (Kd.R_reads' HO_796002.out).2.2 (rd (rd_L3 l1 x12_1) 0) p798 q798
    cases e798
    replace p798 := eq_true p798
    replace q798 := eq_true q798
    have p799 : 0 ≤ (x12_1 : Int) := OD
    have q799 : x12_1 < (l2.length : Int) := OD
    obtain ⟨ad799, e799, hx799_0⟩ := Kd.at_int (Kd.C_kept_now HR2.out HK.out) x12_1 p799 q799
    have hw799_0 := hx799_0
    cases e799
    replace p799 := eq_true p799
    replace q799 := eq_true q799
    refine start_ (n := 13) (S := fun w' => w'.cell? ⟨gb795, 0, none⟩ = some (.int .i64 a0_0) ∧ w'.cell? ⟨gb795, 1, none⟩ = some (.int .i64 a0_1) ∧ w'.cell? ⟨gb795, 2, none⟩ = some (.slice (some ad798) x796002_1.length co4) ∧ w'.cell? ad797 = some (.int .i64 (rd (rd_L3 l1 x12_1) 0)) ∧ w'.cell? (ad798.add (((rd (rd_L3 l1 x12_1) 0)).toNat * 2)) = some (.int .i64 ((rd_T73 x796002_1 (rd (rd_L3 l1 x12_1) 0)).f0)) ∧ w'.cell? ⟨(ad798.add (((rd (rd_L3 l1 x12_1) 0)).toNat * 2)).block, (ad798.add (((rd (rd_L3 l1 x12_1) 0)).toNat * 2)).off + 1, none⟩ = some (.int .i64 ((rd_T73 x796002_1 (rd (rd_L3 l1 x12_1) 0)).f1)) ∧ w'.cell? (ad799.add (x12_1).toNat) = some (.int .i64 (rd l2 x12_1))) (ds := []) #[false, false, false, false, false, false, false, false, false, false, false, false, false] (by kernel_rfl) rfl rfl ⟨(blk_cell BK795.out 0).trans rfl, (blk_cell BK795.out 1).trans rfl, (blk_cell BK795.out 2).trans rfl, hx797_0, hx798_0, hx798_1, (Kd.foot_int (HR2.out _ (by repeat (first | exact HK.out | apply Kept.alloc | apply Kept.drewN | apply Kept.drew))) x12_1 (of_eq_true p799) (of_eq_true q799))⟩ (fun hHeld => ?_); refine with_tabW impl_setBits.tab4 impl_setBits.bits4 (fun HT_ HW_ => ?_)
    generalize wr.drew = w15 at HO_796002 BK795 HR796_0 HK HB hx797_0 hx798_0 hx798_1 hx799_0 hHeld ⊢
    refine pureE (i := 0) (N := some 17) #[true, false, false, false, false, false, false, false, false, false, false, false, false] HT_.out ?_
    refine pureE (i := 2) (N := some 19) #[true, false, true, false, false, false, false, false, false, false, false, false, false] HT_.out ?_
    refine pureE (i := 3) (N := some 20) #[true, false, true, true, false, false, false, false, false, false, false, false, false] HT_.out ?_
    refine pureE (i := 8) (N := some 25) #[true, false, true, true, false, false, false, false, true, false, false, false, false] HT_.out ?_
    refine pureE (i := 9) (N := some 26) #[true, false, true, true, false, false, false, false, true, true, false, false, false] HT_.out ?_
    refine pureE (i := 10) (N := some 27) #[true, false, true, true, false, false, false, false, true, true, true, false, false] HT_.out ?_
    refine take_ (i := 1) (N := some 18) (v := ?_) (a' := ?_) #[true, true, true, true, false, false, false, false, true, true, true, false, false] rfl rfl (take_ofW HT_.out HW_.out (by kernel_rfl)) (fun _ _ _ h => h) (Or.inl ⟨by rfl, ?_⟩) hHeld ?_ ?_
    rotate_left
    · rintro w' ⟨s0, s1, s2, s3, s4, s5, s6⟩
      go_simp
      with_reducible rfl
    rotate_left
    · simp only [Act.put, List.setIfInBounds_toArray, List.set_cons_zero, List.set_cons_succ, i64_w, i32_w]
      rfl
    refine take_ (i := 4) (N := some 21) (v := ?_) (a' := ?_) #[true, true, true, true, true, false, false, false, true, true, true, false, false] rfl rfl (take_ofW HT_.out HW_.out (by kernel_rfl)) (fun _ _ _ h => h) (Or.inl ⟨by rfl, ?_⟩) hHeld ?_ ?_
    rotate_left
    · rintro w' ⟨s0, s1, s2, s3, s4, s5, s6⟩
      go_simp
      with_reducible rfl
    rotate_left
    · simp only [Act.put, List.setIfInBounds_toArray, List.set_cons_zero, List.set_cons_succ, i64_w, i32_w]
      rfl
    refine pureE (i := 5) (N := some 22) #[true, true, true, true, true, true, false, false, true, true, true, false, false] HT_.out ?_
    refine pureE (i := 6) (N := some 23) #[true, true, true, true, true, true, true, false, true, true, true, false, false] HT_.out ?_
    refine take_ (i := 7) (N := some 24) (v := ?_) (a' := ?_) #[true, true, true, true, true, true, true, true, true, true, true, false, false] rfl rfl (take_ofW HT_.out HW_.out (by kernel_rfl)) (fun _ _ _ h => h) (Or.inl ⟨by rfl, ?_⟩) hHeld ?_ ?_
    rotate_left
    · rintro w' ⟨s0, s1, s2, s3, s4, s5, s6⟩
      go_simp
      with_reducible rfl
    rotate_left
    · simp only [Act.put, List.setIfInBounds_toArray, List.set_cons_zero, List.set_cons_succ, i64_w, i32_w]
      rfl
    refine take_ (i := 11) (N := some 28) (v := ?_) (a' := ?_) #[true, true, true, true, true, true, true, true, true, true, true, true, false] rfl rfl (take_ofW HT_.out HW_.out (by kernel_rfl)) (fun _ _ _ h => h) (Or.inl ⟨by rfl, ?_⟩) hHeld ?_ ?_
    rotate_left
    · rintro w' ⟨s0, s1, s2, s3, s4, s5, s6⟩
      go_simp
      with_reducible rfl
    rotate_left
    · simp only [Act.put, List.setIfInBounds_toArray, List.set_cons_zero, List.set_cons_succ, i64_w, i32_w]
      rfl
    refine pureE (i := 12) (N := some 29) #[true, true, true, true, true, true, true, true, true, true, true, true, true] HT_.out ?_
    refine done_ (done_of HT_.out (by kernel_rfl)) ?_
    try go_wp2
    generalize Value.pointer (some ⟨(ad798.add (((rd (rd_L3 l1 x12_1) 0)).toNat * 2)).block, (ad798.add (((rd (rd_L3 l1 x12_1) 0)).toNat * 2)).off + 1, none⟩) = p23_
    generalize Value.pointer (some (ad798.add (((rd (rd_L3 l1 x12_1) 0)).toNat * 2))) = p22_
    go_loopg [32] k1 (fun kq v32 w' => ∃ (x32_2 : Int) (x796002_2 : List (S73)), v32 = .int .i64 x32_2 ∧ Aside0 (impl_setBits.l1 kq l2 l1 (l1.length : Int) x12_1 (rd_L3 l1 x12_1) ((rd_L3 l1 x12_1).length : Int) x32_2 a0_0 a0_1 x796002_2 = some r) ∧ Aside0 (kq ≤ k1) ∧ Aside0 (Kd.R k73 73 w' w0.heap.size (fun k_ => (P0_2_ k_ ∨ w.heap.size ≤ k_)) (.slice (some ad798) x796002_1.length co4) x796002_2) ∧ Aside0 (w'.heap[gb795]? = some (.cells #[.int .i64 a0_0, .int .i64 a0_1, (.slice (some ad798) x796002_1.length co4)] 30 (0, 0))) ∧ Aside0 (Kd.C (Kd.int .i64) w' (some ad797) (rd_L3 l1 x12_1).length (rd_L3 l1 x12_1)) ∧ Aside0 (Kept w w' (fun k_ => P0_2_ k_)) ∧ Aside0 (Below w0.heap.size w0 w'))
    case atStart => exact ⟨(0), (x796002_1), RG, H', ⟨Nat.le_refl _⟩, ⟨PR1 HO_796002.out hl796002_1⟩, ⟨PB1 BK795.out hl796002_1⟩, ⟨by repeat (first | (with_reducible exact HR796_0.out) | (with_reducible refine Kd.C_alloc ?_ _) | (with_reducible refine Kd.C_drewN ?_ _) | (with_reducible refine Kd.C_drew ?_) | exact HR796_0.out)⟩, ⟨by repeat (first | (with_reducible first | exact HK.out | apply Kept.alloc | apply Kept.drewN | apply Kept.drew | refine Kept.setCell ?_ (.inr GW795.out) _) | exact HK.out)⟩, ⟨BL HB.out⟩⟩
    clear H'
    try clear c6b0; try clear c7b0; try clear c8b0; try clear c9b0; try clear c9b1; try clear c10b0; try clear c11b0; try clear c12b0; try clear c13; try clear c13b0; try clear c13b1; try clear hx796_0; try clear hx797_0; try clear hx798_0; try clear hx798_1; try clear hx799_0; try clear p796; try clear p797; try clear p798; try clear p799; try clear q796; try clear q797; try clear q798; try clear q799
    obtain ⟨x32_2, x796002_2, rfl, HA, HK2, HO_796002, BK795, HR796_0, HK, HB⟩ := hrel
    have hl796002_2 := (Kd.R_reads' HO_796002.out).1
    rw [hl796002_2] at HO_796002
    (try simp only [hl796002_2])
    (try simp only [hl796002_2] at BK795)
    cases gk with
    | zero => exact absurd HA.out (by simp [impl_setBits.l1])
    | succ k2 => ?_
    have H := HA.out
    clear HA
    simp only [impl_setBits.l1] at H
    replace H := ifB H; rcases H with ⟨c16b0, H⟩ | ⟨c16b0, H⟩
    · replace H := ifN H; obtain ⟨c17b0, H⟩ := H
      replace H := ifN H; obtain ⟨c18b0, H⟩ := H
      replace H := ifN H; obtain ⟨c19b0, H⟩ := H
      replace H := ifN H; obtain ⟨c20b0, H⟩ := H
      generalize hy802 : ((x796002_2.set ((rd (rd_L3 l1 x12_1) x32_2) : Int).toNat (⟨(rd_T73 x796002_2 (rd (rd_L3 l1 x12_1) x32_2)).f0, wrap64 (1 - ((rd_T73 x796002_2 (rd (rd_L3 l1 x12_1) x32_2)).f1))⟩ : S73)) : List (S73)) = y802 at H
      have Ny802 := Aside0.mk hy802.symm; clear hy802
      have H' := Aside0.mk H
      clear H
      have p800 : 0 ≤ (x32_2 : Int) := OD
      have q800 : x32_2 < ((rd_L3 l1 x12_1).length : Int) := OD
      obtain ⟨ad800, e800, hx800_0⟩ := Kd.at_int HR796_0.out x32_2 p800 q800
      obtain rfl : ad797 = ad800 := (by injection e800)
      replace p800 := eq_true p800
      replace q800 := eq_true q800
      try go_wp2
      refine E5 (Kd.R_drew HO_796002.out) (blk_drew BK795.out) (Kd.C_drew HR796_0.out) (Kept.drew HK.out) (below_drew1 HB.out) ?_
      clear HO_796002 BK795 HR796_0 HK HB
      intro HO_796002 BK795 HR796_0 HK HB
      have p801 : 0 ≤ ((rd (rd_L3 l1 x12_1) x32_2) : Int) := OD
      have q801 : (rd (rd_L3 l1 x12_1) x32_2) < (x796002_2.length : Int) := OD
      obtain ⟨ad801, e801, hx801_0, hx801_1⟩ := at_T73 (Kd.R_reads' HO_796002.out).2.2 (rd (rd_L3 l1 x12_1) x32_2) p801 q801
      obtain rfl : ad798 = ad801 := (by injection e801)
      replace p801 := eq_true p801
      replace q801 := eq_true q801
      have p21 : 0 ≤ ((rd (rd_L3 l1 x12_1) x32_2) : Int) := OD
      have q21 : ((rd (rd_L3 l1 x12_1) x32_2) : Int) < ((x796002_2.length : Int) : Int) := OD
      obtain ⟨go21, co21, eo21, gb21, gl21, cl21, HG21⟩ := Kd.R_form HO_796002.out (by omega)
      (first | cases eo21 | (injection eo21 with ea_ en_ ec_; (first | subst ea_ | (injection ea_ with ea_; subst ea_)); subst ec_; clear en_))
      have GB21 := Aside0.mk gb21
      have GG21 := Aside0.mk HG21
      clear gb21 gl21 HG21
      have HMgo21 := Aside0.mk (show (P0_2_ go21 ∨ w.heap.size ≤ go21) from (HO_796002.out.1 _ rfl))
      (first | simp only [add_plain] at hx798_0 | skip)
      (first | simp only [add_plain] at hx798_1 | skip)
      (first | simp only [add_plain] at hx801_0 | skip)
      (first | simp only [add_plain] at hx801_1 | skip)
      obtain ⟨ce21, hcl21, hM21, hcc21, hfr21⟩ := Kd.R_elem HO_796002.out z73 ((rd (rd_L3 l1 x12_1) x32_2) : Int) p21 q21
      obtain rfl := k73_openM hM21
      have hx21_0 : World.cell? _ ⟨go21, ((rd (rd_L3 l1 x12_1) x32_2) : Int).toNat * 2, none⟩ = some (.int .i64 ((rd_T73 x796002_2 (rd (rd_L3 l1 x12_1) x32_2)).f0)) := hcc21 0 _ rfl
      have hx21_1 : World.cell? _ ⟨go21, ((rd (rd_L3 l1 x12_1) x32_2) : Int).toNat * 2 + 1, none⟩ = some (.int .i64 ((rd_T73 x796002_2 (rd (rd_L3 l1 x12_1) x32_2)).f1)) := hcc21 1 _ rfl
      have hf21_0 : World.frozen? _ ⟨go21, ((rd (rd_L3 l1 x12_1) x32_2) : Int).toNat * 2, none⟩ = false := hfr21 0
      have hf21_1 : World.frozen? _ ⟨go21, ((rd (rd_L3 l1 x12_1) x32_2) : Int).toNat * 2 + 1, none⟩ = false := hfr21 1
      clear hcl21 hcc21 hfr21 hM21
      replace p21 := eq_true p21
      replace q21 := eq_true q21
      obtain ⟨ce23, hcl23, hM23, hcc23, hfr23⟩ := Kd.R_elem HO_796002.out z73 ((rd (rd_L3 l1 x12_1) x32_2) : Int) (OD) (by have h_ : ((rd (rd_L3 l1 x12_1) x32_2) : Int) < ((x796002_2.length : Int) : Int) := OD; first | exact h_ | (have e_ := (Kd.R_reads' HO_796002.out).1; omega) | simpa using h_)
      obtain rfl := k73_openM hM23
      have HP23 := (Kd.R_seg HO_796002.out ((rd (rd_L3 l1 x12_1) x32_2) : Int) (OD) (by have h_ : ((rd (rd_L3 l1 x12_1) x32_2) : Int) < ((x796002_2.length : Int) : Int) := OD; first | exact h_ | (have e_ := (Kd.R_reads' HO_796002.out).1; omega) | simpa using h_) (seg := [.int .i64 (wrap64 (1 - ((rd_T73 x796002_2 (rd (rd_L3 l1 x12_1) x32_2)).f1)))]) (j := 1) hcl23 hcc23 (show 2 ≤ 2 from by decide) (x' := (⟨(rd_T73 x796002_2 (rd (rd_L3 l1 x12_1) x32_2)).f0, wrap64 (1 - ((rd_T73 x796002_2 (rd (rd_L3 l1 x12_1) x32_2)).f1))⟩ : S73)) (k73_mkM _ _ _ (⟨(rd_T73 x796002_2 (rd (rd_L3 l1 x12_1) x32_2)).f0, wrap64 (1 - ((rd_T73 x796002_2 (rd (rd_L3 l1 x12_1) x32_2)).f1))⟩ : S73) ) (fun _ hk => hk)).1
      rw [← Ny802.out] at HP23
      have HQ23 := Aside0.mk HP23
      clear hcl23 hcc23 hfr23 hM23 HP23
      refine start_ (n := 13) (S := fun w' => w'.cell? ⟨gb795, 0, none⟩ = some (.int .i64 a0_0) ∧ w'.cell? ⟨gb795, 1, none⟩ = some (.int .i64 a0_1) ∧ w'.cell? ⟨gb795, 2, none⟩ = some (.slice (some ⟨go21, 0, none⟩) x796002_2.length co4) ∧ w'.cell? ⟨go21, ((rd (rd_L3 l1 x12_1) x32_2)).toNat * 2, none⟩ = some (.int .i64 ((rd_T73 x796002_2 (rd (rd_L3 l1 x12_1) x32_2)).f0)) ∧ w'.cell? ⟨go21, ((rd (rd_L3 l1 x12_1) x32_2)).toNat * 2 + 1, none⟩ = some (.int .i64 ((rd_T73 x796002_2 (rd (rd_L3 l1 x12_1) x32_2)).f1))) (ds := [12]) #[false, false, false, false, false, false, false, false, false, false, false, false, false] (by kernel_rfl) rfl rfl ⟨(blk_cell BK795.out 0).trans rfl, (blk_cell BK795.out 1).trans rfl, (blk_cell BK795.out 2).trans rfl, hx801_0, hx801_1⟩ (fun hHeld => ?_); refine with_tabW impl_setBits.tab8 impl_setBits.bits8 (fun HT_ HW_ => ?_)
      generalize wr.drew = w22 at HO_796002 BK795 HR796_0 HK HB GG21 HQ23 hf21_0 hf21_1 hx21_0 hx21_1 hx801_0 hx801_1 hHeld ⊢
      refine pureE (i := 0) (N := some 36) #[true, false, false, false, false, false, false, false, false, false, false, false, false] HT_.out ?_
      refine pureE (i := 2) (N := some 38) #[true, false, true, false, false, false, false, false, false, false, false, false, false] HT_.out ?_
      refine pureE (i := 3) (N := some 39) #[true, false, true, true, false, false, false, false, false, false, false, false, false] HT_.out ?_
      refine pureE (i := 5) (N := some 41) #[true, false, true, true, false, true, false, false, false, false, false, false, false] HT_.out ?_
      refine take_ (i := 1) (N := some 37) (v := ?_) (a' := ?_) #[true, true, true, true, false, true, false, false, false, false, false, false, false] rfl rfl (take_ofW HT_.out HW_.out (by kernel_rfl)) (fun _ _ _ h => h) (Or.inl ⟨by rfl, ?_⟩) hHeld ?_ ?_
      rotate_left
      · rintro w' ⟨s0, s1, s2, s3, s4⟩
        go_simp
        with_reducible rfl
      rotate_left
      · simp only [Act.put, List.setIfInBounds_toArray, List.set_cons_zero, List.set_cons_succ, i64_w, i32_w]
        rfl
      refine take_ (i := 4) (N := some 40) (v := ?_) (a' := ?_) #[true, true, true, true, true, true, false, false, false, false, false, false, false] rfl rfl (take_ofW HT_.out HW_.out (by kernel_rfl)) (fun _ _ _ h => h) (Or.inl ⟨by rfl, ?_⟩) hHeld ?_ ?_
      rotate_left
      · rintro w' ⟨s0, s1, s2, s3, s4⟩
        go_simp
        with_reducible rfl
      rotate_left
      · simp only [Act.put, List.setIfInBounds_toArray, List.set_cons_zero, List.set_cons_succ, i64_w, i32_w]
        rfl
      refine pureE (i := 6) (N := some 42) #[true, true, true, true, true, true, true, false, false, false, false, false, false] HT_.out ?_
      refine pureE (i := 7) (N := some 43) #[true, true, true, true, true, true, true, true, false, false, false, false, false] HT_.out ?_
      refine take_ (i := 8) (N := some 44) (v := ?_) (a' := ?_) #[true, true, true, true, true, true, true, true, true, false, false, false, false] rfl rfl (take_ofW HT_.out HW_.out (by kernel_rfl)) (fun _ _ _ h => h) (Or.inl ⟨by rfl, ?_⟩) hHeld ?_ ?_
      rotate_left
      · rintro w' ⟨s0, s1, s2, s3, s4⟩
        go_simp
        with_reducible rfl
      rotate_left
      · simp only [Act.put, List.setIfInBounds_toArray, List.set_cons_zero, List.set_cons_succ, i64_w, i32_w]
        rfl
      refine pureE (i := 9) (N := some 45) #[true, true, true, true, true, true, true, true, true, true, false, false, false] HT_.out ?_
      refine pureE (i := 10) (N := some 46) #[true, true, true, true, true, true, true, true, true, true, true, false, false] HT_.out ?_
      refine pureE (i := 11) (N := some 47) #[true, true, true, true, true, true, true, true, true, true, true, true, false] HT_.out ?_
      refine last_ (i := 12) (N := none) #[true, true, true, true, true, true, true, true, true, true, true, true, true] rfl rfl (one_of HT_.out (by kernel_rfl)) (by decide) (fun K hK => ?_)
      refine skip_ (w1 := ?_) (by rfl) rfl ?_ ?_
      rotate_left
      · go_simp
        rfl
      refine hK.out _ _ ?_
      clear hK K
      refine done_ (done_of HT_.out (by kernel_rfl)) ?_
      try go_wp2
      (try simp only [← hl796002_2])
      go_roundg k2
      case measure => have := HK1.out; have := HK2.out; omega
      case rel => exact ⟨(wrap64 (x32_2 + 1)), (y802), RG, H', ⟨by have := HK1.out; have := HK2.out; omega⟩, ⟨PR2 HQ23.out hl796002_1 hl796002_2⟩, ⟨by (try simp only [hl796002_1]); (try simp only [hl796002_2]); (with_reducible repeat (first | refine blk_drewN ?_ _ | refine blk_drew ?_ | refine blk_alloc ?_ _)); refine blk_far ?_ (by have h_ := Kd.R_ne HO_796002.out BK795.out (by decide); intro e_; exact h_ (by rw [e_]; rfl)) _; (with_reducible repeat (first | refine blk_drewN ?_ _ | refine blk_drew ?_ | refine blk_alloc ?_ _)); exact BK795.out⟩, ⟨HS796_0.out _ (by repeat (first | (with_reducible first | exact HK.out | apply Kept.alloc | apply Kept.drewN | apply Kept.drew | refine Kept.setCell ?_ HMgo21.out _ | refine Kept.setCell ?_ (.inr GW795.out) _) | exact HK.out))⟩, ⟨by repeat (first | (with_reducible first | exact HK.out | apply Kept.alloc | apply Kept.drewN | apply Kept.drew | refine Kept.setCell ?_ HMgo21.out _ | refine Kept.setCell ?_ (.inr GW795.out) _) | exact HK.out)⟩, ⟨by repeat (first | (with_reducible first | exact HB.out | apply below_alloc | apply pw_below_drewN | apply below_drew1 | refine below_set ?_ GB21.out | refine below_set ?_ GE795.out) | exact HB.out)⟩⟩
    have H' := Aside0.mk H
    clear H
    go_wp2
    (try simp only [← hl796002_1, ← hl796002_2])
    go_roundg k2
    case measure => have := HK1.out; have := HK2.out; omega
    case rel => exact ⟨(wrap64 (x12_1 + 1)), (x796002_2), RG, H', ⟨by have := HK1.out; have := HK2.out; omega⟩, ⟨PR2 HO_796002.out hl796002_1 hl796002_2⟩, ⟨PB2 BK795.out hl796002_1 hl796002_2⟩, ⟨by repeat (first | (with_reducible first | exact HK.out | apply Kept.alloc | apply Kept.drewN | apply Kept.drew | refine Kept.setCell ?_ (.inr GW795.out) _) | exact HK.out)⟩, ⟨BL HB.out⟩⟩
  obtain rfl := Option.some.inj H
  go_wp2
  first | go_end0 | ((try simp only [Exit.inBlock, Exit.then]); refine bodyPost_ret (results_none rfl _ _ _) rfl ?_)
  exact ⟨RF, (by first | exact (PR HO_796002.out) | (simp only [hl796002_1]; exact (PR HO_796002.out))), by repeat (first | (with_reducible first | exact HB.out | apply below_alloc | apply pw_below_drewN | apply below_drew1 | refine below_set ?_ GE795.out) | exact HB.out), by repeat (first | (with_reducible first | exact HK.out | apply Kept.alloc | apply Kept.drewN | apply Kept.drew | refine Kept.setCell ?_ (.inr GW795.out) _) | exact HK.out)⟩
end Go.Proofs.Ytakihdabbpconaa.P
