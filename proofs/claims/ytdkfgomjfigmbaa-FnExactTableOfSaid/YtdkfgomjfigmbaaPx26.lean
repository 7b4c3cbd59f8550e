-- PRINTED by print.py (a twelfth state) out of the translation. Not trusted: Lean checks it.
import Derived.Test.YtdkfgomjfigmbaaPx0
import Derived.Test.YtdkfgomjfigmbaaPx4
import Derived.Test.YtdkfgomjfigmbaaPx5
import Derived.Test.YtdkfgomjfigmbaaPx6
import Derived.Test.YtdkfgomjfigmbaaPx10
import Derived.Test.YtdkfgomjfigmbaaPx14
import Derived.Test.YtdkfgomjfigmbaaPx15
import Derived.Test.YtdkfgomjfigmbaaPx16
namespace Go.Proofs.Ytdkfgomjfigmbaa.P
open Go.RowKit Go.Proofs.YtdkfgomjfigmbaaW.PrintWords Go.Proofs.YtdkfgomjfigmbaaW.PrintLast Go.Proofs.YtdkfgomjfigmbaaW.PrintMore
attribute [local go_sem] max2_int min2_int max_two min_two max_three min_three max_four min_four   -- for this text's walks alone
set_option linter.unusedVariables false
set_option linter.unusedSimpArgs false

/-! ### spec_TableOf: function 39 -/
open Kd
def spec_TableOf.f (k : Nat) (a0_0 : Int) (l0_1 : List (S63)) (a0_2 : Int) : Option (Int × List Int × Bool) := (spec_ddGood.f k a0_0 l0_1 a0_2).bind fun t616 => (if t616 = true then ((spec_ddTable.f k a0_0 l0_1 a0_2).bind fun bt617 => (some (bt617.1, bt617.2, true))) else (some (0, ([] : List Int), false)))
theorem spec_TableOf.mono : ∀ a0 a1 a2 k, LeO (spec_TableOf.f k a0 a1 a2) (spec_TableOf.f (k + 1) a0 a1 a2) := by
 intro a0 a1 a2 k
 unfold spec_TableOf.f
 repeat' first
  | (with_reducible exact spec_ddGood.mono _ _ _ _)
  | (with_reducible exact spec_ddTable.mono _ _ _ _)
  | (with_reducible exact LeO.refl _)
  | (with_reducible exact LeO.none _)
  | (with_reducible refine LeO.ite ?_ ?_)
  | (with_reducible refine LeO.bind ?_ (fun _ => ?_))
  | exact spec_ddGood.mono _ _ _ _
  | exact spec_ddTable.mono _ _ _ _
  | exact LeO.none _
  | refine LeO.ite ?_ ?_
  | refine LeO.bind ?_ (fun _ => ?_)
set_option maxHeartbeats 8000000 in
set_option maxRecDepth 100000 in
theorem spec_TableOf.calls (k : Nat) (a0_0 : Int) (A0_1 : Option Addr) (c0_1 : Nat) (l0_1 : List (S63)) (a0_2 : Int) (r1 : Int) (r2 : List Int) (r3 : Bool) (w : World) (hr0_1 : Kd.C k63 w A0_1 l0_1.length l0_1) (hc0_1 : l0_1.length <= c0_1) (h : spec_TableOf.f k a0_0 l0_1 a0_2 = some (r1, r2, r3)) :
 Calls Try.prog 39 #[.agg #[.int .i64 a0_0, .slice A0_1 l0_1.length c0_1, .int .i64 a0_2]] w fun e w' => ∃ v1_ : Value, e = .returned (.tuple #[.agg #[.int .i64 r1, v1_], .bool r3]) /\ Kd.R (Kd.int .i64) 3 w' w.heap.size (fun _ => True) v1_ r2 /\ Below w.heap.size w w' := by
 have hu29 := Try.underlying29
 have hu41 := Try.underlying41
 have HR0_1 := Aside0.mk hr0_1
 have HC0_1 := Aside0.mk hc0_1
 clear hr0_1 hc0_1
 have HB := Aside0.mk (Below.refl w.heap.size w)
 have H := h
 clear h
 unfold spec_TableOf.f at H
 replace H := bindA H; obtain ⟨t616, A2, H⟩ := H
 replace H := ifX H; rcases H with ⟨rfl, H⟩ | ⟨rfl, H⟩
 · replace H := bindA H; obtain ⟨⟨t617, t618⟩, A4, H⟩ := H
   dsimp only at H
   simp only [Option.some.injEq, Prod.mk.injEq] at H
   obtain ⟨rfl, rfl, rfl⟩ := H
   go_enter Try.func39, Try.ntmps39
   go_wp2_with (first | ((with_reducible refine gate_dst (N := 1) rfl ?_); refine boxE (cs := #[.int .i64 a0_0, .slice A0_1 l0_1.length c0_1, .int .i64 a0_2]) (t := 29) ?_; intro gb614 hg w5 hbox hb; refine E4b HB.1 hg hbox hb ?_; clear HB; intro HB BK614 GW614 GE614; clear hb hbox hg) | ((with_reducible refine gate_dst (N := 2) rfl ?_); refine boxE (cs := #[.int .i64 0, .slice none 0 0]) (t := 41) ?_; intro gb615 hg w6 hbox hb; refine E7 (bB BK614.1 hb) (bS HB.1 hb) (hbox) (gX HB.1 hg) (gX HB.1 hg) (nB BK614.1 hg) (nC BK614.1 hg) ?_; clear BK614 HB; intro BK614 HB BK615 GW615 GE615 NB614_615 NB615_614; clear hb hbox hg; have hnb7 := NB614_615.1; have hnc7 := NB615_614.1; obtain ⟨hcz8_0, hcz8_1, hcz8_2, hfz8_0, hfz8_1, hfz8_2⟩ := cz3 BK614.1) | ((with_reducible refine gate_callee (f := 45) rfl ?_); refine goesM (N := (some 5)) #[.agg #[.int .i64 a0_0, .slice A0_1 l0_1.length c0_1, .int .i64 a0_2]] Try.func45 ?_; (with_reducible refine (spec_ddGood.calls k a0_0 _ _ l0_1 a0_2 true _ ?side1 ?side2 A2.1).mono ?_); (case side1 => exact CB (C_below HR0_1.1 HB.1)); (case side2 => exact HC0_1.1); rintro e w9 ⟨rfl, hb⟩; refine ⟨_, rfl, ?_⟩; refine E3 (bB BK614.1 hb) (bB BK615.1 hb) (bS HB.1 hb) ?_; clear BK614 BK615 HB; intro BK614 BK615 HB; (try clear hb); obtain ⟨hcz10_0, hcz10_1, hcz10_2, hfz10_0, hfz10_1, hfz10_2⟩ := cz3 BK614.1) | ((with_reducible refine gate_callee (f := 58) rfl ?_); refine goesM (N := (some 9)) #[.agg #[.int .i64 a0_0, .slice A0_1 l0_1.length c0_1, .int .i64 a0_2]] Try.func58 ?_; (with_reducible refine (spec_ddTable.calls k a0_0 _ _ l0_1 a0_2 t617 t618 _ ?side1 ?side2 A4.1).mono ?_); (case side1 => exact CB (C_below HR0_1.1 HB.1)); (case side2 => exact HC0_1.1); rintro e w11 ⟨v619, rfl, ho0, hb⟩; refine ⟨_, rfl, ?_⟩; refine E4 (R_lower ho0 (bZ HB.1)) (bB BK614.1 hb) (bB BK615.1 hb) (bS HB.1 hb) ?_; clear BK614 BK615 HB; intro HO620 BK614 BK615 HB; (try clear hb); (try clear ho0); obtain ⟨hcz12_0, hcz12_1, hfz12_0, hfz12_1⟩ := cz2 BK615.1; obtain ⟨Ao13, co13, eo13⟩ := R_slice HO620.1; subst eo13))
   refine bodyPost_ret (results_ct rfl _ _ gb615 41 #[.int .i64 t617, .slice Ao13 t618.length co13] (0, 0) _ rfl (PF0 BK615.1) Try.underlying41 rfl (by kernel_rfl)) rfl ?_
   exact ⟨_, RF, by (with_reducible repeat (first | apply R_alloc | apply R_drewN | apply R_drew)); exact R_mono (RQ gb615 1 (RQ gb615 0 (R_types HO620.1 BK615.1 (by decide)) _) _) (fun _ hk => trivial), BL HB.1⟩
 simp only [Option.some.injEq, Prod.mk.injEq] at H
 obtain ⟨rfl, rfl, rfl⟩ := H
 go_enter Try.func39, Try.ntmps39
 go_wp2_with (first | ((with_reducible refine gate_dst (N := 1) rfl ?_); refine boxE (cs := #[.int .i64 a0_0, .slice A0_1 l0_1.length c0_1, .int .i64 a0_2]) (t := 29) ?_; intro gb614 hg w14 hbox hb; refine E4b HB.1 hg hbox hb ?_; clear HB; intro HB BK614 GW614 GE614; clear hb hbox hg) | ((with_reducible refine gate_dst (N := 2) rfl ?_); refine boxE (cs := #[.int .i64 0, .slice none 0 0]) (t := 41) ?_; intro gb615 hg w15 hbox hb; refine E7 (bB BK614.1 hb) (bS HB.1 hb) (hbox) (gX HB.1 hg) (gX HB.1 hg) (nB BK614.1 hg) (nC BK614.1 hg) ?_; clear BK614 HB; intro BK614 HB BK615 GW615 GE615 NB614_615 NB615_614; clear hb hbox hg; have hnb16 := NB614_615.1; have hnc16 := NB615_614.1; obtain ⟨hcz17_0, hcz17_1, hcz17_2, hfz17_0, hfz17_1, hfz17_2⟩ := cz3 BK614.1) | ((with_reducible refine gate_callee (f := 45) rfl ?_); refine goesM (N := (some 5)) #[.agg #[.int .i64 a0_0, .slice A0_1 l0_1.length c0_1, .int .i64 a0_2]] Try.func45 ?_; (with_reducible refine (spec_ddGood.calls k a0_0 _ _ l0_1 a0_2 false _ ?side1 ?side2 A2.1).mono ?_); (case side1 => exact CB (C_below HR0_1.1 HB.1)); (case side2 => exact HC0_1.1); rintro e w18 ⟨rfl, hb⟩; refine ⟨_, rfl, ?_⟩; refine E3 (bB BK614.1 hb) (bB BK615.1 hb) (bS HB.1 hb) ?_; clear BK614 BK615 HB; intro BK614 BK615 HB; (try clear hb); obtain ⟨hcz19_0, hcz19_1, hfz19_0, hfz19_1⟩ := cz2 BK615.1))
 refine bodyPost_ret (results_ct rfl _ _ gb615 41 #[.int .i64 0, .slice none 0 0] (0, 0) _ rfl (PF0 BK615.1) Try.underlying41 rfl (by kernel_rfl)) rfl ?_
 exact ⟨_, RF, by first | exact R_nil _ _ _ _ _ | exact N_nil _ _ _ _ _ | exact V_nil _ _ _ _ _ | exact Q_nil _ _ _ _ _ | exact S_nil _ _ _ _ _, BL HB.1⟩

/-! ### impl_TableOf: function 40 -/
open Kd
def impl_TableOf.f (k : Nat) (a0_0 : Int) (l0_1 : List (S63)) (a0_2 : Int) : Option (Int × List Int × Bool) := (impl_IsDiagram.f k a0_0 l0_1 a0_2).bind fun t623 => (if t623 = true then ((impl_tableOfDiagram.f k a0_0 l0_1 a0_2).bind fun bt624 => (some (bt624.1, bt624.2, true))) else (some (0, ([] : List Int), false)))
theorem impl_TableOf.mono : ∀ a0 a1 a2 k, LeO (impl_TableOf.f k a0 a1 a2) (impl_TableOf.f (k + 1) a0 a1 a2) := by
 intro a0 a1 a2 k
 unfold impl_TableOf.f
 repeat' first
  | (with_reducible exact impl_IsDiagram.mono _ _ _ _)
  | (with_reducible exact impl_tableOfDiagram.mono _ _ _ _)
  | (with_reducible exact LeO.refl _)
  | (with_reducible exact LeO.none _)
  | (with_reducible refine LeO.ite ?_ ?_)
  | (with_reducible refine LeO.bind ?_ (fun _ => ?_))
  | exact impl_IsDiagram.mono _ _ _ _
  | exact impl_tableOfDiagram.mono _ _ _ _
  | exact LeO.none _
  | refine LeO.ite ?_ ?_
  | refine LeO.bind ?_ (fun _ => ?_)
set_option maxHeartbeats 8000000 in
set_option maxRecDepth 100000 in
theorem impl_TableOf.calls (k : Nat) (a0_0 : Int) (A0_1 : Option Addr) (c0_1 : Nat) (l0_1 : List (S63)) (a0_2 : Int) (r1 : Int) (r2 : List Int) (r3 : Bool) (w : World) (hr0_1 : Kd.C k63 w A0_1 l0_1.length l0_1) (hc0_1 : l0_1.length <= c0_1) (h : impl_TableOf.f k a0_0 l0_1 a0_2 = some (r1, r2, r3)) :
 Calls Try.prog 40 #[.agg #[.int .i64 a0_0, .slice A0_1 l0_1.length c0_1, .int .i64 a0_2]] w fun e w' => ∃ v1_ : Value, e = .returned (.tuple #[.agg #[.int .i64 r1, v1_], .bool r3]) /\ Kd.R (Kd.int .i64) 3 w' w.heap.size (fun _ => True) v1_ r2 /\ Below w.heap.size w w' := by
 have hu29 := Try.underlying29
 have hu41 := Try.underlying41
 have HR0_1 := Aside0.mk hr0_1
 have HC0_1 := Aside0.mk hc0_1
 clear hr0_1 hc0_1
 have HB := Aside0.mk (Below.refl w.heap.size w)
 have H := h
 clear h
 unfold impl_TableOf.f at H
 replace H := bindA H; obtain ⟨t623, A2, H⟩ := H
 replace H := ifX H; rcases H with ⟨rfl, H⟩ | ⟨rfl, H⟩
 · replace H := bindA H; obtain ⟨⟨t624, t625⟩, A4, H⟩ := H
   dsimp only at H
   simp only [Option.some.injEq, Prod.mk.injEq] at H
   obtain ⟨rfl, rfl, rfl⟩ := H
   go_enter Try.func40, Try.ntmps40
   go_wp2_with (first | ((with_reducible refine gate_dst (N := 1) rfl ?_); refine boxE (cs := #[.int .i64 a0_0, .slice A0_1 l0_1.length c0_1, .int .i64 a0_2]) (t := 29) ?_; intro gb621 hg w5 hbox hb; refine E4b HB.1 hg hbox hb ?_; clear HB; intro HB BK621 GW621 GE621; clear hb hbox hg) | ((with_reducible refine gate_dst (N := 2) rfl ?_); refine boxE (cs := #[.int .i64 0, .slice none 0 0]) (t := 41) ?_; intro gb622 hg w6 hbox hb; refine E7 (bB BK621.1 hb) (bS HB.1 hb) (hbox) (gX HB.1 hg) (gX HB.1 hg) (nB BK621.1 hg) (nC BK621.1 hg) ?_; clear BK621 HB; intro BK621 HB BK622 GW622 GE622 NB621_622 NB622_621; clear hb hbox hg; have hnb7 := NB621_622.1; have hnc7 := NB622_621.1; obtain ⟨hcz8_0, hcz8_1, hcz8_2, hfz8_0, hfz8_1, hfz8_2⟩ := cz3 BK621.1) | ((with_reducible refine gate_callee (f := 15) rfl ?_); refine goesM (N := (some 5)) #[.agg #[.int .i64 a0_0, .slice A0_1 l0_1.length c0_1, .int .i64 a0_2]] Try.func15 ?_; (with_reducible refine (impl_IsDiagram.calls k a0_0 _ _ l0_1 a0_2 true _ ?side1 ?side2 A2.1).mono ?_); (case side1 => exact CB (C_below HR0_1.1 HB.1)); (case side2 => exact HC0_1.1); rintro e w9 ⟨rfl, hb⟩; refine ⟨_, rfl, ?_⟩; refine E3 (bB BK621.1 hb) (bB BK622.1 hb) (bS HB.1 hb) ?_; clear BK621 BK622 HB; intro BK621 BK622 HB; (try clear hb); obtain ⟨hcz10_0, hcz10_1, hcz10_2, hfz10_0, hfz10_1, hfz10_2⟩ := cz3 BK621.1) | ((with_reducible refine gate_callee (f := 59) rfl ?_); refine goesM (N := (some 9)) #[.agg #[.int .i64 a0_0, .slice A0_1 l0_1.length c0_1, .int .i64 a0_2]] Try.func59 ?_; (with_reducible refine (impl_tableOfDiagram.calls k a0_0 _ _ l0_1 a0_2 t624 t625 _ ?side1 ?side2 A4.1).mono ?_); (case side1 => exact CB (C_below HR0_1.1 HB.1)); (case side2 => exact HC0_1.1); rintro e w11 ⟨v626, rfl, ho0, hb⟩; refine ⟨_, rfl, ?_⟩; refine E4 (R_lower ho0 (bZ HB.1)) (bB BK621.1 hb) (bB BK622.1 hb) (bS HB.1 hb) ?_; clear BK621 BK622 HB; intro HO627 BK621 BK622 HB; (try clear hb); (try clear ho0); obtain ⟨hcz12_0, hcz12_1, hfz12_0, hfz12_1⟩ := cz2 BK622.1; obtain ⟨Ao13, co13, eo13⟩ := R_slice HO627.1; subst eo13))
   refine bodyPost_ret (results_ct rfl _ _ gb622 41 #[.int .i64 t624, .slice Ao13 t625.length co13] (0, 0) _ rfl (PF0 BK622.1) Try.underlying41 rfl (by kernel_rfl)) rfl ?_
   exact ⟨_, RF, by (with_reducible repeat (first | apply R_alloc | apply R_drewN | apply R_drew)); exact R_mono (RQ gb622 1 (RQ gb622 0 (R_types HO627.1 BK622.1 (by decide)) _) _) (fun _ hk => trivial), BL HB.1⟩
 simp only [Option.some.injEq, Prod.mk.injEq] at H
 obtain ⟨rfl, rfl, rfl⟩ := H
 go_enter Try.func40, Try.ntmps40
 go_wp2_with (first | ((with_reducible refine gate_dst (N := 1) rfl ?_); refine boxE (cs := #[.int .i64 a0_0, .slice A0_1 l0_1.length c0_1, .int .i64 a0_2]) (t := 29) ?_; intro gb621 hg w14 hbox hb; refine E4b HB.1 hg hbox hb ?_; clear HB; intro HB BK621 GW621 GE621; clear hb hbox hg) | ((with_reducible refine gate_dst (N := 2) rfl ?_); refine boxE (cs := #[.int .i64 0, .slice none 0 0]) (t := 41) ?_; intro gb622 hg w15 hbox hb; refine E7 (bB BK621.1 hb) (bS HB.1 hb) (hbox) (gX HB.1 hg) (gX HB.1 hg) (nB BK621.1 hg) (nC BK621.1 hg) ?_; clear BK621 HB; intro BK621 HB BK622 GW622 GE622 NB621_622 NB622_621; clear hb hbox hg; have hnb16 := NB621_622.1; have hnc16 := NB622_621.1; obtain ⟨hcz17_0, hcz17_1, hcz17_2, hfz17_0, hfz17_1, hfz17_2⟩ := cz3 BK621.1) | ((with_reducible refine gate_callee (f := 15) rfl ?_); refine goesM (N := (some 5)) #[.agg #[.int .i64 a0_0, .slice A0_1 l0_1.length c0_1, .int .i64 a0_2]] Try.func15 ?_; (with_reducible refine (impl_IsDiagram.calls k a0_0 _ _ l0_1 a0_2 false _ ?side1 ?side2 A2.1).mono ?_); (case side1 => exact CB (C_below HR0_1.1 HB.1)); (case side2 => exact HC0_1.1); rintro e w18 ⟨rfl, hb⟩; refine ⟨_, rfl, ?_⟩; refine E3 (bB BK621.1 hb) (bB BK622.1 hb) (bS HB.1 hb) ?_; clear BK621 BK622 HB; intro BK621 BK622 HB; (try clear hb); obtain ⟨hcz19_0, hcz19_1, hfz19_0, hfz19_1⟩ := cz2 BK622.1))
 refine bodyPost_ret (results_ct rfl _ _ gb622 41 #[.int .i64 0, .slice none 0 0] (0, 0) _ rfl (PF0 BK622.1) Try.underlying41 rfl (by kernel_rfl)) rfl ?_
 exact ⟨_, RF, by first | exact R_nil _ _ _ _ _ | exact N_nil _ _ _ _ _ | exact V_nil _ _ _ _ _ | exact Q_nil _ _ _ _ _ | exact S_nil _ _ _ _ _, BL HB.1⟩

/-! ### laws_heldTable: function 41 -/
open Kd
def laws_heldTable.f (k : Nat) (a0_0 : Int) (l0_1 : List Int) (a1 : Int) : Option (Int) := (laws_heldIntS.f k l0_1 a1).bind fun t629 => (if t629 < 0 then (some (-1)) else (some t629))
theorem laws_heldTable.mono : ∀ a0 a1 a2 k, LeO (laws_heldTable.f k a0 a1 a2) (laws_heldTable.f (k + 1) a0 a1 a2) := by
 intro a0 a1 a2 k
 unfold laws_heldTable.f
 repeat' first
  | (with_reducible exact laws_heldIntS.mono _ _ _)
  | (with_reducible exact LeO.refl _)
  | (with_reducible exact LeO.none _)
  | (with_reducible refine LeO.ite ?_ ?_)
  | (with_reducible refine LeO.bind ?_ (fun _ => ?_))
  | exact laws_heldIntS.mono _ _ _
  | exact LeO.none _
  | refine LeO.ite ?_ ?_
  | refine LeO.bind ?_ (fun _ => ?_)
set_option maxHeartbeats 8000000 in
set_option maxRecDepth 100000 in
theorem laws_heldTable.calls (k : Nat) (a0_0 : Int) (A0_1 : Option Addr) (c0_1 : Nat) (l0_1 : List Int) (a1 : Int) (r : Int) (w : World) (hr0_1 : Kd.C (Kd.int .i64) w A0_1 l0_1.length l0_1) (hc0_1 : l0_1.length <= c0_1) (h : laws_heldTable.f k a0_0 l0_1 a1 = some r) :
 Calls Try.prog 41 #[.agg #[.int .i64 a0_0, .slice A0_1 l0_1.length c0_1], .int .i64 a1] w fun e w' => e = .returned (.int .i64 r) /\ Below w.heap.size w w' := by
 have hu41 := Try.underlying41
 have HR0_1 := Aside0.mk hr0_1
 have HC0_1 := Aside0.mk hc0_1
 clear hr0_1 hc0_1
 have HB := Aside0.mk (Below.refl w.heap.size w)
 have H := h
 clear h
 unfold laws_heldTable.f at H
 replace H := bindA H; obtain ⟨t629, A3, H⟩ := H
 replace H := ifB H; rcases H with ⟨c4b0, H⟩ | ⟨c4b0, H⟩
 · obtain rfl := Option.some.inj H
   go_enter Try.func41, Try.ntmps41
   go_wp2_with (first | ((with_reducible refine gate_dst (N := 2) rfl ?_); refine boxE (cs := #[.int .i64 a0_0, .slice A0_1 l0_1.length c0_1]) (t := 41) ?_; intro gb628 hg w5 hbox hb; refine E4b HB.1 hg hbox hb ?_; clear HB; intro HB BK628 GW628 GE628; clear hb hbox hg; obtain ⟨hcz6_0, hcz6_1, hfz6_0, hfz6_1⟩ := cz2 BK628.1) | ((with_reducible refine gate_callee (f := 33) rfl ?_); refine goesM (N := (some 8)) #[.slice A0_1 l0_1.length c0_1, .int .i64 a1] Try.func33 ?_; (with_reducible refine (laws_heldIntS.calls k _ _ l0_1 a1 t629 _ ?side1 ?side2 A3.1).mono ?_); (case side1 => exact CB (C_below HR0_1.1 HB.1)); (case side2 => exact HC0_1.1); rintro e w' ⟨rfl, ⟨nd, rfl⟩⟩; refine ⟨_, rfl, ?_⟩))
   go_ret
   exact ⟨RF, BL HB.1⟩
 obtain rfl := Option.some.inj H
 go_enter Try.func41, Try.ntmps41
 go_wp2_with (first | ((with_reducible refine gate_dst (N := 2) rfl ?_); refine boxE (cs := #[.int .i64 a0_0, .slice A0_1 l0_1.length c0_1]) (t := 41) ?_; intro gb628 hg w7 hbox hb; refine E4b HB.1 hg hbox hb ?_; clear HB; intro HB BK628 GW628 GE628; clear hb hbox hg; obtain ⟨hcz8_0, hcz8_1, hfz8_0, hfz8_1⟩ := cz2 BK628.1) | ((with_reducible refine gate_callee (f := 33) rfl ?_); refine goesM (N := (some 8)) #[.slice A0_1 l0_1.length c0_1, .int .i64 a1] Try.func33 ?_; (with_reducible refine (laws_heldIntS.calls k _ _ l0_1 a1 t629 _ ?side1 ?side2 A3.1).mono ?_); (case side1 => exact CB (C_below HR0_1.1 HB.1)); (case side2 => exact HC0_1.1); rintro e w' ⟨rfl, ⟨nd, rfl⟩⟩; refine ⟨_, rfl, ?_⟩))
 go_ret
 exact ⟨RF, BL HB.1⟩
/-! ### laws_FnExactTableOf: function 10 -/
open Kd
mutual
def laws_FnExactTableOf.j0 : Nat -> Bool -> Bool -> Bool -> Int -> List (S86) -> Int -> Int -> List Int -> Int -> List (S63) -> Int -> Int -> List Int -> Option (Bool)
 | 0, _, _, _, _, _, _, _, _, _, _, _, _, _ => none
 | k + 1, x5, x8, x40, x631000, x631001, x631002, x643000, x643001, x649000, x649001, x649002, x655000, x655001 => if x40 = true then (some false) else ((laws_toDiagram.f k x631000 x631001 x631002).bind fun bt656 => ((laws_eqDiagram.f k x649000 x649001 x649002 bt656.1 bt656.2.1 bt656.2.2).bind fun t661 => (if t661 = true then ((laws_markDiagram.f k x649000 x649001 x649002 1).bind fun bt662 => (if bt662.1 < 0 then (laws_FnExactTableOf.j1 k x5 true x631000 x631001 x631002 x643000 x643001 x655000 x655001) else ((laws_eqTable.f k x655000 x655001 x643000 x643001).bind fun t664 => (if t664 = true then (laws_FnExactTableOf.j1 k x5 (x8 != x5) x631000 x631001 x631002 x643000 x643001 x655000 x655001) else (laws_FnExactTableOf.j1 k x5 true x631000 x631001 x631002 x643000 x643001 x655000 x655001))))) else (some false))))
def laws_FnExactTableOf.j1 : Nat -> Bool -> Bool -> Int -> List (S86) -> Int -> Int -> List Int -> Int -> List Int -> Option (Bool)
 | 0, _, _, _, _, _, _, _, _, _ => none
 | k + 1, x5, x61, x631000, x631001, x631002, x643000, x643001, x655000, x655001 => if x61 = true then (some false) else ((laws_markTable.f k x655000 x655001 1).bind fun bt665 => ((laws_heldTable.f k x655000 bt665.2 1).bind fun t667 => (if t667 < 0 then (some false) else (if t667 = bt665.1 then ((laws_toDiagram.f k x631000 x631001 x631002).bind fun bt668 => ((impl_TableOf.f k bt668.1 bt668.2.1 bt668.2.2).bind fun bt673 => ((laws_eqTable.f k bt673.1 bt673.2.1 x643000 x643001).bind fun t679 => (if t679 = true then (laws_FnExactTableOf.j2 k bt665.1 (bt673.2.2 != x5) x655000 bt665.2) else (laws_FnExactTableOf.j2 k bt665.1 true x655000 bt665.2))))) else (some false)))))
def laws_FnExactTableOf.j2 : Nat -> Int -> Bool -> Int -> List Int -> Option (Bool)
 | 0, _, _, _, _ => none
 | k + 1, x10, x87, x655000, x655001 => if x87 = true then (some false) else ((laws_heldTable.f k x655000 x655001 1).bind fun t680 => (if t680 < 0 then (some false) else (if t680 = x10 then (some true) else (some false))))
end
def laws_FnExactTableOf.f (k : Nat) (a0_0 : Int) (l0_1 : List (S86)) (a0_2 : Int) : Option (Bool) := (laws_szDiagram.f a0_0 l0_1 a0_2 1048576).bind fun t631 => (if t631 < 0 then (some true) else ((laws_toDiagram.f k a0_0 l0_1 a0_2).bind fun bt632 => ((spec_TableOf.f k bt632.1 bt632.2.1 bt632.2.2).bind fun bt637 => ((laws_toDiagram.f k a0_0 l0_1 a0_2).bind fun bt643 => ((impl_TableOf.f k bt643.1 bt643.2.1 bt643.2.2).bind fun bt649 => ((laws_eqTable.f k bt649.1 bt649.2.1 bt637.1 bt637.2.1).bind fun t655 => (if t655 = true then (laws_FnExactTableOf.j0 k bt637.2.2 bt649.2.2 (bt649.2.2 != bt637.2.2) a0_0 l0_1 a0_2 bt637.1 bt637.2.1 bt643.1 bt643.2.1 bt643.2.2 bt649.1 bt649.2.1) else (laws_FnExactTableOf.j0 k bt637.2.2 bt649.2.2 true a0_0 l0_1 a0_2 bt637.1 bt637.2.1 bt643.1 bt643.2.1 bt643.2.2 bt649.1 bt649.2.1))))))))
theorem laws_FnExactTableOf.mono_l : ∀ k, (∀ y0 y1 y2 y3 y4 y5 y6 y7 y8 y9 y10 y11 y12, LeO (laws_FnExactTableOf.j0 k y0 y1 y2 y3 y4 y5 y6 y7 y8 y9 y10 y11 y12) (laws_FnExactTableOf.j0 (k + 1) y0 y1 y2 y3 y4 y5 y6 y7 y8 y9 y10 y11 y12)) /\ (∀ y0 y1 y2 y3 y4 y5 y6 y7 y8, LeO (laws_FnExactTableOf.j1 k y0 y1 y2 y3 y4 y5 y6 y7 y8) (laws_FnExactTableOf.j1 (k + 1) y0 y1 y2 y3 y4 y5 y6 y7 y8)) /\ (∀ y0 y1 y2 y3, LeO (laws_FnExactTableOf.j2 k y0 y1 y2 y3) (laws_FnExactTableOf.j2 (k + 1) y0 y1 y2 y3))
 | 0 => by refine ⟨?_, ?_, ?_⟩ <;> (intros; intro r h; first | (simp [laws_FnExactTableOf.j0] at h; done) | (simp [laws_FnExactTableOf.j1] at h; done) | (simp [laws_FnExactTableOf.j2] at h; done))
 | k + 1 => by
  obtain ⟨ih0, ih1, ih2⟩ := laws_FnExactTableOf.mono_l k
  refine ⟨?_, ?_, ?_⟩ <;> (
   intros
   first | unfold laws_FnExactTableOf.j0 | unfold laws_FnExactTableOf.j1 | unfold laws_FnExactTableOf.j2
   repeat' first | (with_reducible first | apply ih0 | apply ih1 | apply ih2 | apply impl_TableOf.mono | apply laws_eqDiagram.mono | apply laws_eqTable.mono | apply laws_heldTable.mono | apply laws_markDiagram.mono | apply laws_markTable.mono | apply laws_toDiagram.mono | apply spec_TableOf.mono | exact LeO.refl _ | exact LeO.none _ | refine LeO.ite ?_ ?_ | refine LeO.bind ?_ (fun _ => ?_)) | exact LeO.none _ | refine LeO.ite ?_ ?_ | refine LeO.bind ?_ (fun _ => ?_))
theorem laws_FnExactTableOf.mono : ∀ a0 a1 a2 k, LeO (laws_FnExactTableOf.f k a0 a1 a2) (laws_FnExactTableOf.f (k + 1) a0 a1 a2) := by
 intro a0 a1 a2 k
 obtain ⟨ih0, ih1, ih2⟩ := laws_FnExactTableOf.mono_l k
 unfold laws_FnExactTableOf.f
 repeat' first | (with_reducible first | apply ih0 | apply ih1 | apply ih2 | apply impl_TableOf.mono | apply laws_eqDiagram.mono | apply laws_eqTable.mono | apply laws_heldTable.mono | apply laws_markDiagram.mono | apply laws_markTable.mono | apply laws_toDiagram.mono | apply spec_TableOf.mono | exact LeO.refl _ | exact LeO.none _ | refine LeO.ite ?_ ?_ | refine LeO.bind ?_ (fun _ => ?_)) | exact LeO.none _ | refine LeO.ite ?_ ?_ | refine LeO.bind ?_ (fun _ => ?_)
set_option maxHeartbeats 8000000 in
set_option maxRecDepth 100000 in
theorem laws_FnExactTableOf.calls (k : Nat) (a0_0 : Int) (A0_1 : Option Addr) (c0_1 : Nat) (l0_1 : List (S86)) (a0_2 : Int) (w : World) (hr0_1 : Kd.C k86 w A0_1 l0_1.length l0_1) (hc0_1 : l0_1.length <= c0_1) (h : laws_FnExactTableOf.f k a0_0 l0_1 a0_2 = some true) :
 Calls Try.prog 10 #[.agg #[.int .i64 a0_0, .slice A0_1 l0_1.length c0_1, .int .i64 a0_2]] w fun e w' => e = .returned (.bool true) /\ Below w.heap.size w w' := by
 have hu24 := Try.underlying24
 have hu41 := Try.underlying41
 have hu29 := Try.underlying29
 have HR0_1 := Aside0.mk hr0_1
 have HC0_1 := Aside0.mk hc0_1
 clear hr0_1 hc0_1
 have HB := Aside0.mk (Below.refl w.heap.size w)
 have H := h
 clear h
 unfold laws_FnExactTableOf.f at H
 replace H := bindA H; obtain ⟨t631, A2, H⟩ := H
 replace H := ifB H; rcases H with ⟨c3b0, H⟩ | ⟨c3b0, H⟩
 · first | (obtain rfl := Option.some.inj H) | clear H
   go_enter Try.func10, Try.ntmps10
   go_wp2_with (first | ((with_reducible refine gate_dst (N := 1) rfl ?_); refine boxE (cs := #[.int .i64 a0_0, .slice A0_1 l0_1.length c0_1, .int .i64 a0_2]) (t := 24) ?_; intro gb630 hg w4 hbox hb; refine E4b HB.1 hg hbox hb ?_; clear HB; intro HB BK630 GW630 GE630; clear hb hbox hg; obtain ⟨hcz5_0, hcz5_1, hcz5_2, hfz5_0, hfz5_1, hfz5_2⟩ := cz3 BK630.1) | ((with_reducible refine gate_callee (f := 12) rfl ?_); refine goesM (N := (some 16)) #[.agg #[.int .i64 a0_0, .slice A0_1 l0_1.length c0_1, .int .i64 a0_2], .int .i64 1048576] Try.func12 ?_; (with_reducible refine (laws_szDiagram.calls a0_0 _ _ l0_1 a0_2 1048576 t631 _ ?side1 ?side2 A2.1).mono ?_); (case side1 => exact CB (C_below HR0_1.1 HB.1)); (case side2 => exact HC0_1.1); rintro e w6 ⟨rfl, hb⟩; refine ⟨_, rfl, ?_⟩; refine E2 (bB BK630.1 hb) (bS HB.1 hb) ?_; clear BK630 HB; intro BK630 HB; (try clear hb)))
   go_ret
   exact ⟨RF, BL HB.1⟩
 replace H := bindA H; obtain ⟨⟨t632, t633, t636⟩, A7, H⟩ := H
 dsimp only at H
 replace H := bindA H; obtain ⟨⟨t637, t638, t641⟩, A8, H⟩ := H
 dsimp only at H
 replace H := bindA H; obtain ⟨⟨t643, t644, t647⟩, A9, H⟩ := H
 dsimp only at H
 replace H := bindA H; obtain ⟨⟨t649, t650, t653⟩, A10, H⟩ := H
 dsimp only at H
 have HC11 := Aside0.mk H
 clear H
 go_enter Try.func10, Try.ntmps10
 go_upto_region 8 with (first | ((with_reducible refine gate_dst (N := 1) rfl ?_); refine boxE (cs := #[.int .i64 a0_0, .slice A0_1 l0_1.length c0_1, .int .i64 a0_2]) (t := 24) ?_; intro gb630 hg w12 hbox hb; refine E4b HB.1 hg hbox hb ?_; clear HB; intro HB BK630 GW630 GE630; clear hb hbox hg; obtain ⟨hcz13_0, hcz13_1, hcz13_2, hfz13_0, hfz13_1, hfz13_2⟩ := cz3 BK630.1) | ((with_reducible refine gate_callee (f := 12) rfl ?_); refine goesM (N := (some 16)) #[.agg #[.int .i64 a0_0, .slice A0_1 l0_1.length c0_1, .int .i64 a0_2], .int .i64 1048576] Try.func12 ?_; (with_reducible refine (laws_szDiagram.calls a0_0 _ _ l0_1 a0_2 1048576 t631 _ ?side1 ?side2 A2.1).mono ?_); (case side1 => exact CB (C_below HR0_1.1 HB.1)); (case side2 => exact HC0_1.1); rintro e w14 ⟨rfl, hb⟩; refine ⟨_, rfl, ?_⟩; refine E2 (bB BK630.1 hb) (bS HB.1 hb) ?_; clear BK630 HB; intro BK630 HB; (try clear hb); obtain ⟨hcz15_0, hcz15_1, hcz15_2, hfz15_0, hfz15_1, hfz15_2⟩ := cz3 BK630.1) | ((with_reducible refine gate_callee (f := 14) rfl ?_); refine goesM (N := (some 21)) #[.agg #[.int .i64 a0_0, .slice A0_1 l0_1.length c0_1, .int .i64 a0_2]] Try.func14 ?_; (with_reducible refine (laws_toDiagram.calls k a0_0 _ _ l0_1 a0_2 t632 t633 t636 _ ?side1 ?side2 A7.1).mono ?_); (case side1 => exact CB (C_below HR0_1.1 HB.1)); (case side2 => exact HC0_1.1); rintro e w16 ⟨v634, rfl, ho0, hb⟩; refine ⟨_, rfl, ?_⟩; refine E3 (R_lower ho0 (bZ HB.1)) (bB BK630.1 hb) (bS HB.1 hb) ?_; clear BK630 HB; intro HO635 BK630 HB; (try clear hb); (try clear ho0); obtain ⟨Ao17, co17, eo17⟩ := R_slice HO635.1; subst eo17) | ((with_reducible refine gate_callee (f := 39) rfl ?_); refine goesM (N := (some 22)) #[.agg #[.int .i64 t632, .slice Ao17 t633.length co17, .int .i64 t636]] Try.func39 ?_; (with_reducible refine (spec_TableOf.calls k t632 _ _ t633 t636 t637 t638 t641 _ ?side1 ?side2 A8.1).mono ?_); (case side1 => exact CB (R_reads' HO635.1).2.2); (case side2 => exact (R_reads' HO635.1).2.1); rintro e w18 ⟨v639, rfl, ho0, hb⟩; refine ⟨_, rfl, ?_⟩; refine E4 (rB HO635.1 hb) (R_lower ho0 (bZ HB.1)) (bB BK630.1 hb) (bS HB.1 hb) ?_; clear HO635 BK630 HB; intro HO635 HO640 BK630 HB; (try clear hb); (try clear ho0)) | ((with_reducible refine gate_dst (N := 4) rfl ?_); refine boxE (cs := #[.int .i64 0, .slice none 0 0]) (t := 41) ?_; intro gb642 hg w19 hbox hb; refine E9 (rB HO635.1 hb) (rB HO640.1 hb) (bB BK630.1 hb) (bS HB.1 hb) (hbox) (gX HB.1 hg) (gX HB.1 hg) (nB BK630.1 hg) (nC BK630.1 hg) ?_; clear HO635 HO640 BK630 HB; intro HO635 HO640 BK630 HB BK642 GW642 GE642 NB630_642 NB642_630; clear hb hbox hg; have hnb20 := NB642_630.1; have hnc20 := NB630_642.1; obtain ⟨hcz21_0, hcz21_1, hfz21_0, hfz21_1⟩ := cz2 BK642.1; obtain ⟨Ao22, co22, eo22⟩ := R_slice HO640.1; subst eo22; obtain ⟨hcz23_0, hcz23_1, hcz23_2, hfz23_0, hfz23_1, hfz23_2⟩ := cz3 BK630.1) | ((with_reducible refine gate_callee (f := 14) rfl ?_); refine goesM (N := (some 26)) #[.agg #[.int .i64 a0_0, .slice A0_1 l0_1.length c0_1, .int .i64 a0_2]] Try.func14 ?_; (with_reducible refine (laws_toDiagram.calls k a0_0 _ _ l0_1 a0_2 t643 t644 t647 _ ?side1 ?side2 A9.1).mono ?_); (case side1 => exact C_below HR0_1.1 (BL HB.1)); (case side2 => exact HC0_1.1); rintro e w24 ⟨v645, rfl, ho0, hb⟩; refine ⟨_, rfl, ?_⟩; refine E6 (R_elder' (by (with_reducible repeat (first | apply R_alloc | apply R_drewN | apply R_drew)); exact (R_mono (RQ gb642 1 (RQ gb642 0 (R_types HO635.1 BK642.1 (by decide)) _) _) (fun _ h_ => h_.1))) (R_base ho0) hb) (R_below (by (with_reducible repeat (first | apply R_alloc | apply R_drewN | apply R_drew)); exact (R_mono (RQ gb642 1 (RQ gb642 0 (R_types HO640.1 BK642.1 (by decide)) _) _) (fun _ h_ => h_.1))) hb) (R_lower (R_new' ho0 (R_lt (by (with_reducible repeat (first | apply R_alloc | apply R_drewN | apply R_drew)); exact (R_mono (RQ gb642 1 (RQ gb642 0 (R_types HO635.1 BK642.1 (by decide)) _) _) (fun _ h_ => h_.1))))) (bZ HB.1)) (blk_below (g := gb630) (o := .cells #[.int .i64 a0_0, .slice A0_1 l0_1.length c0_1, .int .i64 a0_2] 24 (0, 0)) (PF1 NB630_642.1 BK630.1) hb) (blk_below (g := gb642) (o := .cells #[.int .i64 t637, .slice Ao22 t638.length co22] 41 (0, 0)) (PF0 BK642.1) hb) (bS HB.1 hb) ?_; clear HO635 HO640 BK630 BK642 HB; intro HO635 HO640 HO646 BK630 BK642 HB; (try clear hb); (try clear ho0)) | ((with_reducible refine gate_dst (N := 6) rfl ?_); refine boxE (cs := #[.int .i64 0, .slice none 0 0, .int .i64 0]) (t := 29) ?_; intro gb648 hg w25 hbox hb; refine E13 (rB HO635.1 hb) (rB HO640.1 hb) (rB HO646.1 hb) (bB BK630.1 hb) (bB BK642.1 hb) (bS HB.1 hb) (hbox) (gX HB.1 hg) (gX HB.1 hg) (nB BK630.1 hg) (nC BK630.1 hg) (nB BK642.1 hg) (nC BK642.1 hg) ?_; clear HO635 HO640 HO646 BK630 BK642 HB; intro HO635 HO640 HO646 BK630 BK642 HB BK648 GW648 GE648 NB630_648 NB648_630 NB642_648 NB648_642; clear hb hbox hg; have hnb26 := NB648_630.1; have hnc26 := NB630_648.1; have hnb27 := NB648_642.1; have hnc27 := NB642_648.1; obtain ⟨hcz28_0, hcz28_1, hcz28_2, hfz28_0, hfz28_1, hfz28_2⟩ := cz3 BK648.1; obtain ⟨Ao29, co29, eo29⟩ := R_slice HO646.1; subst eo29) | ((with_reducible refine gate_callee (f := 40) rfl ?_); refine goesM (N := (some 29)) #[.agg #[.int .i64 t643, .slice Ao29 t644.length co29, .int .i64 t647]] Try.func40 ?_; (with_reducible refine (impl_TableOf.calls k t643 _ _ t644 t647 t649 t650 t653 _ ?side1 ?side2 A10.1).mono ?_); (case side1 => refine (R_reads' (e := 63) (base := w.heap.size) (ok := fun k_ => (True /\ some k_ ≠ (.slice Ao17 t633.length co17 : Value).ownBlock)) (n := t644.length) (c := co29) ?_).2.2; exact (by (with_reducible repeat (first | apply R_alloc | apply R_drewN | apply R_drew)); exact (R_mono (RQ gb648 2 (RQ gb648 1 (RQ gb648 0 (R_types HO646.1 BK648.1 (by decide)) _) _) _) (fun _ h_ => h_.1)))); (case side2 => exact (R_reads' HO646.1).2.1); rintro e w30 ⟨v651, rfl, ho0, hb⟩; refine ⟨_, rfl, ?_⟩; refine E8 (R_below (by (with_reducible repeat (first | apply R_alloc | apply R_drewN | apply R_drew)); exact (R_mono (RQ gb648 2 (RQ gb648 1 (RQ gb648 0 (R_types HO635.1 BK648.1 (by decide)) _) _) _) (fun _ h_ => h_.1))) hb) (R_elder' (by (with_reducible repeat (first | apply R_alloc | apply R_drewN | apply R_drew)); exact (R_mono (RQ gb648 2 (RQ gb648 1 (RQ gb648 0 (R_types HO640.1 BK648.1 (by decide)) _) _) _) (fun _ h_ => h_.1))) (R_base ho0) hb) (R_below (by (with_reducible repeat (first | apply R_alloc | apply R_drewN | apply R_drew)); exact (R_mono (RQ gb648 2 (RQ gb648 1 (RQ gb648 0 (R_types HO646.1 BK648.1 (by decide)) _) _) _) (fun _ h_ => h_.1))) hb) (R_lower (R_new' ho0 (R_lt (by (with_reducible repeat (first | apply R_alloc | apply R_drewN | apply R_drew)); exact (R_mono (RQ gb648 2 (RQ gb648 1 (RQ gb648 0 (R_types HO640.1 BK648.1 (by decide)) _) _) _) (fun _ h_ => h_.1))))) (bZ HB.1)) (blk_below (g := gb630) (o := .cells #[.int .i64 a0_0, .slice A0_1 l0_1.length c0_1, .int .i64 a0_2] 24 (0, 0)) (PF1 NB630_648.1 BK630.1) hb) (blk_below (g := gb642) (o := .cells #[.int .i64 t637, .slice Ao22 t638.length co22] 41 (0, 0)) (PF1 NB642_648.1 BK642.1) hb) (blk_below (g := gb648) (o := .cells #[.int .i64 t643, .slice Ao29 t644.length co29, .int .i64 t647] 29 (0, 0)) (PF0 BK648.1) hb) (bS HB.1 hb) ?_; clear HO635 HO640 HO646 BK630 BK642 BK648 HB; intro HO635 HO640 HO646 HO652 BK630 BK642 BK648 HB; (try clear hb); (try clear ho0)) | ((with_reducible refine gate_dst (N := 7) rfl ?_); refine boxE (cs := #[.int .i64 0, .slice none 0 0]) (t := 41) ?_; intro gb654 hg w31 hbox hb; refine E17 (rB HO635.1 hb) (rB HO640.1 hb) (rB HO646.1 hb) (rB HO652.1 hb) (bB BK630.1 hb) (bB BK642.1 hb) (bB BK648.1 hb) (bS HB.1 hb) (hbox) (gX HB.1 hg) (gX HB.1 hg) (nB BK630.1 hg) (nC BK630.1 hg) (nB BK642.1 hg) (nC BK642.1 hg) (nB BK648.1 hg) (nC BK648.1 hg) ?_; clear HO635 HO640 HO646 HO652 BK630 BK642 BK648 HB; intro HO635 HO640 HO646 HO652 BK630 BK642 BK648 HB BK654 GW654 GE654 NB630_654 NB654_630 NB642_654 NB654_642 NB648_654 NB654_648; clear hb hbox hg; have hnb32 := NB654_630.1; have hnc32 := NB630_654.1; have hnb33 := NB654_642.1; have hnc33 := NB642_654.1; have hnb34 := NB654_648.1; have hnc34 := NB648_654.1; obtain ⟨hcz35_0, hcz35_1, hfz35_0, hfz35_1⟩ := cz2 BK654.1; obtain ⟨Ao36, co36, eo36⟩ := R_slice HO652.1; subst eo36))
 (try simp only [Act.put, List.setIfInBounds_toArray, List.set_cons_zero, List.set_cons_succ])
 go_cut [40] (fun v40 wc => ∃ (kq : Nat) (x40_10 : Bool), v40 = .bool x40_10 /\ Aside0 (laws_FnExactTableOf.j0 kq t641 t653 x40_10 a0_0 l0_1 a0_2 t637 t638 t643 t644 t647 t649 t650 = some true) /\ Aside0 (kq <= k) /\ Aside0 (Kd.R (Kd.int .i64) 3 wc w.heap.size (fun k_ => some k_ ≠ ((.slice Ao36 t650.length co36) : Value).ownBlock) (.slice Ao22 t638.length co22) t638) /\ Aside0 (Kd.R k63 63 wc w.heap.size (fun _ => True) (.slice Ao29 t644.length co29) t644) /\ Aside0 (Kd.R (Kd.int .i64) 3 wc w.heap.size (fun k_ => some k_ ≠ ((.slice Ao22 t638.length co22) : Value).ownBlock) (.slice Ao36 t650.length co36) t650) /\ Aside0 (wc.heap[gb630]? = some (.cells #[.int .i64 a0_0, (.slice A0_1 l0_1.length c0_1), .int .i64 a0_2] 24 (0, 0))) /\ Aside0 (wc.heap[gb642]? = some (.cells #[.int .i64 t637, (.slice Ao22 t638.length co22)] 41 (0, 0))) /\ Aside0 (wc.heap[gb648]? = some (.cells #[.int .i64 t643, (.slice Ao29 t644.length co29), .int .i64 t647] 29 (0, 0))) /\ Aside0 (wc.heap[gb654]? = some (.cells #[.int .i64 t649, (.slice Ao36 t650.length co36)] 41 (0, 0))) /\ Aside0 (Below w.heap.size w wc))
 case first =>
  have H := HC11.1
  clear HC11
  replace H := bindA H; obtain ⟨t655, A37, H⟩ := H
  replace H := ifT H (by cases k <;> simp [laws_FnExactTableOf.j0]); obtain ⟨rfl, H⟩ := H
  have H' := Aside0.mk H
  clear H
  obtain ⟨hcz42_0, hcz42_1, hfz42_0, hfz42_1⟩ := cz2 BK654.1
  obtain ⟨hcz45_0, hcz45_1, hfz45_0, hfz45_1⟩ := cz2 BK642.1
  go_wp2_with (first | ((with_reducible refine gate_callee (f := 23) rfl ?_); refine goesM (N := (some 34)) #[.agg #[.int .i64 t649, .slice Ao36 t650.length co36], .agg #[.int .i64 t637, .slice Ao22 t638.length co22]] Try.func23 ?_; (with_reducible refine (laws_eqTable.calls k t649 _ _ t650 t637 _ _ t638 true _ ?side1 ?side2 ?side3 ?side4 A37.1).mono ?_); (case side1 => refine (R_reads' (e := 3) (base := w.heap.size) (ok := fun k_ => (True /\ some k_ ≠ (.slice Ao22 t638.length co22 : Value).ownBlock)) (n := t650.length) (c := co36) ?_).2.2; exact (by (with_reducible repeat (first | apply R_alloc | apply R_drewN | apply R_drew)); exact (R_mono (RQ gb654 1 (RQ gb654 0 (R_types HO652.1 BK654.1 (by decide)) _) _) (fun _ h_ => h_.1)))); (case side2 => exact (R_reads' HO652.1).2.1); (case side3 => refine (R_reads' (e := 3) (base := w.heap.size) (ok := fun k_ => (True /\ some k_ ≠ (.slice Ao36 t650.length co36 : Value).ownBlock)) (n := t638.length) (c := co22) ?_).2.2; exact (by (with_reducible repeat (first | apply R_alloc | apply R_drewN | apply R_drew)); exact (R_mono (RQ gb654 1 (RQ gb654 0 (R_types HO640.1 BK654.1 (by decide)) _) _) (fun _ h_ => h_.1)))); (case side4 => exact (R_reads' HO640.1).2.1); rintro e w46 ⟨rfl, hb⟩; refine ⟨_, rfl, ?_⟩; refine E9 (R_below (by (with_reducible repeat (first | apply R_alloc | apply R_drewN | apply R_drew)); exact (R_mono (RQ gb654 1 (RQ gb654 0 (R_types HO635.1 BK654.1 (by decide)) _) _) (fun _ h_ => h_.1))) hb) (R_below (by (with_reducible repeat (first | apply R_alloc | apply R_drewN | apply R_drew)); exact (R_mono (RQ gb654 1 (RQ gb654 0 (R_types HO640.1 BK654.1 (by decide)) _) _) (fun _ h_ => h_.1))) hb) (R_below (by (with_reducible repeat (first | apply R_alloc | apply R_drewN | apply R_drew)); exact (R_mono (RQ gb654 1 (RQ gb654 0 (R_types HO646.1 BK654.1 (by decide)) _) _) (fun _ h_ => h_.1))) hb) (R_below (by (with_reducible repeat (first | apply R_alloc | apply R_drewN | apply R_drew)); exact (R_mono (RQ gb654 1 (RQ gb654 0 (R_types HO652.1 BK654.1 (by decide)) _) _) (fun _ h_ => h_.1))) hb) (blk_below (g := gb630) (o := .cells #[.int .i64 a0_0, .slice A0_1 l0_1.length c0_1, .int .i64 a0_2] 24 (0, 0)) (PF1 NB630_654.1 BK630.1) hb) (blk_below (g := gb642) (o := .cells #[.int .i64 t637, .slice Ao22 t638.length co22] 41 (0, 0)) (PF1 NB642_654.1 BK642.1) hb) (blk_below (g := gb648) (o := .cells #[.int .i64 t643, .slice Ao29 t644.length co29, .int .i64 t647] 29 (0, 0)) (PF1 NB648_654.1 BK648.1) hb) (blk_below (g := gb654) (o := .cells #[.int .i64 t649, .slice Ao36 t650.length co36] 41 (0, 0)) (PF0 BK654.1) hb) (bS HB.1 hb) ?_; clear HO635 HO640 HO646 HO652 BK630 BK642 BK648 BK654 HB; intro HO635 HO640 HO646 HO652 BK630 BK642 BK648 BK654 HB; (try clear hb)))
  go_meet
  case rel => exact ⟨_, ((t653 != t641)), RG, H', ⟨by first | omega | exact Nat.le_refl _⟩, ⟨RPE (R_mono HO640.1 (fun _ hk => hk.2))⟩, ⟨RPE (R_mono HO646.1 (fun _ hk => trivial))⟩, ⟨RPE (R_mono HO652.1 (fun _ hk => hk.2))⟩, ⟨PB BK630.1⟩, ⟨PB BK642.1⟩, ⟨PB BK648.1⟩, ⟨PB BK654.1⟩, ⟨BL HB.1⟩⟩
 clear HC11
 clear c3b0 hcz13_0 hcz13_1 hcz13_2 hcz15_0 hcz15_1 hcz15_2 hcz21_0 hcz21_1 hcz23_0 hcz23_1 hcz23_2 hcz28_0 hcz28_1 hcz28_2 hcz35_0 hcz35_1 hfz13_0 hfz13_1 hfz13_2 hfz15_0 hfz15_1 hfz15_2 hfz21_0 hfz21_1 hfz23_0 hfz23_1 hfz23_2 hfz28_0 hfz28_1 hfz28_2 hfz35_0 hfz35_1
 obtain ⟨kq, x40_10, rfl, HA, HJ10, HO_643001, HO_649001, HO_655001, BK630, BK642, BK648, BK654, HB⟩ := hcut
 cases kq with
 | zero => exact absurd HA.1 (by simp [laws_FnExactTableOf.j0])
 | succ kj10 => ?_
 have H := HA.1
 clear HA
 simp only [laws_FnExactTableOf.j0] at H
 replace H := ifF H (by simp); obtain ⟨rfl, H⟩ := H
 replace H := bindA H; obtain ⟨⟨t656, t657, t660⟩, A56, H⟩ := H
 dsimp only at H
 replace H := bindA H; obtain ⟨t661, A57, H⟩ := H
 replace H := ifT H (by simp); obtain ⟨rfl, H⟩ := H
 replace H := bindA H; obtain ⟨⟨t662, t663⟩, A59, H⟩ := H
 dsimp only at H
 have HC60 := Aside0.mk H
 clear H
 try go_wp2
 refine E8 (R_drew HO_643001.1) (R_drew HO_649001.1) (R_drew HO_655001.1) (blk_drew BK630.1) (blk_drew BK642.1) (blk_drew BK648.1) (blk_drew BK654.1) (below_drew1 HB.1) ?_
 clear HO_643001 HO_649001 HO_655001 BK630 BK642 BK648 BK654 HB
 intro HO_643001 HO_649001 HO_655001 BK630 BK642 BK648 BK654 HB
 refine start_ (n := 5) (S := fun w' => w'.cell? ⟨gb648, 0, none⟩ = some (.int .i64 t643) /\ w'.cell? ⟨gb648, 1, none⟩ = some (.slice Ao29 t644.length co29) /\ w'.cell? ⟨gb648, 2, none⟩ = some (.int .i64 t647) /\ w'.cell? ⟨gb630, 0, none⟩ = some (.int .i64 a0_0) /\ w'.cell? ⟨gb630, 1, none⟩ = some (.slice A0_1 l0_1.length c0_1) /\ w'.cell? ⟨gb630, 2, none⟩ = some (.int .i64 a0_2)) (ds := []) #[Zz,Zz,Zz,Zz,Zz] (by kernel_rfl) rfl rfl ⟨(blk_cell BK648.1 0).trans rfl, (blk_cell BK648.1 1).trans rfl, (blk_cell BK648.1 2).trans rfl, (blk_cell BK630.1 0).trans rfl, (blk_cell BK630.1 1).trans rfl, (blk_cell BK630.1 2).trans rfl⟩ (fun hHeld => ?_)
 generalize wc.drew = w61 at HO_643001 HO_649001 HO_655001 BK630 BK642 BK648 BK654 HB hHeld ⊢
 refine takeF 0 (N := some 41) hHeld ?_
 refine takeF 1 (N := some 42) hHeld ?_
 refine one_ (i := 2) (N := some 43) #[Yy,Yy,Yy,Zz,Zz] rfl rfl (by kernel_rfl) (by decide) (fun K hK => ?_)
 refine goes_ Try.func14 (by kernel_rfl) rfl #[.agg #[.int .i64 a0_0, .slice A0_1 l0_1.length c0_1, .int .i64 a0_2]] (by rfl) rfl rfl (by (try simp only [List.map_toArray, List.map_cons, List.map_nil]); first | done | rfl | (simp only [List.length_drop, List.length_take]; rfl)) ?_
 with_reducible refine (laws_toDiagram.calls kj10 a0_0 _ _ l0_1 a0_2 t656 t657 t660 _ ?side1 ?side2 A56.1).mono ?_
 (case side1 => exact CB (C_below HR0_1.1 HB.1))
 (case side2 => exact HC0_1.1)
 rintro e w62 ⟨v658, rfl, ho0, hb⟩
 refine ⟨_, rfl, ?_⟩
 refine E9 (rB HO_643001.1 hb) (R_elder' (PR HO_649001.1) (R_base ho0) hb) (rB HO_655001.1 hb) (R_lower (R_new' ho0 (R_lt (PR HO_649001.1))) (bZ HB.1)) (bB BK630.1 hb) (bB BK642.1 hb) (bB BK648.1 hb) (bB BK654.1 hb) (bS HB.1 hb) ?_
 clear HO_643001 HO_649001 HO_655001 BK630 BK642 BK648 BK654 HB
 intro HO_643001 HO_649001 HO_655001 HO659 BK630 BK642 BK648 BK654 HB
 (try clear hb)
 (try clear hb2)
 (try clear hk)
 (try clear hi)
 (try clear ho0)
 obtain ⟨Ao63, co63, eo63⟩ := R_slice HO659.1
 (first | subst eo63 | (injection eo63 with f1_ f2_ f3_; have f4_ := f1_.symm; have f5_ := f3_.symm; clear f1_ f2_ f3_; subst f4_; subst f5_))
 refine hK.out _ _ ⟨(blk_cell BK648.1 0).trans rfl, (blk_cell BK648.1 1).trans rfl, (blk_cell BK648.1 2).trans rfl, (blk_cell BK630.1 0).trans rfl, (blk_cell BK630.1 1).trans rfl, (blk_cell BK630.1 2).trans rfl⟩ (fun hHeld => ?_)
 clear hK K
 refine norm_ (a' := ?_) ?_ ?_
 rotate_left
 · show Act.put _ (some 43) _ = _
   simp only [Act.put, List.setIfInBounds_toArray, List.set_cons_zero, List.set_cons_succ, i64_w, i32_w]
   rfl
 refine one_ (i := 3) (N := some 44) #[Yy,Yy,Yy,Yy,Zz] rfl rfl (by kernel_rfl) (by decide) (fun K hK => ?_)
 refine goes_ Try.func16 (by kernel_rfl) rfl #[.agg #[.int .i64 t643, .slice Ao29 t644.length co29, .int .i64 t647], .agg #[.int .i64 t656, .slice Ao63 t657.length co63, .int .i64 t660]] (by rfl) rfl rfl (by (try simp only [List.map_toArray, List.map_cons, List.map_nil]); first | done | rfl | (simp only [List.length_drop, List.length_take]; rfl)) ?_
 with_reducible refine (laws_eqDiagram.calls kj10 t643 _ _ t644 t647 t656 _ _ t657 t660 true _ ?side1 ?side2 ?side3 ?side4 A57.1).mono ?_
 (case side1 => exact CB (R_reads' HO_649001.1).2.2)
 (case side2 => exact (R_reads' HO_649001.1).2.1)
 (case side3 => exact CB (R_reads' HO659.1).2.2)
 (case side4 => exact (R_reads' HO659.1).2.1)
 rintro e w64 ⟨rfl, hb⟩
 refine ⟨_, rfl, ?_⟩
 refine E9 (rB HO_643001.1 hb) (rB HO_649001.1 hb) (rB HO_655001.1 hb) (rB HO659.1 hb) (bB BK630.1 hb) (bB BK642.1 hb) (bB BK648.1 hb) (bB BK654.1 hb) (bS HB.1 hb) ?_
 clear HO_643001 HO_649001 HO_655001 HO659 BK630 BK642 BK648 BK654 HB
 intro HO_643001 HO_649001 HO_655001 HO659 BK630 BK642 BK648 BK654 HB
 (try clear hb)
 (try clear hb2)
 (try clear hk)
 (try clear hi)
 refine hK.out _ _ ⟨(blk_cell BK648.1 0).trans rfl, (blk_cell BK648.1 1).trans rfl, (blk_cell BK648.1 2).trans rfl, (blk_cell BK630.1 0).trans rfl, (blk_cell BK630.1 1).trans rfl, (blk_cell BK630.1 2).trans rfl⟩ (fun hHeld => ?_)
 clear hK K
 refine norm_ (a' := ?_) ?_ ?_
 rotate_left
 · show Act.put _ (some 44) _ = _
   simp only [Act.put, List.setIfInBounds_toArray, List.set_cons_zero, List.set_cons_succ, i64_w, i32_w]
   rfl
 refine pure_ (i := 4) (N := some 45) (v := ?_) (a' := ?_) #[Yy,Yy,Yy,Yy,Yy] rfl rfl (by kernel_rfl) (fun _ _ _ h => h) (Or.inl ⟨by rfl, ?_⟩) ?_ ?_
 rotate_left
 · intro w'
   go_simp
   with_reducible rfl
 rotate_left
 · simp only [Act.put, List.setIfInBounds_toArray, List.set_cons_zero, List.set_cons_succ, i64_w, i32_w]
   rfl
 refine done_ (by kernel_rfl) ?_
 obtain ⟨hcz68_0, hcz68_1, hcz68_2, hfz68_0, hfz68_1, hfz68_2⟩ := cz3 BK648.1
 go_upto_region 14 with (first | ((with_reducible refine gate_callee (f := 25) rfl ?_); refine goesM (N := (some 48)) #[.agg #[.int .i64 t643, .slice Ao29 t644.length co29, .int .i64 t647], .int .i64 1] Try.func25 ?_; (with_reducible refine (laws_markDiagram.calls kj10 t643 (fun k_ => some k_ = (.slice Ao29 t644.length co29 : Value).ownBlock) (.slice Ao29 t644.length co29) t644 t647 1 t662 t663 w _ ?side1 ?side2 A59.1).mono ?_); (case side1 => exact BL HB.1); (case side2 => exact R_tight rfl HO_649001.1); rintro e w69 ⟨rfl, hy0, hb, hkp⟩; refine ⟨_, rfl, ?_⟩; refine E9 (R_mono (ok' := fun k_ => some k_ ≠ (.slice Ao36 t650.length co36 : Value).ownBlock) (R_keptB ((R_apart' HO_643001.1 (R_typed HO_649001.1) (by decide))) hkp (fun k_ hk_ hs_ => (hk_.2) hs_)) (fun k_ hk_ => hk_.1.1)) (R_reok rfl hy0 (fun k_ e_ => HO_649001.1.1 k_ e_)) (R_mono (ok' := fun k_ => some k_ ≠ (.slice Ao22 t638.length co22 : Value).ownBlock) (R_keptB ((R_apart' HO_655001.1 (R_typed HO_649001.1) (by decide))) hkp (fun k_ hk_ hs_ => (hk_.2) hs_)) (fun k_ hk_ => hk_.1.1)) (blk_kept (PB BK630.1) hkp (fun hs_ => (fun e_ => (R_ne HO_649001.1 BK630.1 (by decide)) e_) hs_)) (blk_kept (PB BK642.1) hkp (fun hs_ => (fun e_ => (R_ne HO_649001.1 BK642.1 (by decide)) e_) hs_)) (blk_kept (PB BK648.1) hkp (fun hs_ => (fun e_ => (R_ne HO_649001.1 BK648.1 (by decide)) e_) hs_)) (blk_kept (PB BK654.1) hkp (fun hs_ => (fun e_ => (R_ne HO_649001.1 BK654.1 (by decide)) e_) hs_)) (R_mono (ok' := fun k_ => some k_ ≠ (.slice Ao29 t644.length co29 : Value).ownBlock) (R_keptB (HO659.1) hkp (fun k_ hk_ hs_ => (hk_.2) hs_)) (fun k_ hk_ => hk_.1.2)) (hb) ?_; clear HO_643001 HO_649001 HO_655001 BK630 BK642 BK648 BK654 HO659 HB; intro HO_643001 HO_649001 HO_655001 BK630 BK642 BK648 BK654 HO659 HB; (try clear hb); (try clear hkp); (try clear hy0)))
 (try simp only [Act.put, List.setIfInBounds_toArray, List.set_cons_zero, List.set_cons_succ])
 go_cut [61] (fun v61 wc => ∃ (kq : Nat) (x61_59 : Bool), v61 = .bool x61_59 /\ Aside0 (laws_FnExactTableOf.j1 kq t641 x61_59 a0_0 l0_1 a0_2 t637 t638 t649 t650 = some true) /\ Aside0 (kq <= kj10) /\ Aside0 (Kd.R (Kd.int .i64) 3 wc w.heap.size (fun k_ => some k_ ≠ ((.slice Ao36 t650.length co36) : Value).ownBlock) (.slice Ao22 t638.length co22) t638) /\ Aside0 (Kd.R k63 63 wc w.heap.size (fun _ => True) (.slice Ao29 t644.length co29) t663) /\ Aside0 (Kd.R (Kd.int .i64) 3 wc w.heap.size (fun k_ => some k_ ≠ ((.slice Ao22 t638.length co22) : Value).ownBlock) (.slice Ao36 t650.length co36) t650) /\ Aside0 (wc.heap[gb630]? = some (.cells #[.int .i64 a0_0, (.slice A0_1 l0_1.length c0_1), .int .i64 a0_2] 24 (0, 0))) /\ Aside0 (wc.heap[gb642]? = some (.cells #[.int .i64 t637, (.slice Ao22 t638.length co22)] 41 (0, 0))) /\ Aside0 (wc.heap[gb648]? = some (.cells #[.int .i64 t643, (.slice Ao29 t644.length co29), .int .i64 t647] 29 (0, 0))) /\ Aside0 (wc.heap[gb654]? = some (.cells #[.int .i64 t649, (.slice Ao36 t650.length co36)] 41 (0, 0))) /\ Aside0 (Below w.heap.size w wc))
 case first =>
  have H := HC60.1
  clear HC60
  replace H := ifQ H; rcases H with ⟨c70, H⟩ | ⟨c70, H⟩
  · exact absurd H (by cases kj10 <;> simp [laws_FnExactTableOf.j1])
  have c70b0 := decide_eq_false c70
  clear c70
  (first | rw [c70b0] | (simp only [i64_w, i32_w]; rw [c70b0]) | skip)
  replace H := bindA H; obtain ⟨t664, A71, H⟩ := H
  replace H := ifT H (by cases kj10 <;> simp [laws_FnExactTableOf.j1]); obtain ⟨rfl, H⟩ := H
  have H' := Aside0.mk H
  clear H
  obtain ⟨hcz76_0, hcz76_1, hfz76_0, hfz76_1⟩ := cz2 BK654.1
  obtain ⟨hcz79_0, hcz79_1, hfz79_0, hfz79_1⟩ := cz2 BK642.1
  go_wp2_with (first | (go_at_call 23; (with_reducible refine (laws_eqTable.calls kj10 t649 _ _ t650 t637 _ _ t638 true _ ?side1 ?side2 ?side3 ?side4 A71.1).mono ?_); (case side1 => exact CB (R_reads' HO_655001.1).2.2); (case side2 => exact (R_reads' HO_655001.1).2.1); (case side3 => exact CB (R_reads' HO_643001.1).2.2); (case side4 => exact (R_reads' HO_643001.1).2.1); rintro e w80 ⟨rfl, hb⟩; refine E9 (rB HO_643001.1 hb) (rB HO_649001.1 hb) (rB HO_655001.1 hb) (rB HO659.1 hb) (bB BK630.1 hb) (bB BK642.1 hb) (bB BK648.1 hb) (bB BK654.1 hb) (bS HB.1 hb) ?_; clear HO_643001 HO_649001 HO_655001 HO659 BK630 BK642 BK648 BK654 HB; intro HO_643001 HO_649001 HO_655001 HO659 BK630 BK642 BK648 BK654 HB; (try clear hb)))
  go_meet
  case rel => exact ⟨_, ((t653 != t641)), RG, H', ⟨by have := HJ10.1; first | omega | exact Nat.le_refl _⟩, ⟨PR HO_643001.1⟩, ⟨RPE (R_mono HO_649001.1 (fun _ hk => trivial))⟩, ⟨PR HO_655001.1⟩, ⟨PB BK630.1⟩, ⟨PB BK642.1⟩, ⟨PB BK648.1⟩, ⟨PB BK654.1⟩, ⟨BL HB.1⟩⟩
 clear HC60
 clear hcz68_0 hcz68_1 hcz68_2 hfz68_0 hfz68_1 hfz68_2
 obtain ⟨kq, x61_59, rfl, HA, HJ59, HO_643001, HO_649001, HO_655001, BK630, BK642, BK648, BK654, HB⟩ := hcut
 have hl649001_59 := (R_reads' HO_649001.1).1
 rw [hl649001_59] at HO_649001
 (try simp only [hl649001_59])
 (try simp only [hl649001_59] at BK630)
 (try simp only [hl649001_59] at BK642)
 (try simp only [hl649001_59] at BK648)
 (try simp only [hl649001_59] at BK654)
 (try simp only [hl649001_59] at HO_643001)
 (try simp only [hl649001_59] at HO_655001)
 cases kq with
 | zero => exact absurd HA.1 (by simp [laws_FnExactTableOf.j1])
 | succ kj59 => ?_
 have H := HA.1
 clear HA
 simp only [laws_FnExactTableOf.j1] at H
 replace H := ifF H (by simp); obtain ⟨rfl, H⟩ := H
 replace H := bindA H; obtain ⟨⟨t665, t666⟩, A90, H⟩ := H
 dsimp only at H
 replace H := bindA H; obtain ⟨t667, A91, H⟩ := H
 replace H := ifQ H; rcases H with ⟨c92, H⟩ | ⟨c92, H⟩
 · exact absurd H (by simp)
 have c92b0 := decide_eq_false c92
 clear c92
 first | replace H := ifP H | replace H := ifPf H
 obtain ⟨c100, H⟩ := H
 have c100b0 := beq_iff_eq.mpr c100
 have c100b1 := bne_eq_false_iff_eq.mpr c100
 clear c100
 replace H := bindA H; obtain ⟨⟨t668, t669, t672⟩, A101, H⟩ := H
 dsimp only at H
 replace H := bindA H; obtain ⟨⟨t673, t674, t677⟩, A102, H⟩ := H
 dsimp only at H
 have HC103 := Aside0.mk H
 clear H
 obtain ⟨hcz107_0, hcz107_1, hfz107_0, hfz107_1⟩ := cz2 BK654.1
 go_upto_region 25 with (first | ((with_reducible refine gate_callee (f := 24) rfl ?_); refine goesM (N := (some 64)) #[.agg #[.int .i64 t649, .slice Ao36 t650.length co36], .int .i64 1] Try.func24 ?_; (with_reducible refine (laws_markTable.calls kj59 t649 (fun k_ => some k_ = (.slice Ao36 t650.length co36 : Value).ownBlock) (.slice Ao36 t650.length co36) t650 1 t665 t666 w _ ?side1 ?side2 A90.1).mono ?_); (case side1 => exact BL HB.1); (case side2 => exact R_tight rfl HO_655001.1); rintro e w108 ⟨rfl, hy0, hb, hkp⟩; refine ⟨_, rfl, ?_⟩; refine E8 (R_mono (ok' := fun k_ => some k_ ≠ (.slice Ao36 t650.length co36 : Value).ownBlock) (R_keptB (HO_643001.1) hkp (fun k_ hk_ hs_ => (hk_) hs_)) (fun k_ hk_ => hk_.1)) (R_mono (ok' := fun k_ => True) (R_keptB ((R_apart' HO_649001.1 (R_typed HO_655001.1) (by decide))) hkp (fun k_ hk_ hs_ => (hk_.2) hs_)) (fun k_ hk_ => trivial)) (R_reok rfl hy0 (fun k_ e_ => HO_655001.1.1 k_ e_)) (blk_kept (PB BK630.1) hkp (fun hs_ => (fun e_ => (R_ne HO_655001.1 BK630.1 (by decide)) e_) hs_)) (blk_kept (PB BK642.1) hkp (fun hs_ => (fun e_ => (R_ne HO_655001.1 BK642.1 (by decide)) e_) hs_)) (blk_kept (PB BK648.1) hkp (fun hs_ => (fun e_ => (R_ne HO_655001.1 BK648.1 (by decide)) e_) hs_)) (blk_kept (PB BK654.1) hkp (fun hs_ => (fun e_ => (R_ne HO_655001.1 BK654.1 (by decide)) e_) hs_)) (hb) ?_; clear HO_643001 HO_649001 HO_655001 BK630 BK642 BK648 BK654 HB; intro HO_643001 HO_649001 HO_655001 BK630 BK642 BK648 BK654 HB; (try clear hb); (try clear hkp); (try clear hy0); obtain ⟨hcz109_0, hcz109_1, hfz109_0, hfz109_1⟩ := cz2 BK654.1) | ((with_reducible refine gate_callee (f := 41) rfl ?_); refine goesL_ (some 67) rfl rfl Try.func41 (by kernel_rfl) rfl #[.agg #[.int .i64 t649, .slice Ao36 t666.length co36], .int .i64 1] rfl (by (try simp only [List.map_toArray, List.map_cons, List.map_nil]); first | done | (rw [show t666.length = t650.length from (R_reads' HO_655001.1).1.symm] <;> rfl) | rfl | (simp only [List.length_drop, List.length_take]; rfl)) ?_; (with_reducible refine (laws_heldTable.calls kj59 t649 _ _ t666 1 t667 _ ?side1 ?side2 A91.1).mono ?_); (case side1 => exact CB (R_reads' HO_655001.1).2.2); (case side2 => rw [show t666.length = t650.length from (R_reads' HO_655001.1).1.symm]; exact (R_reads' HO_655001.1).2.1); rintro e w110 ⟨rfl, hb⟩; refine ⟨_, rfl, ?_⟩; refine E8 (rB HO_643001.1 hb) (rB HO_649001.1 hb) (rB HO_655001.1 hb) (bB BK630.1 hb) (bB BK642.1 hb) (bB BK648.1 hb) (bB BK654.1 hb) (bS HB.1 hb) ?_; clear HO_643001 HO_649001 HO_655001 BK630 BK642 BK648 BK654 HB; intro HO_643001 HO_649001 HO_655001 BK630 BK642 BK648 BK654 HB; (try clear hb); have hnb111 := NB630_642.1; have hnc111 := NB642_630.1; have hnb112 := NB630_648.1; have hnc112 := NB648_630.1; obtain ⟨hcz113_0, hcz113_1, hcz113_2, hfz113_0, hfz113_1, hfz113_2⟩ := cz3 BK630.1) | ((with_reducible refine gate_callee (f := 14) rfl ?_); refine goesM (N := (some 75)) #[.agg #[.int .i64 a0_0, .slice A0_1 l0_1.length c0_1, .int .i64 a0_2]] Try.func14 ?_; (with_reducible refine (laws_toDiagram.calls kj59 a0_0 _ _ l0_1 a0_2 t668 t669 t672 _ ?side1 ?side2 A101.1).mono ?_); (case side1 => exact CB (C_below HR0_1.1 HB.1)); (case side2 => exact HC0_1.1); rintro e w114 ⟨v670, rfl, ho0, hb⟩; refine ⟨_, rfl, ?_⟩; refine E9 (rB HO_643001.1 hb) (R_elder' (PR HO_649001.1) (R_base ho0) hb) (rB HO_655001.1 hb) (R_lower (R_new' ho0 (R_lt (PR HO_649001.1))) (bZ HB.1)) (bB BK630.1 hb) (bB BK642.1 hb) (bB BK648.1 hb) (bB BK654.1 hb) (bS HB.1 hb) ?_; clear HO_643001 HO_649001 HO_655001 BK630 BK642 BK648 BK654 HB; intro HO_643001 HO_649001 HO_655001 HO671 BK630 BK642 BK648 BK654 HB; (try clear hb); (try clear ho0); obtain ⟨Ao115, co115, eo115⟩ := R_slice HO671.1; subst eo115) | ((with_reducible refine gate_callee (f := 40) rfl ?_); refine goesM (N := (some 76)) #[.agg #[.int .i64 t668, .slice Ao115 t669.length co115, .int .i64 t672]] Try.func40 ?_; (with_reducible refine (impl_TableOf.calls kj59 t668 _ _ t669 t672 t673 t674 t677 _ ?side1 ?side2 A102.1).mono ?_); (case side1 => exact CB (R_reads' HO671.1).2.2); (case side2 => exact (R_reads' HO671.1).2.1); rintro e w116 ⟨v675, rfl, ho0, hb⟩; refine ⟨_, rfl, ?_⟩; refine E10 (R_elder' (PR HO_643001.1) (R_base ho0) hb) (rB HO_649001.1 hb) (R_elder' (PR HO_655001.1) (R_base ho0) hb) (rB HO671.1 hb) (R_lower (R_new' (R_new' ho0 (R_lt (PR HO_643001.1))) (R_lt (PR HO_655001.1))) (bZ HB.1)) (bB BK630.1 hb) (bB BK642.1 hb) (bB BK648.1 hb) (bB BK654.1 hb) (bS HB.1 hb) ?_; clear HO_643001 HO_649001 HO_655001 HO671 BK630 BK642 BK648 BK654 HB; intro HO_643001 HO_649001 HO_655001 HO671 HO676 BK630 BK642 BK648 BK654 HB; (try clear hb); (try clear ho0)) | ((with_reducible refine gate_dst (N := 12) rfl ?_); refine boxE (cs := #[.int .i64 0, .slice none 0 0]) (t := 41) ?_; intro gb678 hg w117 hbox hb; refine E21 (rB HO_643001.1 hb) (rB HO_649001.1 hb) (rB HO_655001.1 hb) (rB HO671.1 hb) (rB HO676.1 hb) (bB BK630.1 hb) (bB BK642.1 hb) (bB BK648.1 hb) (bB BK654.1 hb) (bS HB.1 hb) (hbox) (gX HB.1 hg) (gX HB.1 hg) (nB BK630.1 hg) (nC BK630.1 hg) (nB BK642.1 hg) (nC BK642.1 hg) (nB BK648.1 hg) (nC BK648.1 hg) (nB BK654.1 hg) (nC BK654.1 hg) ?_; clear HO_643001 HO_649001 HO_655001 HO671 HO676 BK630 BK642 BK648 BK654 HB; intro HO_643001 HO_649001 HO_655001 HO671 HO676 BK630 BK642 BK648 BK654 HB BK678 GW678 GE678 NB630_678 NB678_630 NB642_678 NB678_642 NB648_678 NB678_648 NB654_678 NB678_654; clear hb hbox hg; have hnb118 := NB678_630.1; have hnc118 := NB630_678.1; have hnb119 := NB678_642.1; have hnc119 := NB642_678.1; have hnb120 := NB678_648.1; have hnc120 := NB648_678.1; have hnb121 := NB678_654.1; have hnc121 := NB654_678.1; obtain ⟨hcz122_0, hcz122_1, hfz122_0, hfz122_1⟩ := cz2 BK678.1; obtain ⟨Ao123, co123, eo123⟩ := R_slice HO676.1; subst eo123))
 (try simp only [Act.put, List.setIfInBounds_toArray, List.set_cons_zero, List.set_cons_succ])
 go_cut [87] (fun v87 wc => ∃ (kq : Nat) (x87_102 : Bool), v87 = .bool x87_102 /\ Aside0 (laws_FnExactTableOf.j2 kq t665 x87_102 t649 t666 = some true) /\ Aside0 (kq <= kj59) /\ Aside0 (Kd.R (Kd.int .i64) 3 wc w.heap.size (fun k_ => some k_ ≠ ((.slice Ao36 t650.length co36) : Value).ownBlock /\ some k_ ≠ ((.slice Ao123 t674.length co123) : Value).ownBlock) (.slice Ao22 t638.length co22) t638) /\ Aside0 (Kd.R k63 63 wc w.heap.size (fun _ => True) (.slice Ao29 t663.length co29) t663) /\ Aside0 (Kd.R (Kd.int .i64) 3 wc w.heap.size (fun k_ => some k_ ≠ ((.slice Ao22 t638.length co22) : Value).ownBlock /\ some k_ ≠ ((.slice Ao123 t674.length co123) : Value).ownBlock) (.slice Ao36 t650.length co36) t666) /\ Aside0 (Kd.R (Kd.int .i64) 3 wc w.heap.size (fun k_ => some k_ ≠ ((.slice Ao22 t638.length co22) : Value).ownBlock /\ some k_ ≠ ((.slice Ao36 t650.length co36) : Value).ownBlock) (.slice Ao123 t674.length co123) t674) /\ Aside0 (wc.heap[gb630]? = some (.cells #[.int .i64 a0_0, (.slice A0_1 l0_1.length c0_1), .int .i64 a0_2] 24 (0, 0))) /\ Aside0 (wc.heap[gb642]? = some (.cells #[.int .i64 t637, (.slice Ao22 t638.length co22)] 41 (0, 0))) /\ Aside0 (wc.heap[gb648]? = some (.cells #[.int .i64 t643, (.slice Ao29 t663.length co29), .int .i64 t647] 29 (0, 0))) /\ Aside0 (wc.heap[gb654]? = some (.cells #[.int .i64 t649, (.slice Ao36 t650.length co36)] 41 (0, 0))) /\ Aside0 (wc.heap[gb678]? = some (.cells #[.int .i64 t673, (.slice Ao123 t674.length co123)] 41 (0, 0))) /\ Aside0 (Below w.heap.size w wc))
 case first =>
  have H := HC103.1
  clear HC103
  replace H := bindA H; obtain ⟨t679, A124, H⟩ := H
  replace H := ifT H (by cases kj59 <;> simp [laws_FnExactTableOf.j2]); obtain ⟨rfl, H⟩ := H
  have H' := Aside0.mk H
  clear H
  obtain ⟨hcz130_0, hcz130_1, hfz130_0, hfz130_1⟩ := cz2 BK678.1
  obtain ⟨hcz134_0, hcz134_1, hfz134_0, hfz134_1⟩ := cz2 BK642.1
  go_wp2_with (first | ((with_reducible refine gate_callee (f := 23) rfl ?_); refine goesM (N := (some 81)) #[.agg #[.int .i64 t673, .slice Ao123 t674.length co123], .agg #[.int .i64 t637, .slice Ao22 t638.length co22]] Try.func23 ?_; (with_reducible refine (laws_eqTable.calls kj59 t673 _ _ t674 t637 _ _ t638 true _ ?side1 ?side2 ?side3 ?side4 A124.1).mono ?_); (case side1 => refine (R_reads' (e := 3) (base := w.heap.size) (ok := fun k_ => ((True /\ some k_ ≠ (.slice Ao22 t638.length co22 : Value).ownBlock) /\ some k_ ≠ (.slice Ao36 t650.length co36 : Value).ownBlock)) (n := t674.length) (c := co123) ?_).2.2; exact (by (with_reducible repeat (first | apply R_alloc | apply R_drewN | apply R_drew)); exact (R_mono (RQ gb678 1 (RQ gb678 0 (R_types HO676.1 BK678.1 (by decide)) _) _) (fun _ h_ => h_.1)))); (case side2 => exact (R_reads' HO676.1).2.1); (case side3 => refine (R_reads' (e := 3) (base := w.heap.size) (ok := fun k_ => (some k_ ≠ (.slice Ao36 t650.length co36 : Value).ownBlock /\ some k_ ≠ (.slice Ao123 t674.length co123 : Value).ownBlock)) (n := t638.length) (c := co22) ?_).2.2; exact (by (with_reducible repeat (first | apply R_alloc | apply R_drewN | apply R_drew)); exact (R_mono (RQ gb678 1 (RQ gb678 0 (R_types HO_643001.1 BK678.1 (by decide)) _) _) (fun _ h_ => h_.1)))); (case side4 => exact (R_reads' HO_643001.1).2.1); rintro e w135 ⟨rfl, hb⟩; refine ⟨_, rfl, ?_⟩; refine E11 (R_below (by (with_reducible repeat (first | apply R_alloc | apply R_drewN | apply R_drew)); exact (R_mono (RQ gb678 1 (RQ gb678 0 (R_types HO_643001.1 BK678.1 (by decide)) _) _) (fun _ h_ => h_.1))) hb) (R_below (by (with_reducible repeat (first | apply R_alloc | apply R_drewN | apply R_drew)); exact (R_mono (RQ gb678 1 (RQ gb678 0 (R_types HO_649001.1 BK678.1 (by decide)) _) _) (fun _ h_ => h_.1))) hb) (R_below (by (with_reducible repeat (first | apply R_alloc | apply R_drewN | apply R_drew)); exact (R_mono (RQ gb678 1 (RQ gb678 0 (R_types HO_655001.1 BK678.1 (by decide)) _) _) (fun _ h_ => h_.1))) hb) (R_below (by (with_reducible repeat (first | apply R_alloc | apply R_drewN | apply R_drew)); exact (R_mono (RQ gb678 1 (RQ gb678 0 (R_types HO671.1 BK678.1 (by decide)) _) _) (fun _ h_ => h_.1))) hb) (R_below (by (with_reducible repeat (first | apply R_alloc | apply R_drewN | apply R_drew)); exact (R_mono (RQ gb678 1 (RQ gb678 0 (R_types HO676.1 BK678.1 (by decide)) _) _) (fun _ h_ => h_.1))) hb) (blk_below (g := gb630) (o := .cells #[.int .i64 a0_0, .slice A0_1 l0_1.length c0_1, .int .i64 a0_2] 24 (0, 0)) (PF1 NB630_678.1 BK630.1) hb) (blk_below (g := gb642) (o := .cells #[.int .i64 t637, .slice Ao22 t638.length co22] 41 (0, 0)) (PF1 NB642_678.1 BK642.1) hb) (blk_below (g := gb648) (o := .cells #[.int .i64 t643, .slice Ao29 t663.length co29, .int .i64 t647] 29 (0, 0)) (PF1 NB648_678.1 BK648.1) hb) (blk_below (g := gb654) (o := .cells #[.int .i64 t649, .slice Ao36 t650.length co36] 41 (0, 0)) (PF1 NB654_678.1 BK654.1) hb) (blk_below (g := gb678) (o := .cells #[.int .i64 t673, .slice Ao123 t674.length co123] 41 (0, 0)) (PF0 BK678.1) hb) (bS HB.1 hb) ?_; clear HO_643001 HO_649001 HO_655001 HO671 HO676 BK630 BK642 BK648 BK654 BK678 HB; intro HO_643001 HO_649001 HO_655001 HO671 HO676 BK630 BK642 BK648 BK654 BK678 HB; (try clear hb)))
  go_meet
  case rel => exact ⟨_, ((t677 != t641)), RG, H', ⟨by have := HJ10.1; have := HJ59.1; first | omega | exact Nat.le_refl _⟩, ⟨PR1 HO_643001.1 hl649001_59⟩, ⟨by (try simp only [hl649001_59]); (with_reducible repeat (first | apply R_alloc | apply R_drewN | apply R_drew)); exact R_mono HO_649001.1 (fun _ hk => trivial)⟩, ⟨PR1 HO_655001.1 hl649001_59⟩, ⟨by (try simp only [hl649001_59]); (with_reducible repeat (first | apply R_alloc | apply R_drewN | apply R_drew)); exact R_mono HO676.1 (fun _ hk => ⟨hk.1.2, hk.2⟩)⟩, ⟨PB1 BK630.1 hl649001_59⟩, ⟨PB1 BK642.1 hl649001_59⟩, ⟨PB1 BK648.1 hl649001_59⟩, ⟨PB1 BK654.1 hl649001_59⟩, ⟨PB1 BK678.1 hl649001_59⟩, ⟨BL HB.1⟩⟩
 clear HC103
 clear c92b0 c100b0 c100b1 hcz107_0 hcz107_1 hcz109_0 hcz109_1 hcz113_0 hcz113_1 hcz113_2 hcz122_0 hcz122_1 hfz107_0 hfz107_1 hfz109_0 hfz109_1 hfz113_0 hfz113_1 hfz113_2 hfz122_0 hfz122_1
 obtain ⟨kq, x87_102, rfl, HA, HJ102, HO_643001, HO_649001, HO_655001, HO_679001, BK630, BK642, BK648, BK654, BK678, HB⟩ := hcut
 have hl655001_102 := (R_reads' HO_655001.1).1
 rw [hl655001_102] at HO_655001
 (try simp only [hl655001_102])
 (try simp only [hl655001_102] at BK630)
 (try simp only [hl655001_102] at BK642)
 (try simp only [hl655001_102] at BK648)
 (try simp only [hl655001_102] at BK654)
 (try simp only [hl655001_102] at BK678)
 (try simp only [hl655001_102] at HO_643001)
 (try simp only [hl655001_102] at HO_649001)
 (try simp only [hl655001_102] at HO_679001)
 cases kq with
 | zero => exact absurd HA.1 (by simp [laws_FnExactTableOf.j2])
 | succ kj102 => ?_
 have H := HA.1
 clear HA
 simp only [laws_FnExactTableOf.j2] at H
 replace H := ifF H (by simp); obtain ⟨rfl, H⟩ := H
 replace H := bindA H; obtain ⟨t680, A147, H⟩ := H
 replace H := ifQ H; rcases H with ⟨c148, H⟩ | ⟨c148, H⟩
 · exact absurd H (by simp)
 have c148b0 := decide_eq_false c148
 clear c148
 first | replace H := ifP H | replace H := ifPf H
 obtain ⟨c155, H⟩ := H
 have c155b0 := beq_iff_eq.mpr c155
 have c155b1 := bne_eq_false_iff_eq.mpr c155
 clear c155
 first | (obtain rfl := Option.some.inj H) | clear H
 obtain ⟨hcz160_0, hcz160_1, hfz160_0, hfz160_1⟩ := cz2 BK654.1
 go_wp2_with (first | ((with_reducible refine gate_callee (f := 41) rfl ?_); refine goesM (N := (some 90)) #[.agg #[.int .i64 t649, .slice Ao36 t666.length co36], .int .i64 1] Try.func41 ?_; (with_reducible refine (laws_heldTable.calls kj102 t649 _ _ t666 1 t680 _ ?side1 ?side2 A147.1).mono ?_); (case side1 => exact CB (R_reads' HO_655001.1).2.2); (case side2 => exact (R_reads' HO_655001.1).2.1); rintro e w161 ⟨rfl, hb⟩; refine ⟨_, rfl, ?_⟩; refine E10 (rB HO_643001.1 hb) (rB HO_649001.1 hb) (rB HO_655001.1 hb) (rB HO_679001.1 hb) (bB BK630.1 hb) (bB BK642.1 hb) (bB BK648.1 hb) (bB BK654.1 hb) (bB BK678.1 hb) (bS HB.1 hb) ?_; clear HO_643001 HO_649001 HO_655001 HO_679001 BK630 BK642 BK648 BK654 BK678 HB; intro HO_643001 HO_649001 HO_655001 HO_679001 BK630 BK642 BK648 BK654 BK678 HB; (try clear hb)))
 go_ret
 exact ⟨RF, BL HB.1⟩
end Go.Proofs.Ytdkfgomjfigmbaa.P
