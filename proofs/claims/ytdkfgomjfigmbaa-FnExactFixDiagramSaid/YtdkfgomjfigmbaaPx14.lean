-- PRINTED by print.py (a twelfth state) out of the translation. Not trusted: Lean checks it.
import Derived.Test.YtdkfgomjfigmbaaPx0
import Derived.Test.YtdkfgomjfigmbaaPx7
import Derived.Test.YtdkfgomjfigmbaaPx9
namespace Go.Proofs.Ytdkfgomjfigmbaa.P
open Go.RowKit Go.Proofs.YtdkfgomjfigmbaaW.PrintWords Go.Proofs.YtdkfgomjfigmbaaW.PrintLast Go.Proofs.YtdkfgomjfigmbaaW.PrintMore
attribute [local go_sem] max2_int min2_int max_two min_two max_three min_three max_four min_four   -- for this text's walks alone
set_option linter.unusedVariables false
set_option linter.unusedSimpArgs false

/-! ### laws_eqTable: function 23 -/
open Kd
def laws_eqTable.f (k : Nat) (a0_0 : Int) (l0_1 : List Int) (a1_0 : Int) (l1_1 : List Int) : Option (Bool) := if a0_0 = a1_0 then ((laws_eqIntS.f k l0_1 l1_1).bind fun t296 => (if t296 = true then (some true) else (some false))) else (some false)
theorem laws_eqTable.mono : ∀ a0 a1 a2 a3 k, LeO (laws_eqTable.f k a0 a1 a2 a3) (laws_eqTable.f (k + 1) a0 a1 a2 a3) := by
 intro a0 a1 a2 a3 k
 unfold laws_eqTable.f
 repeat' first
  | (with_reducible exact laws_eqIntS.mono _ _ _)
  | (with_reducible exact LeO.refl _)
  | (with_reducible exact LeO.none _)
  | (with_reducible refine LeO.ite ?_ ?_)
  | (with_reducible refine LeO.bind ?_ (fun _ => ?_))
  | exact laws_eqIntS.mono _ _ _
  | exact LeO.none _
  | refine LeO.ite ?_ ?_
  | refine LeO.bind ?_ (fun _ => ?_)
set_option maxHeartbeats 8000000 in
set_option maxRecDepth 100000 in
theorem laws_eqTable.calls (k : Nat) (a0_0 : Int) (A0_1 : Option Addr) (c0_1 : Nat) (l0_1 : List Int) (a1_0 : Int) (A1_1 : Option Addr) (c1_1 : Nat) (l1_1 : List Int) (r : Bool) (w : World) (hr0_1 : Kd.C (Kd.int .i64) w A0_1 l0_1.length l0_1) (hc0_1 : l0_1.length <= c0_1) (hr1_1 : Kd.C (Kd.int .i64) w A1_1 l1_1.length l1_1) (hc1_1 : l1_1.length <= c1_1) (h : laws_eqTable.f k a0_0 l0_1 a1_0 l1_1 = some r) :
 Calls Try.prog 23 #[.agg #[.int .i64 a0_0, .slice A0_1 l0_1.length c0_1], .agg #[.int .i64 a1_0, .slice A1_1 l1_1.length c1_1]] w fun e w' => e = .returned (.bool r) /\ Below w.heap.size w w' := by
 have hu41 := Try.underlying41
 have HR0_1 := Aside0.mk hr0_1
 have HC0_1 := Aside0.mk hc0_1
 clear hr0_1 hc0_1
 have HR1_1 := Aside0.mk hr1_1
 have HC1_1 := Aside0.mk hc1_1
 clear hr1_1 hc1_1
 have HB := Aside0.mk (Below.refl w.heap.size w)
 have H := h
 clear h
 unfold laws_eqTable.f at H
 replace H := ifQ H; rcases H with ⟨c3, H⟩ | ⟨c3, H⟩
 · have c3b0 := beq_iff_eq.mpr c3
   have c3b1 := bne_eq_false_iff_eq.mpr c3
   clear c3
   replace H := bindA H; obtain ⟨t296, A4, H⟩ := H
   replace H := ifX H; rcases H with ⟨rfl, H⟩ | ⟨rfl, H⟩
   · obtain rfl := Option.some.inj H
     go_enter Try.func23, Try.ntmps23
     go_wp2_with (first | ((with_reducible refine gate_dst (N := 2) rfl ?_); refine boxE (cs := #[.int .i64 a0_0, .slice A0_1 l0_1.length c0_1]) (t := 41) ?_; intro gb294 hg w6 hbox hb; refine E4b HB.1 hg hbox hb ?_; clear HB; intro HB BK294 GW294 GE294; clear hb hbox hg) | ((with_reducible refine gate_dst (N := 3) rfl ?_); refine boxE (cs := #[.int .i64 a1_0, .slice A1_1 l1_1.length c1_1]) (t := 41) ?_; intro gb295 hg w7 hbox hb; refine E7 (bB BK294.1 hb) (bS HB.1 hb) (hbox) (gX HB.1 hg) (gX HB.1 hg) (nB BK294.1 hg) (nC BK294.1 hg) ?_; clear BK294 HB; intro BK294 HB BK295 GW295 GE295 NB294_295 NB295_294; clear hb hbox hg; have hnb8 := NB294_295.1; have hnc8 := NB295_294.1; obtain ⟨hcz9_0, hcz9_1, hfz9_0, hfz9_1⟩ := cz2 BK294.1; obtain ⟨hcz10_0, hcz10_1, hfz10_0, hfz10_1⟩ := cz2 BK295.1) | ((with_reducible refine gate_callee (f := 31) rfl ?_); refine goesM (N := (some 14)) #[.slice A0_1 l0_1.length c0_1, .slice A1_1 l1_1.length c1_1] Try.func31 ?_; (with_reducible refine (laws_eqIntS.calls k _ _ l0_1 _ _ l1_1 true _ ?side1 ?side2 ?side3 ?side4 A4.1).mono ?_); (case side1 => exact CB (C_below HR0_1.1 HB.1)); (case side2 => exact HC0_1.1); (case side3 => exact CB (C_below HR1_1.1 HB.1)); (case side4 => exact HC1_1.1); rintro e w' ⟨rfl, ⟨nd, rfl⟩⟩; refine ⟨_, rfl, ?_⟩))
     go_ret
     exact ⟨RF, BL HB.1⟩
   obtain rfl := Option.some.inj H
   go_enter Try.func23, Try.ntmps23
   go_wp2_with (first | ((with_reducible refine gate_dst (N := 2) rfl ?_); refine boxE (cs := #[.int .i64 a0_0, .slice A0_1 l0_1.length c0_1]) (t := 41) ?_; intro gb294 hg w11 hbox hb; refine E4b HB.1 hg hbox hb ?_; clear HB; intro HB BK294 GW294 GE294; clear hb hbox hg) | ((with_reducible refine gate_dst (N := 3) rfl ?_); refine boxE (cs := #[.int .i64 a1_0, .slice A1_1 l1_1.length c1_1]) (t := 41) ?_; intro gb295 hg w12 hbox hb; refine E7 (bB BK294.1 hb) (bS HB.1 hb) (hbox) (gX HB.1 hg) (gX HB.1 hg) (nB BK294.1 hg) (nC BK294.1 hg) ?_; clear BK294 HB; intro BK294 HB BK295 GW295 GE295 NB294_295 NB295_294; clear hb hbox hg; have hnb13 := NB294_295.1; have hnc13 := NB295_294.1; obtain ⟨hcz14_0, hcz14_1, hfz14_0, hfz14_1⟩ := cz2 BK294.1; obtain ⟨hcz15_0, hcz15_1, hfz15_0, hfz15_1⟩ := cz2 BK295.1) | ((with_reducible refine gate_callee (f := 31) rfl ?_); refine goesM (N := (some 14)) #[.slice A0_1 l0_1.length c0_1, .slice A1_1 l1_1.length c1_1] Try.func31 ?_; (with_reducible refine (laws_eqIntS.calls k _ _ l0_1 _ _ l1_1 false _ ?side1 ?side2 ?side3 ?side4 A4.1).mono ?_); (case side1 => exact CB (C_below HR0_1.1 HB.1)); (case side2 => exact HC0_1.1); (case side3 => exact CB (C_below HR1_1.1 HB.1)); (case side4 => exact HC1_1.1); rintro e w' ⟨rfl, ⟨nd, rfl⟩⟩; refine ⟨_, rfl, ?_⟩))
   go_ret
   exact ⟨RF, BL HB.1⟩
 have c3b0 := beq_eq_false_iff_ne.mpr c3
 have c3b1 := bne_iff_ne.mpr c3
 obtain rfl := Option.some.inj H
 go_enter Try.func23, Try.ntmps23
 go_wp2_with (first | ((with_reducible refine gate_dst (N := 2) rfl ?_); refine boxE (cs := #[.int .i64 a0_0, .slice A0_1 l0_1.length c0_1]) (t := 41) ?_; intro gb294 hg w16 hbox hb; refine E4b HB.1 hg hbox hb ?_; clear HB; intro HB BK294 GW294 GE294; clear hb hbox hg) | ((with_reducible refine gate_dst (N := 3) rfl ?_); refine boxE (cs := #[.int .i64 a1_0, .slice A1_1 l1_1.length c1_1]) (t := 41) ?_; intro gb295 hg w17 hbox hb; refine E7 (bB BK294.1 hb) (bS HB.1 hb) (hbox) (gX HB.1 hg) (gX HB.1 hg) (nB BK294.1 hg) (nC BK294.1 hg) ?_; clear BK294 HB; intro BK294 HB BK295 GW295 GE295 NB294_295 NB295_294; clear hb hbox hg; have hnb18 := NB294_295.1; have hnc18 := NB295_294.1; obtain ⟨hcz19_0, hcz19_1, hfz19_0, hfz19_1⟩ := cz2 BK294.1; obtain ⟨hcz20_0, hcz20_1, hfz20_0, hfz20_1⟩ := cz2 BK295.1))
 go_ret
 exact ⟨RF, BL HB.1⟩
/-! ### laws_markTable: function 24 -/
open Kd
def laws_markTable.f (k : Nat) (a0_0 : Int) (l0_1 : List Int) (a1 : Int) : Option (Int × List Int) := (laws_markIntS.f k l0_1 a1).bind fun bt299 => (some (bt299.1, bt299.2))
theorem laws_markTable.mono : ∀ a0 a1 a2 k, LeO (laws_markTable.f k a0 a1 a2) (laws_markTable.f (k + 1) a0 a1 a2) := by
 intro a0 a1 a2 k
 unfold laws_markTable.f
 repeat' first
  | (with_reducible exact laws_markIntS.mono _ _ _)
  | (with_reducible exact LeO.refl _)
  | (with_reducible exact LeO.none _)
  | (with_reducible refine LeO.ite ?_ ?_)
  | (with_reducible refine LeO.bind ?_ (fun _ => ?_))
  | exact laws_markIntS.mono _ _ _
  | exact LeO.none _
  | refine LeO.ite ?_ ?_
  | refine LeO.bind ?_ (fun _ => ?_)
set_option maxHeartbeats 8000000 in
set_option maxRecDepth 100000 in
theorem laws_markTable.calls (k : Nat) (a0_0 : Int) (P0_1_ : Nat -> Prop) (u9000_ : Value) (l0_1 : List Int) (a1 : Int) (r1 : Int) (r2 : List Int) (w0 w : World) (hB : Below w0.heap.size w0 w) (ho0_1 : Kd.R (Kd.int .i64) 3 w w0.heap.size P0_1_ u9000_ l0_1) (h : laws_markTable.f k a0_0 l0_1 a1 = some (r1, r2)) :
 Calls Try.prog 24 #[.agg #[.int .i64 a0_0, u9000_], .int .i64 a1] w fun e w' => e = .returned (.int .i64 r1) /\ Kd.R (Kd.int .i64) 3 w' w0.heap.size (fun k_ => (P0_1_ k_ ∨ w.heap.size <= k_)) u9000_ r2 /\ Below w0.heap.size w0 w' /\ Kept w w' (fun k_ => P0_1_ k_) := by
 have hu41 := Try.underlying41
 have HO0_1 := Aside0.mk (show Kd.R (Kd.int .i64) 3 w w0.heap.size (fun k_ => (P0_1_ k_ ∨ w.heap.size <= k_)) u9000_ l0_1 from R_mono ho0_1 (fun k_ hk => (.inl hk)))
 have HK := Aside0.mk (Kept.refl w (fun k_ => P0_1_ k_))
 have HW0 := Aside0.mk hB.size
 have HB := Aside0.mk hB
 clear hB
 have H := h
 clear h
 unfold laws_markTable.f at H
 replace H := bindA H; obtain ⟨⟨t299, t300⟩, A3, H⟩ := H
 dsimp only at H
 simp only [Option.some.injEq, Prod.mk.injEq] at H
 obtain ⟨rfl, rfl⟩ := H
 obtain ⟨Ao4, co4, eo4⟩ := R_slice HO0_1.1
 subst eo4
 go_enter Try.func24, Try.ntmps24
 go_wp2_with (first | ((with_reducible refine gate_dst (N := 2) rfl ?_); refine boxE (cs := #[.int .i64 a0_0, .slice Ao4 l0_1.length co4]) (t := 41) ?_; intro gb298 hg w5 hbox hb; refine E6 (rB HO0_1.1 hb) (Kept.below (S := (fun k_ => P0_1_ k_)) (KL HK.1) hb) (bS HB.1 hb) (hbox) ((by rw [hg]; exact (by first | exact HK.1.1 | exact (show Kept w _ (fun k_ => P0_1_ k_) from KL HK.1).1) : w.heap.size <= gb298)) (gwM hg (bZ HB.1) : w0.heap.size <= gb298) ?_; clear HO0_1 HK HB; intro HO0_1 HK HB BK298 GW298 GE298; clear hb hbox hg; obtain ⟨hcz6_0, hcz6_1, hfz6_0, hfz6_1⟩ := cz2 BK298.1) | ((with_reducible refine gate_callee (f := 32) rfl ?_); refine goesM (N := (some 8)) #[.slice Ao4 l0_1.length co4, .int .i64 a1] Try.func32 ?_; (with_reducible refine (laws_markIntS.calls k (fun k_ => some k_ = (.slice Ao4 l0_1.length co4 : Value).ownBlock) (.slice Ao4 l0_1.length co4) l0_1 a1 t299 t300 w0 _ ?side1 ?side2 A3.1).mono ?_); (case side1 => exact BL HB.1); (case side2 => exact R_tight rfl HO0_1.1); rintro e w7 ⟨rfl, hy0, hb, hkp⟩; refine ⟨_, rfl, ?_⟩; refine E4 (R_reok rfl hy0 (fun k_ e_ => HO0_1.1.1 k_ e_)) (blk_kept (PB BK298.1) hkp (fun hs_ => (fun e_ => (R_ne HO0_1.1 BK298.1 (by decide)) e_) hs_)) (Kept.then_ (S := (fun k_ => P0_1_ k_)) (KL HK.1) hkp (fun k_ hs_ => (fun e_ => (HO0_1.1.1 k_ e_.symm)) hs_)) (hb) ?_; clear HO0_1 BK298 HK HB; intro HO0_1 BK298 HK HB; (try clear hb); (try clear hkp); (try clear hy0)))
 go_ret
 exact ⟨RF, RPE (HO0_1.1), BL HB.1, KL HK.1⟩

end Go.Proofs.Ytdkfgomjfigmbaa.P
