-- PRINTED by print.py (a twelfth state) out of the translation. Not trusted: Lean checks it.
import Derived.Test.YtdkfgomjfigmbaaPx0
import Derived.Test.YtdkfgomjfigmbaaPx2
import Derived.Test.YtdkfgomjfigmbaaPx4
import Derived.Test.YtdkfgomjfigmbaaPx10
import Derived.Test.YtdkfgomjfigmbaaPx12
import Derived.Test.YtdkfgomjfigmbaaPx14
import Derived.Test.YtdkfgomjfigmbaaPx17
import Derived.Test.YtdkfgomjfigmbaaPx18
namespace Go.Proofs.Ytdkfgomjfigmbaa.P
open Go.RowKit Go.Proofs.YtdkfgomjfigmbaaW.PrintWords Go.Proofs.YtdkfgomjfigmbaaW.PrintLast Go.Proofs.YtdkfgomjfigmbaaW.PrintMore
attribute [local go_sem] max2_int min2_int max_two min_two max_three min_three max_four min_four   -- for this text's walks alone
set_option linter.unusedVariables false
set_option linter.unusedSimpArgs false

/-! ### spec_DiagramOf: function 20 -/
open Kd
def spec_DiagramOf.f (k : Nat) (a0_0 : Int) (l0_1 : List Int) : Option (Int × (List (S63)) × Int × Bool) := (spec_ttGood.f k a0_0 l0_1).bind fun t264 => (if t264 = true then ((spec_ddMake.f a0_0 l0_1).bind fun bt265 => (some (bt265.1, bt265.2.1, bt265.2.2, true))) else (some (0, ([] : List (S63)), 0, false)))
theorem spec_DiagramOf.mono : ∀ a0 a1 k, LeO (spec_DiagramOf.f k a0 a1) (spec_DiagramOf.f (k + 1) a0 a1) := by
 intro a0 a1 k
 unfold spec_DiagramOf.f
 repeat' first
  | (with_reducible exact spec_ttGood.mono _ _ _)
  | (with_reducible exact LeO.refl _)
  | (with_reducible exact LeO.none _)
  | (with_reducible refine LeO.ite ?_ ?_)
  | (with_reducible refine LeO.bind ?_ (fun _ => ?_))
  | exact spec_ttGood.mono _ _ _
  | exact LeO.none _
  | refine LeO.ite ?_ ?_
  | refine LeO.bind ?_ (fun _ => ?_)
set_option maxHeartbeats 8000000 in
set_option maxRecDepth 100000 in
theorem spec_DiagramOf.calls (k : Nat) (a0_0 : Int) (A0_1 : Option Addr) (c0_1 : Nat) (l0_1 : List Int) (r1 : Int) (r2 : List (S63)) (r3 : Int) (r4 : Bool) (w : World) (hr0_1 : Kd.C (Kd.int .i64) w A0_1 l0_1.length l0_1) (hc0_1 : l0_1.length <= c0_1) (h : spec_DiagramOf.f k a0_0 l0_1 = some (r1, r2, r3, r4)) :
 Calls Try.prog 20 #[.agg #[.int .i64 a0_0, .slice A0_1 l0_1.length c0_1]] w fun e w' => ∃ v1_ : Value, e = .returned (.tuple #[.agg #[.int .i64 r1, v1_, .int .i64 r3], .bool r4]) /\ Kd.R k63 63 w' w.heap.size (fun _ => True) v1_ r2 /\ Below w.heap.size w w' := by
 have hu41 := Try.underlying41
 have hu29 := Try.underlying29
 have HR0_1 := Aside0.mk hr0_1
 have HC0_1 := Aside0.mk hc0_1
 clear hr0_1 hc0_1
 have HB := Aside0.mk (Below.refl w.heap.size w)
 have H := h
 clear h
 unfold spec_DiagramOf.f at H
 replace H := bindA H; obtain ⟨t264, A2, H⟩ := H
 replace H := ifX H; rcases H with ⟨rfl, H⟩ | ⟨rfl, H⟩
 · replace H := bindA H; obtain ⟨⟨t265, t266, t269⟩, A4, H⟩ := H
   dsimp only at H
   simp only [Option.some.injEq, Prod.mk.injEq] at H
   obtain ⟨rfl, rfl, rfl, rfl⟩ := H
   go_enter Try.func20, Try.ntmps20
   go_wp2_with (first | ((with_reducible refine gate_dst (N := 1) rfl ?_); refine boxE (cs := #[.int .i64 a0_0, .slice A0_1 l0_1.length c0_1]) (t := 41) ?_; intro gb262 hg w5 hbox hb; refine E4b HB.1 hg hbox hb ?_; clear HB; intro HB BK262 GW262 GE262; clear hb hbox hg) | ((with_reducible refine gate_dst (N := 2) rfl ?_); refine boxE (cs := #[.int .i64 0, .slice none 0 0, .int .i64 0]) (t := 29) ?_; intro gb263 hg w6 hbox hb; refine E7 (bB BK262.1 hb) (bS HB.1 hb) (hbox) (gX HB.1 hg) (gX HB.1 hg) (nB BK262.1 hg) (nC BK262.1 hg) ?_; clear BK262 HB; intro BK262 HB BK263 GW263 GE263 NB262_263 NB263_262; clear hb hbox hg; have hnb7 := NB262_263.1; have hnc7 := NB263_262.1; obtain ⟨hcz8_0, hcz8_1, hfz8_0, hfz8_1⟩ := cz2 BK262.1) | ((with_reducible refine gate_callee (f := 51) rfl ?_); refine goesM (N := (some 5)) #[.agg #[.int .i64 a0_0, .slice A0_1 l0_1.length c0_1]] Try.func51 ?_; (with_reducible refine (spec_ttGood.calls k a0_0 _ _ l0_1 true _ ?side1 ?side2 A2.1).mono ?_); (case side1 => exact CB (C_below HR0_1.1 HB.1)); (case side2 => exact HC0_1.1); rintro e w9 ⟨rfl, hb⟩; refine ⟨_, rfl, ?_⟩; refine E3 (bB BK262.1 hb) (bB BK263.1 hb) (bS HB.1 hb) ?_; clear BK262 BK263 HB; intro BK262 BK263 HB; (try clear hb); obtain ⟨hcz10_0, hcz10_1, hfz10_0, hfz10_1⟩ := cz2 BK262.1) | ((with_reducible refine gate_callee (f := 52) rfl ?_); refine goesM (N := (some 9)) #[.agg #[.int .i64 a0_0, .slice A0_1 l0_1.length c0_1]] Try.func52 ?_; (with_reducible refine (spec_ddMake.calls a0_0 _ _ l0_1 t265 t266 t269 _ ?side1 ?side2 A4.1).mono ?_); (case side1 => exact CB (C_below HR0_1.1 HB.1)); (case side2 => exact HC0_1.1); rintro e w11 ⟨v267, rfl, ho0, hb⟩; refine ⟨_, rfl, ?_⟩; refine E4 (R_lower ho0 (bZ HB.1)) (bB BK262.1 hb) (bB BK263.1 hb) (bS HB.1 hb) ?_; clear BK262 BK263 HB; intro HO268 BK262 BK263 HB; (try clear hb); (try clear ho0); obtain ⟨hcz12_0, hcz12_1, hcz12_2, hfz12_0, hfz12_1, hfz12_2⟩ := cz3 BK263.1; obtain ⟨Ao13, co13, eo13⟩ := R_slice HO268.1; subst eo13))
   refine bodyPost_ret (results_ct rfl _ _ gb263 29 #[.int .i64 t265, .slice Ao13 t266.length co13, .int .i64 t269] (0, 0) _ rfl (PF0 BK263.1) Try.underlying29 rfl (by kernel_rfl)) rfl ?_
   exact ⟨_, RF, by (with_reducible repeat (first | apply R_alloc | apply R_drewN | apply R_drew)); exact R_mono (RQ gb263 2 (RQ gb263 1 (RQ gb263 0 (R_types HO268.1 BK263.1 (by decide)) _) _) _) (fun _ hk => trivial), BL HB.1⟩
 simp only [Option.some.injEq, Prod.mk.injEq] at H
 obtain ⟨rfl, rfl, rfl, rfl⟩ := H
 go_enter Try.func20, Try.ntmps20
 go_wp2_with (first | ((with_reducible refine gate_dst (N := 1) rfl ?_); refine boxE (cs := #[.int .i64 a0_0, .slice A0_1 l0_1.length c0_1]) (t := 41) ?_; intro gb262 hg w14 hbox hb; refine E4b HB.1 hg hbox hb ?_; clear HB; intro HB BK262 GW262 GE262; clear hb hbox hg) | ((with_reducible refine gate_dst (N := 2) rfl ?_); refine boxE (cs := #[.int .i64 0, .slice none 0 0, .int .i64 0]) (t := 29) ?_; intro gb263 hg w15 hbox hb; refine E7 (bB BK262.1 hb) (bS HB.1 hb) (hbox) (gX HB.1 hg) (gX HB.1 hg) (nB BK262.1 hg) (nC BK262.1 hg) ?_; clear BK262 HB; intro BK262 HB BK263 GW263 GE263 NB262_263 NB263_262; clear hb hbox hg; have hnb16 := NB262_263.1; have hnc16 := NB263_262.1; obtain ⟨hcz17_0, hcz17_1, hfz17_0, hfz17_1⟩ := cz2 BK262.1) | ((with_reducible refine gate_callee (f := 51) rfl ?_); refine goesM (N := (some 5)) #[.agg #[.int .i64 a0_0, .slice A0_1 l0_1.length c0_1]] Try.func51 ?_; (with_reducible refine (spec_ttGood.calls k a0_0 _ _ l0_1 false _ ?side1 ?side2 A2.1).mono ?_); (case side1 => exact CB (C_below HR0_1.1 HB.1)); (case side2 => exact HC0_1.1); rintro e w18 ⟨rfl, hb⟩; refine ⟨_, rfl, ?_⟩; refine E3 (bB BK262.1 hb) (bB BK263.1 hb) (bS HB.1 hb) ?_; clear BK262 BK263 HB; intro BK262 BK263 HB; (try clear hb); obtain ⟨hcz19_0, hcz19_1, hcz19_2, hfz19_0, hfz19_1, hfz19_2⟩ := cz3 BK263.1))
 refine bodyPost_ret (results_ct rfl _ _ gb263 29 #[.int .i64 0, .slice none 0 0, .int .i64 0] (0, 0) _ rfl (PF0 BK263.1) Try.underlying29 rfl (by kernel_rfl)) rfl ?_
 exact ⟨_, RF, by first | exact R_nil _ _ _ _ _ | exact N_nil _ _ _ _ _ | exact V_nil _ _ _ _ _ | exact Q_nil _ _ _ _ _ | exact S_nil _ _ _ _ _, BL HB.1⟩

/-! ### impl_DiagramOf: function 22 -/
open Kd
def impl_DiagramOf.f (k : Nat) (a0_0 : Int) (l0_1 : List Int) : Option (Int × (List (S63)) × Int × Bool) := (impl_IsTable.f k a0_0 l0_1).bind fun t286 => (if t286 = true then ((impl_diagramOf.f a0_0 l0_1).bind fun bt287 => (some (bt287.1, bt287.2.1, bt287.2.2, true))) else (some (0, ([] : List (S63)), 0, false)))
theorem impl_DiagramOf.mono : ∀ a0 a1 k, LeO (impl_DiagramOf.f k a0 a1) (impl_DiagramOf.f (k + 1) a0 a1) := by
 intro a0 a1 k
 unfold impl_DiagramOf.f
 repeat' first
  | (with_reducible exact impl_IsTable.mono _ _ _)
  | (with_reducible exact LeO.refl _)
  | (with_reducible exact LeO.none _)
  | (with_reducible refine LeO.ite ?_ ?_)
  | (with_reducible refine LeO.bind ?_ (fun _ => ?_))
  | exact impl_IsTable.mono _ _ _
  | exact LeO.none _
  | refine LeO.ite ?_ ?_
  | refine LeO.bind ?_ (fun _ => ?_)
set_option maxHeartbeats 8000000 in
set_option maxRecDepth 100000 in
theorem impl_DiagramOf.calls (k : Nat) (a0_0 : Int) (A0_1 : Option Addr) (c0_1 : Nat) (l0_1 : List Int) (r1 : Int) (r2 : List (S63)) (r3 : Int) (r4 : Bool) (w : World) (hr0_1 : Kd.C (Kd.int .i64) w A0_1 l0_1.length l0_1) (hc0_1 : l0_1.length <= c0_1) (h : impl_DiagramOf.f k a0_0 l0_1 = some (r1, r2, r3, r4)) :
 Calls Try.prog 22 #[.agg #[.int .i64 a0_0, .slice A0_1 l0_1.length c0_1]] w fun e w' => ∃ v1_ : Value, e = .returned (.tuple #[.agg #[.int .i64 r1, v1_, .int .i64 r3], .bool r4]) /\ Kd.R k63 63 w' w.heap.size (fun _ => True) v1_ r2 /\ Below w.heap.size w w' := by
 have hu41 := Try.underlying41
 have hu29 := Try.underlying29
 have HR0_1 := Aside0.mk hr0_1
 have HC0_1 := Aside0.mk hc0_1
 clear hr0_1 hc0_1
 have HB := Aside0.mk (Below.refl w.heap.size w)
 have H := h
 clear h
 unfold impl_DiagramOf.f at H
 replace H := bindA H; obtain ⟨t286, A2, H⟩ := H
 replace H := ifX H; rcases H with ⟨rfl, H⟩ | ⟨rfl, H⟩
 · replace H := bindA H; obtain ⟨⟨t287, t288, t291⟩, A4, H⟩ := H
   dsimp only at H
   simp only [Option.some.injEq, Prod.mk.injEq] at H
   obtain ⟨rfl, rfl, rfl, rfl⟩ := H
   go_enter Try.func22, Try.ntmps22
   go_wp2_with (first | ((with_reducible refine gate_dst (N := 1) rfl ?_); refine boxE (cs := #[.int .i64 a0_0, .slice A0_1 l0_1.length c0_1]) (t := 41) ?_; intro gb284 hg w5 hbox hb; refine E4b HB.1 hg hbox hb ?_; clear HB; intro HB BK284 GW284 GE284; clear hb hbox hg) | ((with_reducible refine gate_dst (N := 2) rfl ?_); refine boxE (cs := #[.int .i64 0, .slice none 0 0, .int .i64 0]) (t := 29) ?_; intro gb285 hg w6 hbox hb; refine E7 (bB BK284.1 hb) (bS HB.1 hb) (hbox) (gX HB.1 hg) (gX HB.1 hg) (nB BK284.1 hg) (nC BK284.1 hg) ?_; clear BK284 HB; intro BK284 HB BK285 GW285 GE285 NB284_285 NB285_284; clear hb hbox hg; have hnb7 := NB284_285.1; have hnc7 := NB285_284.1; obtain ⟨hcz8_0, hcz8_1, hfz8_0, hfz8_1⟩ := cz2 BK284.1) | ((with_reducible refine gate_callee (f := 53) rfl ?_); refine goesM (N := (some 5)) #[.agg #[.int .i64 a0_0, .slice A0_1 l0_1.length c0_1]] Try.func53 ?_; (with_reducible refine (impl_IsTable.calls k a0_0 _ _ l0_1 true _ ?side1 ?side2 A2.1).mono ?_); (case side1 => exact CB (C_below HR0_1.1 HB.1)); (case side2 => exact HC0_1.1); rintro e w9 ⟨rfl, hb⟩; refine ⟨_, rfl, ?_⟩; refine E3 (bB BK284.1 hb) (bB BK285.1 hb) (bS HB.1 hb) ?_; clear BK284 BK285 HB; intro BK284 BK285 HB; (try clear hb); obtain ⟨hcz10_0, hcz10_1, hfz10_0, hfz10_1⟩ := cz2 BK284.1) | ((with_reducible refine gate_callee (f := 54) rfl ?_); refine goesM (N := (some 9)) #[.agg #[.int .i64 a0_0, .slice A0_1 l0_1.length c0_1]] Try.func54 ?_; (with_reducible refine (impl_diagramOf.calls a0_0 _ _ l0_1 t287 t288 t291 _ ?side1 ?side2 A4.1).mono ?_); (case side1 => exact CB (C_below HR0_1.1 HB.1)); (case side2 => exact HC0_1.1); rintro e w11 ⟨v289, rfl, ho0, hb⟩; refine ⟨_, rfl, ?_⟩; refine E4 (R_lower ho0 (bZ HB.1)) (bB BK284.1 hb) (bB BK285.1 hb) (bS HB.1 hb) ?_; clear BK284 BK285 HB; intro HO290 BK284 BK285 HB; (try clear hb); (try clear ho0); obtain ⟨hcz12_0, hcz12_1, hcz12_2, hfz12_0, hfz12_1, hfz12_2⟩ := cz3 BK285.1; obtain ⟨Ao13, co13, eo13⟩ := R_slice HO290.1; subst eo13))
   refine bodyPost_ret (results_ct rfl _ _ gb285 29 #[.int .i64 t287, .slice Ao13 t288.length co13, .int .i64 t291] (0, 0) _ rfl (PF0 BK285.1) Try.underlying29 rfl (by kernel_rfl)) rfl ?_
   exact ⟨_, RF, by (with_reducible repeat (first | apply R_alloc | apply R_drewN | apply R_drew)); exact R_mono (RQ gb285 2 (RQ gb285 1 (RQ gb285 0 (R_types HO290.1 BK285.1 (by decide)) _) _) _) (fun _ hk => trivial), BL HB.1⟩
 simp only [Option.some.injEq, Prod.mk.injEq] at H
 obtain ⟨rfl, rfl, rfl, rfl⟩ := H
 go_enter Try.func22, Try.ntmps22
 go_wp2_with (first | ((with_reducible refine gate_dst (N := 1) rfl ?_); refine boxE (cs := #[.int .i64 a0_0, .slice A0_1 l0_1.length c0_1]) (t := 41) ?_; intro gb284 hg w14 hbox hb; refine E4b HB.1 hg hbox hb ?_; clear HB; intro HB BK284 GW284 GE284; clear hb hbox hg) | ((with_reducible refine gate_dst (N := 2) rfl ?_); refine boxE (cs := #[.int .i64 0, .slice none 0 0, .int .i64 0]) (t := 29) ?_; intro gb285 hg w15 hbox hb; refine E7 (bB BK284.1 hb) (bS HB.1 hb) (hbox) (gX HB.1 hg) (gX HB.1 hg) (nB BK284.1 hg) (nC BK284.1 hg) ?_; clear BK284 HB; intro BK284 HB BK285 GW285 GE285 NB284_285 NB285_284; clear hb hbox hg; have hnb16 := NB284_285.1; have hnc16 := NB285_284.1; obtain ⟨hcz17_0, hcz17_1, hfz17_0, hfz17_1⟩ := cz2 BK284.1) | ((with_reducible refine gate_callee (f := 53) rfl ?_); refine goesM (N := (some 5)) #[.agg #[.int .i64 a0_0, .slice A0_1 l0_1.length c0_1]] Try.func53 ?_; (with_reducible refine (impl_IsTable.calls k a0_0 _ _ l0_1 false _ ?side1 ?side2 A2.1).mono ?_); (case side1 => exact CB (C_below HR0_1.1 HB.1)); (case side2 => exact HC0_1.1); rintro e w18 ⟨rfl, hb⟩; refine ⟨_, rfl, ?_⟩; refine E3 (bB BK284.1 hb) (bB BK285.1 hb) (bS HB.1 hb) ?_; clear BK284 BK285 HB; intro BK284 BK285 HB; (try clear hb); obtain ⟨hcz19_0, hcz19_1, hcz19_2, hfz19_0, hfz19_1, hfz19_2⟩ := cz3 BK285.1))
 refine bodyPost_ret (results_ct rfl _ _ gb285 29 #[.int .i64 0, .slice none 0 0, .int .i64 0] (0, 0) _ rfl (PF0 BK285.1) Try.underlying29 rfl (by kernel_rfl)) rfl ?_
 exact ⟨_, RF, by first | exact R_nil _ _ _ _ _ | exact N_nil _ _ _ _ _ | exact V_nil _ _ _ _ _ | exact Q_nil _ _ _ _ _ | exact S_nil _ _ _ _ _, BL HB.1⟩

/-! ### laws_FnExactDiagramOf: function 5 -/
open Kd
mutual
def laws_FnExactDiagramOf.j0 : Nat -> Bool -> Bool -> Bool -> Int -> List Int -> Int -> List (S63) -> Int -> Int -> List Int -> Int -> List (S63) -> Int -> Option (Bool)
 | 0, _, _, _, _, _, _, _, _, _, _, _, _, _ => none
 | k + 1, x5, x8, x40, x313000, x313001, x325000, x325001, x325002, x330000, x330001, x337000, x337001, x337002 => if x40 = true then (some false) else ((laws_toTable.f k x313000 x313001).bind fun bt338 => ((laws_eqTable.f k x330000 x330001 bt338.1 bt338.2).bind fun t342 => (if t342 = true then ((laws_markTable.f k x330000 x330001 1).bind fun bt343 => (if bt343.1 < 0 then (laws_FnExactDiagramOf.j1 k x5 true x313000 x313001 x325000 x325001 x325002 x337000 x337001 x337002) else ((laws_eqDiagram.f k x337000 x337001 x337002 x325000 x325001 x325002).bind fun t345 => (if t345 = true then (laws_FnExactDiagramOf.j1 k x5 (x8 != x5) x313000 x313001 x325000 x325001 x325002 x337000 x337001 x337002) else (laws_FnExactDiagramOf.j1 k x5 true x313000 x313001 x325000 x325001 x325002 x337000 x337001 x337002))))) else (some false))))
def laws_FnExactDiagramOf.j1 : Nat -> Bool -> Bool -> Int -> List Int -> Int -> List (S63) -> Int -> Int -> List (S63) -> Int -> Option (Bool)
 | 0, _, _, _, _, _, _, _, _, _, _ => none
 | k + 1, x5, x61, x313000, x313001, x325000, x325001, x325002, x337000, x337001, x337002 => if x61 = true then (some false) else ((laws_markDiagram.f k x337000 x337001 x337002 1).bind fun bt346 => ((laws_heldDiagram.f k x337000 bt346.2 x337002 1).bind fun t348 => (if t348 < 0 then (some false) else (if t348 = bt346.1 then ((laws_toTable.f k x313000 x313001).bind fun bt349 => ((impl_DiagramOf.f k bt349.1 bt349.2).bind fun bt353 => ((laws_eqDiagram.f k bt353.1 bt353.2.1 bt353.2.2.1 x325000 x325001 x325002).bind fun t360 => (if t360 = true then (laws_FnExactDiagramOf.j2 k bt346.1 (bt353.2.2.2 != x5) x337000 bt346.2 x337002) else (laws_FnExactDiagramOf.j2 k bt346.1 true x337000 bt346.2 x337002))))) else (some false)))))
def laws_FnExactDiagramOf.j2 : Nat -> Int -> Bool -> Int -> List (S63) -> Int -> Option (Bool)
 | 0, _, _, _, _, _ => none
 | k + 1, x10, x87, x337000, x337001, x337002 => if x87 = true then (some false) else ((laws_heldDiagram.f k x337000 x337001 x337002 1).bind fun t361 => (if t361 < 0 then (some false) else (if t361 = x10 then (some true) else (some false))))
end
def laws_FnExactDiagramOf.f (k : Nat) (a0_0 : Int) (l0_1 : List Int) : Option (Bool) := (laws_szTable.f a0_0 l0_1 1048576).bind fun t313 => (if t313 < 0 then (some true) else ((laws_toTable.f k a0_0 l0_1).bind fun bt314 => ((spec_DiagramOf.f k bt314.1 bt314.2).bind fun bt318 => ((laws_toTable.f k a0_0 l0_1).bind fun bt325 => ((impl_DiagramOf.f k bt325.1 bt325.2).bind fun bt330 => ((laws_eqDiagram.f k bt330.1 bt330.2.1 bt330.2.2.1 bt318.1 bt318.2.1 bt318.2.2.1).bind fun t337 => (if t337 = true then (laws_FnExactDiagramOf.j0 k bt318.2.2.2 bt330.2.2.2 (bt330.2.2.2 != bt318.2.2.2) a0_0 l0_1 bt318.1 bt318.2.1 bt318.2.2.1 bt325.1 bt325.2 bt330.1 bt330.2.1 bt330.2.2.1) else (laws_FnExactDiagramOf.j0 k bt318.2.2.2 bt330.2.2.2 true a0_0 l0_1 bt318.1 bt318.2.1 bt318.2.2.1 bt325.1 bt325.2 bt330.1 bt330.2.1 bt330.2.2.1))))))))
theorem laws_FnExactDiagramOf.mono_l : ∀ k, (∀ y0 y1 y2 y3 y4 y5 y6 y7 y8 y9 y10 y11 y12, LeO (laws_FnExactDiagramOf.j0 k y0 y1 y2 y3 y4 y5 y6 y7 y8 y9 y10 y11 y12) (laws_FnExactDiagramOf.j0 (k + 1) y0 y1 y2 y3 y4 y5 y6 y7 y8 y9 y10 y11 y12)) /\ (∀ y0 y1 y2 y3 y4 y5 y6 y7 y8 y9, LeO (laws_FnExactDiagramOf.j1 k y0 y1 y2 y3 y4 y5 y6 y7 y8 y9) (laws_FnExactDiagramOf.j1 (k + 1) y0 y1 y2 y3 y4 y5 y6 y7 y8 y9)) /\ (∀ y0 y1 y2 y3 y4, LeO (laws_FnExactDiagramOf.j2 k y0 y1 y2 y3 y4) (laws_FnExactDiagramOf.j2 (k + 1) y0 y1 y2 y3 y4))
 | 0 => by refine ⟨?_, ?_, ?_⟩ <;> (intros; intro r h; first | (simp [laws_FnExactDiagramOf.j0] at h; done) | (simp [laws_FnExactDiagramOf.j1] at h; done) | (simp [laws_FnExactDiagramOf.j2] at h; done))
 | k + 1 => by
  obtain ⟨ih0, ih1, ih2⟩ := laws_FnExactDiagramOf.mono_l k
  refine ⟨?_, ?_, ?_⟩ <;> (
   intros
   first | unfold laws_FnExactDiagramOf.j0 | unfold laws_FnExactDiagramOf.j1 | unfold laws_FnExactDiagramOf.j2
   repeat' first | (with_reducible first | apply ih0 | apply ih1 | apply ih2 | apply impl_DiagramOf.mono | apply laws_eqDiagram.mono | apply laws_eqTable.mono | apply laws_heldDiagram.mono | apply laws_markDiagram.mono | apply laws_markTable.mono | apply laws_toTable.mono | apply spec_DiagramOf.mono | exact LeO.refl _ | exact LeO.none _ | refine LeO.ite ?_ ?_ | refine LeO.bind ?_ (fun _ => ?_)) | exact LeO.none _ | refine LeO.ite ?_ ?_ | refine LeO.bind ?_ (fun _ => ?_))
theorem laws_FnExactDiagramOf.mono : ∀ a0 a1 k, LeO (laws_FnExactDiagramOf.f k a0 a1) (laws_FnExactDiagramOf.f (k + 1) a0 a1) := by
 intro a0 a1 k
 obtain ⟨ih0, ih1, ih2⟩ := laws_FnExactDiagramOf.mono_l k
 unfold laws_FnExactDiagramOf.f
 repeat' first | (with_reducible first | apply ih0 | apply ih1 | apply ih2 | apply impl_DiagramOf.mono | apply laws_eqDiagram.mono | apply laws_eqTable.mono | apply laws_heldDiagram.mono | apply laws_markDiagram.mono | apply laws_markTable.mono | apply laws_toTable.mono | apply spec_DiagramOf.mono | exact LeO.refl _ | exact LeO.none _ | refine LeO.ite ?_ ?_ | refine LeO.bind ?_ (fun _ => ?_)) | exact LeO.none _ | refine LeO.ite ?_ ?_ | refine LeO.bind ?_ (fun _ => ?_)
set_option maxHeartbeats 8000000 in
set_option maxRecDepth 100000 in
theorem laws_FnExactDiagramOf.calls (k : Nat) (a0_0 : Int) (A0_1 : Option Addr) (c0_1 : Nat) (l0_1 : List Int) (w : World) (hr0_1 : Kd.C (Kd.int .i64) w A0_1 l0_1.length l0_1) (hc0_1 : l0_1.length <= c0_1) (h : laws_FnExactDiagramOf.f k a0_0 l0_1 = some true) :
 Calls Try.prog 5 #[.agg #[.int .i64 a0_0, .slice A0_1 l0_1.length c0_1]] w fun e w' => e = .returned (.bool true) /\ Below w.heap.size w w' := by
 have hu37 := Try.underlying37
 have hu29 := Try.underlying29
 have hu41 := Try.underlying41
 have HR0_1 := Aside0.mk hr0_1
 have HC0_1 := Aside0.mk hc0_1
 clear hr0_1 hc0_1
 have HB := Aside0.mk (Below.refl w.heap.size w)
 have H := h
 clear h
 unfold laws_FnExactDiagramOf.f at H
 replace H := bindA H; obtain ⟨t313, A2, H⟩ := H
 replace H := ifB H; rcases H with ⟨c3b0, H⟩ | ⟨c3b0, H⟩
 · first | (obtain rfl := Option.some.inj H) | clear H
   go_enter Try.func5, Try.ntmps5
   go_wp2_with (first | ((with_reducible refine gate_dst (N := 1) rfl ?_); refine boxE (cs := #[.int .i64 a0_0, .slice A0_1 l0_1.length c0_1]) (t := 37) ?_; intro gb312 hg w4 hbox hb; refine E4b HB.1 hg hbox hb ?_; clear HB; intro HB BK312 GW312 GE312; clear hb hbox hg; obtain ⟨hcz5_0, hcz5_1, hfz5_0, hfz5_1⟩ := cz2 BK312.1) | ((with_reducible refine gate_callee (f := 19) rfl ?_); refine goesM (N := (some 16)) #[.agg #[.int .i64 a0_0, .slice A0_1 l0_1.length c0_1], .int .i64 1048576] Try.func19 ?_; (with_reducible refine (laws_szTable.calls a0_0 _ _ l0_1 1048576 t313 _ ?side1 ?side2 A2.1).mono ?_); (case side1 => exact CB (C_below HR0_1.1 HB.1)); (case side2 => exact HC0_1.1); rintro e w6 ⟨rfl, hb⟩; refine ⟨_, rfl, ?_⟩; refine E2 (bB BK312.1 hb) (bS HB.1 hb) ?_; clear BK312 HB; intro BK312 HB; (try clear hb)))
   go_ret
   exact ⟨RF, BL HB.1⟩
 replace H := bindA H; obtain ⟨⟨t314, t315⟩, A7, H⟩ := H
 dsimp only at H
 replace H := bindA H; obtain ⟨⟨t318, t319, t322, t323⟩, A8, H⟩ := H
 dsimp only at H
 replace H := bindA H; obtain ⟨⟨t325, t326⟩, A9, H⟩ := H
 dsimp only at H
 replace H := bindA H; obtain ⟨⟨t330, t331, t334, t335⟩, A10, H⟩ := H
 dsimp only at H
 have HC11 := Aside0.mk H
 clear H
 go_enter Try.func5, Try.ntmps5
 go_upto_region 8 with (first | ((with_reducible refine gate_dst (N := 1) rfl ?_); refine boxE (cs := #[.int .i64 a0_0, .slice A0_1 l0_1.length c0_1]) (t := 37) ?_; intro gb312 hg w12 hbox hb; refine E4b HB.1 hg hbox hb ?_; clear HB; intro HB BK312 GW312 GE312; clear hb hbox hg; obtain ⟨hcz13_0, hcz13_1, hfz13_0, hfz13_1⟩ := cz2 BK312.1) | ((with_reducible refine gate_callee (f := 19) rfl ?_); refine goesM (N := (some 16)) #[.agg #[.int .i64 a0_0, .slice A0_1 l0_1.length c0_1], .int .i64 1048576] Try.func19 ?_; (with_reducible refine (laws_szTable.calls a0_0 _ _ l0_1 1048576 t313 _ ?side1 ?side2 A2.1).mono ?_); (case side1 => exact CB (C_below HR0_1.1 HB.1)); (case side2 => exact HC0_1.1); rintro e w14 ⟨rfl, hb⟩; refine ⟨_, rfl, ?_⟩; refine E2 (bB BK312.1 hb) (bS HB.1 hb) ?_; clear BK312 HB; intro BK312 HB; (try clear hb); obtain ⟨hcz15_0, hcz15_1, hfz15_0, hfz15_1⟩ := cz2 BK312.1) | ((with_reducible refine gate_callee (f := 21) rfl ?_); refine goesM (N := (some 21)) #[.agg #[.int .i64 a0_0, .slice A0_1 l0_1.length c0_1]] Try.func21 ?_; (with_reducible refine (laws_toTable.calls k a0_0 _ _ l0_1 t314 t315 _ ?side1 ?side2 A7.1).mono ?_); (case side1 => exact CB (C_below HR0_1.1 HB.1)); (case side2 => exact HC0_1.1); rintro e w16 ⟨v316, rfl, ho0, hb⟩; refine ⟨_, rfl, ?_⟩; refine E3 (R_lower ho0 (bZ HB.1)) (bB BK312.1 hb) (bS HB.1 hb) ?_; clear BK312 HB; intro HO317 BK312 HB; (try clear hb); (try clear ho0); obtain ⟨Ao17, co17, eo17⟩ := R_slice HO317.1; subst eo17) | ((with_reducible refine gate_callee (f := 20) rfl ?_); refine goesM (N := (some 22)) #[.agg #[.int .i64 t314, .slice Ao17 t315.length co17]] Try.func20 ?_; (with_reducible refine (spec_DiagramOf.calls k t314 _ _ t315 t318 t319 t322 t323 _ ?side1 ?side2 A8.1).mono ?_); (case side1 => exact CB (R_reads' HO317.1).2.2); (case side2 => exact (R_reads' HO317.1).2.1); rintro e w18 ⟨v320, rfl, ho0, hb⟩; refine ⟨_, rfl, ?_⟩; refine E4 (rB HO317.1 hb) (R_lower ho0 (bZ HB.1)) (bB BK312.1 hb) (bS HB.1 hb) ?_; clear HO317 BK312 HB; intro HO317 HO321 BK312 HB; (try clear hb); (try clear ho0)) | ((with_reducible refine gate_dst (N := 4) rfl ?_); refine boxE (cs := #[.int .i64 0, .slice none 0 0, .int .i64 0]) (t := 29) ?_; intro gb324 hg w19 hbox hb; refine E9 (rB HO317.1 hb) (rB HO321.1 hb) (bB BK312.1 hb) (bS HB.1 hb) (hbox) (gX HB.1 hg) (gX HB.1 hg) (nB BK312.1 hg) (nC BK312.1 hg) ?_; clear HO317 HO321 BK312 HB; intro HO317 HO321 BK312 HB BK324 GW324 GE324 NB312_324 NB324_312; clear hb hbox hg; have hnb20 := NB324_312.1; have hnc20 := NB312_324.1; obtain ⟨hcz21_0, hcz21_1, hcz21_2, hfz21_0, hfz21_1, hfz21_2⟩ := cz3 BK324.1; obtain ⟨Ao22, co22, eo22⟩ := R_slice HO321.1; subst eo22; obtain ⟨hcz23_0, hcz23_1, hfz23_0, hfz23_1⟩ := cz2 BK312.1) | ((with_reducible refine gate_callee (f := 21) rfl ?_); refine goesM (N := (some 26)) #[.agg #[.int .i64 a0_0, .slice A0_1 l0_1.length c0_1]] Try.func21 ?_; (with_reducible refine (laws_toTable.calls k a0_0 _ _ l0_1 t325 t326 _ ?side1 ?side2 A9.1).mono ?_); (case side1 => exact C_below HR0_1.1 (BL HB.1)); (case side2 => exact HC0_1.1); rintro e w24 ⟨v327, rfl, ho0, hb⟩; refine ⟨_, rfl, ?_⟩; refine E6 (R_elder' (by (with_reducible repeat (first | apply R_alloc | apply R_drewN | apply R_drew)); exact (R_mono (RQ gb324 2 (RQ gb324 1 (RQ gb324 0 (R_types HO317.1 BK324.1 (by decide)) _) _) _) (fun _ h_ => h_.1))) (R_base ho0) hb) (R_below (by (with_reducible repeat (first | apply R_alloc | apply R_drewN | apply R_drew)); exact (R_mono (RQ gb324 2 (RQ gb324 1 (RQ gb324 0 (R_types HO321.1 BK324.1 (by decide)) _) _) _) (fun _ h_ => h_.1))) hb) (R_lower (R_new' ho0 (R_lt (by (with_reducible repeat (first | apply R_alloc | apply R_drewN | apply R_drew)); exact (R_mono (RQ gb324 2 (RQ gb324 1 (RQ gb324 0 (R_types HO317.1 BK324.1 (by decide)) _) _) _) (fun _ h_ => h_.1))))) (bZ HB.1)) (blk_below (g := gb312) (o := .cells #[.int .i64 a0_0, .slice A0_1 l0_1.length c0_1] 37 (0, 0)) (PF1 NB312_324.1 BK312.1) hb) (blk_below (g := gb324) (o := .cells #[.int .i64 t318, .slice Ao22 t319.length co22, .int .i64 t322] 29 (0, 0)) (PF0 BK324.1) hb) (bS HB.1 hb) ?_; clear HO317 HO321 BK312 BK324 HB; intro HO317 HO321 HO328 BK312 BK324 HB; (try clear hb); (try clear ho0)) | ((with_reducible refine gate_dst (N := 6) rfl ?_); refine boxE (cs := #[.int .i64 0, .slice none 0 0]) (t := 41) ?_; intro gb329 hg w25 hbox hb; refine E13 (rB HO317.1 hb) (rB HO321.1 hb) (rB HO328.1 hb) (bB BK312.1 hb) (bB BK324.1 hb) (bS HB.1 hb) (hbox) (gX HB.1 hg) (gX HB.1 hg) (nB BK312.1 hg) (nC BK312.1 hg) (nB BK324.1 hg) (nC BK324.1 hg) ?_; clear HO317 HO321 HO328 BK312 BK324 HB; intro HO317 HO321 HO328 BK312 BK324 HB BK329 GW329 GE329 NB312_329 NB329_312 NB324_329 NB329_324; clear hb hbox hg; have hnb26 := NB329_312.1; have hnc26 := NB312_329.1; have hnb27 := NB329_324.1; have hnc27 := NB324_329.1; obtain ⟨hcz28_0, hcz28_1, hfz28_0, hfz28_1⟩ := cz2 BK329.1; obtain ⟨Ao29, co29, eo29⟩ := R_slice HO328.1; subst eo29) | ((with_reducible refine gate_callee (f := 22) rfl ?_); refine goesM (N := (some 29)) #[.agg #[.int .i64 t325, .slice Ao29 t326.length co29]] Try.func22 ?_; (with_reducible refine (impl_DiagramOf.calls k t325 _ _ t326 t330 t331 t334 t335 _ ?side1 ?side2 A10.1).mono ?_); (case side1 => refine (R_reads' (e := 3) (base := w.heap.size) (ok := fun k_ => (True /\ some k_ ≠ (.slice Ao17 t315.length co17 : Value).ownBlock)) (n := t326.length) (c := co29) ?_).2.2; exact (by (with_reducible repeat (first | apply R_alloc | apply R_drewN | apply R_drew)); exact (R_mono (RQ gb329 1 (RQ gb329 0 (R_types HO328.1 BK329.1 (by decide)) _) _) (fun _ h_ => h_.1)))); (case side2 => exact (R_reads' HO328.1).2.1); rintro e w30 ⟨v332, rfl, ho0, hb⟩; refine ⟨_, rfl, ?_⟩; refine E8 (R_below (by (with_reducible repeat (first | apply R_alloc | apply R_drewN | apply R_drew)); exact (R_mono (RQ gb329 1 (RQ gb329 0 (R_types HO317.1 BK329.1 (by decide)) _) _) (fun _ h_ => h_.1))) hb) (R_elder' (by (with_reducible repeat (first | apply R_alloc | apply R_drewN | apply R_drew)); exact (R_mono (RQ gb329 1 (RQ gb329 0 (R_types HO321.1 BK329.1 (by decide)) _) _) (fun _ h_ => h_.1))) (R_base ho0) hb) (R_below (by (with_reducible repeat (first | apply R_alloc | apply R_drewN | apply R_drew)); exact (R_mono (RQ gb329 1 (RQ gb329 0 (R_types HO328.1 BK329.1 (by decide)) _) _) (fun _ h_ => h_.1))) hb) (R_lower (R_new' ho0 (R_lt (by (with_reducible repeat (first | apply R_alloc | apply R_drewN | apply R_drew)); exact (R_mono (RQ gb329 1 (RQ gb329 0 (R_types HO321.1 BK329.1 (by decide)) _) _) (fun _ h_ => h_.1))))) (bZ HB.1)) (blk_below (g := gb312) (o := .cells #[.int .i64 a0_0, .slice A0_1 l0_1.length c0_1] 37 (0, 0)) (PF1 NB312_329.1 BK312.1) hb) (blk_below (g := gb324) (o := .cells #[.int .i64 t318, .slice Ao22 t319.length co22, .int .i64 t322] 29 (0, 0)) (PF1 NB324_329.1 BK324.1) hb) (blk_below (g := gb329) (o := .cells #[.int .i64 t325, .slice Ao29 t326.length co29] 41 (0, 0)) (PF0 BK329.1) hb) (bS HB.1 hb) ?_; clear HO317 HO321 HO328 BK312 BK324 BK329 HB; intro HO317 HO321 HO328 HO333 BK312 BK324 BK329 HB; (try clear hb); (try clear ho0)) | ((with_reducible refine gate_dst (N := 7) rfl ?_); refine boxE (cs := #[.int .i64 0, .slice none 0 0, .int .i64 0]) (t := 29) ?_; intro gb336 hg w31 hbox hb; refine E17 (rB HO317.1 hb) (rB HO321.1 hb) (rB HO328.1 hb) (rB HO333.1 hb) (bB BK312.1 hb) (bB BK324.1 hb) (bB BK329.1 hb) (bS HB.1 hb) (hbox) (gX HB.1 hg) (gX HB.1 hg) (nB BK312.1 hg) (nC BK312.1 hg) (nB BK324.1 hg) (nC BK324.1 hg) (nB BK329.1 hg) (nC BK329.1 hg) ?_; clear HO317 HO321 HO328 HO333 BK312 BK324 BK329 HB; intro HO317 HO321 HO328 HO333 BK312 BK324 BK329 HB BK336 GW336 GE336 NB312_336 NB336_312 NB324_336 NB336_324 NB329_336 NB336_329; clear hb hbox hg; have hnb32 := NB336_312.1; have hnc32 := NB312_336.1; have hnb33 := NB336_324.1; have hnc33 := NB324_336.1; have hnb34 := NB336_329.1; have hnc34 := NB329_336.1; obtain ⟨hcz35_0, hcz35_1, hcz35_2, hfz35_0, hfz35_1, hfz35_2⟩ := cz3 BK336.1; obtain ⟨Ao36, co36, eo36⟩ := R_slice HO333.1; subst eo36))
 (try simp only [Act.put, List.setIfInBounds_toArray, List.set_cons_zero, List.set_cons_succ])
 go_cut [40] (fun v40 wc => ∃ (kq : Nat) (x40_10 : Bool), v40 = .bool x40_10 /\ Aside0 (laws_FnExactDiagramOf.j0 kq t323 t335 x40_10 a0_0 l0_1 t318 t319 t322 t325 t326 t330 t331 t334 = some true) /\ Aside0 (kq <= k) /\ Aside0 (Kd.R k63 63 wc w.heap.size (fun k_ => some k_ ≠ ((.slice Ao36 t331.length co36) : Value).ownBlock) (.slice Ao22 t319.length co22) t319) /\ Aside0 (Kd.R (Kd.int .i64) 3 wc w.heap.size (fun _ => True) (.slice Ao29 t326.length co29) t326) /\ Aside0 (Kd.R k63 63 wc w.heap.size (fun k_ => some k_ ≠ ((.slice Ao22 t319.length co22) : Value).ownBlock) (.slice Ao36 t331.length co36) t331) /\ Aside0 (wc.heap[gb312]? = some (.cells #[.int .i64 a0_0, (.slice A0_1 l0_1.length c0_1)] 37 (0, 0))) /\ Aside0 (wc.heap[gb324]? = some (.cells #[.int .i64 t318, (.slice Ao22 t319.length co22), .int .i64 t322] 29 (0, 0))) /\ Aside0 (wc.heap[gb329]? = some (.cells #[.int .i64 t325, (.slice Ao29 t326.length co29)] 41 (0, 0))) /\ Aside0 (wc.heap[gb336]? = some (.cells #[.int .i64 t330, (.slice Ao36 t331.length co36), .int .i64 t334] 29 (0, 0))) /\ Aside0 (Below w.heap.size w wc))
 case first =>
  have H := HC11.1
  clear HC11
  replace H := bindA H; obtain ⟨t337, A37, H⟩ := H
  replace H := ifT H (by cases k <;> simp [laws_FnExactDiagramOf.j0]); obtain ⟨rfl, H⟩ := H
  have H' := Aside0.mk H
  clear H
  obtain ⟨hcz42_0, hcz42_1, hcz42_2, hfz42_0, hfz42_1, hfz42_2⟩ := cz3 BK336.1
  obtain ⟨hcz45_0, hcz45_1, hcz45_2, hfz45_0, hfz45_1, hfz45_2⟩ := cz3 BK324.1
  go_wp2_with (first | ((with_reducible refine gate_callee (f := 16) rfl ?_); refine goesM (N := (some 34)) #[.agg #[.int .i64 t330, .slice Ao36 t331.length co36, .int .i64 t334], .agg #[.int .i64 t318, .slice Ao22 t319.length co22, .int .i64 t322]] Try.func16 ?_; (with_reducible refine (laws_eqDiagram.calls k t330 _ _ t331 t334 t318 _ _ t319 t322 true _ ?side1 ?side2 ?side3 ?side4 A37.1).mono ?_); (case side1 => refine (R_reads' (e := 63) (base := w.heap.size) (ok := fun k_ => (True /\ some k_ ≠ (.slice Ao22 t319.length co22 : Value).ownBlock)) (n := t331.length) (c := co36) ?_).2.2; exact (by (with_reducible repeat (first | apply R_alloc | apply R_drewN | apply R_drew)); exact (R_mono (RQ gb336 2 (RQ gb336 1 (RQ gb336 0 (R_types HO333.1 BK336.1 (by decide)) _) _) _) (fun _ h_ => h_.1)))); (case side2 => exact (R_reads' HO333.1).2.1); (case side3 => refine (R_reads' (e := 63) (base := w.heap.size) (ok := fun k_ => (True /\ some k_ ≠ (.slice Ao36 t331.length co36 : Value).ownBlock)) (n := t319.length) (c := co22) ?_).2.2; exact (by (with_reducible repeat (first | apply R_alloc | apply R_drewN | apply R_drew)); exact (R_mono (RQ gb336 2 (RQ gb336 1 (RQ gb336 0 (R_types HO321.1 BK336.1 (by decide)) _) _) _) (fun _ h_ => h_.1)))); (case side4 => exact (R_reads' HO321.1).2.1); rintro e w46 ⟨rfl, hb⟩; refine ⟨_, rfl, ?_⟩; refine E9 (R_below (by (with_reducible repeat (first | apply R_alloc | apply R_drewN | apply R_drew)); exact (R_mono (RQ gb336 2 (RQ gb336 1 (RQ gb336 0 (R_types HO317.1 BK336.1 (by decide)) _) _) _) (fun _ h_ => h_.1))) hb) (R_below (by (with_reducible repeat (first | apply R_alloc | apply R_drewN | apply R_drew)); exact (R_mono (RQ gb336 2 (RQ gb336 1 (RQ gb336 0 (R_types HO321.1 BK336.1 (by decide)) _) _) _) (fun _ h_ => h_.1))) hb) (R_below (by (with_reducible repeat (first | apply R_alloc | apply R_drewN | apply R_drew)); exact (R_mono (RQ gb336 2 (RQ gb336 1 (RQ gb336 0 (R_types HO328.1 BK336.1 (by decide)) _) _) _) (fun _ h_ => h_.1))) hb) (R_below (by (with_reducible repeat (first | apply R_alloc | apply R_drewN | apply R_drew)); exact (R_mono (RQ gb336 2 (RQ gb336 1 (RQ gb336 0 (R_types HO333.1 BK336.1 (by decide)) _) _) _) (fun _ h_ => h_.1))) hb) (blk_below (g := gb312) (o := .cells #[.int .i64 a0_0, .slice A0_1 l0_1.length c0_1] 37 (0, 0)) (PF1 NB312_336.1 BK312.1) hb) (blk_below (g := gb324) (o := .cells #[.int .i64 t318, .slice Ao22 t319.length co22, .int .i64 t322] 29 (0, 0)) (PF1 NB324_336.1 BK324.1) hb) (blk_below (g := gb329) (o := .cells #[.int .i64 t325, .slice Ao29 t326.length co29] 41 (0, 0)) (PF1 NB329_336.1 BK329.1) hb) (blk_below (g := gb336) (o := .cells #[.int .i64 t330, .slice Ao36 t331.length co36, .int .i64 t334] 29 (0, 0)) (PF0 BK336.1) hb) (bS HB.1 hb) ?_; clear HO317 HO321 HO328 HO333 BK312 BK324 BK329 BK336 HB; intro HO317 HO321 HO328 HO333 BK312 BK324 BK329 BK336 HB; (try clear hb)))
  go_meet
  case rel => exact ⟨_, ((t335 != t323)), RG, H', ⟨by first | omega | exact Nat.le_refl _⟩, ⟨RPE (R_mono HO321.1 (fun _ hk => hk.2))⟩, ⟨RPE (R_mono HO328.1 (fun _ hk => trivial))⟩, ⟨RPE (R_mono HO333.1 (fun _ hk => hk.2))⟩, ⟨PB BK312.1⟩, ⟨PB BK324.1⟩, ⟨PB BK329.1⟩, ⟨PB BK336.1⟩, ⟨BL HB.1⟩⟩
 clear HC11
 clear c3b0 hcz13_0 hcz13_1 hcz15_0 hcz15_1 hcz21_0 hcz21_1 hcz21_2 hcz23_0 hcz23_1 hcz28_0 hcz28_1 hcz35_0 hcz35_1 hcz35_2 hfz13_0 hfz13_1 hfz15_0 hfz15_1 hfz21_0 hfz21_1 hfz21_2 hfz23_0 hfz23_1 hfz28_0 hfz28_1 hfz35_0 hfz35_1 hfz35_2
 obtain ⟨kq, x40_10, rfl, HA, HJ10, HO_325001, HO_330001, HO_337001, BK312, BK324, BK329, BK336, HB⟩ := hcut
 cases kq with
 | zero => exact absurd HA.1 (by simp [laws_FnExactDiagramOf.j0])
 | succ kj10 => ?_
 have H := HA.1
 clear HA
 simp only [laws_FnExactDiagramOf.j0] at H
 replace H := ifF H (by simp); obtain ⟨rfl, H⟩ := H
 replace H := bindA H; obtain ⟨⟨t338, t339⟩, A56, H⟩ := H
 dsimp only at H
 replace H := bindA H; obtain ⟨t342, A57, H⟩ := H
 replace H := ifT H (by simp); obtain ⟨rfl, H⟩ := H
 replace H := bindA H; obtain ⟨⟨t343, t344⟩, A59, H⟩ := H
 dsimp only at H
 have HC60 := Aside0.mk H
 clear H
 try go_wp2
 refine E8 (R_drew HO_325001.1) (R_drew HO_330001.1) (R_drew HO_337001.1) (blk_drew BK312.1) (blk_drew BK324.1) (blk_drew BK329.1) (blk_drew BK336.1) (below_drew1 HB.1) ?_
 clear HO_325001 HO_330001 HO_337001 BK312 BK324 BK329 BK336 HB
 intro HO_325001 HO_330001 HO_337001 BK312 BK324 BK329 BK336 HB
 refine start_ (n := 5) (S := fun w' => w'.cell? ⟨gb329, 0, none⟩ = some (.int .i64 t325) /\ w'.cell? ⟨gb329, 1, none⟩ = some (.slice Ao29 t326.length co29) /\ w'.cell? ⟨gb312, 0, none⟩ = some (.int .i64 a0_0) /\ w'.cell? ⟨gb312, 1, none⟩ = some (.slice A0_1 l0_1.length c0_1)) (ds := []) #[Zz,Zz,Zz,Zz,Zz] (by kernel_rfl) rfl rfl ⟨(blk_cell BK329.1 0).trans rfl, (blk_cell BK329.1 1).trans rfl, (blk_cell BK312.1 0).trans rfl, (blk_cell BK312.1 1).trans rfl⟩ (fun hHeld => ?_)
 generalize wc.drew = w61 at HO_325001 HO_330001 HO_337001 BK312 BK324 BK329 BK336 HB hHeld ⊢
 refine takeF 0 (N := some 41) hHeld ?_
 refine takeF 1 (N := some 42) hHeld ?_
 refine one_ (i := 2) (N := some 43) #[Yy,Yy,Yy,Zz,Zz] rfl rfl (by kernel_rfl) (by decide) (fun K hK => ?_)
 refine goes_ Try.func21 (by kernel_rfl) rfl #[.agg #[.int .i64 a0_0, .slice A0_1 l0_1.length c0_1]] (by rfl) rfl rfl (by (try simp only [List.map_toArray, List.map_cons, List.map_nil]); first | done | rfl | (simp only [List.length_drop, List.length_take]; rfl)) ?_
 with_reducible refine (laws_toTable.calls kj10 a0_0 _ _ l0_1 t338 t339 _ ?side1 ?side2 A56.1).mono ?_
 (case side1 => exact CB (C_below HR0_1.1 HB.1))
 (case side2 => exact HC0_1.1)
 rintro e w62 ⟨v340, rfl, ho0, hb⟩
 refine ⟨_, rfl, ?_⟩
 refine E9 (rB HO_325001.1 hb) (R_elder' (PR HO_330001.1) (R_base ho0) hb) (rB HO_337001.1 hb) (R_lower (R_new' ho0 (R_lt (PR HO_330001.1))) (bZ HB.1)) (bB BK312.1 hb) (bB BK324.1 hb) (bB BK329.1 hb) (bB BK336.1 hb) (bS HB.1 hb) ?_
 clear HO_325001 HO_330001 HO_337001 BK312 BK324 BK329 BK336 HB
 intro HO_325001 HO_330001 HO_337001 HO341 BK312 BK324 BK329 BK336 HB
 (try clear hb)
 (try clear hb2)
 (try clear hk)
 (try clear hi)
 (try clear ho0)
 obtain ⟨Ao63, co63, eo63⟩ := R_slice HO341.1
 (first | subst eo63 | (injection eo63 with f1_ f2_ f3_; have f4_ := f1_.symm; have f5_ := f3_.symm; clear f1_ f2_ f3_; subst f4_; subst f5_))
 refine hK.out _ _ ⟨(blk_cell BK329.1 0).trans rfl, (blk_cell BK329.1 1).trans rfl, (blk_cell BK312.1 0).trans rfl, (blk_cell BK312.1 1).trans rfl⟩ (fun hHeld => ?_)
 clear hK K
 refine norm_ (a' := ?_) ?_ ?_
 rotate_left
 · show Act.put _ (some 43) _ = _
   simp only [Act.put, List.setIfInBounds_toArray, List.set_cons_zero, List.set_cons_succ, i64_w, i32_w]
   rfl
 refine one_ (i := 3) (N := some 44) #[Yy,Yy,Yy,Yy,Zz] rfl rfl (by kernel_rfl) (by decide) (fun K hK => ?_)
 refine goes_ Try.func23 (by kernel_rfl) rfl #[.agg #[.int .i64 t325, .slice Ao29 t326.length co29], .agg #[.int .i64 t338, .slice Ao63 t339.length co63]] (by rfl) rfl rfl (by (try simp only [List.map_toArray, List.map_cons, List.map_nil]); first | done | rfl | (simp only [List.length_drop, List.length_take]; rfl)) ?_
 with_reducible refine (laws_eqTable.calls kj10 t325 _ _ t326 t338 _ _ t339 true _ ?side1 ?side2 ?side3 ?side4 A57.1).mono ?_
 (case side1 => exact CB (R_reads' HO_330001.1).2.2)
 (case side2 => exact (R_reads' HO_330001.1).2.1)
 (case side3 => exact CB (R_reads' HO341.1).2.2)
 (case side4 => exact (R_reads' HO341.1).2.1)
 rintro e w64 ⟨rfl, hb⟩
 refine ⟨_, rfl, ?_⟩
 refine E9 (rB HO_325001.1 hb) (rB HO_330001.1 hb) (rB HO_337001.1 hb) (rB HO341.1 hb) (bB BK312.1 hb) (bB BK324.1 hb) (bB BK329.1 hb) (bB BK336.1 hb) (bS HB.1 hb) ?_
 clear HO_325001 HO_330001 HO_337001 HO341 BK312 BK324 BK329 BK336 HB
 intro HO_325001 HO_330001 HO_337001 HO341 BK312 BK324 BK329 BK336 HB
 (try clear hb)
 (try clear hb2)
 (try clear hk)
 (try clear hi)
 refine hK.out _ _ ⟨(blk_cell BK329.1 0).trans rfl, (blk_cell BK329.1 1).trans rfl, (blk_cell BK312.1 0).trans rfl, (blk_cell BK312.1 1).trans rfl⟩ (fun hHeld => ?_)
 clear hK K
 refine norm_ (a' := ?_) ?_ ?_
 rotate_left
 · show Act.put _ (some 44) _ = _
   simp only [Act.put, List.setIfInBounds_toArray, List.set_cons_zero, List.set_cons_succ, i64_w, i32_w]
   rfl
 refine pure_ (i := 4) (N := some 45) (v := ?_) (a' := ?_) #[Yy,Yy,Yy,Yy,Yy] rfl rfl (by kernel_rfl) (fun _ _ _ h => h) (Or.inl ⟨by rfl, ?_⟩) ?_ ?_
 rotate_left
 · intro w'
   go_simp
   with_reducible rfl
 rotate_left
 · simp only [Act.put, List.setIfInBounds_toArray, List.set_cons_zero, List.set_cons_succ, i64_w, i32_w]
   rfl
 refine done_ (by kernel_rfl) ?_
 obtain ⟨hcz68_0, hcz68_1, hfz68_0, hfz68_1⟩ := cz2 BK329.1
 go_upto_region 14 with (first | ((with_reducible refine gate_callee (f := 24) rfl ?_); refine goesM (N := (some 48)) #[.agg #[.int .i64 t325, .slice Ao29 t326.length co29], .int .i64 1] Try.func24 ?_; (with_reducible refine (laws_markTable.calls kj10 t325 (fun k_ => some k_ = (.slice Ao29 t326.length co29 : Value).ownBlock) (.slice Ao29 t326.length co29) t326 1 t343 t344 w _ ?side1 ?side2 A59.1).mono ?_); (case side1 => exact BL HB.1); (case side2 => exact R_tight rfl HO_330001.1); rintro e w69 ⟨rfl, hy0, hb, hkp⟩; refine ⟨_, rfl, ?_⟩; refine E9 (R_mono (ok' := fun k_ => some k_ ≠ (.slice Ao36 t331.length co36 : Value).ownBlock) (R_keptB ((R_apart' HO_325001.1 (R_typed HO_330001.1) (by decide))) hkp (fun k_ hk_ hs_ => (hk_.2) hs_)) (fun k_ hk_ => hk_.1.1)) (R_reok rfl hy0 (fun k_ e_ => HO_330001.1.1 k_ e_)) (R_mono (ok' := fun k_ => some k_ ≠ (.slice Ao22 t319.length co22 : Value).ownBlock) (R_keptB ((R_apart' HO_337001.1 (R_typed HO_330001.1) (by decide))) hkp (fun k_ hk_ hs_ => (hk_.2) hs_)) (fun k_ hk_ => hk_.1.1)) (blk_kept (PB BK312.1) hkp (fun hs_ => (fun e_ => (R_ne HO_330001.1 BK312.1 (by decide)) e_) hs_)) (blk_kept (PB BK324.1) hkp (fun hs_ => (fun e_ => (R_ne HO_330001.1 BK324.1 (by decide)) e_) hs_)) (blk_kept (PB BK329.1) hkp (fun hs_ => (fun e_ => (R_ne HO_330001.1 BK329.1 (by decide)) e_) hs_)) (blk_kept (PB BK336.1) hkp (fun hs_ => (fun e_ => (R_ne HO_330001.1 BK336.1 (by decide)) e_) hs_)) (R_mono (ok' := fun k_ => some k_ ≠ (.slice Ao29 t326.length co29 : Value).ownBlock) (R_keptB (HO341.1) hkp (fun k_ hk_ hs_ => (hk_.2) hs_)) (fun k_ hk_ => hk_.1.2)) (hb) ?_; clear HO_325001 HO_330001 HO_337001 BK312 BK324 BK329 BK336 HO341 HB; intro HO_325001 HO_330001 HO_337001 BK312 BK324 BK329 BK336 HO341 HB; (try clear hb); (try clear hkp); (try clear hy0)))
 (try simp only [Act.put, List.setIfInBounds_toArray, List.set_cons_zero, List.set_cons_succ])
 go_cut [61] (fun v61 wc => ∃ (kq : Nat) (x61_59 : Bool), v61 = .bool x61_59 /\ Aside0 (laws_FnExactDiagramOf.j1 kq t323 x61_59 a0_0 l0_1 t318 t319 t322 t330 t331 t334 = some true) /\ Aside0 (kq <= kj10) /\ Aside0 (Kd.R k63 63 wc w.heap.size (fun k_ => some k_ ≠ ((.slice Ao36 t331.length co36) : Value).ownBlock) (.slice Ao22 t319.length co22) t319) /\ Aside0 (Kd.R (Kd.int .i64) 3 wc w.heap.size (fun _ => True) (.slice Ao29 t326.length co29) t344) /\ Aside0 (Kd.R k63 63 wc w.heap.size (fun k_ => some k_ ≠ ((.slice Ao22 t319.length co22) : Value).ownBlock) (.slice Ao36 t331.length co36) t331) /\ Aside0 (wc.heap[gb312]? = some (.cells #[.int .i64 a0_0, (.slice A0_1 l0_1.length c0_1)] 37 (0, 0))) /\ Aside0 (wc.heap[gb324]? = some (.cells #[.int .i64 t318, (.slice Ao22 t319.length co22), .int .i64 t322] 29 (0, 0))) /\ Aside0 (wc.heap[gb329]? = some (.cells #[.int .i64 t325, (.slice Ao29 t326.length co29)] 41 (0, 0))) /\ Aside0 (wc.heap[gb336]? = some (.cells #[.int .i64 t330, (.slice Ao36 t331.length co36), .int .i64 t334] 29 (0, 0))) /\ Aside0 (Below w.heap.size w wc))
 case first =>
  have H := HC60.1
  clear HC60
  replace H := ifQ H; rcases H with ⟨c70, H⟩ | ⟨c70, H⟩
  · exact absurd H (by cases kj10 <;> simp [laws_FnExactDiagramOf.j1])
  have c70b0 := decide_eq_false c70
  clear c70
  (first | rw [c70b0] | (simp only [i64_w, i32_w]; rw [c70b0]) | skip)
  replace H := bindA H; obtain ⟨t345, A71, H⟩ := H
  replace H := ifT H (by cases kj10 <;> simp [laws_FnExactDiagramOf.j1]); obtain ⟨rfl, H⟩ := H
  have H' := Aside0.mk H
  clear H
  obtain ⟨hcz76_0, hcz76_1, hcz76_2, hfz76_0, hfz76_1, hfz76_2⟩ := cz3 BK336.1
  obtain ⟨hcz79_0, hcz79_1, hcz79_2, hfz79_0, hfz79_1, hfz79_2⟩ := cz3 BK324.1
  go_wp2_with (first | (go_at_call 16; (with_reducible refine (laws_eqDiagram.calls kj10 t330 _ _ t331 t334 t318 _ _ t319 t322 true _ ?side1 ?side2 ?side3 ?side4 A71.1).mono ?_); (case side1 => exact CB (R_reads' HO_337001.1).2.2); (case side2 => exact (R_reads' HO_337001.1).2.1); (case side3 => exact CB (R_reads' HO_325001.1).2.2); (case side4 => exact (R_reads' HO_325001.1).2.1); rintro e w80 ⟨rfl, hb⟩; refine E9 (rB HO_325001.1 hb) (rB HO_330001.1 hb) (rB HO_337001.1 hb) (rB HO341.1 hb) (bB BK312.1 hb) (bB BK324.1 hb) (bB BK329.1 hb) (bB BK336.1 hb) (bS HB.1 hb) ?_; clear HO_325001 HO_330001 HO_337001 HO341 BK312 BK324 BK329 BK336 HB; intro HO_325001 HO_330001 HO_337001 HO341 BK312 BK324 BK329 BK336 HB; (try clear hb)))
  go_meet
  case rel => exact ⟨_, ((t335 != t323)), RG, H', ⟨by have := HJ10.1; first | omega | exact Nat.le_refl _⟩, ⟨PR HO_325001.1⟩, ⟨RPE (R_mono HO_330001.1 (fun _ hk => trivial))⟩, ⟨PR HO_337001.1⟩, ⟨PB BK312.1⟩, ⟨PB BK324.1⟩, ⟨PB BK329.1⟩, ⟨PB BK336.1⟩, ⟨BL HB.1⟩⟩
 clear HC60
 clear hcz68_0 hcz68_1 hfz68_0 hfz68_1
 obtain ⟨kq, x61_59, rfl, HA, HJ59, HO_325001, HO_330001, HO_337001, BK312, BK324, BK329, BK336, HB⟩ := hcut
 have hl330001_59 := (R_reads' HO_330001.1).1
 rw [hl330001_59] at HO_330001
 (try simp only [hl330001_59])
 (try simp only [hl330001_59] at BK312)
 (try simp only [hl330001_59] at BK324)
 (try simp only [hl330001_59] at BK329)
 (try simp only [hl330001_59] at BK336)
 (try simp only [hl330001_59] at HO_325001)
 (try simp only [hl330001_59] at HO_337001)
 cases kq with
 | zero => exact absurd HA.1 (by simp [laws_FnExactDiagramOf.j1])
 | succ kj59 => ?_
 have H := HA.1
 clear HA
 simp only [laws_FnExactDiagramOf.j1] at H
 replace H := ifF H (by simp); obtain ⟨rfl, H⟩ := H
 replace H := bindA H; obtain ⟨⟨t346, t347⟩, A90, H⟩ := H
 dsimp only at H
 replace H := bindA H; obtain ⟨t348, A91, H⟩ := H
 replace H := ifQ H; rcases H with ⟨c92, H⟩ | ⟨c92, H⟩
 · exact absurd H (by simp)
 have c92b0 := decide_eq_false c92
 clear c92
 first | replace H := ifP H | replace H := ifPf H
 obtain ⟨c100, H⟩ := H
 have c100b0 := beq_iff_eq.mpr c100
 have c100b1 := bne_eq_false_iff_eq.mpr c100
 clear c100
 replace H := bindA H; obtain ⟨⟨t349, t350⟩, A101, H⟩ := H
 dsimp only at H
 replace H := bindA H; obtain ⟨⟨t353, t354, t357, t358⟩, A102, H⟩ := H
 dsimp only at H
 have HC103 := Aside0.mk H
 clear H
 obtain ⟨hcz107_0, hcz107_1, hcz107_2, hfz107_0, hfz107_1, hfz107_2⟩ := cz3 BK336.1
 go_upto_region 25 with (first | ((with_reducible refine gate_callee (f := 25) rfl ?_); refine goesM (N := (some 64)) #[.agg #[.int .i64 t330, .slice Ao36 t331.length co36, .int .i64 t334], .int .i64 1] Try.func25 ?_; (with_reducible refine (laws_markDiagram.calls kj59 t330 (fun k_ => some k_ = (.slice Ao36 t331.length co36 : Value).ownBlock) (.slice Ao36 t331.length co36) t331 t334 1 t346 t347 w _ ?side1 ?side2 A90.1).mono ?_); (case side1 => exact BL HB.1); (case side2 => exact R_tight rfl HO_337001.1); rintro e w108 ⟨rfl, hy0, hb, hkp⟩; refine ⟨_, rfl, ?_⟩; refine E8 (R_mono (ok' := fun k_ => some k_ ≠ (.slice Ao36 t331.length co36 : Value).ownBlock) (R_keptB (HO_325001.1) hkp (fun k_ hk_ hs_ => (hk_) hs_)) (fun k_ hk_ => hk_.1)) (R_mono (ok' := fun k_ => True) (R_keptB ((R_apart' HO_330001.1 (R_typed HO_337001.1) (by decide))) hkp (fun k_ hk_ hs_ => (hk_.2) hs_)) (fun k_ hk_ => trivial)) (R_reok rfl hy0 (fun k_ e_ => HO_337001.1.1 k_ e_)) (blk_kept (PB BK312.1) hkp (fun hs_ => (fun e_ => (R_ne HO_337001.1 BK312.1 (by decide)) e_) hs_)) (blk_kept (PB BK324.1) hkp (fun hs_ => (fun e_ => (R_ne HO_337001.1 BK324.1 (by decide)) e_) hs_)) (blk_kept (PB BK329.1) hkp (fun hs_ => (fun e_ => (R_ne HO_337001.1 BK329.1 (by decide)) e_) hs_)) (blk_kept (PB BK336.1) hkp (fun hs_ => (fun e_ => (R_ne HO_337001.1 BK336.1 (by decide)) e_) hs_)) (hb) ?_; clear HO_325001 HO_330001 HO_337001 BK312 BK324 BK329 BK336 HB; intro HO_325001 HO_330001 HO_337001 BK312 BK324 BK329 BK336 HB; (try clear hb); (try clear hkp); (try clear hy0); obtain ⟨hcz109_0, hcz109_1, hcz109_2, hfz109_0, hfz109_1, hfz109_2⟩ := cz3 BK336.1) | ((with_reducible refine gate_callee (f := 26) rfl ?_); refine goesL_ (some 67) rfl rfl Try.func26 (by kernel_rfl) rfl #[.agg #[.int .i64 t330, .slice Ao36 t347.length co36, .int .i64 t334], .int .i64 1] rfl (by (try simp only [List.map_toArray, List.map_cons, List.map_nil]); first | done | (rw [show t347.length = t331.length from (R_reads' HO_337001.1).1.symm] <;> rfl) | rfl | (simp only [List.length_drop, List.length_take]; rfl)) ?_; (with_reducible refine (laws_heldDiagram.calls kj59 t330 _ _ t347 t334 1 t348 _ ?side1 ?side2 A91.1).mono ?_); (case side1 => exact CB (R_reads' HO_337001.1).2.2); (case side2 => rw [show t347.length = t331.length from (R_reads' HO_337001.1).1.symm]; exact (R_reads' HO_337001.1).2.1); rintro e w110 ⟨rfl, hb⟩; refine ⟨_, rfl, ?_⟩; refine E8 (rB HO_325001.1 hb) (rB HO_330001.1 hb) (rB HO_337001.1 hb) (bB BK312.1 hb) (bB BK324.1 hb) (bB BK329.1 hb) (bB BK336.1 hb) (bS HB.1 hb) ?_; clear HO_325001 HO_330001 HO_337001 BK312 BK324 BK329 BK336 HB; intro HO_325001 HO_330001 HO_337001 BK312 BK324 BK329 BK336 HB; (try clear hb); have hnb111 := NB312_324.1; have hnc111 := NB324_312.1; have hnb112 := NB312_329.1; have hnc112 := NB329_312.1; obtain ⟨hcz113_0, hcz113_1, hfz113_0, hfz113_1⟩ := cz2 BK312.1) | ((with_reducible refine gate_callee (f := 21) rfl ?_); refine goesM (N := (some 75)) #[.agg #[.int .i64 a0_0, .slice A0_1 l0_1.length c0_1]] Try.func21 ?_; (with_reducible refine (laws_toTable.calls kj59 a0_0 _ _ l0_1 t349 t350 _ ?side1 ?side2 A101.1).mono ?_); (case side1 => exact CB (C_below HR0_1.1 HB.1)); (case side2 => exact HC0_1.1); rintro e w114 ⟨v351, rfl, ho0, hb⟩; refine ⟨_, rfl, ?_⟩; refine E9 (rB HO_325001.1 hb) (R_elder' (PR HO_330001.1) (R_base ho0) hb) (rB HO_337001.1 hb) (R_lower (R_new' ho0 (R_lt (PR HO_330001.1))) (bZ HB.1)) (bB BK312.1 hb) (bB BK324.1 hb) (bB BK329.1 hb) (bB BK336.1 hb) (bS HB.1 hb) ?_; clear HO_325001 HO_330001 HO_337001 BK312 BK324 BK329 BK336 HB; intro HO_325001 HO_330001 HO_337001 HO352 BK312 BK324 BK329 BK336 HB; (try clear hb); (try clear ho0); obtain ⟨Ao115, co115, eo115⟩ := R_slice HO352.1; subst eo115) | ((with_reducible refine gate_callee (f := 22) rfl ?_); refine goesM (N := (some 76)) #[.agg #[.int .i64 t349, .slice Ao115 t350.length co115]] Try.func22 ?_; (with_reducible refine (impl_DiagramOf.calls kj59 t349 _ _ t350 t353 t354 t357 t358 _ ?side1 ?side2 A102.1).mono ?_); (case side1 => exact CB (R_reads' HO352.1).2.2); (case side2 => exact (R_reads' HO352.1).2.1); rintro e w116 ⟨v355, rfl, ho0, hb⟩; refine ⟨_, rfl, ?_⟩; refine E10 (R_elder' (PR HO_325001.1) (R_base ho0) hb) (rB HO_330001.1 hb) (R_elder' (PR HO_337001.1) (R_base ho0) hb) (rB HO352.1 hb) (R_lower (R_new' (R_new' ho0 (R_lt (PR HO_325001.1))) (R_lt (PR HO_337001.1))) (bZ HB.1)) (bB BK312.1 hb) (bB BK324.1 hb) (bB BK329.1 hb) (bB BK336.1 hb) (bS HB.1 hb) ?_; clear HO_325001 HO_330001 HO_337001 HO352 BK312 BK324 BK329 BK336 HB; intro HO_325001 HO_330001 HO_337001 HO352 HO356 BK312 BK324 BK329 BK336 HB; (try clear hb); (try clear ho0)) | ((with_reducible refine gate_dst (N := 12) rfl ?_); refine boxE (cs := #[.int .i64 0, .slice none 0 0, .int .i64 0]) (t := 29) ?_; intro gb359 hg w117 hbox hb; refine E21 (rB HO_325001.1 hb) (rB HO_330001.1 hb) (rB HO_337001.1 hb) (rB HO352.1 hb) (rB HO356.1 hb) (bB BK312.1 hb) (bB BK324.1 hb) (bB BK329.1 hb) (bB BK336.1 hb) (bS HB.1 hb) (hbox) (gX HB.1 hg) (gX HB.1 hg) (nB BK312.1 hg) (nC BK312.1 hg) (nB BK324.1 hg) (nC BK324.1 hg) (nB BK329.1 hg) (nC BK329.1 hg) (nB BK336.1 hg) (nC BK336.1 hg) ?_; clear HO_325001 HO_330001 HO_337001 HO352 HO356 BK312 BK324 BK329 BK336 HB; intro HO_325001 HO_330001 HO_337001 HO352 HO356 BK312 BK324 BK329 BK336 HB BK359 GW359 GE359 NB312_359 NB359_312 NB324_359 NB359_324 NB329_359 NB359_329 NB336_359 NB359_336; clear hb hbox hg; have hnb118 := NB359_312.1; have hnc118 := NB312_359.1; have hnb119 := NB359_324.1; have hnc119 := NB324_359.1; have hnb120 := NB359_329.1; have hnc120 := NB329_359.1; have hnb121 := NB359_336.1; have hnc121 := NB336_359.1; obtain ⟨hcz122_0, hcz122_1, hcz122_2, hfz122_0, hfz122_1, hfz122_2⟩ := cz3 BK359.1; obtain ⟨Ao123, co123, eo123⟩ := R_slice HO356.1; subst eo123))
 (try simp only [Act.put, List.setIfInBounds_toArray, List.set_cons_zero, List.set_cons_succ])
 go_cut [87] (fun v87 wc => ∃ (kq : Nat) (x87_102 : Bool), v87 = .bool x87_102 /\ Aside0 (laws_FnExactDiagramOf.j2 kq t346 x87_102 t330 t347 t334 = some true) /\ Aside0 (kq <= kj59) /\ Aside0 (Kd.R k63 63 wc w.heap.size (fun k_ => some k_ ≠ ((.slice Ao36 t331.length co36) : Value).ownBlock /\ some k_ ≠ ((.slice Ao123 t354.length co123) : Value).ownBlock) (.slice Ao22 t319.length co22) t319) /\ Aside0 (Kd.R (Kd.int .i64) 3 wc w.heap.size (fun _ => True) (.slice Ao29 t344.length co29) t344) /\ Aside0 (Kd.R k63 63 wc w.heap.size (fun k_ => some k_ ≠ ((.slice Ao22 t319.length co22) : Value).ownBlock /\ some k_ ≠ ((.slice Ao123 t354.length co123) : Value).ownBlock) (.slice Ao36 t331.length co36) t347) /\ Aside0 (Kd.R k63 63 wc w.heap.size (fun k_ => some k_ ≠ ((.slice Ao22 t319.length co22) : Value).ownBlock /\ some k_ ≠ ((.slice Ao36 t331.length co36) : Value).ownBlock) (.slice Ao123 t354.length co123) t354) /\ Aside0 (wc.heap[gb312]? = some (.cells #[.int .i64 a0_0, (.slice A0_1 l0_1.length c0_1)] 37 (0, 0))) /\ Aside0 (wc.heap[gb324]? = some (.cells #[.int .i64 t318, (.slice Ao22 t319.length co22), .int .i64 t322] 29 (0, 0))) /\ Aside0 (wc.heap[gb329]? = some (.cells #[.int .i64 t325, (.slice Ao29 t344.length co29)] 41 (0, 0))) /\ Aside0 (wc.heap[gb336]? = some (.cells #[.int .i64 t330, (.slice Ao36 t331.length co36), .int .i64 t334] 29 (0, 0))) /\ Aside0 (wc.heap[gb359]? = some (.cells #[.int .i64 t353, (.slice Ao123 t354.length co123), .int .i64 t357] 29 (0, 0))) /\ Aside0 (Below w.heap.size w wc))
 case first =>
  have H := HC103.1
  clear HC103
  replace H := bindA H; obtain ⟨t360, A124, H⟩ := H
  replace H := ifT H (by cases kj59 <;> simp [laws_FnExactDiagramOf.j2]); obtain ⟨rfl, H⟩ := H
  have H' := Aside0.mk H
  clear H
  obtain ⟨hcz130_0, hcz130_1, hcz130_2, hfz130_0, hfz130_1, hfz130_2⟩ := cz3 BK359.1
  obtain ⟨hcz134_0, hcz134_1, hcz134_2, hfz134_0, hfz134_1, hfz134_2⟩ := cz3 BK324.1
  go_wp2_with (first | ((with_reducible refine gate_callee (f := 16) rfl ?_); refine goesM (N := (some 81)) #[.agg #[.int .i64 t353, .slice Ao123 t354.length co123, .int .i64 t357], .agg #[.int .i64 t318, .slice Ao22 t319.length co22, .int .i64 t322]] Try.func16 ?_; (with_reducible refine (laws_eqDiagram.calls kj59 t353 _ _ t354 t357 t318 _ _ t319 t322 true _ ?side1 ?side2 ?side3 ?side4 A124.1).mono ?_); (case side1 => refine (R_reads' (e := 63) (base := w.heap.size) (ok := fun k_ => ((True /\ some k_ ≠ (.slice Ao22 t319.length co22 : Value).ownBlock) /\ some k_ ≠ (.slice Ao36 t331.length co36 : Value).ownBlock)) (n := t354.length) (c := co123) ?_).2.2; exact (by (with_reducible repeat (first | apply R_alloc | apply R_drewN | apply R_drew)); exact (R_mono (RQ gb359 2 (RQ gb359 1 (RQ gb359 0 (R_types HO356.1 BK359.1 (by decide)) _) _) _) (fun _ h_ => h_.1)))); (case side2 => exact (R_reads' HO356.1).2.1); (case side3 => refine (R_reads' (e := 63) (base := w.heap.size) (ok := fun k_ => (some k_ ≠ (.slice Ao36 t331.length co36 : Value).ownBlock /\ some k_ ≠ (.slice Ao123 t354.length co123 : Value).ownBlock)) (n := t319.length) (c := co22) ?_).2.2; exact (by (with_reducible repeat (first | apply R_alloc | apply R_drewN | apply R_drew)); exact (R_mono (RQ gb359 2 (RQ gb359 1 (RQ gb359 0 (R_types HO_325001.1 BK359.1 (by decide)) _) _) _) (fun _ h_ => h_.1)))); (case side4 => exact (R_reads' HO_325001.1).2.1); rintro e w135 ⟨rfl, hb⟩; refine ⟨_, rfl, ?_⟩; refine E11 (R_below (by (with_reducible repeat (first | apply R_alloc | apply R_drewN | apply R_drew)); exact (R_mono (RQ gb359 2 (RQ gb359 1 (RQ gb359 0 (R_types HO_325001.1 BK359.1 (by decide)) _) _) _) (fun _ h_ => h_.1))) hb) (R_below (by (with_reducible repeat (first | apply R_alloc | apply R_drewN | apply R_drew)); exact (R_mono (RQ gb359 2 (RQ gb359 1 (RQ gb359 0 (R_types HO_330001.1 BK359.1 (by decide)) _) _) _) (fun _ h_ => h_.1))) hb) (R_below (by (with_reducible repeat (first | apply R_alloc | apply R_drewN | apply R_drew)); exact (R_mono (RQ gb359 2 (RQ gb359 1 (RQ gb359 0 (R_types HO_337001.1 BK359.1 (by decide)) _) _) _) (fun _ h_ => h_.1))) hb) (R_below (by (with_reducible repeat (first | apply R_alloc | apply R_drewN | apply R_drew)); exact (R_mono (RQ gb359 2 (RQ gb359 1 (RQ gb359 0 (R_types HO352.1 BK359.1 (by decide)) _) _) _) (fun _ h_ => h_.1))) hb) (R_below (by (with_reducible repeat (first | apply R_alloc | apply R_drewN | apply R_drew)); exact (R_mono (RQ gb359 2 (RQ gb359 1 (RQ gb359 0 (R_types HO356.1 BK359.1 (by decide)) _) _) _) (fun _ h_ => h_.1))) hb) (blk_below (g := gb312) (o := .cells #[.int .i64 a0_0, .slice A0_1 l0_1.length c0_1] 37 (0, 0)) (PF1 NB312_359.1 BK312.1) hb) (blk_below (g := gb324) (o := .cells #[.int .i64 t318, .slice Ao22 t319.length co22, .int .i64 t322] 29 (0, 0)) (PF1 NB324_359.1 BK324.1) hb) (blk_below (g := gb329) (o := .cells #[.int .i64 t325, .slice Ao29 t344.length co29] 41 (0, 0)) (PF1 NB329_359.1 BK329.1) hb) (blk_below (g := gb336) (o := .cells #[.int .i64 t330, .slice Ao36 t331.length co36, .int .i64 t334] 29 (0, 0)) (PF1 NB336_359.1 BK336.1) hb) (blk_below (g := gb359) (o := .cells #[.int .i64 t353, .slice Ao123 t354.length co123, .int .i64 t357] 29 (0, 0)) (PF0 BK359.1) hb) (bS HB.1 hb) ?_; clear HO_325001 HO_330001 HO_337001 HO352 HO356 BK312 BK324 BK329 BK336 BK359 HB; intro HO_325001 HO_330001 HO_337001 HO352 HO356 BK312 BK324 BK329 BK336 BK359 HB; (try clear hb)))
  go_meet
  case rel => exact ⟨_, ((t358 != t323)), RG, H', ⟨by have := HJ10.1; have := HJ59.1; first | omega | exact Nat.le_refl _⟩, ⟨PR1 HO_325001.1 hl330001_59⟩, ⟨by (try simp only [hl330001_59]); (with_reducible repeat (first | apply R_alloc | apply R_drewN | apply R_drew)); exact R_mono HO_330001.1 (fun _ hk => trivial)⟩, ⟨PR1 HO_337001.1 hl330001_59⟩, ⟨by (try simp only [hl330001_59]); (with_reducible repeat (first | apply R_alloc | apply R_drewN | apply R_drew)); exact R_mono HO356.1 (fun _ hk => ⟨hk.1.2, hk.2⟩)⟩, ⟨PB1 BK312.1 hl330001_59⟩, ⟨PB1 BK324.1 hl330001_59⟩, ⟨PB1 BK329.1 hl330001_59⟩, ⟨PB1 BK336.1 hl330001_59⟩, ⟨PB1 BK359.1 hl330001_59⟩, ⟨BL HB.1⟩⟩
 clear HC103
 clear c92b0 c100b0 c100b1 hcz107_0 hcz107_1 hcz107_2 hcz109_0 hcz109_1 hcz109_2 hcz113_0 hcz113_1 hcz122_0 hcz122_1 hcz122_2 hfz107_0 hfz107_1 hfz107_2 hfz109_0 hfz109_1 hfz109_2 hfz113_0 hfz113_1 hfz122_0 hfz122_1 hfz122_2
 obtain ⟨kq, x87_102, rfl, HA, HJ102, HO_325001, HO_330001, HO_337001, HO_360001, BK312, BK324, BK329, BK336, BK359, HB⟩ := hcut
 have hl337001_102 := (R_reads' HO_337001.1).1
 rw [hl337001_102] at HO_337001
 (try simp only [hl337001_102])
 (try simp only [hl337001_102] at BK312)
 (try simp only [hl337001_102] at BK324)
 (try simp only [hl337001_102] at BK329)
 (try simp only [hl337001_102] at BK336)
 (try simp only [hl337001_102] at BK359)
 (try simp only [hl337001_102] at HO_325001)
 (try simp only [hl337001_102] at HO_330001)
 (try simp only [hl337001_102] at HO_360001)
 cases kq with
 | zero => exact absurd HA.1 (by simp [laws_FnExactDiagramOf.j2])
 | succ kj102 => ?_
 have H := HA.1
 clear HA
 simp only [laws_FnExactDiagramOf.j2] at H
 replace H := ifF H (by simp); obtain ⟨rfl, H⟩ := H
 replace H := bindA H; obtain ⟨t361, A147, H⟩ := H
 replace H := ifQ H; rcases H with ⟨c148, H⟩ | ⟨c148, H⟩
 · exact absurd H (by simp)
 have c148b0 := decide_eq_false c148
 clear c148
 first | replace H := ifP H | replace H := ifPf H
 obtain ⟨c155, H⟩ := H
 have c155b0 := beq_iff_eq.mpr c155
 have c155b1 := bne_eq_false_iff_eq.mpr c155
 clear c155
 first | (obtain rfl := Option.some.inj H) | clear H
 obtain ⟨hcz160_0, hcz160_1, hcz160_2, hfz160_0, hfz160_1, hfz160_2⟩ := cz3 BK336.1
 go_wp2_with (first | ((with_reducible refine gate_callee (f := 26) rfl ?_); refine goesM (N := (some 90)) #[.agg #[.int .i64 t330, .slice Ao36 t347.length co36, .int .i64 t334], .int .i64 1] Try.func26 ?_; (with_reducible refine (laws_heldDiagram.calls kj102 t330 _ _ t347 t334 1 t361 _ ?side1 ?side2 A147.1).mono ?_); (case side1 => exact CB (R_reads' HO_337001.1).2.2); (case side2 => exact (R_reads' HO_337001.1).2.1); rintro e w161 ⟨rfl, hb⟩; refine ⟨_, rfl, ?_⟩; refine E10 (rB HO_325001.1 hb) (rB HO_330001.1 hb) (rB HO_337001.1 hb) (rB HO_360001.1 hb) (bB BK312.1 hb) (bB BK324.1 hb) (bB BK329.1 hb) (bB BK336.1 hb) (bB BK359.1 hb) (bS HB.1 hb) ?_; clear HO_325001 HO_330001 HO_337001 HO_360001 BK312 BK324 BK329 BK336 BK359 HB; intro HO_325001 HO_330001 HO_337001 HO_360001 BK312 BK324 BK329 BK336 BK359 HB; (try clear hb)))
 go_ret
 exact ⟨RF, BL HB.1⟩
end Go.Proofs.Ytdkfgomjfigmbaa.P
