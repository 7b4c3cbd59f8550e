-- PRINTED by print.py (a twelfth state) out of the translation. Not trusted: Lean checks it.
import Derived.Test.YtbpfdbjnnlmdjaaPx0
import Derived.Test.YtbpfdbjnnlmdjaaPx1
import Derived.Test.YtbpfdbjnnlmdjaaPx3
import Derived.Test.YtbpfdbjnnlmdjaaPx5
import Derived.Test.YtbpfdbjnnlmdjaaPx8
import Derived.Test.YtbpfdbjnnlmdjaaPx9
import Derived.Test.YtbpfdbjnnlmdjaaPx10
import Derived.Test.YtbpfdbjnnlmdjaaPx13
namespace Go.Proofs.Ytbpfdbjnnlmdjaa.P
open Go.RowKit Go.Proofs.YtbpfdbjnnlmdjaaW.PrintWords Go.Proofs.YtbpfdbjnnlmdjaaW.PrintLast Go.Proofs.YtbpfdbjnnlmdjaaW.PrintMore
attribute [local go_sem] max2_int min2_int max_two min_two max_three min_three max_four min_four   -- for this text's walks alone
set_option linter.unusedVariables false
set_option linter.unusedSimpArgs false

/-! ### spec_OrbitOf: function 24 -/
open Kd
def spec_OrbitOf.f (k : Nat) (a0_0 : Int) (a0_1 : Int) (l0_2 : List (S83)) (a1 : Int) : Option (List Int × Int × Bool) := (spec_reHas.f k a0_0 a0_1 l0_2 a1).bind fun t756 => (if t756 = true then ((spec_reOrbit.f k a0_0 a0_1 l0_2 a1).bind fun bt757 => (some (bt757.1, bt757.2, true))) else (some (([] : List Int), 0, false)))
theorem spec_OrbitOf.mono : ∀ a0 a1 a2 a3 k, LeO (spec_OrbitOf.f k a0 a1 a2 a3) (spec_OrbitOf.f (k + 1) a0 a1 a2 a3) := by
 intro a0 a1 a2 a3 k
 unfold spec_OrbitOf.f
 repeat' first
  | (with_reducible exact spec_reHas.mono _ _ _ _ _)
  | (with_reducible exact spec_reOrbit.mono _ _ _ _ _)
  | (with_reducible exact LeO.refl _)
  | (with_reducible exact LeO.none _)
  | (with_reducible refine LeO.ite ?_ ?_)
  | (with_reducible refine LeO.bind ?_ (fun _ => ?_))
  | exact spec_reHas.mono _ _ _ _ _
  | exact spec_reOrbit.mono _ _ _ _ _
  | exact LeO.none _
  | refine LeO.ite ?_ ?_
  | refine LeO.bind ?_ (fun _ => ?_)
set_option maxHeartbeats 8000000 in
set_option maxRecDepth 100000 in
theorem spec_OrbitOf.calls (k : Nat) (a0_0 : Int) (a0_1 : Int) (A0_2 : Option Addr) (c0_2 : Nat) (l0_2 : List (S83)) (a1 : Int) (r1 : List Int) (r2 : Int) (r3 : Bool) (w : World) (hr0_2 : Kd.C k83 w A0_2 l0_2.length l0_2) (hc0_2 : l0_2.length <= c0_2) (h : spec_OrbitOf.f k a0_0 a0_1 l0_2 a1 = some (r1, r2, r3)) :
 Calls Try.prog 24 #[.agg #[.int .i64 a0_0, .int .i64 a0_1, .slice A0_2 l0_2.length c0_2], .int .i64 a1] w fun e w' => ∃ v0_ : Value, e = .returned (.tuple #[v0_, .int .i64 r2, .bool r3]) /\ Kd.R (Kd.int .i64) 3 w' w.heap.size (fun _ => True) v0_ r1 /\ Below w.heap.size w w' := by
 have hu30 := Try.underlying30
 have HR0_2 := Aside0.mk hr0_2
 have HC0_2 := Aside0.mk hc0_2
 clear hr0_2 hc0_2
 have HB := Aside0.mk (Below.refl w.heap.size w)
 have H := h
 clear h
 unfold spec_OrbitOf.f at H
 replace H := bindA H; obtain ⟨t756, A3, H⟩ := H
 replace H := ifX H; rcases H with ⟨rfl, H⟩ | ⟨rfl, H⟩
 · replace H := bindA H; obtain ⟨⟨t757, t760⟩, A5, H⟩ := H
   dsimp only at H
   simp only [Option.some.injEq, Prod.mk.injEq] at H
   obtain ⟨rfl, rfl, rfl⟩ := H
   go_enter Try.func24, Try.ntmps24
   go_wp2_with (first | ((with_reducible refine gate_dst (N := 2) rfl ?_); refine boxE (cs := #[.int .i64 a0_0, .int .i64 a0_1, .slice A0_2 l0_2.length c0_2]) (t := 30) ?_; intro gb755 hg w6 hbox hb; refine E4b HB.1 hg hbox hb ?_; clear HB; intro HB BK755 GW755 GE755; clear hb hbox hg; obtain ⟨hcz7_0, hcz7_1, hcz7_2, hfz7_0, hfz7_1, hfz7_2⟩ := cz3 BK755.1) | ((with_reducible refine gate_callee (f := 42) rfl ?_); refine goesM (N := (some 11)) #[.agg #[.int .i64 a0_0, .int .i64 a0_1, .slice A0_2 l0_2.length c0_2], .int .i64 a1] Try.func42 ?_; (with_reducible refine (spec_reHas.calls k a0_0 a0_1 _ _ l0_2 a1 true _ ?side1 ?side2 A3.1).mono ?_); (case side1 => exact CB (C_below HR0_2.1 HB.1)); (case side2 => exact HC0_2.1); rintro e w8 ⟨rfl, hb⟩; refine ⟨_, rfl, ?_⟩; refine E2 (bB BK755.1 hb) (bS HB.1 hb) ?_; clear BK755 HB; intro BK755 HB; (try clear hb); obtain ⟨hcz9_0, hcz9_1, hcz9_2, hfz9_0, hfz9_1, hfz9_2⟩ := cz3 BK755.1) | ((with_reducible refine gate_callee (f := 53) rfl ?_); refine goesM (N := (some 16)) #[.agg #[.int .i64 a0_0, .int .i64 a0_1, .slice A0_2 l0_2.length c0_2], .int .i64 a1] Try.func53 ?_; (with_reducible refine (spec_reOrbit.calls k a0_0 a0_1 _ _ l0_2 a1 t757 t760 _ ?side1 ?side2 A5.1).mono ?_); (case side1 => exact CB (C_below HR0_2.1 HB.1)); (case side2 => exact HC0_2.1); rintro e w10 ⟨v758, rfl, ho0, hb⟩; refine ⟨_, rfl, ?_⟩; refine E3 (R_lower ho0 (bZ HB.1)) (bB BK755.1 hb) (bS HB.1 hb) ?_; clear BK755 HB; intro HO759 BK755 HB; (try clear hb); (try clear ho0)))
   go_ret3
   exact ⟨_, RF, RPE (HO759.1), BL HB.1⟩
 simp only [Option.some.injEq, Prod.mk.injEq] at H
 obtain ⟨rfl, rfl, rfl⟩ := H
 go_enter Try.func24, Try.ntmps24
 go_wp2_with (first | ((with_reducible refine gate_dst (N := 2) rfl ?_); refine boxE (cs := #[.int .i64 a0_0, .int .i64 a0_1, .slice A0_2 l0_2.length c0_2]) (t := 30) ?_; intro gb755 hg w11 hbox hb; refine E4b HB.1 hg hbox hb ?_; clear HB; intro HB BK755 GW755 GE755; clear hb hbox hg; obtain ⟨hcz12_0, hcz12_1, hcz12_2, hfz12_0, hfz12_1, hfz12_2⟩ := cz3 BK755.1) | ((with_reducible refine gate_callee (f := 42) rfl ?_); refine goesM (N := (some 11)) #[.agg #[.int .i64 a0_0, .int .i64 a0_1, .slice A0_2 l0_2.length c0_2], .int .i64 a1] Try.func42 ?_; (with_reducible refine (spec_reHas.calls k a0_0 a0_1 _ _ l0_2 a1 false _ ?side1 ?side2 A3.1).mono ?_); (case side1 => exact CB (C_below HR0_2.1 HB.1)); (case side2 => exact HC0_2.1); rintro e w13 ⟨rfl, hb⟩; refine ⟨_, rfl, ?_⟩; refine E2 (bB BK755.1 hb) (bS HB.1 hb) ?_; clear BK755 HB; intro BK755 HB; (try clear hb)))
 go_ret3
 exact ⟨_, RF, by first | exact R_nil _ _ _ _ _ | exact N_nil _ _ _ _ _ | exact V_nil _ _ _ _ _ | exact Q_nil _ _ _ _ _ | exact S_nil _ _ _ _ _, BL HB.1⟩

/-! ### impl_OrbitOf: function 25 -/
open Kd
def impl_OrbitOf.f (k : Nat) (a0_0 : Int) (a0_1 : Int) (l0_2 : List (S83)) (a1 : Int) : Option (List Int × Int × Bool) := (impl_fewUnits.f k a0_0 a0_1 l0_2).bind fun t762 => (if t762 = true then ((impl_validEntry.f k a0_0 a0_1 l0_2 a1).bind fun t763 => (if t763 = true then ((impl_orbitOf.f k a0_0 a0_1 l0_2 a1).bind fun bt764 => (some (bt764.1, bt764.2, true))) else (some (([] : List Int), 0, false)))) else (some (([] : List Int), 0, false)))
theorem impl_OrbitOf.mono : ∀ a0 a1 a2 a3 k, LeO (impl_OrbitOf.f k a0 a1 a2 a3) (impl_OrbitOf.f (k + 1) a0 a1 a2 a3) := by
 intro a0 a1 a2 a3 k
 unfold impl_OrbitOf.f
 repeat' first
  | (with_reducible exact impl_fewUnits.mono _ _ _ _)
  | (with_reducible exact impl_orbitOf.mono _ _ _ _ _)
  | (with_reducible exact impl_validEntry.mono _ _ _ _ _)
  | (with_reducible exact LeO.refl _)
  | (with_reducible exact LeO.none _)
  | (with_reducible refine LeO.ite ?_ ?_)
  | (with_reducible refine LeO.bind ?_ (fun _ => ?_))
  | exact impl_fewUnits.mono _ _ _ _
  | exact impl_orbitOf.mono _ _ _ _ _
  | exact impl_validEntry.mono _ _ _ _ _
  | exact LeO.none _
  | refine LeO.ite ?_ ?_
  | refine LeO.bind ?_ (fun _ => ?_)
set_option maxHeartbeats 8000000 in
set_option maxRecDepth 100000 in
theorem impl_OrbitOf.calls (k : Nat) (a0_0 : Int) (a0_1 : Int) (A0_2 : Option Addr) (c0_2 : Nat) (l0_2 : List (S83)) (a1 : Int) (r1 : List Int) (r2 : Int) (r3 : Bool) (w : World) (hr0_2 : Kd.C k83 w A0_2 l0_2.length l0_2) (hc0_2 : l0_2.length <= c0_2) (h : impl_OrbitOf.f k a0_0 a0_1 l0_2 a1 = some (r1, r2, r3)) :
 Calls Try.prog 25 #[.agg #[.int .i64 a0_0, .int .i64 a0_1, .slice A0_2 l0_2.length c0_2], .int .i64 a1] w fun e w' => ∃ v0_ : Value, e = .returned (.tuple #[v0_, .int .i64 r2, .bool r3]) /\ Kd.R (Kd.int .i64) 3 w' w.heap.size (fun _ => True) v0_ r1 /\ Below w.heap.size w w' := by
 have hu30 := Try.underlying30
 have HR0_2 := Aside0.mk hr0_2
 have HC0_2 := Aside0.mk hc0_2
 clear hr0_2 hc0_2
 have HB := Aside0.mk (Below.refl w.heap.size w)
 have H := h
 clear h
 unfold impl_OrbitOf.f at H
 replace H := bindA H; obtain ⟨t762, A3, H⟩ := H
 replace H := ifX H; rcases H with ⟨rfl, H⟩ | ⟨rfl, H⟩
 · replace H := bindA H; obtain ⟨t763, A5, H⟩ := H
   replace H := ifX H; rcases H with ⟨rfl, H⟩ | ⟨rfl, H⟩
   · replace H := bindA H; obtain ⟨⟨t764, t767⟩, A7, H⟩ := H
     dsimp only at H
     simp only [Option.some.injEq, Prod.mk.injEq] at H
     obtain ⟨rfl, rfl, rfl⟩ := H
     go_enter Try.func25, Try.ntmps25
     go_wp2_with (first | ((with_reducible refine gate_dst (N := 2) rfl ?_); refine boxE (cs := #[.int .i64 a0_0, .int .i64 a0_1, .slice A0_2 l0_2.length c0_2]) (t := 30) ?_; intro gb761 hg w8 hbox hb; refine E4b HB.1 hg hbox hb ?_; clear HB; intro HB BK761 GW761 GE761; clear hb hbox hg; obtain ⟨hcz9_0, hcz9_1, hcz9_2, hfz9_0, hfz9_1, hfz9_2⟩ := cz3 BK761.1) | ((with_reducible refine gate_callee (f := 46) rfl ?_); refine goesM (N := (some 10)) #[.agg #[.int .i64 a0_0, .int .i64 a0_1, .slice A0_2 l0_2.length c0_2]] Try.func46 ?_; (with_reducible refine (impl_fewUnits.calls k a0_0 a0_1 _ _ l0_2 true _ ?side1 ?side2 A3.1).mono ?_); (case side1 => exact CB (C_below HR0_2.1 HB.1)); (case side2 => exact HC0_2.1); rintro e w10 ⟨rfl, hb⟩; refine ⟨_, rfl, ?_⟩; refine E2 (bB BK761.1 hb) (bS HB.1 hb) ?_; clear BK761 HB; intro BK761 HB; (try clear hb); obtain ⟨hcz11_0, hcz11_1, hcz11_2, hfz11_0, hfz11_1, hfz11_2⟩ := cz3 BK761.1) | (go_at_call 47; (with_reducible refine (impl_validEntry.calls k a0_0 a0_1 _ _ l0_2 a1 true _ ?side1 ?side2 A5.1).mono ?_); (case side1 => exact CB (C_below HR0_2.1 HB.1)); (case side2 => exact HC0_2.1); rintro e w12 ⟨rfl, hb⟩; refine E2 (bB BK761.1 hb) (bS HB.1 hb) ?_; clear BK761 HB; intro BK761 HB; (try clear hb); obtain ⟨hcz13_0, hcz13_1, hcz13_2, hfz13_0, hfz13_1, hfz13_2⟩ := cz3 BK761.1) | ((with_reducible refine gate_callee (f := 54) rfl ?_); refine goesM (N := (some 21)) #[.agg #[.int .i64 a0_0, .int .i64 a0_1, .slice A0_2 l0_2.length c0_2], .int .i64 a1] Try.func54 ?_; (with_reducible refine (impl_orbitOf.calls k a0_0 a0_1 _ _ l0_2 a1 t764 t767 _ ?side1 ?side2 A7.1).mono ?_); (case side1 => exact CB (C_below HR0_2.1 HB.1)); (case side2 => exact HC0_2.1); rintro e w14 ⟨v765, rfl, ho0, hb⟩; refine ⟨_, rfl, ?_⟩; refine E3 (R_lower ho0 (bZ HB.1)) (bB BK761.1 hb) (bS HB.1 hb) ?_; clear BK761 HB; intro HO766 BK761 HB; (try clear hb); (try clear ho0)))
     go_ret3
     exact ⟨_, RF, RPE (HO766.1), BL HB.1⟩
   simp only [Option.some.injEq, Prod.mk.injEq] at H
   obtain ⟨rfl, rfl, rfl⟩ := H
   go_enter Try.func25, Try.ntmps25
   go_wp2_with (first | ((with_reducible refine gate_dst (N := 2) rfl ?_); refine boxE (cs := #[.int .i64 a0_0, .int .i64 a0_1, .slice A0_2 l0_2.length c0_2]) (t := 30) ?_; intro gb761 hg w15 hbox hb; refine E4b HB.1 hg hbox hb ?_; clear HB; intro HB BK761 GW761 GE761; clear hb hbox hg; obtain ⟨hcz16_0, hcz16_1, hcz16_2, hfz16_0, hfz16_1, hfz16_2⟩ := cz3 BK761.1) | ((with_reducible refine gate_callee (f := 46) rfl ?_); refine goesM (N := (some 10)) #[.agg #[.int .i64 a0_0, .int .i64 a0_1, .slice A0_2 l0_2.length c0_2]] Try.func46 ?_; (with_reducible refine (impl_fewUnits.calls k a0_0 a0_1 _ _ l0_2 true _ ?side1 ?side2 A3.1).mono ?_); (case side1 => exact CB (C_below HR0_2.1 HB.1)); (case side2 => exact HC0_2.1); rintro e w17 ⟨rfl, hb⟩; refine ⟨_, rfl, ?_⟩; refine E2 (bB BK761.1 hb) (bS HB.1 hb) ?_; clear BK761 HB; intro BK761 HB; (try clear hb); obtain ⟨hcz18_0, hcz18_1, hcz18_2, hfz18_0, hfz18_1, hfz18_2⟩ := cz3 BK761.1) | (go_at_call 47; (with_reducible refine (impl_validEntry.calls k a0_0 a0_1 _ _ l0_2 a1 false _ ?side1 ?side2 A5.1).mono ?_); (case side1 => exact CB (C_below HR0_2.1 HB.1)); (case side2 => exact HC0_2.1); rintro e w19 ⟨rfl, hb⟩; refine E2 (bB BK761.1 hb) (bS HB.1 hb) ?_; clear BK761 HB; intro BK761 HB; (try clear hb)))
   go_ret3
   exact ⟨_, RF, by first | exact R_nil _ _ _ _ _ | exact N_nil _ _ _ _ _ | exact V_nil _ _ _ _ _ | exact Q_nil _ _ _ _ _ | exact S_nil _ _ _ _ _, BL HB.1⟩
 simp only [Option.some.injEq, Prod.mk.injEq] at H
 obtain ⟨rfl, rfl, rfl⟩ := H
 go_enter Try.func25, Try.ntmps25
 go_wp2_with (first | ((with_reducible refine gate_dst (N := 2) rfl ?_); refine boxE (cs := #[.int .i64 a0_0, .int .i64 a0_1, .slice A0_2 l0_2.length c0_2]) (t := 30) ?_; intro gb761 hg w20 hbox hb; refine E4b HB.1 hg hbox hb ?_; clear HB; intro HB BK761 GW761 GE761; clear hb hbox hg; obtain ⟨hcz21_0, hcz21_1, hcz21_2, hfz21_0, hfz21_1, hfz21_2⟩ := cz3 BK761.1) | ((with_reducible refine gate_callee (f := 46) rfl ?_); refine goesM (N := (some 10)) #[.agg #[.int .i64 a0_0, .int .i64 a0_1, .slice A0_2 l0_2.length c0_2]] Try.func46 ?_; (with_reducible refine (impl_fewUnits.calls k a0_0 a0_1 _ _ l0_2 false _ ?side1 ?side2 A3.1).mono ?_); (case side1 => exact CB (C_below HR0_2.1 HB.1)); (case side2 => exact HC0_2.1); rintro e w22 ⟨rfl, hb⟩; refine ⟨_, rfl, ?_⟩; refine E2 (bB BK761.1 hb) (bS HB.1 hb) ?_; clear BK761 HB; intro BK761 HB; (try clear hb)))
 go_ret3
 exact ⟨_, RF, by first | exact R_nil _ _ _ _ _ | exact N_nil _ _ _ _ _ | exact V_nil _ _ _ _ _ | exact Q_nil _ _ _ _ _ | exact S_nil _ _ _ _ _, BL HB.1⟩

/-! ### laws_FnExactOrbitOf: function 7 -/
open Kd
mutual
def laws_FnExactOrbitOf.j0 : Nat -> Int -> List Int -> Int -> Bool -> List Int -> Int -> Bool -> Bool -> Int -> Int -> List (S85) -> Int -> Int -> List (S83) -> Option (Bool)
 | 0, _, _, _, _, _, _, _, _, _, _, _, _, _, _ => none
 | k + 1, x1, x6, x7, x8, x10, x11, x12, x54, x778000, x778001, x778002, x795000, x795001, x795002 => if x54 = true then (some false) else ((laws_toBoard.f k x778000 x778001 x778002).bind fun bt801 => ((laws_eqBoard.f k x795000 x795001 x795002 bt801.1 bt801.2.1 bt801.2.2).bind fun t806 => (if t806 = true then ((laws_markBoard.f k x795000 x795001 x795002 1).bind fun bt807 => (if bt807.1 < 0 then (laws_FnExactOrbitOf.j1 k x1 x6 x7 x8 x10 true x778000 x778001 x778002) else ((laws_eqIntS.f k x10 x6).bind fun t809 => (if t809 = true then (if x11 = x7 then (laws_FnExactOrbitOf.j1 k x1 x6 x7 x8 x10 (x12 != x8) x778000 x778001 x778002) else (laws_FnExactOrbitOf.j1 k x1 x6 x7 x8 x10 true x778000 x778001 x778002)) else (laws_FnExactOrbitOf.j1 k x1 x6 x7 x8 x10 true x778000 x778001 x778002))))) else (some false))))
def laws_FnExactOrbitOf.j1 : Nat -> Int -> List Int -> Int -> Bool -> List Int -> Bool -> Int -> Int -> List (S85) -> Option (Bool)
 | 0, _, _, _, _, _, _, _, _, _ => none
 | k + 1, x1, x6, x7, x8, x10, x80, x778000, x778001, x778002 => if x80 = true then (some false) else ((laws_markIntS.f k x10 1).bind fun bt810 => ((laws_heldIntS.f k bt810.2 1).bind fun t812 => (if t812 < 0 then (some false) else (if t812 = bt810.1 then ((laws_toBoard.f k x778000 x778001 x778002).bind fun bt813 => ((impl_OrbitOf.f k bt813.1 bt813.2.1 bt813.2.2 x1).bind fun bt818 => ((laws_eqIntS.f k bt818.1 x6).bind fun t823 => (if t823 = true then (if bt818.2.1 = x7 then (laws_FnExactOrbitOf.j2 k bt810.2 bt810.1 (bt818.2.2 != x8)) else (laws_FnExactOrbitOf.j2 k bt810.2 bt810.1 true)) else (laws_FnExactOrbitOf.j2 k bt810.2 bt810.1 true))))) else (some false)))))
def laws_FnExactOrbitOf.j2 : Nat -> List Int -> Int -> Bool -> Option (Bool)
 | 0, _, _, _ => none
 | k + 1, x10, x14, x113 => if x113 = true then (some false) else ((laws_heldIntS.f k x10 1).bind fun t824 => (if t824 < 0 then (some false) else (if t824 = x14 then (some true) else (some false))))
end
def laws_FnExactOrbitOf.f (k : Nat) (a0_0 : Int) (a0_1 : Int) (l0_2 : List (S85)) (a1 : Int) : Option (Bool) := (laws_szBoard.f a0_0 a0_1 l0_2 1048576).bind fun t778 => (if t778 < 0 then (some true) else ((laws_toBoard.f k a0_0 a0_1 l0_2).bind fun bt779 => ((spec_OrbitOf.f k bt779.1 bt779.2.1 bt779.2.2 a1).bind fun bt784 => ((laws_toBoard.f k a0_0 a0_1 l0_2).bind fun bt789 => ((impl_OrbitOf.f k bt789.1 bt789.2.1 bt789.2.2 a1).bind fun bt795 => ((laws_eqIntS.f k bt795.1 bt784.1).bind fun t800 => (if t800 = true then (if bt795.2.1 = bt784.2.1 then (laws_FnExactOrbitOf.j0 k a1 bt784.1 bt784.2.1 bt784.2.2 bt795.1 bt795.2.1 bt795.2.2 (bt795.2.2 != bt784.2.2) a0_0 a0_1 l0_2 bt789.1 bt789.2.1 bt789.2.2) else (laws_FnExactOrbitOf.j0 k a1 bt784.1 bt784.2.1 bt784.2.2 bt795.1 bt795.2.1 bt795.2.2 true a0_0 a0_1 l0_2 bt789.1 bt789.2.1 bt789.2.2)) else (laws_FnExactOrbitOf.j0 k a1 bt784.1 bt784.2.1 bt784.2.2 bt795.1 bt795.2.1 bt795.2.2 true a0_0 a0_1 l0_2 bt789.1 bt789.2.1 bt789.2.2))))))))
theorem laws_FnExactOrbitOf.mono_l : ∀ k, (∀ y0 y1 y2 y3 y4 y5 y6 y7 y8 y9 y10 y11 y12 y13, LeO (laws_FnExactOrbitOf.j0 k y0 y1 y2 y3 y4 y5 y6 y7 y8 y9 y10 y11 y12 y13) (laws_FnExactOrbitOf.j0 (k + 1) y0 y1 y2 y3 y4 y5 y6 y7 y8 y9 y10 y11 y12 y13)) /\ (∀ y0 y1 y2 y3 y4 y5 y6 y7 y8, LeO (laws_FnExactOrbitOf.j1 k y0 y1 y2 y3 y4 y5 y6 y7 y8) (laws_FnExactOrbitOf.j1 (k + 1) y0 y1 y2 y3 y4 y5 y6 y7 y8)) /\ (∀ y0 y1 y2, LeO (laws_FnExactOrbitOf.j2 k y0 y1 y2) (laws_FnExactOrbitOf.j2 (k + 1) y0 y1 y2))
 | 0 => by refine ⟨?_, ?_, ?_⟩ <;> (intros; intro r h; first | (simp [laws_FnExactOrbitOf.j0] at h; done) | (simp [laws_FnExactOrbitOf.j1] at h; done) | (simp [laws_FnExactOrbitOf.j2] at h; done))
 | k + 1 => by
  obtain ⟨ih0, ih1, ih2⟩ := laws_FnExactOrbitOf.mono_l k
  refine ⟨?_, ?_, ?_⟩ <;> (
   intros
   first | unfold laws_FnExactOrbitOf.j0 | unfold laws_FnExactOrbitOf.j1 | unfold laws_FnExactOrbitOf.j2
   repeat' first | (with_reducible first | apply ih0 | apply ih1 | apply ih2 | apply impl_OrbitOf.mono | apply laws_eqBoard.mono | apply laws_eqIntS.mono | apply laws_heldIntS.mono | apply laws_markBoard.mono | apply laws_markIntS.mono | apply laws_toBoard.mono | apply spec_OrbitOf.mono | exact LeO.refl _ | exact LeO.none _ | refine LeO.ite ?_ ?_ | refine LeO.bind ?_ (fun _ => ?_)) | exact LeO.none _ | refine LeO.ite ?_ ?_ | refine LeO.bind ?_ (fun _ => ?_))
theorem laws_FnExactOrbitOf.mono : ∀ a0 a1 a2 a3 k, LeO (laws_FnExactOrbitOf.f k a0 a1 a2 a3) (laws_FnExactOrbitOf.f (k + 1) a0 a1 a2 a3) := by
 intro a0 a1 a2 a3 k
 obtain ⟨ih0, ih1, ih2⟩ := laws_FnExactOrbitOf.mono_l k
 unfold laws_FnExactOrbitOf.f
 repeat' first | (with_reducible first | apply ih0 | apply ih1 | apply ih2 | apply impl_OrbitOf.mono | apply laws_eqBoard.mono | apply laws_eqIntS.mono | apply laws_heldIntS.mono | apply laws_markBoard.mono | apply laws_markIntS.mono | apply laws_toBoard.mono | apply spec_OrbitOf.mono | exact LeO.refl _ | exact LeO.none _ | refine LeO.ite ?_ ?_ | refine LeO.bind ?_ (fun _ => ?_)) | exact LeO.none _ | refine LeO.ite ?_ ?_ | refine LeO.bind ?_ (fun _ => ?_)
set_option maxHeartbeats 8000000 in
set_option maxRecDepth 100000 in
theorem laws_FnExactOrbitOf.calls (k : Nat) (a0_0 : Int) (a0_1 : Int) (A0_2 : Option Addr) (c0_2 : Nat) (l0_2 : List (S85)) (a1 : Int) (w : World) (hr0_2 : Kd.C k85 w A0_2 l0_2.length l0_2) (hc0_2 : l0_2.length <= c0_2) (h : laws_FnExactOrbitOf.f k a0_0 a0_1 l0_2 a1 = some true) :
 Calls Try.prog 7 #[.agg #[.int .i64 a0_0, .int .i64 a0_1, .slice A0_2 l0_2.length c0_2], .int .i64 a1] w fun e w' => e = .returned (.bool true) /\ Below w.heap.size w w' := by
 have hu24 := Try.underlying24
 have hu30 := Try.underlying30
 have HR0_2 := Aside0.mk hr0_2
 have HC0_2 := Aside0.mk hc0_2
 clear hr0_2 hc0_2
 have HB := Aside0.mk (Below.refl w.heap.size w)
 have H := h
 clear h
 unfold laws_FnExactOrbitOf.f at H
 replace H := bindA H; obtain ⟨t778, A3, H⟩ := H
 replace H := ifB H; rcases H with ⟨c4b0, H⟩ | ⟨c4b0, H⟩
 · first | (obtain rfl := Option.some.inj H) | clear H
   go_enter Try.func7, Try.ntmps7
   go_wp2_with (first | ((with_reducible refine gate_dst (N := 2) rfl ?_); refine boxE (cs := #[.int .i64 a0_0, .int .i64 a0_1, .slice A0_2 l0_2.length c0_2]) (t := 24) ?_; intro gb777 hg w5 hbox hb; refine E4b HB.1 hg hbox hb ?_; clear HB; intro HB BK777 GW777 GE777; clear hb hbox hg; obtain ⟨hcz6_0, hcz6_1, hcz6_2, hfz6_0, hfz6_1, hfz6_2⟩ := cz3 BK777.1) | ((with_reducible refine gate_callee (f := 13) rfl ?_); refine goesM (N := (some 21)) #[.agg #[.int .i64 a0_0, .int .i64 a0_1, .slice A0_2 l0_2.length c0_2], .int .i64 1048576] Try.func13 ?_; (with_reducible refine (laws_szBoard.calls a0_0 a0_1 _ _ l0_2 1048576 t778 _ ?side1 ?side2 A3.1).mono ?_); (case side1 => exact CB (C_below HR0_2.1 HB.1)); (case side2 => exact HC0_2.1); rintro e w7 ⟨rfl, hb⟩; refine ⟨_, rfl, ?_⟩; refine E2 (bB BK777.1 hb) (bS HB.1 hb) ?_; clear BK777 HB; intro BK777 HB; (try clear hb)))
   go_ret
   exact ⟨RF, BL HB.1⟩
 replace H := bindA H; obtain ⟨⟨t779, t780, t781⟩, A8, H⟩ := H
 dsimp only at H
 replace H := bindA H; obtain ⟨⟨t784, t787, t788⟩, A9, H⟩ := H
 dsimp only at H
 replace H := bindA H; obtain ⟨⟨t789, t790, t791⟩, A10, H⟩ := H
 dsimp only at H
 replace H := bindA H; obtain ⟨⟨t795, t798, t799⟩, A11, H⟩ := H
 dsimp only at H
 have HC12 := Aside0.mk H
 clear H
 go_enter Try.func7, Try.ntmps7
 go_upto_region 8 with (first | ((with_reducible refine gate_dst (N := 2) rfl ?_); refine boxE (cs := #[.int .i64 a0_0, .int .i64 a0_1, .slice A0_2 l0_2.length c0_2]) (t := 24) ?_; intro gb777 hg w13 hbox hb; refine E4b HB.1 hg hbox hb ?_; clear HB; intro HB BK777 GW777 GE777; clear hb hbox hg; obtain ⟨hcz14_0, hcz14_1, hcz14_2, hfz14_0, hfz14_1, hfz14_2⟩ := cz3 BK777.1) | ((with_reducible refine gate_callee (f := 13) rfl ?_); refine goesM (N := (some 21)) #[.agg #[.int .i64 a0_0, .int .i64 a0_1, .slice A0_2 l0_2.length c0_2], .int .i64 1048576] Try.func13 ?_; (with_reducible refine (laws_szBoard.calls a0_0 a0_1 _ _ l0_2 1048576 t778 _ ?side1 ?side2 A3.1).mono ?_); (case side1 => exact CB (C_below HR0_2.1 HB.1)); (case side2 => exact HC0_2.1); rintro e w15 ⟨rfl, hb⟩; refine ⟨_, rfl, ?_⟩; refine E2 (bB BK777.1 hb) (bS HB.1 hb) ?_; clear BK777 HB; intro BK777 HB; (try clear hb); obtain ⟨hcz16_0, hcz16_1, hcz16_2, hfz16_0, hfz16_1, hfz16_2⟩ := cz3 BK777.1) | ((with_reducible refine gate_callee (f := 15) rfl ?_); refine goesM (N := (some 26)) #[.agg #[.int .i64 a0_0, .int .i64 a0_1, .slice A0_2 l0_2.length c0_2]] Try.func15 ?_; (with_reducible refine (laws_toBoard.calls k a0_0 a0_1 _ _ l0_2 t779 t780 t781 _ ?side1 ?side2 A8.1).mono ?_); (case side1 => exact CB (C_below HR0_2.1 HB.1)); (case side2 => exact HC0_2.1); rintro e w17 ⟨v782, rfl, ho0, hb⟩; refine ⟨_, rfl, ?_⟩; refine E3 (R_lower ho0 (bZ HB.1)) (bB BK777.1 hb) (bS HB.1 hb) ?_; clear BK777 HB; intro HO783 BK777 HB; (try clear hb); (try clear ho0); obtain ⟨Ao18, co18, eo18⟩ := R_slice HO783.1; subst eo18) | ((with_reducible refine gate_callee (f := 24) rfl ?_); refine goesM (N := (some 28)) #[.agg #[.int .i64 t779, .int .i64 t780, .slice Ao18 t781.length co18], .int .i64 a1] Try.func24 ?_; (with_reducible refine (spec_OrbitOf.calls k t779 t780 _ _ t781 a1 t784 t787 t788 _ ?side1 ?side2 A9.1).mono ?_); (case side1 => exact CB (R_reads' HO783.1).2.2); (case side2 => exact (R_reads' HO783.1).2.1); rintro e w19 ⟨v785, rfl, ho0, hb⟩; refine ⟨_, rfl, ?_⟩; refine E4 (rB HO783.1 hb) (R_lower ho0 (bZ HB.1)) (bB BK777.1 hb) (bS HB.1 hb) ?_; clear HO783 BK777 HB; intro HO783 HO786 BK777 HB; (try clear hb); (try clear ho0); obtain ⟨hcz20_0, hcz20_1, hcz20_2, hfz20_0, hfz20_1, hfz20_2⟩ := cz3 BK777.1) | ((with_reducible refine gate_callee (f := 15) rfl ?_); refine goesM (N := (some 33)) #[.agg #[.int .i64 a0_0, .int .i64 a0_1, .slice A0_2 l0_2.length c0_2]] Try.func15 ?_; (with_reducible refine (laws_toBoard.calls k a0_0 a0_1 _ _ l0_2 t789 t790 t791 _ ?side1 ?side2 A10.1).mono ?_); (case side1 => exact CB (C_below HR0_2.1 HB.1)); (case side2 => exact HC0_2.1); rintro e w21 ⟨v792, rfl, ho0, hb⟩; refine ⟨_, rfl, ?_⟩; refine E5 (R_elder' (PR HO783.1) (R_base ho0) hb) (rB HO786.1 hb) (R_lower (R_new' ho0 (R_lt (PR HO783.1))) (bZ HB.1)) (bB BK777.1 hb) (bS HB.1 hb) ?_; clear HO783 HO786 BK777 HB; intro HO783 HO786 HO793 BK777 HB; (try clear hb); (try clear ho0)) | ((with_reducible refine gate_dst (N := 9) rfl ?_); refine boxE (cs := #[.int .i64 0, .int .i64 0, .slice none 0 0]) (t := 30) ?_; intro gb794 hg w22 hbox hb; refine E10 (rB HO783.1 hb) (rB HO786.1 hb) (rB HO793.1 hb) (bB BK777.1 hb) (bS HB.1 hb) (hbox) (gX HB.1 hg) (gX HB.1 hg) (nB BK777.1 hg) (nC BK777.1 hg) ?_; clear HO783 HO786 HO793 BK777 HB; intro HO783 HO786 HO793 BK777 HB BK794 GW794 GE794 NB777_794 NB794_777; clear hb hbox hg; have hnb23 := NB794_777.1; have hnc23 := NB777_794.1; obtain ⟨hcz24_0, hcz24_1, hcz24_2, hfz24_0, hfz24_1, hfz24_2⟩ := cz3 BK794.1; obtain ⟨Ao25, co25, eo25⟩ := R_slice HO793.1; subst eo25) | ((with_reducible refine gate_callee (f := 25) rfl ?_); refine goesM (N := (some 37)) #[.agg #[.int .i64 t789, .int .i64 t790, .slice Ao25 t791.length co25], .int .i64 a1] Try.func25 ?_; (with_reducible refine (impl_OrbitOf.calls k t789 t790 _ _ t791 a1 t795 t798 t799 _ ?side1 ?side2 A11.1).mono ?_); (case side1 => refine (R_reads' (e := 83) (base := w.heap.size) (ok := fun k_ => (True /\ some k_ ≠ (.slice Ao18 t781.length co18 : Value).ownBlock)) (n := t791.length) (c := co25) ?_).2.2; exact (by (with_reducible repeat (first | apply R_alloc | apply R_drewN | apply R_drew)); exact (R_mono (RQ gb794 2 (RQ gb794 1 (RQ gb794 0 (R_types HO793.1 BK794.1 (by decide)) _) _) _) (fun _ h_ => h_.1)))); (case side2 => exact (R_reads' HO793.1).2.1); rintro e w26 ⟨v796, rfl, ho0, hb⟩; refine ⟨_, rfl, ?_⟩; refine E7 (R_below (by (with_reducible repeat (first | apply R_alloc | apply R_drewN | apply R_drew)); exact (R_mono (RQ gb794 2 (RQ gb794 1 (RQ gb794 0 (R_types HO783.1 BK794.1 (by decide)) _) _) _) (fun _ h_ => h_.1))) hb) (R_elder' (by (with_reducible repeat (first | apply R_alloc | apply R_drewN | apply R_drew)); exact (R_mono (RQ gb794 2 (RQ gb794 1 (RQ gb794 0 (R_types HO786.1 BK794.1 (by decide)) _) _) _) (fun _ h_ => h_.1))) (R_base ho0) hb) (R_below (by (with_reducible repeat (first | apply R_alloc | apply R_drewN | apply R_drew)); exact (R_mono (RQ gb794 2 (RQ gb794 1 (RQ gb794 0 (R_types HO793.1 BK794.1 (by decide)) _) _) _) (fun _ h_ => h_.1))) hb) (R_lower (R_new' ho0 (R_lt (by (with_reducible repeat (first | apply R_alloc | apply R_drewN | apply R_drew)); exact (R_mono (RQ gb794 2 (RQ gb794 1 (RQ gb794 0 (R_types HO786.1 BK794.1 (by decide)) _) _) _) (fun _ h_ => h_.1))))) (bZ HB.1)) (blk_below (g := gb777) (o := .cells #[.int .i64 a0_0, .int .i64 a0_1, .slice A0_2 l0_2.length c0_2] 24 (0, 0)) (PF1 NB777_794.1 BK777.1) hb) (blk_below (g := gb794) (o := .cells #[.int .i64 t789, .int .i64 t790, .slice Ao25 t791.length co25] 30 (0, 0)) (PF0 BK794.1) hb) (bS HB.1 hb) ?_; clear HO783 HO786 HO793 BK777 BK794 HB; intro HO783 HO786 HO793 HO797 BK777 BK794 HB; (try clear hb); (try clear ho0)))
 (try simp only [Act.put, List.setIfInBounds_toArray, List.set_cons_zero, List.set_cons_succ])
 go_cut [54] (fun v54 wc => ∃ (kq : Nat) (x54_11 : Bool), v54 = .bool x54_11 /\ Aside0 (laws_FnExactOrbitOf.j0 kq a1 t784 t787 t788 t795 t798 t799 x54_11 a0_0 a0_1 l0_2 t789 t790 t791 = some true) /\ Aside0 (kq <= k) /\ Aside0 (Kd.R (Kd.int .i64) 3 wc w.heap.size (fun k_ => some k_ ≠ (v796 : Value).ownBlock) v785 t784) /\ Aside0 (Kd.R (Kd.int .i64) 3 wc w.heap.size (fun k_ => some k_ ≠ (v785 : Value).ownBlock) v796 t795) /\ Aside0 (Kd.R k83 83 wc w.heap.size (fun _ => True) (.slice Ao25 t791.length co25) t791) /\ Aside0 (wc.heap[gb777]? = some (.cells #[.int .i64 a0_0, .int .i64 a0_1, (.slice A0_2 l0_2.length c0_2)] 24 (0, 0))) /\ Aside0 (wc.heap[gb794]? = some (.cells #[.int .i64 t789, .int .i64 t790, (.slice Ao25 t791.length co25)] 30 (0, 0))) /\ Aside0 (Below w.heap.size w wc))
 case first =>
  have H := HC12.1
  clear HC12
  replace H := bindA H; obtain ⟨t800, A27, H⟩ := H
  replace H := ifT H (by cases k <;> simp [laws_FnExactOrbitOf.j0]); obtain ⟨rfl, H⟩ := H
  replace H := ifQ H; rcases H with ⟨c29, H⟩ | ⟨c29, H⟩
  · have c29b0 := beq_iff_eq.mpr c29
    have c29b1 := bne_eq_false_iff_eq.mpr c29
    clear c29
    (first | rw [c29b0] | (simp only [i64_w, i32_w]; rw [c29b0]) | skip)
    have H' := Aside0.mk H
    clear H
    obtain ⟨Ao30, co30, eo30⟩ := R_slice HO797.1
    subst eo30
    obtain ⟨Ao31, co31, eo31⟩ := R_slice HO786.1
    subst eo31
    go_wp2_with (first | ((with_reducible refine gate_callee (f := 26) rfl ?_); refine goesM (N := (some 43)) #[.slice Ao30 t795.length co30, .slice Ao31 t784.length co31] Try.func26 ?_; (with_reducible refine (laws_eqIntS.calls k _ _ t795 _ _ t784 true _ ?side1 ?side2 ?side3 ?side4 A27.1).mono ?_); (case side1 => exact CB (R_reads' HO797.1).2.2); (case side2 => exact (R_reads' HO797.1).2.1); (case side3 => exact CB (R_reads' HO786.1).2.2); (case side4 => exact (R_reads' HO786.1).2.1); rintro e w' ⟨rfl, ⟨nd, rfl⟩⟩; refine ⟨_, rfl, ?_⟩))
    go_meet
    case rel => exact ⟨_, ((t799 != t788)), RG, H', ⟨by first | omega | exact Nat.le_refl _⟩, ⟨RPE (R_mono HO786.1 (fun _ hk => hk.2))⟩, ⟨RPE (R_mono HO797.1 (fun _ hk => hk.2))⟩, ⟨RPE (R_mono HO793.1 (fun _ hk => trivial))⟩, ⟨PB BK777.1⟩, ⟨PB BK794.1⟩, ⟨BL HB.1⟩⟩
  exact absurd H (by cases k <;> simp [laws_FnExactOrbitOf.j0])
 clear HC12
 clear c4b0 hcz14_0 hcz14_1 hcz14_2 hcz16_0 hcz16_1 hcz16_2 hcz20_0 hcz20_1 hcz20_2 hcz24_0 hcz24_1 hcz24_2 hfz14_0 hfz14_1 hfz14_2 hfz16_0 hfz16_1 hfz16_2 hfz20_0 hfz20_1 hfz20_2 hfz24_0 hfz24_1 hfz24_2
 obtain ⟨kq, x54_11, rfl, HA, HJ11, HO_6, HO_10, HO_795002, BK777, BK794, HB⟩ := hcut
 cases kq with
 | zero => exact absurd HA.1 (by simp [laws_FnExactOrbitOf.j0])
 | succ kj11 => ?_
 have H := HA.1
 clear HA
 simp only [laws_FnExactOrbitOf.j0] at H
 replace H := ifF H (by simp); obtain ⟨rfl, H⟩ := H
 replace H := bindA H; obtain ⟨⟨t801, t802, t803⟩, A37, H⟩ := H
 dsimp only at H
 replace H := bindA H; obtain ⟨t806, A38, H⟩ := H
 replace H := ifT H (by simp); obtain ⟨rfl, H⟩ := H
 replace H := bindA H; obtain ⟨⟨t807, t808⟩, A40, H⟩ := H
 dsimp only at H
 have HC41 := Aside0.mk H
 clear H
 try go_wp2
 refine E6 (R_drew HO_6.1) (R_drew HO_10.1) (R_drew HO_795002.1) (blk_drew BK777.1) (blk_drew BK794.1) (below_drew1 HB.1) ?_
 clear HO_6 HO_10 HO_795002 BK777 BK794 HB
 intro HO_6 HO_10 HO_795002 BK777 BK794 HB
 refine start_ (n := 5) (S := fun w' => w'.cell? ⟨gb794, 0, none⟩ = some (.int .i64 t789) /\ w'.cell? ⟨gb794, 1, none⟩ = some (.int .i64 t790) /\ w'.cell? ⟨gb794, 2, none⟩ = some (.slice Ao25 t791.length co25) /\ w'.cell? ⟨gb777, 0, none⟩ = some (.int .i64 a0_0) /\ w'.cell? ⟨gb777, 1, none⟩ = some (.int .i64 a0_1) /\ w'.cell? ⟨gb777, 2, none⟩ = some (.slice A0_2 l0_2.length c0_2)) (ds := []) #[Zz,Zz,Zz,Zz,Zz] (by kernel_rfl) rfl rfl ⟨(blk_cell BK794.1 0).trans rfl, (blk_cell BK794.1 1).trans rfl, (blk_cell BK794.1 2).trans rfl, (blk_cell BK777.1 0).trans rfl, (blk_cell BK777.1 1).trans rfl, (blk_cell BK777.1 2).trans rfl⟩ (fun hHeld => ?_)
 generalize wc.drew = w42 at HO_6 HO_10 HO_795002 BK777 BK794 HB hHeld ⊢
 refine takeF 0 (N := some 55) hHeld ?_
 refine takeF 1 (N := some 56) hHeld ?_
 refine one_ (i := 2) (N := some 57) #[Yy,Yy,Yy,Zz,Zz] rfl rfl (by kernel_rfl) (by decide) (fun K hK => ?_)
 refine goes_ Try.func15 (by kernel_rfl) rfl #[.agg #[.int .i64 a0_0, .int .i64 a0_1, .slice A0_2 l0_2.length c0_2]] (by rfl) rfl rfl (by (try simp only [List.map_toArray, List.map_cons, List.map_nil]); first | done | rfl | (simp only [List.length_drop, List.length_take]; rfl)) ?_
 with_reducible refine (laws_toBoard.calls kj11 a0_0 a0_1 _ _ l0_2 t801 t802 t803 _ ?side1 ?side2 A37.1).mono ?_
 (case side1 => exact CB (C_below HR0_2.1 HB.1))
 (case side2 => exact HC0_2.1)
 rintro e w43 ⟨v804, rfl, ho0, hb⟩
 refine ⟨_, rfl, ?_⟩
 refine E7 (rB HO_6.1 hb) (rB HO_10.1 hb) (R_elder' (PR HO_795002.1) (R_base ho0) hb) (R_lower (R_new' ho0 (R_lt (PR HO_795002.1))) (bZ HB.1)) (bB BK777.1 hb) (bB BK794.1 hb) (bS HB.1 hb) ?_
 clear HO_6 HO_10 HO_795002 BK777 BK794 HB
 intro HO_6 HO_10 HO_795002 HO805 BK777 BK794 HB
 (try clear hb)
 (try clear hb2)
 (try clear hk)
 (try clear hi)
 (try clear ho0)
 obtain ⟨Ao44, co44, eo44⟩ := R_slice HO805.1
 (first | subst eo44 | (injection eo44 with f1_ f2_ f3_; have f4_ := f1_.symm; have f5_ := f3_.symm; clear f1_ f2_ f3_; subst f4_; subst f5_))
 refine hK.out _ _ ⟨(blk_cell BK794.1 0).trans rfl, (blk_cell BK794.1 1).trans rfl, (blk_cell BK794.1 2).trans rfl, (blk_cell BK777.1 0).trans rfl, (blk_cell BK777.1 1).trans rfl, (blk_cell BK777.1 2).trans rfl⟩ (fun hHeld => ?_)
 clear hK K
 refine norm_ (a' := ?_) ?_ ?_
 rotate_left
 · show Act.put _ (some 57) _ = _
   simp only [Act.put, List.setIfInBounds_toArray, List.set_cons_zero, List.set_cons_succ, i64_w, i32_w]
   rfl
 refine one_ (i := 3) (N := some 58) #[Yy,Yy,Yy,Yy,Zz] rfl rfl (by kernel_rfl) (by decide) (fun K hK => ?_)
 refine goes_ Try.func17 (by kernel_rfl) rfl #[.agg #[.int .i64 t789, .int .i64 t790, .slice Ao25 t791.length co25], .agg #[.int .i64 t801, .int .i64 t802, .slice Ao44 t803.length co44]] (by rfl) rfl rfl (by (try simp only [List.map_toArray, List.map_cons, List.map_nil]); first | done | rfl | (simp only [List.length_drop, List.length_take]; rfl)) ?_
 with_reducible refine (laws_eqBoard.calls kj11 t789 t790 _ _ t791 t801 t802 _ _ t803 true _ ?side1 ?side2 ?side3 ?side4 A38.1).mono ?_
 (case side1 => exact CB (R_reads' HO_795002.1).2.2)
 (case side2 => exact (R_reads' HO_795002.1).2.1)
 (case side3 => exact CB (R_reads' HO805.1).2.2)
 (case side4 => exact (R_reads' HO805.1).2.1)
 rintro e w45 ⟨rfl, hb⟩
 refine ⟨_, rfl, ?_⟩
 refine E7 (rB HO_6.1 hb) (rB HO_10.1 hb) (rB HO_795002.1 hb) (rB HO805.1 hb) (bB BK777.1 hb) (bB BK794.1 hb) (bS HB.1 hb) ?_
 clear HO_6 HO_10 HO_795002 HO805 BK777 BK794 HB
 intro HO_6 HO_10 HO_795002 HO805 BK777 BK794 HB
 (try clear hb)
 (try clear hb2)
 (try clear hk)
 (try clear hi)
 refine hK.out _ _ ⟨(blk_cell BK794.1 0).trans rfl, (blk_cell BK794.1 1).trans rfl, (blk_cell BK794.1 2).trans rfl, (blk_cell BK777.1 0).trans rfl, (blk_cell BK777.1 1).trans rfl, (blk_cell BK777.1 2).trans rfl⟩ (fun hHeld => ?_)
 clear hK K
 refine norm_ (a' := ?_) ?_ ?_
 rotate_left
 · show Act.put _ (some 58) _ = _
   simp only [Act.put, List.setIfInBounds_toArray, List.set_cons_zero, List.set_cons_succ, i64_w, i32_w]
   rfl
 refine pure_ (i := 4) (N := some 59) (v := ?_) (a' := ?_) #[Yy,Yy,Yy,Yy,Yy] rfl rfl (by kernel_rfl) (fun _ _ _ h => h) (Or.inl ⟨by rfl, ?_⟩) ?_ ?_
 rotate_left
 · intro w'
   go_simp
   with_reducible rfl
 rotate_left
 · simp only [Act.put, List.setIfInBounds_toArray, List.set_cons_zero, List.set_cons_succ, i64_w, i32_w]
   rfl
 refine done_ (by kernel_rfl) ?_
 obtain ⟨hcz47_0, hcz47_1, hcz47_2, hfz47_0, hfz47_1, hfz47_2⟩ := cz3 BK794.1
 go_upto_region 14 with (first | ((with_reducible refine gate_callee (f := 27) rfl ?_); refine goesM (N := (some 62)) #[.agg #[.int .i64 t789, .int .i64 t790, .slice Ao25 t791.length co25], .int .i64 1] Try.func27 ?_; (with_reducible refine (laws_markBoard.calls kj11 t789 t790 (fun k_ => some k_ = (.slice Ao25 t791.length co25 : Value).ownBlock) (.slice Ao25 t791.length co25) t791 1 t807 t808 w _ ?side1 ?side2 A40.1).mono ?_); (case side1 => exact BL HB.1); (case side2 => exact R_tight rfl HO_795002.1); rintro e w48 ⟨rfl, hy0, hb, hkp⟩; refine ⟨_, rfl, ?_⟩; refine E7 (R_mono (ok' := fun k_ => some k_ ≠ (v796 : Value).ownBlock) (R_keptB ((R_apart' HO_6.1 (R_typed HO_795002.1) (by decide))) hkp (fun k_ hk_ hs_ => (hk_.2) hs_)) (fun k_ hk_ => hk_.1.1)) (R_mono (ok' := fun k_ => some k_ ≠ (v785 : Value).ownBlock) (R_keptB ((R_apart' HO_10.1 (R_typed HO_795002.1) (by decide))) hkp (fun k_ hk_ hs_ => (hk_.2) hs_)) (fun k_ hk_ => hk_.1.1)) (R_reok rfl hy0 (fun k_ e_ => HO_795002.1.1 k_ e_)) (blk_kept (PB BK777.1) hkp (fun hs_ => (fun e_ => (R_ne HO_795002.1 BK777.1 (by decide)) e_) hs_)) (blk_kept (PB BK794.1) hkp (fun hs_ => (fun e_ => (R_ne HO_795002.1 BK794.1 (by decide)) e_) hs_)) (R_mono (ok' := fun k_ => some k_ ≠ (.slice Ao25 t791.length co25 : Value).ownBlock) (R_keptB (HO805.1) hkp (fun k_ hk_ hs_ => (hk_.2) hs_)) (fun k_ hk_ => hk_.1.2)) (hb) ?_; clear HO_6 HO_10 HO_795002 BK777 BK794 HO805 HB; intro HO_6 HO_10 HO_795002 BK777 BK794 HO805 HB; (try clear hb); (try clear hkp); (try clear hy0)))
 (try simp only [Act.put, List.setIfInBounds_toArray, List.set_cons_zero, List.set_cons_succ])
 go_cut [80] (fun v80 wc => ∃ (kq : Nat) (x80_40 : Bool), v80 = .bool x80_40 /\ Aside0 (laws_FnExactOrbitOf.j1 kq a1 t784 t787 t788 t795 x80_40 a0_0 a0_1 l0_2 = some true) /\ Aside0 (kq <= kj11) /\ Aside0 (Kd.R (Kd.int .i64) 3 wc w.heap.size (fun k_ => some k_ ≠ (v796 : Value).ownBlock) v785 t784) /\ Aside0 (Kd.R (Kd.int .i64) 3 wc w.heap.size (fun k_ => some k_ ≠ (v785 : Value).ownBlock) v796 t795) /\ Aside0 (Kd.R k83 83 wc w.heap.size (fun _ => True) (.slice Ao25 t791.length co25) t808) /\ Aside0 (wc.heap[gb777]? = some (.cells #[.int .i64 a0_0, .int .i64 a0_1, (.slice A0_2 l0_2.length c0_2)] 24 (0, 0))) /\ Aside0 (wc.heap[gb794]? = some (.cells #[.int .i64 t789, .int .i64 t790, (.slice Ao25 t791.length co25)] 30 (0, 0))) /\ Aside0 (Below w.heap.size w wc))
 case first =>
  have H := HC41.1
  clear HC41
  replace H := ifQ H; rcases H with ⟨c49, H⟩ | ⟨c49, H⟩
  · exact absurd H (by cases kj11 <;> simp [laws_FnExactOrbitOf.j1])
  have c49b0 := decide_eq_false c49
  clear c49
  (first | rw [c49b0] | (simp only [i64_w, i32_w]; rw [c49b0]) | skip)
  replace H := bindA H; obtain ⟨t809, A50, H⟩ := H
  replace H := ifT H (by cases kj11 <;> simp [laws_FnExactOrbitOf.j1]); obtain ⟨rfl, H⟩ := H
  replace H := ifQ H; rcases H with ⟨c52, H⟩ | ⟨c52, H⟩
  · have c52b0 := beq_iff_eq.mpr c52
    have c52b1 := bne_eq_false_iff_eq.mpr c52
    clear c52
    have H' := Aside0.mk H
    clear H
    obtain ⟨Ao53, co53, eo53⟩ := R_slice HO_10.1
    subst eo53
    obtain ⟨Ao54, co54, eo54⟩ := R_slice HO_6.1
    subst eo54
    go_wp2_with (first | (go_at_call 26; (with_reducible refine (laws_eqIntS.calls kj11 _ _ t795 _ _ t784 true _ ?side1 ?side2 ?side3 ?side4 A50.1).mono ?_); (case side1 => exact CB (R_reads' HO_10.1).2.2); (case side2 => exact (R_reads' HO_10.1).2.1); (case side3 => exact CB (R_reads' HO_6.1).2.2); (case side4 => exact (R_reads' HO_6.1).2.1); rintro e w' ⟨rfl, ⟨nd, rfl⟩⟩))
    go_meet
    case rel => exact ⟨_, ((t799 != t788)), RG, H', ⟨by have := HJ11.1; first | omega | exact Nat.le_refl _⟩, ⟨PR HO_6.1⟩, ⟨PR HO_10.1⟩, ⟨RPE (R_mono HO_795002.1 (fun _ hk => trivial))⟩, ⟨PB BK777.1⟩, ⟨PB BK794.1⟩, ⟨BL HB.1⟩⟩
  exact absurd H (by cases kj11 <;> simp [laws_FnExactOrbitOf.j1])
 clear HC41
 clear hcz47_0 hcz47_1 hcz47_2 hfz47_0 hfz47_1 hfz47_2
 obtain ⟨kq, x80_40, rfl, HA, HJ40, HO_6, HO_10, HO_795002, BK777, BK794, HB⟩ := hcut
 have hl795002_40 := (R_reads' HO_795002.1).1
 rw [hl795002_40] at HO_795002
 (try simp only [hl795002_40])
 (try simp only [hl795002_40] at BK777)
 (try simp only [hl795002_40] at BK794)
 (try simp only [hl795002_40] at HO_6)
 (try simp only [hl795002_40] at HO_10)
 cases kq with
 | zero => exact absurd HA.1 (by simp [laws_FnExactOrbitOf.j1])
 | succ kj40 => ?_
 have H := HA.1
 clear HA
 simp only [laws_FnExactOrbitOf.j1] at H
 replace H := ifF H (by simp); obtain ⟨rfl, H⟩ := H
 replace H := bindA H; obtain ⟨⟨t810, t811⟩, A60, H⟩ := H
 dsimp only at H
 replace H := bindA H; obtain ⟨t812, A61, H⟩ := H
 replace H := ifQ H; rcases H with ⟨c62, H⟩ | ⟨c62, H⟩
 · exact absurd H (by simp)
 have c62b0 := decide_eq_false c62
 clear c62
 first | replace H := ifP H | replace H := ifPf H
 obtain ⟨c65, H⟩ := H
 have c65b0 := beq_iff_eq.mpr c65
 have c65b1 := bne_eq_false_iff_eq.mpr c65
 clear c65
 replace H := bindA H; obtain ⟨⟨t813, t814, t815⟩, A66, H⟩ := H
 dsimp only at H
 replace H := bindA H; obtain ⟨⟨t818, t821, t822⟩, A67, H⟩ := H
 dsimp only at H
 have HC68 := Aside0.mk H
 clear H
 obtain ⟨Ao69, co69, eo69⟩ := R_slice HO_10.1
 subst eo69
 go_upto_region 25 with (first | ((with_reducible refine gate_callee (f := 28) rfl ?_); refine goesM (N := (some 83)) #[.slice Ao69 t795.length co69, .int .i64 1] Try.func28 ?_; (with_reducible refine (laws_markIntS.calls kj40 (fun k_ => some k_ = (.slice Ao69 t795.length co69 : Value).ownBlock) (.slice Ao69 t795.length co69) t795 1 t810 t811 w _ ?side1 ?side2 A60.1).mono ?_); (case side1 => exact BL HB.1); (case side2 => exact R_tight rfl HO_10.1); rintro e w70 ⟨rfl, hy0, hb, hkp⟩; refine ⟨_, rfl, ?_⟩; refine E6 (R_mono (ok' := fun k_ => some k_ ≠ (.slice Ao69 t795.length co69 : Value).ownBlock) (R_keptB (HO_6.1) hkp (fun k_ hk_ hs_ => (hk_) hs_)) (fun k_ hk_ => hk_.1)) (R_reok rfl hy0 (fun k_ e_ => HO_10.1.1 k_ e_)) (R_mono (ok' := fun k_ => True) (R_keptB ((R_apart' HO_795002.1 (R_typed HO_10.1) (by decide))) hkp (fun k_ hk_ hs_ => (hk_.2) hs_)) (fun k_ hk_ => trivial)) (blk_kept (PB BK777.1) hkp (fun hs_ => (fun e_ => (R_ne HO_10.1 BK777.1 (by decide)) e_) hs_)) (blk_kept (PB BK794.1) hkp (fun hs_ => (fun e_ => (R_ne HO_10.1 BK794.1 (by decide)) e_) hs_)) (hb) ?_; clear HO_6 HO_10 HO_795002 BK777 BK794 HB; intro HO_6 HO_10 HO_795002 BK777 BK794 HB; (try clear hb); (try clear hkp); (try clear hy0)) | ((with_reducible refine gate_callee (f := 29) rfl ?_); refine goesL_ (some 86) rfl rfl Try.func29 (by kernel_rfl) rfl #[.slice Ao69 t811.length co69, .int .i64 1] rfl (by (try simp only [List.map_toArray, List.map_cons, List.map_nil]); first | done | (rw [show t811.length = t795.length from (R_reads' HO_10.1).1.symm] <;> rfl) | rfl | (simp only [List.length_drop, List.length_take]; rfl)) ?_; (with_reducible refine (laws_heldIntS.calls kj40 _ _ t811 1 t812 _ ?side1 ?side2 A61.1).mono ?_); (case side1 => exact CB (R_reads' HO_10.1).2.2); (case side2 => rw [show t811.length = t795.length from (R_reads' HO_10.1).1.symm]; exact (R_reads' HO_10.1).2.1); rintro e w' ⟨rfl, ⟨nd, rfl⟩⟩; refine ⟨_, rfl, ?_⟩; have hnb71 := NB777_794.1; have hnc71 := NB794_777.1; obtain ⟨hcz72_0, hcz72_1, hcz72_2, hfz72_0, hfz72_1, hfz72_2⟩ := cz3 BK777.1) | ((with_reducible refine gate_callee (f := 15) rfl ?_); refine goesM (N := (some 94)) #[.agg #[.int .i64 a0_0, .int .i64 a0_1, .slice A0_2 l0_2.length c0_2]] Try.func15 ?_; (with_reducible refine (laws_toBoard.calls kj40 a0_0 a0_1 _ _ l0_2 t813 t814 t815 _ ?side1 ?side2 A66.1).mono ?_); (case side1 => repeat (first | exact (C_below HR0_2.1 (BL HB.1)) | (with_reducible refine C_alloc ?_ _) | (with_reducible refine C_drewN ?_ _) | (with_reducible refine C_drew ?_))); (case side2 => exact HC0_2.1); rintro e w73 ⟨v816, rfl, ho0, hb⟩; refine ⟨_, rfl, ?_⟩; refine E7 (rB HO_6.1 hb) (rB HO_10.1 hb) (R_elder' (PR HO_795002.1) (R_base ho0) hb) (R_lower (R_new' ho0 (R_lt (PR HO_795002.1))) (bZ HB.1)) (bB BK777.1 hb) (bB BK794.1 hb) (bS HB.1 hb) ?_; clear HO_6 HO_10 HO_795002 BK777 BK794 HB; intro HO_6 HO_10 HO_795002 HO817 BK777 BK794 HB; (try clear hb); (try clear ho0); obtain ⟨Ao74, co74, eo74⟩ := R_slice HO817.1; subst eo74) | ((with_reducible refine gate_callee (f := 25) rfl ?_); refine goesM (N := (some 96)) #[.agg #[.int .i64 t813, .int .i64 t814, .slice Ao74 t815.length co74], .int .i64 a1] Try.func25 ?_; (with_reducible refine (impl_OrbitOf.calls kj40 t813 t814 _ _ t815 a1 t818 t821 t822 _ ?side1 ?side2 A67.1).mono ?_); (case side1 => exact CB (R_reads' HO817.1).2.2); (case side2 => exact (R_reads' HO817.1).2.1); rintro e w75 ⟨v819, rfl, ho0, hb⟩; refine ⟨_, rfl, ?_⟩; refine E8 (R_elder' (PR HO_6.1) (R_base ho0) hb) (R_elder' (PR HO_10.1) (R_base ho0) hb) (rB HO_795002.1 hb) (rB HO817.1 hb) (R_lower (R_new' (R_new' ho0 (R_lt (PR HO_6.1))) (R_lt (PR HO_10.1))) (bZ HB.1)) (bB BK777.1 hb) (bB BK794.1 hb) (bS HB.1 hb) ?_; clear HO_6 HO_10 HO_795002 HO817 BK777 BK794 HB; intro HO_6 HO_10 HO_795002 HO817 HO820 BK777 BK794 HB; (try clear hb); (try clear ho0)))
 (try simp only [Act.put, List.setIfInBounds_toArray, List.set_cons_zero, List.set_cons_succ])
 go_cut [113] (fun v113 wc => ∃ (kq : Nat) (x113_67 : Bool), v113 = .bool x113_67 /\ Aside0 (laws_FnExactOrbitOf.j2 kq t811 t810 x113_67 = some true) /\ Aside0 (kq <= kj40) /\ Aside0 (Kd.R (Kd.int .i64) 3 wc w.heap.size (fun _ => True) (.slice Ao69 t795.length co69) t811) /\ Aside0 (Kd.R k83 83 wc w.heap.size (fun _ => True) (.slice Ao25 t808.length co25) t808) /\ Aside0 (wc.heap[gb777]? = some (.cells #[.int .i64 a0_0, .int .i64 a0_1, (.slice A0_2 l0_2.length c0_2)] 24 (0, 0))) /\ Aside0 (wc.heap[gb794]? = some (.cells #[.int .i64 t789, .int .i64 t790, (.slice Ao25 t808.length co25)] 30 (0, 0))) /\ Aside0 (Below w.heap.size w wc))
 case first =>
  have H := HC68.1
  clear HC68
  replace H := bindA H; obtain ⟨t823, A76, H⟩ := H
  replace H := ifT H (by cases kj40 <;> simp [laws_FnExactOrbitOf.j2]); obtain ⟨rfl, H⟩ := H
  replace H := ifQ H; rcases H with ⟨c78, H⟩ | ⟨c78, H⟩
  · have c78b0 := beq_iff_eq.mpr c78
    have c78b1 := bne_eq_false_iff_eq.mpr c78
    clear c78
    (first | rw [c78b0] | (simp only [i64_w, i32_w]; rw [c78b0]) | skip)
    have H' := Aside0.mk H
    clear H
    obtain ⟨Ao79, co79, eo79⟩ := R_slice HO820.1
    subst eo79
    obtain ⟨Ao80, co80, eo80⟩ := R_slice HO_6.1
    subst eo80
    go_wp2_with (first | ((with_reducible refine gate_callee (f := 26) rfl ?_); refine goesM (N := (some 102)) #[.slice Ao79 t818.length co79, .slice Ao80 t784.length co80] Try.func26 ?_; (with_reducible refine (laws_eqIntS.calls kj40 _ _ t818 _ _ t784 true _ ?side1 ?side2 ?side3 ?side4 A76.1).mono ?_); (case side1 => exact CB (R_reads' HO820.1).2.2); (case side2 => exact (R_reads' HO820.1).2.1); (case side3 => exact CB (R_reads' HO_6.1).2.2); (case side4 => exact (R_reads' HO_6.1).2.1); rintro e w' ⟨rfl, ⟨nd, rfl⟩⟩; refine ⟨_, rfl, ?_⟩))
    go_meet
    case rel => exact ⟨_, ((t822 != t788)), RG, H', ⟨by have := HJ11.1; have := HJ40.1; first | omega | exact Nat.le_refl _⟩, ⟨by (try simp only [hl795002_40]); (with_reducible repeat (first | apply R_alloc | apply R_drewN | apply R_drew)); exact R_mono HO_10.1 (fun _ hk => trivial)⟩, ⟨by (try simp only [hl795002_40]); (with_reducible repeat (first | apply R_alloc | apply R_drewN | apply R_drew)); exact R_mono HO_795002.1 (fun _ hk => trivial)⟩, ⟨PB1 BK777.1 hl795002_40⟩, ⟨PB1 BK794.1 hl795002_40⟩, ⟨BL HB.1⟩⟩
  exact absurd H (by cases kj40 <;> simp [laws_FnExactOrbitOf.j2])
 clear HC68
 clear c62b0 c65b0 c65b1 hcz72_0 hcz72_1 hcz72_2 hfz72_0 hfz72_1 hfz72_2
 obtain ⟨kq, x113_67, rfl, HA, HJ67, HO_10, HO_795002, BK777, BK794, HB⟩ := hcut
 have hl10_67 := (R_reads' HO_10.1).1
 rw [hl10_67] at HO_10
 (try simp only [hl10_67])
 (try simp only [hl10_67] at BK777)
 (try simp only [hl10_67] at BK794)
 (try simp only [hl10_67] at HO_795002)
 cases kq with
 | zero => exact absurd HA.1 (by simp [laws_FnExactOrbitOf.j2])
 | succ kj67 => ?_
 have H := HA.1
 clear HA
 simp only [laws_FnExactOrbitOf.j2] at H
 replace H := ifF H (by simp); obtain ⟨rfl, H⟩ := H
 replace H := bindA H; obtain ⟨t824, A86, H⟩ := H
 replace H := ifQ H; rcases H with ⟨c87, H⟩ | ⟨c87, H⟩
 · exact absurd H (by simp)
 have c87b0 := decide_eq_false c87
 clear c87
 first | replace H := ifP H | replace H := ifPf H
 obtain ⟨c88, H⟩ := H
 have c88b0 := beq_iff_eq.mpr c88
 have c88b1 := bne_eq_false_iff_eq.mpr c88
 clear c88
 first | (obtain rfl := Option.some.inj H) | clear H
 go_wp2_with (first | ((with_reducible refine gate_callee (f := 29) rfl ?_); refine goesM (N := (some 116)) #[.slice Ao69 t811.length co69, .int .i64 1] Try.func29 ?_; (with_reducible refine (laws_heldIntS.calls kj67 _ _ t811 1 t824 _ ?side1 ?side2 A86.1).mono ?_); (case side1 => exact CB (R_reads' HO_10.1).2.2); (case side2 => exact (R_reads' HO_10.1).2.1); rintro e w' ⟨rfl, ⟨nd, rfl⟩⟩; refine ⟨_, rfl, ?_⟩))
 go_ret
 exact ⟨RF, BL HB.1⟩
end Go.Proofs.Ytbpfdbjnnlmdjaa.P
