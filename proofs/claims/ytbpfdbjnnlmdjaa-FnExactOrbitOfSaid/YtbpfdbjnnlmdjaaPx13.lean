-- PRINTED by print.py (a twelfth state) out of the translation. Not trusted: Lean checks it.
import Derived.Test.YtbpfdbjnnlmdjaaPx0
import Derived.Test.YtbpfdbjnnlmdjaaPx1
import Derived.Test.YtbpfdbjnnlmdjaaPx3
import Derived.Test.YtbpfdbjnnlmdjaaPx4
import Derived.Test.YtbpfdbjnnlmdjaaPx6
import Derived.Test.YtbpfdbjnnlmdjaaPx7
import Derived.Test.YtbpfdbjnnlmdjaaMapW
namespace Go.Proofs.Ytbpfdbjnnlmdjaa.P
open Go.RowKit Go.Proofs.YtbpfdbjnnlmdjaaW.PrintWords Go.Proofs.YtbpfdbjnnlmdjaaW.PrintLast Go.Proofs.YtbpfdbjnnlmdjaaW.PrintMore
attribute [local go_sem] max2_int min2_int max_two min_two max_three min_three max_four min_four   -- for this text's walks alone
set_option linter.unusedVariables false
set_option linter.unusedSimpArgs false

/-! ### spec_reOrbit: function 53 -/
open Kd
mutual
def spec_reOrbit.l0 : Nat -> Int -> List Int -> Int -> Int -> Int -> List (S83) -> Option (List Int × Int)
 | 0, _, _, _, _, _, _ => none
 | k + 1, x1, x6, x7, x647000, x647001, x647002 => (spec_l1Has.f k x6 x7).bind fun t648 => (if t648 = true then (spec_reOrbit.l1 k x6 x7 0) else (if x6.length < 17592186044416 then ((spec_reNext.f k x647000 x647001 x647002 x7 x1).bind fun bt652 => (spec_reOrbit.l0 k x1 (x6 ++ [x7]) bt652.1 x647000 x647001 x647002)) else (none)))
def spec_reOrbit.l1 : Nat -> List Int -> Int -> Int -> Option (List Int × Int)
 | 0, _, _, _ => none
 | k + 1, x6, x7, x8 => if 0 <= x8 then (if x8 < (x6.length : Int) then (if (rd x6 x8) = x7 then (some (x6, x8)) else (spec_reOrbit.l1 k x6 x7 (wrap64 (x8 + 1)))) else (none)) else (none)
end
def spec_reOrbit.f (k : Nat) (a0_0 : Int) (a0_1 : Int) (l0_2 : List (S83)) (a1 : Int) : Option (List Int × Int) := (spec_saNumber.f k a0_0 a0_1 l0_2).bind fun t647 => (spec_reOrbit.l0 k a1 ([] : List Int) t647 a0_0 a0_1 l0_2)
theorem spec_reOrbit.mono_l : ∀ k, (∀ y0 y1 y2 y3 y4 y5, LeO (spec_reOrbit.l0 k y0 y1 y2 y3 y4 y5) (spec_reOrbit.l0 (k + 1) y0 y1 y2 y3 y4 y5)) /\ (∀ y0 y1 y2, LeO (spec_reOrbit.l1 k y0 y1 y2) (spec_reOrbit.l1 (k + 1) y0 y1 y2))
 | 0 => by refine ⟨?_, ?_⟩ <;> (intros; intro r h; first | (simp [spec_reOrbit.l0] at h; done) | (simp [spec_reOrbit.l1] at h; done))
 | k + 1 => by
  obtain ⟨ih0, ih1⟩ := spec_reOrbit.mono_l k
  refine ⟨?_, ?_⟩ <;> (
   intros
   first | unfold spec_reOrbit.l0 | unfold spec_reOrbit.l1
   repeat' first | (with_reducible first | apply ih0 | apply ih1 | apply spec_l1Has.mono | apply spec_reNext.mono | apply spec_saNumber.mono | exact LeO.refl _ | exact LeO.none _ | refine LeO.ite ?_ ?_ | refine LeO.bind ?_ (fun _ => ?_)) | exact LeO.none _ | refine LeO.ite ?_ ?_ | refine LeO.bind ?_ (fun _ => ?_))
theorem spec_reOrbit.mono : ∀ a0 a1 a2 a3 k, LeO (spec_reOrbit.f k a0 a1 a2 a3) (spec_reOrbit.f (k + 1) a0 a1 a2 a3) := by
 intro a0 a1 a2 a3 k
 obtain ⟨ih0, ih1⟩ := spec_reOrbit.mono_l k
 unfold spec_reOrbit.f
 repeat' first | (with_reducible first | apply ih0 | apply ih1 | apply spec_l1Has.mono | apply spec_reNext.mono | apply spec_saNumber.mono | exact LeO.refl _ | exact LeO.none _ | refine LeO.ite ?_ ?_ | refine LeO.bind ?_ (fun _ => ?_)) | exact LeO.none _ | refine LeO.ite ?_ ?_ | refine LeO.bind ?_ (fun _ => ?_)
set_option maxHeartbeats 8000000 in
set_option maxRecDepth 100000 in
theorem spec_reOrbit.calls (k : Nat) (a0_0 : Int) (a0_1 : Int) (A0_2 : Option Addr) (c0_2 : Nat) (l0_2 : List (S83)) (a1 : Int) (r1 : List Int) (r2 : Int) (w : World) (hr0_2 : Kd.C k83 w A0_2 l0_2.length l0_2) (hc0_2 : l0_2.length <= c0_2) (h : spec_reOrbit.f k a0_0 a0_1 l0_2 a1 = some (r1, r2)) :
 Calls Try.prog 53 #[.agg #[.int .i64 a0_0, .int .i64 a0_1, .slice A0_2 l0_2.length c0_2], .int .i64 a1] w fun e w' => ∃ v0_ : Value, e = .returned (.tuple #[v0_, .int .i64 r2]) /\ Kd.R (Kd.int .i64) 3 w' w.heap.size (fun _ => True) v0_ r1 /\ Below w.heap.size w w' := by
 have hu30 := Try.underlying30
 have HR0_2 := Aside0.mk hr0_2
 have HC0_2 := Aside0.mk hc0_2
 clear hr0_2 hc0_2
 have HB := Aside0.mk (Below.refl w.heap.size w)
 have H := h
 clear h
 unfold spec_reOrbit.f at H
 replace H := bindA H; obtain ⟨t647, A3, H⟩ := H
 have H' := Aside0.mk H
 clear H
 go_enter Try.func53, Try.ntmps53
 go_wp2_with (first | ((with_reducible refine gate_dst (N := 2) rfl ?_); refine boxE (cs := #[.int .i64 a0_0, .int .i64 a0_1, .slice A0_2 l0_2.length c0_2]) (t := 30) ?_; intro gb646 hg w4 hbox hb; refine E4b HB.1 hg hbox hb ?_; clear HB; intro HB BK646 GW646 GE646; clear hb hbox hg; obtain ⟨hcz5_0, hcz5_1, hcz5_2, hfz5_0, hfz5_1, hfz5_2⟩ := cz3 BK646.1) | ((with_reducible refine gate_callee (f := 44) rfl ?_); refine goesM (N := (some 10)) #[.agg #[.int .i64 a0_0, .int .i64 a0_1, .slice A0_2 l0_2.length c0_2]] Try.func44 ?_; (with_reducible refine (spec_saNumber.calls k a0_0 a0_1 _ _ l0_2 t647 _ ?side1 ?side2 A3.1).mono ?_); (case side1 => exact CB (C_below HR0_2.1 HB.1)); (case side2 => exact HC0_2.1); rintro e w6 ⟨rfl, hb⟩; refine ⟨_, rfl, ?_⟩; refine E2 (bB BK646.1 hb) (bS HB.1 hb) ?_; clear BK646 HB; intro BK646 HB; (try clear hb)))
 go_loopg [6, 7] k (fun kq v6 v7 w' => ∃ (x6_1 : List Int) (x7_1 : Int), v7 = .int .i64 x7_1 /\ Aside0 (spec_reOrbit.l0 kq a1 x6_1 x7_1 a0_0 a0_1 l0_2 = some (r1, r2)) /\ Aside0 (kq <= k) /\ Aside0 (Kd.R (Kd.int .i64) 3 w' w.heap.size (fun _ => True) v6 x6_1) /\ Aside0 (w'.heap[gb646]? = some (.cells #[.int .i64 a0_0, .int .i64 a0_1, (.slice A0_2 l0_2.length c0_2)] 30 (0, 0))) /\ Aside0 (Below w.heap.size w w'))
 case atStart => exact ⟨(([] : List Int)), (t647), RG, H', ⟨Nat.le_refl _⟩, ⟨by first | exact R_nil _ _ _ _ _ | exact N_nil _ _ _ _ _ | exact V_nil _ _ _ _ _ | exact Q_nil _ _ _ _ _ | exact S_nil _ _ _ _ _⟩, ⟨PB BK646.1⟩, ⟨BL HB.1⟩⟩
 clear H'
 clear hcz5_0 hcz5_1 hcz5_2 hfz5_0 hfz5_1 hfz5_2
 obtain ⟨x6_1, x7_1, rfl, HA, HK1, HO_6, BK646, HB⟩ := hrel
 cases gk with
 | zero => exact absurd HA.1 (by simp [spec_reOrbit.l0])
 | succ k1 => ?_
 have H := HA.1
 clear HA
 simp only [spec_reOrbit.l0] at H
 replace H := bindA H; obtain ⟨t648, A7, H⟩ := H
 replace H := ifX H; rcases H with ⟨rfl, H⟩ | ⟨rfl, H⟩
 · have H' := Aside0.mk H
   clear H
   obtain ⟨Ao9, co9, eo9⟩ := R_slice HO_6.1
   subst eo9
   go_wp2_with (first | ((with_reducible refine gate_callee (f := 62) rfl ?_); refine goesM (N := (some 13)) #[.slice Ao9 x6_1.length co9, .int .i64 x7_1] Try.func62 ?_; (with_reducible refine (spec_l1Has.calls k1 _ _ x6_1 x7_1 true _ ?side1 ?side2 A7.1).mono ?_); (case side1 => exact CB (R_reads' HO_6.1).2.2); (case side2 => exact (R_reads' HO_6.1).2.1); rintro e w' ⟨rfl, ⟨nd, rfl⟩⟩; refine ⟨_, rfl, ?_⟩))
   go_loopg [8] k1 (fun kq v8 w' => ∃ (x8_2 : Int), v8 = .int .i64 x8_2 /\ Aside0 (spec_reOrbit.l1 kq x6_1 x7_1 x8_2 = some (r1, r2)) /\ Aside0 (kq <= k1) /\ Aside0 (Kd.R (Kd.int .i64) 3 w' w.heap.size (fun _ => True) (.slice Ao9 x6_1.length co9) x6_1) /\ Aside0 (w'.heap[gb646]? = some (.cells #[.int .i64 a0_0, .int .i64 a0_1, (.slice A0_2 l0_2.length c0_2)] 30 (0, 0))) /\ Aside0 (Below w.heap.size w w'))
   case atStart => exact ⟨(0), RG, H', ⟨Nat.le_refl _⟩, ⟨PR HO_6.1⟩, ⟨PB BK646.1⟩, ⟨BL HB.1⟩⟩
   clear H'
   obtain ⟨x8_2, rfl, HA, HK2, HO_6, BK646, HB⟩ := hrel
   cases gk with
   | zero => exact absurd HA.1 (by simp [spec_reOrbit.l1])
   | succ k2 => ?_
   have H := HA.1
   clear HA
   simp only [spec_reOrbit.l1] at H
   replace H := ifN H; obtain ⟨c10b0, H⟩ := H
   replace H := ifN H; obtain ⟨c11b0, H⟩ := H
   replace H := ifQ H; rcases H with ⟨c12, H⟩ | ⟨c12, H⟩
   · have c12b0 := beq_iff_eq.mpr c12
     have c12b1 := bne_eq_false_iff_eq.mpr c12
     clear c12
     simp only [Option.some.injEq, Prod.mk.injEq] at H
     obtain ⟨rfl, rfl⟩ := H
     have p656 : 0 <= (x8_2 : Int) := OD
     have q656 : x8_2 < (x6_1.length : Int) := OD
     obtain ⟨ad656, e656, hx656_0⟩ := Kd.at_int (R_reads' HO_6.1).2.2 x8_2 p656 q656
     cases e656
     replace p656 := eq_true p656
     replace q656 := eq_true q656
     go_wp2
     go_ret2
     exact ⟨_, RF, RPE (HO_6.1), BL HB.1⟩
   have c12b0 := beq_eq_false_iff_ne.mpr c12
   have c12b1 := bne_iff_ne.mpr c12
   have H' := Aside0.mk H
   clear H
   have p656 : 0 <= (x8_2 : Int) := OD
   have q656 : x8_2 < (x6_1.length : Int) := OD
   obtain ⟨ad656, e656, hx656_0⟩ := Kd.at_int (R_reads' HO_6.1).2.2 x8_2 p656 q656
   cases e656
   replace p656 := eq_true p656
   replace q656 := eq_true q656
   go_wp2
   go_roundg k2
   case measure => have := HK1.1; have := HK2.1; omega
   case rel => exact ⟨(wrap64 (x8_2 + 1)), RG, H', ⟨by have := HK1.1; have := HK2.1; omega⟩, ⟨PR HO_6.1⟩, ⟨PB BK646.1⟩, ⟨BL HB.1⟩⟩
 replace H := ifP H; obtain ⟨c13, H⟩ := H
 have LMc13 := Aside0.mk c13
 clear c13
 generalize hy649 : ((x6_1 ++ [x7_1]) : List Int) = y649 at H
 have Ny649 := Aside0.mk hy649.symm; clear hy649
 replace H := bindA H; obtain ⟨⟨t652, t653, t654, t655⟩, A14, H⟩ := H
 dsimp only at H
 have H' := Aside0.mk H
 clear H
 obtain ⟨Ao15, co15, eo15⟩ := R_slice HO_6.1
 subst eo15
 go_wp2_with (first | ((with_reducible refine gate_callee (f := 62) rfl ?_); refine goesM (N := (some 13)) #[.slice Ao15 x6_1.length co15, .int .i64 x7_1] Try.func62 ?_; (with_reducible refine (spec_l1Has.calls k1 _ _ x6_1 x7_1 false _ ?side1 ?side2 A7.1).mono ?_); (case side1 => exact CB (R_reads' HO_6.1).2.2); (case side2 => exact (R_reads' HO_6.1).2.1); rintro e w' ⟨rfl, ⟨nd, rfl⟩⟩; refine ⟨_, rfl, ?_⟩) | ((with_reducible refine gate_builtin (b := .append) (xs := #[.tmp 15, .tmp 17]) rfl ?_); at_builtin; refine R_append (Kd.int .i64) (w0 := w) w.heap.size rfl (.tmp 15) (.tmp 17) 38 3 (.int .i64 0) 8 rfl Try.underlying38 info3 rfl (by decide) (by omega) (.slice Ao15 x6_1.length co15) x6_1 x7_1 [.int .i64 x7_1] (fun _ => True) (fun _ => False) rfl rfl ?aP (fun _ hk => hk.elim) ?aF ?aO ?aB ?aS ?aL ?_; (case aP => exact rfl); (case aB => exact (BL HB.1)); (case aF => exact (fun _ _ => trivial)); (case aO => exact (PR HO_6.1)); (case aS => exact (bZ HB.1)); (case aL => have := LMc13.1; omega); intro v650 w16 ho hb hg hat; rw [<- Ny649.1] at ho; refine E3 (bG BK646.1 hg (R_ne HO_6.1 BK646.1 (by decide))) (hb) (ho) ?_; clear BK646 HB HO_6; intro BK646 HB HO651; clear ho hb hg hat; obtain ⟨hcz17_0, hcz17_1, hcz17_2, hfz17_0, hfz17_1, hfz17_2⟩ := cz3 BK646.1) | ((with_reducible refine gate_callee (f := 43) rfl ?_); refine goesM (N := (some 23)) #[.agg #[.int .i64 a0_0, .int .i64 a0_1, .slice A0_2 l0_2.length c0_2], .int .i64 x7_1, .int .i64 a1] Try.func43 ?_; (with_reducible refine (spec_reNext.calls k1 a0_0 a0_1 _ _ l0_2 x7_1 a1 t652 t653 t654 t655 _ ?side1 ?side2 A14.1).mono ?_); (case side1 => exact CB (C_below HR0_2.1 HB.1)); (case side2 => exact HC0_2.1); rintro e w18 ⟨rfl, hb⟩; refine ⟨_, rfl, ?_⟩; refine E3 (rB HO651.1 hb) (bB BK646.1 hb) (bS HB.1 hb) ?_; clear HO651 BK646 HB; intro HO651 BK646 HB; (try clear hb)))
 go_roundg k1
 case measure => have := HK1.1; omega
 case rel => exact ⟨(y649), (t652), RG, H', ⟨by have := HK1.1; omega⟩, ⟨PR HO651.1⟩, ⟨PB BK646.1⟩, ⟨BL HB.1⟩⟩
/-! ### impl_orbitOf: function 54 -/
open Kd
def impl_orbitOf.l0 : Nat -> List Int -> List Int -> Int -> List (Int × Int) -> Option (List Int × Int)
 | 0, _, _, _, _ => none
 | k + 1, x6, x8, x9, xm => (if wrap64 x9 = x9 then (if mhas xm x9 = true then (some (x8, (mget xm x9))) else (if xm.length < 17592186044416 then (if x8.length < 17592186044416 then (if 0 <= x9 then (if x9 < (x6.length : Int) then (impl_orbitOf.l0 k x6 (x8 ++ [x9]) (rd x6 x9) ((x9, (x8.length : Int)) :: xm)) else (none)) else (none)) else (none)) else (none))) else (none))
def impl_orbitOf.f (k : Nat) (a0_0 : Int) (a0_1 : Int) (l0_2 : List (S83)) (a1 : Int) : Option (List Int × Int) := (impl_numbersAfter.f k a0_0 a0_1 l0_2 (([a1] : List Int))).bind fun t667 => (if 0 < (t667.length : Int) then ((impl_bitsOf.f k a0_0 a0_1 l0_2).bind fun t675 => ((impl_numberOf.f k t675).bind fun t678 => (impl_orbitOf.l0 k (rd_L3 t667 0) (([] : List Int)) t678 ([] : List (Int × Int))))) else (none))
theorem impl_orbitOf.mono_l : ∀ k, (∀ y0 y1 y2 y3, LeO (impl_orbitOf.l0 k y0 y1 y2 y3) (impl_orbitOf.l0 (k + 1) y0 y1 y2 y3))
 | 0 => fun _ _ _ _ r h => by simp [impl_orbitOf.l0] at h
 | k + 1 => by
  have ih0 := impl_orbitOf.mono_l k
  intros
  first | unfold impl_orbitOf.l0
  repeat' first | (with_reducible first | apply ih0 | apply impl_bitsOf.mono | apply impl_numberOf.mono | apply impl_numbersAfter.mono | exact LeO.refl _ | exact LeO.none _ | refine LeO.ite ?_ ?_ | refine LeO.bind ?_ (fun _ => ?_)) | exact LeO.none _ | refine LeO.ite ?_ ?_ | refine LeO.bind ?_ (fun _ => ?_)
theorem impl_orbitOf.mono : ∀ a0 a1 a2 a3 k, LeO (impl_orbitOf.f k a0 a1 a2 a3) (impl_orbitOf.f (k + 1) a0 a1 a2 a3) := by
 intro a0 a1 a2 a3 k
 have ih0 := impl_orbitOf.mono_l k
 unfold impl_orbitOf.f
 repeat' first | (with_reducible first | apply ih0 | apply impl_bitsOf.mono | apply impl_numberOf.mono | apply impl_numbersAfter.mono | exact LeO.refl _ | exact LeO.none _ | refine LeO.ite ?_ ?_ | refine LeO.bind ?_ (fun _ => ?_)) | exact LeO.none _ | refine LeO.ite ?_ ?_ | refine LeO.bind ?_ (fun _ => ?_)
theorem impl_orbitOf.zero3 (w : World) : (zeroValue 3).run Try.prog w = .ok (.int .i64 0) w := by kernel_rfl
set_option maxHeartbeats 8000000 in
set_option maxRecDepth 100000 in
theorem impl_orbitOf.calls (k : Nat) (a0_0 : Int) (a0_1 : Int) (A0_2 : Option Addr) (c0_2 : Nat) (l0_2 : List (S83)) (a1 : Int) (r1 : List Int) (r2 : Int) (w : World) (hr0_2 : Kd.C k83 w A0_2 l0_2.length l0_2) (hc0_2 : l0_2.length <= c0_2) (h : impl_orbitOf.f k a0_0 a0_1 l0_2 a1 = some (r1, r2)) :
 Calls Try.prog 54 #[.agg #[.int .i64 a0_0, .int .i64 a0_1, .slice A0_2 l0_2.length c0_2], .int .i64 a1] w fun e w' => ∃ v0_ : Value, e = .returned (.tuple #[v0_, .int .i64 r2]) /\ Kd.R (Kd.int .i64) 3 w' w.heap.size (fun _ => True) v0_ r1 /\ Below w.heap.size w w' := by
 have hu30 := Try.underlying30
 have hu83 := Try.underlying83
 have HR0_2 := Aside0.mk hr0_2
 have HC0_2 := Aside0.mk hc0_2
 clear hr0_2 hc0_2
 have HB := Aside0.mk (Below.refl w.heap.size w)
 have H := h
 clear h
 unfold impl_orbitOf.f at H
 generalize hy664 : ((([a1] : List Int)) : List Int) = y664 at H
 have Ny664 := Aside0.mk hy664.symm; clear hy664
 replace H := bindA H; obtain ⟨t667, A3, H⟩ := H
 replace H := ifP H; obtain ⟨c4, H⟩ := H
 have c4b0 := decide_eq_true c4
 have c4b1 : decide (0 < t667.length) = true := decide_eq_true (by omega)
 clear c4
 generalize hy672 : ((([] : List Int)) : List Int) = y672 at H
 have Ny672 := Aside0.mk hy672.symm; clear hy672
 replace H := bindA H; obtain ⟨t675, A5, H⟩ := H
 replace H := bindA H; obtain ⟨t678, A6, H⟩ := H
 have H' := Aside0.mk H
 clear H
 go_enter Try.func54, Try.ntmps54
 go_wp2_with (first | ((with_reducible refine gate_dst (N := 2) rfl ?_); refine boxE (cs := #[.int .i64 a0_0, .int .i64 a0_1, .slice A0_2 l0_2.length c0_2]) (t := 30) ?_; intro gb663 hg w7 hbox hb; refine E4b HB.1 hg hbox hb ?_; clear HB; intro HB BK663 GW663 GE663; clear hb hbox hg; obtain ⟨hcz8_0, hcz8_1, hcz8_2, hfz8_0, hfz8_1, hfz8_2⟩ := cz3 BK663.1) | ((with_reducible refine gate_dst (N := 14) rfl ?_); refine R_lit (Kd.int .i64) _ 3 ?hg (N := 14) ?hd (xs := ([a1] : List Int)) (inner := [.int .i64 a1]) (ok := fun _ => True) (okp := fun _ => True) ?hr ?hp (fun _ hk => hk) trivial (Below.refl _ _) (Nat.le_refl _) (by simp) ?_; (case hd => rfl); (case hg => rfl); (case hr => first | (go_simp; done) | (go_simp; rfl)); (case hp => exact (Reps.one (show Kd.M (Kd.int .i64) _ _ _ a1 [.int .i64 a1] from rfl) (Reps.none _ _))); intro v665 w9 ho10 hb hg_ hnew_; clear hg_ hnew_; (first | rw [<- Ny664.1] at ho10 | (simp only [Int.reduceToNat] at ho10; rw [<- Ny664.1] at ho10)); refine E3 (R_lower ho10 (bZ HB.1)) (bB BK663.1 hb) (bS HB.1 hb) ?_; clear BK663 HB; intro HO666 BK663 HB; clear hb ho10; obtain ⟨Ao11, co11, eo11⟩ := R_slice HO666.1; subst eo11) | ((with_reducible refine gate_callee (f := 48) rfl ?_); refine goesM (N := (some 15)) #[.agg #[.int .i64 a0_0, .int .i64 a0_1, .slice A0_2 l0_2.length c0_2], .slice Ao11 y664.length co11] Try.func48 ?_; (with_reducible refine (impl_numbersAfter.calls k a0_0 a0_1 _ _ l0_2 _ _ y664 t667 _ ?side1 ?side2 ?side3 ?side4 A3.1).mono ?_); (case side1 => exact CB (C_below HR0_2.1 HB.1)); (case side2 => exact HC0_2.1); (case side3 => exact CB (R_reads' HO666.1).2.2); (case side4 => exact (R_reads' HO666.1).2.1); rintro e w ⟨v668, rfl, ho0, hb⟩; refine ⟨_, rfl, ?_⟩; refine E6 (rB HO666.1 hb) (S_lower (S_new' ho0 (R_lt (PR HO666.1))) (bZ HB.1)) (bB BK663.1 hb) (bS HB.1 hb) (C_below HR0_2.1 (bS HB.1 hb)) (Below.refl w.heap.size w) ?_; clear HO666 BK663 HB HR0_2; intro HO666 HO669 BK663 HW HR0_2 HB; (try clear hb); (try clear ho0); obtain ⟨Ao13, co13, eo13⟩ := S_slice HO669.1; subst eo13; have p670 : 0 <= (0 : Int) := (by omega); have q670 : 0 < (t667.length : Int) := OD; obtain ⟨ad670, A670_0, c670_0, e670, hx670_0, hl670_0, hi670_0⟩ := at_L3 (S_reads' HO669.1).2.2 0 p670 q670; cases e670; obtain ⟨ce670, hce670, hMe670, hcc670⟩ := S_get HO669.1 [] 0 p670 (by first | exact q670 | exact OD | (have e_ := (S_reads' HO669.1).1; omega)); obtain ⟨ve670_0, rfl, ge670_0⟩ := hMe670; have hv670_0 := hcc670 0 _ rfl; rw [Nat.add_zero, show ((Kd.slice 3 (Kd.int .i64))).sz = 1 from rfl, Nat.mul_one] at hv670_0; replace hv670_0 := Option.some.inj (hv670_0.symm.trans hx670_0); rw [hv670_0] at ge670_0; have HL670_0 := Aside0.mk (show Kd.R (Kd.int .i64) 3 _ _ _ _ (rd_L3 t667 0) from ge670_0); clear hv670_0 ge670_0; clear hcc670 hce670; have qi670 : (0 < t667.length) = True := eq_true (by omega); (try rw [show ((0 : Int)).toNat = 0 from rfl] at hx670_0); (try rw [Addr.add_zero'] at hx670_0); have HR670_0 := Aside0.mk hi670_0; have HC670_0 := Aside0.mk hl670_0; clear hi670_0 hl670_0; replace p670 := eq_true p670; replace q670 := eq_true q670) | ((with_reducible refine gate_dst (N := 18) rfl ?_); refine map_event ?hg (N := 18) ?hd ?hr ?_; (case hd => rfl); (case hg => rfl); (case hr => first | (go_simp; done) | (go_simp; rfl) | rfl); intro gb671 hg w14 hbox hb; have n0_ := Aside0.mk (rB HO666.1 hb); have n1_ := Aside0.mk (sB HO669.1 hb); have n2_ := Aside0.mk (rB HL670_0.1 hb); have n3_ := Aside0.mk (bB BK663.1 hb); have n5_ := Aside0.mk (bS HB.1 hb); have n6_ := Aside0.mk (hbox); have n7_ := Aside0.mk (gX HB.1 hg); have n8_ := Aside0.mk (gX HB.1 hg); have n9_ := Aside0.mk (nB BK663.1 hg); have n10_ := Aside0.mk (nC BK663.1 hg); clear HO666; clear HO669; clear HL670_0; clear BK663; clear HB; have HO666 := n0_; have HO669 := n1_; have HL670_0 := n2_; have BK663 := n3_; have HB := n5_; have HM671 : Aside0 (MapO Try.prog 3 (.map #[] 0) []) := ⟨mapO_made _ _⟩; have BK671 := n6_; have GW671 := n7_; have GE671 := n8_; have NB663_671 := n9_; have NB671_663 := n10_; clear n0_ n1_ n2_ n3_ n5_ n6_ n7_ n8_ n9_ n10_; clear hb hbox hg; have hnb15 := NB663_671.1; have hnc15 := NB671_663.1; obtain ⟨hcz16_0, hcz16_1, hcz16_2, hfz16_0, hfz16_1, hfz16_2⟩ := cz3 BK663.1) | ((with_reducible refine gate_dst (N := 19) rfl ?_); refine R_lit (Kd.int .i64) _ 3 ?hg (N := 19) ?hd (xs := ([] : List Int)) (inner := []) (ok := fun _ => True) (okp := fun _ => True) ?hr ?hp (fun _ hk => hk) trivial (Below.refl _ _) (Nat.le_refl _) (by simp) ?_; (case hd => rfl); (case hg => rfl); (case hr => first | (go_simp; done) | (go_simp; rfl)); (case hp => exact (Reps.none _ _)); intro v673 w18 ho19 hb hg_ hnew_; clear hg_ hnew_; (first | rw [<- Ny672.1] at ho19 | (simp only [Int.reduceToNat] at ho19; rw [<- Ny672.1] at ho19)); refine E7 (R_elder' (PR HO666.1) (R_base ho19) hb) (S_elder' (PS HO669.1) (R_base ho19) hb) (R_elder' (PR HL670_0.1) (R_base ho19) hb) (R_lower (R_new' (R_new' ho19 (R_lt (PR HO666.1))) (R_lt (PR HL670_0.1))) (bZ HB.1)) (bB BK663.1 hb) (bB BK671.1 hb) (bS HB.1 hb) ?_; clear HO666 HO669 HL670_0 BK663 BK671 HB; intro HO666 HO669 HL670_0 HO674 BK663 BK671 HB; clear hb ho19; obtain ⟨hcz20_0, hcz20_1, hcz20_2, hfz20_0, hfz20_1, hfz20_2⟩ := cz3 BK663.1) | ((with_reducible refine gate_callee (f := 50) rfl ?_); refine goesM (N := (some 21)) #[.agg #[.int .i64 a0_0, .int .i64 a0_1, .slice A0_2 l0_2.length c0_2]] Try.func50 ?_; (with_reducible refine (impl_bitsOf.calls k a0_0 a0_1 _ _ l0_2 t675 _ ?side1 ?side2 A5.1).mono ?_); (case side1 => exact CB (C_below HR0_2.1 HB.1)); (case side2 => exact HC0_2.1); rintro e w21 ⟨v676, rfl, ho0, hb⟩; refine ⟨_, rfl, ?_⟩; refine E8 (R_elder' (PR HO666.1) (R_base ho0) hb) (S_elder' (PS HO669.1) (R_base ho0) hb) (R_elder' (PR HL670_0.1) (R_base ho0) hb) (R_elder' (PR HO674.1) (R_base ho0) hb) (R_lower (R_new' (R_new' (R_new' ho0 (R_lt (PR HO666.1))) (R_lt (PR HL670_0.1))) (R_lt (PR HO674.1))) (bZ HB.1)) (bB BK663.1 hb) (bB BK671.1 hb) (bS HB.1 hb) ?_; clear HO666 HO669 HL670_0 HO674 BK663 BK671 HB; intro HO666 HO669 HL670_0 HO674 HO677 BK663 BK671 HB; (try clear hb); (try clear ho0); obtain ⟨Ao22, co22, eo22⟩ := R_slice HO677.1; subst eo22) | ((with_reducible refine gate_callee (f := 49) rfl ?_); refine goesM (N := (some 22)) #[.slice Ao22 t675.length co22] Try.func49 ?_; (with_reducible refine (impl_numberOf.calls k _ _ t675 t678 _ ?side1 ?side2 A6.1).mono ?_); (case side1 => exact CB (R_reads' HO677.1).2.2); (case side2 => exact (R_reads' HO677.1).2.1); rintro e w' ⟨rfl, ⟨nd, rfl⟩⟩; refine ⟨_, rfl, ?_⟩))
 go_loopg [8, 9] k (fun kq v8 v9 w' => ∃ (x8_1 : List Int) (x9_1 : Int) (xm_1 : List (Int × Int)) (om_1 : Obj), v9 = .int .i64 x9_1 /\ Aside0 (impl_orbitOf.l0 kq (rd_L3 t667 0) x8_1 x9_1 xm_1 = some (r1, r2)) /\ Aside0 (kq <= k) /\ Aside0 (Kd.R (Kd.int .i64) 3 w' w.heap.size (fun _ => True) v8 x8_1) /\ Aside0 (w'.heap[gb663]? = some (.cells #[.int .i64 a0_0, .int .i64 a0_1, (.slice A0_2 l0_2.length c0_2)] 30 (0, 0))) /\ Aside0 (w'.heap[gb671]? = some om_1) /\ Aside0 (MapO Try.prog 3 om_1 xm_1) /\ Aside0 (Below w.heap.size w w'))
 case atStart => exact ⟨(y672), (t678), ([]), (.map #[] 0), RG, H', ⟨Nat.le_refl _⟩, ⟨RPE (R_mono HO674.1 (fun _ hk => trivial))⟩, ⟨PB BK663.1⟩, ⟨PB BK671.1⟩, HM671, ⟨BL HB.1⟩⟩
 clear H'
 try clear hx670_0; try clear p670; try clear q670; clear c4b0 c4b1 hcz16_0 hcz16_1 hcz16_2 hcz20_0 hcz20_1 hcz20_2 hcz8_0 hcz8_1 hcz8_2 hfz16_0 hfz16_1 hfz16_2 hfz20_0 hfz20_1 hfz20_2 hfz8_0 hfz8_1 hfz8_2
 obtain ⟨x8_1, x9_1, xm_1, om_1, rfl, HA, HK1, HO_8, BK663, BK671, HM671, HB⟩ := hrel
 cases gk with
 | zero => exact absurd HA.1 (by simp [impl_orbitOf.l0])
 | succ k1 => ?_
 have H := HA.1
 clear HA
 simp only [impl_orbitOf.l0] at H
 have c_k : wrap64 x9_1 = x9_1 := by
  apply Classical.byContradiction; intro h_; rw [if_neg h_] at H; exact absurd H (by simp)
 rw [if_pos c_k] at H
 have HKY := Aside0.mk c_k
 clear c_k
 replace H := ifQ H; rcases H with ⟨c23, H⟩ | ⟨c23, H⟩
 · have c23b0 : mhas xm_1 x9_1 = true := c23
   have c23b1 : (!mhas xm_1 x9_1) = false := by rw [c23]; rfl
   clear c23
   simp only [Option.some.injEq, Prod.mk.injEq] at H
   obtain ⟨rfl, rfl⟩ := H

   go_wp2_with (first | ((with_reducible refine gate_dst (N := 26) rfl ?_); refine look_event (b := gb671) (om := om_1) (mm := xm_1) rfl (.tmp 24) (.tmp 25) 92 3 rfl Try.underlying92 Try.underlying3 ?hz BK671.1 HM671.1 ?hm x9_1 ?hx HKY.1 ?_; (case hz => exact impl_orbitOf.zero3 _); (case hm => rfl); (case hx => first | rfl | (go_simp; done) | (go_simp; rfl))))
   go_ret2
   exact ⟨_, RF, R_lower (PR HO_8.1) (below_size HW.1), below_step HW.1 (BL HB.1)⟩
 have c23b0 : mhas xm_1 x9_1 = false := by simpa using c23
 have c23b1 : (!mhas xm_1 x9_1) = true := by rw [c23b0]; rfl
 have c_m : xm_1.length < 17592186044416 := by
  apply Classical.byContradiction; intro h_; rw [if_neg h_] at H; exact absurd H (by simp)
 rw [if_pos c_m] at H
 have HML := Aside0.mk c_m
 clear c_m
 replace H := ifP H; obtain ⟨c26, H⟩ := H
 have LMc26 := Aside0.mk c26
 clear c26
 generalize hy680 : ((x8_1 ++ [x9_1]) : List Int) = y680 at H
 have Ny680 := Aside0.mk hy680.symm; clear hy680
 replace H := ifN H; obtain ⟨c27b0, H⟩ := H
 replace H := ifN H; obtain ⟨c28b0, H⟩ := H
 have H' := Aside0.mk H
 clear H

 obtain ⟨Ao31, co31, eo31⟩ := R_slice HO_8.1
 subst eo31
 go_wp2_with (first | ((with_reducible refine gate_dst (N := 26) rfl ?_); refine look_event (b := gb671) (om := om_1) (mm := xm_1) rfl (.tmp 24) (.tmp 25) 92 3 rfl Try.underlying92 Try.underlying3 ?hz BK671.1 HM671.1 ?hm x9_1 ?hx HKY.1 ?_; (case hz => exact impl_orbitOf.zero3 _); (case hm => rfl); (case hx => first | rfl | (go_simp; done) | (go_simp; rfl))) | ((with_reducible refine gate_put (T := 92) (m := .tmp 32) (x := .tmp 33) (v := .tmp 35) rfl ?_); refine put_event (b := gb671) (om := om_1) (mm := xm_1) rfl (.tmp 32) (.tmp 33) (.tmp 35) 92 3 rfl rfl Try.underlying92 Try.underlying3 (PB BK671.1) HM671.1 HML.1 ?hm x9_1 (x8_1.length : Int) ?hx ?hv HKY.1 ?hw ?_; (case hm => rfl); (case hx => first | rfl | (go_simp; done) | (go_simp; rfl)); (case hv => first | rfl | (go_simp; done) | (go_simp; rfl)); (case hw => (have := LMc26.1; exact wrap64_nat (by omega))); intro w32 om2_ hbm hM2_ hg; have n0_ := Aside0.mk (R_put (g := gb671) (om := om_1) (PR HO_8.1) (PB BK671.1) HM671.1 hg); have n1_ := Aside0.mk (bG BK663.1 hg (fun e_ => NB663_671.1 (Option.some.inj e_))); have n2_ := Aside0.mk (hbm); have n3_ := Aside0.mk (pw_below_grown (BL HB.1) _ (bZ HB.1) hg (fun k_ e_ => by cases e_; exact GE671.1)); clear HO_8; clear BK663; clear BK671; clear HB; clear HM671; have HO_8 := n0_; have BK663 := n1_; have BK671 := n2_; have HB := n3_; have HM671 := Aside0.mk hM2_; clear n0_ n1_ n2_ n3_; clear hbm hM2_ hg) | ((with_reducible refine gate_builtin (b := .append) (xs := #[.tmp 36, .tmp 38]) rfl ?_); at_builtin; refine R_append (Kd.int .i64) (w0 := w) w.heap.size rfl (.tmp 36) (.tmp 38) 38 3 (.int .i64 0) 8 rfl Try.underlying38 info3 rfl (by decide) (by omega) (.slice Ao31 x8_1.length co31) x8_1 x9_1 [.int .i64 x9_1] (fun _ => True) (fun _ => False) rfl rfl ?aP (fun _ hk => hk.elim) ?aF ?aO ?aB ?aS ?aL ?_; (case aP => exact rfl); (case aB => exact (BL HB.1)); (case aF => exact (fun _ _ => trivial)); (case aO => exact (PR HO_8.1)); (case aS => exact (bZ HB.1)); (case aL => have := LMc26.1; omega); intro v681 w33 ho hb hg hat; rw [<- Ny680.1] at ho; have n0_ := Aside0.mk (bG BK663.1 hg (R_ne HO_8.1 BK663.1 (by decide))); have n1_ := Aside0.mk (bG BK671.1 hg (map_ne HO_8.1 BK671.1 HM671.1)); have n3_ := Aside0.mk (hb); have n4_ := Aside0.mk (ho); clear BK663; clear BK671; clear HB; clear HO_8; have BK663 := n0_; have BK671 := n1_; have HB := n3_; have HO682 := n4_; clear n0_ n1_ n3_ n4_; clear ho hb hg hat; have p683 : 0 <= (x9_1 : Int) := OD; have q683 : x9_1 < ((rd_L3 t667 0).length : Int) := OD; obtain ⟨ad683, e683, hx683_0⟩ := Kd.at_int HR670_0.1 x9_1 p683 q683; cases e683; replace hx683_0 := (HB.1.cell (World.block_lt_of_cell? w _ hx683_0)).trans hx683_0; replace p683 := eq_true p683; replace q683 := eq_true q683))
 go_roundg k1
 case measure => have := HK1.1; omega
 case rel => exact ⟨(y680), (rd (rd_L3 t667 0) x9_1), ((x9_1, (x8_1.length : Int)) :: xm_1), (_), RG, H', ⟨by have := HK1.1; omega⟩, ⟨PR HO682.1⟩, ⟨PB BK663.1⟩, ⟨PB BK671.1⟩, HM671, ⟨BL HB.1⟩⟩
end Go.Proofs.Ytbpfdbjnnlmdjaa.P
