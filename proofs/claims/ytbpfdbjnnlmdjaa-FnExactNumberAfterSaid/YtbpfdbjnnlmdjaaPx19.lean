-- PRINTED by print.py (a twelfth state) out of the translation. Not trusted: Lean checks it.
import Derived.Test.YtbpfdbjnnlmdjaaPx0
import Derived.Test.YtbpfdbjnnlmdjaaPx1
import Derived.Test.YtbpfdbjnnlmdjaaPx3
import Derived.Test.YtbpfdbjnnlmdjaaPx5
import Derived.Test.YtbpfdbjnnlmdjaaPx9
import Derived.Test.YtbpfdbjnnlmdjaaPx13
namespace Go.Proofs.Ytbpfdbjnnlmdjaa.P
open Go.RowKit Go.Proofs.YtbpfdbjnnlmdjaaW.PrintWords Go.Proofs.YtbpfdbjnnlmdjaaW.PrintLast Go.Proofs.YtbpfdbjnnlmdjaaW.PrintMore
attribute [local go_sem] max2_int min2_int max_two min_two max_three min_three max_four min_four   -- for this text's walks alone
set_option linter.unusedVariables false
set_option linter.unusedSimpArgs false

/-! ### spec_NumberAfter: function 22 -/
open Kd
def spec_NumberAfter.j0 : Nat -> Int -> Int -> Bool -> Int -> Int -> List (S83) -> Option (Int × Bool)
 | 0, _, _, _, _, _, _ => none
 | k + 1, x1, x2, x18, x715000, x715001, x715002 => if x18 = true then (some (0, false)) else ((spec_reOrbit.f k x715000 x715001 x715002 x1).bind fun bt717 => (if x2 < (bt717.1.length : Int) then (if 0 <= x2 then (some (rd bt717.1 x2, true)) else (none)) else (if (wrap64 ((bt717.1.length : Int) - bt717.2)) = 0 then (none) else (if 0 <= (wrap64 (bt717.2 + (Int.tmod (wrap64 (x2 - bt717.2)) (wrap64 ((bt717.1.length : Int) - bt717.2))))) then (if (wrap64 (bt717.2 + (Int.tmod (wrap64 (x2 - bt717.2)) (wrap64 ((bt717.1.length : Int) - bt717.2))))) < (bt717.1.length : Int) then (some (rd bt717.1 (wrap64 (bt717.2 + (Int.tmod (wrap64 (x2 - bt717.2)) (wrap64 ((bt717.1.length : Int) - bt717.2))))), true)) else (none)) else (none)))))
def spec_NumberAfter.f (k : Nat) (a0_0 : Int) (a0_1 : Int) (l0_2 : List (S83)) (a1 : Int) (a2 : Int) : Option (Int × Bool) := (spec_reHas.f k a0_0 a0_1 l0_2 a1).bind fun t715 => (if t715 = true then ((spec_l1In.f a2 0 1000000000).bind fun t716 => (spec_NumberAfter.j0 k a1 a2 (!t716) a0_0 a0_1 l0_2)) else (spec_NumberAfter.j0 k a1 a2 true a0_0 a0_1 l0_2))
theorem spec_NumberAfter.mono_l : ∀ k, (∀ y0 y1 y2 y3 y4 y5, LeO (spec_NumberAfter.j0 k y0 y1 y2 y3 y4 y5) (spec_NumberAfter.j0 (k + 1) y0 y1 y2 y3 y4 y5))
 | 0 => fun _ _ _ _ _ _ r h => by simp [spec_NumberAfter.j0] at h
 | k + 1 => by
  have ih0 := spec_NumberAfter.mono_l k
  intros
  first | unfold spec_NumberAfter.j0
  repeat' first | (with_reducible first | apply ih0 | apply spec_reHas.mono | apply spec_reOrbit.mono | exact LeO.refl _ | exact LeO.none _ | refine LeO.ite ?_ ?_ | refine LeO.bind ?_ (fun _ => ?_)) | exact LeO.none _ | refine LeO.ite ?_ ?_ | refine LeO.bind ?_ (fun _ => ?_)
theorem spec_NumberAfter.mono : ∀ a0 a1 a2 a3 a4 k, LeO (spec_NumberAfter.f k a0 a1 a2 a3 a4) (spec_NumberAfter.f (k + 1) a0 a1 a2 a3 a4) := by
 intro a0 a1 a2 a3 a4 k
 have ih0 := spec_NumberAfter.mono_l k
 unfold spec_NumberAfter.f
 repeat' first | (with_reducible first | apply ih0 | apply spec_reHas.mono | apply spec_reOrbit.mono | exact LeO.refl _ | exact LeO.none _ | refine LeO.ite ?_ ?_ | refine LeO.bind ?_ (fun _ => ?_)) | exact LeO.none _ | refine LeO.ite ?_ ?_ | refine LeO.bind ?_ (fun _ => ?_)
set_option maxHeartbeats 8000000 in
set_option maxRecDepth 100000 in
theorem spec_NumberAfter.calls (k : Nat) (a0_0 : Int) (a0_1 : Int) (A0_2 : Option Addr) (c0_2 : Nat) (l0_2 : List (S83)) (a1 : Int) (a2 : Int) (r1 : Int) (r2 : Bool) (w : World) (hr0_2 : Kd.C k83 w A0_2 l0_2.length l0_2) (hc0_2 : l0_2.length <= c0_2) (h : spec_NumberAfter.f k a0_0 a0_1 l0_2 a1 a2 = some (r1, r2)) :
 Calls Try.prog 22 #[.agg #[.int .i64 a0_0, .int .i64 a0_1, .slice A0_2 l0_2.length c0_2], .int .i64 a1, .int .i64 a2] w fun e w' => e = .returned (.tuple #[.int .i64 r1, .bool r2]) /\ Below w.heap.size w w' := by
 have hu30 := Try.underlying30
 have HR0_2 := Aside0.mk hr0_2
 have HC0_2 := Aside0.mk hc0_2
 clear hr0_2 hc0_2
 have HB := Aside0.mk (Below.refl w.heap.size w)
 have H := h
 clear h
 unfold spec_NumberAfter.f at H
 have HC4 := Aside0.mk H
 clear H
 go_enter Try.func22, Try.ntmps22
 go_upto_region 1 with (first | ((with_reducible refine gate_dst (N := 3) rfl ?_); refine boxE (cs := #[.int .i64 a0_0, .int .i64 a0_1, .slice A0_2 l0_2.length c0_2]) (t := 30) ?_; intro gb714 hg w5 hbox hb; refine E4b HB.1 hg hbox hb ?_; clear HB; intro HB BK714 GW714 GE714; clear hb hbox hg))
 (try simp only [Act.put, List.setIfInBounds_toArray, List.set_cons_zero, List.set_cons_succ])
 go_cut [18] (fun v18 wc => ∃ (kq : Nat) (x18_3 : Bool), v18 = .bool x18_3 /\ Aside0 (spec_NumberAfter.j0 kq a1 a2 x18_3 a0_0 a0_1 l0_2 = some (r1, r2)) /\ Aside0 (kq <= k) /\ Aside0 (wc.heap[gb714]? = some (.cells #[.int .i64 a0_0, .int .i64 a0_1, (.slice A0_2 l0_2.length c0_2)] 30 (0, 0))) /\ Aside0 (Below w.heap.size w wc))
 case first =>
  have H := HC4.1
  clear HC4
  replace H := bindA H; obtain ⟨t715, A6, H⟩ := H
  replace H := ifX H; rcases H with ⟨rfl, H⟩ | ⟨rfl, H⟩
  · replace H := bindA H; obtain ⟨t716, A8, H⟩ := H
    have H' := Aside0.mk H
    clear H
    obtain ⟨hcz9_0, hcz9_1, hcz9_2, hfz9_0, hfz9_1, hfz9_2⟩ := cz3 BK714.1
    go_wp2_with (first | ((with_reducible refine gate_callee (f := 42) rfl ?_); refine goesM (N := (some 12)) #[.agg #[.int .i64 a0_0, .int .i64 a0_1, .slice A0_2 l0_2.length c0_2], .int .i64 a1] Try.func42 ?_; (with_reducible refine (spec_reHas.calls k a0_0 a0_1 _ _ l0_2 a1 true _ ?side1 ?side2 A6.1).mono ?_); (case side1 => exact CB (C_below HR0_2.1 HB.1)); (case side2 => exact HC0_2.1); rintro e w10 ⟨rfl, hb⟩; refine ⟨_, rfl, ?_⟩; refine E2 (bB BK714.1 hb) (bS HB.1 hb) ?_; clear BK714 HB; intro BK714 HB; (try clear hb)) | (go_at_call 55; (with_reducible refine (spec_l1In.calls a2 0 1000000000 t716 _ A8.1).mono ?_); rintro e w' ⟨rfl, ⟨nd, rfl⟩⟩))
    go_meet
    case rel => exact ⟨_, (!t716), RG, H', ⟨by first | omega | exact Nat.le_refl _⟩, ⟨PB BK714.1⟩, ⟨BL HB.1⟩⟩
  have H' := Aside0.mk H
  clear H
  obtain ⟨hcz11_0, hcz11_1, hcz11_2, hfz11_0, hfz11_1, hfz11_2⟩ := cz3 BK714.1
  go_wp2_with (first | ((with_reducible refine gate_callee (f := 42) rfl ?_); refine goesM (N := (some 12)) #[.agg #[.int .i64 a0_0, .int .i64 a0_1, .slice A0_2 l0_2.length c0_2], .int .i64 a1] Try.func42 ?_; (with_reducible refine (spec_reHas.calls k a0_0 a0_1 _ _ l0_2 a1 false _ ?side1 ?side2 A6.1).mono ?_); (case side1 => exact CB (C_below HR0_2.1 HB.1)); (case side2 => exact HC0_2.1); rintro e w12 ⟨rfl, hb⟩; refine ⟨_, rfl, ?_⟩; refine E2 (bB BK714.1 hb) (bS HB.1 hb) ?_; clear BK714 HB; intro BK714 HB; (try clear hb)))
  go_meet
  case rel => exact ⟨_, (true), RG, H', ⟨by first | omega | exact Nat.le_refl _⟩, ⟨PB BK714.1⟩, ⟨BL HB.1⟩⟩
 clear HC4
 obtain ⟨kq, x18_3, rfl, HA, HJ3, BK714, HB⟩ := hcut
 cases kq with
 | zero => exact absurd HA.1 (by simp [spec_NumberAfter.j0])
 | succ kj3 => ?_
 have H := HA.1
 clear HA
 simp only [spec_NumberAfter.j0] at H
 replace H := ifX H; rcases H with ⟨rfl, H⟩ | ⟨rfl, H⟩
 · simp only [Option.some.injEq, Prod.mk.injEq] at H
   obtain ⟨rfl, rfl⟩ := H
   go_wp2
   go_ret2
   exact ⟨RF, BL HB.1⟩
 replace H := bindA H; obtain ⟨⟨t717, t720⟩, A14, H⟩ := H
 dsimp only at H
 replace H := ifB H; rcases H with ⟨c15b0, H⟩ | ⟨c15b0, H⟩
 · replace H := ifN H; obtain ⟨c16b0, H⟩ := H
   simp only [Option.some.injEq, Prod.mk.injEq] at H
   obtain ⟨rfl, rfl⟩ := H
   obtain ⟨hcz17_0, hcz17_1, hcz17_2, hfz17_0, hfz17_1, hfz17_2⟩ := cz3 BK714.1
   go_wp2_with (first | ((with_reducible refine gate_callee (f := 53) rfl ?_); refine goesM (N := (some 22)) #[.agg #[.int .i64 a0_0, .int .i64 a0_1, .slice A0_2 l0_2.length c0_2], .int .i64 a1] Try.func53 ?_; (with_reducible refine (spec_reOrbit.calls kj3 a0_0 a0_1 _ _ l0_2 a1 t717 t720 _ ?side1 ?side2 A14.1).mono ?_); (case side1 => exact CB (C_below HR0_2.1 HB.1)); (case side2 => exact HC0_2.1); rintro e w18 ⟨v718, rfl, ho0, hb⟩; refine ⟨_, rfl, ?_⟩; refine E3 (R_lower ho0 (bZ HB.1)) (bB BK714.1 hb) (bS HB.1 hb) ?_; clear BK714 HB; intro HO719 BK714 HB; (try clear hb); (try clear ho0); obtain ⟨Ao19, co19, eo19⟩ := R_slice HO719.1; subst eo19; have p721 : 0 <= (a2 : Int) := OD; have q721 : a2 < (t717.length : Int) := OD; obtain ⟨ad721, e721, hx721_0⟩ := Kd.at_int (R_reads' HO719.1).2.2 a2 p721 q721; cases e721; replace p721 := eq_true p721; replace q721 := eq_true q721))
   go_ret2
   exact ⟨RF, BL HB.1⟩
 replace H := ifQ H; rcases H with ⟨c20, H⟩ | ⟨c20, H⟩
 · exact absurd H (by simp)
 have c20b0 := beq_eq_false_iff_ne.mpr c20
 have c20b1 := bne_iff_ne.mpr c20
 obtain ⟨ji21, hji21⟩ : ∃ j_ : Int, (wrap64 (t720 + (Int.tmod (wrap64 (a2 - t720)) (wrap64 ((t717.length : Int) - t720))))) = j_ := ⟨_, rfl⟩
 replace H : (if 0 <= (ji21) then (if (ji21) < (t717.length : Int) then (some (rd t717 (ji21), true)) else (none)) else (none)) = some (r1, r2) := by first | (rw [hji21] at H; exact H) | (simp only [hji21] at H ⊢; exact H)
 (try rw [hji21] at A14)
 have hji21w : (IntKind.i64.wrap (t720 + (Int.tmod (wrap64 (a2 - t720)) (wrap64 ((t717.length : Int) - t720))))) = ji21 := (i64_w _).trans hji21
 replace H := ifN H; obtain ⟨c22b0, H⟩ := H
 replace H := ifN H; obtain ⟨c23b0, H⟩ := H
 simp only [Option.some.injEq, Prod.mk.injEq] at H
 obtain ⟨rfl, rfl⟩ := H
 obtain ⟨hcz24_0, hcz24_1, hcz24_2, hfz24_0, hfz24_1, hfz24_2⟩ := cz3 BK714.1
 go_wp2_with (first | ((with_reducible refine gate_callee (f := 53) rfl ?_); refine goesM (N := (some 22)) #[.agg #[.int .i64 a0_0, .int .i64 a0_1, .slice A0_2 l0_2.length c0_2], .int .i64 a1] Try.func53 ?_; (with_reducible refine (spec_reOrbit.calls kj3 a0_0 a0_1 _ _ l0_2 a1 t717 t720 _ ?side1 ?side2 A14.1).mono ?_); (case side1 => exact CB (C_below HR0_2.1 HB.1)); (case side2 => exact HC0_2.1); rintro e w25 ⟨v718, rfl, ho0, hb⟩; refine ⟨_, rfl, ?_⟩; refine E3 (R_lower ho0 (bZ HB.1)) (bB BK714.1 hb) (bS HB.1 hb) ?_; clear BK714 HB; intro HO719 BK714 HB; (try clear hb); (try clear ho0); obtain ⟨Ao26, co26, eo26⟩ := R_slice HO719.1; subst eo26; have p722 : 0 <= ((ji21) : Int) := OD; have q722 : (ji21) < (t717.length : Int) := OD; obtain ⟨ad722, e722, hx722_0⟩ := Kd.at_int (R_reads' HO719.1).2.2 (ji21) p722 q722; cases e722; replace p722 := eq_true p722; replace q722 := eq_true q722))
 go_ret2
 exact ⟨by first | rfl | (simp [errW_none, errW_some] <;> rfl) | (simp only [<- hji21]; first | rfl | (simp [errW_none, errW_some] <;> rfl)) | (simp [*, errW_none, errW_some] <;> rfl), BL HB.1⟩
/-! ### impl_NumberAfter: function 23 -/
open Kd
def impl_NumberAfter.j0 : Nat -> Int -> Int -> Bool -> Int -> Int -> List (S83) -> Option (Int × Bool)
 | 0, _, _, _, _, _, _ => none
 | k + 1, x1, x2, x26, x724000, x724001, x724002 => if x26 = true then (some (0, false)) else ((impl_orbitOf.f k x724000 x724001 x724002 x1).bind fun bt726 => (if x2 ≥ (bt726.1.length : Int) then (if (wrap64 ((bt726.1.length : Int) - bt726.2)) = 0 then (none) else (if 0 <= (wrap64 (bt726.2 + (Int.tmod (wrap64 (x2 - bt726.2)) (wrap64 ((bt726.1.length : Int) - bt726.2))))) then (if (wrap64 (bt726.2 + (Int.tmod (wrap64 (x2 - bt726.2)) (wrap64 ((bt726.1.length : Int) - bt726.2))))) < (bt726.1.length : Int) then (some (rd bt726.1 (wrap64 (bt726.2 + (Int.tmod (wrap64 (x2 - bt726.2)) (wrap64 ((bt726.1.length : Int) - bt726.2))))), true)) else (none)) else (none))) else (if 0 <= x2 then (if x2 < (bt726.1.length : Int) then (some (rd bt726.1 x2, true)) else (none)) else (none))))
def impl_NumberAfter.f (k : Nat) (a0_0 : Int) (a0_1 : Int) (l0_2 : List (S83)) (a1 : Int) (a2 : Int) : Option (Int × Bool) := (impl_fewUnits.f k a0_0 a0_1 l0_2).bind fun t724 => (if t724 = true then ((impl_validEntry.f k a0_0 a0_1 l0_2 a1).bind fun t725 => (if t725 = true then (if a2 < 0 then (impl_NumberAfter.j0 k a1 a2 true a0_0 a0_1 l0_2) else (impl_NumberAfter.j0 k a1 a2 (decide (a2 > 1000000000)) a0_0 a0_1 l0_2)) else (impl_NumberAfter.j0 k a1 a2 true a0_0 a0_1 l0_2))) else (impl_NumberAfter.j0 k a1 a2 true a0_0 a0_1 l0_2))
theorem impl_NumberAfter.mono_l : ∀ k, (∀ y0 y1 y2 y3 y4 y5, LeO (impl_NumberAfter.j0 k y0 y1 y2 y3 y4 y5) (impl_NumberAfter.j0 (k + 1) y0 y1 y2 y3 y4 y5))
 | 0 => fun _ _ _ _ _ _ r h => by simp [impl_NumberAfter.j0] at h
 | k + 1 => by
  have ih0 := impl_NumberAfter.mono_l k
  intros
  first | unfold impl_NumberAfter.j0
  repeat' first | (with_reducible first | apply ih0 | apply impl_fewUnits.mono | apply impl_orbitOf.mono | apply impl_validEntry.mono | exact LeO.refl _ | exact LeO.none _ | refine LeO.ite ?_ ?_ | refine LeO.bind ?_ (fun _ => ?_)) | exact LeO.none _ | refine LeO.ite ?_ ?_ | refine LeO.bind ?_ (fun _ => ?_)
theorem impl_NumberAfter.mono : ∀ a0 a1 a2 a3 a4 k, LeO (impl_NumberAfter.f k a0 a1 a2 a3 a4) (impl_NumberAfter.f (k + 1) a0 a1 a2 a3 a4) := by
 intro a0 a1 a2 a3 a4 k
 have ih0 := impl_NumberAfter.mono_l k
 unfold impl_NumberAfter.f
 repeat' first | (with_reducible first | apply ih0 | apply impl_fewUnits.mono | apply impl_orbitOf.mono | apply impl_validEntry.mono | exact LeO.refl _ | exact LeO.none _ | refine LeO.ite ?_ ?_ | refine LeO.bind ?_ (fun _ => ?_)) | exact LeO.none _ | refine LeO.ite ?_ ?_ | refine LeO.bind ?_ (fun _ => ?_)
set_option maxHeartbeats 8000000 in
set_option maxRecDepth 100000 in
theorem impl_NumberAfter.calls (k : Nat) (a0_0 : Int) (a0_1 : Int) (A0_2 : Option Addr) (c0_2 : Nat) (l0_2 : List (S83)) (a1 : Int) (a2 : Int) (r1 : Int) (r2 : Bool) (w : World) (hr0_2 : Kd.C k83 w A0_2 l0_2.length l0_2) (hc0_2 : l0_2.length <= c0_2) (h : impl_NumberAfter.f k a0_0 a0_1 l0_2 a1 a2 = some (r1, r2)) :
 Calls Try.prog 23 #[.agg #[.int .i64 a0_0, .int .i64 a0_1, .slice A0_2 l0_2.length c0_2], .int .i64 a1, .int .i64 a2] w fun e w' => e = .returned (.tuple #[.int .i64 r1, .bool r2]) /\ Below w.heap.size w w' := by
 have hu30 := Try.underlying30
 have HR0_2 := Aside0.mk hr0_2
 have HC0_2 := Aside0.mk hc0_2
 clear hr0_2 hc0_2
 have HB := Aside0.mk (Below.refl w.heap.size w)
 have H := h
 clear h
 unfold impl_NumberAfter.f at H
 have HC4 := Aside0.mk H
 clear H
 go_enter Try.func23, Try.ntmps23
 go_upto_region 1 with (first | ((with_reducible refine gate_dst (N := 3) rfl ?_); refine boxE (cs := #[.int .i64 a0_0, .int .i64 a0_1, .slice A0_2 l0_2.length c0_2]) (t := 30) ?_; intro gb723 hg w5 hbox hb; refine E4b HB.1 hg hbox hb ?_; clear HB; intro HB BK723 GW723 GE723; clear hb hbox hg))
 (try simp only [Act.put, List.setIfInBounds_toArray, List.set_cons_zero, List.set_cons_succ])
 go_cut [26] (fun v26 wc => ∃ (kq : Nat) (x26_3 : Bool), v26 = .bool x26_3 /\ Aside0 (impl_NumberAfter.j0 kq a1 a2 x26_3 a0_0 a0_1 l0_2 = some (r1, r2)) /\ Aside0 (kq <= k) /\ Aside0 (wc.heap[gb723]? = some (.cells #[.int .i64 a0_0, .int .i64 a0_1, (.slice A0_2 l0_2.length c0_2)] 30 (0, 0))) /\ Aside0 (Below w.heap.size w wc))
 case first =>
  have H := HC4.1
  clear HC4
  replace H := bindA H; obtain ⟨t724, A6, H⟩ := H
  replace H := ifX H; rcases H with ⟨rfl, H⟩ | ⟨rfl, H⟩
  · replace H := bindA H; obtain ⟨t725, A8, H⟩ := H
    replace H := ifX H; rcases H with ⟨rfl, H⟩ | ⟨rfl, H⟩
    · replace H := ifB H; rcases H with ⟨c10b0, H⟩ | ⟨c10b0, H⟩
      · (first | rw [c10b0] | (simp only [i64_w, i32_w]; rw [c10b0]) | skip)
        have H' := Aside0.mk H
        clear H
        obtain ⟨hcz11_0, hcz11_1, hcz11_2, hfz11_0, hfz11_1, hfz11_2⟩ := cz3 BK723.1
        go_wp2_with (first | ((with_reducible refine gate_callee (f := 46) rfl ?_); refine goesM (N := (some 11)) #[.agg #[.int .i64 a0_0, .int .i64 a0_1, .slice A0_2 l0_2.length c0_2]] Try.func46 ?_; (with_reducible refine (impl_fewUnits.calls k a0_0 a0_1 _ _ l0_2 true _ ?side1 ?side2 A6.1).mono ?_); (case side1 => exact CB (C_below HR0_2.1 HB.1)); (case side2 => exact HC0_2.1); rintro e w12 ⟨rfl, hb⟩; refine ⟨_, rfl, ?_⟩; refine E2 (bB BK723.1 hb) (bS HB.1 hb) ?_; clear BK723 HB; intro BK723 HB; (try clear hb); obtain ⟨hcz13_0, hcz13_1, hcz13_2, hfz13_0, hfz13_1, hfz13_2⟩ := cz3 BK723.1) | (go_at_call 47; (with_reducible refine (impl_validEntry.calls k a0_0 a0_1 _ _ l0_2 a1 true _ ?side1 ?side2 A8.1).mono ?_); (case side1 => exact CB (C_below HR0_2.1 HB.1)); (case side2 => exact HC0_2.1); rintro e w14 ⟨rfl, hb⟩; refine E2 (bB BK723.1 hb) (bS HB.1 hb) ?_; clear BK723 HB; intro BK723 HB; (try clear hb)))
        go_meet
        case rel => exact ⟨_, (true), RG, H', ⟨by first | omega | exact Nat.le_refl _⟩, ⟨PB BK723.1⟩, ⟨BL HB.1⟩⟩
      (first | rw [c10b0] | (simp only [i64_w, i32_w]; rw [c10b0]) | skip)
      have H' := Aside0.mk H
      clear H
      obtain ⟨hcz15_0, hcz15_1, hcz15_2, hfz15_0, hfz15_1, hfz15_2⟩ := cz3 BK723.1
      go_wp2_with (first | ((with_reducible refine gate_callee (f := 46) rfl ?_); refine goesM (N := (some 11)) #[.agg #[.int .i64 a0_0, .int .i64 a0_1, .slice A0_2 l0_2.length c0_2]] Try.func46 ?_; (with_reducible refine (impl_fewUnits.calls k a0_0 a0_1 _ _ l0_2 true _ ?side1 ?side2 A6.1).mono ?_); (case side1 => exact CB (C_below HR0_2.1 HB.1)); (case side2 => exact HC0_2.1); rintro e w16 ⟨rfl, hb⟩; refine ⟨_, rfl, ?_⟩; refine E2 (bB BK723.1 hb) (bS HB.1 hb) ?_; clear BK723 HB; intro BK723 HB; (try clear hb); obtain ⟨hcz17_0, hcz17_1, hcz17_2, hfz17_0, hfz17_1, hfz17_2⟩ := cz3 BK723.1) | (go_at_call 47; (with_reducible refine (impl_validEntry.calls k a0_0 a0_1 _ _ l0_2 a1 true _ ?side1 ?side2 A8.1).mono ?_); (case side1 => exact CB (C_below HR0_2.1 HB.1)); (case side2 => exact HC0_2.1); rintro e w18 ⟨rfl, hb⟩; refine E2 (bB BK723.1 hb) (bS HB.1 hb) ?_; clear BK723 HB; intro BK723 HB; (try clear hb)))
      go_meet
      case rel => exact ⟨_, (decide (a2 > 1000000000)), RG, H', ⟨by first | omega | exact Nat.le_refl _⟩, ⟨PB BK723.1⟩, ⟨BL HB.1⟩⟩
    have H' := Aside0.mk H
    clear H
    obtain ⟨hcz19_0, hcz19_1, hcz19_2, hfz19_0, hfz19_1, hfz19_2⟩ := cz3 BK723.1
    go_wp2_with (first | ((with_reducible refine gate_callee (f := 46) rfl ?_); refine goesM (N := (some 11)) #[.agg #[.int .i64 a0_0, .int .i64 a0_1, .slice A0_2 l0_2.length c0_2]] Try.func46 ?_; (with_reducible refine (impl_fewUnits.calls k a0_0 a0_1 _ _ l0_2 true _ ?side1 ?side2 A6.1).mono ?_); (case side1 => exact CB (C_below HR0_2.1 HB.1)); (case side2 => exact HC0_2.1); rintro e w20 ⟨rfl, hb⟩; refine ⟨_, rfl, ?_⟩; refine E2 (bB BK723.1 hb) (bS HB.1 hb) ?_; clear BK723 HB; intro BK723 HB; (try clear hb); obtain ⟨hcz21_0, hcz21_1, hcz21_2, hfz21_0, hfz21_1, hfz21_2⟩ := cz3 BK723.1) | (go_at_call 47; (with_reducible refine (impl_validEntry.calls k a0_0 a0_1 _ _ l0_2 a1 false _ ?side1 ?side2 A8.1).mono ?_); (case side1 => exact CB (C_below HR0_2.1 HB.1)); (case side2 => exact HC0_2.1); rintro e w22 ⟨rfl, hb⟩; refine E2 (bB BK723.1 hb) (bS HB.1 hb) ?_; clear BK723 HB; intro BK723 HB; (try clear hb)))
    go_meet
    case rel => exact ⟨_, (true), RG, H', ⟨by first | omega | exact Nat.le_refl _⟩, ⟨PB BK723.1⟩, ⟨BL HB.1⟩⟩
  have H' := Aside0.mk H
  clear H
  obtain ⟨hcz23_0, hcz23_1, hcz23_2, hfz23_0, hfz23_1, hfz23_2⟩ := cz3 BK723.1
  go_wp2_with (first | ((with_reducible refine gate_callee (f := 46) rfl ?_); refine goesM (N := (some 11)) #[.agg #[.int .i64 a0_0, .int .i64 a0_1, .slice A0_2 l0_2.length c0_2]] Try.func46 ?_; (with_reducible refine (impl_fewUnits.calls k a0_0 a0_1 _ _ l0_2 false _ ?side1 ?side2 A6.1).mono ?_); (case side1 => exact CB (C_below HR0_2.1 HB.1)); (case side2 => exact HC0_2.1); rintro e w24 ⟨rfl, hb⟩; refine ⟨_, rfl, ?_⟩; refine E2 (bB BK723.1 hb) (bS HB.1 hb) ?_; clear BK723 HB; intro BK723 HB; (try clear hb)))
  go_meet
  case rel => exact ⟨_, (true), RG, H', ⟨by first | omega | exact Nat.le_refl _⟩, ⟨PB BK723.1⟩, ⟨BL HB.1⟩⟩
 clear HC4
 obtain ⟨kq, x26_3, rfl, HA, HJ3, BK723, HB⟩ := hcut
 cases kq with
 | zero => exact absurd HA.1 (by simp [impl_NumberAfter.j0])
 | succ kj3 => ?_
 have H := HA.1
 clear HA
 simp only [impl_NumberAfter.j0] at H
 replace H := ifX H; rcases H with ⟨rfl, H⟩ | ⟨rfl, H⟩
 · simp only [Option.some.injEq, Prod.mk.injEq] at H
   obtain ⟨rfl, rfl⟩ := H
   go_wp2
   go_ret2
   exact ⟨RF, BL HB.1⟩
 replace H := bindA H; obtain ⟨⟨t726, t729⟩, A26, H⟩ := H
 dsimp only at H
 replace H := ifQ H; rcases H with ⟨c27, H⟩ | ⟨c27, H⟩
 · have c27b0 : decide ((t726.length : Int) <= a2) = true := decide_eq_true c27
   clear c27
   replace H := ifQ H; rcases H with ⟨c28, H⟩ | ⟨c28, H⟩
   · exact absurd H (by simp)
   have c28b0 := beq_eq_false_iff_ne.mpr c28
   have c28b1 := bne_iff_ne.mpr c28
   obtain ⟨ji29, hji29⟩ : ∃ j_ : Int, (wrap64 (t729 + (Int.tmod (wrap64 (a2 - t729)) (wrap64 ((t726.length : Int) - t729))))) = j_ := ⟨_, rfl⟩
   replace H : (if 0 <= (ji29) then (if (ji29) < (t726.length : Int) then (some (rd t726 (ji29), true)) else (none)) else (none)) = some (r1, r2) := by first | (rw [hji29] at H; exact H) | (simp only [hji29] at H ⊢; exact H)
   (try rw [hji29] at A26)
   have hji29w : (IntKind.i64.wrap (t729 + (Int.tmod (wrap64 (a2 - t729)) (wrap64 ((t726.length : Int) - t729))))) = ji29 := (i64_w _).trans hji29
   replace H := ifN H; obtain ⟨c30b0, H⟩ := H
   replace H := ifN H; obtain ⟨c31b0, H⟩ := H
   simp only [Option.some.injEq, Prod.mk.injEq] at H
   obtain ⟨rfl, rfl⟩ := H
   obtain ⟨hcz32_0, hcz32_1, hcz32_2, hfz32_0, hfz32_1, hfz32_2⟩ := cz3 BK723.1
   go_wp2_with (first | ((with_reducible refine gate_callee (f := 54) rfl ?_); refine goesM (N := (some 30)) #[.agg #[.int .i64 a0_0, .int .i64 a0_1, .slice A0_2 l0_2.length c0_2], .int .i64 a1] Try.func54 ?_; (with_reducible refine (impl_orbitOf.calls kj3 a0_0 a0_1 _ _ l0_2 a1 t726 t729 _ ?side1 ?side2 A26.1).mono ?_); (case side1 => exact CB (C_below HR0_2.1 HB.1)); (case side2 => exact HC0_2.1); rintro e w33 ⟨v727, rfl, ho0, hb⟩; refine ⟨_, rfl, ?_⟩; refine E3 (R_lower ho0 (bZ HB.1)) (bB BK723.1 hb) (bS HB.1 hb) ?_; clear BK723 HB; intro HO728 BK723 HB; (try clear hb); (try clear ho0); obtain ⟨Ao34, co34, eo34⟩ := R_slice HO728.1; subst eo34; have p730 : 0 <= ((ji29) : Int) := OD; have q730 : (ji29) < (t726.length : Int) := OD; obtain ⟨ad730, e730, hx730_0⟩ := Kd.at_int (R_reads' HO728.1).2.2 (ji29) p730 q730; cases e730; replace p730 := eq_true p730; replace q730 := eq_true q730))
   go_ret2
   exact ⟨by first | rfl | (simp [errW_none, errW_some] <;> rfl) | (simp only [<- hji29]; first | rfl | (simp [errW_none, errW_some] <;> rfl)) | (simp [*, errW_none, errW_some] <;> rfl), BL HB.1⟩
 have c27b0 : decide ((t726.length : Int) <= a2) = false := decide_eq_false c27
 clear c27
 replace H := ifN H; obtain ⟨c35b0, H⟩ := H
 replace H := ifN H; obtain ⟨c36b0, H⟩ := H
 simp only [Option.some.injEq, Prod.mk.injEq] at H
 obtain ⟨rfl, rfl⟩ := H
 obtain ⟨hcz37_0, hcz37_1, hcz37_2, hfz37_0, hfz37_1, hfz37_2⟩ := cz3 BK723.1
 go_wp2_with (first | ((with_reducible refine gate_callee (f := 54) rfl ?_); refine goesM (N := (some 30)) #[.agg #[.int .i64 a0_0, .int .i64 a0_1, .slice A0_2 l0_2.length c0_2], .int .i64 a1] Try.func54 ?_; (with_reducible refine (impl_orbitOf.calls kj3 a0_0 a0_1 _ _ l0_2 a1 t726 t729 _ ?side1 ?side2 A26.1).mono ?_); (case side1 => exact CB (C_below HR0_2.1 HB.1)); (case side2 => exact HC0_2.1); rintro e w38 ⟨v727, rfl, ho0, hb⟩; refine ⟨_, rfl, ?_⟩; refine E3 (R_lower ho0 (bZ HB.1)) (bB BK723.1 hb) (bS HB.1 hb) ?_; clear BK723 HB; intro HO728 BK723 HB; (try clear hb); (try clear ho0); obtain ⟨Ao39, co39, eo39⟩ := R_slice HO728.1; subst eo39; have p731 : 0 <= (a2 : Int) := OD; have q731 : a2 < (t726.length : Int) := OD; obtain ⟨ad731, e731, hx731_0⟩ := Kd.at_int (R_reads' HO728.1).2.2 a2 p731 q731; cases e731; replace p731 := eq_true p731; replace q731 := eq_true q731))
 go_ret2
 exact ⟨RF, BL HB.1⟩
/-! ### laws_FnExactNumberAfter: function 6 -/
open Kd
def laws_FnExactNumberAfter.j0 : Nat -> Bool -> Int -> Int -> List (S85) -> Int -> Int -> List (S83) -> Option (Bool)
 | 0, _, _, _, _, _, _, _ => none
 | k + 1, x42, x733000, x733001, x733002, x747000, x747001, x747002 => if x42 = true then (some false) else ((laws_toBoard.f k x733000 x733001 x733002).bind fun bt749 => ((laws_eqBoard.f k x747000 x747001 x747002 bt749.1 bt749.2.1 bt749.2.2).bind fun t754 => (if t754 = true then (some true) else (some false))))
def laws_FnExactNumberAfter.f (k : Nat) (a0_0 : Int) (a0_1 : Int) (l0_2 : List (S85)) (a1 : Int) (a2 : Int) : Option (Bool) := (laws_szBoard.f a0_0 a0_1 l0_2 1048576).bind fun t733 => (if t733 < 0 then (some true) else ((laws_toBoard.f k a0_0 a0_1 l0_2).bind fun bt734 => ((spec_NumberAfter.f k bt734.1 bt734.2.1 bt734.2.2 a1 a2).bind fun bt739 => ((laws_toBoard.f k a0_0 a0_1 l0_2).bind fun bt741 => ((impl_NumberAfter.f k bt741.1 bt741.2.1 bt741.2.2 a1 a2).bind fun bt747 => (if bt747.1 = bt739.1 then (laws_FnExactNumberAfter.j0 k (bt747.2 != bt739.2) a0_0 a0_1 l0_2 bt741.1 bt741.2.1 bt741.2.2) else (laws_FnExactNumberAfter.j0 k true a0_0 a0_1 l0_2 bt741.1 bt741.2.1 bt741.2.2)))))))
theorem laws_FnExactNumberAfter.mono_l : ∀ k, (∀ y0 y1 y2 y3 y4 y5 y6, LeO (laws_FnExactNumberAfter.j0 k y0 y1 y2 y3 y4 y5 y6) (laws_FnExactNumberAfter.j0 (k + 1) y0 y1 y2 y3 y4 y5 y6))
 | 0 => fun _ _ _ _ _ _ _ r h => by simp [laws_FnExactNumberAfter.j0] at h
 | k + 1 => by
  have ih0 := laws_FnExactNumberAfter.mono_l k
  intros
  first | unfold laws_FnExactNumberAfter.j0
  repeat' first | (with_reducible first | apply ih0 | apply impl_NumberAfter.mono | apply laws_eqBoard.mono | apply laws_toBoard.mono | apply spec_NumberAfter.mono | exact LeO.refl _ | exact LeO.none _ | refine LeO.ite ?_ ?_ | refine LeO.bind ?_ (fun _ => ?_)) | exact LeO.none _ | refine LeO.ite ?_ ?_ | refine LeO.bind ?_ (fun _ => ?_)
theorem laws_FnExactNumberAfter.mono : ∀ a0 a1 a2 a3 a4 k, LeO (laws_FnExactNumberAfter.f k a0 a1 a2 a3 a4) (laws_FnExactNumberAfter.f (k + 1) a0 a1 a2 a3 a4) := by
 intro a0 a1 a2 a3 a4 k
 have ih0 := laws_FnExactNumberAfter.mono_l k
 unfold laws_FnExactNumberAfter.f
 repeat' first | (with_reducible first | apply ih0 | apply impl_NumberAfter.mono | apply laws_eqBoard.mono | apply laws_toBoard.mono | apply spec_NumberAfter.mono | exact LeO.refl _ | exact LeO.none _ | refine LeO.ite ?_ ?_ | refine LeO.bind ?_ (fun _ => ?_)) | exact LeO.none _ | refine LeO.ite ?_ ?_ | refine LeO.bind ?_ (fun _ => ?_)
set_option maxHeartbeats 8000000 in
set_option maxRecDepth 100000 in
theorem laws_FnExactNumberAfter.calls (k : Nat) (a0_0 : Int) (a0_1 : Int) (A0_2 : Option Addr) (c0_2 : Nat) (l0_2 : List (S85)) (a1 : Int) (a2 : Int) (w : World) (hr0_2 : Kd.C k85 w A0_2 l0_2.length l0_2) (hc0_2 : l0_2.length <= c0_2) (h : laws_FnExactNumberAfter.f k a0_0 a0_1 l0_2 a1 a2 = some true) :
 Calls Try.prog 6 #[.agg #[.int .i64 a0_0, .int .i64 a0_1, .slice A0_2 l0_2.length c0_2], .int .i64 a1, .int .i64 a2] w fun e w' => e = .returned (.bool true) /\ Below w.heap.size w w' := by
 have hu24 := Try.underlying24
 have hu30 := Try.underlying30
 have HR0_2 := Aside0.mk hr0_2
 have HC0_2 := Aside0.mk hc0_2
 clear hr0_2 hc0_2
 have HB := Aside0.mk (Below.refl w.heap.size w)
 have H := h
 clear h
 unfold laws_FnExactNumberAfter.f at H
 replace H := bindA H; obtain ⟨t733, A4, H⟩ := H
 replace H := ifB H; rcases H with ⟨c5b0, H⟩ | ⟨c5b0, H⟩
 · first | (obtain rfl := Option.some.inj H) | clear H
   go_enter Try.func6, Try.ntmps6
   go_wp2_with (first | ((with_reducible refine gate_dst (N := 3) rfl ?_); refine boxE (cs := #[.int .i64 a0_0, .int .i64 a0_1, .slice A0_2 l0_2.length c0_2]) (t := 24) ?_; intro gb732 hg w6 hbox hb; refine E4b HB.1 hg hbox hb ?_; clear HB; intro HB BK732 GW732 GE732; clear hb hbox hg; obtain ⟨hcz7_0, hcz7_1, hcz7_2, hfz7_0, hfz7_1, hfz7_2⟩ := cz3 BK732.1) | ((with_reducible refine gate_callee (f := 13) rfl ?_); refine goesM (N := (some 15)) #[.agg #[.int .i64 a0_0, .int .i64 a0_1, .slice A0_2 l0_2.length c0_2], .int .i64 1048576] Try.func13 ?_; (with_reducible refine (laws_szBoard.calls a0_0 a0_1 _ _ l0_2 1048576 t733 _ ?side1 ?side2 A4.1).mono ?_); (case side1 => exact CB (C_below HR0_2.1 HB.1)); (case side2 => exact HC0_2.1); rintro e w8 ⟨rfl, hb⟩; refine ⟨_, rfl, ?_⟩; refine E2 (bB BK732.1 hb) (bS HB.1 hb) ?_; clear BK732 HB; intro BK732 HB; (try clear hb)))
   go_ret
   exact ⟨RF, BL HB.1⟩
 replace H := bindA H; obtain ⟨⟨t734, t735, t736⟩, A9, H⟩ := H
 dsimp only at H
 replace H := bindA H; obtain ⟨⟨t739, t740⟩, A10, H⟩ := H
 dsimp only at H
 replace H := bindA H; obtain ⟨⟨t741, t742, t743⟩, A11, H⟩ := H
 dsimp only at H
 replace H := bindA H; obtain ⟨⟨t747, t748⟩, A12, H⟩ := H
 dsimp only at H
 have HC13 := Aside0.mk H
 clear H
 go_enter Try.func6, Try.ntmps6
 go_upto_region 8 with (first | ((with_reducible refine gate_dst (N := 3) rfl ?_); refine boxE (cs := #[.int .i64 a0_0, .int .i64 a0_1, .slice A0_2 l0_2.length c0_2]) (t := 24) ?_; intro gb732 hg w14 hbox hb; refine E4b HB.1 hg hbox hb ?_; clear HB; intro HB BK732 GW732 GE732; clear hb hbox hg; obtain ⟨hcz15_0, hcz15_1, hcz15_2, hfz15_0, hfz15_1, hfz15_2⟩ := cz3 BK732.1) | ((with_reducible refine gate_callee (f := 13) rfl ?_); refine goesM (N := (some 15)) #[.agg #[.int .i64 a0_0, .int .i64 a0_1, .slice A0_2 l0_2.length c0_2], .int .i64 1048576] Try.func13 ?_; (with_reducible refine (laws_szBoard.calls a0_0 a0_1 _ _ l0_2 1048576 t733 _ ?side1 ?side2 A4.1).mono ?_); (case side1 => exact CB (C_below HR0_2.1 HB.1)); (case side2 => exact HC0_2.1); rintro e w16 ⟨rfl, hb⟩; refine ⟨_, rfl, ?_⟩; refine E2 (bB BK732.1 hb) (bS HB.1 hb) ?_; clear BK732 HB; intro BK732 HB; (try clear hb); obtain ⟨hcz17_0, hcz17_1, hcz17_2, hfz17_0, hfz17_1, hfz17_2⟩ := cz3 BK732.1) | ((with_reducible refine gate_callee (f := 15) rfl ?_); refine goesM (N := (some 20)) #[.agg #[.int .i64 a0_0, .int .i64 a0_1, .slice A0_2 l0_2.length c0_2]] Try.func15 ?_; (with_reducible refine (laws_toBoard.calls k a0_0 a0_1 _ _ l0_2 t734 t735 t736 _ ?side1 ?side2 A9.1).mono ?_); (case side1 => exact CB (C_below HR0_2.1 HB.1)); (case side2 => exact HC0_2.1); rintro e w18 ⟨v737, rfl, ho0, hb⟩; refine ⟨_, rfl, ?_⟩; refine E3 (R_lower ho0 (bZ HB.1)) (bB BK732.1 hb) (bS HB.1 hb) ?_; clear BK732 HB; intro HO738 BK732 HB; (try clear hb); (try clear ho0); obtain ⟨Ao19, co19, eo19⟩ := R_slice HO738.1; subst eo19) | ((with_reducible refine gate_callee (f := 22) rfl ?_); refine goesM (N := (some 23)) #[.agg #[.int .i64 t734, .int .i64 t735, .slice Ao19 t736.length co19], .int .i64 a1, .int .i64 a2] Try.func22 ?_; (with_reducible refine (spec_NumberAfter.calls k t734 t735 _ _ t736 a1 a2 t739 t740 _ ?side1 ?side2 A10.1).mono ?_); (case side1 => exact CB (R_reads' HO738.1).2.2); (case side2 => exact (R_reads' HO738.1).2.1); rintro e w20 ⟨rfl, hb⟩; refine ⟨_, rfl, ?_⟩; refine E3 (rB HO738.1 hb) (bB BK732.1 hb) (bS HB.1 hb) ?_; clear HO738 BK732 HB; intro HO738 BK732 HB; (try clear hb); obtain ⟨hcz21_0, hcz21_1, hcz21_2, hfz21_0, hfz21_1, hfz21_2⟩ := cz3 BK732.1) | ((with_reducible refine gate_callee (f := 15) rfl ?_); refine goesM (N := (some 27)) #[.agg #[.int .i64 a0_0, .int .i64 a0_1, .slice A0_2 l0_2.length c0_2]] Try.func15 ?_; (with_reducible refine (laws_toBoard.calls k a0_0 a0_1 _ _ l0_2 t741 t742 t743 _ ?side1 ?side2 A11.1).mono ?_); (case side1 => exact CB (C_below HR0_2.1 HB.1)); (case side2 => exact HC0_2.1); rintro e w22 ⟨v744, rfl, ho0, hb⟩; refine ⟨_, rfl, ?_⟩; refine E4 (R_elder' (PR HO738.1) (R_base ho0) hb) (R_lower (R_new' ho0 (R_lt (PR HO738.1))) (bZ HB.1)) (bB BK732.1 hb) (bS HB.1 hb) ?_; clear HO738 BK732 HB; intro HO738 HO745 BK732 HB; (try clear hb); (try clear ho0)) | ((with_reducible refine gate_dst (N := 10) rfl ?_); refine boxE (cs := #[.int .i64 0, .int .i64 0, .slice none 0 0]) (t := 30) ?_; intro gb746 hg w23 hbox hb; refine E9 (rB HO738.1 hb) (rB HO745.1 hb) (bB BK732.1 hb) (bS HB.1 hb) (hbox) (gX HB.1 hg) (gX HB.1 hg) (nB BK732.1 hg) (nC BK732.1 hg) ?_; clear HO738 HO745 BK732 HB; intro HO738 HO745 BK732 HB BK746 GW746 GE746 NB732_746 NB746_732; clear hb hbox hg; have hnb24 := NB746_732.1; have hnc24 := NB732_746.1; obtain ⟨hcz25_0, hcz25_1, hcz25_2, hfz25_0, hfz25_1, hfz25_2⟩ := cz3 BK746.1; obtain ⟨Ao26, co26, eo26⟩ := R_slice HO745.1; subst eo26) | ((with_reducible refine gate_callee (f := 23) rfl ?_); refine goesM (N := (some 32)) #[.agg #[.int .i64 t741, .int .i64 t742, .slice Ao26 t743.length co26], .int .i64 a1, .int .i64 a2] Try.func23 ?_; (with_reducible refine (impl_NumberAfter.calls k t741 t742 _ _ t743 a1 a2 t747 t748 _ ?side1 ?side2 A12.1).mono ?_); (case side1 => refine (R_reads' (e := 83) (base := w.heap.size) (ok := fun k_ => (True /\ some k_ ≠ (.slice Ao19 t736.length co19 : Value).ownBlock)) (n := t743.length) (c := co26) ?_).2.2; exact (by (with_reducible repeat (first | apply R_alloc | apply R_drewN | apply R_drew)); exact (R_mono (RQ gb746 2 (RQ gb746 1 (RQ gb746 0 (R_types HO745.1 BK746.1 (by decide)) _) _) _) (fun _ h_ => h_.1)))); (case side2 => exact (R_reads' HO745.1).2.1); rintro e w27 ⟨rfl, hb⟩; refine ⟨_, rfl, ?_⟩; refine E5 (R_below (by (with_reducible repeat (first | apply R_alloc | apply R_drewN | apply R_drew)); exact (R_mono (RQ gb746 2 (RQ gb746 1 (RQ gb746 0 (R_types HO738.1 BK746.1 (by decide)) _) _) _) (fun _ h_ => h_.1))) hb) (R_below (by (with_reducible repeat (first | apply R_alloc | apply R_drewN | apply R_drew)); exact (R_mono (RQ gb746 2 (RQ gb746 1 (RQ gb746 0 (R_types HO745.1 BK746.1 (by decide)) _) _) _) (fun _ h_ => h_.1))) hb) (blk_below (g := gb732) (o := .cells #[.int .i64 a0_0, .int .i64 a0_1, .slice A0_2 l0_2.length c0_2] 24 (0, 0)) (PF1 NB732_746.1 BK732.1) hb) (blk_below (g := gb746) (o := .cells #[.int .i64 t741, .int .i64 t742, .slice Ao26 t743.length co26] 30 (0, 0)) (PF0 BK746.1) hb) (bS HB.1 hb) ?_; clear HO738 HO745 BK732 BK746 HB; intro HO738 HO745 BK732 BK746 HB; (try clear hb)))
 (try simp only [Act.put, List.setIfInBounds_toArray, List.set_cons_zero, List.set_cons_succ])
 go_cut [42] (fun v42 wc => ∃ (kq : Nat) (x42_12 : Bool), v42 = .bool x42_12 /\ Aside0 (laws_FnExactNumberAfter.j0 kq x42_12 a0_0 a0_1 l0_2 t741 t742 t743 = some true) /\ Aside0 (kq <= k) /\ Aside0 (Kd.R k83 83 wc w.heap.size (fun _ => True) (.slice Ao26 t743.length co26) t743) /\ Aside0 (wc.heap[gb732]? = some (.cells #[.int .i64 a0_0, .int .i64 a0_1, (.slice A0_2 l0_2.length c0_2)] 24 (0, 0))) /\ Aside0 (wc.heap[gb746]? = some (.cells #[.int .i64 t741, .int .i64 t742, (.slice Ao26 t743.length co26)] 30 (0, 0))) /\ Aside0 (Below w.heap.size w wc))
 case first =>
  have H := HC13.1
  clear HC13
  replace H := ifQ H; rcases H with ⟨c28, H⟩ | ⟨c28, H⟩
  · have c28b0 := beq_iff_eq.mpr c28
    have c28b1 := bne_eq_false_iff_eq.mpr c28
    clear c28
    (first | rw [c28b0] | (simp only [i64_w, i32_w]; rw [c28b0]) | skip)
    have H' := Aside0.mk H
    clear H
    go_wp2
    go_meet
    case rel => exact ⟨_, ((t748 != t740)), RG, H', ⟨by first | omega | exact Nat.le_refl _⟩, ⟨RPE (R_mono HO745.1 (fun _ hk => trivial))⟩, ⟨PB BK732.1⟩, ⟨PB BK746.1⟩, ⟨BL HB.1⟩⟩
  exact absurd H (by cases k <;> simp [laws_FnExactNumberAfter.j0])
 clear HC13
 clear c5b0 hcz15_0 hcz15_1 hcz15_2 hcz17_0 hcz17_1 hcz17_2 hcz21_0 hcz21_1 hcz21_2 hcz25_0 hcz25_1 hcz25_2 hfz15_0 hfz15_1 hfz15_2 hfz17_0 hfz17_1 hfz17_2 hfz21_0 hfz21_1 hfz21_2 hfz25_0 hfz25_1 hfz25_2
 obtain ⟨kq, x42_12, rfl, HA, HJ12, HO_747002, BK732, BK746, HB⟩ := hcut
 cases kq with
 | zero => exact absurd HA.1 (by simp [laws_FnExactNumberAfter.j0])
 | succ kj12 => ?_
 have H := HA.1
 clear HA
 simp only [laws_FnExactNumberAfter.j0] at H
 replace H := ifF H (by simp); obtain ⟨rfl, H⟩ := H
 replace H := bindA H; obtain ⟨⟨t749, t750, t751⟩, A30, H⟩ := H
 dsimp only at H
 replace H := bindA H; obtain ⟨t754, A31, H⟩ := H
 replace H := ifT H (by simp); obtain ⟨rfl, H⟩ := H
 first | (obtain rfl := Option.some.inj H) | clear H
 try go_wp2
 refine E4 (R_drew HO_747002.1) (blk_drew BK732.1) (blk_drew BK746.1) (below_drew1 HB.1) ?_
 clear HO_747002 BK732 BK746 HB
 intro HO_747002 BK732 BK746 HB
 refine start_ (n := 5) (S := fun w' => w'.cell? ⟨gb746, 0, none⟩ = some (.int .i64 t741) /\ w'.cell? ⟨gb746, 1, none⟩ = some (.int .i64 t742) /\ w'.cell? ⟨gb746, 2, none⟩ = some (.slice Ao26 t743.length co26) /\ w'.cell? ⟨gb732, 0, none⟩ = some (.int .i64 a0_0) /\ w'.cell? ⟨gb732, 1, none⟩ = some (.int .i64 a0_1) /\ w'.cell? ⟨gb732, 2, none⟩ = some (.slice A0_2 l0_2.length c0_2)) (ds := []) #[Zz,Zz,Zz,Zz,Zz] (by kernel_rfl) rfl rfl ⟨(blk_cell BK746.1 0).trans rfl, (blk_cell BK746.1 1).trans rfl, (blk_cell BK746.1 2).trans rfl, (blk_cell BK732.1 0).trans rfl, (blk_cell BK732.1 1).trans rfl, (blk_cell BK732.1 2).trans rfl⟩ (fun hHeld => ?_)
 generalize wc.drew = w33 at HO_747002 BK732 BK746 HB hHeld ⊢
 refine takeF 0 (N := some 43) hHeld ?_
 refine takeF 1 (N := some 44) hHeld ?_
 refine one_ (i := 2) (N := some 45) #[Yy,Yy,Yy,Zz,Zz] rfl rfl (by kernel_rfl) (by decide) (fun K hK => ?_)
 refine goes_ Try.func15 (by kernel_rfl) rfl #[.agg #[.int .i64 a0_0, .int .i64 a0_1, .slice A0_2 l0_2.length c0_2]] (by rfl) rfl rfl (by (try simp only [List.map_toArray, List.map_cons, List.map_nil]); first | done | rfl | (simp only [List.length_drop, List.length_take]; rfl)) ?_
 with_reducible refine (laws_toBoard.calls kj12 a0_0 a0_1 _ _ l0_2 t749 t750 t751 _ ?side1 ?side2 A30.1).mono ?_
 (case side1 => exact CB (C_below HR0_2.1 HB.1))
 (case side2 => exact HC0_2.1)
 rintro e w34 ⟨v752, rfl, ho0, hb⟩
 refine ⟨_, rfl, ?_⟩
 refine E5 (R_elder' (PR HO_747002.1) (R_base ho0) hb) (R_lower (R_new' ho0 (R_lt (PR HO_747002.1))) (bZ HB.1)) (bB BK732.1 hb) (bB BK746.1 hb) (bS HB.1 hb) ?_
 clear HO_747002 BK732 BK746 HB
 intro HO_747002 HO753 BK732 BK746 HB
 (try clear hb)
 (try clear hb2)
 (try clear hk)
 (try clear hi)
 (try clear ho0)
 obtain ⟨Ao35, co35, eo35⟩ := R_slice HO753.1
 (first | subst eo35 | (injection eo35 with f1_ f2_ f3_; have f4_ := f1_.symm; have f5_ := f3_.symm; clear f1_ f2_ f3_; subst f4_; subst f5_))
 refine hK.out _ _ ⟨(blk_cell BK746.1 0).trans rfl, (blk_cell BK746.1 1).trans rfl, (blk_cell BK746.1 2).trans rfl, (blk_cell BK732.1 0).trans rfl, (blk_cell BK732.1 1).trans rfl, (blk_cell BK732.1 2).trans rfl⟩ (fun hHeld => ?_)
 clear hK K
 refine norm_ (a' := ?_) ?_ ?_
 rotate_left
 · show Act.put _ (some 45) _ = _
   simp only [Act.put, List.setIfInBounds_toArray, List.set_cons_zero, List.set_cons_succ, i64_w, i32_w]
   rfl
 refine one_ (i := 3) (N := some 46) #[Yy,Yy,Yy,Yy,Zz] rfl rfl (by kernel_rfl) (by decide) (fun K hK => ?_)
 refine goes_ Try.func17 (by kernel_rfl) rfl #[.agg #[.int .i64 t741, .int .i64 t742, .slice Ao26 t743.length co26], .agg #[.int .i64 t749, .int .i64 t750, .slice Ao35 t751.length co35]] (by rfl) rfl rfl (by (try simp only [List.map_toArray, List.map_cons, List.map_nil]); first | done | rfl | (simp only [List.length_drop, List.length_take]; rfl)) ?_
 with_reducible refine (laws_eqBoard.calls kj12 t741 t742 _ _ t743 t749 t750 _ _ t751 true _ ?side1 ?side2 ?side3 ?side4 A31.1).mono ?_
 (case side1 => exact CB (R_reads' HO_747002.1).2.2)
 (case side2 => exact (R_reads' HO_747002.1).2.1)
 (case side3 => exact CB (R_reads' HO753.1).2.2)
 (case side4 => exact (R_reads' HO753.1).2.1)
 rintro e w36 ⟨rfl, hb⟩
 refine ⟨_, rfl, ?_⟩
 refine E5 (rB HO_747002.1 hb) (rB HO753.1 hb) (bB BK732.1 hb) (bB BK746.1 hb) (bS HB.1 hb) ?_
 clear HO_747002 HO753 BK732 BK746 HB
 intro HO_747002 HO753 BK732 BK746 HB
 (try clear hb)
 (try clear hb2)
 (try clear hk)
 (try clear hi)
 refine hK.out _ _ ⟨(blk_cell BK746.1 0).trans rfl, (blk_cell BK746.1 1).trans rfl, (blk_cell BK746.1 2).trans rfl, (blk_cell BK732.1 0).trans rfl, (blk_cell BK732.1 1).trans rfl, (blk_cell BK732.1 2).trans rfl⟩ (fun hHeld => ?_)
 clear hK K
 refine norm_ (a' := ?_) ?_ ?_
 rotate_left
 · show Act.put _ (some 46) _ = _
   simp only [Act.put, List.setIfInBounds_toArray, List.set_cons_zero, List.set_cons_succ, i64_w, i32_w]
   rfl
 refine pure_ (i := 4) (N := some 47) (v := ?_) (a' := ?_) #[Yy,Yy,Yy,Yy,Yy] rfl rfl (by kernel_rfl) (fun _ _ _ h => h) (Or.inl ⟨by rfl, ?_⟩) ?_ ?_
 rotate_left
 · intro w'
   go_simp
   with_reducible rfl
 rotate_left
 · simp only [Act.put, List.setIfInBounds_toArray, List.set_cons_zero, List.set_cons_succ, i64_w, i32_w]
   rfl
 refine done_ (by kernel_rfl) ?_
 try go_wp2
 go_ret
 exact ⟨RF, BL HB.1⟩
end Go.Proofs.Ytbpfdbjnnlmdjaa.P
