-- PRINTED by print.py (a twelfth state) out of the translation. Not trusted: Lean checks it.
import Derived.Test.YthnehlphifegaaaPx0
import Derived.Test.YthnehlphifegaaaPx2
import Derived.Test.YthnehlphifegaaaPx6
import Derived.Test.YthnehlphifegaaaPx9
import Derived.Test.YthnehlphifegaaaPx11
import Derived.Test.YthnehlphifegaaaPx13
namespace Go.Proofs.Ythnehlphifegaaa.P
open Go.RowKit Go.Proofs.YthnehlphifegaaaW.PrintWords Go.Proofs.YthnehlphifegaaaW.PrintLast Go.Proofs.YthnehlphifegaaaW.PrintMore
attribute [local go_sem] max2_int min2_int max_two min_two max_three min_three max_four min_four   -- for this text's walks alone
set_option linter.unusedVariables false
set_option linter.unusedSimpArgs false
set_option maxHeartbeats 8000000
set_option maxRecDepth 100000

/-! ### spec_ExplainsLog: function 22 -/
open Kd
def spec_ExplainsLog.j0 : Nat -> List (S66) -> Bool -> Int -> Int -> List (S98) -> Int -> Int -> Int -> Int -> Int -> Option (Bool × Bool)
 | 0, _, _, _, _, _, _, _, _, _, _ => none
 | k + 1, x1, x15, x670000, x670001, x670002, x670003, x670004, x670005, x670006, x670007 => if x15 = true then (some (false, false)) else ((spec_loOf.f k x670000 x670001 x670002 x670003 x670004 x670005 x670006 x670007 (x1.length : Int)).bind fun bt672 => ((spec_loAgree.f k bt672.1 x1).bind fun t686 => (some ((t686 == (x1.length : Int)), true))))
def spec_ExplainsLog.f (k : Nat) (a0_0 : Int) (a0_1 : Int) (l0_2 : List (S98)) (a0_3 : Int) (a0_4 : Int) (a0_5 : Int) (a0_6 : Int) (a0_7 : Int) (l1 : List (S66)) : Option (Bool × Bool) := (spec_maGood.f k a0_0 a0_1 l0_2 a0_3 a0_4 a0_5 a0_6 a0_7).bind fun t670 => (if t670 = true then ((spec_loGood.f k l1).bind fun t671 => (spec_ExplainsLog.j0 k l1 (!t671) a0_0 a0_1 l0_2 a0_3 a0_4 a0_5 a0_6 a0_7)) else (spec_ExplainsLog.j0 k l1 true a0_0 a0_1 l0_2 a0_3 a0_4 a0_5 a0_6 a0_7))
theorem spec_ExplainsLog.mono_l : ∀ k, (∀ y0 y1 y2 y3 y4 y5 y6 y7 y8 y9, LeO (spec_ExplainsLog.j0 k y0 y1 y2 y3 y4 y5 y6 y7 y8 y9) (spec_ExplainsLog.j0 (k + 1) y0 y1 y2 y3 y4 y5 y6 y7 y8 y9))
 | 0 => fun _ _ _ _ _ _ _ _ _ _ r h => by simp [spec_ExplainsLog.j0] at h
 | k + 1 => by
  have ih0 := spec_ExplainsLog.mono_l k
  intros
  first | unfold spec_ExplainsLog.j0
  exact LM5 ih0 spec_loAgree.mono spec_loGood.mono spec_loOf.mono spec_maGood.mono
theorem spec_ExplainsLog.mono : ∀ a0 a1 a2 a3 a4 a5 a6 a7 a8 k, LeO (spec_ExplainsLog.f k a0 a1 a2 a3 a4 a5 a6 a7 a8) (spec_ExplainsLog.f (k + 1) a0 a1 a2 a3 a4 a5 a6 a7 a8) := by
 intro a0 a1 a2 a3 a4 a5 a6 a7 a8 k
 have ih0 := spec_ExplainsLog.mono_l k
 unfold spec_ExplainsLog.f
 exact LM5 ih0 spec_loAgree.mono spec_loGood.mono spec_loOf.mono spec_maGood.mono
theorem spec_ExplainsLog.calls (k : Nat) (a0_0 : Int) (a0_1 : Int) (A0_2 : Option Addr) (c0_2 : Nat) (l0_2 : List (S98)) (a0_3 : Int) (a0_4 : Int) (a0_5 : Int) (a0_6 : Int) (a0_7 : Int) (A1 : Option Addr) (c1 : Nat) (l1 : List (S66)) (r1 : Bool) (r2 : Bool) (w : World) (hr0_2 : Kd.C k98 w A0_2 l0_2.length l0_2) (hc0_2 : l0_2.length <= c0_2) (hr1 : Kd.C k66 w A1 l1.length l1) (hc1 : l1.length <= c1) (h : spec_ExplainsLog.f k a0_0 a0_1 l0_2 a0_3 a0_4 a0_5 a0_6 a0_7 l1 = some (r1, r2)) :
 Calls Try.prog 22 #[.agg #[.int .i64 a0_0, .int .i64 a0_1, .slice A0_2 l0_2.length c0_2, .int .i64 a0_3, .int .i64 a0_4, .int .i64 a0_5, .int .i64 a0_6, .int .i64 a0_7], .slice A1 l1.length c1] w fun e w' => e = .returned (.tuple #[.bool r1, .bool r2]) /\ Below w.heap.size w w' := by
 have hu35 := Try.underlying35
 have HR0_2 := Aside0.mk hr0_2
 have HC0_2 := Aside0.mk hc0_2
 clear hr0_2 hc0_2
 have HR1 := Aside0.mk hr1
 have HC1 := Aside0.mk hc1
 clear hr1 hc1
 have HB := Aside0.mk (Below.refl w.heap.size w)
 have H := h
 clear h
 unfold spec_ExplainsLog.f at H
 have HC3 := Aside0.mk H
 clear H
 go_enter Try.func22, Try.ntmps22
 go_upto_region 1 with (first | ((with_reducible refine gate_dst (N := 2) rfl ?_); refine boxE (cs := #[.int .i64 a0_0, .int .i64 a0_1, .slice A0_2 l0_2.length c0_2, .int .i64 a0_3, .int .i64 a0_4, .int .i64 a0_5, .int .i64 a0_6, .int .i64 a0_7]) (t := 35) ?_; intro gb669 hg w4 hbox hb; refine E4b HB.1 hg hbox hb ?_; clear HB; intro HB BK669 GW669 GE669; clear hb hbox hg))
 (try simp only [Act.put, List.setIfInBounds_toArray, List.set_cons_zero, List.set_cons_succ])
 go_cut [15] (fun v15 wc => ∃ (kq : Nat) (x15_2 : Bool), v15 = .bool x15_2 /\ Aside0 (spec_ExplainsLog.j0 kq l1 x15_2 a0_0 a0_1 l0_2 a0_3 a0_4 a0_5 a0_6 a0_7 = some (r1, r2)) /\ Aside0 (kq <= k) /\ Aside0 (wc.heap[gb669]? = some (.cells #[.int .i64 a0_0, .int .i64 a0_1, (.slice A0_2 l0_2.length c0_2), .int .i64 a0_3, .int .i64 a0_4, .int .i64 a0_5, .int .i64 a0_6, .int .i64 a0_7] 35 (0, 0))) /\ Aside0 (Below w.heap.size w wc))
 case first =>
  have H := HC3.1
  clear HC3
  replace H := bindA H; obtain ⟨t670, A5, H⟩ := H
  replace H := ifX H; rcases H with ⟨rfl, H⟩ | ⟨rfl, H⟩
  · replace H := bindA H; obtain ⟨t671, A7, H⟩ := H
    have H' := Aside0.mk H
    clear H
    obtain ⟨hcz8_0, hcz8_1, hcz8_2, hcz8_3, hcz8_4, hcz8_5, hcz8_6, hcz8_7, hfz8_0, hfz8_1, hfz8_2, hfz8_3, hfz8_4, hfz8_5, hfz8_6, hfz8_7⟩ := cz8 BK669.1
    go_wp2_with (first | ((with_reducible refine gate_callee (f := 29) rfl ?_); refine goesM (N := (some 9)) #[.agg #[.int .i64 a0_0, .int .i64 a0_1, .slice A0_2 l0_2.length c0_2, .int .i64 a0_3, .int .i64 a0_4, .int .i64 a0_5, .int .i64 a0_6, .int .i64 a0_7]] Try.func29 ?_; (with_reducible refine (spec_maGood.calls k a0_0 a0_1 _ _ l0_2 a0_3 a0_4 a0_5 a0_6 a0_7 true _ ?side1 ?side2 A5.1).mono ?_); (case side1 => exact CB (C_below HR0_2.1 HB.1)); (case side2 => exact HC0_2.1); rintro e w9 ⟨rfl, hb⟩; refine ⟨_, rfl, ?_⟩; refine E2 (bB BK669.1 hb) (bS HB.1 hb) ?_; clear BK669 HB; intro BK669 HB; (try clear hb)) | (go_at_call 38; (with_reducible refine (spec_loGood.calls k _ _ l1 t671 _ ?side1 ?side2 A7.1).mono ?_); (case side1 => exact CB (C_below HR1.1 HB.1)); (case side2 => exact HC1.1); rintro e w10 ⟨rfl, hb⟩; refine E2 (bB BK669.1 hb) (bS HB.1 hb) ?_; clear BK669 HB; intro BK669 HB; (try clear hb)))
    go_meet
    case rel => exact ⟨_, (!t671), RG, H', ⟨by first | omega | exact Nat.le_refl _⟩, ⟨PB BK669.1⟩, ⟨BL HB.1⟩⟩
  have H' := Aside0.mk H
  clear H
  obtain ⟨hcz11_0, hcz11_1, hcz11_2, hcz11_3, hcz11_4, hcz11_5, hcz11_6, hcz11_7, hfz11_0, hfz11_1, hfz11_2, hfz11_3, hfz11_4, hfz11_5, hfz11_6, hfz11_7⟩ := cz8 BK669.1
  go_wp2_with (first | ((with_reducible refine gate_callee (f := 29) rfl ?_); refine goesM (N := (some 9)) #[.agg #[.int .i64 a0_0, .int .i64 a0_1, .slice A0_2 l0_2.length c0_2, .int .i64 a0_3, .int .i64 a0_4, .int .i64 a0_5, .int .i64 a0_6, .int .i64 a0_7]] Try.func29 ?_; (with_reducible refine (spec_maGood.calls k a0_0 a0_1 _ _ l0_2 a0_3 a0_4 a0_5 a0_6 a0_7 false _ ?side1 ?side2 A5.1).mono ?_); (case side1 => exact CB (C_below HR0_2.1 HB.1)); (case side2 => exact HC0_2.1); rintro e w12 ⟨rfl, hb⟩; refine ⟨_, rfl, ?_⟩; refine E2 (bB BK669.1 hb) (bS HB.1 hb) ?_; clear BK669 HB; intro BK669 HB; (try clear hb)))
  go_meet
  case rel => exact ⟨_, (true), RG, H', ⟨by first | omega | exact Nat.le_refl _⟩, ⟨PB BK669.1⟩, ⟨BL HB.1⟩⟩
 clear HC3
 try clear c1
 obtain ⟨kq, x15_2, rfl, HA, HJ2, BK669, HB⟩ := hcut
 cases kq with
 | zero => exact absurd HA.1 (by simp [spec_ExplainsLog.j0])
 | succ kj2 => ?_
 have H := HA.1
 clear HA
 simp only [spec_ExplainsLog.j0] at H
 replace H := ifX H; rcases H with ⟨rfl, H⟩ | ⟨rfl, H⟩
 · simp only [Option.some.injEq, Prod.mk.injEq] at H
   obtain ⟨rfl, rfl⟩ := H
   go_wp2
   go_ret2
   exact ⟨RF, BL HB.1⟩
 replace H := bindA H; obtain ⟨⟨t672, t675, t676, t677, t680, t681, t682, t683, t684⟩, A14, H⟩ := H
 dsimp only at H
 replace H := bindA H; obtain ⟨t686, A15, H⟩ := H
 simp only [Option.some.injEq, Prod.mk.injEq] at H
 obtain ⟨rfl, rfl⟩ := H
 obtain ⟨hcz16_0, hcz16_1, hcz16_2, hcz16_3, hcz16_4, hcz16_5, hcz16_6, hcz16_7, hfz16_0, hfz16_1, hfz16_2, hfz16_3, hfz16_4, hfz16_5, hfz16_6, hfz16_7⟩ := cz8 BK669.1
 go_wp2_with (first | ((with_reducible refine gate_callee (f := 36) rfl ?_); refine goesM (N := (some 20)) #[.agg #[.int .i64 a0_0, .int .i64 a0_1, .slice A0_2 l0_2.length c0_2, .int .i64 a0_3, .int .i64 a0_4, .int .i64 a0_5, .int .i64 a0_6, .int .i64 a0_7], .int .i64 (l1.length : Int)] Try.func36 ?_; (with_reducible refine (spec_loOf.calls kj2 a0_0 a0_1 _ _ l0_2 a0_3 a0_4 a0_5 a0_6 a0_7 (l1.length : Int) t672 t675 t676 t677 t680 t681 t682 t683 t684 _ ?side1 ?side2 A14.1).mono ?_); (case side1 => exact CB (C_below HR0_2.1 HB.1)); (case side2 => exact HC0_2.1); rintro e w17 ⟨v673, v678, rfl, ho0, ho1, hb⟩; refine ⟨_, rfl, ?_⟩; refine E4 (R_lower ho0 (bZ HB.1)) (R_lower ho1 (bZ HB.1)) (bB BK669.1 hb) (bS HB.1 hb) ?_; clear BK669 HB; intro HO674 HO679 BK669 HB; (try clear hb); (try clear ho0); (try clear ho1)) | ((with_reducible refine gate_dst (N := 7) rfl ?_); refine boxE (cs := #[.int .i64 0, .int .i64 0, .slice none 0 0, .int .i64 0, .int .i64 0, .int .i64 0, .int .i64 0, .int .i64 0]) (t := 35) ?_; intro gb685 hg w18 hbox hb; refine E9 (rB HO674.1 hb) (rB HO679.1 hb) (bB BK669.1 hb) (bS HB.1 hb) (hbox) (gX HB.1 hg) (gX HB.1 hg) (nB BK669.1 hg) (nC BK669.1 hg) ?_; clear HO674 HO679 BK669 HB; intro HO674 HO679 BK669 HB BK685 GW685 GE685 NB669_685 NB685_669; clear hb hbox hg; have hnb19 := NB685_669.1; have hnc19 := NB669_685.1; obtain ⟨hcz20_0, hcz20_1, hcz20_2, hcz20_3, hcz20_4, hcz20_5, hcz20_6, hcz20_7, hfz20_0, hfz20_1, hfz20_2, hfz20_3, hfz20_4, hfz20_5, hfz20_6, hfz20_7⟩ := cz8 BK685.1; obtain ⟨Ao21, co21, eo21⟩ := R_slice HO679.1; subst eo21; obtain ⟨Ao22, co22, eo22⟩ := R_slice HO674.1; subst eo22) | ((with_reducible refine gate_callee (f := 39) rfl ?_); refine goesM (N := (some 25)) #[.slice Ao22 t672.length co22, .slice A1 l1.length c1] Try.func39 ?_; (with_reducible refine (spec_loAgree.calls kj2 _ _ t672 _ _ l1 t686 _ ?side1 ?side2 ?side3 ?side4 A15.1).mono ?_); (case side1 => refine (R_reads' (e := 66) (base := w.heap.size) (ok := fun k_ => True) (n := t672.length) (c := co22) ?_).2.2; exact (by (with_reducible repeat (first | apply R_alloc | apply R_drewN | apply R_drew)); exact (R_mono (RQ gb685 7 (RQ gb685 6 (RQ gb685 5 (RQ gb685 4 (RQ gb685 3 (RQ gb685 2 (RQ gb685 1 (RQ gb685 0 (R_types HO674.1 BK685.1 (by decide)) _) _) _) _) _) _) _) _) (fun _ h_ => h_.1)))); (case side2 => exact (R_reads' HO674.1).2.1); (case side3 => exact C_below HR1.1 (BL HB.1)); (case side4 => exact HC1.1); rintro e w' ⟨rfl, ⟨nd, rfl⟩⟩; refine ⟨_, rfl, ?_⟩))
 go_ret2
 exact ⟨RF, BL HB.1⟩

/-! ### impl_ExplainsLog: function 24 -/
open Kd
def impl_ExplainsLog.j0 : Nat -> List (S66) -> Bool -> Int -> Int -> List (S98) -> Int -> Int -> Int -> Int -> Int -> Option (Bool × Bool)
 | 0, _, _, _, _, _, _, _, _, _, _ => none
 | k + 1, x1, x15, x711000, x711001, x711002, x711003, x711004, x711005, x711006, x711007 => if x15 = true then (some (false, false)) else ((impl_runSteps.f k x711000 x711001 x711002 x711003 x711004 x711005 x711006 x711007 60).bind fun bt713 => ((impl_agreeing.f k bt713.2.2.2.2.2.2.2.2 x1).bind fun t727 => (some ((t727 == (x1.length : Int)), true))))
def impl_ExplainsLog.f (k : Nat) (a0_0 : Int) (a0_1 : Int) (l0_2 : List (S98)) (a0_3 : Int) (a0_4 : Int) (a0_5 : Int) (a0_6 : Int) (a0_7 : Int) (l1 : List (S66)) : Option (Bool × Bool) := (impl_IsMachine.f k a0_0 a0_1 l0_2 a0_3 a0_4 a0_5 a0_6 a0_7).bind fun t711 => (if t711 = true then ((impl_IsLog.f k l1).bind fun t712 => (impl_ExplainsLog.j0 k l1 (!t712) a0_0 a0_1 l0_2 a0_3 a0_4 a0_5 a0_6 a0_7)) else (impl_ExplainsLog.j0 k l1 true a0_0 a0_1 l0_2 a0_3 a0_4 a0_5 a0_6 a0_7))
theorem impl_ExplainsLog.mono_l : ∀ k, (∀ y0 y1 y2 y3 y4 y5 y6 y7 y8 y9, LeO (impl_ExplainsLog.j0 k y0 y1 y2 y3 y4 y5 y6 y7 y8 y9) (impl_ExplainsLog.j0 (k + 1) y0 y1 y2 y3 y4 y5 y6 y7 y8 y9))
 | 0 => fun _ _ _ _ _ _ _ _ _ _ r h => by simp [impl_ExplainsLog.j0] at h
 | k + 1 => by
  have ih0 := impl_ExplainsLog.mono_l k
  intros
  first | unfold impl_ExplainsLog.j0
  exact LM5 ih0 impl_IsLog.mono impl_IsMachine.mono impl_agreeing.mono impl_runSteps.mono
theorem impl_ExplainsLog.mono : ∀ a0 a1 a2 a3 a4 a5 a6 a7 a8 k, LeO (impl_ExplainsLog.f k a0 a1 a2 a3 a4 a5 a6 a7 a8) (impl_ExplainsLog.f (k + 1) a0 a1 a2 a3 a4 a5 a6 a7 a8) := by
 intro a0 a1 a2 a3 a4 a5 a6 a7 a8 k
 have ih0 := impl_ExplainsLog.mono_l k
 unfold impl_ExplainsLog.f
 exact LM5 ih0 impl_IsLog.mono impl_IsMachine.mono impl_agreeing.mono impl_runSteps.mono
theorem impl_ExplainsLog.calls (k : Nat) (a0_0 : Int) (a0_1 : Int) (A0_2 : Option Addr) (c0_2 : Nat) (l0_2 : List (S98)) (a0_3 : Int) (a0_4 : Int) (a0_5 : Int) (a0_6 : Int) (a0_7 : Int) (A1 : Option Addr) (c1 : Nat) (l1 : List (S66)) (r1 : Bool) (r2 : Bool) (w : World) (hr0_2 : Kd.C k98 w A0_2 l0_2.length l0_2) (hc0_2 : l0_2.length <= c0_2) (hr1 : Kd.C k66 w A1 l1.length l1) (hc1 : l1.length <= c1) (h : impl_ExplainsLog.f k a0_0 a0_1 l0_2 a0_3 a0_4 a0_5 a0_6 a0_7 l1 = some (r1, r2)) :
 Calls Try.prog 24 #[.agg #[.int .i64 a0_0, .int .i64 a0_1, .slice A0_2 l0_2.length c0_2, .int .i64 a0_3, .int .i64 a0_4, .int .i64 a0_5, .int .i64 a0_6, .int .i64 a0_7], .slice A1 l1.length c1] w fun e w' => e = .returned (.tuple #[.bool r1, .bool r2]) /\ Below w.heap.size w w' := by
 have hu35 := Try.underlying35
 have HR0_2 := Aside0.mk hr0_2
 have HC0_2 := Aside0.mk hc0_2
 clear hr0_2 hc0_2
 have HR1 := Aside0.mk hr1
 have HC1 := Aside0.mk hc1
 clear hr1 hc1
 have HB := Aside0.mk (Below.refl w.heap.size w)
 have H := h
 clear h
 unfold impl_ExplainsLog.f at H
 have HC3 := Aside0.mk H
 clear H
 go_enter Try.func24, Try.ntmps24
 go_upto_region 1 with (first | ((with_reducible refine gate_dst (N := 2) rfl ?_); refine boxE (cs := #[.int .i64 a0_0, .int .i64 a0_1, .slice A0_2 l0_2.length c0_2, .int .i64 a0_3, .int .i64 a0_4, .int .i64 a0_5, .int .i64 a0_6, .int .i64 a0_7]) (t := 35) ?_; intro gb710 hg w4 hbox hb; refine E4b HB.1 hg hbox hb ?_; clear HB; intro HB BK710 GW710 GE710; clear hb hbox hg))
 (try simp only [Act.put, List.setIfInBounds_toArray, List.set_cons_zero, List.set_cons_succ])
 go_cut [15] (fun v15 wc => ∃ (kq : Nat) (x15_2 : Bool), v15 = .bool x15_2 /\ Aside0 (impl_ExplainsLog.j0 kq l1 x15_2 a0_0 a0_1 l0_2 a0_3 a0_4 a0_5 a0_6 a0_7 = some (r1, r2)) /\ Aside0 (kq <= k) /\ Aside0 (wc.heap[gb710]? = some (.cells #[.int .i64 a0_0, .int .i64 a0_1, (.slice A0_2 l0_2.length c0_2), .int .i64 a0_3, .int .i64 a0_4, .int .i64 a0_5, .int .i64 a0_6, .int .i64 a0_7] 35 (0, 0))) /\ Aside0 (Below w.heap.size w wc))
 case first =>
  have H := HC3.1
  clear HC3
  replace H := bindA H; obtain ⟨t711, A5, H⟩ := H
  replace H := ifX H; rcases H with ⟨rfl, H⟩ | ⟨rfl, H⟩
  · replace H := bindA H; obtain ⟨t712, A7, H⟩ := H
    have H' := Aside0.mk H
    clear H
    obtain ⟨hcz8_0, hcz8_1, hcz8_2, hcz8_3, hcz8_4, hcz8_5, hcz8_6, hcz8_7, hfz8_0, hfz8_1, hfz8_2, hfz8_3, hfz8_4, hfz8_5, hfz8_6, hfz8_7⟩ := cz8 BK710.1
    go_wp2_with (first | ((with_reducible refine gate_callee (f := 32) rfl ?_); refine goesM (N := (some 9)) #[.agg #[.int .i64 a0_0, .int .i64 a0_1, .slice A0_2 l0_2.length c0_2, .int .i64 a0_3, .int .i64 a0_4, .int .i64 a0_5, .int .i64 a0_6, .int .i64 a0_7]] Try.func32 ?_; (with_reducible refine (impl_IsMachine.calls k a0_0 a0_1 _ _ l0_2 a0_3 a0_4 a0_5 a0_6 a0_7 true _ ?side1 ?side2 A5.1).mono ?_); (case side1 => exact CB (C_below HR0_2.1 HB.1)); (case side2 => exact HC0_2.1); rintro e w9 ⟨rfl, hb⟩; refine ⟨_, rfl, ?_⟩; refine E2 (bB BK710.1 hb) (bS HB.1 hb) ?_; clear BK710 HB; intro BK710 HB; (try clear hb)) | (go_at_call 41; (with_reducible refine (impl_IsLog.calls k _ _ l1 t712 _ ?side1 ?side2 A7.1).mono ?_); (case side1 => exact CB (C_below HR1.1 HB.1)); (case side2 => exact HC1.1); rintro e w10 ⟨rfl, hb⟩; refine E2 (bB BK710.1 hb) (bS HB.1 hb) ?_; clear BK710 HB; intro BK710 HB; (try clear hb)))
    go_meet
    case rel => exact ⟨_, (!t712), RG, H', ⟨by first | omega | exact Nat.le_refl _⟩, ⟨PB BK710.1⟩, ⟨BL HB.1⟩⟩
  have H' := Aside0.mk H
  clear H
  obtain ⟨hcz11_0, hcz11_1, hcz11_2, hcz11_3, hcz11_4, hcz11_5, hcz11_6, hcz11_7, hfz11_0, hfz11_1, hfz11_2, hfz11_3, hfz11_4, hfz11_5, hfz11_6, hfz11_7⟩ := cz8 BK710.1
  go_wp2_with (first | ((with_reducible refine gate_callee (f := 32) rfl ?_); refine goesM (N := (some 9)) #[.agg #[.int .i64 a0_0, .int .i64 a0_1, .slice A0_2 l0_2.length c0_2, .int .i64 a0_3, .int .i64 a0_4, .int .i64 a0_5, .int .i64 a0_6, .int .i64 a0_7]] Try.func32 ?_; (with_reducible refine (impl_IsMachine.calls k a0_0 a0_1 _ _ l0_2 a0_3 a0_4 a0_5 a0_6 a0_7 false _ ?side1 ?side2 A5.1).mono ?_); (case side1 => exact CB (C_below HR0_2.1 HB.1)); (case side2 => exact HC0_2.1); rintro e w12 ⟨rfl, hb⟩; refine ⟨_, rfl, ?_⟩; refine E2 (bB BK710.1 hb) (bS HB.1 hb) ?_; clear BK710 HB; intro BK710 HB; (try clear hb)))
  go_meet
  case rel => exact ⟨_, (true), RG, H', ⟨by first | omega | exact Nat.le_refl _⟩, ⟨PB BK710.1⟩, ⟨BL HB.1⟩⟩
 clear HC3
 try clear c1
 obtain ⟨kq, x15_2, rfl, HA, HJ2, BK710, HB⟩ := hcut
 cases kq with
 | zero => exact absurd HA.1 (by simp [impl_ExplainsLog.j0])
 | succ kj2 => ?_
 have H := HA.1
 clear HA
 simp only [impl_ExplainsLog.j0] at H
 replace H := ifX H; rcases H with ⟨rfl, H⟩ | ⟨rfl, H⟩
 · simp only [Option.some.injEq, Prod.mk.injEq] at H
   obtain ⟨rfl, rfl⟩ := H
   go_wp2
   go_ret2
   exact ⟨RF, BL HB.1⟩
 replace H := bindA H; obtain ⟨⟨t713, t714, t715, t718, t719, t720, t721, t722, t723⟩, A14, H⟩ := H
 dsimp only at H
 replace H := bindA H; obtain ⟨t727, A15, H⟩ := H
 simp only [Option.some.injEq, Prod.mk.injEq] at H
 obtain ⟨rfl, rfl⟩ := H
 obtain ⟨hcz16_0, hcz16_1, hcz16_2, hcz16_3, hcz16_4, hcz16_5, hcz16_6, hcz16_7, hfz16_0, hfz16_1, hfz16_2, hfz16_3, hfz16_4, hfz16_5, hfz16_6, hfz16_7⟩ := cz8 BK710.1
 go_wp2_with (first | ((with_reducible refine gate_callee (f := 33) rfl ?_); refine goesM (N := (some 18)) #[.agg #[.int .i64 a0_0, .int .i64 a0_1, .slice A0_2 l0_2.length c0_2, .int .i64 a0_3, .int .i64 a0_4, .int .i64 a0_5, .int .i64 a0_6, .int .i64 a0_7], .int .i64 60] Try.func33 ?_; (with_reducible refine (impl_runSteps.calls kj2 a0_0 a0_1 _ _ l0_2 a0_3 a0_4 a0_5 a0_6 a0_7 60 t713 t714 t715 t718 t719 t720 t721 t722 t723 _ ?side1 ?side2 A14.1).mono ?_); (case side1 => exact CB (C_below HR0_2.1 HB.1)); (case side2 => exact HC0_2.1); rintro e w17 ⟨v716, v724, rfl, ho0, ho1, hb⟩; refine ⟨_, rfl, ?_⟩; refine E4 (R_lower ho0 (bZ HB.1)) (R_lower ho1 (bZ HB.1)) (bB BK710.1 hb) (bS HB.1 hb) ?_; clear BK710 HB; intro HO717 HO725 BK710 HB; (try clear hb); (try clear ho0); (try clear ho1)) | ((with_reducible refine gate_dst (N := 6) rfl ?_); refine boxE (cs := #[.int .i64 0, .int .i64 0, .slice none 0 0, .int .i64 0, .int .i64 0, .int .i64 0, .int .i64 0, .int .i64 0]) (t := 35) ?_; intro gb726 hg w18 hbox hb; refine E9 (rB HO717.1 hb) (rB HO725.1 hb) (bB BK710.1 hb) (bS HB.1 hb) (hbox) (gX HB.1 hg) (gX HB.1 hg) (nB BK710.1 hg) (nC BK710.1 hg) ?_; clear HO717 HO725 BK710 HB; intro HO717 HO725 BK710 HB BK726 GW726 GE726 NB710_726 NB726_710; clear hb hbox hg; have hnb19 := NB726_710.1; have hnc19 := NB710_726.1; obtain ⟨hcz20_0, hcz20_1, hcz20_2, hcz20_3, hcz20_4, hcz20_5, hcz20_6, hcz20_7, hfz20_0, hfz20_1, hfz20_2, hfz20_3, hfz20_4, hfz20_5, hfz20_6, hfz20_7⟩ := cz8 BK726.1; obtain ⟨Ao21, co21, eo21⟩ := R_slice HO717.1; subst eo21; obtain ⟨Ao22, co22, eo22⟩ := R_slice HO725.1; subst eo22) | ((with_reducible refine gate_callee (f := 42) rfl ?_); refine goesM (N := (some 23)) #[.slice Ao22 t723.length co22, .slice A1 l1.length c1] Try.func42 ?_; (with_reducible refine (impl_agreeing.calls kj2 _ _ t723 _ _ l1 t727 _ ?side1 ?side2 ?side3 ?side4 A15.1).mono ?_); (case side1 => refine (R_reads' (e := 66) (base := w.heap.size) (ok := fun k_ => True) (n := t723.length) (c := co22) ?_).2.2; exact (by (with_reducible repeat (first | apply R_alloc | apply R_drewN | apply R_drew)); exact (R_mono (RQ gb726 7 (RQ gb726 6 (RQ gb726 5 (RQ gb726 4 (RQ gb726 3 (RQ gb726 2 (RQ gb726 1 (RQ gb726 0 (R_types HO725.1 BK726.1 (by decide)) _) _) _) _) _) _) _) _) (fun _ h_ => h_.1)))); (case side2 => exact (R_reads' HO725.1).2.1); (case side3 => exact C_below HR1.1 (BL HB.1)); (case side4 => exact HC1.1); rintro e w' ⟨rfl, ⟨nd, rfl⟩⟩; refine ⟨_, rfl, ?_⟩))
 go_ret2
 exact ⟨RF, BL HB.1⟩

/-! ### laws_FnExactExplainsLog: function 5 -/
open Kd
def laws_FnExactExplainsLog.j0 : Nat -> List (S77) -> List (S66) -> Bool -> Int -> Int -> List (S100) -> Int -> Int -> Int -> Int -> Int -> Int -> Int -> List (S98) -> Int -> Int -> Int -> Int -> Int -> Option (Bool)
 | 0, _, _, _, _, _, _, _, _, _, _, _, _, _, _, _, _, _, _, _ => none
 | k + 1, x1, x9, x47, x729000, x729001, x729002, x729003, x729004, x729005, x729006, x729007, x757000, x757001, x757002, x757003, x757004, x757005, x757006, x757007 => if x47 = true then (some false) else ((laws_toMachine.f k x729000 x729001 x729002 x729003 x729004 x729005 x729006 x729007).bind fun bt762 => ((laws_eqMachine.f k x757000 x757001 x757002 x757003 x757004 x757005 x757006 x757007 bt762.1 bt762.2.1 bt762.2.2.1 bt762.2.2.2.1 bt762.2.2.2.2.1 bt762.2.2.2.2.2.1 bt762.2.2.2.2.2.2.1 bt762.2.2.2.2.2.2.2).bind fun t772 => (if t772 = true then ((laws_toLogEntryS.f k x1).bind fun t773 => ((laws_eqLogEntryS.f k x9 t773).bind fun t776 => (if t776 = true then (some true) else (some false)))) else (some false))))
def laws_FnExactExplainsLog.f (k : Nat) (a0_0 : Int) (a0_1 : Int) (l0_2 : List (S100)) (a0_3 : Int) (a0_4 : Int) (a0_5 : Int) (a0_6 : Int) (a0_7 : Int) (l1 : List (S77)) : Option (Bool) := (laws_szMachine.f a0_0 a0_1 l0_2 a0_3 a0_4 a0_5 a0_6 a0_7 1048576).bind fun t729 => (if t729 < 0 then (some true) else ((laws_szLogEntryS.f l1 t729).bind fun t730 => (if t730 < 0 then (some true) else ((laws_toMachine.f k a0_0 a0_1 l0_2 a0_3 a0_4 a0_5 a0_6 a0_7).bind fun bt731 => ((laws_toLogEntryS.f k l1).bind fun t741 => ((spec_ExplainsLog.f k bt731.1 bt731.2.1 bt731.2.2.1 bt731.2.2.2.1 bt731.2.2.2.2.1 bt731.2.2.2.2.2.1 bt731.2.2.2.2.2.2.1 bt731.2.2.2.2.2.2.2 t741).bind fun bt744 => ((laws_toMachine.f k a0_0 a0_1 l0_2 a0_3 a0_4 a0_5 a0_6 a0_7).bind fun bt746 => ((laws_toLogEntryS.f k l1).bind fun t757 => ((impl_ExplainsLog.f k bt746.1 bt746.2.1 bt746.2.2.1 bt746.2.2.2.1 bt746.2.2.2.2.1 bt746.2.2.2.2.2.1 bt746.2.2.2.2.2.2.1 bt746.2.2.2.2.2.2.2 t757).bind fun bt760 => (if (bt760.1 != bt744.1) = true then (laws_FnExactExplainsLog.j0 k l1 t757 true a0_0 a0_1 l0_2 a0_3 a0_4 a0_5 a0_6 a0_7 bt746.1 bt746.2.1 bt746.2.2.1 bt746.2.2.2.1 bt746.2.2.2.2.1 bt746.2.2.2.2.2.1 bt746.2.2.2.2.2.2.1 bt746.2.2.2.2.2.2.2) else (laws_FnExactExplainsLog.j0 k l1 t757 (bt760.2 != bt744.2) a0_0 a0_1 l0_2 a0_3 a0_4 a0_5 a0_6 a0_7 bt746.1 bt746.2.1 bt746.2.2.1 bt746.2.2.2.1 bt746.2.2.2.2.1 bt746.2.2.2.2.2.1 bt746.2.2.2.2.2.2.1 bt746.2.2.2.2.2.2.2)))))))))))
theorem laws_FnExactExplainsLog.mono_l : ∀ k, (∀ y0 y1 y2 y3 y4 y5 y6 y7 y8 y9 y10 y11 y12 y13 y14 y15 y16 y17 y18, LeO (laws_FnExactExplainsLog.j0 k y0 y1 y2 y3 y4 y5 y6 y7 y8 y9 y10 y11 y12 y13 y14 y15 y16 y17 y18) (laws_FnExactExplainsLog.j0 (k + 1) y0 y1 y2 y3 y4 y5 y6 y7 y8 y9 y10 y11 y12 y13 y14 y15 y16 y17 y18))
 | 0 => fun _ _ _ _ _ _ _ _ _ _ _ _ _ _ _ _ _ _ _ r h => by simp [laws_FnExactExplainsLog.j0] at h
 | k + 1 => by
  have ih0 := laws_FnExactExplainsLog.mono_l k
  intros
  first | unfold laws_FnExactExplainsLog.j0
  exact LM7 ih0 impl_ExplainsLog.mono laws_eqLogEntryS.mono laws_eqMachine.mono laws_toLogEntryS.mono laws_toMachine.mono spec_ExplainsLog.mono
theorem laws_FnExactExplainsLog.mono : ∀ a0 a1 a2 a3 a4 a5 a6 a7 a8 k, LeO (laws_FnExactExplainsLog.f k a0 a1 a2 a3 a4 a5 a6 a7 a8) (laws_FnExactExplainsLog.f (k + 1) a0 a1 a2 a3 a4 a5 a6 a7 a8) := by
 intro a0 a1 a2 a3 a4 a5 a6 a7 a8 k
 have ih0 := laws_FnExactExplainsLog.mono_l k
 unfold laws_FnExactExplainsLog.f
 exact LM7 ih0 impl_ExplainsLog.mono laws_eqLogEntryS.mono laws_eqMachine.mono laws_toLogEntryS.mono laws_toMachine.mono spec_ExplainsLog.mono
theorem laws_FnExactExplainsLog.calls (k : Nat) (a0_0 : Int) (a0_1 : Int) (A0_2 : Option Addr) (c0_2 : Nat) (l0_2 : List (S100)) (a0_3 : Int) (a0_4 : Int) (a0_5 : Int) (a0_6 : Int) (a0_7 : Int) (A1 : Option Addr) (c1 : Nat) (l1 : List (S77)) (w : World) (hr0_2 : Kd.C k100 w A0_2 l0_2.length l0_2) (hc0_2 : l0_2.length <= c0_2) (hr1 : Kd.C k77 w A1 l1.length l1) (hc1 : l1.length <= c1) (h : laws_FnExactExplainsLog.f k a0_0 a0_1 l0_2 a0_3 a0_4 a0_5 a0_6 a0_7 l1 = some true) :
 Calls Try.prog 5 #[.agg #[.int .i64 a0_0, .int .i64 a0_1, .slice A0_2 l0_2.length c0_2, .int .i64 a0_3, .int .i64 a0_4, .int .i64 a0_5, .int .i64 a0_6, .int .i64 a0_7], .slice A1 l1.length c1] w fun e w' => e = .returned (.bool true) /\ Below w.heap.size w w' := by
 have hu26 := Try.underlying26
 have hu35 := Try.underlying35
 have HR0_2 := Aside0.mk hr0_2
 have HC0_2 := Aside0.mk hc0_2
 clear hr0_2 hc0_2
 have HR1 := Aside0.mk hr1
 have HC1 := Aside0.mk hc1
 clear hr1 hc1
 have HB := Aside0.mk (Below.refl w.heap.size w)
 have H := h
 clear h
 unfold laws_FnExactExplainsLog.f at H
 replace H := bindA H; obtain ⟨t729, A3, H⟩ := H
 replace H := ifB H; rcases H with ⟨c4b0, H⟩ | ⟨c4b0, H⟩
 · first | (obtain rfl := Option.some.inj H) | clear H
   go_enter Try.func5, Try.ntmps5
   go_wp2_with (first | ((with_reducible refine gate_dst (N := 2) rfl ?_); refine boxE (cs := #[.int .i64 a0_0, .int .i64 a0_1, .slice A0_2 l0_2.length c0_2, .int .i64 a0_3, .int .i64 a0_4, .int .i64 a0_5, .int .i64 a0_6, .int .i64 a0_7]) (t := 26) ?_; intro gb728 hg w5 hbox hb; refine E4b HB.1 hg hbox hb ?_; clear HB; intro HB BK728 GW728 GE728; clear hb hbox hg; obtain ⟨hcz6_0, hcz6_1, hcz6_2, hcz6_3, hcz6_4, hcz6_5, hcz6_6, hcz6_7, hfz6_0, hfz6_1, hfz6_2, hfz6_3, hfz6_4, hfz6_5, hfz6_6, hfz6_7⟩ := cz8 BK728.1) | ((with_reducible refine gate_callee (f := 7) rfl ?_); refine goesM (N := (some 14)) #[.agg #[.int .i64 a0_0, .int .i64 a0_1, .slice A0_2 l0_2.length c0_2, .int .i64 a0_3, .int .i64 a0_4, .int .i64 a0_5, .int .i64 a0_6, .int .i64 a0_7], .int .i64 1048576] Try.func7 ?_; (with_reducible refine (laws_szMachine.calls a0_0 a0_1 _ _ l0_2 a0_3 a0_4 a0_5 a0_6 a0_7 1048576 t729 _ ?side1 ?side2 A3.1).mono ?_); (case side1 => exact CB (C_below HR0_2.1 HB.1)); (case side2 => exact HC0_2.1); rintro e w7 ⟨rfl, hb⟩; refine ⟨_, rfl, ?_⟩; refine E2 (bB BK728.1 hb) (bS HB.1 hb) ?_; clear BK728 HB; intro BK728 HB; (try clear hb)))
   go_ret
   exact ⟨RF, BL HB.1⟩
 replace H := bindA H; obtain ⟨t730, A8, H⟩ := H
 replace H := ifB H; rcases H with ⟨c9b0, H⟩ | ⟨c9b0, H⟩
 · first | (obtain rfl := Option.some.inj H) | clear H
   go_enter Try.func5, Try.ntmps5
   go_wp2_with (first | ((with_reducible refine gate_dst (N := 2) rfl ?_); refine boxE (cs := #[.int .i64 a0_0, .int .i64 a0_1, .slice A0_2 l0_2.length c0_2, .int .i64 a0_3, .int .i64 a0_4, .int .i64 a0_5, .int .i64 a0_6, .int .i64 a0_7]) (t := 26) ?_; intro gb728 hg w10 hbox hb; refine E4b HB.1 hg hbox hb ?_; clear HB; intro HB BK728 GW728 GE728; clear hb hbox hg; obtain ⟨hcz11_0, hcz11_1, hcz11_2, hcz11_3, hcz11_4, hcz11_5, hcz11_6, hcz11_7, hfz11_0, hfz11_1, hfz11_2, hfz11_3, hfz11_4, hfz11_5, hfz11_6, hfz11_7⟩ := cz8 BK728.1) | ((with_reducible refine gate_callee (f := 7) rfl ?_); refine goesM (N := (some 14)) #[.agg #[.int .i64 a0_0, .int .i64 a0_1, .slice A0_2 l0_2.length c0_2, .int .i64 a0_3, .int .i64 a0_4, .int .i64 a0_5, .int .i64 a0_6, .int .i64 a0_7], .int .i64 1048576] Try.func7 ?_; (with_reducible refine (laws_szMachine.calls a0_0 a0_1 _ _ l0_2 a0_3 a0_4 a0_5 a0_6 a0_7 1048576 t729 _ ?side1 ?side2 A3.1).mono ?_); (case side1 => exact CB (C_below HR0_2.1 HB.1)); (case side2 => exact HC0_2.1); rintro e w12 ⟨rfl, hb⟩; refine ⟨_, rfl, ?_⟩; refine E2 (bB BK728.1 hb) (bS HB.1 hb) ?_; clear BK728 HB; intro BK728 HB; (try clear hb)) | ((with_reducible refine gate_callee (f := 21) rfl ?_); refine goesM (N := (some 19)) #[.slice A1 l1.length c1, .int .i64 t729] Try.func21 ?_; (with_reducible refine (laws_szLogEntryS.calls _ _ l1 t729 t730 _ ?side1 ?side2 A8.1).mono ?_); (case side1 => exact CB (C_below HR1.1 HB.1)); (case side2 => exact HC1.1); rintro e w' ⟨rfl, ⟨nd, rfl⟩⟩; refine ⟨_, rfl, ?_⟩))
   go_ret
   exact ⟨RF, BL HB.1⟩
 replace H := bindA H; obtain ⟨⟨t731, t732, t733, t736, t737, t738, t739, t740⟩, A13, H⟩ := H
 dsimp only at H
 replace H := bindA H; obtain ⟨t741, A14, H⟩ := H
 replace H := bindA H; obtain ⟨⟨t744, t745⟩, A15, H⟩ := H
 dsimp only at H
 replace H := bindA H; obtain ⟨⟨t746, t747, t748, t751, t752, t753, t754, t755⟩, A16, H⟩ := H
 dsimp only at H
 replace H := bindA H; obtain ⟨t757, A17, H⟩ := H
 replace H := bindA H; obtain ⟨⟨t760, t761⟩, A18, H⟩ := H
 dsimp only at H
 have HC19 := Aside0.mk H
 clear H
 go_enter Try.func5, Try.ntmps5
 go_upto_region 12 with (first | ((with_reducible refine gate_dst (N := 2) rfl ?_); refine boxE (cs := #[.int .i64 a0_0, .int .i64 a0_1, .slice A0_2 l0_2.length c0_2, .int .i64 a0_3, .int .i64 a0_4, .int .i64 a0_5, .int .i64 a0_6, .int .i64 a0_7]) (t := 26) ?_; intro gb728 hg w20 hbox hb; refine E4b HB.1 hg hbox hb ?_; clear HB; intro HB BK728 GW728 GE728; clear hb hbox hg; obtain ⟨hcz21_0, hcz21_1, hcz21_2, hcz21_3, hcz21_4, hcz21_5, hcz21_6, hcz21_7, hfz21_0, hfz21_1, hfz21_2, hfz21_3, hfz21_4, hfz21_5, hfz21_6, hfz21_7⟩ := cz8 BK728.1) | ((with_reducible refine gate_callee (f := 7) rfl ?_); refine goesM (N := (some 14)) #[.agg #[.int .i64 a0_0, .int .i64 a0_1, .slice A0_2 l0_2.length c0_2, .int .i64 a0_3, .int .i64 a0_4, .int .i64 a0_5, .int .i64 a0_6, .int .i64 a0_7], .int .i64 1048576] Try.func7 ?_; (with_reducible refine (laws_szMachine.calls a0_0 a0_1 _ _ l0_2 a0_3 a0_4 a0_5 a0_6 a0_7 1048576 t729 _ ?side1 ?side2 A3.1).mono ?_); (case side1 => exact CB (C_below HR0_2.1 HB.1)); (case side2 => exact HC0_2.1); rintro e w22 ⟨rfl, hb⟩; refine ⟨_, rfl, ?_⟩; refine E2 (bB BK728.1 hb) (bS HB.1 hb) ?_; clear BK728 HB; intro BK728 HB; (try clear hb)) | ((with_reducible refine gate_callee (f := 21) rfl ?_); refine goesM (N := (some 19)) #[.slice A1 l1.length c1, .int .i64 t729] Try.func21 ?_; (with_reducible refine (laws_szLogEntryS.calls _ _ l1 t729 t730 _ ?side1 ?side2 A8.1).mono ?_); (case side1 => exact CB (C_below HR1.1 HB.1)); (case side2 => exact HC1.1); rintro e w' ⟨rfl, ⟨nd, rfl⟩⟩; refine ⟨_, rfl, ?_⟩; (try (rw [drewN_self w22]; generalize hq_ : World.drewN w22 _ = w22; have n0_ : Aside0 (w22.heap[gb728]? = some (.cells #[.int .i64 a0_0, .int .i64 a0_1, .slice A0_2 l0_2.length c0_2, .int .i64 a0_3, .int .i64 a0_4, .int .i64 a0_5, .int .i64 a0_6, .int .i64 a0_7] 26 (0, 0))) := ⟨by rw [<- hq_]; exact (PB BK728.1)⟩; have n1_ : Aside0 (Below w.heap.size w w22) := ⟨by rw [<- hq_]; exact (BL HB.1)⟩; clear BK728 HB hq_; have BK728 := n0_; have HB := n1_; clear n0_ n1_)); obtain ⟨hcz23_0, hcz23_1, hcz23_2, hcz23_3, hcz23_4, hcz23_5, hcz23_6, hcz23_7, hfz23_0, hfz23_1, hfz23_2, hfz23_3, hfz23_4, hfz23_5, hfz23_6, hfz23_7⟩ := cz8 BK728.1) | ((with_reducible refine gate_callee (f := 9) rfl ?_); refine goesM (N := (some 24)) #[.agg #[.int .i64 a0_0, .int .i64 a0_1, .slice A0_2 l0_2.length c0_2, .int .i64 a0_3, .int .i64 a0_4, .int .i64 a0_5, .int .i64 a0_6, .int .i64 a0_7]] Try.func9 ?_; (with_reducible refine (laws_toMachine.calls k a0_0 a0_1 _ _ l0_2 a0_3 a0_4 a0_5 a0_6 a0_7 t731 t732 t733 t736 t737 t738 t739 t740 _ ?side1 ?side2 A13.1).mono ?_); (case side1 => exact CB (C_below HR0_2.1 HB.1)); (case side2 => exact HC0_2.1); rintro e w24 ⟨v734, rfl, ho0, hb⟩; refine ⟨_, rfl, ?_⟩; refine E3 (R_lower ho0 (bZ HB.1)) (bB BK728.1 hb) (bS HB.1 hb) ?_; clear BK728 HB; intro HO735 BK728 HB; (try clear hb); (try clear ho0)) | ((with_reducible refine gate_callee (f := 23) rfl ?_); refine goesM (N := (some 26)) #[.slice A1 l1.length c1] Try.func23 ?_; (with_reducible refine (laws_toLogEntryS.calls k _ _ l1 t741 _ ?side1 ?side2 A14.1).mono ?_); (case side1 => exact CB (C_below HR1.1 HB.1)); (case side2 => exact HC1.1); rintro e w25 ⟨v742, rfl, ho0, hb⟩; refine ⟨_, rfl, ?_⟩; refine E4 (rB HO735.1 hb) (R_lower ho0 (bZ HB.1)) (bB BK728.1 hb) (bS HB.1 hb) ?_; clear HO735 BK728 HB; intro HO735 HO743 BK728 HB; (try clear hb); (try clear ho0); obtain ⟨Ao26, co26, eo26⟩ := R_slice HO735.1; subst eo26; obtain ⟨Ao27, co27, eo27⟩ := R_slice HO743.1; subst eo27) | ((with_reducible refine gate_callee (f := 22) rfl ?_); refine goesM (N := (some 27)) #[.agg #[.int .i64 t731, .int .i64 t732, .slice Ao26 t733.length co26, .int .i64 t736, .int .i64 t737, .int .i64 t738, .int .i64 t739, .int .i64 t740], .slice Ao27 t741.length co27] Try.func22 ?_; (with_reducible refine (spec_ExplainsLog.calls k t731 t732 _ _ t733 t736 t737 t738 t739 t740 _ _ t741 t744 t745 _ ?side1 ?side2 ?side3 ?side4 A15.1).mono ?_); (case side1 => exact CB (R_reads' HO735.1).2.2); (case side2 => exact (R_reads' HO735.1).2.1); (case side3 => exact CB (R_reads' HO743.1).2.2); (case side4 => exact (R_reads' HO743.1).2.1); rintro e w28 ⟨rfl, hb⟩; refine ⟨_, rfl, ?_⟩; refine E4 (rB HO735.1 hb) (rB HO743.1 hb) (bB BK728.1 hb) (bS HB.1 hb) ?_; clear HO735 HO743 BK728 HB; intro HO735 HO743 BK728 HB; (try clear hb); obtain ⟨hcz29_0, hcz29_1, hcz29_2, hcz29_3, hcz29_4, hcz29_5, hcz29_6, hcz29_7, hfz29_0, hfz29_1, hfz29_2, hfz29_3, hfz29_4, hfz29_5, hfz29_6, hfz29_7⟩ := cz8 BK728.1) | ((with_reducible refine gate_callee (f := 9) rfl ?_); refine goesM (N := (some 31)) #[.agg #[.int .i64 a0_0, .int .i64 a0_1, .slice A0_2 l0_2.length c0_2, .int .i64 a0_3, .int .i64 a0_4, .int .i64 a0_5, .int .i64 a0_6, .int .i64 a0_7]] Try.func9 ?_; (with_reducible refine (laws_toMachine.calls k a0_0 a0_1 _ _ l0_2 a0_3 a0_4 a0_5 a0_6 a0_7 t746 t747 t748 t751 t752 t753 t754 t755 _ ?side1 ?side2 A16.1).mono ?_); (case side1 => exact CB (C_below HR0_2.1 HB.1)); (case side2 => exact HC0_2.1); rintro e w30 ⟨v749, rfl, ho0, hb⟩; refine ⟨_, rfl, ?_⟩; refine E5 (R_elder' (PR HO735.1) (R_base ho0) hb) (rB HO743.1 hb) (R_lower (R_new' ho0 (R_lt (PR HO735.1))) (bZ HB.1)) (bB BK728.1 hb) (bS HB.1 hb) ?_; clear HO735 HO743 BK728 HB; intro HO735 HO743 HO750 BK728 HB; (try clear hb); (try clear ho0)) | ((with_reducible refine gate_dst (N := 8) rfl ?_); refine boxE (cs := #[.int .i64 0, .int .i64 0, .slice none 0 0, .int .i64 0, .int .i64 0, .int .i64 0, .int .i64 0, .int .i64 0]) (t := 35) ?_; intro gb756 hg w31 hbox hb; refine E10 (rB HO735.1 hb) (rB HO743.1 hb) (rB HO750.1 hb) (bB BK728.1 hb) (bS HB.1 hb) (hbox) (gX HB.1 hg) (gX HB.1 hg) (nB BK728.1 hg) (nC BK728.1 hg) ?_; clear HO735 HO743 HO750 BK728 HB; intro HO735 HO743 HO750 BK728 HB BK756 GW756 GE756 NB728_756 NB756_728; clear hb hbox hg; have hnb32 := NB756_728.1; have hnc32 := NB728_756.1; obtain ⟨hcz33_0, hcz33_1, hcz33_2, hcz33_3, hcz33_4, hcz33_5, hcz33_6, hcz33_7, hfz33_0, hfz33_1, hfz33_2, hfz33_3, hfz33_4, hfz33_5, hfz33_6, hfz33_7⟩ := cz8 BK756.1; obtain ⟨Ao34, co34, eo34⟩ := R_slice HO750.1; subst eo34) | ((with_reducible refine gate_callee (f := 23) rfl ?_); refine goesM (N := (some 33)) #[.slice A1 l1.length c1] Try.func23 ?_; (with_reducible refine (laws_toLogEntryS.calls k _ _ l1 t757 _ ?side1 ?side2 A17.1).mono ?_); (case side1 => exact C_below HR1.1 (BL HB.1)); (case side2 => exact HC1.1); rintro e w35 ⟨v758, rfl, ho0, hb⟩; refine ⟨_, rfl, ?_⟩; refine E7 (R_below (by (with_reducible repeat (first | apply R_alloc | apply R_drewN | apply R_drew)); exact (R_mono (RQ gb756 7 (RQ gb756 6 (RQ gb756 5 (RQ gb756 4 (RQ gb756 3 (RQ gb756 2 (RQ gb756 1 (RQ gb756 0 (R_types HO735.1 BK756.1 (by decide)) _) _) _) _) _) _) _) _) (fun _ h_ => h_.1))) hb) (R_elder' (by (with_reducible repeat (first | apply R_alloc | apply R_drewN | apply R_drew)); exact (R_mono (RQ gb756 7 (RQ gb756 6 (RQ gb756 5 (RQ gb756 4 (RQ gb756 3 (RQ gb756 2 (RQ gb756 1 (RQ gb756 0 (R_types HO743.1 BK756.1 (by decide)) _) _) _) _) _) _) _) _) (fun _ h_ => h_.1))) (R_base ho0) hb) (R_below (by (with_reducible repeat (first | apply R_alloc | apply R_drewN | apply R_drew)); exact (R_mono (RQ gb756 7 (RQ gb756 6 (RQ gb756 5 (RQ gb756 4 (RQ gb756 3 (RQ gb756 2 (RQ gb756 1 (RQ gb756 0 (R_types HO750.1 BK756.1 (by decide)) _) _) _) _) _) _) _) _) (fun _ h_ => h_.1))) hb) (R_lower (R_new' ho0 (R_lt (by (with_reducible repeat (first | apply R_alloc | apply R_drewN | apply R_drew)); exact (R_mono (RQ gb756 7 (RQ gb756 6 (RQ gb756 5 (RQ gb756 4 (RQ gb756 3 (RQ gb756 2 (RQ gb756 1 (RQ gb756 0 (R_types HO743.1 BK756.1 (by decide)) _) _) _) _) _) _) _) _) (fun _ h_ => h_.1))))) (bZ HB.1)) (blk_below (g := gb728) (o := .cells #[.int .i64 a0_0, .int .i64 a0_1, .slice A0_2 l0_2.length c0_2, .int .i64 a0_3, .int .i64 a0_4, .int .i64 a0_5, .int .i64 a0_6, .int .i64 a0_7] 26 (0, 0)) (PF1 NB728_756.1 BK728.1) hb) (blk_below (g := gb756) (o := .cells #[.int .i64 t746, .int .i64 t747, .slice Ao34 t748.length co34, .int .i64 t751, .int .i64 t752, .int .i64 t753, .int .i64 t754, .int .i64 t755] 35 (0, 0)) (PF0 BK756.1) hb) (bS HB.1 hb) ?_; clear HO735 HO743 HO750 BK728 BK756 HB; intro HO735 HO743 HO750 HO759 BK728 BK756 HB; (try clear hb); (try clear ho0); obtain ⟨hcz36_0, hcz36_1, hcz36_2, hcz36_3, hcz36_4, hcz36_5, hcz36_6, hcz36_7, hfz36_0, hfz36_1, hfz36_2, hfz36_3, hfz36_4, hfz36_5, hfz36_6, hfz36_7⟩ := cz8 BK756.1; obtain ⟨Ao37, co37, eo37⟩ := R_slice HO759.1; subst eo37) | ((with_reducible refine gate_callee (f := 24) rfl ?_); refine goesM (N := (some 37)) #[.agg #[.int .i64 t746, .int .i64 t747, .slice Ao34 t748.length co34, .int .i64 t751, .int .i64 t752, .int .i64 t753, .int .i64 t754, .int .i64 t755], .slice Ao37 t757.length co37] Try.func24 ?_; (with_reducible refine (impl_ExplainsLog.calls k t746 t747 _ _ t748 t751 t752 t753 t754 t755 _ _ t757 t760 t761 _ ?side1 ?side2 ?side3 ?side4 A18.1).mono ?_); (case side1 => exact CB (R_reads' HO750.1).2.2); (case side2 => exact (R_reads' HO750.1).2.1); (case side3 => exact CB (R_reads' HO759.1).2.2); (case side4 => exact (R_reads' HO759.1).2.1); rintro e w38 ⟨rfl, hb⟩; refine ⟨_, rfl, ?_⟩; refine E7 (rB HO735.1 hb) (rB HO743.1 hb) (rB HO750.1 hb) (rB HO759.1 hb) (bB BK728.1 hb) (bB BK756.1 hb) (bS HB.1 hb) ?_; clear HO735 HO743 HO750 HO759 BK728 BK756 HB; intro HO735 HO743 HO750 HO759 BK728 BK756 HB; (try clear hb)))
 (try simp only [Act.put, List.setIfInBounds_toArray, List.set_cons_zero, List.set_cons_succ])
 go_cut [47] (fun v47 wc => ∃ (kq : Nat) (x47_18 : Bool), v47 = .bool x47_18 /\ Aside0 (laws_FnExactExplainsLog.j0 kq l1 t757 x47_18 a0_0 a0_1 l0_2 a0_3 a0_4 a0_5 a0_6 a0_7 t746 t747 t748 t751 t752 t753 t754 t755 = some true) /\ Aside0 (kq <= k) /\ Aside0 (Kd.R k66 66 wc w.heap.size (fun _ => True) (.slice Ao37 t757.length co37) t757) /\ Aside0 (Kd.R k98 98 wc w.heap.size (fun _ => True) (.slice Ao34 t748.length co34) t748) /\ Aside0 (wc.heap[gb728]? = some (.cells #[.int .i64 a0_0, .int .i64 a0_1, (.slice A0_2 l0_2.length c0_2), .int .i64 a0_3, .int .i64 a0_4, .int .i64 a0_5, .int .i64 a0_6, .int .i64 a0_7] 26 (0, 0))) /\ Aside0 (wc.heap[gb756]? = some (.cells #[.int .i64 t746, .int .i64 t747, (.slice Ao34 t748.length co34), .int .i64 t751, .int .i64 t752, .int .i64 t753, .int .i64 t754, .int .i64 t755] 35 (0, 0))) /\ Aside0 (Below w.heap.size w wc))
 case first =>
  have H := HC19.1
  clear HC19
  replace H := ifQ H; rcases H with ⟨c39, H⟩ | ⟨c39, H⟩
  · exact absurd H (by cases k <;> simp [laws_FnExactExplainsLog.j0])
  have c39b0 : (t760 != t744) = false := by simpa using c39
  (try (have c39b1 : decide (t760 = t744) = true := by simpa using c39))
  (try (have c39b2 : (t760 == t744) = true := by simpa using c39))
  clear c39
  (first | rw [c39b0] | (simp only [i64_w, i32_w]; rw [c39b0]) | skip)
  have H' := Aside0.mk H
  clear H
  go_wp2
  go_meet
  case rel => exact ⟨_, ((t761 != t745)), RG, H', ⟨by first | omega | exact Nat.le_refl _⟩, ⟨RPE (R_mono HO759.1 (fun _ hk => trivial))⟩, ⟨RPE (R_mono HO750.1 (fun _ hk => trivial))⟩, ⟨PB BK728.1⟩, ⟨PB BK756.1⟩, ⟨BL HB.1⟩⟩
 clear HC19
 try clear c1; clear c4b0 c9b0 hcz21_0 hcz21_1 hcz21_2 hcz21_3 hcz21_4 hcz21_5 hcz21_6 hcz21_7 hcz23_0 hcz23_1 hcz23_2 hcz23_3 hcz23_4 hcz23_5 hcz23_6 hcz23_7 hcz29_0 hcz29_1 hcz29_2 hcz29_3 hcz29_4 hcz29_5 hcz29_6 hcz29_7 hcz33_0 hcz33_1 hcz33_2 hcz33_3 hcz33_4 hcz33_5 hcz33_6 hcz33_7 hcz36_0 hcz36_1 hcz36_2 hcz36_3 hcz36_4 hcz36_5 hcz36_6 hcz36_7 hfz21_0 hfz21_1 hfz21_2 hfz21_3 hfz21_4 hfz21_5 hfz21_6 hfz21_7 hfz23_0 hfz23_1 hfz23_2 hfz23_3 hfz23_4 hfz23_5 hfz23_6 hfz23_7 hfz29_0 hfz29_1 hfz29_2 hfz29_3 hfz29_4 hfz29_5 hfz29_6 hfz29_7 hfz33_0 hfz33_1 hfz33_2 hfz33_3 hfz33_4 hfz33_5 hfz33_6 hfz33_7 hfz36_0 hfz36_1 hfz36_2 hfz36_3 hfz36_4 hfz36_5 hfz36_6 hfz36_7
 obtain ⟨kq, x47_18, rfl, HA, HJ18, HO_9, HO_757002, BK728, BK756, HB⟩ := hcut
 cases kq with
 | zero => exact absurd HA.1 (by simp [laws_FnExactExplainsLog.j0])
 | succ kj18 => ?_
 have H := HA.1
 clear HA
 simp only [laws_FnExactExplainsLog.j0] at H
 replace H := ifF H (by simp); obtain ⟨rfl, H⟩ := H
 replace H := bindA H; obtain ⟨⟨t762, t763, t764, t767, t768, t769, t770, t771⟩, A41, H⟩ := H
 dsimp only at H
 replace H := bindA H; obtain ⟨t772, A42, H⟩ := H
 replace H := ifT H (by simp); obtain ⟨rfl, H⟩ := H
 replace H := bindA H; obtain ⟨t773, A44, H⟩ := H
 replace H := bindA H; obtain ⟨t776, A45, H⟩ := H
 replace H := ifT H (by simp); obtain ⟨rfl, H⟩ := H
 first | (obtain rfl := Option.some.inj H) | clear H
 try go_wp2
 refine E5 (R_drew HO_9.1) (R_drew HO_757002.1) (blk_drew BK728.1) (blk_drew BK756.1) (below_drew1 HB.1) ?_
 clear HO_9 HO_757002 BK728 BK756 HB
 intro HO_9 HO_757002 BK728 BK756 HB
 refine start_ (n := 5) (S := fun w' => w'.cell? ⟨gb756, 0, none⟩ = some (.int .i64 t746) /\ w'.cell? ⟨gb756, 1, none⟩ = some (.int .i64 t747) /\ w'.cell? ⟨gb756, 2, none⟩ = some (.slice Ao34 t748.length co34) /\ w'.cell? ⟨gb756, 3, none⟩ = some (.int .i64 t751) /\ w'.cell? ⟨gb756, 4, none⟩ = some (.int .i64 t752) /\ w'.cell? ⟨gb756, 5, none⟩ = some (.int .i64 t753) /\ w'.cell? ⟨gb756, 6, none⟩ = some (.int .i64 t754) /\ w'.cell? ⟨gb756, 7, none⟩ = some (.int .i64 t755) /\ w'.cell? ⟨gb728, 0, none⟩ = some (.int .i64 a0_0) /\ w'.cell? ⟨gb728, 1, none⟩ = some (.int .i64 a0_1) /\ w'.cell? ⟨gb728, 2, none⟩ = some (.slice A0_2 l0_2.length c0_2) /\ w'.cell? ⟨gb728, 3, none⟩ = some (.int .i64 a0_3) /\ w'.cell? ⟨gb728, 4, none⟩ = some (.int .i64 a0_4) /\ w'.cell? ⟨gb728, 5, none⟩ = some (.int .i64 a0_5) /\ w'.cell? ⟨gb728, 6, none⟩ = some (.int .i64 a0_6) /\ w'.cell? ⟨gb728, 7, none⟩ = some (.int .i64 a0_7)) (ds := []) #[Zz,Zz,Zz,Zz,Zz] (by kernel_rfl) rfl rfl ⟨(blk_cell BK756.1 0).trans rfl, (blk_cell BK756.1 1).trans rfl, (blk_cell BK756.1 2).trans rfl, (blk_cell BK756.1 3).trans rfl, (blk_cell BK756.1 4).trans rfl, (blk_cell BK756.1 5).trans rfl, (blk_cell BK756.1 6).trans rfl, (blk_cell BK756.1 7).trans rfl, (blk_cell BK728.1 0).trans rfl, (blk_cell BK728.1 1).trans rfl, (blk_cell BK728.1 2).trans rfl, (blk_cell BK728.1 3).trans rfl, (blk_cell BK728.1 4).trans rfl, (blk_cell BK728.1 5).trans rfl, (blk_cell BK728.1 6).trans rfl, (blk_cell BK728.1 7).trans rfl⟩ (fun hHeld => ?_)
 generalize wc.drew = w47 at HO_9 HO_757002 BK728 BK756 HB hHeld ⊢
 refine takeF 0 (N := some 48) hHeld ?_
 refine takeF 1 (N := some 49) hHeld ?_
 refine one_ (i := 2) (N := some 50) #[Yy,Yy,Yy,Zz,Zz] rfl rfl (by kernel_rfl) (by decide) (fun K hK => ?_)
 refine goes_ Try.func9 (by kernel_rfl) rfl #[.agg #[.int .i64 a0_0, .int .i64 a0_1, .slice A0_2 l0_2.length c0_2, .int .i64 a0_3, .int .i64 a0_4, .int .i64 a0_5, .int .i64 a0_6, .int .i64 a0_7]] (by rfl) rfl rfl (by (try simp only [List.map_toArray, List.map_cons, List.map_nil]); first | done | rfl | (simp only [List.length_drop, List.length_take]; rfl)) ?_
 with_reducible refine (laws_toMachine.calls kj18 a0_0 a0_1 _ _ l0_2 a0_3 a0_4 a0_5 a0_6 a0_7 t762 t763 t764 t767 t768 t769 t770 t771 _ ?side1 ?side2 A41.1).mono ?_
 (case side1 => exact CB (C_below HR0_2.1 HB.1))
 (case side2 => exact HC0_2.1)
 rintro e w48 ⟨v765, rfl, ho0, hb⟩
 refine ⟨_, rfl, ?_⟩
 refine E6 (rB HO_9.1 hb) (R_elder' (PR HO_757002.1) (R_base ho0) hb) (R_lower (R_new' ho0 (R_lt (PR HO_757002.1))) (bZ HB.1)) (bB BK728.1 hb) (bB BK756.1 hb) (bS HB.1 hb) ?_
 clear HO_9 HO_757002 BK728 BK756 HB
 intro HO_9 HO_757002 HO766 BK728 BK756 HB
 (try clear hb)
 (try clear hb2)
 (try clear hk)
 (try clear hi)
 (try clear ho0)
 obtain ⟨Ao49, co49, eo49⟩ := R_slice HO766.1
 (first | subst eo49 | (injection eo49 with f1_ f2_ f3_; have f4_ := f1_.symm; have f5_ := f3_.symm; clear f1_ f2_ f3_; subst f4_; subst f5_))
 refine hK.out _ _ ⟨(blk_cell BK756.1 0).trans rfl, (blk_cell BK756.1 1).trans rfl, (blk_cell BK756.1 2).trans rfl, (blk_cell BK756.1 3).trans rfl, (blk_cell BK756.1 4).trans rfl, (blk_cell BK756.1 5).trans rfl, (blk_cell BK756.1 6).trans rfl, (blk_cell BK756.1 7).trans rfl, (blk_cell BK728.1 0).trans rfl, (blk_cell BK728.1 1).trans rfl, (blk_cell BK728.1 2).trans rfl, (blk_cell BK728.1 3).trans rfl, (blk_cell BK728.1 4).trans rfl, (blk_cell BK728.1 5).trans rfl, (blk_cell BK728.1 6).trans rfl, (blk_cell BK728.1 7).trans rfl⟩ (fun hHeld => ?_)
 clear hK K
 refine norm_ (a' := ?_) ?_ ?_
 rotate_left
 · show Act.put _ (some 50) _ = _
   simp only [Act.put, List.setIfInBounds_toArray, List.set_cons_zero, List.set_cons_succ, i64_w, i32_w]
   rfl
 refine one_ (i := 3) (N := some 51) #[Yy,Yy,Yy,Yy,Zz] rfl rfl (by kernel_rfl) (by decide) (fun K hK => ?_)
 refine goes_ Try.func12 (by kernel_rfl) rfl #[.agg #[.int .i64 t746, .int .i64 t747, .slice Ao34 t748.length co34, .int .i64 t751, .int .i64 t752, .int .i64 t753, .int .i64 t754, .int .i64 t755], .agg #[.int .i64 t762, .int .i64 t763, .slice Ao49 t764.length co49, .int .i64 t767, .int .i64 t768, .int .i64 t769, .int .i64 t770, .int .i64 t771]] (by rfl) rfl rfl (by (try simp only [List.map_toArray, List.map_cons, List.map_nil]); first | done | rfl | (simp only [List.length_drop, List.length_take]; rfl)) ?_
 with_reducible refine (laws_eqMachine.calls kj18 t746 t747 _ _ t748 t751 t752 t753 t754 t755 t762 t763 _ _ t764 t767 t768 t769 t770 t771 true _ ?side1 ?side2 ?side3 ?side4 A42.1).mono ?_
 (case side1 => exact CB (R_reads' HO_757002.1).2.2)
 (case side2 => exact (R_reads' HO_757002.1).2.1)
 (case side3 => exact CB (R_reads' HO766.1).2.2)
 (case side4 => exact (R_reads' HO766.1).2.1)
 rintro e w50 ⟨rfl, hb⟩
 refine ⟨_, rfl, ?_⟩
 refine E6 (rB HO_9.1 hb) (rB HO_757002.1 hb) (rB HO766.1 hb) (bB BK728.1 hb) (bB BK756.1 hb) (bS HB.1 hb) ?_
 clear HO_9 HO_757002 HO766 BK728 BK756 HB
 intro HO_9 HO_757002 HO766 BK728 BK756 HB
 (try clear hb)
 (try clear hb2)
 (try clear hk)
 (try clear hi)
 refine hK.out _ _ ⟨(blk_cell BK756.1 0).trans rfl, (blk_cell BK756.1 1).trans rfl, (blk_cell BK756.1 2).trans rfl, (blk_cell BK756.1 3).trans rfl, (blk_cell BK756.1 4).trans rfl, (blk_cell BK756.1 5).trans rfl, (blk_cell BK756.1 6).trans rfl, (blk_cell BK756.1 7).trans rfl, (blk_cell BK728.1 0).trans rfl, (blk_cell BK728.1 1).trans rfl, (blk_cell BK728.1 2).trans rfl, (blk_cell BK728.1 3).trans rfl, (blk_cell BK728.1 4).trans rfl, (blk_cell BK728.1 5).trans rfl, (blk_cell BK728.1 6).trans rfl, (blk_cell BK728.1 7).trans rfl⟩ (fun hHeld => ?_)
 clear hK K
 refine norm_ (a' := ?_) ?_ ?_
 rotate_left
 · show Act.put _ (some 51) _ = _
   simp only [Act.put, List.setIfInBounds_toArray, List.set_cons_zero, List.set_cons_succ, i64_w, i32_w]
   rfl
 refine pure_ (i := 4) (N := some 52) (v := ?_) (a' := ?_) #[Yy,Yy,Yy,Yy,Yy] rfl rfl (by kernel_rfl) (fun _ _ _ h => h) (Or.inl ⟨by rfl, ?_⟩) ?_ ?_
 rotate_left
 · intro w'
   go_simp
   with_reducible rfl
 rotate_left
 · simp only [Act.put, List.setIfInBounds_toArray, List.set_cons_zero, List.set_cons_succ, i64_w, i32_w]
   rfl
 refine done_ (by kernel_rfl) ?_
 try go_wp2_with (first | ((with_reducible refine gate_callee (f := 23) rfl ?_); refine goesM (N := (some 55)) #[.slice A1 l1.length c1] Try.func23 ?_; (with_reducible refine (laws_toLogEntryS.calls kj18 _ _ l1 t773 _ ?side1 ?side2 A44.1).mono ?_); (case side1 => exact CB (C_below HR1.1 HB.1)); (case side2 => exact HC1.1); rintro e w51 ⟨v774, rfl, ho0, hb⟩; refine ⟨_, rfl, ?_⟩; refine E7 (R_elder' (PR HO_9.1) (R_base ho0) hb) (rB HO_757002.1 hb) (rB HO766.1 hb) (R_lower (R_new' ho0 (R_lt (PR HO_9.1))) (bZ HB.1)) (bB BK728.1 hb) (bB BK756.1 hb) (bS HB.1 hb) ?_; clear HO_9 HO_757002 HO766 BK728 BK756 HB; intro HO_9 HO_757002 HO766 HO775 BK728 BK756 HB; (try clear hb); (try clear ho0); obtain ⟨Ao52, co52, eo52⟩ := R_slice HO775.1; subst eo52) | ((with_reducible refine gate_callee (f := 18) rfl ?_); refine goesM (N := (some 56)) #[.slice Ao37 t757.length co37, .slice Ao52 t773.length co52] Try.func18 ?_; (with_reducible refine (laws_eqLogEntryS.calls kj18 _ _ t757 _ _ t773 true _ ?side1 ?side2 ?side3 ?side4 A45.1).mono ?_); (case side1 => exact CB (R_reads' HO_9.1).2.2); (case side2 => exact (R_reads' HO_9.1).2.1); (case side3 => exact CB (R_reads' HO775.1).2.2); (case side4 => exact (R_reads' HO775.1).2.1); rintro e w53 ⟨rfl, hb⟩; refine ⟨_, rfl, ?_⟩; refine E7 (rB HO_9.1 hb) (rB HO_757002.1 hb) (rB HO766.1 hb) (rB HO775.1 hb) (bB BK728.1 hb) (bB BK756.1 hb) (bS HB.1 hb) ?_; clear HO_9 HO_757002 HO766 HO775 BK728 BK756 HB; intro HO_9 HO_757002 HO766 HO775 BK728 BK756 HB; (try clear hb)))
 go_ret
 exact ⟨RF, BL HB.1⟩
end Go.Proofs.Ythnehlphifegaaa.P
