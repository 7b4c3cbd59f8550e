-- PRINTED by print.py (a twelfth state) out of the translation. Not trusted: Lean checks it.
import Derived.Test.YthnehlphifegaaaPx0
import Derived.Test.YthnehlphifegaaaPx2
import Derived.Test.YthnehlphifegaaaPx6
import Derived.Test.YthnehlphifegaaaPx9
import Derived.Test.YthnehlphifegaaaPx10
import Derived.Test.YthnehlphifegaaaPx11
import Derived.Test.YthnehlphifegaaaPx12
import Derived.Test.YthnehlphifegaaaPx13
namespace Go.Proofs.Ythnehlphifegaaa.P
open Go.RowKit Go.Proofs.YthnehlphifegaaaW.PrintWords Go.Proofs.YthnehlphifegaaaW.PrintLast Go.Proofs.YthnehlphifegaaaW.PrintMore
attribute [local go_sem] max2_int min2_int max_two min_two max_three min_three max_four min_four   -- for this text's walks alone
set_option linter.unusedVariables false
set_option linter.unusedSimpArgs false
set_option maxHeartbeats 8000000
set_option maxRecDepth 100000

/-! ### spec_ReplayLog: function 25 -/
open Kd
def spec_ReplayLog.j0 : Nat -> List (S66) -> Bool -> Int -> Int -> List (S98) -> Int -> Int -> Int -> Int -> Int -> Option (Int × Int × (List (S98)) × Int × Int × Int × Int × Int × Bool)
 | 0, _, _, _, _, _, _, _, _, _, _ => none
 | k + 1, x1, zJ, nk, nu, ny, nz, nA, nD, nE, nG => if zJ = true then (some (0, 0, ([] : List (S98)), 0, 0, 0, 0, 0, false)) else ((spec_loOf.f k nk nu ny nz nA nD nE nG (x1.length : Int)).bind fun dU => ((spec_loAgree.f k dU.1 x1).bind fun nH => (if nH < (x1.length : Int) then (some (0, 0, ([] : List (S98)), 0, 0, 0, 0, 0, false)) else (some (dU.2.1, dU.2.2.1, dU.2.2.2.1, dU.2.2.2.2.1, dU.2.2.2.2.2.1, dU.2.2.2.2.2.2.1, dU.2.2.2.2.2.2.2.1, dU.2.2.2.2.2.2.2.2, true)))))
def spec_ReplayLog.f (k : Nat) (a0_0 : Int) (a0_1 : Int) (l0_2 : List (S98)) (a0_3 : Int) (a0_4 : Int) (a0_5 : Int) (a0_6 : Int) (a0_7 : Int) (l1 : List (S66)) : Option (Int × Int × (List (S98)) × Int × Int × Int × Int × Int × Bool) := (spec_maGood.f k a0_0 a0_1 l0_2 a0_3 a0_4 a0_5 a0_6 a0_7).bind fun uJ => (if uJ = true then ((spec_loGood.f k l1).bind fun nI => (spec_ReplayLog.j0 k l1 (!nI) a0_0 a0_1 l0_2 a0_3 a0_4 a0_5 a0_6 a0_7)) else (spec_ReplayLog.j0 k l1 true a0_0 a0_1 l0_2 a0_3 a0_4 a0_5 a0_6 a0_7))
theorem spec_ReplayLog.mono_l : ∀ k, (∀ y0 y1 y2 y3 y4 y5 y6 y7 y8 y9, LeO (spec_ReplayLog.j0 k y0 y1 y2 y3 y4 y5 y6 y7 y8 y9) (spec_ReplayLog.j0 (k + 1) y0 y1 y2 y3 y4 y5 y6 y7 y8 y9))
 | 0 => fun _ _ _ _ _ _ _ _ _ _ r h => by simp [spec_ReplayLog.j0] at h
 | k + 1 => by
  have jD := spec_ReplayLog.mono_l k
  intros
  first | unfold spec_ReplayLog.j0
  exact LM5 jD spec_loAgree.mono spec_loGood.mono spec_loOf.mono spec_maGood.mono
theorem spec_ReplayLog.mono : ∀ a0 a1 a2 a3 a4 a5 a6 a7 a8 k, LeO (spec_ReplayLog.f k a0 a1 a2 a3 a4 a5 a6 a7 a8) (spec_ReplayLog.f (k + 1) a0 a1 a2 a3 a4 a5 a6 a7 a8) := by
 intro a0 a1 a2 a3 a4 a5 a6 a7 a8 k
 have jD := spec_ReplayLog.mono_l k
 unfold spec_ReplayLog.f
 exact LM5 jD spec_loAgree.mono spec_loGood.mono spec_loOf.mono spec_maGood.mono
theorem spec_ReplayLog.calls (k : Nat) (a0_0 : Int) (a0_1 : Int) (A0_2 : Option Addr) (c0_2 : Nat) (l0_2 : List (S98)) (a0_3 : Int) (a0_4 : Int) (a0_5 : Int) (a0_6 : Int) (a0_7 : Int) (A1 : Option Addr) (c1 : Nat) (l1 : List (S66)) (r1 : Int) (r2 : Int) (r3 : List (S98)) (r4 : Int) (r5 : Int) (r6 : Int) (r7 : Int) (r8 : Int) (r9 : Bool) (w : World) (hr0_2 : Kd.C k98 w A0_2 l0_2.length l0_2) (hc0_2 : l0_2.length <= c0_2) (hr1 : Kd.C k66 w A1 l1.length l1) (hc1 : l1.length <= c1) (h : spec_ReplayLog.f k a0_0 a0_1 l0_2 a0_3 a0_4 a0_5 a0_6 a0_7 l1 = some (r1, r2, r3, r4, r5, r6, r7, r8, r9)) :
 Calls Try.prog 25 #[.agg #[.int .i64 a0_0, .int .i64 a0_1, .slice A0_2 l0_2.length c0_2, .int .i64 a0_3, .int .i64 a0_4, .int .i64 a0_5, .int .i64 a0_6, .int .i64 a0_7], .slice A1 l1.length c1] w fun e w' => ∃ uK : Value, e = .returned (.tuple #[.agg #[.int .i64 r1, .int .i64 r2, uK, .int .i64 r4, .int .i64 r5, .int .i64 r6, .int .i64 r7, .int .i64 r8], .bool r9]) /\ Kd.R k98 98 w' w.heap.size (fun _ => True) uK r3 /\ Below w.heap.size w w' := by
 have rX := Try.underlying35
 have aM := Aside0.mk hr0_2
 have aN := Aside0.mk hc0_2
 clear hr0_2 hc0_2
 have HR1 := Aside0.mk hr1
 have jI := Aside0.mk hc1
 clear hr1 hc1
 have HB := Aside0.mk (Below.refl w.heap.size w)
 have H := h
 clear h
 unfold spec_ReplayLog.f at H
 have rY := Aside0.mk H
 clear H
 go_enter Try.func25, Try.ntmps25
 go_upto_region 1 with (first | ((with_reducible refine gate_dst (N := 2) rfl ?_); refine boxE (cs := #[.int .i64 a0_0, .int .i64 a0_1, .slice A0_2 l0_2.length c0_2, .int .i64 a0_3, .int .i64 a0_4, .int .i64 a0_5, .int .i64 a0_6, .int .i64 a0_7]) (t := 35) ?_; intro uL hg w4 hbox hb; refine E4b HB.1 hg hbox hb ?_; clear HB; intro HB av Bf Bg; clear hb hbox hg) | ((with_reducible refine gate_dst (N := 4) rfl ?_); refine boxE (cs := #[.int .i64 0, .int .i64 0, .slice none 0 0, .int .i64 0, .int .i64 0, .int .i64 0, .int .i64 0, .int .i64 0]) (t := 35) ?_; intro jJ hg w5 hbox hb; refine E7 (bB av.1 hb) (bS HB.1 hb) (hbox) (gX HB.1 hg) (gX HB.1 hg) (nB av.1 hg) (nC av.1 hg) ?_; clear av HB; intro av HB az Bh Bi bE bF; clear hb hbox hg))
 (try simp only [Act.put, List.setIfInBounds_toArray, List.set_cons_zero, List.set_cons_succ])
 go_cut [15] (fun v15 wc => ∃ (kq : Nat) (eY : Bool), v15 = .bool eY /\ Aside0 (spec_ReplayLog.j0 kq l1 eY a0_0 a0_1 l0_2 a0_3 a0_4 a0_5 a0_6 a0_7 = some (r1, r2, r3, r4, r5, r6, r7, r8, r9)) /\ Aside0 (kq <= k) /\ Aside0 (wc.heap[uL]? = some (.cells #[.int .i64 a0_0, .int .i64 a0_1, (.slice A0_2 l0_2.length c0_2), .int .i64 a0_3, .int .i64 a0_4, .int .i64 a0_5, .int .i64 a0_6, .int .i64 a0_7] 35 (0, 0))) /\ Aside0 (wc.heap[jJ]? = some (.cells #[.int .i64 0, .int .i64 0, (.slice none 0 0), .int .i64 0, .int .i64 0, .int .i64 0, .int .i64 0, .int .i64 0] 35 (0, 0))) /\ Aside0 (Below w.heap.size w wc))
 case first =>
  have H := rY.1
  clear rY
  replace H := bindA H; obtain ⟨uJ, A6, H⟩ := H
  replace H := ifX H; rcases H with ⟨rfl, H⟩ | ⟨rfl, H⟩
  · replace H := bindA H; obtain ⟨nI, A8, H⟩ := H
    have H' := Aside0.mk H
    clear H
    have zK := bE.1
    have zL := bF.1
    obtain ⟨nJ, nK, nL, nM, nN, nO, nP, nQ, nR, nS, nT, nU, nV, nW, nX, nY⟩ := cz8 av.1
    go_wp2_with (first | ((with_reducible refine gate_callee (f := 29) rfl ?_); refine goesM (N := (some 9)) #[.agg #[.int .i64 a0_0, .int .i64 a0_1, .slice A0_2 l0_2.length c0_2, .int .i64 a0_3, .int .i64 a0_4, .int .i64 a0_5, .int .i64 a0_6, .int .i64 a0_7]] Try.func29 ?_; (with_reducible refine (spec_maGood.calls k a0_0 a0_1 _ _ l0_2 a0_3 a0_4 a0_5 a0_6 a0_7 true _ ?side1 ?side2 A6.1).mono ?_); (case side1 => exact CB (C_below aM.1 HB.1)); (case side2 => exact aN.1); rintro e Cj ⟨rfl, hb⟩; refine ⟨_, rfl, ?_⟩; refine E3 (bB av.1 hb) (bB az.1 hb) (bS HB.1 hb) ?_; clear av az HB; intro av az HB; (try clear hb)) | (go_at_call 38; (with_reducible refine (spec_loGood.calls k _ _ l1 nI _ ?side1 ?side2 A8.1).mono ?_); (case side1 => exact CB (C_below HR1.1 HB.1)); (case side2 => exact jI.1); rintro e Bj ⟨rfl, hb⟩; refine E3 (bB av.1 hb) (bB az.1 hb) (bS HB.1 hb) ?_; clear av az HB; intro av az HB; (try clear hb)))
    go_meet
    case rel => exact ⟨_, (!nI), RG, H', ⟨by first | omega | exact Nat.le_refl _⟩, ⟨PB av.1⟩, ⟨PB az.1⟩, ⟨BL HB.1⟩⟩
  have H' := Aside0.mk H
  clear H
  have uM := bE.1
  have uN := bF.1
  obtain ⟨nZ, og, oh, ol, om, oo, oq, ou, ow, oz, oC, oD, oF, oG, oH, oI⟩ := cz8 av.1
  go_wp2_with (first | ((with_reducible refine gate_callee (f := 29) rfl ?_); refine goesM (N := (some 9)) #[.agg #[.int .i64 a0_0, .int .i64 a0_1, .slice A0_2 l0_2.length c0_2, .int .i64 a0_3, .int .i64 a0_4, .int .i64 a0_5, .int .i64 a0_6, .int .i64 a0_7]] Try.func29 ?_; (with_reducible refine (spec_maGood.calls k a0_0 a0_1 _ _ l0_2 a0_3 a0_4 a0_5 a0_6 a0_7 false _ ?side1 ?side2 A6.1).mono ?_); (case side1 => exact CB (C_below aM.1 HB.1)); (case side2 => exact aN.1); rintro e Ck ⟨rfl, hb⟩; refine ⟨_, rfl, ?_⟩; refine E3 (bB av.1 hb) (bB az.1 hb) (bS HB.1 hb) ?_; clear av az HB; intro av az HB; (try clear hb)))
  go_meet
  case rel => exact ⟨_, (true), RG, H', ⟨by first | omega | exact Nat.le_refl _⟩, ⟨PB av.1⟩, ⟨PB az.1⟩, ⟨BL HB.1⟩⟩
 clear rY
 try clear c1
 obtain ⟨kq, eY, rfl, HA, HJ2, av, az, HB⟩ := hcut
 cases kq with
 | zero => exact absurd HA.1 (by simp [spec_ReplayLog.j0])
 | succ oJ => ?_
 have H := HA.1
 clear HA
 simp only [spec_ReplayLog.j0] at H
 replace H := ifX H; rcases H with ⟨rfl, H⟩ | ⟨rfl, H⟩
 · simp only [Option.some.injEq, Prod.mk.injEq] at H
   obtain ⟨rfl, rfl, rfl, rfl, rfl, rfl, rfl, rfl, rfl⟩ := H
   have uO := bF.1
   have uP := bE.1
   obtain ⟨oK, oL, oM, oN, oO, oP, oQ, oU, oV, oW, oZ, o5, o6, o7, o8, o9⟩ := cz8 az.1
   go_wp2
   refine bodyPost_ret (results_ct rfl _ _ jJ 35 #[.int .i64 0, .int .i64 0, .slice none 0 0, .int .i64 0, .int .i64 0, .int .i64 0, .int .i64 0, .int .i64 0] (0, 0) _ rfl (PF0 az.1) Try.underlying35 rfl (by kernel_rfl)) rfl ?_
   exact ⟨_, RF, by first | exact R_nil _ _ _ _ _ | exact N_nil _ _ _ _ _ | exact V_nil _ _ _ _ _ | exact Q_nil _ _ _ _ _ | exact S_nil _ _ _ _ _, BL HB.1⟩
 replace H := bindA H; obtain ⟨⟨jv, rZ, si, sj, su, sw, sD, sF, sG⟩, uQ, H⟩ := H
 dsimp only at H
 replace H := bindA H; obtain ⟨nH, uR, H⟩ := H
 replace H := ifB H; rcases H with ⟨c21b0, H⟩ | ⟨c21b0, H⟩
 · simp only [Option.some.injEq, Prod.mk.injEq] at H
   obtain ⟨rfl, rfl, rfl, rfl, rfl, rfl, rfl, rfl, rfl⟩ := H
   have uS := bE.1
   have uT := bF.1
   obtain ⟨fM, fO, fP, fQ, fT, fU, fV, fZ, gm, gp, gq, gu, gy, gz, gB, gD⟩ := cz8 av.1
   go_wp2_with (first | ((with_reducible refine gate_callee (f := 36) rfl ?_); refine goesM (N := (some 21)) #[.agg #[.int .i64 a0_0, .int .i64 a0_1, .slice A0_2 l0_2.length c0_2, .int .i64 a0_3, .int .i64 a0_4, .int .i64 a0_5, .int .i64 a0_6, .int .i64 a0_7], .int .i64 (l1.length : Int)] Try.func36 ?_; (with_reducible refine (spec_loOf.calls oJ a0_0 a0_1 _ _ l0_2 a0_3 a0_4 a0_5 a0_6 a0_7 (l1.length : Int) jv rZ si sj su sw sD sF sG _ ?side1 ?side2 uQ.1).mono ?_); (case side1 => exact CB (C_below aM.1 HB.1)); (case side2 => exact aN.1); rintro e Bl ⟨zM, zN, rfl, ho0, ho1, hb⟩; refine ⟨_, rfl, ?_⟩; refine E5 (R_lower ho0 (bZ HB.1)) (R_lower ho1 (bZ HB.1)) (bB av.1 hb) (bB az.1 hb) (bS HB.1 hb) ?_; clear av az HB; intro bH dB av az HB; (try clear hb); (try clear ho0); (try clear ho1)) | ((with_reducible refine gate_dst (N := 7) rfl ?_); refine boxE (cs := #[.int .i64 0, .int .i64 0, .slice none 0 0, .int .i64 0, .int .i64 0, .int .i64 0, .int .i64 0, .int .i64 0]) (t := 35) ?_; intro bq hg Bn hbox hb; refine E12 (rB bH.1 hb) (rB dB.1 hb) (bB av.1 hb) (bB az.1 hb) (bS HB.1 hb) (hbox) (gX HB.1 hg) (gX HB.1 hg) (nB av.1 hg) (nC av.1 hg) (nB az.1 hg) (nC az.1 hg) ?_; clear bH dB av az HB; intro bH dB av az HB fw uU uV dZ d9 bz ed; clear hb hbox hg; have uW := d9.1; have uX := dZ.1; have uY := ed.1; have uZ := bz.1; obtain ⟨pg, pm, pq, pu, pz, pE, pF, pG, pI, pJ, pK, pM, pO, pQ, pR, pU⟩ := cz8 fw.1; obtain ⟨u6, u7, sH⟩ := R_slice dB.1; subst sH; obtain ⟨sI, kr, sJ⟩ := R_slice bH.1; subst sJ) | ((with_reducible refine gate_callee (f := 39) rfl ?_); refine goesM (N := (some 26)) #[.slice sI jv.length kr, .slice A1 l1.length c1] Try.func39 ?_; (with_reducible refine (spec_loAgree.calls oJ _ _ jv _ _ l1 nH _ ?side1 ?side2 ?side3 ?side4 uR.1).mono ?_); (case side1 => refine (R_reads' (e := 66) (base := w.heap.size) (ok := fun k_ => True) (n := jv.length) (c := kr) ?_).2.2; exact (by (with_reducible repeat (first | apply R_alloc | apply R_drewN | apply R_drew)); exact (R_mono (RQ bq 7 (RQ bq 6 (RQ bq 5 (RQ bq 4 (RQ bq 3 (RQ bq 2 (RQ bq 1 (RQ bq 0 (R_types bH.1 fw.1 (by decide)) _) _) _) _) _) _) _) _) (fun _ h_ => h_.1)))); (case side2 => exact (R_reads' bH.1).2.1); (case side3 => exact C_below HR1.1 (BL HB.1)); (case side4 => exact jI.1); rintro e w' ⟨rfl, ⟨nd, rfl⟩⟩; refine ⟨_, rfl, ?_⟩; obtain ⟨gF, gG, gH, gI, gJ, gK, gL, gM, gN, gP, gQ, gT, gU, gV, gW, gY⟩ := cz8 az.1))
   refine bodyPost_ret (results_ct rfl _ _ jJ 35 #[.int .i64 0, .int .i64 0, .slice none 0 0, .int .i64 0, .int .i64 0, .int .i64 0, .int .i64 0, .int .i64 0] (0, 0) _ rfl (PF1 bz.1 az.1) Try.underlying35 rfl (by kernel_rfl)) rfl ?_
   exact ⟨_, RF, by first | exact R_nil _ _ _ _ _ | exact N_nil _ _ _ _ _ | exact V_nil _ _ _ _ _ | exact Q_nil _ _ _ _ _ | exact S_nil _ _ _ _ _, BL HB.1⟩
 simp only [Option.some.injEq, Prod.mk.injEq] at H
 obtain ⟨rfl, rfl, rfl, rfl, rfl, rfl, rfl, rfl, rfl⟩ := H
 have ve := bE.1
 have vg := bF.1
 obtain ⟨gZ, ib, ic, ig, ik, il, iq, iw, iy, iA, iB, iC, iD, iE, iF, iG⟩ := cz8 av.1
 go_wp2_with (first | ((with_reducible refine gate_callee (f := 36) rfl ?_); refine goesM (N := (some 21)) #[.agg #[.int .i64 a0_0, .int .i64 a0_1, .slice A0_2 l0_2.length c0_2, .int .i64 a0_3, .int .i64 a0_4, .int .i64 a0_5, .int .i64 a0_6, .int .i64 a0_7], .int .i64 (l1.length : Int)] Try.func36 ?_; (with_reducible refine (spec_loOf.calls oJ a0_0 a0_1 _ _ l0_2 a0_3 a0_4 a0_5 a0_6 a0_7 (l1.length : Int) jv rZ si sj su sw sD sF sG _ ?side1 ?side2 uQ.1).mono ?_); (case side1 => exact CB (C_below aM.1 HB.1)); (case side2 => exact aN.1); rintro e Bo ⟨zM, zN, rfl, ho0, ho1, hb⟩; refine ⟨_, rfl, ?_⟩; refine E5 (R_lower ho0 (bZ HB.1)) (R_lower ho1 (bZ HB.1)) (bB av.1 hb) (bB az.1 hb) (bS HB.1 hb) ?_; clear av az HB; intro bH dB av az HB; (try clear hb); (try clear ho0); (try clear ho1)) | ((with_reducible refine gate_dst (N := 7) rfl ?_); refine boxE (cs := #[.int .i64 0, .int .i64 0, .slice none 0 0, .int .i64 0, .int .i64 0, .int .i64 0, .int .i64 0, .int .i64 0]) (t := 35) ?_; intro bq hg Bp hbox hb; refine E12 (rB bH.1 hb) (rB dB.1 hb) (bB av.1 hb) (bB az.1 hb) (bS HB.1 hb) (hbox) (gX HB.1 hg) (gX HB.1 hg) (nB av.1 hg) (nC av.1 hg) (nB az.1 hg) (nC az.1 hg) ?_; clear bH dB av az HB; intro bH dB av az HB fw uU uV dZ d9 bz ed; clear hb hbox hg; have rQ := d9.1; have rR := dZ.1; have rT := ed.1; have rU := bz.1; obtain ⟨iH, iI, iJ, iK, iL, iM, iN, iO, iP, iQ, iR, iT, iU, iV, iW, iX⟩ := cz8 fw.1; obtain ⟨aK, aL, ku⟩ := R_slice dB.1; subst ku; obtain ⟨sK, kv, sM⟩ := R_slice bH.1; subst sM) | ((with_reducible refine gate_callee (f := 39) rfl ?_); refine goesM (N := (some 26)) #[.slice sK jv.length kv, .slice A1 l1.length c1] Try.func39 ?_; (with_reducible refine (spec_loAgree.calls oJ _ _ jv _ _ l1 nH _ ?side1 ?side2 ?side3 ?side4 uR.1).mono ?_); (case side1 => refine (R_reads' (e := 66) (base := w.heap.size) (ok := fun k_ => True) (n := jv.length) (c := kv) ?_).2.2; exact (by (with_reducible repeat (first | apply R_alloc | apply R_drewN | apply R_drew)); exact (R_mono (RQ bq 7 (RQ bq 6 (RQ bq 5 (RQ bq 4 (RQ bq 3 (RQ bq 2 (RQ bq 1 (RQ bq 0 (R_types bH.1 fw.1 (by decide)) _) _) _) _) _) _) _) _) (fun _ h_ => h_.1)))); (case side2 => exact (R_reads' bH.1).2.1); (case side3 => exact C_below HR1.1 (BL HB.1)); (case side4 => exact jI.1); rintro e w' ⟨rfl, ⟨nd, rfl⟩⟩; refine ⟨_, rfl, ?_⟩; obtain ⟨iY, iZ, ja, jb, jc, jd, je, jf, jg, jh, ji, jk, jl, jm, jo, jq⟩ := cz8 az.1))
 refine bodyPost_ret (results_ct rfl _ _ jJ 35 #[.int .i64 rZ, .int .i64 si, .slice aK sj.length aL, .int .i64 su, .int .i64 sw, .int .i64 sD, .int .i64 sF, .int .i64 sG] (0, 0) _ rfl (PF1 bz.1 az.1) Try.underlying35 rfl (by kernel_rfl)) rfl ?_
 exact ⟨_, RF, R_mono (set8_R (R_drewN (set8_R dB.1 fw.1 (by decide) _ _ _ _ _ _ _ _) _) (blk_drewN (set8_far az.1 bz.1 _ _ _ _ _ _ _ _) _) (by decide) _ _ _ _ _ _ _ _) (fun _ _ => trivial), BL HB.1⟩
/-! ### impl_ReplayLog: function 26 -/
open Kd
def impl_ReplayLog.j0 : Nat -> List (S66) -> Bool -> Int -> Int -> List (S98) -> Int -> Int -> Int -> Int -> Int -> Option (Int × Int × (List (S98)) × Int × Int × Int × Int × Int × Bool)
 | 0, _, _, _, _, _, _, _, _, _, _ => none
 | k + 1, x1, zJ, pV, pW, pX, pY, p8, p9, qa, qb => if zJ = true then (some (0, 0, ([] : List (S98)), 0, 0, 0, 0, 0, false)) else ((impl_runSteps.f k pV pW pX pY p8 p9 qa qb (x1.length : Int)).bind fun dV => ((impl_agreeing.f k dV.2.2.2.2.2.2.2.2 x1).bind fun qc => (if qc = (x1.length : Int) then (some (dV.1, dV.2.1, dV.2.2.1, dV.2.2.2.1, dV.2.2.2.2.1, dV.2.2.2.2.2.1, dV.2.2.2.2.2.2.1, dV.2.2.2.2.2.2.2.1, true)) else (some (0, 0, ([] : List (S98)), 0, 0, 0, 0, 0, false)))))
def impl_ReplayLog.f (k : Nat) (a0_0 : Int) (a0_1 : Int) (l0_2 : List (S98)) (a0_3 : Int) (a0_4 : Int) (a0_5 : Int) (a0_6 : Int) (a0_7 : Int) (l1 : List (S66)) : Option (Int × Int × (List (S98)) × Int × Int × Int × Int × Int × Bool) := (impl_IsMachine.f k a0_0 a0_1 l0_2 a0_3 a0_4 a0_5 a0_6 a0_7).bind fun vk => (if vk = true then ((impl_IsLog.f k l1).bind fun qd => (impl_ReplayLog.j0 k l1 (!qd) a0_0 a0_1 l0_2 a0_3 a0_4 a0_5 a0_6 a0_7)) else (impl_ReplayLog.j0 k l1 true a0_0 a0_1 l0_2 a0_3 a0_4 a0_5 a0_6 a0_7))
theorem impl_ReplayLog.mono_l : ∀ k, (∀ y0 y1 y2 y3 y4 y5 y6 y7 y8 y9, LeO (impl_ReplayLog.j0 k y0 y1 y2 y3 y4 y5 y6 y7 y8 y9) (impl_ReplayLog.j0 (k + 1) y0 y1 y2 y3 y4 y5 y6 y7 y8 y9))
 | 0 => fun _ _ _ _ _ _ _ _ _ _ r h => by simp [impl_ReplayLog.j0] at h
 | k + 1 => by
  have jD := impl_ReplayLog.mono_l k
  intros
  first | unfold impl_ReplayLog.j0
  exact LM5 jD impl_IsLog.mono impl_IsMachine.mono impl_agreeing.mono impl_runSteps.mono
theorem impl_ReplayLog.mono : ∀ a0 a1 a2 a3 a4 a5 a6 a7 a8 k, LeO (impl_ReplayLog.f k a0 a1 a2 a3 a4 a5 a6 a7 a8) (impl_ReplayLog.f (k + 1) a0 a1 a2 a3 a4 a5 a6 a7 a8) := by
 intro a0 a1 a2 a3 a4 a5 a6 a7 a8 k
 have jD := impl_ReplayLog.mono_l k
 unfold impl_ReplayLog.f
 exact LM5 jD impl_IsLog.mono impl_IsMachine.mono impl_agreeing.mono impl_runSteps.mono
theorem impl_ReplayLog.calls (k : Nat) (a0_0 : Int) (a0_1 : Int) (A0_2 : Option Addr) (c0_2 : Nat) (l0_2 : List (S98)) (a0_3 : Int) (a0_4 : Int) (a0_5 : Int) (a0_6 : Int) (a0_7 : Int) (A1 : Option Addr) (c1 : Nat) (l1 : List (S66)) (r1 : Int) (r2 : Int) (r3 : List (S98)) (r4 : Int) (r5 : Int) (r6 : Int) (r7 : Int) (r8 : Int) (r9 : Bool) (w : World) (hr0_2 : Kd.C k98 w A0_2 l0_2.length l0_2) (hc0_2 : l0_2.length <= c0_2) (hr1 : Kd.C k66 w A1 l1.length l1) (hc1 : l1.length <= c1) (h : impl_ReplayLog.f k a0_0 a0_1 l0_2 a0_3 a0_4 a0_5 a0_6 a0_7 l1 = some (r1, r2, r3, r4, r5, r6, r7, r8, r9)) :
 Calls Try.prog 26 #[.agg #[.int .i64 a0_0, .int .i64 a0_1, .slice A0_2 l0_2.length c0_2, .int .i64 a0_3, .int .i64 a0_4, .int .i64 a0_5, .int .i64 a0_6, .int .i64 a0_7], .slice A1 l1.length c1] w fun e w' => ∃ uK : Value, e = .returned (.tuple #[.agg #[.int .i64 r1, .int .i64 r2, uK, .int .i64 r4, .int .i64 r5, .int .i64 r6, .int .i64 r7, .int .i64 r8], .bool r9]) /\ Kd.R k98 98 w' w.heap.size (fun _ => True) uK r3 /\ Below w.heap.size w w' := by
 have rX := Try.underlying35
 have aM := Aside0.mk hr0_2
 have aN := Aside0.mk hc0_2
 clear hr0_2 hc0_2
 have HR1 := Aside0.mk hr1
 have jI := Aside0.mk hc1
 clear hr1 hc1
 have HB := Aside0.mk (Below.refl w.heap.size w)
 have H := h
 clear h
 unfold impl_ReplayLog.f at H
 have rY := Aside0.mk H
 clear H
 go_enter Try.func26, Try.ntmps26
 go_upto_region 1 with (first | ((with_reducible refine gate_dst (N := 2) rfl ?_); refine boxE (cs := #[.int .i64 a0_0, .int .i64 a0_1, .slice A0_2 l0_2.length c0_2, .int .i64 a0_3, .int .i64 a0_4, .int .i64 a0_5, .int .i64 a0_6, .int .i64 a0_7]) (t := 35) ?_; intro vo hg w4 hbox hb; refine E4b HB.1 hg hbox hb ?_; clear HB; intro HB ax Bq Br; clear hb hbox hg) | ((with_reducible refine gate_dst (N := 4) rfl ?_); refine boxE (cs := #[.int .i64 0, .int .i64 0, .slice none 0 0, .int .i64 0, .int .i64 0, .int .i64 0, .int .i64 0, .int .i64 0]) (t := 35) ?_; intro jK hg w5 hbox hb; refine E7 (bB ax.1 hb) (bS HB.1 hb) (hbox) (gX HB.1 hg) (gX HB.1 hg) (nB ax.1 hg) (nC ax.1 hg) ?_; clear ax HB; intro ax HB aA Bt Bu bI bJ; clear hb hbox hg))
 (try simp only [Act.put, List.setIfInBounds_toArray, List.set_cons_zero, List.set_cons_succ])
 go_cut [15] (fun v15 wc => ∃ (kq : Nat) (eY : Bool), v15 = .bool eY /\ Aside0 (impl_ReplayLog.j0 kq l1 eY a0_0 a0_1 l0_2 a0_3 a0_4 a0_5 a0_6 a0_7 = some (r1, r2, r3, r4, r5, r6, r7, r8, r9)) /\ Aside0 (kq <= k) /\ Aside0 (wc.heap[vo]? = some (.cells #[.int .i64 a0_0, .int .i64 a0_1, (.slice A0_2 l0_2.length c0_2), .int .i64 a0_3, .int .i64 a0_4, .int .i64 a0_5, .int .i64 a0_6, .int .i64 a0_7] 35 (0, 0))) /\ Aside0 (wc.heap[jK]? = some (.cells #[.int .i64 0, .int .i64 0, (.slice none 0 0), .int .i64 0, .int .i64 0, .int .i64 0, .int .i64 0, .int .i64 0] 35 (0, 0))) /\ Aside0 (Below w.heap.size w wc))
 case first =>
  have H := rY.1
  clear rY
  replace H := bindA H; obtain ⟨vk, A6, H⟩ := H
  replace H := ifX H; rcases H with ⟨rfl, H⟩ | ⟨rfl, H⟩
  · replace H := bindA H; obtain ⟨qd, A8, H⟩ := H
    have H' := Aside0.mk H
    clear H
    have zK := bI.1
    have zL := bJ.1
    obtain ⟨nJ, nK, nL, nM, nN, nO, nP, nQ, nR, nS, nT, nU, nV, nW, nX, nY⟩ := cz8 ax.1
    go_wp2_with (first | ((with_reducible refine gate_callee (f := 32) rfl ?_); refine goesM (N := (some 9)) #[.agg #[.int .i64 a0_0, .int .i64 a0_1, .slice A0_2 l0_2.length c0_2, .int .i64 a0_3, .int .i64 a0_4, .int .i64 a0_5, .int .i64 a0_6, .int .i64 a0_7]] Try.func32 ?_; (with_reducible refine (impl_IsMachine.calls k a0_0 a0_1 _ _ l0_2 a0_3 a0_4 a0_5 a0_6 a0_7 true _ ?side1 ?side2 A6.1).mono ?_); (case side1 => exact CB (C_below aM.1 HB.1)); (case side2 => exact aN.1); rintro e Cj ⟨rfl, hb⟩; refine ⟨_, rfl, ?_⟩; refine E3 (bB ax.1 hb) (bB aA.1 hb) (bS HB.1 hb) ?_; clear ax aA HB; intro ax aA HB; (try clear hb)) | (go_at_call 41; (with_reducible refine (impl_IsLog.calls k _ _ l1 qd _ ?side1 ?side2 A8.1).mono ?_); (case side1 => exact CB (C_below HR1.1 HB.1)); (case side2 => exact jI.1); rintro e Bj ⟨rfl, hb⟩; refine E3 (bB ax.1 hb) (bB aA.1 hb) (bS HB.1 hb) ?_; clear ax aA HB; intro ax aA HB; (try clear hb)))
    go_meet
    case rel => exact ⟨_, (!qd), RG, H', ⟨by first | omega | exact Nat.le_refl _⟩, ⟨PB ax.1⟩, ⟨PB aA.1⟩, ⟨BL HB.1⟩⟩
  have H' := Aside0.mk H
  clear H
  have uM := bI.1
  have uN := bJ.1
  obtain ⟨nZ, og, oh, ol, om, oo, oq, ou, ow, oz, oC, oD, oF, oG, oH, oI⟩ := cz8 ax.1
  go_wp2_with (first | ((with_reducible refine gate_callee (f := 32) rfl ?_); refine goesM (N := (some 9)) #[.agg #[.int .i64 a0_0, .int .i64 a0_1, .slice A0_2 l0_2.length c0_2, .int .i64 a0_3, .int .i64 a0_4, .int .i64 a0_5, .int .i64 a0_6, .int .i64 a0_7]] Try.func32 ?_; (with_reducible refine (impl_IsMachine.calls k a0_0 a0_1 _ _ l0_2 a0_3 a0_4 a0_5 a0_6 a0_7 false _ ?side1 ?side2 A6.1).mono ?_); (case side1 => exact CB (C_below aM.1 HB.1)); (case side2 => exact aN.1); rintro e Ck ⟨rfl, hb⟩; refine ⟨_, rfl, ?_⟩; refine E3 (bB ax.1 hb) (bB aA.1 hb) (bS HB.1 hb) ?_; clear ax aA HB; intro ax aA HB; (try clear hb)))
  go_meet
  case rel => exact ⟨_, (true), RG, H', ⟨by first | omega | exact Nat.le_refl _⟩, ⟨PB ax.1⟩, ⟨PB aA.1⟩, ⟨BL HB.1⟩⟩
 clear rY
 try clear c1
 obtain ⟨kq, eY, rfl, HA, HJ2, ax, aA, HB⟩ := hcut
 cases kq with
 | zero => exact absurd HA.1 (by simp [impl_ReplayLog.j0])
 | succ oJ => ?_
 have H := HA.1
 clear HA
 simp only [impl_ReplayLog.j0] at H
 replace H := ifX H; rcases H with ⟨rfl, H⟩ | ⟨rfl, H⟩
 · simp only [Option.some.injEq, Prod.mk.injEq] at H
   obtain ⟨rfl, rfl, rfl, rfl, rfl, rfl, rfl, rfl, rfl⟩ := H
   have uO := bJ.1
   have uP := bI.1
   obtain ⟨oK, oL, oM, oN, oO, oP, oQ, oU, oV, oW, oZ, o5, o6, o7, o8, o9⟩ := cz8 aA.1
   go_wp2
   refine bodyPost_ret (results_ct rfl _ _ jK 35 #[.int .i64 0, .int .i64 0, .slice none 0 0, .int .i64 0, .int .i64 0, .int .i64 0, .int .i64 0, .int .i64 0] (0, 0) _ rfl (PF0 aA.1) Try.underlying35 rfl (by kernel_rfl)) rfl ?_
   exact ⟨_, RF, by first | exact R_nil _ _ _ _ _ | exact N_nil _ _ _ _ _ | exact V_nil _ _ _ _ _ | exact Q_nil _ _ _ _ _ | exact S_nil _ _ _ _ _, BL HB.1⟩
 replace H := bindA H; obtain ⟨⟨sN, sO, sP, sQ, sS, sU, sV, sW, jw⟩, uQ, H⟩ := H
 dsimp only at H
 replace H := bindA H; obtain ⟨qc, uR, H⟩ := H
 replace H := ifQ H; rcases H with ⟨c21, H⟩ | ⟨c21, H⟩
 · have c21b0 := beq_iff_eq.mpr c21
   have c21b1 := bne_eq_false_iff_eq.mpr c21
   clear c21
   simp only [Option.some.injEq, Prod.mk.injEq] at H
   obtain ⟨rfl, rfl, rfl, rfl, rfl, rfl, rfl, rfl, rfl⟩ := H
   have uS := bI.1
   have uT := bJ.1
   obtain ⟨fM, fO, fP, fQ, fT, fU, fV, fZ, gm, gp, gq, gu, gy, gz, gB, gD⟩ := cz8 ax.1
   go_wp2_with (first | ((with_reducible refine gate_callee (f := 33) rfl ?_); refine goesM (N := (some 21)) #[.agg #[.int .i64 a0_0, .int .i64 a0_1, .slice A0_2 l0_2.length c0_2, .int .i64 a0_3, .int .i64 a0_4, .int .i64 a0_5, .int .i64 a0_6, .int .i64 a0_7], .int .i64 (l1.length : Int)] Try.func33 ?_; (with_reducible refine (impl_runSteps.calls oJ a0_0 a0_1 _ _ l0_2 a0_3 a0_4 a0_5 a0_6 a0_7 (l1.length : Int) sN sO sP sQ sS sU sV sW jw _ ?side1 ?side2 uQ.1).mono ?_); (case side1 => exact CB (C_below aM.1 HB.1)); (case side2 => exact aN.1); rintro e Bl ⟨zO, zP, rfl, ho0, ho1, hb⟩; refine ⟨_, rfl, ?_⟩; refine E5 (R_lower ho0 (bZ HB.1)) (R_lower ho1 (bZ HB.1)) (bB ax.1 hb) (bB aA.1 hb) (bS HB.1 hb) ?_; clear ax aA HB; intro dC bK ax aA HB; (try clear hb); (try clear ho0); (try clear ho1)) | ((with_reducible refine gate_dst (N := 6) rfl ?_); refine boxE (cs := #[.int .i64 0, .int .i64 0, .slice none 0 0, .int .i64 0, .int .i64 0, .int .i64 0, .int .i64 0, .int .i64 0]) (t := 35) ?_; intro bu hg Bn hbox hb; refine E12 (rB dC.1 hb) (rB bK.1 hb) (bB ax.1 hb) (bB aA.1 hb) (bS HB.1 hb) (hbox) (gX HB.1 hg) (gX HB.1 hg) (nB ax.1 hg) (nC ax.1 hg) (nB aA.1 hg) (nC aA.1 hg) ?_; clear dC bK ax aA HB; intro dC bK ax aA HB fA vv vw ek eu bA eB; clear hb hbox hg; have uW := eu.1; have uX := ek.1; have uY := eB.1; have uZ := bA.1; obtain ⟨pg, pm, pq, pu, pz, pE, pF, pG, pI, pJ, pK, pM, pO, pQ, pR, pU⟩ := cz8 fA.1; obtain ⟨u6, u7, sH⟩ := R_slice dC.1; subst sH; obtain ⟨sI, kr, sJ⟩ := R_slice bK.1; subst sJ) | ((with_reducible refine gate_callee (f := 42) rfl ?_); refine goesM (N := (some 26)) #[.slice sI jw.length kr, .slice A1 l1.length c1] Try.func42 ?_; (with_reducible refine (impl_agreeing.calls oJ _ _ jw _ _ l1 qc _ ?side1 ?side2 ?side3 ?side4 uR.1).mono ?_); (case side1 => refine (R_reads' (e := 66) (base := w.heap.size) (ok := fun k_ => True) (n := jw.length) (c := kr) ?_).2.2; exact (by (with_reducible repeat (first | apply R_alloc | apply R_drewN | apply R_drew)); exact (R_mono (RQ bu 7 (RQ bu 6 (RQ bu 5 (RQ bu 4 (RQ bu 3 (RQ bu 2 (RQ bu 1 (RQ bu 0 (R_types bK.1 fA.1 (by decide)) _) _) _) _) _) _) _) _) (fun _ h_ => h_.1)))); (case side2 => exact (R_reads' bK.1).2.1); (case side3 => exact C_below HR1.1 (BL HB.1)); (case side4 => exact jI.1); rintro e w' ⟨rfl, ⟨nd, rfl⟩⟩; refine ⟨_, rfl, ?_⟩; obtain ⟨gF, gG, gH, gI, gJ, gK, gL, gM, gN, gP, gQ, gT, gU, gV, gW, gY⟩ := cz8 aA.1))
   refine bodyPost_ret (results_ct rfl _ _ jK 35 #[.int .i64 sN, .int .i64 sO, .slice u6 sP.length u7, .int .i64 sQ, .int .i64 sS, .int .i64 sU, .int .i64 sV, .int .i64 sW] (0, 0) _ rfl (PF1 bA.1 aA.1) Try.underlying35 rfl (by kernel_rfl)) rfl ?_
   exact ⟨_, RF, R_mono (set8_R (R_drewN (set8_R dC.1 fA.1 (by decide) _ _ _ _ _ _ _ _) _) (blk_drewN (set8_far aA.1 bA.1 _ _ _ _ _ _ _ _) _) (by decide) _ _ _ _ _ _ _ _) (fun _ _ => trivial), BL HB.1⟩
 have c21b0 := beq_eq_false_iff_ne.mpr c21
 have c21b1 := bne_iff_ne.mpr c21
 simp only [Option.some.injEq, Prod.mk.injEq] at H
 obtain ⟨rfl, rfl, rfl, rfl, rfl, rfl, rfl, rfl, rfl⟩ := H
 have ve := bI.1
 have vg := bJ.1
 obtain ⟨gZ, ib, ic, ig, ik, il, iq, iw, iy, iA, iB, iC, iD, iE, iF, iG⟩ := cz8 ax.1
 go_wp2_with (first | ((with_reducible refine gate_callee (f := 33) rfl ?_); refine goesM (N := (some 21)) #[.agg #[.int .i64 a0_0, .int .i64 a0_1, .slice A0_2 l0_2.length c0_2, .int .i64 a0_3, .int .i64 a0_4, .int .i64 a0_5, .int .i64 a0_6, .int .i64 a0_7], .int .i64 (l1.length : Int)] Try.func33 ?_; (with_reducible refine (impl_runSteps.calls oJ a0_0 a0_1 _ _ l0_2 a0_3 a0_4 a0_5 a0_6 a0_7 (l1.length : Int) sN sO sP sQ sS sU sV sW jw _ ?side1 ?side2 uQ.1).mono ?_); (case side1 => exact CB (C_below aM.1 HB.1)); (case side2 => exact aN.1); rintro e Bo ⟨zO, zP, rfl, ho0, ho1, hb⟩; refine ⟨_, rfl, ?_⟩; refine E5 (R_lower ho0 (bZ HB.1)) (R_lower ho1 (bZ HB.1)) (bB ax.1 hb) (bB aA.1 hb) (bS HB.1 hb) ?_; clear ax aA HB; intro dC bK ax aA HB; (try clear hb); (try clear ho0); (try clear ho1)) | ((with_reducible refine gate_dst (N := 6) rfl ?_); refine boxE (cs := #[.int .i64 0, .int .i64 0, .slice none 0 0, .int .i64 0, .int .i64 0, .int .i64 0, .int .i64 0, .int .i64 0]) (t := 35) ?_; intro bu hg Bp hbox hb; refine E12 (rB dC.1 hb) (rB bK.1 hb) (bB ax.1 hb) (bB aA.1 hb) (bS HB.1 hb) (hbox) (gX HB.1 hg) (gX HB.1 hg) (nB ax.1 hg) (nC ax.1 hg) (nB aA.1 hg) (nC aA.1 hg) ?_; clear dC bK ax aA HB; intro dC bK ax aA HB fA vv vw ek eu bA eB; clear hb hbox hg; have rQ := eu.1; have rR := ek.1; have rT := eB.1; have rU := bA.1; obtain ⟨iH, iI, iJ, iK, iL, iM, iN, iO, iP, iQ, iR, iT, iU, iV, iW, iX⟩ := cz8 fA.1; obtain ⟨aK, aL, ku⟩ := R_slice dC.1; subst ku; obtain ⟨sK, kv, sM⟩ := R_slice bK.1; subst sM) | ((with_reducible refine gate_callee (f := 42) rfl ?_); refine goesM (N := (some 26)) #[.slice sK jw.length kv, .slice A1 l1.length c1] Try.func42 ?_; (with_reducible refine (impl_agreeing.calls oJ _ _ jw _ _ l1 qc _ ?side1 ?side2 ?side3 ?side4 uR.1).mono ?_); (case side1 => refine (R_reads' (e := 66) (base := w.heap.size) (ok := fun k_ => True) (n := jw.length) (c := kv) ?_).2.2; exact (by (with_reducible repeat (first | apply R_alloc | apply R_drewN | apply R_drew)); exact (R_mono (RQ bu 7 (RQ bu 6 (RQ bu 5 (RQ bu 4 (RQ bu 3 (RQ bu 2 (RQ bu 1 (RQ bu 0 (R_types bK.1 fA.1 (by decide)) _) _) _) _) _) _) _) _) (fun _ h_ => h_.1)))); (case side2 => exact (R_reads' bK.1).2.1); (case side3 => exact C_below HR1.1 (BL HB.1)); (case side4 => exact jI.1); rintro e w' ⟨rfl, ⟨nd, rfl⟩⟩; refine ⟨_, rfl, ?_⟩; obtain ⟨iY, iZ, ja, jb, jc, jd, je, jf, jg, jh, ji, jk, jl, jm, jo, jq⟩ := cz8 aA.1))
 refine bodyPost_ret (results_ct rfl _ _ jK 35 #[.int .i64 0, .int .i64 0, .slice none 0 0, .int .i64 0, .int .i64 0, .int .i64 0, .int .i64 0, .int .i64 0] (0, 0) _ rfl (PF1 bA.1 aA.1) Try.underlying35 rfl (by kernel_rfl)) rfl ?_
 exact ⟨_, RF, by first | exact R_nil _ _ _ _ _ | exact N_nil _ _ _ _ _ | exact V_nil _ _ _ _ _ | exact Q_nil _ _ _ _ _ | exact S_nil _ _ _ _ _, BL HB.1⟩
/-! ### laws_heldCellS: function 61 -/
open Kd
def laws_heldCellS.l0 : Nat -> List (S98) -> Int -> Int -> Option (Int)
 | 0, _, _, _ => none
 | k + 1, x0, x1, x5 => if x5 < (x0.length : Int) then (if 0 <= x5 then (if ((rd_T98 x0 x5).f0) = x1 then (if ((rd_T98 x0 x5).f1) = (wrap64 (x1 + 1)) then (laws_heldCellS.l0 k x0 (wrap64 ((wrap64 (x1 + 1)) + 1)) (wrap64 (x5 + 1))) else (some (-1))) else (some (-1))) else (none)) else (some x1)
def laws_heldCellS.f (k : Nat) (l0 : List (S98)) (a1 : Int) : Option (Int) := laws_heldCellS.l0 k l0 a1 0
theorem laws_heldCellS.mono_l : ∀ k, (∀ y0 y1 y2, LeO (laws_heldCellS.l0 k y0 y1 y2) (laws_heldCellS.l0 (k + 1) y0 y1 y2))
 | 0 => fun _ _ _ r h => by simp [laws_heldCellS.l0] at h
 | k + 1 => by
  have jD := laws_heldCellS.mono_l k
  intros
  first | unfold laws_heldCellS.l0
  exact LM1 jD
theorem laws_heldCellS.mono : ∀ a0 a1 k, LeO (laws_heldCellS.f k a0 a1) (laws_heldCellS.f (k + 1) a0 a1) := by
 intro a0 a1 k
 have jD := laws_heldCellS.mono_l k
 unfold laws_heldCellS.f
 exact LM1 jD
theorem laws_heldCellS.calls (k : Nat) (A0 : Option Addr) (c0 : Nat) (l0 : List (S98)) (a1 : Int) (r : Int) (w : World) (hr0 : Kd.C k98 w A0 l0.length l0) (hc0 : l0.length <= c0) (h : laws_heldCellS.f k l0 a1 = some r) :
 Calls Try.prog 61 #[.slice A0 l0.length c0, .int .i64 a1] w fun e w' => e = .returned (.int .i64 r) /\ Drawn0 w w' := by
 have vz := Aside0.mk hr0
 have Dp := Aside0.mk hc0
 clear hr0 hc0
 have H := h
 clear h
 unfold laws_heldCellS.f at H
 have H' := Aside0.mk H
 clear H
 go_enter Try.func61, Try.ntmps61
 go_wp2
 go_loopg [1, 5] k (fun kq v1 v5 w' => ∃ (qf : Int) (bM : Int), v1 = .int .i64 qf /\ v5 = .int .i64 bM /\ Aside0 (laws_heldCellS.l0 kq l0 qf bM = some r) /\ Aside0 (kq <= k) /\ Drawn0 w w')
 case atStart => exact ⟨(a1), (0), RG, RG, H', ⟨Nat.le_refl _⟩, DR⟩
 clear H'
 obtain ⟨qf, bM, rfl, rfl, HA, Bv, ⟨m1, rfl⟩⟩ := hrel
 cases gk with
 | zero => exact absurd HA.1 (by simp [laws_heldCellS.l0])
 | succ k1 => ?_
 have H := HA.1
 clear HA
 simp only [laws_heldCellS.l0] at H
 replace H := ifB H; rcases H with ⟨c3b0, H⟩ | ⟨c3b0, H⟩
 · replace H := ifN H; obtain ⟨c4b0, H⟩ := H
   replace H := ifQ H; rcases H with ⟨c5, H⟩ | ⟨c5, H⟩
   · have c5b0 := beq_iff_eq.mpr c5
     have c5b1 := bne_eq_false_iff_eq.mpr c5
     clear c5
     replace H := ifQ H; rcases H with ⟨c6, H⟩ | ⟨c6, H⟩
     · have c6b0 := beq_iff_eq.mpr c6
       have c6b1 := bne_eq_false_iff_eq.mpr c6
       clear c6
       have H' := Aside0.mk H
       clear H
       have eZ : 0 <= (bM : Int) := OD
       have fe : bM < (l0.length : Int) := OD
       obtain ⟨jL, kw, jM, jN⟩ := at_T98 vz.1 bM eZ fe
       cases kw
       replace eZ := eq_true eZ
       replace fe := eq_true fe
       have jE : 0 <= (bM : Int) := OD
       have jF : bM < (l0.length : Int) := OD
       obtain ⟨ky, sZ, qg, qh⟩ := at_T98 vz.1 bM jE jF
       obtain rfl : jL = ky := (by injection sZ)
       replace jE := eq_true jE
       replace jF := eq_true jF
       go_wp2
       go_roundg k1
       case measure => have := Bv.1; omega
       case rel => exact ⟨(wrap64 ((wrap64 (qf + 1)) + 1)), (wrap64 (bM + 1)), RG, RG, H', ⟨by have := Bv.1; omega⟩, DR⟩
     have c6b0 := beq_eq_false_iff_ne.mpr c6
     have c6b1 := bne_iff_ne.mpr c6
     obtain rfl := Option.some.inj H
     have eZ : 0 <= (bM : Int) := OD
     have fe : bM < (l0.length : Int) := OD
     obtain ⟨jL, kw, jM, jN⟩ := at_T98 vz.1 bM eZ fe
     cases kw
     replace eZ := eq_true eZ
     replace fe := eq_true fe
     have jE : 0 <= (bM : Int) := OD
     have jF : bM < (l0.length : Int) := OD
     obtain ⟨ky, sZ, qg, qh⟩ := at_T98 vz.1 bM jE jF
     obtain rfl : jL = ky := (by injection sZ)
     replace jE := eq_true jE
     replace jF := eq_true jF
     go_wp2
     go_ret
     exact ⟨RG, DR⟩
   have c5b0 := beq_eq_false_iff_ne.mpr c5
   have c5b1 := bne_iff_ne.mpr c5
   obtain rfl := Option.some.inj H
   have eZ : 0 <= (bM : Int) := OD
   have fe : bM < (l0.length : Int) := OD
   obtain ⟨jL, kw, jM, jN⟩ := at_T98 vz.1 bM eZ fe
   cases kw
   replace eZ := eq_true eZ
   replace fe := eq_true fe
   go_wp2
   go_ret
   exact ⟨RG, DR⟩
 obtain rfl := Option.some.inj H
 go_wp2
 go_ret
 exact ⟨RG, DR⟩
/-! ### laws_heldBoard: function 43 -/
open Kd
def laws_heldBoard.f (k : Nat) (a0_0 : Int) (a0_1 : Int) (l0_2 : List (S98)) (a1 : Int) : Option (Int) := (laws_heldCellS.f k l0_2 a1).bind fun kz => (if kz < 0 then (some (-1)) else (some kz))
theorem laws_heldBoard.mono : ∀ a0 a1 a2 a3 k, LeO (laws_heldBoard.f k a0 a1 a2 a3) (laws_heldBoard.f (k + 1) a0 a1 a2 a3) := by
 intro a0 a1 a2 a3 k
 unfold laws_heldBoard.f
 repeat' first
  | (with_reducible exact laws_heldCellS.mono _ _ _)
  | (with_reducible exact LeO.refl _)
  | (with_reducible exact LeO.none _)
  | (with_reducible refine LeO.ite ?_ ?_)
  | (with_reducible refine LeO.bind ?_ (fun _ => ?_))
  | exact laws_heldCellS.mono _ _ _
  | exact LeO.none _
  | refine LeO.ite ?_ ?_
  | refine LeO.bind ?_ (fun _ => ?_)
theorem laws_heldBoard.calls (k : Nat) (a0_0 : Int) (a0_1 : Int) (A0_2 : Option Addr) (c0_2 : Nat) (l0_2 : List (S98)) (a1 : Int) (r : Int) (w : World) (hr0_2 : Kd.C k98 w A0_2 l0_2.length l0_2) (hc0_2 : l0_2.length <= c0_2) (h : laws_heldBoard.f k a0_0 a0_1 l0_2 a1 = some r) :
 Calls Try.prog 43 #[.agg #[.int .i64 a0_0, .int .i64 a0_1, .slice A0_2 l0_2.length c0_2], .int .i64 a1] w fun e w' => e = .returned (.int .i64 r) /\ Below w.heap.size w w' := by
 have zQ := Try.underlying33
 have aM := Aside0.mk hr0_2
 have aN := Aside0.mk hc0_2
 clear hr0_2 hc0_2
 have HB := Aside0.mk (Below.refl w.heap.size w)
 have H := h
 clear h
 unfold laws_heldBoard.f at H
 replace H := bindA H; obtain ⟨kz, A3, H⟩ := H
 replace H := ifB H; rcases H with ⟨c4b0, H⟩ | ⟨c4b0, H⟩
 · obtain rfl := Option.some.inj H
   go_enter Try.func43, Try.ntmps43
   go_wp2_with (first | ((with_reducible refine gate_dst (N := 2) rfl ?_); refine boxE (cs := #[.int .i64 a0_0, .int .i64 a0_1, .slice A0_2 l0_2.length c0_2]) (t := 33) ?_; intro vB hg w5 hbox hb; refine E4b HB.1 hg hbox hb ?_; clear HB; intro HB kC vC vD; clear hb hbox hg; obtain ⟨kD, kE, kF, kG, kH, kI⟩ := cz3 kC.1) | ((with_reducible refine gate_callee (f := 61) rfl ?_); refine goesM (N := (some 8)) #[.slice A0_2 l0_2.length c0_2, .int .i64 a1] Try.func61 ?_; (with_reducible refine (laws_heldCellS.calls k _ _ l0_2 a1 kz _ ?side1 ?side2 A3.1).mono ?_); (case side1 => exact CB (C_below aM.1 HB.1)); (case side2 => exact aN.1); rintro e w' ⟨rfl, ⟨nd, rfl⟩⟩; refine ⟨_, rfl, ?_⟩))
   go_ret
   exact ⟨RF, BL HB.1⟩
 obtain rfl := Option.some.inj H
 go_enter Try.func43, Try.ntmps43
 go_wp2_with (first | ((with_reducible refine gate_dst (N := 2) rfl ?_); refine boxE (cs := #[.int .i64 a0_0, .int .i64 a0_1, .slice A0_2 l0_2.length c0_2]) (t := 33) ?_; intro vB hg w7 hbox hb; refine E4b HB.1 hg hbox hb ?_; clear HB; intro HB kC vC vD; clear hb hbox hg; obtain ⟨zR, zS, zT, zU, zV, zW⟩ := cz3 kC.1) | ((with_reducible refine gate_callee (f := 61) rfl ?_); refine goesM (N := (some 8)) #[.slice A0_2 l0_2.length c0_2, .int .i64 a1] Try.func61 ?_; (with_reducible refine (laws_heldCellS.calls k _ _ l0_2 a1 kz _ ?side1 ?side2 A3.1).mono ?_); (case side1 => exact CB (C_below aM.1 HB.1)); (case side2 => exact aN.1); rintro e w' ⟨rfl, ⟨nd, rfl⟩⟩; refine ⟨_, rfl, ?_⟩))
 go_ret
 exact ⟨RF, BL HB.1⟩
/-! ### laws_heldMachine: function 27 -/
open Kd
def laws_heldMachine.f (k : Nat) (a0_0 : Int) (a0_1 : Int) (l0_2 : List (S98)) (a0_3 : Int) (a0_4 : Int) (a0_5 : Int) (a0_6 : Int) (a0_7 : Int) (a1 : Int) : Option (Int) := (laws_heldBoard.f k a0_0 a0_1 l0_2 a1).bind fun kJ => (if kJ < 0 then (some (-1)) else (some kJ))
theorem laws_heldMachine.mono : ∀ a0 a1 a2 a3 a4 a5 a6 a7 a8 k, LeO (laws_heldMachine.f k a0 a1 a2 a3 a4 a5 a6 a7 a8) (laws_heldMachine.f (k + 1) a0 a1 a2 a3 a4 a5 a6 a7 a8) := by
 intro a0 a1 a2 a3 a4 a5 a6 a7 a8 k
 unfold laws_heldMachine.f
 repeat' first
  | (with_reducible exact laws_heldBoard.mono _ _ _ _ _)
  | (with_reducible exact LeO.refl _)
  | (with_reducible exact LeO.none _)
  | (with_reducible refine LeO.ite ?_ ?_)
  | (with_reducible refine LeO.bind ?_ (fun _ => ?_))
  | exact laws_heldBoard.mono _ _ _ _ _
  | exact LeO.none _
  | refine LeO.ite ?_ ?_
  | refine LeO.bind ?_ (fun _ => ?_)
theorem laws_heldMachine.calls (k : Nat) (a0_0 : Int) (a0_1 : Int) (A0_2 : Option Addr) (c0_2 : Nat) (l0_2 : List (S98)) (a0_3 : Int) (a0_4 : Int) (a0_5 : Int) (a0_6 : Int) (a0_7 : Int) (a1 : Int) (r : Int) (w : World) (hr0_2 : Kd.C k98 w A0_2 l0_2.length l0_2) (hc0_2 : l0_2.length <= c0_2) (h : laws_heldMachine.f k a0_0 a0_1 l0_2 a0_3 a0_4 a0_5 a0_6 a0_7 a1 = some r) :
 Calls Try.prog 27 #[.agg #[.int .i64 a0_0, .int .i64 a0_1, .slice A0_2 l0_2.length c0_2, .int .i64 a0_3, .int .i64 a0_4, .int .i64 a0_5, .int .i64 a0_6, .int .i64 a0_7], .int .i64 a1] w fun e w' => e = .returned (.int .i64 r) /\ Below w.heap.size w w' := by
 have rX := Try.underlying35
 have zQ := Try.underlying33
 have aM := Aside0.mk hr0_2
 have aN := Aside0.mk hc0_2
 clear hr0_2 hc0_2
 have HB := Aside0.mk (Below.refl w.heap.size w)
 have H := h
 clear h
 unfold laws_heldMachine.f at H
 replace H := bindA H; obtain ⟨kJ, A3, H⟩ := H
 replace H := ifB H; rcases H with ⟨c4b0, H⟩ | ⟨c4b0, H⟩
 · obtain rfl := Option.some.inj H
   go_enter Try.func27, Try.ntmps27
   go_wp2_with (first | ((with_reducible refine gate_dst (N := 2) rfl ?_); refine boxE (cs := #[.int .i64 a0_0, .int .i64 a0_1, .slice A0_2 l0_2.length c0_2, .int .i64 a0_3, .int .i64 a0_4, .int .i64 a0_5, .int .i64 a0_6, .int .i64 a0_7]) (t := 35) ?_; intro vE hg w5 hbox hb; refine E4b HB.1 hg hbox hb ?_; clear HB; intro HB dW vF vG; clear hb hbox hg; obtain ⟨kD, kE, kF, tq, tu, tC, tF, tH, kG, kH, kI, tJ, tK, tL, tN, tO⟩ := cz8 dW.1) | ((with_reducible refine gate_callee (f := 43) rfl ?_); refine goesM (N := (some 8)) #[.agg #[.int .i64 a0_0, .int .i64 a0_1, .slice A0_2 l0_2.length c0_2], .int .i64 a1] Try.func43 ?_; (with_reducible refine (laws_heldBoard.calls k a0_0 a0_1 _ _ l0_2 a1 kJ _ ?side1 ?side2 A3.1).mono ?_); (case side1 => exact CB (C_below aM.1 HB.1)); (case side2 => exact aN.1); rintro e w7 ⟨rfl, hb⟩; refine ⟨_, rfl, ?_⟩; refine E2 (bB dW.1 hb) (bS HB.1 hb) ?_; clear dW HB; intro dW HB; (try clear hb)))
   go_ret
   exact ⟨RF, BL HB.1⟩
 obtain rfl := Option.some.inj H
 go_enter Try.func27, Try.ntmps27
 go_wp2_with (first | ((with_reducible refine gate_dst (N := 2) rfl ?_); refine boxE (cs := #[.int .i64 a0_0, .int .i64 a0_1, .slice A0_2 l0_2.length c0_2, .int .i64 a0_3, .int .i64 a0_4, .int .i64 a0_5, .int .i64 a0_6, .int .i64 a0_7]) (t := 35) ?_; intro vE hg w8 hbox hb; refine E4b HB.1 hg hbox hb ?_; clear HB; intro HB dW vF vG; clear hb hbox hg; obtain ⟨zX, zY, zZ, z8, Aa, Ab, Ac, Ad, Ae, Af, Ag, Ah, Ai, Aj, Ak, Al⟩ := cz8 dW.1) | ((with_reducible refine gate_callee (f := 43) rfl ?_); refine goesM (N := (some 8)) #[.agg #[.int .i64 a0_0, .int .i64 a0_1, .slice A0_2 l0_2.length c0_2], .int .i64 a1] Try.func43 ?_; (with_reducible refine (laws_heldBoard.calls k a0_0 a0_1 _ _ l0_2 a1 kJ _ ?side1 ?side2 A3.1).mono ?_); (case side1 => exact CB (C_below aM.1 HB.1)); (case side2 => exact aN.1); rintro e Cm ⟨rfl, hb⟩; refine ⟨_, rfl, ?_⟩; refine E2 (bB dW.1 hb) (bS HB.1 hb) ?_; clear dW HB; intro dW HB; (try clear hb)))
 go_ret
 exact ⟨RF, BL HB.1⟩
/-! ### laws_FnExactReplayLog: function 6 -/
open Kd
mutual
def laws_FnExactReplayLog.j0 : Nat -> List (S77) -> Bool -> List (S66) -> Bool -> Bool -> Int -> Int -> List (S100) -> Int -> Int -> Int -> Int -> Int -> Int -> Int -> List (S98) -> Int -> Int -> Int -> Int -> Int -> Int -> Int -> List (S98) -> Int -> Int -> Int -> Int -> Int -> Int -> Int -> List (S98) -> Int -> Int -> Int -> Int -> Int -> Option (Bool)
 | 0, _, _, _, _, _, _, _, _, _, _, _, _, _, _, _, _, _, _, _, _, _, _, _, _, _, _, _, _, _, _, _, _, _, _, _, _, _ => none
 | k + 1, x1, x7, x9, Cn, Co, bX, bY, cu, cz, cB, cK, cO, cZ, df, dh, di, dm, dn, dw, dx, dz, jO, jP, jQ, jR, jS, jT, jU, jV, aT, aU, bD, aV, aW, aX, aY, aZ => if Co = true then (some false) else ((laws_toMachine.f k bX bY cu cz cB cK cO cZ).bind fun eO => ((laws_eqMachine.f k jO jP jQ jR jS jT jU jV eO.1 eO.2.1 eO.2.2.1 eO.2.2.2.1 eO.2.2.2.2.1 eO.2.2.2.2.2.1 eO.2.2.2.2.2.2.1 eO.2.2.2.2.2.2.2).bind fun vH => (if vH = true then ((laws_toLogEntryS.f k x1).bind fun jW => ((laws_eqLogEntryS.f k x9 jW).bind fun vI => (if vI = true then ((laws_markMachine.f k jO jP jQ jR jS jT jU jV 1).bind fun vJ => ((laws_markLogEntryS.f k x9 vJ.1).bind fun vK => (if vK.1 < 0 then (laws_FnExactReplayLog.j1 k x1 x7 true bX bY cu cz cB cK cO cZ df dh di dm dn dw dx dz aT aU bD aV aW aX aY aZ) else ((laws_eqMachine.f k aT aU bD aV aW aX aY aZ df dh di dm dn dw dx dz).bind fun vL => (if vL = true then (laws_FnExactReplayLog.j1 k x1 x7 (Cn != x7) bX bY cu cz cB cK cO cZ df dh di dm dn dw dx dz aT aU bD aV aW aX aY aZ) else (laws_FnExactReplayLog.j1 k x1 x7 true bX bY cu cz cB cK cO cZ df dh di dm dn dw dx dz aT aU bD aV aW aX aY aZ)))))) else (some false)))) else (some false))))
def laws_FnExactReplayLog.j1 : Nat -> List (S77) -> Bool -> Bool -> Int -> Int -> List (S100) -> Int -> Int -> Int -> Int -> Int -> Int -> Int -> List (S98) -> Int -> Int -> Int -> Int -> Int -> Int -> Int -> List (S98) -> Int -> Int -> Int -> Int -> Int -> Option (Bool)
 | 0, _, _, _, _, _, _, _, _, _, _, _, _, _, _, _, _, _, _, _, _, _, _, _, _, _, _, _ => none
 | k + 1, x1, x7, Cq, bX, bY, cu, cz, cB, cK, cO, cZ, df, dh, di, dm, dn, dw, dx, dz, aT, aU, bD, aV, aW, aX, aY, aZ => if Cq = true then (some false) else ((laws_markMachine.f k aT aU bD aV aW aX aY aZ 1).bind fun fB => ((laws_heldMachine.f k aT aU fB.2 aV aW aX aY aZ 1).bind fun qi => (if qi < 0 then (some false) else (if qi = fB.1 then ((laws_toMachine.f k bX bY cu cz cB cK cO cZ).bind fun eP => ((laws_toLogEntryS.f k x1).bind fun kK => ((impl_ReplayLog.f k eP.1 eP.2.1 eP.2.2.1 eP.2.2.2.1 eP.2.2.2.2.1 eP.2.2.2.2.2.1 eP.2.2.2.2.2.2.1 eP.2.2.2.2.2.2.2 kK).bind fun dX => ((laws_eqMachine.f k dX.1 dX.2.1 dX.2.2.1 dX.2.2.2.1 dX.2.2.2.2.1 dX.2.2.2.2.2.1 dX.2.2.2.2.2.2.1 dX.2.2.2.2.2.2.2.1 df dh di dm dn dw dx dz).bind fun vM => (if vM = true then (laws_FnExactReplayLog.j2 k fB.1 (dX.2.2.2.2.2.2.2.2 != x7) aT aU fB.2 aV aW aX aY aZ) else (laws_FnExactReplayLog.j2 k fB.1 true aT aU fB.2 aV aW aX aY aZ)))))) else (some false)))))
def laws_FnExactReplayLog.j2 : Nat -> Int -> Bool -> Int -> Int -> List (S98) -> Int -> Int -> Int -> Int -> Int -> Option (Bool)
 | 0, _, _, _, _, _, _, _, _, _, _ => none
 | k + 1, Cr, Am, aT, aU, bD, aV, aW, aX, aY, aZ => if Am = true then (some false) else ((laws_heldMachine.f k aT aU bD aV aW aX aY aZ 1).bind fun qj => (if qj < 0 then (some false) else (if qj = Cr then (some true) else (some false))))
end
def laws_FnExactReplayLog.f (k : Nat) (a0_0 : Int) (a0_1 : Int) (l0_2 : List (S100)) (a0_3 : Int) (a0_4 : Int) (a0_5 : Int) (a0_6 : Int) (a0_7 : Int) (l1 : List (S77)) : Option (Bool) := (laws_szMachine.f a0_0 a0_1 l0_2 a0_3 a0_4 a0_5 a0_6 a0_7 1048576).bind fun fq => (if fq < 0 then (some true) else ((laws_szLogEntryS.f l1 fq).bind fun ql => (if ql < 0 then (some true) else ((laws_toMachine.f k a0_0 a0_1 l0_2 a0_3 a0_4 a0_5 a0_6 a0_7).bind fun eQ => ((laws_toLogEntryS.f k l1).bind fun kL => ((spec_ReplayLog.f k eQ.1 eQ.2.1 eQ.2.2.1 eQ.2.2.2.1 eQ.2.2.2.2.1 eQ.2.2.2.2.2.1 eQ.2.2.2.2.2.2.1 eQ.2.2.2.2.2.2.2 kL).bind fun aD => ((laws_toMachine.f k a0_0 a0_1 l0_2 a0_3 a0_4 a0_5 a0_6 a0_7).bind fun aJ => ((laws_toLogEntryS.f k l1).bind fun bO => ((impl_ReplayLog.f k aJ.1 aJ.2.1 aJ.2.2.1 aJ.2.2.2.1 aJ.2.2.2.2.1 aJ.2.2.2.2.2.1 aJ.2.2.2.2.2.2.1 aJ.2.2.2.2.2.2.2 bO).bind fun aF => ((laws_eqMachine.f k aF.1 aF.2.1 aF.2.2.1 aF.2.2.2.1 aF.2.2.2.2.1 aF.2.2.2.2.2.1 aF.2.2.2.2.2.2.1 aF.2.2.2.2.2.2.2.1 aD.1 aD.2.1 aD.2.2.1 aD.2.2.2.1 aD.2.2.2.2.1 aD.2.2.2.2.2.1 aD.2.2.2.2.2.2.1 aD.2.2.2.2.2.2.2.1).bind fun vN => (if vN = true then (laws_FnExactReplayLog.j0 k l1 aD.2.2.2.2.2.2.2.2 bO aF.2.2.2.2.2.2.2.2 (aF.2.2.2.2.2.2.2.2 != aD.2.2.2.2.2.2.2.2) a0_0 a0_1 l0_2 a0_3 a0_4 a0_5 a0_6 a0_7 aD.1 aD.2.1 aD.2.2.1 aD.2.2.2.1 aD.2.2.2.2.1 aD.2.2.2.2.2.1 aD.2.2.2.2.2.2.1 aD.2.2.2.2.2.2.2.1 aJ.1 aJ.2.1 aJ.2.2.1 aJ.2.2.2.1 aJ.2.2.2.2.1 aJ.2.2.2.2.2.1 aJ.2.2.2.2.2.2.1 aJ.2.2.2.2.2.2.2 aF.1 aF.2.1 aF.2.2.1 aF.2.2.2.1 aF.2.2.2.2.1 aF.2.2.2.2.2.1 aF.2.2.2.2.2.2.1 aF.2.2.2.2.2.2.2.1) else (laws_FnExactReplayLog.j0 k l1 aD.2.2.2.2.2.2.2.2 bO aF.2.2.2.2.2.2.2.2 true a0_0 a0_1 l0_2 a0_3 a0_4 a0_5 a0_6 a0_7 aD.1 aD.2.1 aD.2.2.1 aD.2.2.2.1 aD.2.2.2.2.1 aD.2.2.2.2.2.1 aD.2.2.2.2.2.2.1 aD.2.2.2.2.2.2.2.1 aJ.1 aJ.2.1 aJ.2.2.1 aJ.2.2.2.1 aJ.2.2.2.2.1 aJ.2.2.2.2.2.1 aJ.2.2.2.2.2.2.1 aJ.2.2.2.2.2.2.2 aF.1 aF.2.1 aF.2.2.1 aF.2.2.2.1 aF.2.2.2.2.1 aF.2.2.2.2.2.1 aF.2.2.2.2.2.2.1 aF.2.2.2.2.2.2.2.1))))))))))))
theorem laws_FnExactReplayLog.mono_l : ∀ k, (∀ y0 y1 y2 y3 y4 y5 y6 y7 y8 y9 vO vP vQ y13 vR vS vT vU vV vW y20 y21 y22 y23 y24 y25 vX y27 y28 y29 Bw y31 y32 Bz y34 BA BB, LeO (laws_FnExactReplayLog.j0 k y0 y1 y2 y3 y4 y5 y6 y7 y8 y9 vO vP vQ y13 vR vS vT vU vV vW y20 y21 y22 y23 y24 y25 vX y27 y28 y29 Bw y31 y32 Bz y34 BA BB) (laws_FnExactReplayLog.j0 (k + 1) y0 y1 y2 y3 y4 y5 y6 y7 y8 y9 vO vP vQ y13 vR vS vT vU vV vW y20 y21 y22 y23 y24 y25 vX y27 y28 y29 Bw y31 y32 Bz y34 BA BB)) /\ (∀ y0 y1 y2 y3 y4 y5 y6 y7 y8 y9 vO vP vQ y13 vR vS vT vU vV vW y20 y21 y22 y23 y24 y25 vX, LeO (laws_FnExactReplayLog.j1 k y0 y1 y2 y3 y4 y5 y6 y7 y8 y9 vO vP vQ y13 vR vS vT vU vV vW y20 y21 y22 y23 y24 y25 vX) (laws_FnExactReplayLog.j1 (k + 1) y0 y1 y2 y3 y4 y5 y6 y7 y8 y9 vO vP vQ y13 vR vS vT vU vV vW y20 y21 y22 y23 y24 y25 vX)) /\ (∀ y0 y1 y2 y3 y4 y5 y6 y7 y8 y9, LeO (laws_FnExactReplayLog.j2 k y0 y1 y2 y3 y4 y5 y6 y7 y8 y9) (laws_FnExactReplayLog.j2 (k + 1) y0 y1 y2 y3 y4 y5 y6 y7 y8 y9))
 | 0 => by refine ⟨?_, ?_, ?_⟩ <;> (intros; intro r h; first | (simp [laws_FnExactReplayLog.j0] at h; done) | (simp [laws_FnExactReplayLog.j1] at h; done) | (simp [laws_FnExactReplayLog.j2] at h; done))
 | k + 1 => by
  obtain ⟨jD, ih1, ih2⟩ := laws_FnExactReplayLog.mono_l k
  refine ⟨?_, ?_, ?_⟩ <;> (
   intros
   first | unfold laws_FnExactReplayLog.j0 | unfold laws_FnExactReplayLog.j1 | unfold laws_FnExactReplayLog.j2
   repeat' first | (with_reducible first | apply jD | apply ih1 | apply ih2 | apply impl_ReplayLog.mono | apply laws_eqLogEntryS.mono | apply laws_eqMachine.mono | apply laws_heldMachine.mono | apply laws_markLogEntryS.mono | apply laws_markMachine.mono | apply laws_toLogEntryS.mono | apply laws_toMachine.mono | apply spec_ReplayLog.mono | exact LeO.refl _ | exact LeO.none _ | refine LeO.ite ?_ ?_ | refine LeO.bind ?_ (fun _ => ?_)) | exact LeO.none _ | refine LeO.ite ?_ ?_ | refine LeO.bind ?_ (fun _ => ?_))
theorem laws_FnExactReplayLog.mono : ∀ a0 a1 a2 a3 a4 a5 a6 a7 a8 k, LeO (laws_FnExactReplayLog.f k a0 a1 a2 a3 a4 a5 a6 a7 a8) (laws_FnExactReplayLog.f (k + 1) a0 a1 a2 a3 a4 a5 a6 a7 a8) := by
 intro a0 a1 a2 a3 a4 a5 a6 a7 a8 k
 obtain ⟨jD, ih1, ih2⟩ := laws_FnExactReplayLog.mono_l k
 unfold laws_FnExactReplayLog.f
 repeat' first | (with_reducible first | apply jD | apply ih1 | apply ih2 | apply impl_ReplayLog.mono | apply laws_eqLogEntryS.mono | apply laws_eqMachine.mono | apply laws_heldMachine.mono | apply laws_markLogEntryS.mono | apply laws_markMachine.mono | apply laws_toLogEntryS.mono | apply laws_toMachine.mono | apply spec_ReplayLog.mono | exact LeO.refl _ | exact LeO.none _ | refine LeO.ite ?_ ?_ | refine LeO.bind ?_ (fun _ => ?_)) | exact LeO.none _ | refine LeO.ite ?_ ?_ | refine LeO.bind ?_ (fun _ => ?_)
theorem laws_FnExactReplayLog.calls (k : Nat) (a0_0 : Int) (a0_1 : Int) (A0_2 : Option Addr) (c0_2 : Nat) (l0_2 : List (S100)) (a0_3 : Int) (a0_4 : Int) (a0_5 : Int) (a0_6 : Int) (a0_7 : Int) (A1 : Option Addr) (c1 : Nat) (l1 : List (S77)) (w : World) (hr0_2 : Kd.C k100 w A0_2 l0_2.length l0_2) (hc0_2 : l0_2.length <= c0_2) (hr1 : Kd.C k77 w A1 l1.length l1) (hc1 : l1.length <= c1) (h : laws_FnExactReplayLog.f k a0_0 a0_1 l0_2 a0_3 a0_4 a0_5 a0_6 a0_7 l1 = some true) :
 Calls Try.prog 6 #[.agg #[.int .i64 a0_0, .int .i64 a0_1, .slice A0_2 l0_2.length c0_2, .int .i64 a0_3, .int .i64 a0_4, .int .i64 a0_5, .int .i64 a0_6, .int .i64 a0_7], .slice A1 l1.length c1] w fun e w' => e = .returned (.bool true) /\ Below w.heap.size w w' := by
 have Cs := Try.underlying26
 have rX := Try.underlying35
 have aM := Aside0.mk hr0_2
 have aN := Aside0.mk hc0_2
 clear hr0_2 hc0_2
 have HR1 := Aside0.mk hr1
 have jI := Aside0.mk hc1
 clear hr1 hc1
 have HB := Aside0.mk (Below.refl w.heap.size w)
 have H := h
 clear h
 unfold laws_FnExactReplayLog.f at H
 replace H := bindA H; obtain ⟨fq, A3, H⟩ := H
 replace H := ifB H; rcases H with ⟨c4b0, H⟩ | ⟨c4b0, H⟩
 · first | (obtain rfl := Option.some.inj H) | clear H
   go_enter Try.func6, Try.ntmps6
   go_wp2_with (first | ((with_reducible refine gate_dst (N := 2) rfl ?_); refine boxE (cs := #[.int .i64 a0_0, .int .i64 a0_1, .slice A0_2 l0_2.length c0_2, .int .i64 a0_3, .int .i64 a0_4, .int .i64 a0_5, .int .i64 a0_6, .int .i64 a0_7]) (t := 26) ?_; intro bi hg w5 hbox hb; refine E4b HB.1 hg hbox hb ?_; clear HB; intro HB aa rV rW; clear hb hbox hg; obtain ⟨kD, kE, kF, tq, tu, tC, tF, tH, kG, kH, kI, tJ, tK, tL, tN, tO⟩ := cz8 aa.1) | ((with_reducible refine gate_callee (f := 7) rfl ?_); refine goesM (N := (some 19)) #[.agg #[.int .i64 a0_0, .int .i64 a0_1, .slice A0_2 l0_2.length c0_2, .int .i64 a0_3, .int .i64 a0_4, .int .i64 a0_5, .int .i64 a0_6, .int .i64 a0_7], .int .i64 1048576] Try.func7 ?_; (with_reducible refine (laws_szMachine.calls a0_0 a0_1 _ _ l0_2 a0_3 a0_4 a0_5 a0_6 a0_7 1048576 fq _ ?side1 ?side2 A3.1).mono ?_); (case side1 => exact CB (C_below aM.1 HB.1)); (case side2 => exact aN.1); rintro e w7 ⟨rfl, hb⟩; refine ⟨_, rfl, ?_⟩; refine E2 (bB aa.1 hb) (bS HB.1 hb) ?_; clear aa HB; intro aa HB; (try clear hb)))
   go_ret
   exact ⟨RF, BL HB.1⟩
 replace H := bindA H; obtain ⟨ql, A8, H⟩ := H
 replace H := ifB H; rcases H with ⟨c9b0, H⟩ | ⟨c9b0, H⟩
 · first | (obtain rfl := Option.some.inj H) | clear H
   go_enter Try.func6, Try.ntmps6
   go_wp2_with (first | ((with_reducible refine gate_dst (N := 2) rfl ?_); refine boxE (cs := #[.int .i64 a0_0, .int .i64 a0_1, .slice A0_2 l0_2.length c0_2, .int .i64 a0_3, .int .i64 a0_4, .int .i64 a0_5, .int .i64 a0_6, .int .i64 a0_7]) (t := 26) ?_; intro bi hg Cm hbox hb; refine E4b HB.1 hg hbox hb ?_; clear HB; intro HB aa rV rW; clear hb hbox hg; obtain ⟨yg, yh, yj, yl, ym, yn, yo, yt, yu, yw, yx, yz, yA, yB, yC, yD⟩ := cz8 aa.1) | ((with_reducible refine gate_callee (f := 7) rfl ?_); refine goesM (N := (some 19)) #[.agg #[.int .i64 a0_0, .int .i64 a0_1, .slice A0_2 l0_2.length c0_2, .int .i64 a0_3, .int .i64 a0_4, .int .i64 a0_5, .int .i64 a0_6, .int .i64 a0_7], .int .i64 1048576] Try.func7 ?_; (with_reducible refine (laws_szMachine.calls a0_0 a0_1 _ _ l0_2 a0_3 a0_4 a0_5 a0_6 a0_7 1048576 fq _ ?side1 ?side2 A3.1).mono ?_); (case side1 => exact CB (C_below aM.1 HB.1)); (case side2 => exact aN.1); rintro e Bj ⟨rfl, hb⟩; refine ⟨_, rfl, ?_⟩; refine E2 (bB aa.1 hb) (bS HB.1 hb) ?_; clear aa HB; intro aa HB; (try clear hb)) | ((with_reducible refine gate_callee (f := 21) rfl ?_); refine goesM (N := (some 24)) #[.slice A1 l1.length c1, .int .i64 fq] Try.func21 ?_; (with_reducible refine (laws_szLogEntryS.calls _ _ l1 fq ql _ ?side1 ?side2 A8.1).mono ?_); (case side1 => exact CB (C_below HR1.1 HB.1)); (case side2 => exact jI.1); rintro e w' ⟨rfl, ⟨nd, rfl⟩⟩; refine ⟨_, rfl, ?_⟩))
   go_ret
   exact ⟨RF, BL HB.1⟩
 replace H := bindA H; obtain ⟨⟨tQ, tT, kM, tV, tX, tY, tZ, uf⟩, Ct, H⟩ := H
 dsimp only at H
 replace H := bindA H; obtain ⟨kL, Cu, H⟩ := H
 replace H := bindA H; obtain ⟨⟨dF, dG, aI, dH, dI, dJ, dK, dL, jX⟩, Cv, H⟩ := H
 dsimp only at H
 replace H := bindA H; obtain ⟨⟨dM, dN, aS, dO, dP, dQ, dR, dS⟩, Cw, H⟩ := H
 dsimp only at H
 replace H := bindA H; obtain ⟨bO, Cx, H⟩ := H
 replace H := bindA H; obtain ⟨⟨bP, bQ, aH, bR, bT, bU, bV, bW, qm⟩, Cy, H⟩ := H
 dsimp only at H
 have ug := Aside0.mk H
 clear H
 go_enter Try.func6, Try.ntmps6
 go_upto_region 12 with (first | ((with_reducible refine gate_dst (N := 2) rfl ?_); refine boxE (cs := #[.int .i64 a0_0, .int .i64 a0_1, .slice A0_2 l0_2.length c0_2, .int .i64 a0_3, .int .i64 a0_4, .int .i64 a0_5, .int .i64 a0_6, .int .i64 a0_7]) (t := 26) ?_; intro bi hg Dq hbox hb; refine E4b HB.1 hg hbox hb ?_; clear HB; intro HB aa rV rW; clear hb hbox hg; obtain ⟨qo, qp, qw, qx, qy, qz, qA, qB, qC, qD, qE, qF, qG, qH, qI, qJ⟩ := cz8 aa.1) | ((with_reducible refine gate_callee (f := 7) rfl ?_); refine goesM (N := (some 19)) #[.agg #[.int .i64 a0_0, .int .i64 a0_1, .slice A0_2 l0_2.length c0_2, .int .i64 a0_3, .int .i64 a0_4, .int .i64 a0_5, .int .i64 a0_6, .int .i64 a0_7], .int .i64 1048576] Try.func7 ?_; (with_reducible refine (laws_szMachine.calls a0_0 a0_1 _ _ l0_2 a0_3 a0_4 a0_5 a0_6 a0_7 1048576 fq _ ?side1 ?side2 A3.1).mono ?_); (case side1 => exact CB (C_below aM.1 HB.1)); (case side2 => exact aN.1); rintro e vY ⟨rfl, hb⟩; refine ⟨_, rfl, ?_⟩; refine E2 (bB aa.1 hb) (bS HB.1 hb) ?_; clear aa HB; intro aa HB; (try clear hb)) | ((with_reducible refine gate_callee (f := 21) rfl ?_); refine goesM (N := (some 24)) #[.slice A1 l1.length c1, .int .i64 fq] Try.func21 ?_; (with_reducible refine (laws_szLogEntryS.calls _ _ l1 fq ql _ ?side1 ?side2 A8.1).mono ?_); (case side1 => exact CB (C_below HR1.1 HB.1)); (case side2 => exact jI.1); rintro e w' ⟨rfl, ⟨nd, rfl⟩⟩; refine ⟨_, rfl, ?_⟩; (try (rw [drewN_self vY]; generalize hq_ : World.drewN vY _ = vY; have BC : Aside0 (vY.heap[bi]? = some (.cells #[.int .i64 a0_0, .int .i64 a0_1, .slice A0_2 l0_2.length c0_2, .int .i64 a0_3, .int .i64 a0_4, .int .i64 a0_5, .int .i64 a0_6, .int .i64 a0_7] 26 (0, 0))) := ⟨by rw [<- hq_]; exact (PB aa.1)⟩; have BD : Aside0 (Below w.heap.size w vY) := ⟨by rw [<- hq_]; exact (BL HB.1)⟩; clear aa HB hq_; have aa := BC; have HB := BD; clear BC BD)); obtain ⟨fM, fO, fP, fQ, fT, fU, fV, fZ, gm, gp, gq, gu, gy, gz, gB, gD⟩ := cz8 aa.1) | ((with_reducible refine gate_callee (f := 9) rfl ?_); refine goesM (N := (some 29)) #[.agg #[.int .i64 a0_0, .int .i64 a0_1, .slice A0_2 l0_2.length c0_2, .int .i64 a0_3, .int .i64 a0_4, .int .i64 a0_5, .int .i64 a0_6, .int .i64 a0_7]] Try.func9 ?_; (with_reducible refine (laws_toMachine.calls k a0_0 a0_1 _ _ l0_2 a0_3 a0_4 a0_5 a0_6 a0_7 tQ tT kM tV tX tY tZ uf _ ?side1 ?side2 Ct.1).mono ?_); (case side1 => exact CB (C_below aM.1 HB.1)); (case side2 => exact aN.1); rintro e Bl ⟨Cz, rfl, ho0, hb⟩; refine ⟨_, rfl, ?_⟩; refine E3 (R_lower ho0 (bZ HB.1)) (bB aa.1 hb) (bS HB.1 hb) ?_; clear aa HB; intro aB aa HB; (try clear hb); (try clear ho0)) | ((with_reducible refine gate_callee (f := 23) rfl ?_); refine goesM (N := (some 31)) #[.slice A1 l1.length c1] Try.func23 ?_; (with_reducible refine (laws_toLogEntryS.calls k _ _ l1 kL _ ?side1 ?side2 Cu.1).mono ?_); (case side1 => exact CB (C_below HR1.1 HB.1)); (case side2 => exact jI.1); rintro e Bn ⟨CE, rfl, ho0, hb⟩; refine ⟨_, rfl, ?_⟩; refine E4 (rB aB.1 hb) (R_lower ho0 (bZ HB.1)) (bB aa.1 hb) (bS HB.1 hb) ?_; clear aB aa HB; intro aB aC aa HB; (try clear hb); (try clear ho0); obtain ⟨uh, ui, Ao⟩ := R_slice aB.1; subst Ao; obtain ⟨Ap, Aq, Ar⟩ := R_slice aC.1; subst Ar) | ((with_reducible refine gate_callee (f := 25) rfl ?_); refine goesM (N := (some 32)) #[.agg #[.int .i64 tQ, .int .i64 tT, .slice uh kM.length ui, .int .i64 tV, .int .i64 tX, .int .i64 tY, .int .i64 tZ, .int .i64 uf], .slice Ap kL.length Aq] Try.func25 ?_; (with_reducible refine (spec_ReplayLog.calls k tQ tT _ _ kM tV tX tY tZ uf _ _ kL dF dG aI dH dI dJ dK dL jX _ ?side1 ?side2 ?side3 ?side4 Cv.1).mono ?_); (case side1 => exact CB (R_reads' aB.1).2.2); (case side2 => exact (R_reads' aB.1).2.1); (case side3 => exact CB (R_reads' aC.1).2.2); (case side4 => exact (R_reads' aC.1).2.1); rintro e Dr ⟨CF, rfl, ho0, hb⟩; refine ⟨_, rfl, ?_⟩; refine E5 (R_elder' (PR aB.1) (R_base ho0) hb) (rB aC.1 hb) (R_lower (R_new' ho0 (R_lt (PR aB.1))) (bZ HB.1)) (bB aa.1 hb) (bS HB.1 hb) ?_; clear aB aC aa HB; intro aB aC aG aa HB; (try clear hb); (try clear ho0)) | ((with_reducible refine gate_dst (N := 6) rfl ?_); refine boxE (cs := #[.int .i64 0, .int .i64 0, .slice none 0 0, .int .i64 0, .int .i64 0, .int .i64 0, .int .i64 0, .int .i64 0]) (t := 35) ?_; intro au hg Dt hbox hb; refine E10 (rB aB.1 hb) (rB aC.1 hb) (rB aG.1 hb) (bB aa.1 hb) (bS HB.1 hb) (hbox) (gX HB.1 hg) (gX HB.1 hg) (nB aa.1 hg) (nC aa.1 hg) ?_; clear aB aC aG aa HB; intro aB aC aG aa HB af BF BG eD fC; clear hb hbox hg; have BH := fC.1; have BI := eD.1; obtain ⟨gF, gG, gH, gI, gJ, gK, gL, gM, gN, gP, gQ, gT, gU, gV, gW, gY⟩ := cz8 af.1; obtain ⟨bn, bf, Au⟩ := R_slice aG.1; subst Au; obtain ⟨gZ, ib, ic, ig, ik, il, iq, iw, iy, iA, iB, iC, iD, iE, iF, iG⟩ := cz8 aa.1) | ((with_reducible refine gate_callee (f := 9) rfl ?_); refine goesM (N := (some 36)) #[.agg #[.int .i64 a0_0, .int .i64 a0_1, .slice A0_2 l0_2.length c0_2, .int .i64 a0_3, .int .i64 a0_4, .int .i64 a0_5, .int .i64 a0_6, .int .i64 a0_7]] Try.func9 ?_; (with_reducible refine (laws_toMachine.calls k a0_0 a0_1 _ _ l0_2 a0_3 a0_4 a0_5 a0_6 a0_7 dM dN aS dO dP dQ dR dS _ ?side1 ?side2 Cw.1).mono ?_); (case side1 => exact C_below aM.1 (BL HB.1)); (case side2 => exact aN.1); rintro e Bo ⟨CG, rfl, ho0, hb⟩; refine ⟨_, rfl, ?_⟩; refine E7 (R_elder' (by (with_reducible repeat (first | apply R_alloc | apply R_drewN | apply R_drew)); exact (R_mono (RQ au 7 (RQ au 6 (RQ au 5 (RQ au 4 (RQ au 3 (RQ au 2 (RQ au 1 (RQ au 0 (R_types aB.1 af.1 (by decide)) _) _) _) _) _) _) _) _) (fun _ h_ => h_.1))) (R_base ho0) hb) (R_below (by (with_reducible repeat (first | apply R_alloc | apply R_drewN | apply R_drew)); exact (R_mono (RQ au 7 (RQ au 6 (RQ au 5 (RQ au 4 (RQ au 3 (RQ au 2 (RQ au 1 (RQ au 0 (R_types aC.1 af.1 (by decide)) _) _) _) _) _) _) _) _) (fun _ h_ => h_.1))) hb) (R_elder' (by (with_reducible repeat (first | apply R_alloc | apply R_drewN | apply R_drew)); exact (R_mono (RQ au 7 (RQ au 6 (RQ au 5 (RQ au 4 (RQ au 3 (RQ au 2 (RQ au 1 (RQ au 0 (R_types aG.1 af.1 (by decide)) _) _) _) _) _) _) _) _) (fun _ h_ => h_.1))) (R_base ho0) hb) (R_lower (R_new' (R_new' ho0 (R_lt (by (with_reducible repeat (first | apply R_alloc | apply R_drewN | apply R_drew)); exact (R_mono (RQ au 7 (RQ au 6 (RQ au 5 (RQ au 4 (RQ au 3 (RQ au 2 (RQ au 1 (RQ au 0 (R_types aB.1 af.1 (by decide)) _) _) _) _) _) _) _) _) (fun _ h_ => h_.1))))) (R_lt (by (with_reducible repeat (first | apply R_alloc | apply R_drewN | apply R_drew)); exact (R_mono (RQ au 7 (RQ au 6 (RQ au 5 (RQ au 4 (RQ au 3 (RQ au 2 (RQ au 1 (RQ au 0 (R_types aG.1 af.1 (by decide)) _) _) _) _) _) _) _) _) (fun _ h_ => h_.1))))) (bZ HB.1)) (blk_below (g := bi) (o := .cells #[.int .i64 a0_0, .int .i64 a0_1, .slice A0_2 l0_2.length c0_2, .int .i64 a0_3, .int .i64 a0_4, .int .i64 a0_5, .int .i64 a0_6, .int .i64 a0_7] 26 (0, 0)) (PF1 eD.1 aa.1) hb) (blk_below (g := au) (o := .cells #[.int .i64 dF, .int .i64 dG, .slice bn aI.length bf, .int .i64 dH, .int .i64 dI, .int .i64 dJ, .int .i64 dK, .int .i64 dL] 35 (0, 0)) (PF0 af.1) hb) (bS HB.1 hb) ?_; clear aB aC aG aa af HB; intro aB aC aG aR aa af HB; (try clear hb); (try clear ho0)) | ((with_reducible refine gate_dst (N := 8) rfl ?_); refine boxE (cs := #[.int .i64 0, .int .i64 0, .slice none 0 0, .int .i64 0, .int .i64 0, .int .i64 0, .int .i64 0, .int .i64 0]) (t := 35) ?_; intro aj hg Bp hbox hb; refine E14 (rB aB.1 hb) (rB aC.1 hb) (rB aG.1 hb) (rB aR.1 hb) (bB aa.1 hb) (bB af.1 hb) (bS HB.1 hb) (hbox) (gX HB.1 hg) (gX HB.1 hg) (nB aa.1 hg) (nC aa.1 hg) (nB af.1 hg) (nC af.1 hg) ?_; clear aB aC aG aR aa af HB; intro aB aC aG aR aa af HB ae BJ BK dA eF eG fD; clear hb hbox hg; have rQ := eF.1; have rR := dA.1; have rT := fD.1; have rU := eG.1; obtain ⟨iH, iI, iJ, iK, iL, iM, iN, iO, iP, iQ, iR, iT, iU, iV, iW, iX⟩ := cz8 ae.1; obtain ⟨aK, aL, ku⟩ := R_slice aR.1; subst ku) | ((with_reducible refine gate_callee (f := 23) rfl ?_); refine goesM (N := (some 38)) #[.slice A1 l1.length c1] Try.func23 ?_; (with_reducible refine (laws_toLogEntryS.calls k _ _ l1 bO _ ?side1 ?side2 Cx.1).mono ?_); (case side1 => exact C_below HR1.1 (BL HB.1)); (case side2 => exact jI.1); rintro e Du ⟨CJ, rfl, ho0, hb⟩; refine ⟨_, rfl, ?_⟩; refine E9 (R_below (by (with_reducible repeat (first | apply R_alloc | apply R_drewN | apply R_drew)); exact (R_mono (RQ aj 7 (RQ aj 6 (RQ aj 5 (RQ aj 4 (RQ aj 3 (RQ aj 2 (RQ aj 1 (RQ aj 0 (R_types aB.1 ae.1 (by decide)) _) _) _) _) _) _) _) _) (fun _ h_ => h_.1))) hb) (R_elder' (by (with_reducible repeat (first | apply R_alloc | apply R_drewN | apply R_drew)); exact (R_mono (RQ aj 7 (RQ aj 6 (RQ aj 5 (RQ aj 4 (RQ aj 3 (RQ aj 2 (RQ aj 1 (RQ aj 0 (R_types aC.1 ae.1 (by decide)) _) _) _) _) _) _) _) _) (fun _ h_ => h_.1))) (R_base ho0) hb) (R_below (by (with_reducible repeat (first | apply R_alloc | apply R_drewN | apply R_drew)); exact (R_mono (RQ aj 7 (RQ aj 6 (RQ aj 5 (RQ aj 4 (RQ aj 3 (RQ aj 2 (RQ aj 1 (RQ aj 0 (R_types aG.1 ae.1 (by decide)) _) _) _) _) _) _) _) _) (fun _ h_ => h_.1))) hb) (R_below (by (with_reducible repeat (first | apply R_alloc | apply R_drewN | apply R_drew)); exact (R_mono (RQ aj 7 (RQ aj 6 (RQ aj 5 (RQ aj 4 (RQ aj 3 (RQ aj 2 (RQ aj 1 (RQ aj 0 (R_types aR.1 ae.1 (by decide)) _) _) _) _) _) _) _) _) (fun _ h_ => h_.1))) hb) (R_lower (R_new' ho0 (R_lt (by (with_reducible repeat (first | apply R_alloc | apply R_drewN | apply R_drew)); exact (R_mono (RQ aj 7 (RQ aj 6 (RQ aj 5 (RQ aj 4 (RQ aj 3 (RQ aj 2 (RQ aj 1 (RQ aj 0 (R_types aC.1 ae.1 (by decide)) _) _) _) _) _) _) _) _) (fun _ h_ => h_.1))))) (bZ HB.1)) (blk_below (g := bi) (o := .cells #[.int .i64 a0_0, .int .i64 a0_1, .slice A0_2 l0_2.length c0_2, .int .i64 a0_3, .int .i64 a0_4, .int .i64 a0_5, .int .i64 a0_6, .int .i64 a0_7] 26 (0, 0)) (PF1 dA.1 aa.1) hb) (blk_below (g := au) (o := .cells #[.int .i64 dF, .int .i64 dG, .slice bn aI.length bf, .int .i64 dH, .int .i64 dI, .int .i64 dJ, .int .i64 dK, .int .i64 dL] 35 (0, 0)) (PF1 eG.1 af.1) hb) (blk_below (g := aj) (o := .cells #[.int .i64 dM, .int .i64 dN, .slice aK aS.length aL, .int .i64 dO, .int .i64 dP, .int .i64 dQ, .int .i64 dR, .int .i64 dS] 35 (0, 0)) (PF0 ae.1) hb) (bS HB.1 hb) ?_; clear aB aC aG aR aa af ae HB; intro aB aC aG aR bL aa af ae HB; (try clear hb); (try clear ho0); obtain ⟨iY, iZ, ja, jb, jc, jd, je, jf, jg, jh, ji, jk, jl, jm, jo, jq⟩ := cz8 ae.1; obtain ⟨jy, jA, Av⟩ := R_slice bL.1; subst Av) | ((with_reducible refine gate_callee (f := 26) rfl ?_); refine goesM (N := (some 42)) #[.agg #[.int .i64 dM, .int .i64 dN, .slice aK aS.length aL, .int .i64 dO, .int .i64 dP, .int .i64 dQ, .int .i64 dR, .int .i64 dS], .slice jy bO.length jA] Try.func26 ?_; (with_reducible refine (impl_ReplayLog.calls k dM dN _ _ aS dO dP dQ dR dS _ _ bO bP bQ aH bR bT bU bV bW qm _ ?side1 ?side2 ?side3 ?side4 Cy.1).mono ?_); (case side1 => exact CB (R_reads' aR.1).2.2); (case side2 => exact (R_reads' aR.1).2.1); (case side3 => exact CB (R_reads' bL.1).2.2); (case side4 => exact (R_reads' bL.1).2.1); rintro e Dv ⟨CK, rfl, ho0, hb⟩; refine ⟨_, rfl, ?_⟩; refine E10 (R_elder' (PR aB.1) (R_base ho0) hb) (rB aC.1 hb) (R_elder' (PR aG.1) (R_base ho0) hb) (R_elder' (PR aR.1) (R_base ho0) hb) (rB bL.1 hb) (R_lower (R_new' (R_new' (R_new' ho0 (R_lt (PR aB.1))) (R_lt (PR aG.1))) (R_lt (PR aR.1))) (bZ HB.1)) (bB aa.1 hb) (bB af.1 hb) (bB ae.1 hb) (bS HB.1 hb) ?_; clear aB aC aG aR bL aa af ae HB; intro aB aC aG aR bL dD aa af ae HB; (try clear hb); (try clear ho0)) | ((with_reducible refine gate_dst (N := 10) rfl ?_); refine boxE (cs := #[.int .i64 0, .int .i64 0, .slice none 0 0, .int .i64 0, .int .i64 0, .int .i64 0, .int .i64 0, .int .i64 0]) (t := 35) ?_; intro ah hg Dw hbox hb; refine E19 (rB aB.1 hb) (rB aC.1 hb) (rB aG.1 hb) (rB aR.1 hb) (rB bL.1 hb) (rB dD.1 hb) (bB aa.1 hb) (bB af.1 hb) (bB ae.1 hb) (bS HB.1 hb) (hbox) (gX HB.1 hg) (gX HB.1 hg) (nB aa.1 hg) (nC aa.1 hg) (nB af.1 hg) (nC af.1 hg) (nB ae.1 hg) (nC ae.1 hg) ?_; clear aB aC aG aR bL dD aa af ae HB; intro aB aC aG aR bL dD aa af ae HB ag BM BN fE jY fF jZ eH fG; clear hb hbox hg; have BO := jY.1; have BP := fE.1; have BQ := jZ.1; have BR := fF.1; have BS := fG.1; have BU := eH.1; obtain ⟨qK, qL, qM, qN, qO, qP, qQ, qR, qU, qV, qW, qX, qY, qZ, q8, q9⟩ := cz8 ag.1; obtain ⟨aQ, aO, Aw⟩ := R_slice dD.1; subst Aw))
 (try simp only [Act.put, List.setIfInBounds_toArray, List.set_cons_zero, List.set_cons_succ])
 go_cut [53] (fun v53 wc => ∃ (kq : Nat) (jG : Bool), v53 = .bool jG /\ Aside0 (laws_FnExactReplayLog.j0 kq l1 jX bO qm jG a0_0 a0_1 l0_2 a0_3 a0_4 a0_5 a0_6 a0_7 dF dG aI dH dI dJ dK dL dM dN aS dO dP dQ dR dS bP bQ aH bR bT bU bV bW = some true) /\ Aside0 (kq <= k) /\ Aside0 (Kd.R k66 66 wc w.heap.size (fun _ => True) (.slice jy bO.length jA) bO) /\ Aside0 (Kd.R k98 98 wc w.heap.size (fun k_ => some k_ ≠ ((.slice aK aS.length aL) : Value).ownBlock /\ some k_ ≠ ((.slice aQ aH.length aO) : Value).ownBlock) (.slice bn aI.length bf) aI) /\ Aside0 (Kd.R k98 98 wc w.heap.size (fun k_ => some k_ ≠ ((.slice bn aI.length bf) : Value).ownBlock /\ some k_ ≠ ((.slice aQ aH.length aO) : Value).ownBlock) (.slice aK aS.length aL) aS) /\ Aside0 (Kd.R k98 98 wc w.heap.size (fun k_ => some k_ ≠ ((.slice bn aI.length bf) : Value).ownBlock /\ some k_ ≠ ((.slice aK aS.length aL) : Value).ownBlock) (.slice aQ aH.length aO) aH) /\ Aside0 (wc.heap[bi]? = some (.cells #[.int .i64 a0_0, .int .i64 a0_1, (.slice A0_2 l0_2.length c0_2), .int .i64 a0_3, .int .i64 a0_4, .int .i64 a0_5, .int .i64 a0_6, .int .i64 a0_7] 26 (0, 0))) /\ Aside0 (wc.heap[au]? = some (.cells #[.int .i64 dF, .int .i64 dG, (.slice bn aI.length bf), .int .i64 dH, .int .i64 dI, .int .i64 dJ, .int .i64 dK, .int .i64 dL] 35 (0, 0))) /\ Aside0 (wc.heap[aj]? = some (.cells #[.int .i64 dM, .int .i64 dN, (.slice aK aS.length aL), .int .i64 dO, .int .i64 dP, .int .i64 dQ, .int .i64 dR, .int .i64 dS] 35 (0, 0))) /\ Aside0 (wc.heap[ah]? = some (.cells #[.int .i64 bP, .int .i64 bQ, (.slice aQ aH.length aO), .int .i64 bR, .int .i64 bT, .int .i64 bU, .int .i64 bV, .int .i64 bW] 35 (0, 0))) /\ Aside0 (Below w.heap.size w wc))
 case first =>
  have H := ug.1
  clear ug
  replace H := bindA H; obtain ⟨vN, CO, H⟩ := H
  replace H := ifT H (by cases k <;> simp [laws_FnExactReplayLog.j0]); obtain ⟨rfl, H⟩ := H
  have H' := Aside0.mk H
  clear H
  obtain ⟨yE, yF, yG, yH, yI, yJ, yK, yL, yM, yN, yO, yP, yQ, yR, yS, yT⟩ := cz8 ag.1
  obtain ⟨yU, yV, yX, yY, yZ, za, zb, ze, zf, zg, zh, zi, zk, zl, zm, zn⟩ := cz8 af.1
  go_wp2_with (first | ((with_reducible refine gate_callee (f := 12) rfl ?_); refine goesM (N := (some 47)) #[.agg #[.int .i64 bP, .int .i64 bQ, .slice aQ aH.length aO, .int .i64 bR, .int .i64 bT, .int .i64 bU, .int .i64 bV, .int .i64 bW], .agg #[.int .i64 dF, .int .i64 dG, .slice bn aI.length bf, .int .i64 dH, .int .i64 dI, .int .i64 dJ, .int .i64 dK, .int .i64 dL]] Try.func12 ?_; (with_reducible refine (laws_eqMachine.calls k bP bQ _ _ aH bR bT bU bV bW dF dG _ _ aI dH dI dJ dK dL true _ ?side1 ?side2 ?side3 ?side4 CO.1).mono ?_); (case side1 => refine (R_reads' (e := 98) (base := w.heap.size) (ok := fun k_ => (((True /\ some k_ ≠ (.slice uh kM.length ui : Value).ownBlock) /\ some k_ ≠ (.slice bn aI.length bf : Value).ownBlock) /\ some k_ ≠ (.slice aK aS.length aL : Value).ownBlock)) (n := aH.length) (c := aO) ?_).2.2; exact (by (with_reducible repeat (first | apply R_alloc | apply R_drewN | apply R_drew)); exact (R_mono (RQ ah 7 (RQ ah 6 (RQ ah 5 (RQ ah 4 (RQ ah 3 (RQ ah 2 (RQ ah 1 (RQ ah 0 (R_types dD.1 ag.1 (by decide)) _) _) _) _) _) _) _) _) (fun _ h_ => h_.1)))); (case side2 => exact (R_reads' dD.1).2.1); (case side3 => refine (R_reads' (e := 98) (base := w.heap.size) (ok := fun k_ => (((True /\ some k_ ≠ (.slice uh kM.length ui : Value).ownBlock) /\ some k_ ≠ (.slice aK aS.length aL : Value).ownBlock) /\ some k_ ≠ (.slice aQ aH.length aO : Value).ownBlock)) (n := aI.length) (c := bf) ?_).2.2; exact (by (with_reducible repeat (first | apply R_alloc | apply R_drewN | apply R_drew)); exact (R_mono (RQ ah 7 (RQ ah 6 (RQ ah 5 (RQ ah 4 (RQ ah 3 (RQ ah 2 (RQ ah 1 (RQ ah 0 (R_types aG.1 ag.1 (by decide)) _) _) _) _) _) _) _) _) (fun _ h_ => h_.1)))); (case side4 => exact (R_reads' aG.1).2.1); rintro e Dx ⟨rfl, hb⟩; refine ⟨_, rfl, ?_⟩; refine E11 (R_below (by (with_reducible repeat (first | apply R_alloc | apply R_drewN | apply R_drew)); exact (R_mono (RQ ah 7 (RQ ah 6 (RQ ah 5 (RQ ah 4 (RQ ah 3 (RQ ah 2 (RQ ah 1 (RQ ah 0 (R_types aB.1 ag.1 (by decide)) _) _) _) _) _) _) _) _) (fun _ h_ => h_.1))) hb) (R_below (by (with_reducible repeat (first | apply R_alloc | apply R_drewN | apply R_drew)); exact (R_mono (RQ ah 7 (RQ ah 6 (RQ ah 5 (RQ ah 4 (RQ ah 3 (RQ ah 2 (RQ ah 1 (RQ ah 0 (R_types aC.1 ag.1 (by decide)) _) _) _) _) _) _) _) _) (fun _ h_ => h_.1))) hb) (R_below (by (with_reducible repeat (first | apply R_alloc | apply R_drewN | apply R_drew)); exact (R_mono (RQ ah 7 (RQ ah 6 (RQ ah 5 (RQ ah 4 (RQ ah 3 (RQ ah 2 (RQ ah 1 (RQ ah 0 (R_types aG.1 ag.1 (by decide)) _) _) _) _) _) _) _) _) (fun _ h_ => h_.1))) hb) (R_below (by (with_reducible repeat (first | apply R_alloc | apply R_drewN | apply R_drew)); exact (R_mono (RQ ah 7 (RQ ah 6 (RQ ah 5 (RQ ah 4 (RQ ah 3 (RQ ah 2 (RQ ah 1 (RQ ah 0 (R_types aR.1 ag.1 (by decide)) _) _) _) _) _) _) _) _) (fun _ h_ => h_.1))) hb) (R_below (by (with_reducible repeat (first | apply R_alloc | apply R_drewN | apply R_drew)); exact (R_mono (RQ ah 7 (RQ ah 6 (RQ ah 5 (RQ ah 4 (RQ ah 3 (RQ ah 2 (RQ ah 1 (RQ ah 0 (R_types bL.1 ag.1 (by decide)) _) _) _) _) _) _) _) _) (fun _ h_ => h_.1))) hb) (R_below (by (with_reducible repeat (first | apply R_alloc | apply R_drewN | apply R_drew)); exact (R_mono (RQ ah 7 (RQ ah 6 (RQ ah 5 (RQ ah 4 (RQ ah 3 (RQ ah 2 (RQ ah 1 (RQ ah 0 (R_types dD.1 ag.1 (by decide)) _) _) _) _) _) _) _) _) (fun _ h_ => h_.1))) hb) (blk_below (g := bi) (o := .cells #[.int .i64 a0_0, .int .i64 a0_1, .slice A0_2 l0_2.length c0_2, .int .i64 a0_3, .int .i64 a0_4, .int .i64 a0_5, .int .i64 a0_6, .int .i64 a0_7] 26 (0, 0)) (PF1 fE.1 aa.1) hb) (blk_below (g := au) (o := .cells #[.int .i64 dF, .int .i64 dG, .slice bn aI.length bf, .int .i64 dH, .int .i64 dI, .int .i64 dJ, .int .i64 dK, .int .i64 dL] 35 (0, 0)) (PF1 fF.1 af.1) hb) (blk_below (g := aj) (o := .cells #[.int .i64 dM, .int .i64 dN, .slice aK aS.length aL, .int .i64 dO, .int .i64 dP, .int .i64 dQ, .int .i64 dR, .int .i64 dS] 35 (0, 0)) (PF1 eH.1 ae.1) hb) (blk_below (g := ah) (o := .cells #[.int .i64 bP, .int .i64 bQ, .slice aQ aH.length aO, .int .i64 bR, .int .i64 bT, .int .i64 bU, .int .i64 bV, .int .i64 bW] 35 (0, 0)) (PF0 ag.1) hb) (bS HB.1 hb) ?_; clear aB aC aG aR bL dD aa af ae ag HB; intro aB aC aG aR bL dD aa af ae ag HB; (try clear hb)))
  go_meet
  case rel => exact ⟨_, ((qm != jX)), RG, H', ⟨by first | omega | exact Nat.le_refl _⟩, ⟨RPE (R_mono bL.1 (fun _ hk => trivial))⟩, ⟨RPE (R_mono aG.1 (fun _ hk => ⟨hk.1.2, hk.2⟩))⟩, ⟨RPE (R_mono aR.1 (fun _ hk => ⟨hk.1.2, hk.2⟩))⟩, ⟨RPE (R_mono dD.1 (fun _ hk => ⟨hk.1.2, hk.2⟩))⟩, ⟨PB aa.1⟩, ⟨PB af.1⟩, ⟨PB ae.1⟩, ⟨PB ag.1⟩, ⟨BL HB.1⟩⟩
 clear ug
 try clear c1; clear c4b0 c9b0 qo qp qw qx qy qz qA qB fM fO fP fQ fT fU fV fZ gF gG gH gI gJ gK gL gM gZ ib ic ig ik il iq iw iH iI iJ iK iL iM iN iO iY iZ ja jb jc jd je jf qK qL qM qN qO qP qQ qR qC qD qE qF qG qH qI qJ gm gp gq gu gy gz gB gD gN gP gQ gT gU gV gW gY iy iA iB iC iD iE iF iG iP iQ iR iT iU iV iW iX jg jh ji jk jl jm jo jq qU qV qW qX qY qZ q8 q9
 obtain ⟨kq, jG, rfl, HA, vZ, HO_9, HO_849002, HO_860002, HO_875002, aa, af, ae, ag, HB⟩ := hcut
 cases kq with
 | zero => exact absurd HA.1 (by simp [laws_FnExactReplayLog.j0])
 | succ fu => ?_
 have H := HA.1
 clear HA
 simp only [laws_FnExactReplayLog.j0] at H
 replace H := ifF H (by simp); obtain ⟨rfl, H⟩ := H
 replace H := bindA H; obtain ⟨⟨uj, uk, jB, ul, um, uo, uq, ut⟩, CP, H⟩ := H
 dsimp only at H
 replace H := bindA H; obtain ⟨vH, CQ, H⟩ := H
 replace H := ifT H (by simp); obtain ⟨rfl, H⟩ := H
 replace H := bindA H; obtain ⟨jW, CR, H⟩ := H
 replace H := bindA H; obtain ⟨vI, CS, H⟩ := H
 replace H := ifT H (by simp); obtain ⟨rfl, H⟩ := H
 replace H := bindA H; obtain ⟨⟨uu, eU⟩, CU, H⟩ := H
 dsimp only at H
 replace H := bindA H; obtain ⟨⟨Ay, Az⟩, CV, H⟩ := H
 dsimp only at H
 have uw := Aside0.mk H
 clear H
 try go_wp2
 refine E9 (R_drew HO_9.1) (R_drew HO_849002.1) (R_drew HO_860002.1) (R_drew HO_875002.1) (blk_drew aa.1) (blk_drew af.1) (blk_drew ae.1) (blk_drew ag.1) (below_drew1 HB.1) ?_
 clear HO_9 HO_849002 HO_860002 HO_875002 aa af ae ag HB
 intro HO_9 HO_849002 HO_860002 HO_875002 aa af ae ag HB
 refine start_ (n := 5) (S := fun w' => w'.cell? ⟨aj, 0, none⟩ = some (.int .i64 dM) /\ w'.cell? ⟨aj, 1, none⟩ = some (.int .i64 dN) /\ w'.cell? ⟨aj, 2, none⟩ = some (.slice aK aS.length aL) /\ w'.cell? ⟨aj, 3, none⟩ = some (.int .i64 dO) /\ w'.cell? ⟨aj, 4, none⟩ = some (.int .i64 dP) /\ w'.cell? ⟨aj, 5, none⟩ = some (.int .i64 dQ) /\ w'.cell? ⟨aj, 6, none⟩ = some (.int .i64 dR) /\ w'.cell? ⟨aj, 7, none⟩ = some (.int .i64 dS) /\ w'.cell? ⟨bi, 0, none⟩ = some (.int .i64 a0_0) /\ w'.cell? ⟨bi, 1, none⟩ = some (.int .i64 a0_1) /\ w'.cell? ⟨bi, 2, none⟩ = some (.slice A0_2 l0_2.length c0_2) /\ w'.cell? ⟨bi, 3, none⟩ = some (.int .i64 a0_3) /\ w'.cell? ⟨bi, 4, none⟩ = some (.int .i64 a0_4) /\ w'.cell? ⟨bi, 5, none⟩ = some (.int .i64 a0_5) /\ w'.cell? ⟨bi, 6, none⟩ = some (.int .i64 a0_6) /\ w'.cell? ⟨bi, 7, none⟩ = some (.int .i64 a0_7)) (ds := []) #[Zz,Zz,Zz,Zz,Zz] (by kernel_rfl) rfl rfl ⟨(blk_cell ae.1 0).trans rfl, (blk_cell ae.1 1).trans rfl, (blk_cell ae.1 2).trans rfl, (blk_cell ae.1 3).trans rfl, (blk_cell ae.1 4).trans rfl, (blk_cell ae.1 5).trans rfl, (blk_cell ae.1 6).trans rfl, (blk_cell ae.1 7).trans rfl, (blk_cell aa.1 0).trans rfl, (blk_cell aa.1 1).trans rfl, (blk_cell aa.1 2).trans rfl, (blk_cell aa.1 3).trans rfl, (blk_cell aa.1 4).trans rfl, (blk_cell aa.1 5).trans rfl, (blk_cell aa.1 6).trans rfl, (blk_cell aa.1 7).trans rfl⟩ (fun hHeld => ?_)
 generalize wc.drew = Dy at HO_9 HO_849002 HO_860002 HO_875002 aa af ae ag HB hHeld ⊢
 refine takeF 0 (N := some 54) hHeld ?_
 refine takeF 1 (N := some 55) hHeld ?_
 refine one_ (i := 2) (N := some 56) #[Yy,Yy,Yy,Zz,Zz] rfl rfl (by kernel_rfl) (by decide) (fun K hK => ?_)
 refine goes_ Try.func9 (by kernel_rfl) rfl #[.agg #[.int .i64 a0_0, .int .i64 a0_1, .slice A0_2 l0_2.length c0_2, .int .i64 a0_3, .int .i64 a0_4, .int .i64 a0_5, .int .i64 a0_6, .int .i64 a0_7]] (by rfl) rfl rfl (by (try simp only [List.map_toArray, List.map_cons, List.map_nil]); first | done | rfl | (simp only [List.length_drop, List.length_take]; rfl)) ?_
 with_reducible refine (laws_toMachine.calls fu a0_0 a0_1 _ _ l0_2 a0_3 a0_4 a0_5 a0_6 a0_7 uj uk jB ul um uo uq ut _ ?side1 ?side2 CP.1).mono ?_
 (case side1 => exact CB (C_below aM.1 HB.1))
 (case side2 => exact aN.1)
 rintro e Dz ⟨CW, rfl, ho0, hb⟩
 refine ⟨_, rfl, ?_⟩
 refine E10 (rB HO_9.1 hb) (R_elder' (PR HO_849002.1) (R_base ho0) hb) (R_elder' (PR HO_860002.1) (R_base ho0) hb) (R_elder' (PR HO_875002.1) (R_base ho0) hb) (R_lower (R_new' (R_new' (R_new' ho0 (R_lt (PR HO_849002.1))) (R_lt (PR HO_860002.1))) (R_lt (PR HO_875002.1))) (bZ HB.1)) (bB aa.1 hb) (bB af.1 hb) (bB ae.1 hb) (bB ag.1 hb) (bS HB.1 hb) ?_
 clear HO_9 HO_849002 HO_860002 HO_875002 aa af ae ag HB
 intro HO_9 HO_849002 HO_860002 HO_875002 aP aa af ae ag HB
 (try clear hb)
 (try clear hb2)
 (try clear hk)
 (try clear hi)
 (try clear ho0)
 obtain ⟨j3, j4, wh⟩ := R_slice aP.1
 (first | subst wh | (injection wh with BV CX BX; have CY := BV.symm; have CZ := BX.symm; clear BV CX BX; subst CY; subst CZ))
 refine hK.out _ _ ⟨(blk_cell ae.1 0).trans rfl, (blk_cell ae.1 1).trans rfl, (blk_cell ae.1 2).trans rfl, (blk_cell ae.1 3).trans rfl, (blk_cell ae.1 4).trans rfl, (blk_cell ae.1 5).trans rfl, (blk_cell ae.1 6).trans rfl, (blk_cell ae.1 7).trans rfl, (blk_cell aa.1 0).trans rfl, (blk_cell aa.1 1).trans rfl, (blk_cell aa.1 2).trans rfl, (blk_cell aa.1 3).trans rfl, (blk_cell aa.1 4).trans rfl, (blk_cell aa.1 5).trans rfl, (blk_cell aa.1 6).trans rfl, (blk_cell aa.1 7).trans rfl⟩ (fun hHeld => ?_)
 clear hK K
 refine norm_ (a' := ?_) ?_ ?_
 rotate_left
 · show Act.put _ (some 56) _ = _
   simp only [Act.put, List.setIfInBounds_toArray, List.set_cons_zero, List.set_cons_succ, i64_w, i32_w]
   rfl
 refine one_ (i := 3) (N := some 57) #[Yy,Yy,Yy,Yy,Zz] rfl rfl (by kernel_rfl) (by decide) (fun K hK => ?_)
 refine goes_ Try.func12 (by kernel_rfl) rfl #[.agg #[.int .i64 dM, .int .i64 dN, .slice aK aS.length aL, .int .i64 dO, .int .i64 dP, .int .i64 dQ, .int .i64 dR, .int .i64 dS], .agg #[.int .i64 uj, .int .i64 uk, .slice j3 jB.length j4, .int .i64 ul, .int .i64 um, .int .i64 uo, .int .i64 uq, .int .i64 ut]] (by rfl) rfl rfl (by (try simp only [List.map_toArray, List.map_cons, List.map_nil]); first | done | rfl | (simp only [List.length_drop, List.length_take]; rfl)) ?_
 with_reducible refine (laws_eqMachine.calls fu dM dN _ _ aS dO dP dQ dR dS uj uk _ _ jB ul um uo uq ut true _ ?side1 ?side2 ?side3 ?side4 CQ.1).mono ?_
 (case side1 => exact CB (R_reads' HO_860002.1).2.2)
 (case side2 => exact (R_reads' HO_860002.1).2.1)
 (case side3 => exact CB (R_reads' aP.1).2.2)
 (case side4 => exact (R_reads' aP.1).2.1)
 rintro e DC ⟨rfl, hb⟩
 refine ⟨_, rfl, ?_⟩
 refine E10 (rB HO_9.1 hb) (rB HO_849002.1 hb) (rB HO_860002.1 hb) (rB HO_875002.1 hb) (rB aP.1 hb) (bB aa.1 hb) (bB af.1 hb) (bB ae.1 hb) (bB ag.1 hb) (bS HB.1 hb) ?_
 clear HO_9 HO_849002 HO_860002 HO_875002 aP aa af ae ag HB
 intro HO_9 HO_849002 HO_860002 HO_875002 aP aa af ae ag HB
 (try clear hb)
 (try clear hb2)
 (try clear hk)
 (try clear hi)
 refine hK.out _ _ ⟨(blk_cell ae.1 0).trans rfl, (blk_cell ae.1 1).trans rfl, (blk_cell ae.1 2).trans rfl, (blk_cell ae.1 3).trans rfl, (blk_cell ae.1 4).trans rfl, (blk_cell ae.1 5).trans rfl, (blk_cell ae.1 6).trans rfl, (blk_cell ae.1 7).trans rfl, (blk_cell aa.1 0).trans rfl, (blk_cell aa.1 1).trans rfl, (blk_cell aa.1 2).trans rfl, (blk_cell aa.1 3).trans rfl, (blk_cell aa.1 4).trans rfl, (blk_cell aa.1 5).trans rfl, (blk_cell aa.1 6).trans rfl, (blk_cell aa.1 7).trans rfl⟩ (fun hHeld => ?_)
 clear hK K
 refine norm_ (a' := ?_) ?_ ?_
 rotate_left
 · show Act.put _ (some 57) _ = _
   simp only [Act.put, List.setIfInBounds_toArray, List.set_cons_zero, List.set_cons_succ, i64_w, i32_w]
   rfl
 refine pure_ (i := 4) (N := some 58) (v := ?_) (a' := ?_) #[Yy,Yy,Yy,Yy,Yy] rfl rfl (by kernel_rfl) (fun _ _ _ h => h) (Or.inl ⟨by rfl, ?_⟩) ?_ ?_
 rotate_left
 · intro w'
   go_simp
   with_reducible rfl
 rotate_left
 · simp only [Act.put, List.setIfInBounds_toArray, List.set_cons_zero, List.set_cons_succ, i64_w, i32_w]
   rfl
 refine done_ (by kernel_rfl) ?_
 go_upto_region 21 with (first | ((with_reducible refine gate_callee (f := 23) rfl ?_); refine goesM (N := (some 61)) #[.slice A1 l1.length c1] Try.func23 ?_; (with_reducible refine (laws_toLogEntryS.calls fu _ _ l1 jW _ ?side1 ?side2 CR.1).mono ?_); (case side1 => exact CB (C_below HR1.1 HB.1)); (case side2 => exact jI.1); rintro e DD ⟨C8, rfl, ho0, hb⟩; refine ⟨_, rfl, ?_⟩; refine E11 (R_elder' (PR HO_9.1) (R_base ho0) hb) (rB HO_849002.1 hb) (rB HO_860002.1 hb) (rB HO_875002.1 hb) (rB aP.1 hb) (R_lower (R_new' ho0 (R_lt (PR HO_9.1))) (bZ HB.1)) (bB aa.1 hb) (bB af.1 hb) (bB ae.1 hb) (bB ag.1 hb) (bS HB.1 hb) ?_; clear HO_9 HO_849002 HO_860002 HO_875002 aP aa af ae ag HB; intro HO_9 HO_849002 HO_860002 HO_875002 aP bC aa af ae ag HB; (try clear hb); (try clear ho0); obtain ⟨wm, wo, AA⟩ := R_slice bC.1; subst AA) | ((with_reducible refine gate_callee (f := 18) rfl ?_); refine goesM (N := (some 62)) #[.slice jy bO.length jA, .slice wm jW.length wo] Try.func18 ?_; (with_reducible refine (laws_eqLogEntryS.calls fu _ _ bO _ _ jW true _ ?side1 ?side2 ?side3 ?side4 CS.1).mono ?_); (case side1 => exact CB (R_reads' HO_9.1).2.2); (case side2 => exact (R_reads' HO_9.1).2.1); (case side3 => exact CB (R_reads' bC.1).2.2); (case side4 => exact (R_reads' bC.1).2.1); rintro e DF ⟨rfl, hb⟩; refine ⟨_, rfl, ?_⟩; refine E11 (rB HO_9.1 hb) (rB HO_849002.1 hb) (rB HO_860002.1 hb) (rB HO_875002.1 hb) (rB aP.1 hb) (rB bC.1 hb) (bB aa.1 hb) (bB af.1 hb) (bB ae.1 hb) (bB ag.1 hb) (bS HB.1 hb) ?_; clear HO_9 HO_849002 HO_860002 HO_875002 aP bC aa af ae ag HB; intro HO_9 HO_849002 HO_860002 HO_875002 aP bC aa af ae ag HB; (try clear hb); have BZ := eF.1; have Ca := dA.1; have Cb := fD.1; have Cc := eG.1; have Ce := eH.1; have Cf := fG.1; obtain ⟨rf, rq, ru, ry, rz, rA, rC, rD, rE, rF, rG, rH, rJ, rM, rO, rP⟩ := cz8 ae.1) | ((with_reducible refine gate_callee (f := 13) rfl ?_); refine goesM (N := (some 66)) #[.agg #[.int .i64 dM, .int .i64 dN, .slice aK aS.length aL, .int .i64 dO, .int .i64 dP, .int .i64 dQ, .int .i64 dR, .int .i64 dS], .int .i64 1] Try.func13 ?_; (with_reducible refine (laws_markMachine.calls fu dM dN (fun k_ => some k_ = (.slice aK aS.length aL : Value).ownBlock) (.slice aK aS.length aL) aS dO dP dQ dR dS 1 uu eU w _ ?side1 ?side2 CU.1).mono ?_); (case side1 => exact BL HB.1); (case side2 => exact R_tight rfl HO_860002.1); rintro e DI ⟨rfl, hy0, hb, hkp⟩; refine ⟨_, rfl, ?_⟩; refine E11 (R_mono (ok' := fun k_ => some k_ ≠ (.slice wm jW.length wo : Value).ownBlock) (R_keptB ((R_apart' HO_9.1 (R_typed HO_860002.1) (by decide))) hkp (fun k_ hk_ hs_ => (hk_.2) hs_)) (fun k_ hk_ => hk_.1.1.2)) (R_mono (ok' := fun k_ => some k_ ≠ (.slice aK aS.length aL : Value).ownBlock /\ some k_ ≠ (.slice aQ aH.length aO : Value).ownBlock /\ some k_ ≠ (.slice j3 jB.length j4 : Value).ownBlock) (R_keptB (HO_849002.1) hkp (fun k_ hk_ hs_ => (hk_.1.1) hs_)) (fun k_ hk_ => ⟨hk_.1.1.1, hk_.1.1.2, hk_.1.2⟩)) (R_reok rfl hy0 (fun k_ e_ => HO_860002.1.1 k_ e_)) (R_mono (ok' := fun k_ => some k_ ≠ (.slice bn aI.length bf : Value).ownBlock /\ some k_ ≠ (.slice aK aS.length aL : Value).ownBlock /\ some k_ ≠ (.slice j3 jB.length j4 : Value).ownBlock) (R_keptB (HO_875002.1) hkp (fun k_ hk_ hs_ => (hk_.1.2) hs_)) (fun k_ hk_ => ⟨hk_.1.1.1, hk_.1.1.2, hk_.1.2⟩)) (blk_kept (PB aa.1) hkp (fun hs_ => (fun e_ => (R_ne HO_860002.1 aa.1 (by decide)) e_) hs_)) (blk_kept (PB af.1) hkp (fun hs_ => (fun e_ => (R_ne HO_860002.1 af.1 (by decide)) e_) hs_)) (blk_kept (PB ae.1) hkp (fun hs_ => (fun e_ => (R_ne HO_860002.1 ae.1 (by decide)) e_) hs_)) (blk_kept (PB ag.1) hkp (fun hs_ => (fun e_ => (R_ne HO_860002.1 ag.1 (by decide)) e_) hs_)) (R_mono (ok' := fun k_ => some k_ ≠ (.slice bn aI.length bf : Value).ownBlock /\ some k_ ≠ (.slice aK aS.length aL : Value).ownBlock /\ some k_ ≠ (.slice aQ aH.length aO : Value).ownBlock) (R_keptB (aP.1) hkp (fun k_ hk_ hs_ => (hk_.1.2) hs_)) (fun k_ hk_ => ⟨hk_.1.1.1.2, hk_.1.1.2, hk_.1.2⟩)) (R_mono (ok' := fun k_ => some k_ ≠ (.slice jy bO.length jA : Value).ownBlock) (R_keptB ((R_apart' bC.1 (R_typed HO_860002.1) (by decide))) hkp (fun k_ hk_ hs_ => (hk_.2) hs_)) (fun k_ hk_ => hk_.1.1.2)) (hb) ?_; clear HO_9 HO_849002 HO_860002 HO_875002 aa af ae ag aP bC HB; intro HO_9 HO_849002 HO_860002 HO_875002 aa af ae ag aP bC HB; (try clear hb); (try clear hkp); (try clear hy0)) | ((with_reducible refine gate_callee (f := 19) rfl ?_); refine goesM (N := (some 69)) #[.slice jy bO.length jA, .int .i64 uu] Try.func19 ?_; (with_reducible refine (laws_markLogEntryS.calls fu (fun k_ => some k_ = (.slice jy bO.length jA : Value).ownBlock) (.slice jy bO.length jA) bO uu Ay Az w _ ?side1 ?side2 CV.1).mono ?_); (case side1 => exact BL HB.1); (case side2 => exact R_tight rfl HO_9.1); rintro e DJ ⟨rfl, hy0, hb, hkp⟩; refine ⟨_, rfl, ?_⟩; refine E11 (R_reok rfl hy0 (fun k_ e_ => HO_9.1.1 k_ e_)) (R_mono (ok' := fun k_ => some k_ ≠ (.slice aK aS.length aL : Value).ownBlock /\ some k_ ≠ (.slice aQ aH.length aO : Value).ownBlock /\ some k_ ≠ (.slice j3 jB.length j4 : Value).ownBlock) (R_keptB ((R_apart' HO_849002.1 (R_typed HO_9.1) (by decide))) hkp (fun k_ hk_ hs_ => (hk_.2) hs_)) (fun k_ hk_ => ⟨hk_.1.1.1, hk_.1.1.2.1, hk_.1.1.2.2⟩)) (R_mono (ok' := fun k_ => some k_ ≠ (.slice bn aI.length bf : Value).ownBlock /\ some k_ ≠ (.slice aQ aH.length aO : Value).ownBlock /\ some k_ ≠ (.slice j3 jB.length j4 : Value).ownBlock) (R_keptB ((R_apart' HO_860002.1 (R_typed HO_9.1) (by decide))) hkp (fun k_ hk_ hs_ => (hk_.2) hs_)) (fun k_ hk_ => ⟨hk_.1.1.1.1, hk_.1.1.1.2, hk_.1.1.2⟩)) (R_mono (ok' := fun k_ => some k_ ≠ (.slice bn aI.length bf : Value).ownBlock /\ some k_ ≠ (.slice aK aS.length aL : Value).ownBlock /\ some k_ ≠ (.slice j3 jB.length j4 : Value).ownBlock) (R_keptB ((R_apart' HO_875002.1 (R_typed HO_9.1) (by decide))) hkp (fun k_ hk_ hs_ => (hk_.2) hs_)) (fun k_ hk_ => ⟨hk_.1.1.1, hk_.1.1.2.1, hk_.1.1.2.2⟩)) (blk_kept (PB aa.1) hkp (fun hs_ => (fun e_ => (R_ne HO_9.1 aa.1 (by decide)) e_) hs_)) (blk_kept (PB af.1) hkp (fun hs_ => (fun e_ => (R_ne HO_9.1 af.1 (by decide)) e_) hs_)) (blk_kept (PB ae.1) hkp (fun hs_ => (fun e_ => (R_ne HO_9.1 ae.1 (by decide)) e_) hs_)) (blk_kept (PB ag.1) hkp (fun hs_ => (fun e_ => (R_ne HO_9.1 ag.1 (by decide)) e_) hs_)) (R_mono (ok' := fun k_ => some k_ ≠ (.slice bn aI.length bf : Value).ownBlock /\ some k_ ≠ (.slice aK aS.length aL : Value).ownBlock /\ some k_ ≠ (.slice aQ aH.length aO : Value).ownBlock) (R_keptB ((R_apart' aP.1 (R_typed HO_9.1) (by decide))) hkp (fun k_ hk_ hs_ => (hk_.2) hs_)) (fun k_ hk_ => ⟨hk_.1.1.1, hk_.1.1.2.1, hk_.1.1.2.2⟩)) (R_mono (ok' := fun k_ => some k_ ≠ (.slice jy bO.length jA : Value).ownBlock) (R_keptB (bC.1) hkp (fun k_ hk_ hs_ => (hk_) hs_)) (fun k_ hk_ => hk_.1)) (hb) ?_; clear HO_9 HO_849002 HO_860002 HO_875002 aa af ae ag aP bC HB; intro HO_9 HO_849002 HO_860002 HO_875002 aa af ae ag aP bC HB; (try clear hb); (try clear hkp); (try clear hy0)))
 (try simp only [Act.put, List.setIfInBounds_toArray, List.set_cons_zero, List.set_cons_succ])
 go_cut [82] (fun v82 wc => ∃ (kq : Nat) (jH : Bool), v82 = .bool jH /\ Aside0 (laws_FnExactReplayLog.j1 kq l1 jX jH a0_0 a0_1 l0_2 a0_3 a0_4 a0_5 a0_6 a0_7 dF dG aI dH dI dJ dK dL bP bQ aH bR bT bU bV bW = some true) /\ Aside0 (kq <= fu) /\ Aside0 (Kd.R k98 98 wc w.heap.size (fun k_ => some k_ ≠ ((.slice aK aS.length aL) : Value).ownBlock /\ some k_ ≠ ((.slice aQ aH.length aO) : Value).ownBlock) (.slice bn aI.length bf) aI) /\ Aside0 (Kd.R k98 98 wc w.heap.size (fun k_ => some k_ ≠ ((.slice bn aI.length bf) : Value).ownBlock /\ some k_ ≠ ((.slice aQ aH.length aO) : Value).ownBlock) (.slice aK aS.length aL) eU) /\ Aside0 (Kd.R k98 98 wc w.heap.size (fun k_ => some k_ ≠ ((.slice bn aI.length bf) : Value).ownBlock /\ some k_ ≠ ((.slice aK aS.length aL) : Value).ownBlock) (.slice aQ aH.length aO) aH) /\ Aside0 (wc.heap[bi]? = some (.cells #[.int .i64 a0_0, .int .i64 a0_1, (.slice A0_2 l0_2.length c0_2), .int .i64 a0_3, .int .i64 a0_4, .int .i64 a0_5, .int .i64 a0_6, .int .i64 a0_7] 26 (0, 0))) /\ Aside0 (wc.heap[au]? = some (.cells #[.int .i64 dF, .int .i64 dG, (.slice bn aI.length bf), .int .i64 dH, .int .i64 dI, .int .i64 dJ, .int .i64 dK, .int .i64 dL] 35 (0, 0))) /\ Aside0 (wc.heap[aj]? = some (.cells #[.int .i64 dM, .int .i64 dN, (.slice aK aS.length aL), .int .i64 dO, .int .i64 dP, .int .i64 dQ, .int .i64 dR, .int .i64 dS] 35 (0, 0))) /\ Aside0 (wc.heap[ah]? = some (.cells #[.int .i64 bP, .int .i64 bQ, (.slice aQ aH.length aO), .int .i64 bR, .int .i64 bT, .int .i64 bU, .int .i64 bV, .int .i64 bW] 35 (0, 0))) /\ Aside0 (Below w.heap.size w wc))
 case first =>
  have H := uw.1
  clear uw
  replace H := ifQ H; rcases H with ⟨c91, H⟩ | ⟨c91, H⟩
  · exact absurd H (by cases fu <;> simp [laws_FnExactReplayLog.j1])
  have c91b0 := decide_eq_false c91
  clear c91
  (first | rw [c91b0] | (simp only [i64_w, i32_w]; rw [c91b0]) | skip)
  replace H := bindA H; obtain ⟨vL, C9, H⟩ := H
  replace H := ifT H (by cases fu <;> simp [laws_FnExactReplayLog.j1]); obtain ⟨rfl, H⟩ := H
  have H' := Aside0.mk H
  clear H
  obtain ⟨zo, zq, zt, zu, zw, zx, zy, zz, zA, zB, zC, zD, zF, zG, zH, zI⟩ := cz8 ag.1
  obtain ⟨wu, ww, wy, wz, wB, wC, wD, wE, wF, wG, wH, wI, wJ, wK, wL, wM⟩ := cz8 af.1
  go_wp2_with (first | (go_at_call 12; (with_reducible refine (laws_eqMachine.calls fu bP bQ _ _ aH bR bT bU bV bW dF dG _ _ aI dH dI dJ dK dL true _ ?side1 ?side2 ?side3 ?side4 C9.1).mono ?_); (case side1 => exact CB (R_reads' HO_875002.1).2.2); (case side2 => exact (R_reads' HO_875002.1).2.1); (case side3 => exact CB (R_reads' HO_849002.1).2.2); (case side4 => exact (R_reads' HO_849002.1).2.1); rintro e Da ⟨rfl, hb⟩; refine E11 (rB HO_9.1 hb) (rB HO_849002.1 hb) (rB HO_860002.1 hb) (rB HO_875002.1 hb) (rB aP.1 hb) (rB bC.1 hb) (bB aa.1 hb) (bB af.1 hb) (bB ae.1 hb) (bB ag.1 hb) (bS HB.1 hb) ?_; clear HO_9 HO_849002 HO_860002 HO_875002 aP bC aa af ae ag HB; intro HO_9 HO_849002 HO_860002 HO_875002 aP bC aa af ae ag HB; (try clear hb)))
  go_meet
  case rel => exact ⟨_, ((qm != jX)), RG, H', ⟨by have := vZ.1; first | omega | exact Nat.le_refl _⟩, ⟨RPE (R_mono HO_849002.1 (fun _ hk => ⟨hk.1, hk.2.1⟩))⟩, ⟨RPE (R_mono HO_860002.1 (fun _ hk => ⟨hk.1, hk.2.1⟩))⟩, ⟨RPE (R_mono HO_875002.1 (fun _ hk => ⟨hk.1, hk.2.1⟩))⟩, ⟨PB aa.1⟩, ⟨PB af.1⟩, ⟨PB ae.1⟩, ⟨PB ag.1⟩, ⟨BL HB.1⟩⟩
 clear uw
 try clear c1; clear rf rq ru ry rz rA rC rD rE rF rG rH rJ rM rO rP
 obtain ⟨kq, jH, rfl, HA, AB, HO_849002, HO_860002, HO_875002, aa, af, ae, ag, HB⟩ := hcut
 have ak := (R_reads' HO_860002.1).1
 rw [ak] at HO_860002
 (try simp only [ak])
 (try simp only [ak] at aa)
 (try simp only [ak] at af)
 (try simp only [ak] at ae)
 (try simp only [ak] at ag)
 (try simp only [ak] at HO_849002)
 (try simp only [ak] at HO_875002)
 cases kq with
 | zero => exact absurd HA.1 (by simp [laws_FnExactReplayLog.j1])
 | succ jC => ?_
 have H := HA.1
 clear HA
 simp only [laws_FnExactReplayLog.j1] at H
 replace H := ifF H (by simp); obtain ⟨rfl, H⟩ := H
 replace H := bindA H; obtain ⟨⟨wN, jr⟩, AC, H⟩ := H
 dsimp only at H
 replace H := bindA H; obtain ⟨qi, AF, H⟩ := H
 replace H := ifQ H; rcases H with ⟨uy, H⟩ | ⟨uy, H⟩
 · exact absurd H (by simp)
 have c113b0 := decide_eq_false uy
 clear uy
 first | replace H := ifP H | replace H := ifPf H
 obtain ⟨uz, H⟩ := H
 have c121b0 := beq_iff_eq.mpr uz
 have c121b1 := bne_eq_false_iff_eq.mpr uz
 clear uz
 replace H := bindA H; obtain ⟨⟨uA, uB, kN, uC, uD, uE, uF, uG⟩, AJ, H⟩ := H
 dsimp only at H
 replace H := bindA H; obtain ⟨kK, AL, H⟩ := H
 replace H := bindA H; obtain ⟨⟨kP, kQ, eX, kR, kS, kT, kU, kV, wO⟩, AO, H⟩ := H
 dsimp only at H
 have kW := Aside0.mk H
 clear H
 obtain ⟨kX, kY, kZ, lc, lg, lh, ll, lm, lq, lu, lv, lw, lC, lD, lF, lG⟩ := cz8 ag.1
 go_upto_region 32 with (first | ((with_reducible refine gate_callee (f := 13) rfl ?_); refine goesM (N := (some 85)) #[.agg #[.int .i64 bP, .int .i64 bQ, .slice aQ aH.length aO, .int .i64 bR, .int .i64 bT, .int .i64 bU, .int .i64 bV, .int .i64 bW], .int .i64 1] Try.func13 ?_; (with_reducible refine (laws_markMachine.calls jC bP bQ (fun k_ => some k_ = (.slice aQ aH.length aO : Value).ownBlock) (.slice aQ aH.length aO) aH bR bT bU bV bW 1 wN jr w _ ?side1 ?side2 AC.1).mono ?_); (case side1 => exact BL HB.1); (case side2 => exact R_tight rfl HO_875002.1); rintro e Db ⟨rfl, hy0, hb, hkp⟩; refine ⟨_, rfl, ?_⟩; refine E8 (R_mono (ok' := fun k_ => some k_ ≠ (.slice aK eU.length aL : Value).ownBlock /\ some k_ ≠ (.slice aQ aH.length aO : Value).ownBlock) (R_keptB (HO_849002.1) hkp (fun k_ hk_ hs_ => (hk_.2) hs_)) (fun k_ hk_ => ⟨hk_.1.1, hk_.1.2⟩)) (R_mono (ok' := fun k_ => some k_ ≠ (.slice bn aI.length bf : Value).ownBlock /\ some k_ ≠ (.slice aQ aH.length aO : Value).ownBlock) (R_keptB (HO_860002.1) hkp (fun k_ hk_ hs_ => (hk_.2) hs_)) (fun k_ hk_ => ⟨hk_.1.1, hk_.1.2⟩)) (R_reok rfl hy0 (fun k_ e_ => HO_875002.1.1 k_ e_)) (blk_kept (PB aa.1) hkp (fun hs_ => (fun e_ => (R_ne HO_875002.1 aa.1 (by decide)) e_) hs_)) (blk_kept (PB af.1) hkp (fun hs_ => (fun e_ => (R_ne HO_875002.1 af.1 (by decide)) e_) hs_)) (blk_kept (PB ae.1) hkp (fun hs_ => (fun e_ => (R_ne HO_875002.1 ae.1 (by decide)) e_) hs_)) (blk_kept (PB ag.1) hkp (fun hs_ => (fun e_ => (R_ne HO_875002.1 ag.1 (by decide)) e_) hs_)) (hb) ?_; clear HO_849002 HO_860002 HO_875002 aa af ae ag HB; intro HO_849002 HO_860002 HO_875002 aa af ae ag HB; (try clear hb); (try clear hkp); (try clear hy0); obtain ⟨lH, lI, lJ, lK, lL, lM, lN, lQ, lS, lT, lU, lV, lW, lX, lY, lZ⟩ := cz8 ag.1) | ((with_reducible refine gate_callee (f := 27) rfl ?_); refine goesL_ (some 88) rfl rfl Try.func27 (by kernel_rfl) rfl #[.agg #[.int .i64 bP, .int .i64 bQ, .slice aQ jr.length aO, .int .i64 bR, .int .i64 bT, .int .i64 bU, .int .i64 bV, .int .i64 bW], .int .i64 1] rfl (by (try simp only [List.map_toArray, List.map_cons, List.map_nil]); first | done | (rw [show jr.length = aH.length from (R_reads' HO_875002.1).1.symm] <;> rfl) | rfl | (simp only [List.length_drop, List.length_take]; rfl)) ?_; (with_reducible refine (laws_heldMachine.calls jC bP bQ _ _ jr bR bT bU bV bW 1 qi _ ?side1 ?side2 AF.1).mono ?_); (case side1 => exact CB (R_reads' HO_875002.1).2.2); (case side2 => rw [show jr.length = aH.length from (R_reads' HO_875002.1).1.symm]; exact (R_reads' HO_875002.1).2.1); rintro e Dc ⟨rfl, hb⟩; refine ⟨_, rfl, ?_⟩; refine E8 (rB HO_849002.1 hb) (rB HO_860002.1 hb) (rB HO_875002.1 hb) (bB aa.1 hb) (bB af.1 hb) (bB ae.1 hb) (bB ag.1 hb) (bS HB.1 hb) ?_; clear HO_849002 HO_860002 HO_875002 aa af ae ag HB; intro HO_849002 HO_860002 HO_875002 aa af ae ag HB; (try clear hb); have AP := eD.1; have AQ := fC.1; have AR := dA.1; have AU := eF.1; obtain ⟨l5, l6, l7, l8, l9, ma, mf, mg, mh, mi, mo, mq, mr, mD, mE, mF⟩ := cz8 aa.1) | ((with_reducible refine gate_callee (f := 9) rfl ?_); refine goesM (N := (some 96)) #[.agg #[.int .i64 a0_0, .int .i64 a0_1, .slice A0_2 l0_2.length c0_2, .int .i64 a0_3, .int .i64 a0_4, .int .i64 a0_5, .int .i64 a0_6, .int .i64 a0_7]] Try.func9 ?_; (with_reducible refine (laws_toMachine.calls jC a0_0 a0_1 _ _ l0_2 a0_3 a0_4 a0_5 a0_6 a0_7 uA uB kN uC uD uE uF uG _ ?side1 ?side2 AJ.1).mono ?_); (case side1 => exact CB (C_below aM.1 HB.1)); (case side2 => exact aN.1); rintro e De ⟨Df, rfl, ho0, hb⟩; refine ⟨_, rfl, ?_⟩; refine E9 (R_elder' (PR HO_849002.1) (R_base ho0) hb) (R_elder' (PR HO_860002.1) (R_base ho0) hb) (R_elder' (PR HO_875002.1) (R_base ho0) hb) (R_lower (R_new' (R_new' (R_new' ho0 (R_lt (PR HO_849002.1))) (R_lt (PR HO_860002.1))) (R_lt (PR HO_875002.1))) (bZ HB.1)) (bB aa.1 hb) (bB af.1 hb) (bB ae.1 hb) (bB ag.1 hb) (bS HB.1 hb) ?_; clear HO_849002 HO_860002 HO_875002 aa af ae ag HB; intro HO_849002 HO_860002 HO_875002 bv aa af ae ag HB; (try clear hb); (try clear ho0)) | ((with_reducible refine gate_callee (f := 23) rfl ?_); refine goesM (N := (some 98)) #[.slice A1 l1.length c1] Try.func23 ?_; (with_reducible refine (laws_toLogEntryS.calls jC _ _ l1 kK _ ?side1 ?side2 AL.1).mono ?_); (case side1 => exact CB (C_below HR1.1 HB.1)); (case side2 => exact jI.1); rintro e Dh ⟨Di, rfl, ho0, hb⟩; refine ⟨_, rfl, ?_⟩; refine E10 (rB HO_849002.1 hb) (rB HO_860002.1 hb) (rB HO_875002.1 hb) (rB bv.1 hb) (R_lower ho0 (bZ HB.1)) (bB aa.1 hb) (bB af.1 hb) (bB ae.1 hb) (bB ag.1 hb) (bS HB.1 hb) ?_; clear HO_849002 HO_860002 HO_875002 bv aa af ae ag HB; intro HO_849002 HO_860002 HO_875002 bv bN aa af ae ag HB; (try clear hb); (try clear ho0); obtain ⟨mG, mH, wP⟩ := R_slice bv.1; subst wP; obtain ⟨wQ, wR, wS⟩ := R_slice bN.1; subst wS) | ((with_reducible refine gate_callee (f := 26) rfl ?_); refine goesM (N := (some 99)) #[.agg #[.int .i64 uA, .int .i64 uB, .slice mG kN.length mH, .int .i64 uC, .int .i64 uD, .int .i64 uE, .int .i64 uF, .int .i64 uG], .slice wQ kK.length wR] Try.func26 ?_; (with_reducible refine (impl_ReplayLog.calls jC uA uB _ _ kN uC uD uE uF uG _ _ kK kP kQ eX kR kS kT kU kV wO _ ?side1 ?side2 ?side3 ?side4 AO.1).mono ?_); (case side1 => exact CB (R_reads' bv.1).2.2); (case side2 => exact (R_reads' bv.1).2.1); (case side3 => exact CB (R_reads' bN.1).2.2); (case side4 => exact (R_reads' bN.1).2.1); rintro e Dj ⟨Dk, rfl, ho0, hb⟩; refine ⟨_, rfl, ?_⟩; refine E11 (R_elder' (PR HO_849002.1) (R_base ho0) hb) (R_elder' (PR HO_860002.1) (R_base ho0) hb) (R_elder' (PR HO_875002.1) (R_base ho0) hb) (R_elder' (PR bv.1) (R_base ho0) hb) (rB bN.1 hb) (R_lower (R_new' (R_new' (R_new' (R_new' ho0 (R_lt (PR HO_849002.1))) (R_lt (PR HO_860002.1))) (R_lt (PR HO_875002.1))) (R_lt (PR bv.1))) (bZ HB.1)) (bB aa.1 hb) (bB af.1 hb) (bB ae.1 hb) (bB ag.1 hb) (bS HB.1 hb) ?_; clear HO_849002 HO_860002 HO_875002 bv bN aa af ae ag HB; intro HO_849002 HO_860002 HO_875002 bv bN dE aa af ae ag HB; (try clear hb); (try clear ho0)) | ((with_reducible refine gate_dst (N := 15) rfl ?_); refine boxE (cs := #[.int .i64 0, .int .i64 0, .slice none 0 0, .int .i64 0, .int .i64 0, .int .i64 0, .int .i64 0, .int .i64 0]) (t := 35) ?_; intro ai hg Dl hbox hb; refine E22 (rB HO_849002.1 hb) (rB HO_860002.1 hb) (rB HO_875002.1 hb) (rB bv.1 hb) (rB bN.1 hb) (rB dE.1 hb) (bB aa.1 hb) (bB af.1 hb) (bB ae.1 hb) (bB ag.1 hb) (bS HB.1 hb) (hbox) (gX HB.1 hg) (gX HB.1 hg) (nB aa.1 hg) (nC aa.1 hg) (nB af.1 hg) (nC af.1 hg) (nB ae.1 hg) (nC ae.1 hg) (nB ag.1 hg) (nC ag.1 hg) ?_; clear HO_849002 HO_860002 HO_875002 bv bN dE aa af ae ag HB; intro HO_849002 HO_860002 HO_875002 bv bN dE aa af ae ag HB bg Cg Ch fH j5 fI j6 fJ kg fK ko; clear hb hbox hg; have AV := j5.1; have AX := fH.1; have AY := j6.1; have AZ := fI.1; have A7 := kg.1; have A9 := fJ.1; have Ba := ko.1; have Bb := fK.1; obtain ⟨mI, mJ, mK, mM, mO, mP, mQ, mR, mU, mV, mW, mX, mY, mZ, ng, ni⟩ := cz8 bg.1; obtain ⟨eT, dY, wT⟩ := R_slice dE.1; subst wT))
 (try simp only [Act.put, List.setIfInBounds_toArray, List.set_cons_zero, List.set_cons_succ])
 go_cut [110] (fun Bc wc => ∃ (kq : Nat) (fo : Bool), Bc = .bool fo /\ Aside0 (laws_FnExactReplayLog.j2 kq wN fo bP bQ jr bR bT bU bV bW = some true) /\ Aside0 (kq <= jC) /\ Aside0 (Kd.R k98 98 wc w.heap.size (fun k_ => some k_ ≠ ((.slice aK eU.length aL) : Value).ownBlock /\ some k_ ≠ ((.slice aQ aH.length aO) : Value).ownBlock /\ some k_ ≠ ((.slice eT eX.length dY) : Value).ownBlock) (.slice bn aI.length bf) aI) /\ Aside0 (Kd.R k98 98 wc w.heap.size (fun k_ => some k_ ≠ ((.slice bn aI.length bf) : Value).ownBlock /\ some k_ ≠ ((.slice aQ aH.length aO) : Value).ownBlock /\ some k_ ≠ ((.slice eT eX.length dY) : Value).ownBlock) (.slice aK eU.length aL) eU) /\ Aside0 (Kd.R k98 98 wc w.heap.size (fun k_ => some k_ ≠ ((.slice bn aI.length bf) : Value).ownBlock /\ some k_ ≠ ((.slice aK eU.length aL) : Value).ownBlock /\ some k_ ≠ ((.slice eT eX.length dY) : Value).ownBlock) (.slice aQ aH.length aO) jr) /\ Aside0 (Kd.R k98 98 wc w.heap.size (fun k_ => some k_ ≠ ((.slice bn aI.length bf) : Value).ownBlock /\ some k_ ≠ ((.slice aK eU.length aL) : Value).ownBlock /\ some k_ ≠ ((.slice aQ aH.length aO) : Value).ownBlock) (.slice eT eX.length dY) eX) /\ Aside0 (wc.heap[bi]? = some (.cells #[.int .i64 a0_0, .int .i64 a0_1, (.slice A0_2 l0_2.length c0_2), .int .i64 a0_3, .int .i64 a0_4, .int .i64 a0_5, .int .i64 a0_6, .int .i64 a0_7] 26 (0, 0))) /\ Aside0 (wc.heap[au]? = some (.cells #[.int .i64 dF, .int .i64 dG, (.slice bn aI.length bf), .int .i64 dH, .int .i64 dI, .int .i64 dJ, .int .i64 dK, .int .i64 dL] 35 (0, 0))) /\ Aside0 (wc.heap[aj]? = some (.cells #[.int .i64 dM, .int .i64 dN, (.slice aK eU.length aL), .int .i64 dO, .int .i64 dP, .int .i64 dQ, .int .i64 dR, .int .i64 dS] 35 (0, 0))) /\ Aside0 (wc.heap[ah]? = some (.cells #[.int .i64 bP, .int .i64 bQ, (.slice aQ aH.length aO), .int .i64 bR, .int .i64 bT, .int .i64 bU, .int .i64 bV, .int .i64 bW] 35 (0, 0))) /\ Aside0 (wc.heap[ai]? = some (.cells #[.int .i64 kP, .int .i64 kQ, (.slice eT eX.length dY), .int .i64 kR, .int .i64 kS, .int .i64 kT, .int .i64 kU, .int .i64 kV] 35 (0, 0))) /\ Aside0 (Below w.heap.size w wc))
 case first =>
  have H := kW.1
  clear kW
  replace H := bindA H; obtain ⟨vM, Bd, H⟩ := H
  replace H := ifT H (by cases jC <;> simp [laws_FnExactReplayLog.j2]); obtain ⟨rfl, H⟩ := H
  have H' := Aside0.mk H
  clear H
  obtain ⟨wU, wV, wW, wX, wY, wZ, w9, xc, xe, xf, xg, xh, xk, xm, xn, xq⟩ := cz8 bg.1
  obtain ⟨xu, xw, xx, xy, xz, xA, xB, xC, xD, xE, xF, xG, xH, xI, xJ, xK⟩ := cz8 af.1
  go_wp2_with (first | ((with_reducible refine gate_callee (f := 12) rfl ?_); refine goesM (N := (some 104)) #[.agg #[.int .i64 kP, .int .i64 kQ, .slice eT eX.length dY, .int .i64 kR, .int .i64 kS, .int .i64 kT, .int .i64 kU, .int .i64 kV], .agg #[.int .i64 dF, .int .i64 dG, .slice bn aI.length bf, .int .i64 dH, .int .i64 dI, .int .i64 dJ, .int .i64 dK, .int .i64 dL]] Try.func12 ?_; (with_reducible refine (laws_eqMachine.calls jC kP kQ _ _ eX kR kS kT kU kV dF dG _ _ aI dH dI dJ dK dL true _ ?side1 ?side2 ?side3 ?side4 Bd.1).mono ?_); (case side1 => refine (R_reads' (e := 98) (base := w.heap.size) (ok := fun k_ => ((((True /\ some k_ ≠ (.slice bn aI.length bf : Value).ownBlock) /\ some k_ ≠ (.slice aK eU.length aL : Value).ownBlock) /\ some k_ ≠ (.slice aQ aH.length aO : Value).ownBlock) /\ some k_ ≠ (.slice mG kN.length mH : Value).ownBlock)) (n := eX.length) (c := dY) ?_).2.2; exact (by (with_reducible repeat (first | apply R_alloc | apply R_drewN | apply R_drew)); exact (R_mono (RQ ai 7 (RQ ai 6 (RQ ai 5 (RQ ai 4 (RQ ai 3 (RQ ai 2 (RQ ai 1 (RQ ai 0 (R_types dE.1 bg.1 (by decide)) _) _) _) _) _) _) _) _) (fun _ h_ => h_.1)))); (case side2 => exact (R_reads' dE.1).2.1); (case side3 => refine (R_reads' (e := 98) (base := w.heap.size) (ok := fun k_ => (((some k_ ≠ (.slice aK eU.length aL : Value).ownBlock /\ some k_ ≠ (.slice aQ aH.length aO : Value).ownBlock) /\ some k_ ≠ (.slice mG kN.length mH : Value).ownBlock) /\ some k_ ≠ (.slice eT eX.length dY : Value).ownBlock)) (n := aI.length) (c := bf) ?_).2.2; exact (by (with_reducible repeat (first | apply R_alloc | apply R_drewN | apply R_drew)); exact (R_mono (RQ ai 7 (RQ ai 6 (RQ ai 5 (RQ ai 4 (RQ ai 3 (RQ ai 2 (RQ ai 1 (RQ ai 0 (R_types HO_849002.1 bg.1 (by decide)) _) _) _) _) _) _) _) _) (fun _ h_ => h_.1)))); (case side4 => exact (R_reads' HO_849002.1).2.1); rintro e Dm ⟨rfl, hb⟩; refine ⟨_, rfl, ?_⟩; refine E12 (R_below (by (with_reducible repeat (first | apply R_alloc | apply R_drewN | apply R_drew)); exact (R_mono (RQ ai 7 (RQ ai 6 (RQ ai 5 (RQ ai 4 (RQ ai 3 (RQ ai 2 (RQ ai 1 (RQ ai 0 (R_types HO_849002.1 bg.1 (by decide)) _) _) _) _) _) _) _) _) (fun _ h_ => h_.1))) hb) (R_below (by (with_reducible repeat (first | apply R_alloc | apply R_drewN | apply R_drew)); exact (R_mono (RQ ai 7 (RQ ai 6 (RQ ai 5 (RQ ai 4 (RQ ai 3 (RQ ai 2 (RQ ai 1 (RQ ai 0 (R_types HO_860002.1 bg.1 (by decide)) _) _) _) _) _) _) _) _) (fun _ h_ => h_.1))) hb) (R_below (by (with_reducible repeat (first | apply R_alloc | apply R_drewN | apply R_drew)); exact (R_mono (RQ ai 7 (RQ ai 6 (RQ ai 5 (RQ ai 4 (RQ ai 3 (RQ ai 2 (RQ ai 1 (RQ ai 0 (R_types HO_875002.1 bg.1 (by decide)) _) _) _) _) _) _) _) _) (fun _ h_ => h_.1))) hb) (R_below (by (with_reducible repeat (first | apply R_alloc | apply R_drewN | apply R_drew)); exact (R_mono (RQ ai 7 (RQ ai 6 (RQ ai 5 (RQ ai 4 (RQ ai 3 (RQ ai 2 (RQ ai 1 (RQ ai 0 (R_types bv.1 bg.1 (by decide)) _) _) _) _) _) _) _) _) (fun _ h_ => h_.1))) hb) (R_below (by (with_reducible repeat (first | apply R_alloc | apply R_drewN | apply R_drew)); exact (R_mono (RQ ai 7 (RQ ai 6 (RQ ai 5 (RQ ai 4 (RQ ai 3 (RQ ai 2 (RQ ai 1 (RQ ai 0 (R_types bN.1 bg.1 (by decide)) _) _) _) _) _) _) _) _) (fun _ h_ => h_.1))) hb) (R_below (by (with_reducible repeat (first | apply R_alloc | apply R_drewN | apply R_drew)); exact (R_mono (RQ ai 7 (RQ ai 6 (RQ ai 5 (RQ ai 4 (RQ ai 3 (RQ ai 2 (RQ ai 1 (RQ ai 0 (R_types dE.1 bg.1 (by decide)) _) _) _) _) _) _) _) _) (fun _ h_ => h_.1))) hb) (blk_below (g := bi) (o := .cells #[.int .i64 a0_0, .int .i64 a0_1, .slice A0_2 l0_2.length c0_2, .int .i64 a0_3, .int .i64 a0_4, .int .i64 a0_5, .int .i64 a0_6, .int .i64 a0_7] 26 (0, 0)) (PF1 fH.1 aa.1) hb) (blk_below (g := au) (o := .cells #[.int .i64 dF, .int .i64 dG, .slice bn aI.length bf, .int .i64 dH, .int .i64 dI, .int .i64 dJ, .int .i64 dK, .int .i64 dL] 35 (0, 0)) (PF1 fI.1 af.1) hb) (blk_below (g := aj) (o := .cells #[.int .i64 dM, .int .i64 dN, .slice aK eU.length aL, .int .i64 dO, .int .i64 dP, .int .i64 dQ, .int .i64 dR, .int .i64 dS] 35 (0, 0)) (PF1 fJ.1 ae.1) hb) (blk_below (g := ah) (o := .cells #[.int .i64 bP, .int .i64 bQ, .slice aQ aH.length aO, .int .i64 bR, .int .i64 bT, .int .i64 bU, .int .i64 bV, .int .i64 bW] 35 (0, 0)) (PF1 fK.1 ag.1) hb) (blk_below (g := ai) (o := .cells #[.int .i64 kP, .int .i64 kQ, .slice eT eX.length dY, .int .i64 kR, .int .i64 kS, .int .i64 kT, .int .i64 kU, .int .i64 kV] 35 (0, 0)) (PF0 bg.1) hb) (bS HB.1 hb) ?_; clear HO_849002 HO_860002 HO_875002 bv bN dE aa af ae ag bg HB; intro HO_849002 HO_860002 HO_875002 bv bN dE aa af ae ag bg HB; (try clear hb)))
  go_meet
  case rel => exact ⟨_, ((wO != jX)), RG, H', ⟨by have := vZ.1; have := AB.1; first | omega | exact Nat.le_refl _⟩, ⟨by (try simp only [ak]); (with_reducible repeat (first | apply R_alloc | apply R_drewN | apply R_drew)); exact R_mono HO_849002.1 (fun _ hk => ⟨hk.1.1.1, ⟨hk.1.1.2, hk.2⟩⟩)⟩, ⟨by (try simp only [ak]); (with_reducible repeat (first | apply R_alloc | apply R_drewN | apply R_drew)); exact R_mono HO_860002.1 (fun _ hk => ⟨hk.1.1.1, ⟨hk.1.1.2, hk.2⟩⟩)⟩, ⟨by (try simp only [ak]); (with_reducible repeat (first | apply R_alloc | apply R_drewN | apply R_drew)); exact R_mono HO_875002.1 (fun _ hk => ⟨hk.1.1.1, ⟨hk.1.1.2, hk.2⟩⟩)⟩, ⟨by (try simp only [ak]); (with_reducible repeat (first | apply R_alloc | apply R_drewN | apply R_drew)); exact R_mono dE.1 (fun _ hk => ⟨hk.1.1.1.2, ⟨hk.1.1.2, hk.1.2⟩⟩)⟩, ⟨PB1 aa.1 ak⟩, ⟨PB1 af.1 ak⟩, ⟨PB1 ae.1 ak⟩, ⟨PB1 ag.1 ak⟩, ⟨PB1 bg.1 ak⟩, ⟨BL HB.1⟩⟩
 clear kW
 try clear c1; clear c113b0 c121b0 c121b1 kX kY kZ lc lg lh ll lm lH lI lJ lK lL lM lN lQ l5 l6 l7 l8 l9 ma mf mg mI mJ mK mM mO mP mQ mR lq lu lv lw lC lD lF lG lS lT lU lV lW lX lY lZ mh mi mo mq mr mD mE mF mU mV mW mX mY mZ ng ni
 obtain ⟨kq, fo, rfl, HA, Ci, HO_849002, HO_860002, HO_875002, HO_924002, aa, af, ae, ag, bg, HB⟩ := hcut
 have ay := (R_reads' HO_875002.1).1
 rw [ay] at HO_875002
 (try simp only [ay])
 (try simp only [ay] at aa)
 (try simp only [ay] at af)
 (try simp only [ay] at ae)
 (try simp only [ay] at ag)
 (try simp only [ay] at bg)
 (try simp only [ay] at HO_849002)
 (try simp only [ay] at HO_860002)
 (try simp only [ay] at HO_924002)
 cases kq with
 | zero => exact absurd HA.1 (by simp [laws_FnExactReplayLog.j2])
 | succ xL => ?_
 have H := HA.1
 clear HA
 simp only [laws_FnExactReplayLog.j2] at H
 replace H := ifF H (by simp); obtain ⟨rfl, H⟩ := H
 replace H := bindA H; obtain ⟨qj, Be, H⟩ := H
 replace H := ifQ H; rcases H with ⟨uH, H⟩ | ⟨uH, H⟩
 · exact absurd H (by simp)
 have c172b0 := decide_eq_false uH
 clear uH
 first | replace H := ifP H | replace H := ifPf H
 obtain ⟨uI, H⟩ := H
 have c179b0 := beq_iff_eq.mpr uI
 have c179b1 := bne_eq_false_iff_eq.mpr uI
 clear uI
 first | (obtain rfl := Option.some.inj H) | clear H
 obtain ⟨xM, xN, xO, xP, xQ, xR, xS, xU, xV, xW, xX, xY, xZ, x8, yc, yf⟩ := cz8 ag.1
 go_wp2_with (first | ((with_reducible refine gate_callee (f := 27) rfl ?_); refine goesM (N := (some 113)) #[.agg #[.int .i64 bP, .int .i64 bQ, .slice aQ jr.length aO, .int .i64 bR, .int .i64 bT, .int .i64 bU, .int .i64 bV, .int .i64 bW], .int .i64 1] Try.func27 ?_; (with_reducible refine (laws_heldMachine.calls xL bP bQ _ _ jr bR bT bU bV bW 1 qj _ ?side1 ?side2 Be.1).mono ?_); (case side1 => exact CB (R_reads' HO_875002.1).2.2); (case side2 => exact (R_reads' HO_875002.1).2.1); rintro e Dn ⟨rfl, hb⟩; refine ⟨_, rfl, ?_⟩; refine E10 (rB HO_849002.1 hb) (rB HO_860002.1 hb) (rB HO_875002.1 hb) (rB HO_924002.1 hb) (bB aa.1 hb) (bB af.1 hb) (bB ae.1 hb) (bB ag.1 hb) (bB bg.1 hb) (bS HB.1 hb) ?_; clear HO_849002 HO_860002 HO_875002 HO_924002 aa af ae ag bg HB; intro HO_849002 HO_860002 HO_875002 HO_924002 aa af ae ag bg HB; (try clear hb)))
 go_ret
 exact ⟨RF, BL HB.1⟩
end Go.Proofs.Ythnehlphifegaaa.P
