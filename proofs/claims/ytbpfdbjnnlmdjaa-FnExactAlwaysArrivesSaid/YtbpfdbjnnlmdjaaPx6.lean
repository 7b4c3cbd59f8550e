--MINI
import Derived.Test.YtbpfdbjnnlmdjaaPx0
import Derived.Test.YtbpfdbjnnlmdjaaPx4
import Derived.Test.YtbpfdbjnnlmdjaaPx5
namespace Go.Proofs.Ytbpfdbjnnlmdjaa.P
open Go.RowKit Go.Proofs.YtbpfdbjnnlmdjaaW.PrintWords Go.Proofs.YtbpfdbjnnlmdjaaW.PrintLast Go.Proofs.YtbpfdbjnnlmdjaaW.PrintMore
attribute [local go_sem] rQ rR vR vS pO pQ rT rU
set_option linter.unusedVariables false
set_option linter.unusedSimpArgs false
set_option maxHeartbeats 8000000
set_option maxRecDepth 100000
open Kd
mutual
def cZ.l0 : Nat -> List Int -> Int -> List Int -> Int -> Int -> Int -> Int -> List (fq) -> Option (Int × Int × Int × List Int × (List (fq)))
 | 0, _, _, _, _, _, _, _, _ => none
 | k + 1, x1, x2, x8, x9, j6, yn, kP, mD => if j6 < yn then (if x8.length < 17592186044416 then ((some (x8 ++ [wrap64 ((wrap64 (j6 * kP)) + x2)] : List Int)).bind fun LC => (if 0 <= (wrap64 ((wrap64 (j6 * kP)) + x2)) then (if (wrap64 ((wrap64 (j6 * kP)) + x2)) < (mD.length : Int) then ((bY.f k ((aj mD (wrap64 ((wrap64 (j6 * kP)) + x2))).f0) ((aj mD (wrap64 ((wrap64 (j6 * kP)) + x2))).f1) x9).bind fun LD => (if LD.2 = true then (if ((aj mD (wrap64 ((wrap64 (j6 * kP)) + x2))).f0) = 3 then (cZ.j1 k x1 x2 LC j6 (wrap64 ((wrap64 (j6 * kP)) + x2)) LD.1 yn kP (mD.set ((wrap64 ((wrap64 (j6 * kP)) + x2)) : Int).toNat (⟨(aj mD (wrap64 ((wrap64 (j6 * kP)) + x2))).f0, wrap64 (1 - ((aj mD (wrap64 ((wrap64 (j6 * kP)) + x2))).f1))⟩ : fq)) ((aj mD (wrap64 ((wrap64 (j6 * kP)) + x2))).f0) ((aj mD (wrap64 ((wrap64 (j6 * kP)) + x2))).f1)) else (cZ.j1 k x1 x2 LC j6 (wrap64 ((wrap64 (j6 * kP)) + x2)) LD.1 yn kP mD ((aj mD (wrap64 ((wrap64 (j6 * kP)) + x2))).f0) ((aj mD (wrap64 ((wrap64 (j6 * kP)) + x2))).f1))) else (some (2, j6, x2, LC, mD)))) else (none)) else (none))) else (none)) else (some (1, yn, x2, x8, mD))
def cZ.j1 : Nat -> List Int -> Int -> List Int -> Int -> Int -> Int -> Int -> Int -> List (fq) -> Int -> Int -> Option (Int × Int × Int × List Int × (List (fq)))
 | 0, _, _, _, _, _, _, _, _, _, _, _ => none
 | k + 1, x1, x2, x8, j6, qR, wy, yn, kP, mD, ahb, aBA => if ahb = 6 then ((aX.f k yn kP mD x1 qR).bind fun R8 => (if (wrap64 (x2 + wy)) < 0 then (some (3, j6, wrap64 (x2 + wy), x8, R8)) else (if (wrap64 (x2 + wy)) ≥ kP then (some (3, j6, wrap64 (x2 + wy), x8, R8)) else (cZ.l0 k x1 (wrap64 (x2 + wy)) x8 (wrap64 (-wy)) (wrap64 (j6 + 1)) yn kP R8)))) else (if (wrap64 (x2 + wy)) < 0 then (some (3, j6, wrap64 (x2 + wy), x8, mD)) else (if (wrap64 (x2 + wy)) ≥ kP then (some (3, j6, wrap64 (x2 + wy), x8, mD)) else (cZ.l0 k x1 (wrap64 (x2 + wy)) x8 (wrap64 (-wy)) (wrap64 (j6 + 1)) yn kP mD)))
end
def cZ.f (k : Nat) (ah : Int) (af : Int) (ae : List (fq)) (l1 : List Int) (a2 : Int) : Option (Int × Int × Int × List Int × (List (fq))) := cZ.l0 k l1 a2 (([] : List Int)) 0 0 ah af ae
theorem cZ.mono_l : ∀ k, (∀ y0 y1 y2 y3 y4 y5 y6 y7, dO (cZ.l0 k y0 y1 y2 y3 y4 y5 y6 y7) (cZ.l0 (k + 1) y0 y1 y2 y3 y4 y5 y6 y7)) /\ (∀ y0 y1 y2 y3 y4 y5 y6 y7 y8 y9 IG, dO (cZ.j1 k y0 y1 y2 y3 y4 y5 y6 y7 y8 y9 IG) (cZ.j1 (k + 1) y0 y1 y2 y3 y4 y5 y6 y7 y8 y9 IG))
 | 0 => by refine ⟨?_, ?_⟩ <;> (intros; intro r h; first | (simp [cZ.l0] at h; done) | (simp [cZ.j1] at h; done))
 | k + 1 => by
  obtain ⟨ja, ih1⟩ := cZ.mono_l k
  refine ⟨?_, ?_⟩ <;> (
   intros
   first | unfold cZ.l0 | unfold cZ.j1
   exact LM4 ja ih1 bY.mono aX.mono)
theorem cZ.mono : ∀ a0 a1 a2 a3 a4 k, dO (cZ.f k a0 a1 a2 a3 a4) (cZ.f (k + 1) a0 a1 a2 a3 a4) := by
 intro a0 a1 a2 a3 a4 k
 obtain ⟨ja, ih1⟩ := cZ.mono_l k
 unfold cZ.f
 exact LM4 ja ih1 bY.mono aX.mono
theorem cZ.calls (k : Nat) (ah : Int) (af : Int) (cu : Nat -> Prop) (iH : Value) (ae : List (fq)) (A1 : Option Addr) (c1 : Nat) (l1 : List Int) (a2 : Int) (r1 : Int) (r2 : Int) (r3 : Int) (r4 : List Int) (r5 : List (fq)) (w0 w : World) (hB : Below w0.heap.size w0 w) (BN : Kd.R jZ 83 w w0.heap.size cu iH ae) (hr1 : ∀ W_, Kept w W_ (fun k_ => cu k_) -> Kd.C (Kd.int .i64) W_ A1 l1.length l1) (hc1 : l1.length <= c1) (h : cZ.f k ah af ae l1 a2 = some (r1, r2, r3, r4, r5)) :
 Calls Try.prog 78 #[.agg #[.int .i64 ah, .int .i64 af, iH], .slice A1 l1.length c1, .int .i64 a2] w fun e w' => ∃ v3_ : Value, e = .returned (.tuple #[.agg #[.int .i64 r1, .int .i64 r2, .int .i64 r3], v3_]) /\ Kd.R (Kd.int .i64) 3 w' w0.heap.size (fun k_ => (cu k_ ∨ w.heap.size <= k_)) v3_ r4 /\ Kd.R jZ 83 w' w0.heap.size (fun k_ => (cu k_ ∨ w.heap.size <= k_)) iH r5 /\ Below w0.heap.size w0 w' /\ Kept w w' (fun k_ => cu k_) := by
 have nH := Try.underlying30
 have YM := Try.underlying54
 have xE := Try.underlying83
 have fB := aa.mk (show Kd.R jZ 83 w w0.heap.size (fun k_ => (cu k_ ∨ w.heap.size <= k_)) iH ae from aG BN (fun k_ hk => (.inl hk)))
 have HR1 := aa.mk hr1
 have vD := aa.mk hc1
 clear hr1 hc1
 have HK := aa.mk (Kept.refl w (fun k_ => cu k_))
 have HW0 := aa.mk hB.size
 have HB := aa.mk hB
 clear hB
 have H := h
 clear h
 unfold cZ.f at H
 generalize alk : ((([] : List Int)) : List Int) = aG9 at H
 have alm := aa.mk alk.symm; clear alk
 have H' := aa.mk H
 clear H
 obtain ⟨SB, yK, eo4⟩ := bv fB.1
 subst eo4
 go_enter Try.func78, Try.ntmps78
 go_wp2_with (first | ((with_reducible refine aC (N := 3) rfl ?_); refine dN (cs := #[.int .i64 ah, .int .i64 af, .slice SB ae.length yK]) (t := 30) ?_; intro NH hg w5 hbox hb; refine E6 (rB fB.1 hb) (Kept.below (S := (fun k_ => cu k_)) (KL HK.1) hb) (bS HB.1 hb) (hbox) ((by rw [hg]; exact (by first | exact HK.1.1 | exact (show Kept w _ (fun k_ => cu k_) from KL HK.1).1) : w.heap.size <= NH)) (Qm hg (bZ HB.1) : w0.heap.size <= NH) ?_; clear fB HK HB; intro fB HK HB gI aMv aMw; clear hb hbox hg) | ((with_reducible refine aC (N := 6) rfl ?_); refine dN (cs := #[.int .i64 0, .int .i64 0, .int .i64 0]) (t := 54) ?_; intro ic hg w6 hbox hb; refine E9 (rB fB.1 hb) (bB gI.1 hb) (Kept.below (S := (fun k_ => cu k_)) (KL HK.1) hb) (bS HB.1 hb) (hbox) ((by rw [hg]; exact (by first | exact HK.1.1 | exact (show Kept w _ (fun k_ => cu k_) from KL HK.1).1) : w.heap.size <= ic)) (Qm hg (bZ HB.1) : w0.heap.size <= ic) (nB gI.1 hg) (nC gI.1 hg) ?_; clear fB gI HK HB; intro fB gI HK HB fE aMx aMy Ip Iq; clear hb hbox hg) | ((with_reducible refine aC (N := 15) rfl ?_); refine qh (Kd.int .i64) _ 3 ?hg (N := 15) ?hd (xs := ([] : List Int)) (inner := []) (ok := fun _ => True) (okp := fun _ => True) ?hr ?hp (fun _ hk => hk) trivial (Below.refl _ _) (Nat.le_refl _) (by simp) ?_; (case hd => rfl); (case hg => rfl); (case hr => first | (go_simp; done) | (go_simp; rfl)); (case hp => exact (fK.none _ _)); intro aQw w7 ho8 hb hg_ hnew_; clear hg_ hnew_; (first | rw [<- alm.1] at ho8 | (simp only [Int.reduceToNat] at ho8; rw [<- alm.1] at ho8)); refine E6 (rB fB.1 hb) (bN (Tx (M := fun k_ => (cu k_ ∨ w.heap.size <= k_)) ho8 (by first | exact HK.1.1 | exact (show Kept w _ (fun k_ => cu k_) from KL HK.1).1) (fun k_ h_ => .inr h_)) (bZ HB.1)) (bB gI.1 hb) (bB fE.1 hb) (Kept.below (S := (fun k_ => cu k_)) (KL HK.1) hb) (bS HB.1 hb) ?_; clear fB gI fE HK HB; intro fB axJ gI fE HK HB; clear hb ho8))
 go_loopg [2, 8, 9, 10] k (fun kq v2 v8 v9 v10 w' => ∃ (kz : Int) (d9 : List Int) (kJ : Int) (bE : Int) (bV : List (fq)) (uA : Int) (uB : Int) (uC : Int), v2 = .int .i64 kz /\ v9 = .int .i64 kJ /\ v10 = .int .i64 bE /\ aa (cZ.l0 kq l1 kz d9 kJ bE ah af bV = some (r1, r2, r3, r4, r5)) /\ aa (kq <= k) /\ aa (Kd.R (Kd.int .i64) 3 w' w0.heap.size (fun k_ => (cu k_ ∨ w.heap.size <= k_)) v8 d9) /\ aa (Kd.R jZ 83 w' w0.heap.size (fun k_ => (cu k_ ∨ w.heap.size <= k_)) (.slice SB ae.length yK) bV) /\ aa (w'.heap[NH]? = some (.cells #[.int .i64 ah, .int .i64 af, (.slice SB ae.length yK)] 30 (0, 0))) /\ aa (w'.heap[ic]? = some (.cells #[.int .i64 uA, .int .i64 uB, .int .i64 uC] 54 (0, 0))) /\ aa (Kept w w' (fun k_ => cu k_)) /\ aa (Below w0.heap.size w0 w'))
 case atStart => exact ⟨(a2), (aG9), (0), (0), (ae), (0), (0), (0), RG, RG, RG, H', ⟨Nat.le_refl _⟩, ⟨pm (aG axJ.1 (fun _ hk => hk.1))⟩, ⟨PR fB.1⟩, ⟨PB gI.1⟩, ⟨PB fE.1⟩, ⟨KL HK.1⟩, ⟨BL HB.1⟩⟩
 clear H'
 try clear c1
 obtain ⟨kz, d9, kJ, bE, bV, uA, uB, uC, rfl, rfl, rfl, HA, iB, HO_8, HO_598002, gI, fE, HK, HB⟩ := hrel
 have fC := (ay HO_598002.1).1
 rw [fC] at HO_598002
 (try simp only [fC])
 (try simp only [fC] at gI)
 (try simp only [fC] at fE)
 (try simp only [fC] at HO_8)
 cases gk with
 | zero => exact absurd HA.1 (by simp [cZ.l0])
 | succ k1 => ?_
 have H := HA.1
 clear HA
 simp only [cZ.l0] at H
 replace H := pu H; rcases H with ⟨c9b0, H⟩ | ⟨c9b0, H⟩
 · replace H := oC H; obtain ⟨c10, H⟩ := H
   have Ns := aa.mk c10
   clear c10
   replace H := nR H; obtain ⟨LC, ado, H⟩ := H
   obtain ⟨jq, uY⟩ : ∃ j_ : Int, (wrap64 ((wrap64 (bE * af)) + kz)) = j_ := ⟨_, rfl⟩
   replace H : (if 0 <= (jq) then (if (jq) < (bV.length : Int) then ((bY.f k1 ((aj bV (jq)).f0) ((aj bV (jq)).f1) kJ).bind fun LD => (if LD.2 = true then (if ((aj bV (jq)).f0) = 3 then (cZ.j1 k1 l1 kz LC bE jq LD.1 ah af (bV.set ((jq) : Int).toNat (⟨(aj bV (jq)).f0, wrap64 (1 - ((aj bV (jq)).f1))⟩ : fq)) ((aj bV (jq)).f0) ((aj bV (jq)).f1)) else (cZ.j1 k1 l1 kz LC bE jq LD.1 ah af bV ((aj bV (jq)).f0) ((aj bV (jq)).f1))) else (some (2, bE, kz, LC, bV)))) else (none)) else (none)) = some (r1, r2, r3, r4, r5) := by first | (rw [uY] at H; exact H) | (simp only [uY] at H ⊢; exact H)
   (try rw [uY] at ado)
   have hji11w : (IntKind.i64.wrap ((wrap64 (bE * af)) + kz)) = jq := (cz _).trans uY
   replace H := ji H; obtain ⟨c12b0, H⟩ := H
   replace H := ji H; obtain ⟨c13b0, H⟩ := H
   replace H := dz H; obtain ⟨⟨EL, aQx⟩, A14, H⟩ := H
   dsimp only at H
   replace H := Cm H; rcases H with ⟨rfl, H⟩ | ⟨rfl, H⟩
   · have Ku := aa.mk H
     clear H
     have aiC := Ip.1
     have aiD := Iq.1
     obtain ⟨qN, qO, rV, qP, qQ, rW⟩ := gB gI.1
     go_upto_if 51 with (first | ((with_reducible refine bf (b := .append) (xs := #[.tmp 28, .tmp 30]) rfl ?_); at_builtin; refine ek (Kd.int .i64) (w0 := w0) w0.heap.size rfl (.tmp 28) (.tmp 30) 38 3 (.int .i64 0) 8 rfl Try.underlying38 info3 rfl (by decide) (by omega) u8 d9 jq [.int .i64 jq] (fun k_ => (cu k_ ∨ w.heap.size <= k_)) (fun _ => False) rfl rfl ?aP (fun _ hk => hk.elim) ?aF ?aO ?aB ?aS ?aL ?_; (case aP => exact rfl); (case aB => exact (BL HB.1)); (case aF => exact (fun k_ hk => (.inr (Nat.le_trans (by first | exact HK.1.1 | exact (show Kept w _ (fun k_ => cu k_) from KL HK.1).1) hk)))); (case aO => exact (PR HO_8.1)); (case aS => exact (bZ HB.1)); (case aL => have := Ns.1; omega); intro axK w19 ho hb hg hat; rw [<- ado.1] at ho; refine E6 (kF (PR HO_598002.1) (dY (PR HO_8.1)) (by decide) hg) (bG gI.1 hg (dK HO_8.1 gI.1 (by decide))) (bG fE.1 hg (dK HO_8.1 fE.1 (by decide))) (hb) (Kept.of_grown (S := (fun k_ => cu k_)) hg (KL HK.1) (fun k_ e_ => (HO_8.1.1 k_ e_))) (ho) ?_; clear HO_598002 gI fE HB HK HO_8; intro HO_598002 gI fE HB HK tu; clear ho hb hg hat; obtain ⟨wz, wB, zT, wC, wD, zU⟩ := gB gI.1; have R9 : 0 <= ((jq) : Int) := OD; have Sa : (jq) < (bV.length : Int) := OD; obtain ⟨yo, apW, PM, PN⟩ := iP (ay HO_598002.1).2.2 (jq) R9 Sa; cases apW; replace R9 := eq_true R9; replace Sa := eq_true Sa) | ((with_reducible refine aC (N := 12) rfl ?_); refine dN (cs := #[.int .i64 0, .int .i64 0]) (t := 83) ?_; intro pM hg Qo hbox hb; refine E13 (jf (pE (PR HO_598002.1) pM (Nat.le_of_eq hg.symm)) hb) (rB tu.1 hb) (bB gI.1 hb) (bB fE.1 hb) (Kept.below (S := (fun k_ => cu k_)) (KL HK.1) hb) (bS HB.1 hb) (hbox) ((by rw [hg]; exact (by first | exact HK.1.1 | exact (show Kept w _ (fun k_ => cu k_) from KL HK.1).1) : w.heap.size <= pM)) (Qm hg (bZ HB.1) : w0.heap.size <= pM) (nB gI.1 hg) (nC gI.1 hg) (nB fE.1 hg) (nC fE.1 hg) ?_; clear HO_598002 tu gI fE HK HB; intro HO_598002 tu gI fE HK HB lL axL axM zD Ir zF Iu; clear hb hbox hg; have aMz := Ir.1; have aMA := zD.1; have atU := Iu.1; have atV := zF.1; obtain ⟨JP, JQ, JR, JS⟩ := nO lL.1) | ((with_reducible refine aA (f := 89) rfl ?_); refine Ep (some 40) rfl rfl Try.func89 (by kernel_rfl) rfl #[.agg #[.int .i64 ((aj bV (jq)).f0), .int .i64 ((aj bV (jq)).f1)], .int .i64 kJ] rfl (by (try simp only [List.map_toArray, List.map_cons, List.map_nil]); first | done | (simp only [uY]; rfl) | rfl | (simp only [List.length_drop, List.length_take]; rfl)) ?_; (with_reducible refine (bY.calls k1 ((aj bV (jq)).f0) ((aj bV (jq)).f1) kJ EL true _ A14.1).mono ?_); rintro e Mk ⟨rfl, hb⟩; refine ⟨_, rfl, ?_⟩; refine E7 (jf (by (with_reducible repeat (first | apply aV | apply aW | apply aQ)); exact (aG (RQ pM 1 (RQ pM 0 (aG HO_598002.1 (fun k_ hk => (⟨hk, hk.2⟩ : _ /\ k_ ≠ pM))) _) _) (fun _ h_ => h_.1))) hb) (jf (by (with_reducible repeat (first | apply aV | apply aW | apply aQ)); exact (aG (RQ pM 1 (RQ pM 0 (bz tu.1 lL.1 (by decide)) _) _) (fun _ h_ => h_.1))) hb) (dh (g := NH) (o := .cells #[.int .i64 ah, .int .i64 af, .slice (some yo) bV.length yK] 30 (0, 0)) (xB zD.1 gI.1) hb) (dh (g := ic) (o := .cells #[.int .i64 uA, .int .i64 uB, .int .i64 uC] 54 (0, 0)) (xB zF.1 fE.1) hb) (dh (g := pM) (o := .cells #[.int .i64 ((aj bV (jq)).f0), .int .i64 ((aj bV (jq)).f1)] 83 (0, 0)) (BB lL.1) hb) (Kept.below (S := (fun k_ => cu k_)) (KL HK.1) hb) (bS HB.1 hb) ?_; clear HO_598002 tu gI fE lL HK HB; intro HO_598002 tu gI fE lL HK HB; (try clear hb); (try clear hk); obtain ⟨xM, xN, xO, xP⟩ := nO lL.1))
     (try simp only [Act.put, List.setIfInBounds_toArray, List.set_cons_zero, List.set_cons_succ])
     go_cut [] (fun wc => ∃ (kq : Nat) (jU : List (fq)) (EM : Int), aa (cZ.j1 kq l1 kz LC bE jq EL ah af jU ((aj bV (jq)).f0) EM = some (r1, r2, r3, r4, r5)) /\ aa (kq <= k1) /\ aa (Kd.R (Kd.int .i64) 3 wc w0.heap.size (fun k_ => (cu k_ ∨ w.heap.size <= k_)) axK LC) /\ aa (Kd.R jZ 83 wc w0.heap.size (fun k_ => (cu k_ ∨ w.heap.size <= k_) /\ k_ ≠ pM) (.slice (some yo) bV.length yK) jU) /\ aa (wc.heap[NH]? = some (.cells #[.int .i64 ah, .int .i64 af, (.slice (some yo) bV.length yK)] 30 (0, 0))) /\ aa (wc.heap[ic]? = some (.cells #[.int .i64 uA, .int .i64 uB, .int .i64 uC] 54 (0, 0))) /\ aa (wc.heap[pM]? = some (.cells #[.int .i64 ((aj bV (jq)).f0), .int .i64 EM] 83 (0, 0))) /\ aa (Kept w wc (fun k_ => cu k_)) /\ aa (Below w0.heap.size w0 wc))
     case first =>
      have H := Ku.1
      clear Ku
      replace H := oP H; rcases H with ⟨SE, H⟩ | ⟨SE, H⟩
      · have c27b0 := beq_iff_eq.mpr SE
        have c27b1 := bne_eq_false_iff_eq.mpr SE
        clear SE
        (first | rw [c27b0] | (simp only [cz, dF]; rw [c27b0]) | skip)
        generalize aln : ((bV.set ((jq) : Int).toNat (⟨(aj bV (jq)).f0, wrap64 (1 - ((aj bV (jq)).f1))⟩ : fq)) : List (fq)) = axN at H
        have axO := aa.mk aln.symm; clear aln
        have H' := aa.mk H
        clear H
        obtain ⟨aBB, aBC, aBD, aBE, aBF, aBG⟩ := gB gI.1
        obtain ⟨Cu, Cv, Cw, Cx⟩ := nO lL.1
        have p28 : 0 <= ((jq) : Int) := OD
        have q28 : ((jq) : Int) < ((bV.length : Int) : Int) := OD
        obtain ⟨LF, aQy, axP, axQ, aHb, aQz, axR⟩ := mQ HO_598002.1 (by omega)
        (first | cases axP | (injection axP with ea_ en_ ec_; (first | subst ea_ | (injection ea_ with ea_; subst ea_)); subst ec_; clear en_))
        have aHc := aa.mk axQ
        have aQA := aa.mk axR
        clear axQ aHb axR
        have HMgo28 := aa.mk (show (cu LF ∨ w.heap.size <= LF) from (HO_598002.1.1 _ rfl).1)
        (first | simp only [add_plain] at PM | skip)
        (first | simp only [add_plain] at PN | skip)
        obtain ⟨aQB, axS, axT, adp, adq⟩ := nz HO_598002.1 z83 ((jq) : Int) p28 q28
        obtain rfl := jY axT
        have aHd : Mk.cell? ⟨LF, ((jq) : Int).toNat * 2, none⟩ = some (.int .i64 ((aj bV (jq)).f0)) := adp 0 _ rfl
        have aHe : Mk.cell? ⟨LF, ((jq) : Int).toNat * 2 + 1, none⟩ = some (.int .i64 ((aj bV (jq)).f1)) := adp 1 _ rfl
        have aHf : Mk.frozen? ⟨LF, ((jq) : Int).toNat * 2, none⟩ = false := adq 0
        have aHg : Mk.frozen? ⟨LF, ((jq) : Int).toNat * 2 + 1, none⟩ = false := adq 1
        (try clear axT); clear axS adp adq
        replace p28 := eq_true p28
        replace q28 := eq_true q28
        have axU := aa.mk (show Kd.R jZ 83 Mk w0.heap.size (fun k_ => (cu k_ ∨ w.heap.size <= k_) /\ k_ ≠ pM) (.slice (some ⟨LF, 0, none⟩) bV.length yK) bV from (PR HO_598002.1))
        obtain ⟨aQC, alo, axV, adr, alp⟩ := nz axU.1 z83 ((jq) : Int) (OD) (by have h_ : ((jq) : Int) < ((bV.length : Int) : Int) := OD; first | exact h_ | (have e_ := (ay HO_598002.1).1; omega) | simpa using h_)
        obtain rfl := jY axV
        have apX := DZ axU.1 ((jq) : Int) (OD) (by have h_ : ((jq) : Int) < ((bV.length : Int) : Int) := OD; first | exact h_ | (have e_ := (ay HO_598002.1).1; omega) | simpa using h_) (seg := [.int .i64 (wrap64 (1 - ((aj bV (jq)).f1)))]) (j := 1) alo adr (show 2 <= 2 from by decide) (x' := (⟨(aj bV (jq)).f0, wrap64 (1 - ((aj bV (jq)).f1))⟩ : fq)) (uE _ _ _ (⟨(aj bV (jq)).f0, wrap64 (1 - ((aj bV (jq)).f1))⟩ : fq) ) (fun _ hk => hk)
        have apY := adr 1 _ rfl
        (try simp only [show (jZ).sz = 2 from rfl, Nat.mul_one, Nat.add_zero] at apY)
        have apZ := alp 1
        (try simp only [show (jZ).sz = 2 from rfl, Nat.mul_one, Nat.add_zero] at apZ)
        (try clear axV); clear alo adr alp
        go_wp2_with (first | ((with_reducible refine gK (t := 3) (p := 59) rfl ?_); refine lX (t := 3) (p := 59) (w1 := (Mk.setCell ⟨LF, ((jq) : Int).toNat * 2 + 1, none⟩ (.int .i64 (wrap64 (1 - ((aj bV (jq)).f1)))))) ?_; intro Qi hw; have hg : Mk.grownBy Qi (some LF) := (by rw [hw]; exact apX.2); have hp_ : Kd.R jZ 83 Qi w0.heap.size (fun k_ => (cu k_ ∨ w.heap.size <= k_) /\ k_ ≠ pM) (.slice (some ⟨LF, 0, none⟩) bV.length yK) axN := (by rw [hw, axO.1]; exact apX.1); clear apX; refine E7 (hp_) (bG gI.1 hg (dK HO_598002.1 gI.1 (by decide))) (bG fE.1 hg (dK HO_598002.1 fE.1 (by decide))) (kF (v := (.slice (some ⟨LF, 0, none⟩) bV.length yK)) (PR tu.1) (dY HO_598002.1) (by decide) hg) (bG lL.1 hg (BQ HO_598002.1 (fun _ hk => hk.2))) ((by rw [hw]; exact il (HB.1) aHc.1 : Below w0.heap.size w0 Qi)) (Kept.of_grown (S := (fun k_ => cu k_)) hg (KL HK.1) (fun k_ e_ => (HO_598002.1.1 k_ e_).1)) ?_; clear HO_598002 gI fE tu lL HB HK; intro HO_598002 gI fE tu lL HB HK; clear hg hw hp_))
        go_meet
        case rel => exact ⟨_, (axN), ((aj bV (jq)).f1), H', ⟨by have := iB.1; first | omega | exact Nat.le_refl _⟩, ⟨ER tu.1 fC⟩, ⟨ER HO_598002.1 fC⟩, ⟨Er gI.1 fC⟩, ⟨Er fE.1 fC⟩, ⟨Er lL.1 fC⟩, ⟨KL HK.1⟩, ⟨BL HB.1⟩⟩
      have c27b0 := beq_eq_false_iff_ne.mpr SE
      have c27b1 := bne_iff_ne.mpr SE
      (first | rw [c27b0] | (simp only [cz, dF]; rw [c27b0]) | skip)
      have H' := aa.mk H
      clear H
      go_wp2
      go_meet
      case rel => exact ⟨_, (bV), ((aj bV (jq)).f1), H', ⟨by have := iB.1; first | omega | exact Nat.le_refl _⟩, ⟨ER tu.1 fC⟩, ⟨ER HO_598002.1 fC⟩, ⟨Er gI.1 fC⟩, ⟨Er fE.1 fC⟩, ⟨Er lL.1 fC⟩, ⟨KL HK.1⟩, ⟨BL HB.1⟩⟩
     clear Ku
     try clear PM; try clear PN; try clear R9; try clear Sa; clear c9b0 c12b0 c13b0 qN qO rV wz wB zT JP JQ xM xN qP qQ rW wC wD zU JR JS xO xP
     obtain ⟨kq, jU, EM, HA, Qp, HO_8, HO_598002, gI, fE, lL, HK, HB⟩ := hcut
     have iG := (ay HO_598002.1).1
     rw [iG] at HO_598002
     (try simp only [iG])
     (try simp only [iG] at gI)
     (try simp only [iG] at fE)
     (try simp only [iG] at lL)
     (try simp only [iG] at HO_8)
     cases kq with
     | zero => exact absurd HA.1 (by simp [cZ.j1])
     | succ yD => ?_
     have H := HA.1
     clear HA
     simp only [cZ.j1] at H
     replace H := oP H; rcases H with ⟨ZM, H⟩ | ⟨ZM, H⟩
     · have c36b0 := beq_iff_eq.mpr ZM
       have c36b1 := bne_eq_false_iff_eq.mpr ZM
       clear ZM
       replace H := dz H; obtain ⟨R8, A37, H⟩ := H
       replace H := pu H; rcases H with ⟨c38b0, H⟩ | ⟨c38b0, H⟩
       · simp only [Option.some.injEq, Prod.mk.injEq] at H
         obtain ⟨rfl, rfl, rfl, rfl, rfl⟩ := H
         obtain ⟨afA, afB, afC, afD⟩ := nO lL.1
         obtain ⟨ae7, ae8, aBH, ae9, afa, aBI⟩ := gB gI.1
         go_wp2_with (first | ((with_reducible refine aA (f := 90) rfl ?_); refine Ep (some 66) rfl rfl Try.func90 (by kernel_rfl) rfl #[.agg #[.int .i64 ah, .int .i64 af, .slice (some yo) jU.length yK], .slice A1 l1.length c1, .int .i64 jq] rfl (by (try simp only [List.map_toArray, List.map_cons, List.map_nil]); first | done | (simp only [uY]; rfl) | rfl | (simp only [List.length_drop, List.length_take]; rfl)) ?_; (with_reducible refine (aX.calls yD ah af (fun k_ => some k_ = (.slice (some yo) jU.length yK : Value).ownBlock) (.slice (some yo) jU.length yK) jU _ _ l1 jq R8 w0 _ ?side1 ?side2 ?side3 ?side4 A37.1).mono ?_); (case side1 => exact BL HB.1); (case side2 => exact jR rfl HO_598002.1); (case side3 => exact BX HR1.1 (KL HK.1) (fun k_ hs_ => (fun e_ => (HO_598002.1.1 k_ e_.symm).1) hs_)); (case side4 => exact vD.1); rintro e w44 ⟨rfl, hy0, hb, hkp⟩; refine ⟨_, rfl, ?_⟩; refine E7 (aG (ok' := fun k_ => (cu k_ ∨ w.heap.size <= k_)) (jV ((eH HO_8.1 (dY HO_598002.1) (by decide))) hkp (fun k_ hk_ hs_ => (hk_.2) hs_)) (fun k_ hk_ => hk_.1.1)) (qp rfl hy0 (fun k_ e_ => HO_598002.1.1 k_ e_)) (eQ (PB gI.1) hkp (fun hs_ => (fun e_ => (dK HO_598002.1 gI.1 (by decide)) e_) hs_)) (eQ (PB fE.1) hkp (fun hs_ => (fun e_ => (dK HO_598002.1 fE.1 (by decide)) e_) hs_)) (eQ (PB lL.1) hkp (fun hs_ => (fun e_ => (BQ HO_598002.1 (fun _ hk => hk.2)) e_) hs_)) (Kept.then_ (S := (fun k_ => cu k_)) (KL HK.1) hkp (fun k_ hs_ => (fun e_ => (HO_598002.1.1 k_ e_.symm).1) hs_)) (hb) ?_; clear HO_8 HO_598002 gI fE lL HK HB; intro HO_8 HO_598002 gI fE lL HK HB; (try clear hb); (try clear hkp); (try clear hy0); obtain ⟨aBJ, aBK, aBL, aBM, aBN, aBO⟩ := gB fE.1))
         refine bodyPost_ret (ug rfl _ _ ic 54 #[.int .i64 3, .int .i64 bE, .int .i64 (wrap64 (kz + EL))] (0, 0) _ rfl (BB fE.1) Try.underlying54 rfl (by kernel_rfl)) rfl ?_
         exact ⟨_, by first | rfl | (simp [iC, iD] <;> rfl) | (simp only [<- uY]; first | rfl | (simp [iC, iD] <;> rfl)) | (simp [*, iC, iD] <;> rfl), by (with_reducible repeat (first | apply aV | apply aW | apply aQ)); exact aG (RQ ic 2 (RQ ic 1 (RQ ic 0 (bz HO_8.1 fE.1 (by decide)) _) _) _) (fun _ hk => hk.1), (by first | exact (by (with_reducible repeat (first | apply aV | apply aW | apply aQ)); exact aG (RQ ic 2 (RQ ic 1 (RQ ic 0 (bz HO_598002.1 fE.1 (by decide)) _) _) _) (fun _ hk => hk.1.1)) | (simp only [fC, iG]; exact (by (with_reducible repeat (first | apply aV | apply aW | apply aQ)); exact aG (RQ ic 2 (RQ ic 1 (RQ ic 0 (bz HO_598002.1 fE.1 (by decide)) _) _) _) (fun _ hk => hk.1.1)))), BL HB.1, KL HK.1⟩
       replace H := oP H; rcases H with ⟨c46, H⟩ | ⟨c46, H⟩
       · have c46b0 : decide (af <= (wrap64 (kz + EL))) = true := decide_eq_true c46
         clear c46
         simp only [Option.some.injEq, Prod.mk.injEq] at H
         obtain ⟨rfl, rfl, rfl, rfl, rfl⟩ := H
         obtain ⟨agf, agh, agi, agj⟩ := nO lL.1
         obtain ⟨aBP, aBQ, aBR, aBS, aBT, aBU⟩ := gB gI.1
         go_wp2_with (first | ((with_reducible refine aA (f := 90) rfl ?_); refine Ep (some 66) rfl rfl Try.func90 (by kernel_rfl) rfl #[.agg #[.int .i64 ah, .int .i64 af, .slice (some yo) jU.length yK], .slice A1 l1.length c1, .int .i64 jq] rfl (by (try simp only [List.map_toArray, List.map_cons, List.map_nil]); first | done | (simp only [uY]; rfl) | rfl | (simp only [List.length_drop, List.length_take]; rfl)) ?_; (with_reducible refine (aX.calls yD ah af (fun k_ => some k_ = (.slice (some yo) jU.length yK : Value).ownBlock) (.slice (some yo) jU.length yK) jU _ _ l1 jq R8 w0 _ ?side1 ?side2 ?side3 ?side4 A37.1).mono ?_); (case side1 => exact BL HB.1); (case side2 => exact jR rfl HO_598002.1); (case side3 => exact BX HR1.1 (KL HK.1) (fun k_ hs_ => (fun e_ => (HO_598002.1.1 k_ e_.symm).1) hs_)); (case side4 => exact vD.1); rintro e w52 ⟨rfl, hy0, hb, hkp⟩; refine ⟨_, rfl, ?_⟩; refine E7 (aG (ok' := fun k_ => (cu k_ ∨ w.heap.size <= k_)) (jV ((eH HO_8.1 (dY HO_598002.1) (by decide))) hkp (fun k_ hk_ hs_ => (hk_.2) hs_)) (fun k_ hk_ => hk_.1.1)) (qp rfl hy0 (fun k_ e_ => HO_598002.1.1 k_ e_)) (eQ (PB gI.1) hkp (fun hs_ => (fun e_ => (dK HO_598002.1 gI.1 (by decide)) e_) hs_)) (eQ (PB fE.1) hkp (fun hs_ => (fun e_ => (dK HO_598002.1 fE.1 (by decide)) e_) hs_)) (eQ (PB lL.1) hkp (fun hs_ => (fun e_ => (BQ HO_598002.1 (fun _ hk => hk.2)) e_) hs_)) (Kept.then_ (S := (fun k_ => cu k_)) (KL HK.1) hkp (fun k_ hs_ => (fun e_ => (HO_598002.1.1 k_ e_.symm).1) hs_)) (hb) ?_; clear HO_8 HO_598002 gI fE lL HK HB; intro HO_8 HO_598002 gI fE lL HK HB; (try clear hb); (try clear hkp); (try clear hy0); obtain ⟨aBV, aBW, aBX, aBY, aBZ, aB0⟩ := gB gI.1; obtain ⟨aB1, aB2, aB3, aB4, aB5, aB6⟩ := gB fE.1))
         refine bodyPost_ret (ug rfl _ _ ic 54 #[.int .i64 3, .int .i64 bE, .int .i64 (wrap64 (kz + EL))] (0, 0) _ rfl (BB fE.1) Try.underlying54 rfl (by kernel_rfl)) rfl ?_
         exact ⟨_, by first | rfl | (simp [iC, iD] <;> rfl) | (simp only [<- uY]; first | rfl | (simp [iC, iD] <;> rfl)) | (simp [*, iC, iD] <;> rfl), by (with_reducible repeat (first | apply aV | apply aW | apply aQ)); exact aG (RQ ic 2 (RQ ic 1 (RQ ic 0 (bz HO_8.1 fE.1 (by decide)) _) _) _) (fun _ hk => hk.1), (by first | exact (by (with_reducible repeat (first | apply aV | apply aW | apply aQ)); exact aG (RQ ic 2 (RQ ic 1 (RQ ic 0 (bz HO_598002.1 fE.1 (by decide)) _) _) _) (fun _ hk => hk.1.1)) | (simp only [fC, iG]; exact (by (with_reducible repeat (first | apply aV | apply aW | apply aQ)); exact aG (RQ ic 2 (RQ ic 1 (RQ ic 0 (bz HO_598002.1 fE.1 (by decide)) _) _) _) (fun _ hk => hk.1.1)))), BL HB.1, KL HK.1⟩
       have c46b0 : decide (af <= (wrap64 (kz + EL))) = false := decide_eq_false c46
       clear c46
       have H' := aa.mk H
       clear H
       obtain ⟨aB7, aB8, aB9, aCa⟩ := nO lL.1
       obtain ⟨NW, NY, NZ, N7, N8, N9⟩ := gB gI.1
       go_wp2_with (first | ((with_reducible refine aA (f := 90) rfl ?_); refine Ep (some 66) rfl rfl Try.func90 (by kernel_rfl) rfl #[.agg #[.int .i64 ah, .int .i64 af, .slice (some yo) jU.length yK], .slice A1 l1.length c1, .int .i64 jq] rfl (by (try simp only [List.map_toArray, List.map_cons, List.map_nil]); first | done | (simp only [uY]; rfl) | rfl | (simp only [List.length_drop, List.length_take]; rfl)) ?_; (with_reducible refine (aX.calls yD ah af (fun k_ => some k_ = (.slice (some yo) jU.length yK : Value).ownBlock) (.slice (some yo) jU.length yK) jU _ _ l1 jq R8 w0 _ ?side1 ?side2 ?side3 ?side4 A37.1).mono ?_); (case side1 => exact BL HB.1); (case side2 => exact jR rfl HO_598002.1); (case side3 => exact BX HR1.1 (KL HK.1) (fun k_ hs_ => (fun e_ => (HO_598002.1.1 k_ e_.symm).1) hs_)); (case side4 => exact vD.1); rintro e w60 ⟨rfl, hy0, hb, hkp⟩; refine ⟨_, rfl, ?_⟩; refine E7 (aG (ok' := fun k_ => (cu k_ ∨ w.heap.size <= k_)) (jV ((eH HO_8.1 (dY HO_598002.1) (by decide))) hkp (fun k_ hk_ hs_ => (hk_.2) hs_)) (fun k_ hk_ => hk_.1.1)) (qp rfl hy0 (fun k_ e_ => HO_598002.1.1 k_ e_)) (eQ (PB gI.1) hkp (fun hs_ => (fun e_ => (dK HO_598002.1 gI.1 (by decide)) e_) hs_)) (eQ (PB fE.1) hkp (fun hs_ => (fun e_ => (dK HO_598002.1 fE.1 (by decide)) e_) hs_)) (eQ (PB lL.1) hkp (fun hs_ => (fun e_ => (BQ HO_598002.1 (fun _ hk => hk.2)) e_) hs_)) (Kept.then_ (S := (fun k_ => cu k_)) (KL HK.1) hkp (fun k_ hs_ => (fun e_ => (HO_598002.1.1 k_ e_.symm).1) hs_)) (hb) ?_; clear HO_8 HO_598002 gI fE lL HK HB; intro HO_8 HO_598002 gI fE lL HK HB; (try clear hb); (try clear hkp); (try clear hy0); obtain ⟨aCb, aCc, aCd, aCe, aCf, aCg⟩ := gB gI.1))
       (try simp only [<- fC, <- iG])
       go_roundg yD
       case measure => have := iB.1; have := Qp.1; omega
       case rel => exact ⟨(wrap64 (kz + EL)), (LC), (wrap64 (-EL)), (wrap64 (bE + 1)), (R8), (uA), (uB), (uC), RG, RG, RG, H', ⟨by have := iB.1; have := Qp.1; omega⟩, ⟨MZ HO_8.1 fC iG⟩, ⟨by (try simp only [fC]); (try simp only [iG]); (with_reducible repeat (first | apply aV | apply aW | apply aQ)); exact aG HO_598002.1 (fun _ hk => hk.1)⟩, ⟨HY gI.1 fC iG⟩, ⟨HY fE.1 fC iG⟩, ⟨KL HK.1⟩, ⟨BL HB.1⟩⟩
     have c36b0 := beq_eq_false_iff_ne.mpr ZM
     have c36b1 := bne_iff_ne.mpr ZM
     replace H := pu H; rcases H with ⟨c62b0, H⟩ | ⟨c62b0, H⟩
     · simp only [Option.some.injEq, Prod.mk.injEq] at H
       obtain ⟨rfl, rfl, rfl, rfl, rfl⟩ := H
       obtain ⟨aeS, aeT, aeU, aeV⟩ := nO lL.1
       obtain ⟨aCh, aCi, aCj, aCk, aCl, aCm⟩ := gB fE.1
       go_wp2
       refine bodyPost_ret (ug rfl _ _ ic 54 #[.int .i64 3, .int .i64 bE, .int .i64 (wrap64 (kz + EL))] (0, 0) _ rfl (BB fE.1) Try.underlying54 rfl (by kernel_rfl)) rfl ?_
       exact ⟨_, by first | rfl | (simp [iC, iD] <;> rfl) | (simp only [<- uY]; first | rfl | (simp [iC, iD] <;> rfl)) | (simp [*, iC, iD] <;> rfl), by (with_reducible repeat (first | apply aV | apply aW | apply aQ)); exact aG (RQ ic 2 (RQ ic 1 (RQ ic 0 (bz HO_8.1 fE.1 (by decide)) _) _) _) (fun _ hk => hk.1), (by first | exact (by (with_reducible repeat (first | apply aV | apply aW | apply aQ)); exact aG (RQ ic 2 (RQ ic 1 (RQ ic 0 (bz HO_598002.1 fE.1 (by decide)) _) _) _) (fun _ hk => hk.1.1)) | (simp only [fC, iG]; exact (by (with_reducible repeat (first | apply aV | apply aW | apply aQ)); exact aG (RQ ic 2 (RQ ic 1 (RQ ic 0 (bz HO_598002.1 fE.1 (by decide)) _) _) _) (fun _ hk => hk.1.1)))), BL HB.1, KL HK.1⟩
     replace H := oP H; rcases H with ⟨c68, H⟩ | ⟨c68, H⟩
     · have c68b0 : decide (af <= (wrap64 (kz + EL))) = true := decide_eq_true c68
       clear c68
       simp only [Option.some.injEq, Prod.mk.injEq] at H
       obtain ⟨rfl, rfl, rfl, rfl, rfl⟩ := H
       obtain ⟨WO, WP, WQ, WR⟩ := nO lL.1
       obtain ⟨agy, agz, agA, agB, agC, agD⟩ := gB gI.1
       obtain ⟨agE, agF, agG, agH, agI, agJ⟩ := gB fE.1
       go_wp2
       refine bodyPost_ret (ug rfl _ _ ic 54 #[.int .i64 3, .int .i64 bE, .int .i64 (wrap64 (kz + EL))] (0, 0) _ rfl (BB fE.1) Try.underlying54 rfl (by kernel_rfl)) rfl ?_
       exact ⟨_, by first | rfl | (simp [iC, iD] <;> rfl) | (simp only [<- uY]; first | rfl | (simp [iC, iD] <;> rfl)) | (simp [*, iC, iD] <;> rfl), by (with_reducible repeat (first | apply aV | apply aW | apply aQ)); exact aG (RQ ic 2 (RQ ic 1 (RQ ic 0 (bz HO_8.1 fE.1 (by decide)) _) _) _) (fun _ hk => hk.1), (by first | exact (by (with_reducible repeat (first | apply aV | apply aW | apply aQ)); exact aG (RQ ic 2 (RQ ic 1 (RQ ic 0 (bz HO_598002.1 fE.1 (by decide)) _) _) _) (fun _ hk => hk.1.1)) | (simp only [fC, iG]; exact (by (with_reducible repeat (first | apply aV | apply aW | apply aQ)); exact aG (RQ ic 2 (RQ ic 1 (RQ ic 0 (bz HO_598002.1 fE.1 (by decide)) _) _) _) (fun _ hk => hk.1.1)))), BL HB.1, KL HK.1⟩
     have c68b0 : decide (af <= (wrap64 (kz + EL))) = false := decide_eq_false c68
     clear c68
     have H' := aa.mk H
     clear H
     obtain ⟨aCn, aCo, aCp, aCq⟩ := nO lL.1
     obtain ⟨afl, afm, aCr, afn, afo, aCs⟩ := gB gI.1
     go_wp2
     (try simp only [<- fC, <- iG])
     go_roundg yD
     case measure => have := iB.1; have := Qp.1; omega
     case rel => exact ⟨(wrap64 (kz + EL)), (LC), (wrap64 (-EL)), (wrap64 (bE + 1)), (jU), (uA), (uB), (uC), RG, RG, RG, H', ⟨by have := iB.1; have := Qp.1; omega⟩, ⟨MZ HO_8.1 fC iG⟩, ⟨by (try simp only [fC]); (try simp only [iG]); (with_reducible repeat (first | apply aV | apply aW | apply aQ)); exact aG HO_598002.1 (fun _ hk => hk.1)⟩, ⟨HY gI.1 fC iG⟩, ⟨HY fE.1 fC iG⟩, ⟨KL HK.1⟩, ⟨BL HB.1⟩⟩
   simp only [Option.some.injEq, Prod.mk.injEq] at H
   obtain ⟨rfl, rfl, rfl, rfl, rfl⟩ := H
   have aMB := Ip.1
   have aMC := Iq.1
   obtain ⟨aCt, aCu, aCv, aCw, aCx, aCy⟩ := gB gI.1
   go_wp2_with (first | ((with_reducible refine bf (b := .append) (xs := #[.tmp 28, .tmp 30]) rfl ?_); at_builtin; refine ek (Kd.int .i64) (w0 := w0) w0.heap.size rfl (.tmp 28) (.tmp 30) 38 3 (.int .i64 0) 8 rfl Try.underlying38 info3 rfl (by decide) (by omega) u8 d9 jq [.int .i64 jq] (fun k_ => (cu k_ ∨ w.heap.size <= k_)) (fun _ => False) rfl rfl ?aP (fun _ hk => hk.elim) ?aF ?aO ?aB ?aS ?aL ?_; (case aP => exact rfl); (case aB => exact (BL HB.1)); (case aF => exact (fun k_ hk => (.inr (Nat.le_trans (by first | exact HK.1.1 | exact (show Kept w _ (fun k_ => cu k_) from KL HK.1).1) hk)))); (case aO => exact (PR HO_8.1)); (case aS => exact (bZ HB.1)); (case aL => have := Ns.1; omega); intro axK w82 ho hb hg hat; rw [<- ado.1] at ho; refine E6 (kF (PR HO_598002.1) (dY (PR HO_8.1)) (by decide) hg) (bG gI.1 hg (dK HO_8.1 gI.1 (by decide))) (bG fE.1 hg (dK HO_8.1 fE.1 (by decide))) (hb) (Kept.of_grown (S := (fun k_ => cu k_)) hg (KL HK.1) (fun k_ e_ => (HO_8.1.1 k_ e_))) (ho) ?_; clear HO_598002 gI fE HB HK HO_8; intro HO_598002 gI fE HB HK tu; clear ho hb hg hat; obtain ⟨Vt, Vu, Vv, Vw, Vx, Vy⟩ := gB gI.1; have R9 : 0 <= ((jq) : Int) := OD; have Sa : (jq) < (bV.length : Int) := OD; obtain ⟨yo, apW, PM, PN⟩ := iP (ay HO_598002.1).2.2 (jq) R9 Sa; cases apW; replace R9 := eq_true R9; replace Sa := eq_true Sa) | ((with_reducible refine aC (N := 12) rfl ?_); refine dN (cs := #[.int .i64 0, .int .i64 0]) (t := 83) ?_; intro pM hg w84 hbox hb; refine E13 (jf (pE (PR HO_598002.1) pM (Nat.le_of_eq hg.symm)) hb) (rB tu.1 hb) (bB gI.1 hb) (bB fE.1 hb) (Kept.below (S := (fun k_ => cu k_)) (KL HK.1) hb) (bS HB.1 hb) (hbox) ((by rw [hg]; exact (by first | exact HK.1.1 | exact (show Kept w _ (fun k_ => cu k_) from KL HK.1).1) : w.heap.size <= pM)) (Qm hg (bZ HB.1) : w0.heap.size <= pM) (nB gI.1 hg) (nC gI.1 hg) (nB fE.1 hg) (nC fE.1 hg) ?_; clear HO_598002 tu gI fE HK HB; intro HO_598002 tu gI fE HK HB lL axL axM zD Ir zF Iu; clear hb hbox hg; have av0 := Ir.1; have av1 := zD.1; have av2 := Iu.1; have av3 := zF.1; obtain ⟨agK, agL, agM, agN⟩ := nO lL.1) | ((with_reducible refine aA (f := 89) rfl ?_); refine Ep (some 40) rfl rfl Try.func89 (by kernel_rfl) rfl #[.agg #[.int .i64 ((aj bV (jq)).f0), .int .i64 ((aj bV (jq)).f1)], .int .i64 kJ] rfl (by (try simp only [List.map_toArray, List.map_cons, List.map_nil]); first | done | (simp only [uY]; rfl) | rfl | (simp only [List.length_drop, List.length_take]; rfl)) ?_; (with_reducible refine (bY.calls k1 ((aj bV (jq)).f0) ((aj bV (jq)).f1) kJ EL false _ A14.1).mono ?_); rintro e w88 ⟨rfl, hb⟩; refine ⟨_, rfl, ?_⟩; refine E7 (jf (by (with_reducible repeat (first | apply aV | apply aW | apply aQ)); exact (aG (RQ pM 1 (RQ pM 0 (aG HO_598002.1 (fun k_ hk => (⟨hk, hk.2⟩ : _ /\ k_ ≠ pM))) _) _) (fun _ h_ => h_.1))) hb) (jf (by (with_reducible repeat (first | apply aV | apply aW | apply aQ)); exact (aG (RQ pM 1 (RQ pM 0 (bz tu.1 lL.1 (by decide)) _) _) (fun _ h_ => h_.1))) hb) (dh (g := NH) (o := .cells #[.int .i64 ah, .int .i64 af, .slice (some yo) bV.length yK] 30 (0, 0)) (xB zD.1 gI.1) hb) (dh (g := ic) (o := .cells #[.int .i64 uA, .int .i64 uB, .int .i64 uC] 54 (0, 0)) (xB zF.1 fE.1) hb) (dh (g := pM) (o := .cells #[.int .i64 ((aj bV (jq)).f0), .int .i64 ((aj bV (jq)).f1)] 83 (0, 0)) (BB lL.1) hb) (Kept.below (S := (fun k_ => cu k_)) (KL HK.1) hb) (bS HB.1 hb) ?_; clear HO_598002 tu gI fE lL HK HB; intro HO_598002 tu gI fE lL HK HB; (try clear hb); (try clear hk); obtain ⟨aCz, aCA, aCB, aCC, aCD, aCE⟩ := gB fE.1))
   refine bodyPost_ret (ug rfl _ _ ic 54 #[.int .i64 2, .int .i64 bE, .int .i64 kz] (0, 0) _ rfl (BB fE.1) Try.underlying54 rfl (by kernel_rfl)) rfl ?_
   exact ⟨_, by first | rfl | (simp [iC, iD] <;> rfl) | (simp only [<- uY]; first | rfl | (simp [iC, iD] <;> rfl)) | (simp [*, iC, iD] <;> rfl), by (with_reducible repeat (first | apply aV | apply aW | apply aQ)); exact aG (RQ ic 2 (RQ ic 1 (RQ ic 0 (bz tu.1 fE.1 (by decide)) _) _) _) (fun _ hk => hk.1), (by first | exact (by (with_reducible repeat (first | apply aV | apply aW | apply aQ)); exact aG (RQ ic 2 (RQ ic 1 (RQ ic 0 (bz HO_598002.1 fE.1 (by decide)) _) _) _) (fun _ hk => hk.1.1)) | (simp only [fC]; exact (by (with_reducible repeat (first | apply aV | apply aW | apply aQ)); exact aG (RQ ic 2 (RQ ic 1 (RQ ic 0 (bz HO_598002.1 fE.1 (by decide)) _) _) _) (fun _ hk => hk.1.1)))), BL HB.1, KL HK.1⟩
 simp only [Option.some.injEq, Prod.mk.injEq] at H
 obtain ⟨rfl, rfl, rfl, rfl, rfl⟩ := H
 have aMD := Ip.1
 have aME := Iq.1
 obtain ⟨aCF, aCG, aCH, aCI, aCJ, aCK⟩ := gB gI.1
 obtain ⟨aCL, aCM, aCN, aCO, aCP, aCQ⟩ := gB fE.1
 go_wp2
 refine bodyPost_ret (ug rfl _ _ ic 54 #[.int .i64 1, .int .i64 ah, .int .i64 kz] (0, 0) _ rfl (BB fE.1) Try.underlying54 rfl (by kernel_rfl)) rfl ?_
 exact ⟨_, RF, by (with_reducible repeat (first | apply aV | apply aW | apply aQ)); exact aG (RQ ic 2 (RQ ic 1 (RQ ic 0 (bz HO_8.1 fE.1 (by decide)) _) _) _) (fun _ hk => hk.1), (by first | exact (by (with_reducible repeat (first | apply aV | apply aW | apply aQ)); exact aG (RQ ic 2 (RQ ic 1 (RQ ic 0 (bz HO_598002.1 fE.1 (by decide)) _) _) _) (fun _ hk => hk.1)) | (simp only [fC]; exact (by (with_reducible repeat (first | apply aV | apply aW | apply aQ)); exact aG (RQ ic 2 (RQ ic 1 (RQ ic 0 (bz HO_598002.1 fE.1 (by decide)) _) _) _) (fun _ hk => hk.1)))), BL HB.1, KL HK.1⟩
mutual
def az.l0 : Nat -> List (List Int) -> List Int -> List (List Int) -> List Int -> Int -> Int -> Int -> Int -> List (fq) -> Option ((List (List Int)))
 | 0, _, _, _, _, _, _, _, _, _ => none
 | k + 1, x5, x6, x7, Oc, Mh, Hu, yt, yu, yw => if Hu < Mh then (if 0 <= Hu then (if Hu < (Oc.length : Int) then (if 0 <= (shl .i64 1 (x5.length : Int)) then (if (shl .i64 1 (x5.length : Int) : Int).toNat <= 35184372088832 then (if Hu < (x7.length : Int) then ((some (x7.set (Hu : Int).toNat (List.replicate (shl .i64 1 (x5.length : Int) : Int).toNat 0) : List (List Int))).bind fun Ji => (az.l1 k x5 x6 Ji Hu (rd Oc Hu) Oc Mh Hu ((aT Ji Hu).length : Int) 0 yt yu yw)) else (none)) else (none)) else (none)) else (none)) else (none)) else (some x7)
def az.l1 : Nat -> List (List Int) -> List Int -> List (List Int) -> Int -> Int -> List Int -> Int -> Int -> Int -> Int -> Int -> Int -> List (fq) -> Option ((List (List Int)))
 | 0, _, _, _, _, _, _, _, _, _, _, _, _, _ => none
 | k + 1, x5, x6, x7, x8, x9, Oc, Mh, Hu, x39, x40, yt, yu, yw => if x40 < x39 then ((fM.f yt yu yw).bind fun LG => ((dA.f k x40 (x5.length : Int)).bind fun Sb => ((aM.f k LG.1 LG.2.1 LG.2.2 x5 Sb).bind fun ahc => ((cZ.f k LG.1 LG.2.1 ahc x6 x9).bind fun axX => (if 0 <= (x5.length : Int) then (if ((x5.length : Int) : Int).toNat <= 35184372088832 then (az.l2 k x5 x6 x7 x8 x9 x40 (List.replicate ((x5.length : Int) : Int).toNat 0) Oc Mh Hu x39 x40 (x5.length : Int) 0 yt yu yw LG.1 LG.2.1 axX.2.2.2.2) else (none)) else (none)))))) else (az.l0 k x5 x6 x7 Oc Mh (wrap64 (Hu + 1)) yt yu yw)
def az.l2 : Nat -> List (List Int) -> List Int -> List (List Int) -> Int -> Int -> Int -> List Int -> List Int -> Int -> Int -> Int -> Int -> Int -> Int -> Int -> Int -> List (fq) -> Int -> Int -> List (fq) -> Option ((List (List Int)))
 | 0, _, _, _, _, _, _, _, _, _, _, _, _, _, _, _, _, _, _, _, _ => none
 | k + 1, x5, x6, x7, x8, x9, j6, pz, Oc, Mh, Hu, x39, x40, KU, DN, yt, yu, yw, ahd, ahe, PO => if DN < KU then (if 0 <= DN then (if DN < (x5.length : Int) then (if 0 < ((aT x5 DN).length : Int) then (if 0 <= (rd (aT x5 DN) 0) then (if (rd (aT x5 DN) 0) < (PO.length : Int) then (if DN < (pz.length : Int) then (az.l2 k x5 x6 x7 x8 x9 j6 (pz.set (DN : Int).toNat ((aj PO (rd (aT x5 DN) 0)).f1)) Oc Mh Hu x39 x40 KU (wrap64 (DN + 1)) yt yu yw ahd ahe PO) else (none)) else (none)) else (none)) else (none)) else (none)) else (none)) else (if 0 <= x8 then (if x8 < (x7.length : Int) then ((bC.f k pz).bind fun ads => (if 0 <= j6 then (if j6 < ((aT x7 x8).length : Int) then (az.l1 k x5 x6 (x7.set (x8 : Int).toNat ((aT x7 x8).set (j6 : Int).toNat ads)) x8 x9 Oc Mh Hu x39 (wrap64 (x40 + 1)) yt yu yw) else (none)) else (none))) else (none)) else (none))
end
def az.g (k : Nat) (ah : Int) (af : Int) (ae : List (fq)) (l1 : List Int) (l2 : List (List Int)) (l3 : List Int) : Option ((List (List Int))) := if 0 <= (l1.length : Int) then (if ((l1.length : Int) : Int).toNat <= 11728124029610 then (az.l0 k l2 l3 (List.replicate ((l1.length : Int) : Int).toNat []) l1 (l1.length : Int) 0 ah af ae) else (none)) else (none)
def az.f (k : Nat) (ah : Int) (af : Int) (ae : List (fq)) (l1 : List Int) : Option ((List (List Int))) := (bn.f k ah af ae).bind fun l2 => ((av.f k ah af ae).bind fun l3 => (az.g k ah af ae l1 l2 l3))
theorem az.mono_l : ∀ k, (∀ y0 y1 y2 y3 y4 y5 y6 y7 y8, dO (az.l0 k y0 y1 y2 y3 y4 y5 y6 y7 y8) (az.l0 (k + 1) y0 y1 y2 y3 y4 y5 y6 y7 y8)) /\ (∀ y0 y1 y2 y3 y4 y5 y6 y7 y8 y9 IG MV Vr, dO (az.l1 k y0 y1 y2 y3 y4 y5 y6 y7 y8 y9 IG MV Vr) (az.l1 (k + 1) y0 y1 y2 y3 y4 y5 y6 y7 y8 y9 IG MV Vr)) /\ (∀ y0 y1 y2 y3 y4 y5 y6 y7 y8 y9 IG MV Vr y13 y14 y15 y16 y17 y18 y19, dO (az.l2 k y0 y1 y2 y3 y4 y5 y6 y7 y8 y9 IG MV Vr y13 y14 y15 y16 y17 y18 y19) (az.l2 (k + 1) y0 y1 y2 y3 y4 y5 y6 y7 y8 y9 IG MV Vr y13 y14 y15 y16 y17 y18 y19))
 | 0 => by refine ⟨?_, ?_, ?_⟩ <;> (intros; intro r h; first | (simp [az.l0] at h; done) | (simp [az.l1] at h; done) | (simp [az.l2] at h; done))
 | k + 1 => by
  obtain ⟨ja, ih1, ih2⟩ := az.mono_l k
  refine ⟨?_, ?_, ?_⟩ <;> (
   intros
   first | unfold az.l0 | unfold az.l1 | unfold az.l2
   exact LM7 ja ih1 ih2 dA.mono cZ.mono bC.mono aM.mono)
theorem az.gmono : ∀ a0 a1 a2 a3 a4 a5 k, dO (az.g k a0 a1 a2 a3 a4 a5) (az.g (k + 1) a0 a1 a2 a3 a4 a5) := by
 intro a0 a1 a2 a3 a4 a5 k
 obtain ⟨ja, ih1, ih2⟩ := az.mono_l k
 unfold az.g
 repeat' first
  | (with_reducible exact ja _ _ _ _ _ _ _ _ _)
  | (with_reducible exact ih1 _ _ _ _ _ _ _ _ _ _ _ _ _)
  | (with_reducible exact ih2 _ _ _ _ _ _ _ _ _ _ _ _ _ _ _ _ _ _ _ _)
  | (with_reducible exact dA.mono _ _ _)
  | (with_reducible exact cZ.mono _ _ _ _ _ _)
  | (with_reducible exact bC.mono _ _)
  | (with_reducible exact aM.mono _ _ _ _ _ _)
  | (with_reducible exact dO.refl _)
  | (with_reducible exact dO.none _)
  | (with_reducible refine dO.ite ?_ ?_)
  | (with_reducible refine dO.bind ?_ (fun _ => ?_))
  | exact ja _ _ _ _ _ _ _ _ _
  | exact ih1 _ _ _ _ _ _ _ _ _ _ _ _ _
  | exact ih2 _ _ _ _ _ _ _ _ _ _ _ _ _ _ _ _ _ _ _ _
  | exact dA.mono _ _ _
  | exact cZ.mono _ _ _ _ _ _
  | exact bC.mono _ _
  | exact aM.mono _ _ _ _ _ _
  | exact dO.none _
  | refine dO.ite ?_ ?_
  | refine dO.bind ?_ (fun _ => ?_)
def az.T18 : Bool × List (List Nat × List Nat) := (true, [([], []), ([], []), ([], []), ([2], [2]), ([], []), ([], []), ([4, 5], [4, 5]), ([6], [6]), ([7], [7]), ([8], [8]), ([3, 9], [3, 9]), ([10], [10]), ([11], [11]), ([0, 1, 0, 1, 2, 3, 4, 5, 6, 7, 8, 9, 10, 11, 12], [0, 1]), ([13, 12, 0, 1, 2, 3, 4, 5, 6, 7, 8, 9, 10, 11, 12], [12, 13])])
def az.B18 : List Nat := [0, 0, 0, 4, 0, 0, 48, 112, 240, 496, 1020, 2044, 4092, 8191, 16383]
theorem az.aa8 : mX .any (opsOf Try.f48 18) = az.T18 := by kernel_rfl
theorem az.bits18 : kr az.T18.2 az.B18 = true := by kernel_rfl
def az.T20 : Bool × List (List Nat × List Nat) := (true, [([], []), ([], []), ([0, 1], [0, 1]), ([2], [2]), ([], []), ([], []), ([5], [5]), ([3, 4, 0, 1, 2, 3, 4, 5, 6], [3, 4]), ([7, 6, 6, 0, 1, 2, 3, 4, 5, 6], [6, 7])])
def az.B20 : List Nat := [0, 0, 3, 7, 0, 0, 32, 127, 255]
theorem az.axY : mX .any (opsOf Try.f48 20) = az.T20 := by kernel_rfl
theorem az.bits20 : kr az.T20.2 az.B20 = true := by kernel_rfl
theorem az.mono : ∀ a0_ a1_ a2_ a3_ k, dO (az.f k a0_ a1_ a2_ a3_) (az.f (k + 1) a0_ a1_ a2_ a3_) := by
 intro a0_ a1_ a2_ a3_ k
 unfold az.f
 refine dO.bind (bn.mono _ _ _ _) (fun _ => ?_)
 refine dO.bind (av.mono _ _ _ _) (fun _ => ?_)
 exact az.gmono _ _ _ _ _ _ _
theorem az.calls (k : Nat) (ah : Int) (af : Int) (aK : Option Addr) (aJ : Nat) (ae : List (fq)) (A1 : Option Addr) (c1 : Nat) (l1 : List Int) (r : List (List Int)) (w : World) (dH : Kd.C jZ w aK ae.length ae) (dG : ae.length <= aJ) (hr1 : Kd.C (Kd.int .i64) w A1 l1.length l1) (hc1 : l1.length <= c1) (h : az.f k ah af ae l1 = some r) :
 Calls Try.prog 48 #[.agg #[.int .i64 ah, .int .i64 af, .slice aK ae.length aJ], .slice A1 l1.length c1] w fun e w' => ∃ rO : Value, e = .returned (rO) /\ Kd.S (Kd.slice 3 (Kd.int .i64)) 38 w' w.heap.size (fun _ => True) rO r /\ Below w.heap.size w w' := by
 have nH := Try.underlying30
 have bD := aa.mk dH
 have cO := aa.mk dG
 clear dH dG
 have HR1 := aa.mk hr1
 have vD := aa.mk hc1
 clear hr1 hc1
 have HB := aa.mk (Below.refl w.heap.size w)
 have H := h
 clear h
 unfold az.f at H
 replace H := dz H; obtain ⟨l2, AL0, H⟩ := H
 replace H := dz H; obtain ⟨l3, AL1, H⟩ := H
 unfold az.g at H
 replace H := oC H; obtain ⟨c5, H⟩ := H
 have c5b0 := eq_true c5
 have c5b1 := decide_eq_true c5
 clear c5
 replace H := oC H; obtain ⟨c6, H⟩ := H
 have c6b0 := eq_true c6
 have c6b1 := decide_eq_true c6
 clear c6
 generalize alq : ((List.replicate ((l1.length : Int) : Int).toNat []) : List (List Int)) = aHl at H
 have alr := aa.mk alq.symm; clear alq
 have H' := aa.mk H
 clear H
 go_enter Try.func48, Try.ntmps48
 go_wp2_with (first | ((with_reducible refine aA (f := 61) rfl ?_); refine cK (N := some 15) #[.agg #[.int .i64 ah, .int .i64 af, .slice aK ae.length aJ]] Try.func61 ?_; (with_reducible refine (bn.calls k ah af _ _ ae l2 _ ?side1 ?side2 AL0.1).mono ?_); (case side1 => exact CB (aY bD.1 HB.1)); (case side2 => exact cO.1); rintro e wl0 ⟨vl0, rfl, ho0, hb⟩; refine ⟨_, rfl, ?_⟩; obtain ⟨A2, c2, el2⟩ := mq ho0; subst el2; refine E4 (fJ ho0).2.2 (fJ ho0).2.1 (bB gJ.1 hb) (bS HB.1 hb) ?_; clear gJ HB; intro HR2 HC2 gJ HB; clear hb ho0; obtain ⟨hczl0_0, hczl0_1, hczl0_2, hfzl0_0, hfzl0_1, hfzl0_2⟩ := gB gJ.1) | ((with_reducible refine aA (f := 74) rfl ?_); refine cK (N := some 17) #[.agg #[.int .i64 ah, .int .i64 af, .slice aK ae.length aJ]] Try.func74 ?_; (with_reducible refine (av.calls k ah af _ _ ae l3 _ ?side1 ?side2 AL1.1).mono ?_); (case side1 => exact CB (aY bD.1 HB.1)); (case side2 => exact cO.1); rintro e w ⟨vl1, rfl, ho0, hb⟩; refine ⟨_, rfl, ?_⟩; obtain ⟨A3, c3, el3⟩ := bv ho0; subst el3; refine E8 (bS HB.1 hb) (aY bD.1 (bS HB.1 hb)) (aY HR1.1 (bS HB.1 hb)) (aY HR2.1 hb) (ay ho0).2.2 (ay ho0).2.1 (bB gJ.1 hb) (Below.refl w.heap.size w) ?_; clear bD HR1 HR2 gJ HB; intro HW bD HR1 HR2 HR3 HC3 gJ HB; clear hb ho0) | ((with_reducible refine aC (N := 2) rfl ?_); refine dN (cs := #[.int .i64 ah, .int .i64 af, .slice aK ae.length aJ]) (t := 30) ?_; intro Xj hg w7 hbox hb; refine mJ HB.1 hg hbox hb ?_; clear HB; intro HB gJ aMM aMN; clear hb hbox hg; obtain ⟨hczb_0, hczb_1, hczb_2, hfzb_0, hfzb_1, hfzb_2⟩ := gB gJ.1) | ((with_reducible refine aC (N := 20) rfl ?_); refine am5 (Kd.slice 3 (Kd.int .i64)) _ 38 rfl (N := 20) rfl 60 _ _ rfl (l1.length : Int) rfl rfl Try.underlying60 (.slice none 0 0) 24 Ab rfl (by decide) (by omega) [] (ok := fun _ => True) (okp := fun _ => True) ⟨_, rfl, tO _ _ _ _ _⟩ (fun _ hk => hk) trivial (OD) (Nat.le_trans (Nat.mul_le_mul_right _ (OD : (l1.length : Int).toNat <= 11728124029610)) (by omega)) (Below.refl _ _) (Nat.le_refl _) ?_; intro aHm w8 ho9 hb hg_ hnew_; clear hg_ hnew_; (first | rw [<- alr.1] at ho9 | (simp only [Int.reduceToNat] at ho9; rw [<- alr.1] at ho9)); refine E3 (lN ho9 (bZ HB.1)) (bB gJ.1 hb) (bS HB.1 hb) ?_; clear gJ HB; intro ax0 gJ HB; clear hb ho9))
 go_loopg [23] k (fun kq v23 w' => ∃ (qa : List (List Int)) (jv : Int), v23 = .int .i64 jv /\ aa (az.l0 kq l2 l3 qa l1 (l1.length : Int) jv ah af ae = some r) /\ aa (kq <= k) /\ aa (Kd.S (Kd.slice 3 (Kd.int .i64)) 38 w' w.heap.size (fun _ => True) aHm qa) /\ aa (w'.heap[Xj]? = some (.cells #[.int .i64 ah, .int .i64 af, (.slice aK ae.length aJ)] 30 (0, 0))) /\ aa (Below w.heap.size w w'))
 case atStart => exact ⟨(aHl), (0), RG, H', ⟨Nat.le_refl _⟩, ⟨PS ax0.1⟩, ⟨PB gJ.1⟩, ⟨BL HB.1⟩⟩
 clear H'
 try clear c1; try clear c2; try clear c3; clear c5b0 c5b1 c6b0 c6b1
 obtain ⟨qa, jv, rfl, HA, iB, HO_7, gJ, HB⟩ := hrel
 cases gk with
 | zero => exact absurd HA.1 (by simp [az.l0])
 | succ k1 => ?_
 have H := HA.1
 clear HA
 simp only [az.l0] at H
 replace H := pu H; rcases H with ⟨c10b0, H⟩ | ⟨c10b0, H⟩
 · replace H := ji H; obtain ⟨c11b0, H⟩ := H
   replace H := ji H; obtain ⟨c12b0, H⟩ := H
   obtain ⟨pY, yc⟩ : ∃ j_ : Int, (shl .i64 1 (l2.length : Int)) = j_ := ⟨_, rfl⟩
   replace H : (if 0 <= (pY) then (if (pY : Int).toNat <= 35184372088832 then (if jv < (qa.length : Int) then ((some (qa.set (jv : Int).toNat (List.replicate (pY : Int).toNat 0) : List (List Int))).bind fun Ji => (az.l1 k1 l2 l3 Ji jv (rd l1 jv) l1 (l1.length : Int) jv ((aT Ji jv).length : Int) 0 ah af ae)) else (none)) else (none)) else (none)) = some r := by first | (rw [yc] at H; exact H) | (simp only [yc] at H ⊢; exact H)
   have OV : (IntKind.i64.wrap (1 * 2 ^ min (l2.length : Int).toNat 64)) = pY := yc
   have hji13z : (l2.length : Int) <= 64 -> (IntKind.i64.wrap (1 * 2 ^ (l2.length : Int).toNat)) = pY := CO yc
   have hji13p : (IntKind.i64.wrap (1 * 2 ^ min l2.length 64)) = pY := OV
   have hji13q : (l2.length : Int) <= 64 -> (IntKind.i64.wrap (1 * 2 ^ l2.length)) = pY := hji13z
   have hji13r : (IntKind.i64.wrap (2 ^ min l2.length 64)) = pY := by have h_ := hji13p; rw [Int.one_mul] at h_; exact h_
   have hji13s : (l2.length : Int) <= 64 -> (IntKind.i64.wrap (2 ^ l2.length)) = pY := fun hle_ => by have h_ := hji13q hle_; rw [Int.one_mul] at h_; exact h_
   have hji13u : (IntKind.i64.wrap (2 ^ min (l2.length : Int).toNat 64)) = pY := by have h_ := OV; rw [Int.one_mul] at h_; exact h_
   have hji13v : (l2.length : Int) <= 64 -> (IntKind.i64.wrap (2 ^ (l2.length : Int).toNat)) = pY := fun hle_ => by have h_ := hji13z hle_; rw [Int.one_mul] at h_; exact h_
   have hji13y : (wrap64 (1 * 2 ^ min (l2.length : Int).toNat 64)) = pY := (cz _).symm.trans OV
   have hji13x : (l2.length : Int) <= 64 -> (wrap64 (1 * 2 ^ (l2.length : Int).toNat)) = pY := fun h_ => (cz _).symm.trans (hji13z h_)
   replace H := oC H; obtain ⟨c14, H⟩ := H
   have c14b0 := eq_true c14
   have c14b1 := decide_eq_true c14
   clear c14
   replace H := oC H; obtain ⟨c15, H⟩ := H
   have c15b0 := eq_true c15
   have c15b1 := decide_eq_true c15
   clear c15
   generalize als : ((List.replicate (pY : Int).toNat 0) : List Int) = adt at H
   have alu := aa.mk als.symm; clear als
   replace H := ji H; obtain ⟨c16b0, H⟩ := H
   replace H := nR H; obtain ⟨Ji, alv, H⟩ := H
   have H' := aa.mk H
   clear H
   have ahf : 0 <= (jv : Int) := OD
   have ahg : jv < (l1.length : Int) := OD
   obtain ⟨aMO, aHn, Km⟩ := Kd.dx HR1.1 jv ahf ahg
   cases aHn
   replace Km := (HB.1.cell (World.block_lt_of_cell? w _ Km)).trans Km
   replace ahf := eq_true ahf
   replace ahg := eq_true ahg
   go_wp2_with (first | ((with_reducible refine aC (N := 33) rfl ?_); refine yH (Kd.int .i64) _ 3 rfl (N := 33) rfl 38 _ _ rfl pY rfl rfl Try.underlying38 (.int .i64 0) 8 info3 rfl (by decide) (by omega) 0 (ok := fun _ => True) (okp := fun _ => True) rfl (fun _ hk => hk) trivial (OD) (Nat.le_trans (Nat.mul_le_mul_right _ (OD : pY.toNat <= 35184372088832)) (by omega)) (Below.refl _ _) (Nat.le_refl _) ?_; intro aQI w18 Zj hb hg_ hnew_; clear hg_ hnew_; (first | rw [<- alu.1] at Zj | (simp only [Int.reduceToNat] at Zj; rw [<- alu.1] at Zj)); refine E4 (kW (PS HO_7.1) (fe Zj) hb) (bN Zj (bZ HB.1)) (bB gJ.1 hb) (bS HB.1 hb) ?_; clear HO_7 gJ HB; intro HO_7 Xk gJ HB; clear hb Zj; obtain ⟨Xl, Xm, ax1⟩ := bv Xk.1; subst ax1; have p17 : 0 <= (jv : Int) := OD; have q17 : (jv : Int) < ((qa.length : Int) : Int) := OD; obtain ⟨Jj, Ja, Jb, ax2, aHo, aQJ, ax3⟩ := Ol HO_7.1 (by omega); (first | cases Jb | (injection Jb with ea_ en_ ec_; (first | subst ea_ | (injection ea_ with ea_; subst ea_)); subst ec_; clear en_)); have aHp := aa.mk ax2; have aQK := aa.mk ax3; clear ax2 aHo ax3; obtain ⟨_, aQL, ax4, ax5, alx, aly, _, _⟩ := KN HO_7.1 [] (jv : Int) p17 q17; obtain ⟨aHq, rfl, aHr⟩ := ax5; have adu := alx 0 _ rfl; have ap0 := aly 0; (try simp only [show ((Kd.slice 3 (Kd.int .i64))).sz = 1 from rfl, Nat.mul_one, Nat.add_zero] at adu); (try simp only [show ((Kd.slice 3 (Kd.int .i64))).sz = 1 from rfl, Nat.mul_one, Nat.add_zero] at ap0); (try clear ax5); clear ax4 alx aly; replace p17 := eq_true p17; replace q17 := eq_true q17; have n_ := aa.mk (eY (ok' := (fun k_ => some k_ ≠ ((.slice Xl adt.length Xm) : Value).ownBlock)) HO_7.1 (fun k_ hk => hk.2)); clear HO_7; have HO_7 := n_; clear n_; have aHs := aa.mk (show Kd.S (Kd.slice 3 (Kd.int .i64)) 38 w18 w.heap.size (fun k_ => ((fun _ => True)) k_ /\ ¬ ((fun k_ => some k_ = ((.slice Xl adt.length Xm) : Value).ownBlock)) k_) (.slice (some ⟨Jj, 0, none⟩) qa.length Ja) qa from (ES (eY HO_7.1 (fun k_ hk => ⟨trivial, fun e_ => hk e_⟩)))); obtain ⟨aMP, aQM, ax6, aHt, alz, alA, hoki20, ax7⟩ := KN aHs.1 [] (jv : Int) (OD) (by have h_ : (jv : Int) < ((qa.length : Int) : Int) := OD; first | exact h_ | (have e_ := (fJ HO_7.1).1; omega) | simpa using h_); obtain ⟨aHu, rfl, aHv⟩ := aHt; have ahh := aip ax7 (OD) (by have h_ : (jv : Int) < ((qa.length : Int) : Int) := OD; first | exact h_ | (have e_ := (fJ HO_7.1).1; omega) | simpa using h_) (seg := [(.slice Xl adt.length Xm)]) (j := 0) (show 1 <= 1 from by decide) (x' := adt) (BC (aG (jR rfl (aG (ok' := fun k_ => ((fun _ => True)) k_ /\ k_ ≠ Jj) (eH (Xk.1) (jW HO_7.1) (by decide)) (fun k_ hk => ⟨trivial, fun e_ => (hk.2) (by rw [e_]; rfl)⟩))) (fun _ h_ => Or.inr (h_)))) (fun _ hk => hk) (fun k_ hk_ => ((aG (ok' := fun k_ => ((fun _ => True)) k_ /\ k_ ≠ Jj) (eH (Xk.1) (jW HO_7.1) (by decide)) (fun k_ hk => ⟨trivial, fun e_ => (hk.2) (by rw [e_]; rfl)⟩))).1 k_ hk_.symm); have adv := alz 0 _ rfl; (try simp only [show ((Kd.slice 3 (Kd.int .i64))).sz = 1 from rfl, Nat.mul_one, Nat.add_zero] at adv); have ap1 := alA 0; (try simp only [show ((Kd.slice 3 (Kd.int .i64))).sz = 1 from rfl, Nat.mul_one, Nat.add_zero] at ap1); clear ax6 alz alA hoki20 ax7; (try simp only [show ((Kd.slice 3 (Kd.int .i64))).sz = 1 from rfl, Nat.mul_one, Nat.add_zero] at ahh)) | ((with_reducible refine gK (t := 38) (p := 34) rfl ?_); refine lX (t := 38) (p := 34) (w1 := (w18.setCell ⟨Jj, (jv : Int).toNat, none⟩ ((.slice Xl adt.length Xm)))) ?_; intro Qo hw; have hg : w18.grownBy Qo (some Jj) := (by rw [hw]; exact ahh.2); have hp_ : Kd.S (Kd.slice 3 (Kd.int .i64)) 38 Qo w.heap.size (fun _ => True) (.slice (some ⟨Jj, 0, none⟩) qa.length Ja) Ji := (by rw [hw, alv.1]; exact ahh.1); clear ahh; refine E3 (hp_) (bG gJ.1 hg (xe HO_7.1 gJ.1 (by decide))) ((by rw [hw]; exact il (HB.1) aHp.1 : Below w.heap.size w Qo)) ?_; clear HO_7 gJ HB Xk; intro HO_7 gJ HB; clear hg hw hp_; have adw : 0 <= (jv : Int) := OD; have adx : jv < (Ji.length : Int) := (by have h_ : (jv : Int) < ((qa.length : Int) : Int) := OD; first | (have e_ := (fJ HO_7.1).1; omega) | simpa only [alv.1, List.length_set] using h_); have aMQ : ((jv : Int) < ((qa.length : Int) : Int)) = True := eq_true (OD); obtain ⟨ax8, aHw, aHx, aHy, Du, Xn, Xo⟩ := tT (fJ HO_7.1).2.2 jv adw adx; obtain rfl : (⟨Jj, 0, none⟩ : Addr) = ax8 := (by injection aHy); obtain ⟨aMR, ap2, ap3, ady⟩ := BF HO_7.1 [] jv adw (by first | exact adx | exact OD | (have e_ := (fJ HO_7.1).1; omega)); obtain ⟨aCT, rfl, PP⟩ := ap3; have GR := ady 0 _ rfl; rw [Nat.add_zero, show ((Kd.slice 3 (Kd.int .i64))).sz = 1 from rfl, Nat.mul_one] at GR; replace GR := Option.some.inj (GR.symm.trans Du); rw [GR] at PP; have aCU := aa.mk (show Kd.R (Kd.int .i64) 3 _ _ _ _ (aT Ji jv) from PP); clear GR PP; have aCV := aa.mk Du; clear ady ap2; (first | simp only [add_plain] at Du | simp only [uh] at Du | simp only [Addr.add, Nat.zero_add] at Du | skip); have aCW := aa.mk Xo; have aCX := aa.mk Xn; clear Xo Xn; replace adw := eq_true adw; replace adx := eq_true adx))
   go_loopg [40] k1 (fun kq v40 w' => ∃ (lF : List (List Int)) (zG : Int), v40 = .int .i64 zG /\ aa (az.l1 kq l2 l3 lF jv (rd l1 jv) l1 (l1.length : Int) jv ((aT Ji jv).length : Int) zG ah af ae = some r) /\ aa (kq <= k1) /\ aa (Kd.S (Kd.slice 3 (Kd.int .i64)) 38 w' w.heap.size (fun _ => True) (.slice (some ⟨Jj, 0, none⟩) qa.length Ja) lF) /\ aa (w'.heap[Xj]? = some (.cells #[.int .i64 ah, .int .i64 af, (.slice aK ae.length aJ)] 30 (0, 0))) /\ aa (Below w.heap.size w w'))
   case atStart => exact ⟨(Ji), (0), RG, H', ⟨Nat.le_refl _⟩, ⟨PS HO_7.1⟩, ⟨PB gJ.1⟩, ⟨BL HB.1⟩⟩
   clear H'
   try clear p17; try clear q17; try clear adu; try clear adv; try clear Km; try clear Du; try clear ahf; try clear adw; try clear ahg; try clear adx; clear c10b0 c11b0 c12b0 c14b0 c14b1 c15b0 c15b1 c16b0
   obtain ⟨lF, zG, rfl, HA, nG, HO_7, gJ, HB⟩ := hrel
   have tC := (fJ HO_7.1).1
   rw [tC] at HO_7
   (try simp only [tC])
   (try simp only [tC] at gJ)
   cases gk with
   | zero => exact absurd HA.1 (by simp [az.l1])
   | succ k2 => ?_
   have H := HA.1
   clear HA
   simp only [az.l1] at H
   replace H := pu H; rcases H with ⟨c22b0, H⟩ | ⟨c22b0, H⟩
   · replace H := dz H; obtain ⟨⟨GU, Iw, DX⟩, A23, H⟩ := H
     dsimp only at H
     replace H := dz H; obtain ⟨Sb, A24, H⟩ := H
     replace H := dz H; obtain ⟨ahc, A25, H⟩ := H
     replace H := dz H; obtain ⟨⟨aHA, aHB, aHC, aHD, LH⟩, A26, H⟩ := H
     dsimp only at H
     replace H := oC H; obtain ⟨SE, H⟩ := H
     have c27b0 := eq_true SE
     have c27b1 := decide_eq_true SE
     clear SE
     replace H := oC H; obtain ⟨c28, H⟩ := H
     have c28b0 := eq_true c28
     have c28b1 := decide_eq_true c28
     clear c28
     generalize alB : ((List.replicate ((l2.length : Int) : Int).toNat 0) : List Int) = aHF at H
     have alC := aa.mk alB.symm; clear alB
     have H' := aa.mk H
     clear H
     obtain ⟨Xp, Xq, Xr, Xt, Xu, Xv⟩ := gB gJ.1
     try go_wp2_with (first | ((with_reducible refine aA (f := 75) rfl ?_); refine cK (N := (some 44)) #[.agg #[.int .i64 ah, .int .i64 af, .slice aK ae.length aJ]] Try.func75 ?_; (with_reducible refine (fM.calls ah af _ _ ae GU Iw DX _ ?side1 ?side2 A23.1).mono ?_); (case side1 => exact CB (aY bD.1 HB.1)); (case side2 => exact cO.1); rintro e w30 ⟨aQP, rfl, ho0, hb⟩; refine ⟨_, rfl, ?_⟩; refine E4 (sB HO_7.1 hb) (bN ho0 (bZ HB.1)) (bB gJ.1 hb) (bS HB.1 hb) ?_; clear HO_7 gJ HB; intro HO_7 kS gJ HB; (try clear hb); (try clear ho0)) | ((with_reducible refine aC (N := 11) rfl ?_); refine dN (cs := #[.int .i64 0, .int .i64 0, .slice none 0 0]) (t := 30) ?_; intro rD hg w31 hbox hb; refine E9 (sB HO_7.1 hb) (rB kS.1 hb) (bB gJ.1 hb) (bS HB.1 hb) (hbox) (gX HB.1 hg) (gX HB.1 hg) (nB gJ.1 hg) (nC gJ.1 hg) ?_; clear HO_7 kS gJ HB; intro HO_7 kS gJ HB jC aMS aMT Dv Zk; clear hb hbox hg; have aMU := Zk.1; have aMV := Dv.1; obtain ⟨Cu, Cv, Fp, Cw, Cx, Fq⟩ := gB jC.1; obtain ⟨qA, qw, Z7⟩ := bv kS.1; subst Z7))
     have n_ : (fun Qi : World => (Kd.S (Kd.slice 3 (Kd.int .i64)) 38 Qi w.heap.size (fun _ => True) (.slice (some ⟨Jj, 0, none⟩) lF.length Ja) lF) /\ (Kd.R jZ 83 Qi w.heap.size (fun _ => True) (.slice qA DX.length qw) DX) /\ (Qi.heap[Xj]? = some (.cells #[.int .i64 ah, .int .i64 af, .slice aK ae.length aJ] 30 (0, 0))) /\ (Qi.heap[rD]? = some (.cells #[.int .i64 GU, .int .i64 Iw, .slice qA DX.length qw] 30 (0, 0))) /\ (Below w.heap.size w Qi)) (((w31.setCell ⟨rD, 0, none⟩ (.int .i64 GU)).setCell ⟨rD, 1, none⟩ (.int .i64 Iw)).setCell ⟨rD, 2, none⟩ (.slice qA DX.length qw)) := ⟨by (with_reducible repeat (first | apply jF | apply jG | apply iV)); exact eY (SQ rD 2 (SQ rD 1 (SQ rD 0 (kG HO_7.1 jC.1 (by decide)) _) _) _) (fun _ hk => trivial), by (with_reducible repeat (first | apply aV | apply aW | apply aQ)); exact aG (RQ rD 2 (RQ rD 1 (RQ rD 0 (bz kS.1 jC.1 (by decide)) _) _) _) (fun _ hk => trivial), by (with_reducible repeat (first | refine ak ?_ _ | refine ag ?_ | refine au ?_ _)); refine bu ?_ Dv.1 _; (with_reducible repeat (first | refine ak ?_ _ | refine ag ?_ | refine au ?_ _)); refine bu ?_ Dv.1 _; (with_reducible repeat (first | refine ak ?_ _ | refine ag ?_ | refine au ?_ _)); refine bu ?_ Dv.1 _; (with_reducible repeat (first | refine ak ?_ _ | refine ag ?_ | refine au ?_ _)); exact gJ.1, by (with_reducible repeat (first | refine ak ?_ _ | refine ag ?_ | refine au ?_ _)); refine gy (cs := #[.int .i64 GU, .int .i64 Iw, .slice none 0 0]) ?_ 2 _ rfl; (with_reducible repeat (first | refine ak ?_ _ | refine ag ?_ | refine au ?_ _)); refine gy (cs := #[.int .i64 GU, .int .i64 0, .slice none 0 0]) ?_ 1 _ rfl; (with_reducible repeat (first | refine ak ?_ _ | refine ag ?_ | refine au ?_ _)); refine gy (cs := #[.int .i64 0, .int .i64 0, .slice none 0 0]) ?_ 0 _ rfl; (with_reducible repeat (first | refine ak ?_ _ | refine ag ?_ | refine au ?_ _)); exact jC.1, BL HB.1⟩
     (try clear HO_7)
     (try clear kS)
     (try clear gJ)
     (try clear jC)
     (try clear HB)
     generalize (((w31.setCell ⟨rD, 0, none⟩ (.int .i64 GU)).setCell ⟨rD, 1, none⟩ (.int .i64 Iw)).setCell ⟨rD, 2, none⟩ (.slice qA DX.length qw)) = Qi at n_ ⊢
     obtain ⟨qG, qH, qi, qI, qJ⟩ := n_
     refine E5 qG qH qi qI qJ ?_
     clear qG qH qi qI qJ
     intro HO_7 kS gJ jC HB
     refine E5 (iV HO_7.1) (aQ kS.1) (ag gJ.1) (ag jC.1) (dm HB.1) ?_
     clear HO_7 kS gJ jC HB
     intro HO_7 kS gJ jC HB
     refine jN (n := 7) (S := fun w' => w'.cell? ⟨rD, 0, none⟩ = some (.int .i64 GU) /\ w'.cell? ⟨rD, 1, none⟩ = some (.int .i64 Iw) /\ w'.cell? ⟨rD, 2, none⟩ = some (.slice qA DX.length qw)) (ds := []) #[Zz,Zz,Zz,Zz,Zz,Zz,Zz] (by kernel_rfl) rfl rfl ⟨(ai jC.1 0).trans rfl, (ai jC.1 1).trans rfl, (ai jC.1 2).trans rfl⟩ (fun hHeld => ?_)
     generalize Qi.drew = w36 at HO_7 kS gJ jC HB hHeld ⊢
     refine ll (i := 1) (N := some 46) (v := ?_) (a' := ?_) #[Zz,Yy,Zz,Zz,Zz,Zz,Zz] rfl rfl (by kernel_rfl) (fun _ _ _ h => h) (Or.inl ⟨by rfl, ?_⟩) ?_ ?_
     rotate_left
     · intro w'
       go_simp
       with_reducible rfl
     rotate_left
     · simp only [Act.put, List.setIfInBounds_toArray, List.set_cons_zero, List.set_cons_succ, cz, dF]
       rfl
     refine ll (i := 2) (N := some 47) (v := ?_) (a' := ?_) #[Zz,Yy,Yy,Zz,Zz,Zz,Zz] rfl rfl (by kernel_rfl) (fun _ _ _ h => h) (Or.inl ⟨by rfl, ?_⟩) ?_ ?_
     rotate_left
     · intro w'
       go_simp
       with_reducible rfl
     rotate_left
     · simp only [Act.put, List.setIfInBounds_toArray, List.set_cons_zero, List.set_cons_succ, cz, dF]
       rfl
     refine ll (i := 3) (N := some 48) (v := ?_) (a' := ?_) #[Zz,Yy,Yy,Yy,Zz,Zz,Zz] rfl rfl (by kernel_rfl) (fun _ _ _ h => h) (Or.inl ⟨by rfl, ?_⟩) ?_ ?_
     rotate_left
     · intro w'
       go_simp
       with_reducible rfl
     rotate_left
     · simp only [Act.put, List.setIfInBounds_toArray, List.set_cons_zero, List.set_cons_succ, cz, dF]
       rfl
     refine ll (i := 4) (N := some 49) (v := ?_) (a' := ?_) #[Zz,Yy,Yy,Yy,Yy,Zz,Zz] rfl rfl (by kernel_rfl) (fun _ _ _ h => h) (Or.inl ⟨by rfl, ?_⟩) ?_ ?_
     rotate_left
     · intro w'
       go_simp
       with_reducible rfl
     rotate_left
     · simp only [Act.put, List.setIfInBounds_toArray, List.set_cons_zero, List.set_cons_succ, cz, dF]
       rfl
     refine xQ 0 (N := some 45) hHeld ?_
     refine mV (i := 5) (N := some 50) #[Yy,Yy,Yy,Yy,Yy,Yy,Zz] rfl rfl (by kernel_rfl) (by decide) (fun K hK => ?_)
     refine nA Try.func77 (by kernel_rfl) rfl #[.int .i64 zG, .int .i64 (l2.length : Int)] (by rfl) rfl rfl (by (try simp only [List.map_toArray, List.map_cons, List.map_nil]); first | done | rfl | (simp only [List.length_drop, List.length_take]; rfl)) ?_
     with_reducible refine (dA.calls k2 zG (l2.length : Int) Sb _ A24.1).mono ?_
     rintro e Mw ⟨aQQ, rfl, ho0, hb⟩
     refine ⟨_, rfl, ?_⟩
     refine E6 (kW (PS HO_7.1) (fe ho0) hb) (rB kS.1 hb) (bN ho0 (bZ HB.1)) (bB gJ.1 hb) (bB jC.1 hb) (bS HB.1 hb) ?_
     clear HO_7 kS gJ jC HB
     intro HO_7 kS xy gJ jC HB
     (try clear hb)
     (try clear hb2)
     (try clear hk)
     (try clear hi)
     (try clear ho0)
     obtain ⟨X3, X4, aer⟩ := bv xy.1
     (first | subst aer | (injection aer with rY zZ rZ; have z8 := rY.symm; have Aa := rZ.symm; clear rY zZ rZ; subst z8; subst Aa))
     refine hK.out _ _ ⟨(ai jC.1 0).trans rfl, (ai jC.1 1).trans rfl, (ai jC.1 2).trans rfl⟩ (fun hHeld => ?_)
     clear hK K
     refine eX (a' := ?_) ?_ ?_
     rotate_left
     · show Act.put _ (some 50) _ = _
       simp only [Act.put, List.setIfInBounds_toArray, List.set_cons_zero, List.set_cons_succ, cz, dF]
       rfl
     refine mV (i := 6) (N := some 51) #[Yy,Yy,Yy,Yy,Yy,Yy,Yy] rfl rfl (by kernel_rfl) (by decide) (fun K hK => ?_)
     refine nA Try.func76 (by kernel_rfl) rfl #[.agg #[.int .i64 GU, .int .i64 Iw, .slice qA DX.length qw], .slice A2 l2.length c2, .slice X3 Sb.length X4] (by rfl) rfl rfl (by (try simp only [List.map_toArray, List.map_cons, List.map_nil]); first | done | rfl | (simp only [List.length_drop, List.length_take]; rfl)) ?_
     with_reducible refine (aM.calls k2 GU Iw (fun k_ => some k_ = (.slice qA DX.length qw : Value).ownBlock) (.slice qA DX.length qw) DX _ _ l2 _ _ Sb ahc w _ ?side1 ?side2 ?side3 ?side4 ?side5 ?side6 A25.1).mono ?_
     (case side1 => exact BL HB.1)
     (case side2 => exact jR rfl kS.1)
     (case side3 => exact xV (Kd.Tv 3 (Kd.uU .i64)) HR2.1 (BL HB.1) (fun k_ hs_ => (fun e_ => fe kS.1 k_ e_.symm) hs_))
     (case side4 => exact HC2.1)
     (case side5 => exact qW ((eH xy.1 (dY kS.1) (by decide))) (fun k_ hk_ hs_ => (hk_.2) hs_))
     (case side6 => exact (ay xy.1).2.1)
     rintro e w39 ⟨rfl, hy0, hb, hkp⟩
     refine ⟨_, rfl, ?_⟩
     refine E6 (eY (ok' := fun k_ => some k_ ≠ (.slice X3 Sb.length X4 : Value).ownBlock) (wE ((qC HO_7.1 (dY kS.1) (by decide))) hkp (fun k_ hk_ hs_ => (hk_.2) hs_)) (fun k_ hk_ => hk_.1.1.2)) (eQ (PB gJ.1) hkp (fun hs_ => (fun e_ => (dK kS.1 gJ.1 (by decide)) e_) hs_)) (qp rfl hy0 (fun k_ e_ => kS.1.1 k_ e_)) (eQ (PB jC.1) hkp (fun hs_ => (fun e_ => (dK kS.1 jC.1 (by decide)) e_) hs_)) (aG (ok' := fun k_ => True) (jV ((eH xy.1 (dY kS.1) (by decide))) hkp (fun k_ hk_ hs_ => (hk_.2) hs_)) (fun k_ hk_ => trivial)) (hb) ?_
     clear HO_7 gJ kS jC xy HB
     intro HO_7 gJ kS jC xy HB
     (try clear hb)
     (try clear hkp)
     (try clear hy0)
     refine hK.out _ _ ⟨(ai jC.1 0).trans rfl, (ai jC.1 1).trans rfl, (ai jC.1 2).trans rfl⟩ (fun hHeld => ?_)
     clear hK K
     refine eX (a' := ?_) ?_ ?_
     rotate_left
     · show Act.put _ (some 51) _ = _
       simp only [Act.put, List.setIfInBounds_toArray, List.set_cons_zero, List.set_cons_succ, cz, dF]
       rfl
     refine lI (by kernel_rfl) ?_
     obtain ⟨JF, JG, ahi, JH, JI, ahj⟩ := gB jC.1
     try go_wp2_with (first | ((with_reducible refine aA (f := 78) rfl ?_); refine cK (N := (some 55)) #[.agg #[.int .i64 GU, .int .i64 Iw, .slice qA DX.length qw], .slice A3 l3.length c3, .int .i64 (rd l1 jv)] Try.func78 ?_; (with_reducible refine (cZ.calls k2 GU Iw (fun k_ => some k_ = (.slice qA DX.length qw : Value).ownBlock) (.slice qA DX.length qw) ahc _ _ l3 (rd l1 jv) aHA aHB aHC aHD LH w _ ?side1 ?side2 ?side3 ?side4 A26.1).mono ?_); (case side1 => exact BL HB.1); (case side2 => exact jR rfl kS.1); (case side3 => exact xV (Kd.uU .i64) HR3.1 (BL HB.1) (fun k_ hs_ => (fun e_ => fe kS.1 k_ e_.symm) hs_)); (case side4 => exact HC3.1); rintro e MG ⟨ax9, rfl, ho0, hy0, hb, hkp⟩; refine ⟨_, rfl, ?_⟩; refine E7 (eY (ok' := fun k_ => some k_ ≠ (.slice X3 Sb.length X4 : Value).ownBlock /\ some k_ ≠ (ax9 : Value).ownBlock) (wE ((qC HO_7.1 (dY kS.1) (by decide))) hkp (fun k_ hk_ hs_ => (hk_.2) hs_)) (fun k_ hk_ => ⟨hk_.1.1, fun e_ => Or.elim (ho0.1 k_ e_.symm) (fun hs_ => hk_.2.1 hs_) (fun hn_ => Nat.not_le.2 hk_.2.2 hn_)⟩)) (eQ (PB gJ.1) hkp (fun hs_ => (fun e_ => (dK kS.1 gJ.1 (by decide)) e_) hs_)) (qp rfl hy0 (fun k_ e_ => kS.1.1 k_ e_)) (eQ (PB jC.1) hkp (fun hs_ => (fun e_ => (dK kS.1 jC.1 (by decide)) e_) hs_)) (aG (ok' := fun k_ => some k_ ≠ (ax9 : Value).ownBlock) (jV ((eH xy.1 (dY kS.1) (by decide))) hkp (fun k_ hk_ hs_ => (hk_.2) hs_)) (fun k_ hk_ => fun e_ => Or.elim (ho0.1 k_ e_.symm) (fun hs_ => hk_.2.1 hs_) (fun hn_ => Nat.not_le.2 hk_.2.2 hn_))) (aG (ok' := fun k_ => some k_ ≠ (.slice X3 Sb.length X4 : Value).ownBlock) ho0 (fun k_ hk_ => Or.elim hk_ (fun hs_ => fun e_ => ((((eH xy.1 (dY kS.1) (by decide))).1 k_ e_.symm).2) hs_) (fun hn_ => (Kd.kX (iL (PR xy.1)) k_ hn_)))) (hb) ?_; clear HO_7 gJ kS jC xy HB; intro HO_7 gJ kS jC xy Xw HB; (try clear hb); (try clear hkp); (try clear ho0); (try clear hy0)) | ((with_reducible refine aC (N := 58) rfl ?_); refine yH (Kd.int .i64) _ 3 rfl (N := 58) rfl 38 _ _ rfl (l2.length : Int) rfl rfl Try.underlying38 (.int .i64 0) 8 info3 rfl (by decide) (by omega) 0 (ok := fun _ => True) (okp := fun _ => True) rfl (fun _ hk => hk) trivial (OD) (Nat.le_trans (Nat.mul_le_mul_right _ (OD : (l2.length : Int).toNat <= 35184372088832)) (by omega)) (Below.refl _ _) (Nat.le_refl _) ?_; intro aya w42 Sc hb hg_ hnew_; clear hg_ hnew_; (first | rw [<- alC.1] at Sc | (simp only [Int.reduceToNat] at Sc; rw [<- alC.1] at Sc)); refine E8 (kW (PS HO_7.1) (fe Sc) hb) (rB kS.1 hb) (eT (PR xy.1) (fe Sc) hb) (eT (PR Xw.1) (fe Sc) hb) (bN (iI (iI Sc (iL (PR xy.1))) (iL (PR Xw.1))) (bZ HB.1)) (bB gJ.1 hb) (bB jC.1 hb) (bS HB.1 hb) ?_; clear HO_7 kS xy Xw gJ jC HB; intro HO_7 kS xy Xw ayb gJ jC HB; clear hb Sc))
     go_loopg [61] k2 (fun kq v61 w' => ∃ (LJ : List Int) (mG : Int), v61 = .int .i64 mG /\ aa (az.l2 kq l2 l3 lF jv (rd l1 jv) zG LJ l1 (l1.length : Int) jv ((aT Ji jv).length : Int) zG (l2.length : Int) mG ah af ae GU Iw LH = some r) /\ aa (kq <= k2) /\ aa (Kd.S (Kd.slice 3 (Kd.int .i64)) 38 w' w.heap.size (fun k_ => some k_ ≠ (aya : Value).ownBlock) (.slice (some ⟨Jj, 0, none⟩) lF.length Ja) lF) /\ aa (Kd.R (Kd.int .i64) 3 w' w.heap.size (fun _ => True) aya LJ) /\ aa (Kd.R jZ 83 w' w.heap.size (fun _ => True) (.slice qA DX.length qw) LH) /\ aa (w'.heap[Xj]? = some (.cells #[.int .i64 ah, .int .i64 af, (.slice aK ae.length aJ)] 30 (0, 0))) /\ aa (w'.heap[rD]? = some (.cells #[.int .i64 GU, .int .i64 Iw, (.slice qA DX.length qw)] 30 (0, 0))) /\ aa (Below w.heap.size w w'))
     case atStart => exact ⟨(aHF), (0), RG, H', ⟨Nat.le_refl _⟩, ⟨by (try simp only [tC]); (with_reducible repeat (first | apply jF | apply jG | apply iV)); exact eY HO_7.1 (fun _ hk => hk.2)⟩, ⟨by (try simp only [tC]); (with_reducible repeat (first | apply aV | apply aW | apply aQ)); exact aG ayb.1 (fun _ hk => trivial)⟩, ⟨ER kS.1 tC⟩, ⟨Er gJ.1 tC⟩, ⟨Er jC.1 tC⟩, ⟨BL HB.1⟩⟩
     clear H'
     try clear c2; try clear c3; clear c22b0 c27b0 c27b1 c28b0 c28b1 Xp Xq Xr Cu Cv Fp JF JG ahi Xt Xu Xv Cw Cx Fq JH JI ahj
     obtain ⟨LJ, mG, rfl, HA, HK3, HO_7, HO_12, HO_627002, gJ, jC, HB⟩ := hrel
     have kv := (ay HO_627002.1).1
     rw [kv] at HO_627002
     (try simp only [kv])
     (try simp only [kv] at gJ)
     (try simp only [kv] at jC)
     (try simp only [kv] at HO_7)
     (try simp only [kv] at HO_12)
     cases gk with
     | zero => exact absurd HA.1 (by simp [az.l2])
     | succ k3 => ?_
     have H := HA.1
     clear HA
     simp only [az.l2] at H
     replace H := pu H; rcases H with ⟨c44b0, H⟩ | ⟨c44b0, H⟩
     · replace H := ji H; obtain ⟨c45b0, H⟩ := H
       replace H := ji H; obtain ⟨c46b0, H⟩ := H
       replace H := oC H; obtain ⟨c47, H⟩ := H
       have c47b0 := decide_eq_true c47
       have c47b1 : decide (0 < (aT l2 mG).length) = true := decide_eq_true (by omega)
       clear c47
       replace H := ji H; obtain ⟨c48b0, H⟩ := H
       replace H := ji H; obtain ⟨c49b0, H⟩ := H
       replace H := ji H; obtain ⟨c50b0, H⟩ := H
       generalize alD : ((LJ.set (mG : Int).toNat ((aj LH (rd (aT l2 mG) 0)).f1)) : List Int) = aHG at H
       have ayc := aa.mk alD.symm; clear alD
       have H' := aa.mk H
       clear H
       try go_wp2
       refine E6 (iV HO_7.1) (aQ HO_12.1) (aQ HO_627002.1) (ag gJ.1) (ag jC.1) (dm HB.1) ?_
       clear HO_7 HO_12 HO_627002 gJ jC HB
       intro HO_7 HO_12 HO_627002 gJ jC HB
       have ap4 : 0 <= (mG : Int) := OD
       have ap5 : mG < (l2.length : Int) := OD
       obtain ⟨ayd, aHH, ap6, aHI, GV, Xx, Xy⟩ := tT HR2.1 mG ap4 ap5
       have Xz := GV
       cases aHI
       replace GV := (HB.1.cell (World.block_lt_of_cell? w _ GV)).trans GV
       have XA := aa.mk Xy
       have aCZ := aa.mk Xx
       clear Xy Xx
       replace ap4 := eq_true ap4
       replace ap5 := eq_true ap5
       have ap7 : 0 <= (0 : Int) := (by omega)
       have ap8 : 0 < ((aT l2 mG).length : Int) := OD
       obtain ⟨alE, aHJ, Bn⟩ := Kd.dx XA.1 0 ap7 ap8
       have GX := Bn
       (try rw [show ((0 : Int)).toNat = 0 from rfl] at GX)
       (try rw [show 0 * 1 = 0 from rfl] at GX)
       (try rw [Addr.add_zero'] at GX)
       cases aHJ
       have aMX : (0 < (aT l2 mG).length) = True := eq_true (by omega)
       (try rw [show ((0 : Int)).toNat = 0 from rfl] at Bn)
       (try rw [Addr.add_zero'] at Bn)
       replace Bn := (HB.1.cell (World.block_lt_of_cell? w _ Bn)).trans Bn
       replace ap7 := eq_true ap7
       replace ap8 := eq_true ap8
       have ap9 : 0 <= ((rd (aT l2 mG) 0) : Int) := OD
       have aqa : (rd (aT l2 mG) 0) < (LH.length : Int) := OD
       obtain ⟨XB, aHK, XC, XD⟩ := iP (ay HO_627002.1).2.2 (rd (aT l2 mG) 0) ap9 aqa
       cases aHK
       replace ap9 := eq_true ap9
       replace aqa := eq_true aqa
       have p51 : 0 <= (mG : Int) := OD
       have q51 : (mG : Int) < ((LJ.length : Int) : Int) := OD
       obtain ⟨aqb, Yx, afc, aye, aHM, aQS, ayf⟩ := mQ HO_12.1 (by omega)
       (first | cases afc | (injection afc with ea_ en_ ec_; (first | subst ea_ | (injection ea_ with ea_; subst ea_)); subst ec_; clear en_))
       have aQT := aa.mk aye
       have ayg := aa.mk ayf
       clear aye aHM ayf
       obtain ⟨aqc, aqd⟩ := lC 0 HO_12.1 (mG : Int) p51 q51
       replace p51 := eq_true p51
       replace q51 := eq_true q51
       have K6 := am0 HO_12.1 (mG : Int) ((aj LH (rd (aT l2 mG) 0)).f1)
       rw [<- ayc.1] at K6
       have ayh := aa.mk K6
       clear K6
       refine jN (n := 15) (S := fun w' => w'.cell? ⟨rD, 0, none⟩ = some (.int .i64 GU) /\ w'.cell? ⟨rD, 1, none⟩ = some (.int .i64 Iw) /\ w'.cell? ⟨rD, 2, none⟩ = some (.slice (some XB) LH.length qw) /\ w'.cell? (ayd.add (mG).toNat) = some (.slice (some alE) (aT l2 mG).length ap6) /\ w'.cell? alE = some (.int .i64 (rd (aT l2 mG) 0)) /\ w'.cell? (XB.add (((rd (aT l2 mG) 0)).toNat * 2)) = some (.int .i64 ((aj LH (rd (aT l2 mG) 0)).f0)) /\ w'.cell? ⟨(XB.add (((rd (aT l2 mG) 0)).toNat * 2)).block, (XB.add (((rd (aT l2 mG) 0)).toNat * 2)).off + 1, none⟩ = some (.int .i64 ((aj LH (rd (aT l2 mG) 0)).f1))) (ds := [14]) #[Zz,Zz,Zz,Zz,Zz,Zz,Zz,Zz,Zz,Zz,Zz,Zz,Zz,Zz,Zz] (by kernel_rfl) rfl rfl ⟨(ai jC.1 0).trans rfl, (ai jC.1 1).trans rfl, (ai jC.1 2).trans rfl, ((HB.1.cell (World.block_lt_of_cell? w _ Xz)).trans Xz), ((HB.1.cell (World.block_lt_of_cell? w _ GX)).trans GX), XC, XD⟩ (fun hHeld => ?_); refine iq az.aa8 az.bits18 (fun HT_ HW_ => ?_)
       generalize wr.drew = w52 at HO_7 HO_12 HO_627002 gJ jC HB ayg ayh XA aqd aqc GV Bn XC XD hHeld ⊢
       refine aU 0 (N := some 64) HT_.1 ?_
       refine aU 1 (N := some 65) HT_.1 ?_
       refine aU 2 (N := some 66) HT_.1 ?_
       refine aU 4 (N := some 68) HT_.1 ?_
       refine aU 5 (N := some 69) HT_.1 ?_
       refine aU 6 (N := some 70) HT_.1 ?_
       refine gF 3 (N := some 67) HT_.1 HW_.1 hHeld ?_
       refine gF 7 (N := some 71) HT_.1 HW_.1 hHeld ?_
       refine aU 8 (N := some 72) HT_.1 ?_
       refine gF 9 (N := some 73) HT_.1 HW_.1 hHeld ?_
       refine aU 10 (N := some 74) HT_.1 ?_
       refine aU 11 (N := some 75) HT_.1 ?_
       refine gF 12 (N := some 76) HT_.1 HW_.1 hHeld ?_
       refine aU 13 (N := some 77) HT_.1 ?_
       refine BD (i := 14) (N := none) #[Yy,Yy,Yy,Yy,Yy,Yy,Yy,Yy,Yy,Yy,Yy,Yy,Yy,Yy,Yy] rfl rfl (jc HT_.1 (by kernel_rfl)) (by decide) (fun K hK => ?_)
       refine pF (w1 := ?_) (by rfl) rfl ?_ ?_
       rotate_left
       · go_simp
         rfl
       refine hK.out _ _ ?_
       clear hK K
       refine lI (jS HT_.1 (by kernel_rfl)) ?_
       try go_wp2
       (try simp only [<- kv])
       go_roundg k3
       case measure => have := iB.1; have := nG.1; have := HK3.1; omega
       case rel => exact ⟨(aHG), (wrap64 (mG + 1)), RG, H', ⟨by have := iB.1; have := nG.1; have := HK3.1; omega⟩, ⟨by (try simp only [tC]); (try simp only [kv]); (with_reducible repeat (first | apply jF | apply jG | apply iV)); exact eY (xR (p := ⟨aqb, (mG : Int).toNat, none⟩) (eY HO_7.1 (fun k_ hk => (⟨hk, fun e_ => hk (by rw [e_]; rfl)⟩ : _ /\ k_ ≠ aqb))) (fun _ hk => hk.2) (.int .i64 ((aj LH (rd (aT l2 mG) 0)).f1))) (fun _ hk => hk.1)⟩, ⟨MZ ayh.1 tC kv⟩, ⟨by (try simp only [tC]); (try simp only [kv]); (with_reducible repeat (first | apply aV | apply aW | apply aQ)); exact aG (mY (p := ⟨aqb, (mG : Int).toNat, none⟩) (bz HO_627002.1 ayg.1 (by decide)) (fun _ hk => hk.2) (.int .i64 ((aj LH (rd (aT l2 mG) 0)).f1))) (fun _ hk => trivial)⟩, ⟨by (try simp only [tC]); (try simp only [kv]); (with_reducible repeat (first | refine ak ?_ _ | refine ag ?_ | refine au ?_ _)); refine bu ?_ (by have h_ := dK HO_12.1 gJ.1 (by decide); intro e_; exact h_ (by rw [e_]; rfl)) _; (with_reducible repeat (first | refine ak ?_ _ | refine ag ?_ | refine au ?_ _)); exact gJ.1⟩, ⟨by (try simp only [tC]); (try simp only [kv]); (with_reducible repeat (first | refine ak ?_ _ | refine ag ?_ | refine au ?_ _)); refine bu ?_ (by have h_ := dK HO_12.1 jC.1 (by decide); intro e_; exact h_ (by rw [e_]; rfl)) _; (with_reducible repeat (first | refine ak ?_ _ | refine ag ?_ | refine au ?_ _)); exact jC.1⟩, ⟨BL HB.1⟩⟩
     replace H := ji H; obtain ⟨c54b0, H⟩ := H
     replace H := ji H; obtain ⟨c55b0, H⟩ := H
     replace H := dz H; obtain ⟨ads, A56, H⟩ := H
     replace H := ji H; obtain ⟨c57b0, H⟩ := H
     replace H := ji H; obtain ⟨c58b0, H⟩ := H
     generalize alF : (((aT lF jv).set (zG : Int).toNat ads) : List Int) = ayi at H
     have ayj := aa.mk alF.symm; clear alF
     generalize alG : ((lF.set (jv : Int).toNat ayi) : List (List Int)) = aHN at H
     have ayk := aa.mk alG.symm; clear alG
     have H' := aa.mk H
     clear H
     try go_wp2
     refine E6 (iV HO_7.1) (aQ HO_12.1) (aQ HO_627002.1) (ag gJ.1) (ag jC.1) (dm HB.1) ?_
     clear HO_7 HO_12 HO_627002 gJ jC HB
     intro HO_7 HO_12 HO_627002 gJ jC HB
     have ahk : 0 <= (jv : Int) := OD
     have ahl : jv < (lF.length : Int) := OD
     obtain ⟨ayl, aqe, aqf, aHO, Bo, XE, XF⟩ := tT (fJ HO_7.1).2.2 jv ahk ahl
     obtain rfl : (⟨Jj, 0, none⟩ : Addr) = ayl := (by injection aHO)
     obtain ⟨aMY, aqg, aqh, adz⟩ := BF HO_7.1 [] jv ahk (by first | exact ahl | exact OD | (have e_ := (fJ HO_7.1).1; omega))
     obtain ⟨aC0, rfl, PQ⟩ := aqh
     have GY := adz 0 _ rfl
     rw [Nat.add_zero, show ((Kd.slice 3 (Kd.int .i64))).sz = 1 from rfl, Nat.mul_one] at GY
     replace GY := Option.some.inj (GY.symm.trans Bo)
     rw [GY] at PQ
     have Kn := aa.mk (show Kd.R (Kd.int .i64) 3 _ _ _ _ (aT lF jv) from PQ)
     clear GY PQ
     have XG := aa.mk Bo
     clear adz aqg
     (first | simp only [add_plain] at Bo | simp only [uh] at Bo | simp only [Addr.add, Nat.zero_add] at Bo | skip)
     have ahm := aa.mk XF
     have aC1 := aa.mk XE
     clear XF XE
     replace ahk := eq_true ahk
     replace ahl := eq_true ahl
     obtain ⟨aHP, aHQ, aym⟩ := bv HO_12.1
     (first | subst aym | (injection aym with rY zZ rZ; have z8 := rY.symm; have Aa := rZ.symm; clear rY zZ rZ; subst z8; subst Aa))
     refine jN (n := 9) (S := fun w' => w'.cell? ⟨Jj, (jv).toNat, none⟩ = some (.slice aqe (aT lF jv).length aqf)) (ds := [8]) #[Zz,Zz,Zz,Zz,Zz,Zz,Zz,Zz,Zz] (by kernel_rfl) rfl rfl (Bo) (fun hHeld => ?_); refine iq az.axY az.bits20 (fun HT_ HW_ => ?_)
     generalize wr.drew = w60 at HO_7 HO_12 HO_627002 gJ jC HB Kn ahm XG Bo hHeld ⊢
     refine aU 0 (N := some 79) HT_.1 ?_
     refine aU 1 (N := some 80) HT_.1 ?_
     refine aU 2 (N := some 81) HT_.1 ?_
     refine aU 4 (N := some 83) HT_.1 ?_
     refine aU 5 (N := some 84) HT_.1 ?_
     refine Qu (i := 3) (N := some 82) (v := ?_) (a' := ?_) #[Yy,Yy,Yy,Yy,Yy,Yy,Zz,Zz,Zz] rfl rfl (Qv HT_.1 HW_.1 (by kernel_rfl)) (fun _ _ _ h => h) (Or.inl ⟨by rfl, ?_⟩) hHeld ?_ ?_
     rotate_left
     · intro w' s0
       go_simp
       with_reducible rfl
     rotate_left
     · simp only [Act.put, List.setIfInBounds_toArray, List.set_cons_zero, List.set_cons_succ, cz, dF]
       rfl
     refine mV (i := 6) (N := some 85) #[Yy,Yy,Yy,Yy,Yy,Yy,Yy,Zz,Zz] rfl rfl (jc HT_.1 (by kernel_rfl)) (by decide) (fun K hK => ?_)
     refine nA Try.func49 (by kernel_rfl) rfl #[.slice aHP LJ.length aHQ] (by rfl) rfl rfl (by (try simp only [List.map_toArray, List.map_cons, List.map_nil]); first | done | rfl | (simp only [List.length_drop, List.length_take]; rfl)) ?_
     with_reducible refine (bC.calls k3 _ _ LJ ads _ ?side1 ?side2 A56.1).mono ?_
     (case side1 => exact CB (ay HO_12.1).2.2)
     (case side2 => exact (ay HO_12.1).2.1)
     rintro e w' ⟨rfl, ⟨nd, rfl⟩⟩
     refine ⟨_, rfl, ?_⟩
     have p59 : 0 <= (zG : Int) := OD
     have q59 : (zG : Int) < (((aT lF jv).length : Int) : Int) := OD
     obtain ⟨aQV, aQW, ayn, ayo, aHR, aQX, ayp⟩ := mQ Kn.1 (by omega)
     (first | cases ayn | (injection ayn with ea_ en_ ec_; (first | subst ea_ | (injection ea_ with ea_; subst ea_)); subst ec_; clear en_))
     have aQY := aa.mk ayo
     have aQZ := aa.mk ayp
     clear ayo aHR ayp
     obtain ⟨aoY, aoZ⟩ := lC 0 Kn.1 (zG : Int) p59 q59
     replace p59 := eq_true p59
     replace q59 := eq_true q59
     have aHS : (jv : Int) < (lF.length : Int) := (by have h_ : (jv : Int) < ((lF.length : Int) : Int) := OD; first | exact h_ | (have e_ := (fJ HO_7.1).1; omega) | simpa only [List.length_set, List.length_set] using h_)
     obtain ⟨aMZ, aQ0, ayq, aHT, alH, ayr, alI⟩ := aax HO_7.1 [] (jv : Int) (OD) aHS
     obtain ⟨aHU, rfl, PT⟩ := aHT
     have ahn := alH 0 _ rfl
     rw [Nat.add_zero, show ((Kd.slice 3 (Kd.int .i64))).sz = 1 from rfl, Nat.mul_one] at ahn
     replace ahn := Option.some.inj (ahn.symm.trans XG.1)
     subst ahn
     clear alH ayq
     replace PT := (show Kd.R (Kd.int .i64) 3 _ _ _ _ (aT lF jv) from PT)
     have aho := qV PT (zG : Int) ads
     rw [<- ayj.1] at aho
     have aqi := alI aho.2 (fun k_ e_ => by injection e_ with e_; subst e_; exact PT.1 _ rfl) (x' := ayi) (BC aho.1)
     rw [<- ayk.1] at aqi
     have aHV := aa.mk aqi
     clear aho aqi alI ayr
     refine hK.out _ _ (hHeld) (fun hHeld => ?_)
     clear hK K
     refine eX (a' := ?_) ?_ ?_
     rotate_left
     · show Act.put _ (some 85) _ = _
       simp only [Act.put, List.setIfInBounds_toArray, List.set_cons_zero, List.set_cons_succ, cz, dF]
       rfl
     refine aU 7 (N := some 86) HT_.1 ?_
     refine BD (i := 8) (N := none) #[Yy,Yy,Yy,Yy,Yy,Yy,Yy,Yy,Yy] rfl rfl (jc HT_.1 (by kernel_rfl)) (by decide) (fun K hK => ?_)
     refine pF (w1 := ?_) (by rfl) rfl ?_ ?_
     rotate_left
     · go_simp
       rfl
     refine hK.out _ _ ?_
     clear hK K
     refine lI (jS HT_.1 (by kernel_rfl)) ?_
     try go_wp2
     (try simp only [<- tC, <- kv])
     go_roundg k3
     case measure => have := iB.1; have := nG.1; have := HK3.1; omega
     case rel => exact ⟨(aHN), (wrap64 (zG + 1)), RG, H', ⟨by have := iB.1; have := nG.1; have := HK3.1; omega⟩, ⟨by (try simp only [tC]); (try simp only [kv]); (with_reducible repeat (first | apply jF | apply jG | apply iV)); exact eY aHV.1 (fun _ hk => trivial)⟩, ⟨by (try simp only [tC]); (try simp only [kv]); (with_reducible repeat (first | refine ak ?_ _ | refine ag ?_ | refine au ?_ _)); refine bu ?_ (by have h_ := dK Kn.1 gJ.1 (by decide); intro e_; exact h_ (by rw [e_]; rfl)) _; (with_reducible repeat (first | refine ak ?_ _ | refine ag ?_ | refine au ?_ _)); exact gJ.1⟩, ⟨BL HB.1⟩⟩
   have H' := aa.mk H
   clear H
   go_wp2
   (try simp only [<- tC])
   go_roundg k2
   case measure => have := iB.1; have := nG.1; omega
   case rel => exact ⟨(lF), (wrap64 (jv + 1)), RG, H', ⟨by have := iB.1; have := nG.1; omega⟩, ⟨PS1 HO_7.1 tC⟩, ⟨Er gJ.1 tC⟩, ⟨BL HB.1⟩⟩
 obtain rfl := Option.some.inj H
 go_wp2
 go_ret
 exact ⟨_, RF, lN (PS HO_7.1) (wX HW.1), Et HW.1 (BL HB.1)⟩
def dw.l0 : Nat -> List Int -> List (List Int) -> Int -> Int -> Int -> Int -> List (fq) -> Option (List Int)
 | 0, _, _, _, _, _, _, _ => none
 | k + 1, x3, x8, x9, j6, ahp, ahq, PU => if j6 < x9 then (if 0 <= j6 then (if j6 < (x8.length : Int) then (if 0 < ((aT x8 j6).length : Int) then (if 0 <= (rd (aT x8 j6) 0) then (if (rd (aT x8 j6) 0) < (PU.length : Int) then (if x3.length < 17592186044416 then (dw.l0 k (x3 ++ [(aj PU (rd (aT x8 j6) 0)).f1]) x8 x9 (wrap64 (j6 + 1)) ahp ahq PU) else (none)) else (none)) else (none)) else (none)) else (none)) else (none)) else (some x3)
def dw.f (k : Nat) (ah : Int) (af : Int) (ae : List (fq)) : Option (List Int) := (bn.f k ah af ae).bind fun vB => (dw.l0 k (([] : List Int)) vB (vB.length : Int) 0 ah af ae)
theorem dw.mono_l : ∀ k, (∀ y0 y1 y2 y3 y4 y5 y6, dO (dw.l0 k y0 y1 y2 y3 y4 y5 y6) (dw.l0 (k + 1) y0 y1 y2 y3 y4 y5 y6))
 | 0 => fun _ _ _ _ _ _ _ r h => by simp [dw.l0] at h
 | k + 1 => by
  have ja := dw.mono_l k
  intros
  first | unfold dw.l0
  exact Qj ja bn.mono
theorem dw.mono : ∀ a0 a1 a2 k, dO (dw.f k a0 a1 a2) (dw.f (k + 1) a0 a1 a2) := by
 intro a0 a1 a2 k
 have ja := dw.mono_l k
 unfold dw.f
 exact Qj ja bn.mono
def dw.T5 : Bool × List (List Nat × List Nat) := (true, [([], []), ([], []), ([1], [1]), ([], []), ([3], [3]), ([4], [4]), ([2, 5], [2, 5]), ([6], [6]), ([7], [7]), ([8], [8]), ([0, 9], [0, 9]), ([10, 10, 0, 1, 2, 3, 4, 5, 6, 7, 8, 9, 10], [0, 10])])
def dw.B5 : List Nat := [0, 0, 2, 0, 8, 24, 62, 126, 254, 510, 1023, 2047]
theorem dw.abv : mX .any (opsOf Try.f50 5) = dw.T5 := by kernel_rfl
theorem dw.bits5 : kr dw.T5.2 dw.B5 = true := by kernel_rfl
theorem dw.calls (k : Nat) (ah : Int) (af : Int) (aK : Option Addr) (aJ : Nat) (ae : List (fq)) (r : List Int) (w : World) (dH : Kd.C jZ w aK ae.length ae) (dG : ae.length <= aJ) (h : dw.f k ah af ae = some r) :
 Calls Try.prog 50 #[.agg #[.int .i64 ah, .int .i64 af, .slice aK ae.length aJ]] w fun e w' => ∃ rO : Value, e = .returned (rO) /\ Kd.R (Kd.int .i64) 3 w' w.heap.size (fun _ => True) rO r /\ Below w.heap.size w w' := by
 have nH := Try.underlying30
 have bD := aa.mk dH
 have cO := aa.mk dG
 clear dH dG
 have HB := aa.mk (Below.refl w.heap.size w)
 have H := h
 clear h
 unfold dw.f at H
 generalize alJ : ((([] : List Int)) : List Int) = aHW at H
 have alK := aa.mk alJ.symm; clear alJ
 replace H := dz H; obtain ⟨vB, A2, H⟩ := H
 have H' := aa.mk H
 clear H
 go_enter Try.func50, Try.ntmps50
 go_wp2_with (first | ((with_reducible refine aC (N := 1) rfl ?_); refine dN (cs := #[.int .i64 ah, .int .i64 af, .slice aK ae.length aJ]) (t := 30) ?_; intro XH hg w3 hbox hb; refine mJ HB.1 hg hbox hb ?_; clear HB; intro HB qM aM0 aM1; clear hb hbox hg) | ((with_reducible refine aC (N := 6) rfl ?_); refine qh (Kd.int .i64) _ 3 ?hg (N := 6) ?hd (xs := ([] : List Int)) (inner := []) (ok := fun _ => True) (okp := fun _ => True) ?hr ?hp (fun _ hk => hk) trivial (Below.refl _ _) (Nat.le_refl _) (by simp) ?_; (case hd => rfl); (case hg => rfl); (case hr => first | (go_simp; done) | (go_simp; rfl)); (case hp => exact (fK.none _ _)); intro aQ1 w4 QG hb hg_ hnew_; clear hg_ hnew_; (first | rw [<- alK.1] at QG | (simp only [Int.reduceToNat] at QG; rw [<- alK.1] at QG)); refine E3 (bN QG (bZ HB.1)) (bB qM.1 hb) (bS HB.1 hb) ?_; clear qM HB; intro Sd qM HB; clear hb QG; obtain ⟨oL, oM, tZ, oN, oO, uf⟩ := gB qM.1) | ((with_reducible refine aA (f := 61) rfl ?_); refine cK (N := (some 8)) #[.agg #[.int .i64 ah, .int .i64 af, .slice aK ae.length aJ]] Try.func61 ?_; (with_reducible refine (bn.calls k ah af _ _ ae vB _ ?side1 ?side2 A2.1).mono ?_); (case side1 => exact CB (aY bD.1 HB.1)); (case side2 => exact cO.1); rintro e w7 ⟨aQ2, rfl, ho0, hb⟩; refine ⟨_, rfl, ?_⟩; refine E4 (rB Sd.1 hb) (lN (BV ho0 (iL (PR Sd.1))) (bZ HB.1)) (bB qM.1 hb) (bS HB.1 hb) ?_; clear Sd qM HB; intro Sd alL qM HB; (try clear hb); (try clear ho0); obtain ⟨Ao8, yZ, eo8⟩ := mq alL.1; subst eo8))
 go_loopg [3, 10] k (fun kq v3 v10 w' => ∃ (ky : List Int) (bE : Int), v10 = .int .i64 bE /\ aa (dw.l0 kq ky vB (vB.length : Int) bE ah af ae = some r) /\ aa (kq <= k) /\ aa (Kd.R (Kd.int .i64) 3 w' w.heap.size (fun _ => True) v3 ky) /\ aa (Kd.S (Kd.slice 3 (Kd.int .i64)) 38 w' w.heap.size (fun k_ => some k_ ≠ (v3 : Value).ownBlock) (.slice Ao8 vB.length yZ) vB) /\ aa (w'.heap[XH]? = some (.cells #[.int .i64 ah, .int .i64 af, (.slice aK ae.length aJ)] 30 (0, 0))) /\ aa (Below w.heap.size w w'))
 case atStart => exact ⟨(aHW), (0), RG, H', ⟨Nat.le_refl _⟩, ⟨PR Sd.1⟩, ⟨ES (eY alL.1 (fun _ hk => hk.2))⟩, ⟨PB qM.1⟩, ⟨BL HB.1⟩⟩
 clear H'
 clear oL oM tZ oN oO uf
 obtain ⟨ky, bE, rfl, HA, iB, HO_3, HO_8, qM, HB⟩ := hrel
 cases gk with
 | zero => exact absurd HA.1 (by simp [dw.l0])
 | succ k1 => ?_
 have H := HA.1
 clear HA
 simp only [dw.l0] at H
 replace H := pu H; rcases H with ⟨c9b0, H⟩ | ⟨c9b0, H⟩
 · replace H := ji H; obtain ⟨c10b0, H⟩ := H
   replace H := ji H; obtain ⟨c11b0, H⟩ := H
   replace H := oC H; obtain ⟨c12, H⟩ := H
   have c12b0 := decide_eq_true c12
   have c12b1 : decide (0 < (aT vB bE).length) = true := decide_eq_true (by omega)
   clear c12
   replace H := ji H; obtain ⟨c13b0, H⟩ := H
   replace H := ji H; obtain ⟨c14b0, H⟩ := H
   replace H := oC H; obtain ⟨c15, H⟩ := H
   have Lg := aa.mk c15
   clear c15
   generalize alM : ((ky ++ [(aj ae (rd (aT vB bE) 0)).f1]) : List Int) = aHX at H
   have ays := aa.mk alM.symm; clear alM
   have H' := aa.mk H
   clear H
   have ahr : 0 <= (bE : Int) := OD
   have ahs : bE < (vB.length : Int) := OD
   obtain ⟨ayt, aHY, aHZ, aH0, aht, XI, XJ⟩ := tT (fJ HO_8.1).2.2 bE ahr ahs
   cases aH0
   obtain ⟨aM2, aqj, aqk, adA⟩ := BF HO_8.1 [] bE ahr (by first | exact ahs | exact OD | (have e_ := (fJ HO_8.1).1; omega))
   obtain ⟨aC2, rfl, PV⟩ := aqk
   have GZ := adA 0 _ rfl
   rw [Nat.add_zero, show ((Kd.slice 3 (Kd.int .i64))).sz = 1 from rfl, Nat.mul_one] at GZ
   replace GZ := Option.some.inj (GZ.symm.trans aht)
   rw [GZ] at PV
   have Bp := aa.mk (show Kd.R (Kd.int .i64) 3 _ _ _ _ (aT vB bE) from PV)
   clear GZ PV
   clear adA aqj
   have Dw := aa.mk XJ
   have aC3 := aa.mk XI
   clear XJ XI
   replace ahr := eq_true ahr
   replace ahs := eq_true ahs
   try go_wp2
   refine E6 (aQ HO_3.1) (iV HO_8.1) (aQ Bp.1) (ag qM.1) (kH Dw.1) (dm HB.1) ?_
   clear HO_3 HO_8 Bp qM Dw HB
   intro HO_3 HO_8 Bp qM Dw HB
   have aql : 0 <= (0 : Int) := (by omega)
   have aqm : 0 < ((aT vB bE).length : Int) := OD
   obtain ⟨ayu, aH1, Ko⟩ := Kd.dx (by repeat (first | (with_reducible exact Dw.1) | (with_reducible refine kg ?_ _) | (with_reducible refine ko ?_ _) | (with_reducible refine kH ?_) | exact Dw.1)) 0 aql aqm
   cases aH1
   have aM3 : (0 < (aT vB bE).length) = True := eq_true (by omega)
   (try rw [show ((0 : Int)).toNat = 0 from rfl] at Ko)
   (try rw [Addr.add_zero'] at Ko)
   replace aql := eq_true aql
   replace aqm := eq_true aqm
   have aqn : 0 <= ((rd (aT vB bE) 0) : Int) := OD
   have aqo : (rd (aT vB bE) 0) < (ae.length : Int) := OD
   obtain ⟨XK, aH2, G5, G6⟩ := iP bD.1 (rd (aT vB bE) 0) aqn aqo
   have XL := G6
   have XM := G5
   cases aH2
   replace G5 := (HB.1.cell (World.block_lt_of_cell? w _ G5)).trans G5
   replace G6 := (HB.1.cell (World.block_lt_of_cell? w _ G6)).trans G6
   replace aqn := eq_true aqn
   replace aqo := eq_true aqo
   refine jN (n := 12) (S := fun w' => w'.cell? ⟨XH, 0, none⟩ = some (.int .i64 ah) /\ w'.cell? ⟨XH, 1, none⟩ = some (.int .i64 af) /\ w'.cell? ⟨XH, 2, none⟩ = some (.slice (some XK) ae.length aJ) /\ w'.cell? ayu = some (.int .i64 (rd (aT vB bE) 0)) /\ w'.cell? (XK.add (((rd (aT vB bE) 0)).toNat * 2)) = some (.int .i64 ((aj ae (rd (aT vB bE) 0)).f0)) /\ w'.cell? ⟨(XK.add (((rd (aT vB bE) 0)).toNat * 2)).block, (XK.add (((rd (aT vB bE) 0)).toNat * 2)).off + 1, none⟩ = some (.int .i64 ((aj ae (rd (aT vB bE) 0)).f1))) (ds := [9, 10]) #[Zz,Zz,Zz,Zz,Zz,Zz,Zz,Zz,Zz,Zz,Zz,Zz] (by kernel_rfl) rfl rfl ⟨(ai qM.1 0).trans rfl, (ai qM.1 1).trans rfl, (ai qM.1 2).trans rfl, Ko, ((HB.1.cell (World.block_lt_of_cell? w _ XM)).trans XM), ((HB.1.cell (World.block_lt_of_cell? w _ XL)).trans XL)⟩ (fun hHeld => ?_); refine iq dw.abv dw.bits5 (fun HT_ HW_ => ?_)
   generalize wr.drew = w16 at HO_3 HO_8 Bp qM Dw HB Ko G5 G6 hHeld ⊢
   refine aU 0 (N := some 14) HT_.1 ?_
   refine aU 1 (N := some 15) HT_.1 ?_
   refine aU 3 (N := some 17) HT_.1 ?_
   refine aU 4 (N := some 18) HT_.1 ?_
   refine gF 2 (N := some 16) HT_.1 HW_.1 hHeld ?_
   refine gF 5 (N := some 19) HT_.1 HW_.1 hHeld ?_
   refine aU 6 (N := some 20) HT_.1 ?_
   refine aU 7 (N := some 21) HT_.1 ?_
   refine gF 8 (N := some 22) HT_.1 HW_.1 hHeld ?_
   refine BD (i := 9) (N := some 23) #[Yy,Yy,Yy,Yy,Yy,Yy,Yy,Yy,Yy,Yy,Zz,Zz] rfl rfl (jc HT_.1 (by kernel_rfl)) (by decide) (fun K hK => ?_)
   refine Tp (w1 := ?_) (v := ?_) (by rfl) rfl ?_ ?_
   rotate_left 2
   · go_simp
     constructor
     · rfl
     rfl
   refine hK.out _ _ ?_
   clear hK K
   refine eX (a' := ?_) ?_ ?_
   rotate_left
   · show Act.put _ (some 23) _ = _
     simp only [Act.put, List.setIfInBounds_toArray, List.set_cons_zero, List.set_cons_succ, cz, dF]
     rfl
   refine BD (i := 10) (N := some 24) #[Yy,Yy,Yy,Yy,Yy,Yy,Yy,Yy,Yy,Yy,Yy,Zz] rfl rfl (jc HT_.1 (by kernel_rfl)) (by decide) (fun K hK => ?_)
   refine yG (Kd.int .i64) (w0 := w) w.heap.size (by rfl) (.tmp 14) (.tmp 23) 38 3 (.int .i64 0) 8 rfl Try.underlying38 info3 rfl (by decide) (by omega) u3 ky ((aj ae (rd (aT vB bE) 0)).f1) [.int .i64 ((aj ae (rd (aT vB bE) 0)).f1)] (fun _ => True) (fun _ => False) rfl rfl ?aP (fun _ hk => hk.elim) ?aF ?aO ?aB ?aS ?aL ?_
   (case aP => exact rfl)
   (case aB => exact (BL HB.1))
   (case aF => exact (fun _ _ => trivial))
   (case aO => exact (PR HO_3.1))
   (case aS => exact (bZ HB.1))
   (case aL => have := Lg.1; omega)
   intro aQ3 Vn ho hb hg hat
   rw [<- ays.1] at ho
   refine E5 (CK (ok := (fun _ => True)) (ES (eY HO_8.1 (fun _ hk => ⟨trivial, hk⟩))) hg hat) (bG qM.1 hg (dK HO_3.1 qM.1 (by decide))) (iX (ok := (fun k_ => some k_ ≠ (.slice (some ayt) vB.length yZ : Value).ownBlock)) (pm (aG Bp.1 (fun _ hk => ⟨hk.2, hk.1⟩))) hg hat) (hb) (ho) ?_
   clear HO_8 qM Bp HB HO_3
   intro HO_8 qM Bp HB ayv
   clear ho hb hg hat
   refine hK.out _ _ ?_
   clear hK K
   refine eX (a' := ?_) ?_ ?_
   rotate_left
   · show Act.put _ (some 24) _ = _
     simp only [Act.put, List.setIfInBounds_toArray, List.set_cons_zero, List.set_cons_succ, cz, dF]
     rfl
   refine aU 11 (N := some 3) HT_.1 ?_
   refine lI (jS HT_.1 (by kernel_rfl)) ?_
   try go_wp2
   go_roundg k1
   case measure => have := iB.1; omega
   case rel => exact ⟨(aHX), (wrap64 (bE + 1)), RG, H', ⟨by have := iB.1; omega⟩, ⟨PR ayv.1⟩, ⟨ES (eY HO_8.1 (fun _ hk => hk.2))⟩, ⟨PB qM.1⟩, ⟨BL HB.1⟩⟩
 obtain rfl := Option.some.inj H
 go_wp2
 go_ret
 exact ⟨_, RF, pm (HO_3.1), BL HB.1⟩
mutual
def aI.l0 : Nat -> List Int -> List (List Int) -> List Bool -> List Int -> Option (List Bool)
 | 0, _, _, _, _ => none
 | k + 1, x1, x5, x6, x8 => if (x8.length : Int) > 0 then (if 0 < (x8.length : Int) then (if 1 <= (x8.length : Int) then (aI.l1 k x1 x5 x6 (x8.drop (1 : Int).toNat) (rd x8 0) (x1.length : Int) 0) else (none)) else (none)) else (some x6)
def aI.l1 : Nat -> List Int -> List (List Int) -> List Bool -> List Int -> Int -> Int -> Int -> Option (List Bool)
 | 0, _, _, _, _, _, _, _ => none
 | k + 1, x1, x5, x6, x8, x9, x37, x38 => if x38 < x37 then (if 0 <= x38 then (if x38 < (x5.length : Int) then (if 0 <= x9 then (if x9 < ((aT x5 x38).length : Int) then (if 0 <= (rd (aT x5 x38) x9) then (if (rd (aT x5 x38) x9) < (x6.length : Int) then (if (Eu false x6 (rd (aT x5 x38) x9) = true) then (aI.l1 k x1 x5 x6 x8 x9 x37 (wrap64 (x38 + 1))) else (if x8.length < 17592186044416 then (aI.l1 k x1 x5 (x6.set ((rd (aT x5 x38) x9) : Int).toNat true) (x8 ++ [rd (aT x5 x38) x9]) x9 x37 (wrap64 (x38 + 1))) else (none))) else (none)) else (none)) else (none)) else (none)) else (none)) else (none)) else (aI.l0 k x1 x5 x6 x8)
end
def aI.f (k : Nat) (ah : Int) (af : Int) (ae : List (fq)) (l1 : List Int) : Option (List Bool) := (az.f k ah af ae l1).bind fun nQ => ((bn.f k ah af ae).bind fun wR => (if 0 <= (shl .i64 1 (wR.length : Int)) then (if (shl .i64 1 (wR.length : Int) : Int).toNat <= 281474976710656 then ((some (List.replicate (shl .i64 1 (wR.length : Int) : Int).toNat false : List Bool)).bind fun G7 => ((dw.f k ah af ae).bind fun LK => ((bC.f k LK).bind fun xz => (if 0 <= xz then (if xz < (G7.length : Int) then (aI.l0 k l1 nQ (G7.set (xz : Int).toNat true) (([xz] : List Int))) else (none)) else (none))))) else (none)) else (none)))
theorem aI.mono_l : ∀ k, (∀ y0 y1 y2 y3, dO (aI.l0 k y0 y1 y2 y3) (aI.l0 (k + 1) y0 y1 y2 y3)) /\ (∀ y0 y1 y2 y3 y4 y5 y6, dO (aI.l1 k y0 y1 y2 y3 y4 y5 y6) (aI.l1 (k + 1) y0 y1 y2 y3 y4 y5 y6))
 | 0 => by refine ⟨?_, ?_⟩ <;> (intros; intro r h; first | (simp [aI.l0] at h; done) | (simp [aI.l1] at h; done))
 | k + 1 => by
  obtain ⟨ja, ih1⟩ := aI.mono_l k
  refine ⟨?_, ?_⟩ <;> (
   intros
   first | unfold aI.l0 | unfold aI.l1
   exact LM6 ja ih1 dw.mono bC.mono az.mono bn.mono)
theorem aI.mono : ∀ a0 a1 a2 a3 k, dO (aI.f k a0 a1 a2 a3) (aI.f (k + 1) a0 a1 a2 a3) := by
 intro a0 a1 a2 a3 k
 obtain ⟨ja, ih1⟩ := aI.mono_l k
 unfold aI.f
 exact LM6 ja ih1 dw.mono bC.mono az.mono bn.mono
theorem aI.calls (k : Nat) (ah : Int) (af : Int) (aK : Option Addr) (aJ : Nat) (ae : List (fq)) (A1 : Option Addr) (c1 : Nat) (l1 : List Int) (r : List Bool) (w : World) (dH : Kd.C jZ w aK ae.length ae) (dG : ae.length <= aJ) (hr1 : Kd.C (Kd.int .i64) w A1 l1.length l1) (hc1 : l1.length <= c1) (h : aI.f k ah af ae l1 = some r) :
 Calls Try.prog 63 #[.agg #[.int .i64 ah, .int .i64 af, .slice aK ae.length aJ], .slice A1 l1.length c1] w fun e w' => ∃ rO : Value, e = .returned (rO) /\ Kd.R Kd.bool 4 w' w.heap.size (fun _ => True) rO r /\ Below w.heap.size w w' := by
 have nH := Try.underlying30
 have bD := aa.mk dH
 have cO := aa.mk dG
 clear dH dG
 have HR1 := aa.mk hr1
 have vD := aa.mk hc1
 clear hr1 hc1
 have HB := aa.mk (Below.refl w.heap.size w)
 have H := h
 clear h
 unfold aI.f at H
 replace H := dz H; obtain ⟨nQ, A3, H⟩ := H
 replace H := dz H; obtain ⟨wR, A4, H⟩ := H
 obtain ⟨UU, UV⟩ : ∃ j_ : Int, (shl .i64 1 (wR.length : Int)) = j_ := ⟨_, rfl⟩
 replace H : (if 0 <= (UU) then (if (UU : Int).toNat <= 281474976710656 then ((some (List.replicate (UU : Int).toNat false : List Bool)).bind fun G7 => ((dw.f k ah af ae).bind fun LK => ((bC.f k LK).bind fun xz => (if 0 <= xz then (if xz < (G7.length : Int) then (aI.l0 k l1 nQ (G7.set (xz : Int).toNat true) (([xz] : List Int))) else (none)) else (none))))) else (none)) else (none)) = some r := by first | (rw [UV] at H; exact H) | (simp only [UV] at H ⊢; exact H)
 (try rw [UV] at A3)
 (try rw [UV] at A4)
 have adB : (IntKind.i64.wrap (1 * 2 ^ min (wR.length : Int).toNat 64)) = UU := UV
 have hji5z : (wR.length : Int) <= 64 -> (IntKind.i64.wrap (1 * 2 ^ (wR.length : Int).toNat)) = UU := CO UV
 have hji5p : (IntKind.i64.wrap (1 * 2 ^ min wR.length 64)) = UU := adB
 have hji5q : (wR.length : Int) <= 64 -> (IntKind.i64.wrap (1 * 2 ^ wR.length)) = UU := hji5z
 have hji5r : (IntKind.i64.wrap (2 ^ min wR.length 64)) = UU := by have h_ := hji5p; rw [Int.one_mul] at h_; exact h_
 have hji5s : (wR.length : Int) <= 64 -> (IntKind.i64.wrap (2 ^ wR.length)) = UU := fun hle_ => by have h_ := hji5q hle_; rw [Int.one_mul] at h_; exact h_
 have hji5u : (IntKind.i64.wrap (2 ^ min (wR.length : Int).toNat 64)) = UU := by have h_ := adB; rw [Int.one_mul] at h_; exact h_
 have hji5v : (wR.length : Int) <= 64 -> (IntKind.i64.wrap (2 ^ (wR.length : Int).toNat)) = UU := fun hle_ => by have h_ := hji5z hle_; rw [Int.one_mul] at h_; exact h_
 have hji5y : (wrap64 (1 * 2 ^ min (wR.length : Int).toNat 64)) = UU := (cz _).symm.trans adB
 have hji5x : (wR.length : Int) <= 64 -> (wrap64 (1 * 2 ^ (wR.length : Int).toNat)) = UU := fun h_ => (cz _).symm.trans (hji5z h_)
 replace H := oC H; obtain ⟨c6, H⟩ := H
 have c6b0 := eq_true c6
 have c6b1 := decide_eq_true c6
 clear c6
 replace H := oC H; obtain ⟨c7, H⟩ := H
 have c7b0 := eq_true c7
 have c7b1 := decide_eq_true c7
 clear c7
 replace H := nR H; obtain ⟨G7, alN, H⟩ := H
 replace H := dz H; obtain ⟨LK, A8, H⟩ := H
 replace H := dz H; obtain ⟨xz, A9, H⟩ := H
 replace H := ji H; obtain ⟨c10b0, H⟩ := H
 replace H := ji H; obtain ⟨c11b0, H⟩ := H
 generalize alO : ((G7.set (xz : Int).toNat true) : List Bool) = ayw at H
 have ayx := aa.mk alO.symm; clear alO
 generalize alP : ((([xz] : List Int)) : List Int) = aH4 at H
 have alQ := aa.mk alP.symm; clear alP
 have H' := aa.mk H
 clear H
 go_enter Try.func63, Try.ntmps63
 go_wp2_with (first | ((with_reducible refine aC (N := 2) rfl ?_); refine dN (cs := #[.int .i64 ah, .int .i64 af, .slice aK ae.length aJ]) (t := 30) ?_; intro adC hg yJ hbox hb; refine mJ HB.1 hg hbox hb ?_; clear HB; intro HB ku aM4 aM5; clear hb hbox hg; obtain ⟨Af, Ag, Ju, Ah, Ai, Jv⟩ := gB ku.1) | ((with_reducible refine aA (f := 48) rfl ?_); refine cK (N := (some 14)) #[.agg #[.int .i64 ah, .int .i64 af, .slice aK ae.length aJ], .slice A1 l1.length c1] Try.func48 ?_; (with_reducible refine (az.calls k ah af _ _ ae _ _ l1 nQ _ ?side1 ?side2 ?side3 ?side4 A3.1).mono ?_); (case side1 => exact CB (aY bD.1 HB.1)); (case side2 => exact cO.1); (case side3 => exact CB (aY HR1.1 HB.1)); (case side4 => exact vD.1); rintro e NU ⟨ahu, rfl, ho0, hb⟩; refine ⟨_, rfl, ?_⟩; refine E3 (lN ho0 (bZ HB.1)) (bB ku.1 hb) (bS HB.1 hb) ?_; clear ku HB; intro rE ku HB; (try clear hb); (try clear ho0); obtain ⟨wm, wo, zQ, wu, ww, zR⟩ := gB ku.1) | ((with_reducible refine aA (f := 61) rfl ?_); refine cK (N := (some 16)) #[.agg #[.int .i64 ah, .int .i64 af, .slice aK ae.length aJ]] Try.func61 ?_; (with_reducible refine (bn.calls k ah af _ _ ae wR _ ?side1 ?side2 A4.1).mono ?_); (case side1 => exact CB (aY bD.1 HB.1)); (case side2 => exact cO.1); rintro e Vn ⟨aQ4, rfl, ho0, hb⟩; refine ⟨_, rfl, ?_⟩; refine E4 (kW (PS rE.1) (am4 ho0) hb) (lN (BV ho0 (aeF (PS rE.1))) (bZ HB.1)) (bB ku.1 hb) (bS HB.1 hb) ?_; clear rE ku HB; intro rE vO ku HB; (try clear hb); (try clear ho0); obtain ⟨ayy, ayz, aH5⟩ := mq vO.1; subst aH5) | ((with_reducible refine aC (N := 19) rfl ?_); refine yH Kd.bool _ 4 rfl (N := 19) rfl 67 _ _ rfl UU rfl rfl Try.underlying67 (.bool false) 1 ar9 rfl (by decide) (by omega) false (ok := fun _ => True) (okp := fun _ => True) rfl (fun _ hk => hk) trivial (OD) (Nat.le_trans (Nat.mul_le_mul_right _ (OD : UU.toNat <= 281474976710656)) (by omega)) (Below.refl _ _) (Nat.le_refl _) ?_; intro aH6 w19 adD hb hg_ hnew_; clear hg_ hnew_; (first | rw [<- alN.1] at adD | (simp only [Int.reduceToNat] at adD; rw [<- alN.1] at adD)); refine E5 (sB rE.1 hb) (sB vO.1 hb) (bN adD (bZ HB.1)) (bB ku.1 hb) (bS HB.1 hb) ?_; clear rE vO ku HB; intro rE vO rF ku HB; clear hb adD; obtain ⟨uJ, uK, xK, uL, uM, xL⟩ := gB ku.1) | ((with_reducible refine aA (f := 50) rfl ?_); refine cK (N := (some 21)) #[.agg #[.int .i64 ah, .int .i64 af, .slice aK ae.length aJ]] Try.func50 ?_; (with_reducible refine (dw.calls k ah af _ _ ae LK _ ?side1 ?side2 A8.1).mono ?_); (case side1 => exact CB (aY bD.1 HB.1)); (case side2 => exact cO.1); rintro e BM ⟨aQ5, rfl, ho0, hb⟩; refine ⟨_, rfl, ?_⟩; refine E6 (kW (PS rE.1) (fe ho0) hb) (kW (PS vO.1) (fe ho0) hb) (rB rF.1 hb) (bN ho0 (bZ HB.1)) (bB ku.1 hb) (bS HB.1 hb) ?_; clear rE vO rF ku HB; intro rE vO rF zH ku HB; (try clear hb); (try clear ho0); obtain ⟨yN, yO, NV⟩ := bv zH.1; subst NV) | ((with_reducible refine aA (f := 49) rfl ?_); refine cK (N := (some 22)) #[.slice yN LK.length yO] Try.func49 ?_; (with_reducible refine (bC.calls k _ _ LK xz _ ?side1 ?side2 A9.1).mono ?_); (case side1 => exact CB (ay zH.1).2.2); (case side2 => exact (ay zH.1).2.1); rintro e w' ⟨rfl, ⟨nd, rfl⟩⟩; refine ⟨_, rfl, ?_⟩; (try (rw [KP BM]; generalize hq_ : World.drewN BM _ = BM; have AV : aa (Kd.S (Kd.slice 3 (Kd.int .i64)) 38 BM w.heap.size (fun k_ => some k_ ≠ (.slice ayy wR.length ayz : Value).ownBlock /\ some k_ ≠ (.slice yN LK.length yO : Value).ownBlock) ahu nQ) := ⟨by rw [<- hq_]; exact (ES (eY rE.1 (fun _ hk => ⟨hk.1.2, hk.2⟩)))⟩; have AX : aa (Kd.S (Kd.slice 3 (Kd.int .i64)) 38 BM w.heap.size (fun k_ => some k_ ≠ (ahu : Value).ownBlock /\ some k_ ≠ (.slice yN LK.length yO : Value).ownBlock) (.slice ayy wR.length ayz) wR) := ⟨by rw [<- hq_]; exact (ES (eY vO.1 (fun _ hk => ⟨hk.1.2, hk.2⟩)))⟩; have AY : aa (Kd.R Kd.bool 4 BM w.heap.size (fun _ => True) aH6 G7) := ⟨by rw [<- hq_]; exact (PR rF.1)⟩; have AZ : aa (Kd.R (Kd.int .i64) 3 BM w.heap.size (fun _ => True) (.slice yN LK.length yO) LK) := ⟨by rw [<- hq_]; exact (PR zH.1)⟩; have Ed : aa (BM.heap[adC]? = some (.cells #[.int .i64 ah, .int .i64 af, .slice aK ae.length aJ] 30 (0, 0))) := ⟨by rw [<- hq_]; exact (PB ku.1)⟩; have Ee : aa (Below w.heap.size w BM) := ⟨by rw [<- hq_]; exact (BL HB.1)⟩; clear rE vO rF zH ku HB hq_; have rE := AV; have vO := AX; have rF := AY; have zH := AZ; have ku := Ed; have HB := Ee; clear AV AX AY AZ Ed Ee)); have SF : 0 <= (xz : Int) := OD; have SG : (xz : Int) < ((G7.length : Int) : Int) := OD; obtain ⟨tL, rM, vF, KV, TG, ano, KW⟩ := mQ rF.1 (by omega); (first | cases vF | (injection vF with ea_ en_ ec_; (first | subst ea_ | (injection ea_ with ea_; subst ea_)); subst ec_; clear en_)); have QR := aa.mk KV; have anp := aa.mk KW; clear KV TG KW; obtain ⟨Ib, KR⟩ := lC false rF.1 (xz : Int) SF SG; replace SF := eq_true SF; replace SG := eq_true SG; obtain ⟨aM6, aM7⟩ := lC false rF.1 (xz : Int) (OD) (OD); have aqp := qV rF.1 (xz : Int) true) | ((with_reducible refine gK (t := 4) (p := 25) rfl ?_); refine lX (t := 4) (p := 25) (w1 := (BM.setCell ⟨tL, (xz : Int).toNat, none⟩ (.bool true))) ?_; intro Mk hw; have hg : BM.grownBy Mk (some tL) := (by rw [hw]; exact aqp.2); have hp_ : Kd.R Kd.bool 4 Mk w.heap.size (fun _ => True) (.slice (some ⟨tL, 0, none⟩) G7.length rM) ayw := (by rw [hw, ayx.1]; exact aqp.1); clear aqp; refine E6 (bG ku.1 hg (dK rF.1 ku.1 (by decide))) (Js (v := (.slice (some ⟨tL, 0, none⟩) G7.length rM)) (PS rE.1) (dY rF.1) (by decide) hg) (Js (v := (.slice (some ⟨tL, 0, none⟩) G7.length rM)) (PS vO.1) (dY rF.1) (by decide) hg) (hp_) (kF (v := (.slice (some ⟨tL, 0, none⟩) G7.length rM)) (PR zH.1) (dY rF.1) (by decide) hg) ((by rw [hw]; exact il (HB.1) QR.1 : Below w.heap.size w Mk)) ?_; clear ku rE vO rF zH HB; intro ku rE vO rF zH HB; clear hg hw hp_) | ((with_reducible refine aC (N := 27) rfl ?_); refine qh (Kd.int .i64) _ 3 ?hg (N := 27) ?hd (xs := ([xz] : List Int)) (inner := [.int .i64 xz]) (ok := fun _ => True) (okp := fun _ => True) ?hr ?hp (fun _ hk => hk) trivial (Below.refl _ _) (Nat.le_refl _) (by simp) ?_; (case hd => rfl); (case hg => rfl); (case hr => first | (go_simp; done) | (go_simp; rfl)); (case hp => exact (fK.one (show Kd.M (Kd.int .i64) _ _ _ xz [.int .i64 xz] from rfl) (fK.none _ _))); intro aQ6 w26 EH hb hg_ hnew_; clear hg_ hnew_; (first | rw [<- alQ.1] at EH | (simp only [Int.reduceToNat] at EH; rw [<- alQ.1] at EH)); refine E7 (kW (PS rE.1) (fe EH) hb) (kW (PS vO.1) (fe EH) hb) (rB rF.1 hb) (eT (PR zH.1) (fe EH) hb) (bN (iI EH (iL (PR zH.1))) (bZ HB.1)) (bB ku.1 hb) (bS HB.1 hb) ?_; clear rE vO rF zH ku HB; intro rE vO rF zH ayA ku HB; clear hb EH))
 go_loopg [8] k (fun kq v8 w' => ∃ (MF : List Bool) (d9 : List Int), aa (aI.l0 kq l1 nQ MF d9 = some r) /\ aa (kq <= k) /\ aa (Kd.S (Kd.slice 3 (Kd.int .i64)) 38 w' w.heap.size (fun k_ => some k_ ≠ (v8 : Value).ownBlock) ahu nQ) /\ aa (Kd.R Kd.bool 4 w' w.heap.size (fun _ => True) (.slice (some ⟨tL, 0, none⟩) G7.length rM) MF) /\ aa (Kd.Q (Kd.int .i64) 3 w' w.heap.size (fun _ => True) v8 d9) /\ aa (w'.heap[adC]? = some (.cells #[.int .i64 ah, .int .i64 af, (.slice aK ae.length aJ)] 30 (0, 0))) /\ aa (Below w.heap.size w w'))
 case atStart => exact ⟨(ayw), (aH4), H', ⟨Nat.le_refl _⟩, ⟨ES (eY rE.1 (fun _ hk => hk.2))⟩, ⟨PR rF.1⟩, ⟨Tj (pm (aG ayA.1 (fun _ hk => trivial)))⟩, ⟨PB ku.1⟩, ⟨BL HB.1⟩⟩
 clear H'
 try clear c1; try clear SF; try clear SG; try clear Ib; clear c6b0 c6b1 c7b0 c7b1 c10b0 c11b0 Af Ag Ju wm wo zQ uJ uK xK Ah Ai Jv wu ww zR uL uM xL
 obtain ⟨MF, d9, HA, iB, HO_5, HO_6, HO_8, ku, HB⟩ := hrel
 have qm := (ay HO_6.1).1
 rw [qm] at HO_6
 (try simp only [qm])
 (try simp only [qm] at ku)
 (try simp only [qm] at HO_5)
 (try simp only [qm] at HO_8)
 cases gk with
 | zero => exact absurd HA.1 (by simp [aI.l0])
 | succ k1 => ?_
 have H := HA.1
 clear HA
 simp only [aI.l0] at H
 replace H := oP H; rcases H with ⟨c28, H⟩ | ⟨c28, H⟩
 · have c28b0 : decide (0 < (d9.length : Int)) = true := decide_eq_true c28
   have c28b1 : decide (0 < d9.length) = true := decide_eq_true (by omega)
   clear c28
   replace H := oC H; obtain ⟨c29, H⟩ := H
   have c29b0 := decide_eq_true c29
   have c29b1 : decide (0 < d9.length) = true := decide_eq_true (by omega)
   clear c29
   replace H := oC H; obtain ⟨YW, H⟩ := H
   have c30b0 := eq_true YW
   have c30b1 := decide_eq_true YW
   clear YW
   generalize alR : ((d9.drop (1 : Int).toNat) : List Int) = Zl at H
   have alS := aa.mk alR.symm; clear alR
   have H' := aa.mk H
   clear H
   obtain ⟨pq, mg, Mm, _⟩ := Jq HO_8.1
   subst Mm
   have ahv : 0 <= (0 : Int) := (by omega)
   have ahw : 0 < (d9.length : Int) := OD
   obtain ⟨Sg, aH7, PW⟩ := Kd.dx (KF HO_8.1).2.2 0 ahv ahw
   cases aH7
   have aM8 : (0 < d9.length) = True := eq_true (by omega)
   (try rw [show ((0 : Int)).toNat = 0 from rfl] at PW)
   (try rw [Addr.add_zero'] at PW)
   replace ahv := eq_true ahv
   replace ahw := eq_true ahw
   have q32 : (1 : Int) <= ((d9.length : Int) : Int) := OD
   obtain ⟨aQ7, alT, _, alU, _⟩ := info_parts info3
   have hcut32 := Fy (P := Try.prog) 38 3 .i64 Try.underlying38 alT 1 alU (some Sg) d9.length mg 1 (by omega) q32
   have adE := aam (k := (1 : Int).toNat) HO_8.1 (by omega)
   obtain ⟨A32, ahx⟩ : ∃ A1, A1 = (if mg = (1 : Int).toNat then (some Sg) else ((some Sg) : Option Addr).map (·.add ((1 : Int).toNat * 1))) := ⟨_, rfl⟩
   obtain ⟨c32, hc32⟩ : ∃ c1, c1 = mg - (1 : Int).toNat := ⟨_, rfl⟩
   have hy32 : Zl.length = d9.length - (1 : Int).toNat := (by rw [alS.1, List.length_drop])
   rw [<- alS.1] at adE
   rw [<- hy32, <- ahx, <- hc32] at hcut32
   replace adE : Kd.Q (Kd.int .i64) 3 wr w.heap.size (fun _ => True) (.slice A32 Zl.length c32) Zl := (by rw [ahx, hc32, hy32]; exact adE)
   have aH9 : aa ((Value.slice A32 Zl.length c32).ownBlock = (.slice (some Sg) d9.length mg : Value).ownBlock) := ⟨by rw [ahx]; split <;> (cases ((some Sg) : Option Addr) <;> rfl)⟩
   clear hy32 alT alU HO_8 ahx hc32
   have ayB := aa.mk adE
   clear adE
   replace q32 := eq_true q32
   have n_ := aa.mk (eY (ok' := fun k_ => some k_ ≠ (.slice A32 Zl.length c32 : Value).ownBlock) HO_5.1 (fun k_ hk => (by rw [aH9.1]; exact hk)))
   clear HO_5
   have HO_5 := n_
   clear n_
   go_wp2
   go_loopg [8, 38] k1 (fun kq v8 v38 w' => ∃ (iT : List Bool) (Iy : List Int) (kE : Int), v38 = .int .i64 kE /\ aa (aI.l1 kq l1 nQ iT Iy (rd d9 0) (l1.length : Int) kE = some r) /\ aa (kq <= k1) /\ aa (Kd.S (Kd.slice 3 (Kd.int .i64)) 38 w' w.heap.size (fun k_ => some k_ ≠ (v8 : Value).ownBlock) ahu nQ) /\ aa (Kd.R Kd.bool 4 w' w.heap.size (fun _ => True) (.slice (some ⟨tL, 0, none⟩) MF.length rM) iT) /\ aa (Kd.Q (Kd.int .i64) 3 w' w.heap.size (fun _ => True) v8 Iy) /\ aa (w'.heap[adC]? = some (.cells #[.int .i64 ah, .int .i64 af, (.slice aK ae.length aJ)] 30 (0, 0))) /\ aa (Below w.heap.size w w'))
   case atStart => exact ⟨(MF), (Zl), (0), RG, H', ⟨Nat.le_refl _⟩, ⟨PS1 HO_5.1 qm⟩, ⟨ER HO_6.1 qm⟩, ⟨by (try simp only [qm]); (with_reducible repeat (first | apply mi | apply mo | apply nZ)); exact ayB.1⟩, ⟨Er ku.1 qm⟩, ⟨BL HB.1⟩⟩
   clear H'
   try clear c1; try clear c32; try clear q32; try clear PW; try clear ahv; try clear ahw; clear c28b0 c28b1 c29b0 c29b1 c30b0 c30b1
   obtain ⟨iT, Iy, kE, rfl, HA, nG, HO_5, HO_6, HO_8, ku, HB⟩ := hrel
   have rG := (ay HO_6.1).1
   rw [rG] at HO_6
   (try simp only [rG])
   (try simp only [rG] at ku)
   (try simp only [rG] at HO_5)
   (try simp only [rG] at HO_8)
   cases gk with
   | zero => exact absurd HA.1 (by simp [aI.l1])
   | succ k2 => ?_
   have H := HA.1
   clear HA
   simp only [aI.l1] at H
   replace H := pu H; rcases H with ⟨c33b0, H⟩ | ⟨c33b0, H⟩
   · replace H := ji H; obtain ⟨c34b0, H⟩ := H
     replace H := ji H; obtain ⟨c35b0, H⟩ := H
     replace H := ji H; obtain ⟨c36b0, H⟩ := H
     replace H := ji H; obtain ⟨c37b0, H⟩ := H
     replace H := ji H; obtain ⟨c38b0, H⟩ := H
     replace H := ji H; obtain ⟨c39b0, H⟩ := H
     obtain ⟨ayC, adF⟩ : ∃ b_ : Bool, b_ = (Eu false iT (rd (aT nQ kE) (rd d9 0))) := ⟨_, rfl⟩
     replace H : (if (ayC = true) then (aI.l1 k2 l1 nQ iT Iy (rd d9 0) (l1.length : Int) (wrap64 (kE + 1))) else (if Iy.length < 17592186044416 then (aI.l1 k2 l1 nQ (iT.set ((rd (aT nQ kE) (rd d9 0)) : Int).toNat true) (Iy ++ [rd (aT nQ kE) (rd d9 0)]) (rd d9 0) (l1.length : Int) (wrap64 (kE + 1))) else (none))) = some r := by rw [<- adF] at H; exact H
     have alV := aa.mk adF
     clear adF
     by_cases c41 : (ayC = true)
     · subst c41
       have H1 : (aI.l1 k2 l1 nQ iT Iy (rd d9 0) (l1.length : Int) (wrap64 (kE + 1))) = some r := by rw [if_pos rfl] at H; exact H
       clear H
       have H := H1
       clear H1
       have H' := aa.mk H
       clear H
       obtain ⟨F6, DV, Ra⟩ := mq HO_5.1
       subst Ra
       have PX : 0 <= (kE : Int) := OD
       have PY : kE < (nQ.length : Int) := OD
       obtain ⟨alW, aqr, aqs, aqt, PZ, G8, G9⟩ := tT (fJ HO_5.1).2.2 kE PX PY
       cases aqt
       obtain ⟨ayD, UW, UX, LM⟩ := BF HO_5.1 [] kE PX (by first | exact PY | exact OD | (have e_ := (fJ HO_5.1).1; omega))
       obtain ⟨ahy, rfl, Bq⟩ := UX
       have tF := LM 0 _ rfl
       rw [Nat.add_zero, show ((Kd.slice 3 (Kd.int .i64))).sz = 1 from rfl, Nat.mul_one] at tF
       replace tF := Option.some.inj (tF.symm.trans PZ)
       rw [tF] at Bq
       have Br := aa.mk (show Kd.R (Kd.int .i64) 3 _ _ _ _ (aT nQ kE) from Bq)
       clear tF Bq
       clear LM UW
       have Ha := aa.mk G9
       have ahz := aa.mk G8
       clear G9 G8
       replace PX := eq_true PX
       replace PY := eq_true PY
       have UY : 0 <= ((rd d9 0) : Int) := OD
       have UZ : (rd d9 0) < ((aT nQ kE).length : Int) := OD
       obtain ⟨ayE, aqu, ahA⟩ := Kd.dx (by repeat (first | (with_reducible exact Ha.1) | (with_reducible refine kg ?_ _) | (with_reducible refine ko ?_ _) | (with_reducible refine kH ?_) | exact Ha.1)) (rd d9 0) UY UZ
       cases aqu
       replace UY := eq_true UY
       replace UZ := eq_true UZ
       have U0 : 0 <= ((rd (aT nQ kE) (rd d9 0)) : Int) := OD
       have U1 : (rd (aT nQ kE) (rd d9 0)) < (iT.length : Int) := OD
       obtain ⟨adG, aqv, wS⟩ := Kd.Jo (ay HO_6.1).2.2 (rd (aT nQ kE) (rd d9 0)) U0 U1
       (try rw [<- alV.1] at wS)
       obtain rfl : (⟨tL, 0, none⟩ : Addr) = adG := (by injection aqv)
       (first | simp only [add_plain] at wS | simp only [uh] at wS | simp only [Addr.add, Nat.zero_add] at wS | skip)
       replace U0 := eq_true U0
       replace U1 := eq_true U1
       go_wp2
       (try simp only [<- rG])
       go_roundg k2
       case measure => have := iB.1; have := nG.1; omega
       case rel => exact ⟨(iT), (Iy), (wrap64 (kE + 1)), RG, H', ⟨by have := iB.1; have := nG.1; omega⟩, ⟨PS2 HO_5.1 qm rG⟩, ⟨MZ HO_6.1 qm rG⟩, ⟨by (try simp only [qm]); (try simp only [rG]); (with_reducible repeat (first | apply mi | apply mo | apply nZ)); exact HO_8.1⟩, ⟨HY ku.1 qm rG⟩, ⟨BL HB.1⟩⟩
     replace c41 := Bool.eq_false_iff.mpr c41
     subst c41
     have H1 : (if Iy.length < 17592186044416 then (aI.l1 k2 l1 nQ (iT.set ((rd (aT nQ kE) (rd d9 0)) : Int).toNat true) (Iy ++ [rd (aT nQ kE) (rd d9 0)]) (rd d9 0) (l1.length : Int) (wrap64 (kE + 1))) else (none)) = some r := by rw [if_neg (show ¬ (false = true) by decide)] at H; exact H
     clear H
     have H := H1
     clear H1
     generalize alX : ((iT.set ((rd (aT nQ kE) (rd d9 0)) : Int).toNat true) : List Bool) = ayF at H
     have ayG := aa.mk alX.symm; clear alX
     replace H := oC H; obtain ⟨c44, H⟩ := H
     have ayH := aa.mk c44
     clear c44
     generalize alY : ((Iy ++ [rd (aT nQ kE) (rd d9 0)]) : List Int) = aIa at H
     have ayI := aa.mk alY.symm; clear alY
     have H' := aa.mk H
     clear H
     obtain ⟨P5, ML, aqw⟩ := mq HO_5.1
     subst aqw
     have PX : 0 <= (kE : Int) := OD
     have PY : kE < (nQ.length : Int) := OD
     obtain ⟨alW, aqr, aqs, aqt, PZ, G8, G9⟩ := tT (fJ HO_5.1).2.2 kE PX PY
     cases aqt
     obtain ⟨ayD, UW, UX, LM⟩ := BF HO_5.1 [] kE PX (by first | exact PY | exact OD | (have e_ := (fJ HO_5.1).1; omega))
     obtain ⟨ahy, rfl, Bq⟩ := UX
     have tF := LM 0 _ rfl
     rw [Nat.add_zero, show ((Kd.slice 3 (Kd.int .i64))).sz = 1 from rfl, Nat.mul_one] at tF
     replace tF := Option.some.inj (tF.symm.trans PZ)
     rw [tF] at Bq
     have Br := aa.mk (show Kd.R (Kd.int .i64) 3 _ _ _ _ (aT nQ kE) from Bq)
     clear tF Bq
     clear LM UW
     have Ha := aa.mk G9
     have ahz := aa.mk G8
     clear G9 G8
     replace PX := eq_true PX
     replace PY := eq_true PY
     have UY : 0 <= ((rd d9 0) : Int) := OD
     have UZ : (rd d9 0) < ((aT nQ kE).length : Int) := OD
     obtain ⟨ayE, aqu, ahA⟩ := Kd.dx (by repeat (first | (with_reducible exact Ha.1) | (with_reducible refine kg ?_ _) | (with_reducible refine ko ?_ _) | (with_reducible refine kH ?_) | exact Ha.1)) (rd d9 0) UY UZ
     cases aqu
     replace UY := eq_true UY
     replace UZ := eq_true UZ
     have U0 : 0 <= ((rd (aT nQ kE) (rd d9 0)) : Int) := OD
     have U1 : (rd (aT nQ kE) (rd d9 0)) < (iT.length : Int) := OD
     obtain ⟨adG, aqv, wS⟩ := Kd.Jo (ay HO_6.1).2.2 (rd (aT nQ kE) (rd d9 0)) U0 U1
     (try rw [<- alV.1] at wS)
     obtain rfl : (⟨tL, 0, none⟩ : Addr) = adG := (by injection aqv)
     (first | simp only [add_plain] at wS | simp only [uh] at wS | simp only [Addr.add, Nat.zero_add] at wS | skip)
     replace U0 := eq_true U0
     replace U1 := eq_true U1
     have p43 : 0 <= ((rd (aT nQ kE) (rd d9 0)) : Int) := OD
     have q43 : ((rd (aT nQ kE) (rd d9 0)) : Int) < ((iT.length : Int) : Int) := OD
     obtain ⟨aIc, aId⟩ := lC false HO_6.1 ((rd (aT nQ kE) (rd d9 0)) : Int) p43 q43
     replace p43 := eq_true p43
     replace q43 := eq_true q43
     have aqx := qV HO_6.1 ((rd (aT nQ kE) (rd d9 0)) : Int) true
     go_wp2_with (first | ((with_reducible refine gK (t := 4) (p := 55) rfl ?_); refine lX (t := 4) (p := 55) (w1 := (wr.setCell ⟨tL, ((rd (aT nQ kE) (rd d9 0)) : Int).toNat, none⟩ (.bool true))) ?_; intro w47 hw; have hg : wr.grownBy w47 (some tL) := (by rw [hw]; exact aqx.2); have hp_ : Kd.R Kd.bool 4 w47 w.heap.size (fun _ => True) (.slice (some ⟨tL, 0, none⟩) iT.length rM) ayF := (by rw [hw, ayG.1]; exact aqx.1); clear aqx; refine E6 (Js (v := (.slice (some ⟨tL, 0, none⟩) iT.length rM)) (PS HO_5.1) (dY HO_6.1) (by decide) hg) (hp_) (aeB (v := (.slice (some ⟨tL, 0, none⟩) iT.length rM)) (by (with_reducible repeat (first | apply mi | apply mo | apply nZ)); exact HO_8.1) (dY HO_6.1) (by decide) hg) (bG ku.1 hg (dK HO_6.1 ku.1 (by decide))) (kF (v := (.slice (some ⟨tL, 0, none⟩) iT.length rM)) (PR Br.1) (dY HO_6.1) (by decide) hg) ((by rw [hw]; exact il (HB.1) QR.1 : Below w.heap.size w w47)) ?_; clear HO_5 HO_6 HO_8 ku Br HB; intro HO_5 HO_6 HO_8 ku Br HB; clear hg hw hp_) | ((with_reducible refine bf (b := .append) (xs := #[.tmp 56, .tmp 58]) rfl ?_); at_builtin; refine QB (Kd.int .i64) (w0 := w) w.heap.size rfl (.tmp 56) (.tmp 58) 38 3 (.int .i64 0) 8 rfl Try.underlying38 info3 rfl (by decide) (by omega) u8 Iy (rd (aT nQ kE) (rd d9 0)) [.int .i64 (rd (aT nQ kE) (rd d9 0))] (fun _ => True) (fun _ => False) rfl rfl ?aP (fun _ hk => hk.elim) ?aF ?aO ?aB ?aS ?aL ?_; (case aP => exact rfl); (case aB => exact (BL HB.1)); (case aF => exact (fun _ _ => trivial)); (case aO => exact (by (with_reducible repeat (first | apply mi | apply mo | apply nZ)); exact HO_8.1)); (case aS => exact (bZ HB.1)); (case aL => have := ayH.1; omega); intro aQ8 w48 ho hb hg hat; rw [<- ayI.1] at ho; refine E6 (CK (ok := (fun _ => True)) (ES (eY HO_5.1 (fun _ hk => ⟨trivial, hk⟩))) hg hat) (kF (PR HO_6.1) (aeA (by (with_reducible repeat (first | apply mi | apply mo | apply nZ)); exact HO_8.1)) (by decide) hg) (bG ku.1 hg (amZ HO_8.1 ku.1 (by decide))) (iX (ok := (fun k_ => some k_ ≠ (.slice (some alW) nQ.length ML : Value).ownBlock)) (pm (aG Br.1 (fun _ hk => ⟨hk.2, hk.1⟩))) hg hat) (hb) (ho) ?_; clear HO_5 HO_6 ku Br HB HO_8; intro HO_5 HO_6 ku Br HB ayJ; clear ho hb hg hat))
     (try simp only [<- rG])
     go_roundg k2
     case measure => have := iB.1; have := nG.1; omega
     case rel => exact ⟨(ayF), (aIa), (wrap64 (kE + 1)), RG, H', ⟨by have := iB.1; have := nG.1; omega⟩, ⟨by (try simp only [qm]); (try simp only [rG]); (with_reducible repeat (first | apply jF | apply jG | apply iV)); exact eY HO_5.1 (fun _ hk => hk.2)⟩, ⟨MZ HO_6.1 qm rG⟩, ⟨by (try simp only [qm]); (try simp only [rG]); (with_reducible repeat (first | apply mi | apply mo | apply nZ)); exact ayJ.1⟩, ⟨HY ku.1 qm rG⟩, ⟨BL HB.1⟩⟩
   have H' := aa.mk H
   clear H
   go_wp2
   (try simp only [<- qm, <- rG])
   go_roundg k2
   case measure => have := iB.1; have := nG.1; omega
   case rel => exact ⟨(iT), (Iy), H', ⟨by have := iB.1; have := nG.1; omega⟩, ⟨PS2 HO_5.1 qm rG⟩, ⟨MZ HO_6.1 qm rG⟩, ⟨by (try simp only [qm]); (try simp only [rG]); (with_reducible repeat (first | apply mi | apply mo | apply nZ)); exact HO_8.1⟩, ⟨HY ku.1 qm rG⟩, ⟨BL HB.1⟩⟩
 have c28b0 : decide (0 < (d9.length : Int)) = false := decide_eq_false c28
 have c28b1 : decide (0 < d9.length) = false := decide_eq_false (by omega)
 clear c28
 obtain rfl := Option.some.inj H
 obtain ⟨Y2, K5, Q0, _⟩ := Jq HO_8.1
 subst Q0
 go_wp2
 go_ret
 exact ⟨_, by first | rfl | (simp [iC, iD] <;> rfl) | (simp only [<- UV]; first | rfl | (simp [iC, iD] <;> rfl)) | (simp [*, iC, iD] <;> rfl), pm (HO_6.1), BL HB.1⟩
theorem aIe {w : World} {g : Nat} {t : TypeId} {v0 v1 v2 v3 : Value} (h : w.heap[g]? = some (.cells #[v0, v1, v2, v3] t (0, 0))) : w.cell? ⟨g, 0, none⟩ = some v0 /\ w.cell? ⟨g, 1, none⟩ = some v1 /\ w.cell? ⟨g, 2, none⟩ = some v2 /\ w.cell? ⟨g, 3, none⟩ = some v3 /\ w.frozen? ⟨g, 0, none⟩ = false /\ w.frozen? ⟨g, 1, none⟩ = false /\ w.frozen? ⟨g, 2, none⟩ = false /\ w.frozen? ⟨g, 3, none⟩ = false :=
 ⟨(ai h 0).trans rfl, (ai h 1).trans rfl, (ai h 2).trans rfl, (ai h 3).trans rfl, mK h 0, mK h 1, mK h 2, mK h 3⟩
/-- An array of four marks, read as a row. -/
theorem aIf {w : World} {base g : Nat} (hb : base <= g) (h : w.heap[g]? = some (.cells #[.bool false, .bool false, .bool false, .bool false] 95 (0, 0))) : Kd.R Kd.bool 95 w base (fun _ => True) (.slice (some ⟨g, 0, none⟩) 4 4) [false, false, false, false] :=
 Qy ⟨rfl, .inr ⟨g, 4, _, rfl, hb, h, by decide, by decide, rfl, rfl⟩⟩ (fun _ _ => trivial)
theorem adH {w : World} {base g : Nat} {ok : Nat -> Prop} {v : Value} {xs : List Bool} {i : Int} (hv : v = .slice (some ⟨g, 0, none⟩) 4 4) (h : Kd.R Kd.bool 95 w base ok v xs) (hi : i < (xs.length : Int)) : i < 4 := by
 rw [hv] at h
 have := (ay h).1
 omega
theorem ayK {g g' : Nat} {n c : Nat} (h : Value.slice (some ⟨g, 0, none⟩) n c = .slice (some ⟨g', 0, none⟩) 4 4) : g = g' := by
 injection h with a _ _
 injection a with a
 injection a
theorem alZ {w : World} {base g : Nat} {ok : Nat -> Prop} {v : Value} {xs : List Bool} (hv : v = .slice (some ⟨g, 0, none⟩) 4 4) (h : Kd.R Kd.bool 95 w base ok v xs) (i : Int) (h0 : 0 <= i) (h1 : i < 4) : w.cell? ⟨g, i.toNat, none⟩ = some (.bool (Eu false xs i)) /\ w.frozen? ⟨g, i.toNat, none⟩ = false := by
 rw [hv] at h
 exact lC false h i h0 h1
theorem XN {α : Type} {d : Kd α} {e base g : Nat} {ok : Nat -> Prop} {v : Value} {xs : List α} {w : World} (h : d.S e w base (fun k => ok k /\ k ≠ g) v xs) (i : Nat) : d.S e (w.setCell ⟨g, i, none⟩ (.bool false)) base (fun k => ok k /\ k ≠ g) v xs := SQ g i h (.bool false)
mutual
def bi.l0 : Nat -> List Int -> List (List Int) -> List Int -> List Bool -> List Bool -> Int -> Int -> Int -> Int -> List (fq) -> Option (List Int)
 | 0, _, _, _, _, _, _, _, _, _, _ => none
 | k + 1, x1, x5, x6, x7, x24, x25, qx, Dx, Dy, Dz => if qx < x25 then (if 0 <= qx then (if qx < (x24.length : Int) then (if Eu false x24 qx = true then (bi.l1 k x1 x5 x6 x7 qx x24 x25 qx x1 (x1.length : Int) 0 Dx Dy Dz) else (bi.l0 k x1 x5 x6 x7 x24 x25 (wrap64 (qx + 1)) Dx Dy Dz)) else (none)) else (none)) else (bi.l2 k x7 (([] : List Int)) 1)
def bi.l1 : Nat -> List Int -> List (List Int) -> List Int -> List Bool -> Int -> List Bool -> Int -> Int -> List Int -> Int -> Int -> Int -> Int -> List (fq) -> Option (List Int)
 | 0, _, _, _, _, _, _, _, _, _, _, _, _, _, _ => none
 | k + 1, x1, x5, x6, x7, x8, x24, x25, qx, x33, x34, x35, Dx, Dy, Dz => if x35 < x34 then (if 0 <= x35 then (if x35 < (x33.length : Int) then ((fM.f Dx Dy Dz).bind fun Si => ((dA.f k x8 (x5.length : Int)).bind fun rX => ((aM.f k Si.1 Si.2.1 Si.2.2 x5 rX).bind fun ahB => ((cZ.f k Si.1 Si.2.1 ahB x6 (rd x33 x35)).bind fun adI => (if 0 <= adI.1 then (if adI.1 < (x7.length : Int) then (bi.l1 k x1 x5 x6 (x7.set (adI.1 : Int).toNat true) x8 x24 x25 qx x33 x34 (wrap64 (x35 + 1)) Dx Dy Dz) else (none)) else (none)))))) else (none)) else (none)) else (bi.l0 k x1 x5 x6 x7 x24 x25 (wrap64 (qx + 1)) Dx Dy Dz)
def bi.l2 : Nat -> List Bool -> List Int -> Int -> Option (List Int)
 | 0, _, _, _ => none
 | k + 1, x7, Mg, HZ => if HZ <= 3 then (if 0 <= HZ then (if HZ < (x7.length : Int) then (if Eu false x7 HZ = true then (if Mg.length < 17592186044416 then (bi.l2 k x7 (Mg ++ [HZ]) (wrap64 (HZ + 1))) else (none)) else (bi.l2 k x7 Mg (wrap64 (HZ + 1)))) else (none)) else (none)) else (some Mg)
end
def bi.f (k : Nat) (ah : Int) (af : Int) (ae : List (fq)) (l1 : List Int) : Option (List Int) := (bn.f k ah af ae).bind fun zP => ((av.f k ah af ae).bind fun zI => ((aI.f k ah af ae l1).bind fun Eo => (bi.l0 k l1 zP zI ([false, false, false, false] : List Bool) Eo (Eo.length : Int) 0 ah af ae)))
theorem bi.mono_l : ∀ k, (∀ y0 y1 y2 y3 y4 y5 y6 y7 y8 y9, dO (bi.l0 k y0 y1 y2 y3 y4 y5 y6 y7 y8 y9) (bi.l0 (k + 1) y0 y1 y2 y3 y4 y5 y6 y7 y8 y9)) /\ (∀ y0 y1 y2 y3 y4 y5 y6 y7 y8 y9 IG MV Vr y13, dO (bi.l1 k y0 y1 y2 y3 y4 y5 y6 y7 y8 y9 IG MV Vr y13) (bi.l1 (k + 1) y0 y1 y2 y3 y4 y5 y6 y7 y8 y9 IG MV Vr y13)) /\ (∀ y0 y1 y2, dO (bi.l2 k y0 y1 y2) (bi.l2 (k + 1) y0 y1 y2))
 | 0 => by refine ⟨?_, ?_, ?_⟩ <;> (intros; intro r h; first | (simp [bi.l0] at h; done) | (simp [bi.l1] at h; done) | (simp [bi.l2] at h; done))
 | k + 1 => by
  obtain ⟨ja, ih1, ih2⟩ := bi.mono_l k
  refine ⟨?_, ?_, ?_⟩ <;> (
   intros
   first | unfold bi.l0 | unfold bi.l1 | unfold bi.l2
   repeat' first | (with_reducible first | apply ja | apply ih1 | apply ih2 | apply dA.mono | apply cZ.mono | apply av.mono | apply aI.mono | apply aM.mono | apply bn.mono | exact dO.refl _ | exact dO.none _ | refine dO.ite ?_ ?_ | refine dO.bind ?_ (fun _ => ?_)) | exact dO.none _ | refine dO.ite ?_ ?_ | refine dO.bind ?_ (fun _ => ?_))
theorem bi.mono : ∀ a0 a1 a2 a3 k, dO (bi.f k a0 a1 a2 a3) (bi.f (k + 1) a0 a1 a2 a3) := by
 intro a0 a1 a2 a3 k
 obtain ⟨ja, ih1, ih2⟩ := bi.mono_l k
 unfold bi.f
 repeat' first | (with_reducible first | apply ja | apply ih1 | apply ih2 | apply dA.mono | apply cZ.mono | apply av.mono | apply aI.mono | apply aM.mono | apply bn.mono | exact dO.refl _ | exact dO.none _ | refine dO.ite ?_ ?_ | refine dO.bind ?_ (fun _ => ?_)) | exact dO.none _ | refine dO.ite ?_ ?_ | refine dO.bind ?_ (fun _ => ?_)
theorem bi.calls (k : Nat) (ah : Int) (af : Int) (aK : Option Addr) (aJ : Nat) (ae : List (fq)) (A1 : Option Addr) (c1 : Nat) (l1 : List Int) (r : List Int) (w : World) (dH : Kd.C jZ w aK ae.length ae) (dG : ae.length <= aJ) (hr1 : Kd.C (Kd.int .i64) w A1 l1.length l1) (hc1 : l1.length <= c1) (h : bi.f k ah af ae l1 = some r) :
 Calls Try.prog 66 #[.agg #[.int .i64 ah, .int .i64 af, .slice aK ae.length aJ], .slice A1 l1.length c1] w fun e w' => ∃ rO : Value, e = .returned (rO) /\ Kd.R (Kd.int .i64) 3 w' w.heap.size (fun _ => True) rO r /\ Below w.heap.size w w' := by
 have nH := Try.underlying30
 have YM := Try.underlying54
 have aQ9 := Try.underlying95
 have bD := aa.mk dH
 have cO := aa.mk dG
 clear dH dG
 have HR1 := aa.mk hr1
 have vD := aa.mk hc1
 clear hr1 hc1
 have HB := aa.mk (Below.refl w.heap.size w)
 have H := h
 clear h
 unfold bi.f at H
 replace H := dz H; obtain ⟨zP, A3, H⟩ := H
 replace H := dz H; obtain ⟨zI, A4, H⟩ := H
 generalize al0 : ([false, false, false, false] : List Bool) = aIh at H
 have ayM := aa.mk al0.symm; clear al0
 replace H := dz H; obtain ⟨Eo, A6, H⟩ := H
 have H' := aa.mk H
 clear H
 go_enter Try.func66, Try.ntmps66
 go_wp2_with (first | ((with_reducible refine aC (N := 2) rfl ?_); refine dN (cs := #[.int .i64 ah, .int .i64 af, .slice aK ae.length aJ]) (t := 30) ?_; intro IE hg w7 hbox hb; refine mJ HB.1 hg hbox hb ?_; clear HB; intro HB dQ ZX ZY; clear hb hbox hg; obtain ⟨lZ, l5, mR, l6, l7, mU⟩ := gB dQ.1) | ((with_reducible refine aA (f := 61) rfl ?_); refine cK (N := (some 18)) #[.agg #[.int .i64 ah, .int .i64 af, .slice aK ae.length aJ]] Try.func61 ?_; (with_reducible refine (bn.calls k ah af _ _ ae zP _ ?side1 ?side2 A3.1).mono ?_); (case side1 => exact CB (aY bD.1 HB.1)); (case side2 => exact cO.1); rintro e w9 ⟨aqy, rfl, ho0, hb⟩; refine ⟨_, rfl, ?_⟩; refine E3 (lN ho0 (bZ HB.1)) (bB dQ.1 hb) (bS HB.1 hb) ?_; clear dQ HB; intro zJ dQ HB; (try clear hb); (try clear ho0); obtain ⟨pR, pU, uN, pV, pW, uO⟩ := gB dQ.1) | ((with_reducible refine aA (f := 74) rfl ?_); refine cK (N := (some 20)) #[.agg #[.int .i64 ah, .int .i64 af, .slice aK ae.length aJ]] Try.func74 ?_; (with_reducible refine (av.calls k ah af _ _ ae zI _ ?side1 ?side2 A4.1).mono ?_); (case side1 => exact CB (aY bD.1 HB.1)); (case side2 => exact cO.1); rintro e qy ⟨Sj, rfl, ho0, hb⟩; refine ⟨_, rfl, ?_⟩; refine E4 (kW (PS zJ.1) (fe ho0) hb) (bN ho0 (bZ HB.1)) (bB dQ.1 hb) (bS HB.1 hb) ?_; clear zJ dQ HB; intro zJ Eg dQ HB; (try clear hb); (try clear ho0)) | ((with_reducible refine aC (N := 7) rfl ?_); refine dN (cs := #[.bool false, .bool false, .bool false, .bool false]) (t := 95) ?_; intro gA hg yC hbox hb; have BKA := aa.mk hbox; have GEA := aa.mk (hg ▸ HB.1.size : w.heap.size <= gA); have NA := aa.mk (nB dQ.1 hg); refine E4 (sB zJ.1 hb) (rB Eg.1 hb) (bB dQ.1 hb) (bS HB.1 hb) ?_; clear zJ Eg dQ HB hg hbox hb; intro zJ Eg dQ HB; obtain ⟨hca, hcb, hcc, hcd, hfa, hfb, hfc, hfd⟩ := aIe BKA.1) | ((with_reducible refine gK (t := 95) (p := 7) rfl ?_); refine lX (t := 95) (p := 7) (w1 := ((((yC.setCell ⟨gA, 0, none⟩ (.bool false)).setCell ⟨gA, 1, none⟩ (.bool false)).setCell ⟨gA, 2, none⟩ (.bool false)).setCell ⟨gA, 3, none⟩ (.bool false))) ?_; intro yJ hw; have AV := aa.mk (eY (XN (XN (XN (XN (kG zJ.1 BKA.1 (by decide)) 0) 1) 2) 3) (fun _ hk => hk.1)); have AX := aa.mk (aG (RQ gA 3 (RQ gA 2 (RQ gA 1 (RQ gA 0 (bz Eg.1 BKA.1 (by decide)) (.bool false)) (.bool false)) (.bool false)) (.bool false)) (fun _ hk => hk.1)); have AY := aa.mk (bu (bu (bu (bu dQ.1 NA.1 (p := ⟨gA, 0, none⟩) (.bool false)) NA.1 (p := ⟨gA, 1, none⟩) (.bool false)) NA.1 (p := ⟨gA, 2, none⟩) (.bool false)) NA.1 (p := ⟨gA, 3, none⟩) (.bool false)); have AZ := aa.mk ((((HB.1.setCell (p := ⟨gA, 0, none⟩) GEA.1 (.bool false)).setCell (p := ⟨gA, 1, none⟩) GEA.1 (.bool false)).setCell (p := ⟨gA, 2, none⟩) GEA.1 (.bool false)).setCell (p := ⟨gA, 3, none⟩) GEA.1 (.bool false)); have Ed := aa.mk (aIf GEA.1 (gy (gy (gy (gy BKA.1 0 (.bool false) rfl) 1 (.bool false) rfl) 2 (.bool false) rfl) 3 (.bool false) rfl)); rw [<- hw] at AV AX AY AZ Ed; clear zJ Eg dQ HB BKA hca hcb hcc hcd hfa hfb hfc hfd hw lZ l5 mR l6 l7 mU; (try clear pR pU uN pV pW uO); have zJ := AV; have Eg := AX; have dQ := AY; have HB := AZ; rw [<- ayM.1] at Ed; obtain ⟨LP, hv_⟩ : ∃ v : Value, v = .slice (some ⟨gA, 0, none⟩) 4 4 := ⟨_, rfl⟩; rw [<- hv_] at Ed; have Sk := Ed; have HV := aa.mk hv_; clear AV AX AY AZ Ed hv_; obtain ⟨Af, Ag, Ju, Ah, Ai, Jv⟩ := gB dQ.1) | ((with_reducible refine aA (f := 63) rfl ?_); refine cK (N := (some 24)) #[.agg #[.int .i64 ah, .int .i64 af, .slice aK ae.length aJ], .slice A1 l1.length c1] Try.func63 ?_; (with_reducible refine (aI.calls k ah af _ _ ae _ _ l1 Eo _ ?side1 ?side2 ?side3 ?side4 A6.1).mono ?_); (case side1 => exact CB (aY bD.1 HB.1)); (case side2 => exact cO.1); (case side3 => exact CB (aY HR1.1 HB.1)); (case side4 => exact vD.1); rintro e NU ⟨aDI, rfl, ho0, hb⟩; refine ⟨_, rfl, ?_⟩; refine E6 (sB zJ.1 hb) (rB Eg.1 hb) (eT (PR Sk.1) (fe ho0) hb) (bN (iI ho0 (iL (PR Sk.1))) (bZ HB.1)) (bB dQ.1 hb) (bS HB.1 hb) ?_; clear zJ Eg Sk dQ HB; intro zJ Eg Sk oD dQ HB; (try clear hb); (try clear ho0); obtain ⟨aoE, wP, aoF⟩ := bv oD.1; subst aoF))
 go_loopg [26] k (fun kq v26 w' => ∃ (qa : List Bool) (BH : List Bool) (tH : Int), v26 = .int .i64 tH /\ aa (bi.l0 kq l1 zP zI qa BH (Eo.length : Int) tH ah af ae = some r) /\ aa (kq <= k) /\ aa (Kd.S (Kd.slice 3 (Kd.int .i64)) 38 w' w.heap.size (fun k_ => some k_ ≠ (Sj : Value).ownBlock) aqy zP) /\ aa (Kd.R (Kd.int .i64) 3 w' w.heap.size (fun _ => True) Sj zI) /\ aa (Kd.R Kd.bool 95 w' w.heap.size (fun k_ => some k_ ≠ ((.slice aoE Eo.length wP) : Value).ownBlock) LP qa) /\ aa (Kd.R Kd.bool 4 w' w.heap.size (fun k_ => some k_ ≠ (LP : Value).ownBlock) (.slice aoE Eo.length wP) BH) /\ aa (w'.heap[IE]? = some (.cells #[.int .i64 ah, .int .i64 af, (.slice aK ae.length aJ)] 30 (0, 0))) /\ aa (Below w.heap.size w w'))
 case atStart => exact ⟨(aIh), (Eo), (0), RG, H', ⟨Nat.le_refl _⟩, ⟨ES (eY zJ.1 (fun _ hk => hk.2))⟩, ⟨PR Eg.1⟩, ⟨pm (aG Sk.1 (fun _ hk => hk.2))⟩, ⟨pm (aG oD.1 (fun _ hk => hk.2))⟩, ⟨PB dQ.1⟩, ⟨BL HB.1⟩⟩
 clear H'
 try clear c1
 obtain ⟨qa, BH, tH, rfl, HA, iB, HO_5, HO_6, HO_7, HO_24, dQ, HB⟩ := hrel
 have jw := (ay HO_24.1).1
 rw [jw] at HO_24
 (try simp only [jw])
 (try simp only [jw] at dQ)
 (try simp only [jw] at HO_5)
 (try simp only [jw] at HO_6)
 (try simp only [jw] at HO_7)
 cases gk with
 | zero => exact absurd HA.1 (by simp [bi.l0])
 | succ k1 => ?_
 have H := HA.1
 clear HA
 simp only [bi.l0] at H
 replace H := pu H; rcases H with ⟨c17b0, H⟩ | ⟨c17b0, H⟩
 · replace H := ji H; obtain ⟨c18b0, H⟩ := H
   replace H := ji H; obtain ⟨c19b0, H⟩ := H
   obtain ⟨aIi, adJ⟩ : ∃ b_ : Bool, b_ = (Eu false BH tH) := ⟨_, rfl⟩
   replace H : (if aIi = true then (bi.l1 k1 l1 zP zI qa tH BH (Eo.length : Int) tH l1 (l1.length : Int) 0 ah af ae) else (bi.l0 k1 l1 zP zI qa BH (Eo.length : Int) (wrap64 (tH + 1)) ah af ae)) = some r := by rw [<- adJ] at H; exact H
   have al1 := aa.mk adJ
   clear adJ
   replace H := Cm H; rcases H with ⟨rfl, H⟩ | ⟨rfl, H⟩
   · have H' := aa.mk H
     clear H
     have Sl : 0 <= (tH : Int) := OD
     have Sm : tH < (BH.length : Int) := OD
     obtain ⟨Eh, aqz, Kq⟩ := Kd.Jo (ay HO_24.1).2.2 tH Sl Sm
     (try rw [<- al1.1] at Kq)
     cases aqz
     replace Sl := eq_true Sl
     replace Sm := eq_true Sm
     go_wp2
     go_loopg [35] k1 (fun kq v35 w' => ∃ (lF : List Bool) (yx : List Bool) (Hd : Int), v35 = .int .i64 Hd /\ aa (bi.l1 kq l1 zP zI lF tH yx (Eo.length : Int) tH l1 (l1.length : Int) Hd ah af ae = some r) /\ aa (kq <= k1) /\ aa (Kd.S (Kd.slice 3 (Kd.int .i64)) 38 w' w.heap.size (fun k_ => some k_ ≠ (Sj : Value).ownBlock) aqy zP) /\ aa (Kd.R (Kd.int .i64) 3 w' w.heap.size (fun _ => True) Sj zI) /\ aa (Kd.R Kd.bool 95 w' w.heap.size (fun k_ => some k_ ≠ ((.slice (some Eh) BH.length wP) : Value).ownBlock) LP lF) /\ aa (Kd.R Kd.bool 4 w' w.heap.size (fun k_ => some k_ ≠ (LP : Value).ownBlock) (.slice (some Eh) BH.length wP) yx) /\ aa (w'.heap[IE]? = some (.cells #[.int .i64 ah, .int .i64 af, (.slice aK ae.length aJ)] 30 (0, 0))) /\ aa (Below w.heap.size w w'))
     case atStart => exact ⟨(qa), (BH), (0), RG, H', ⟨Nat.le_refl _⟩, ⟨PS1 HO_5.1 jw⟩, ⟨ER HO_6.1 jw⟩, ⟨ER HO_7.1 jw⟩, ⟨ER HO_24.1 jw⟩, ⟨Er dQ.1 jw⟩, ⟨BL HB.1⟩⟩
     clear H'
     try clear Kq; try clear Sl; try clear Sm
     obtain ⟨lF, yx, Hd, rfl, HA, nG, HO_5, HO_6, HO_7, HO_24, dQ, HB⟩ := hrel
     have oU := (ay HO_24.1).1
     rw [oU] at HO_24
     (try simp only [oU])
     (try simp only [oU] at dQ)
     (try simp only [oU] at HO_5)
     (try simp only [oU] at HO_6)
     (try simp only [oU] at HO_7)
     cases gk with
     | zero => exact absurd HA.1 (by simp [bi.l1])
     | succ k2 => ?_
     have H := HA.1
     clear HA
     simp only [bi.l1] at H
     replace H := pu H; rcases H with ⟨c22b0, H⟩ | ⟨c22b0, H⟩
     · replace H := ji H; obtain ⟨c23b0, H⟩ := H
       replace H := ji H; obtain ⟨c24b0, H⟩ := H
       replace H := dz H; obtain ⟨⟨Jk, xD, DY⟩, A25, H⟩ := H
       dsimp only at H
       replace H := dz H; obtain ⟨rX, A26, H⟩ := H
       replace H := dz H; obtain ⟨ahB, A27, H⟩ := H
       replace H := dz H; obtain ⟨⟨LQ, tK, aqA, ayN, ayO⟩, A28, H⟩ := H
       dsimp only at H
       replace H := ji H; obtain ⟨c29b0, H⟩ := H
       replace H := ji H; obtain ⟨c30b0, H⟩ := H
       generalize al2 : ((lF.set (LQ : Int).toNat true) : List Bool) = ayP at H
       have ayQ := aa.mk al2.symm; clear al2
       have H' := aa.mk H
       clear H
       have aqB : 0 <= (Hd : Int) := OD
       have aqC : Hd < (l1.length : Int) := OD
       obtain ⟨aNa, aIj, P6⟩ := Kd.dx HR1.1 Hd aqB aqC
       cases aIj
       replace P6 := (HB.1.cell (World.block_lt_of_cell? w _ P6)).trans P6
       replace aqB := eq_true aqB
       replace aqC := eq_true aqC
       obtain ⟨J2, J3, J4, J5, J6, J7⟩ := gB dQ.1
       try go_wp2_with (first | ((with_reducible refine aA (f := 75) rfl ?_); refine cK (N := (some 40)) #[.agg #[.int .i64 ah, .int .i64 af, .slice aK ae.length aJ]] Try.func75 ?_; (with_reducible refine (fM.calls ah af _ _ ae Jk xD DY _ ?side1 ?side2 A25.1).mono ?_); (case side1 => exact CB (aY bD.1 HB.1)); (case side2 => exact cO.1); rintro e w33 ⟨aRc, rfl, ho0, hb⟩; refine ⟨_, rfl, ?_⟩; refine E7 (sB HO_5.1 hb) (rB HO_6.1 hb) (rB HO_7.1 hb) (rB HO_24.1 hb) (bN ho0 (bZ HB.1)) (bB dQ.1 hb) (bS HB.1 hb) ?_; clear HO_5 HO_6 HO_7 HO_24 dQ HB; intro HO_5 HO_6 HO_7 HO_24 jD dQ HB; (try clear hb); (try clear ho0)) | ((with_reducible refine aC (N := 12) rfl ?_); refine dN (cs := #[.int .i64 0, .int .i64 0, .slice none 0 0]) (t := 30) ?_; intro nW hg w34 hbox hb; refine E12 (sB HO_5.1 hb) (rB HO_6.1 hb) (rB HO_7.1 hb) (rB HO_24.1 hb) (rB jD.1 hb) (bB dQ.1 hb) (bS HB.1 hb) (hbox) (gX HB.1 hg) (gX HB.1 hg) (nB dQ.1 hg) (nC dQ.1 hg) ?_; clear HO_5 HO_6 HO_7 HO_24 jD dQ HB; intro HO_5 HO_6 HO_7 HO_24 jD dQ HB jQ aNb aNc DC Zm; clear hb hbox hg; have awN := Zm.1; have awO := DC.1; obtain ⟨agS, agT, aC4, agU, agV, aC5⟩ := gB jQ.1; obtain ⟨Iz, IA, aIk⟩ := bv jD.1; subst aIk))
       have n_ : (fun Nc : World => (Kd.S (Kd.slice 3 (Kd.int .i64)) 38 Nc w.heap.size (fun k_ => some k_ ≠ (Sj : Value).ownBlock) aqy zP) /\ (Kd.R (Kd.int .i64) 3 Nc w.heap.size (fun _ => True) Sj zI) /\ (Kd.R Kd.bool 95 Nc w.heap.size (fun k_ => some k_ ≠ (.slice (some Eh) yx.length wP : Value).ownBlock) LP lF) /\ (Kd.R Kd.bool 4 Nc w.heap.size (fun k_ => some k_ ≠ (LP : Value).ownBlock) (.slice (some Eh) yx.length wP) yx) /\ (Kd.R jZ 83 Nc w.heap.size (fun _ => True) (.slice Iz DY.length IA) DY) /\ (Nc.heap[IE]? = some (.cells #[.int .i64 ah, .int .i64 af, .slice aK ae.length aJ] 30 (0, 0))) /\ (Nc.heap[nW]? = some (.cells #[.int .i64 Jk, .int .i64 xD, .slice Iz DY.length IA] 30 (0, 0))) /\ (Below w.heap.size w Nc)) (((w34.setCell ⟨nW, 0, none⟩ (.int .i64 Jk)).setCell ⟨nW, 1, none⟩ (.int .i64 xD)).setCell ⟨nW, 2, none⟩ (.slice Iz DY.length IA)) := ⟨by (with_reducible repeat (first | apply jF | apply jG | apply iV)); exact eY (SQ nW 2 (SQ nW 1 (SQ nW 0 (kG HO_5.1 jQ.1 (by decide)) _) _) _) (fun _ hk => hk.1), by (with_reducible repeat (first | apply aV | apply aW | apply aQ)); exact aG (RQ nW 2 (RQ nW 1 (RQ nW 0 (bz HO_6.1 jQ.1 (by decide)) _) _) _) (fun _ hk => trivial), by (with_reducible repeat (first | apply aV | apply aW | apply aQ)); exact aG (RQ nW 2 (RQ nW 1 (RQ nW 0 (bz HO_7.1 jQ.1 (by decide)) _) _) _) (fun _ hk => hk.1), by (with_reducible repeat (first | apply aV | apply aW | apply aQ)); exact aG (RQ nW 2 (RQ nW 1 (RQ nW 0 (bz HO_24.1 jQ.1 (by decide)) _) _) _) (fun _ hk => hk.1), by (with_reducible repeat (first | apply aV | apply aW | apply aQ)); exact aG (RQ nW 2 (RQ nW 1 (RQ nW 0 (bz jD.1 jQ.1 (by decide)) _) _) _) (fun _ hk => trivial), by (with_reducible repeat (first | refine ak ?_ _ | refine ag ?_ | refine au ?_ _)); refine bu ?_ DC.1 _; (with_reducible repeat (first | refine ak ?_ _ | refine ag ?_ | refine au ?_ _)); refine bu ?_ DC.1 _; (with_reducible repeat (first | refine ak ?_ _ | refine ag ?_ | refine au ?_ _)); refine bu ?_ DC.1 _; (with_reducible repeat (first | refine ak ?_ _ | refine ag ?_ | refine au ?_ _)); exact dQ.1, by (with_reducible repeat (first | refine ak ?_ _ | refine ag ?_ | refine au ?_ _)); refine gy (cs := #[.int .i64 Jk, .int .i64 xD, .slice none 0 0]) ?_ 2 _ rfl; (with_reducible repeat (first | refine ak ?_ _ | refine ag ?_ | refine au ?_ _)); refine gy (cs := #[.int .i64 Jk, .int .i64 0, .slice none 0 0]) ?_ 1 _ rfl; (with_reducible repeat (first | refine ak ?_ _ | refine ag ?_ | refine au ?_ _)); refine gy (cs := #[.int .i64 0, .int .i64 0, .slice none 0 0]) ?_ 0 _ rfl; (with_reducible repeat (first | refine ak ?_ _ | refine ag ?_ | refine au ?_ _)); exact jQ.1, BL HB.1⟩
       (try clear HO_5)
       (try clear HO_6)
       (try clear HO_7)
       (try clear HO_24)
       (try clear jD)
       (try clear dQ)
       (try clear jQ)
       (try clear HB)
       generalize (((w34.setCell ⟨nW, 0, none⟩ (.int .i64 Jk)).setCell ⟨nW, 1, none⟩ (.int .i64 xD)).setCell ⟨nW, 2, none⟩ (.slice Iz DY.length IA)) = Nc at n_ ⊢
       obtain ⟨qG, qH, qi, qI, qJ, tX, xk, zk⟩ := n_
       refine E8 qG qH qi qI qJ tX xk zk ?_
       clear qG qH qi qI qJ tX xk zk
       intro HO_5 HO_6 HO_7 HO_24 jD dQ jQ HB
       refine E8 (iV HO_5.1) (aQ HO_6.1) (aQ HO_7.1) (aQ HO_24.1) (aQ jD.1) (ag dQ.1) (ag jQ.1) (dm HB.1) ?_
       clear HO_5 HO_6 HO_7 HO_24 jD dQ jQ HB
       intro HO_5 HO_6 HO_7 HO_24 jD dQ jQ HB
       obtain ⟨ayR, ayS, ayT⟩ := mq HO_5.1
       (first | subst ayT | (injection ayT with rY zZ rZ; have z8 := rY.symm; have Aa := rZ.symm; clear rY zZ rZ; subst z8; subst Aa))
       refine jN (n := 7) (S := fun w' => w'.cell? ⟨nW, 0, none⟩ = some (.int .i64 Jk) /\ w'.cell? ⟨nW, 1, none⟩ = some (.int .i64 xD) /\ w'.cell? ⟨nW, 2, none⟩ = some (.slice Iz DY.length IA)) (ds := []) #[Zz,Zz,Zz,Zz,Zz,Zz,Zz] (by kernel_rfl) rfl rfl ⟨(ai jQ.1 0).trans rfl, (ai jQ.1 1).trans rfl, (ai jQ.1 2).trans rfl⟩ (fun hHeld => ?_)
       generalize Nc.drew = w39 at HO_5 HO_6 HO_7 HO_24 jD dQ jQ HB hHeld ⊢
       refine ll (i := 1) (N := some 42) (v := ?_) (a' := ?_) #[Zz,Yy,Zz,Zz,Zz,Zz,Zz] rfl rfl (by kernel_rfl) (fun _ _ _ h => h) (Or.inl ⟨by rfl, ?_⟩) ?_ ?_
       rotate_left
       · intro w'
         go_simp
         with_reducible rfl
       rotate_left
       · simp only [Act.put, List.setIfInBounds_toArray, List.set_cons_zero, List.set_cons_succ, cz, dF]
         rfl
       refine ll (i := 2) (N := some 43) (v := ?_) (a' := ?_) #[Zz,Yy,Yy,Zz,Zz,Zz,Zz] rfl rfl (by kernel_rfl) (fun _ _ _ h => h) (Or.inl ⟨by rfl, ?_⟩) ?_ ?_
       rotate_left
       · intro w'
         go_simp
         with_reducible rfl
       rotate_left
       · simp only [Act.put, List.setIfInBounds_toArray, List.set_cons_zero, List.set_cons_succ, cz, dF]
         rfl
       refine ll (i := 3) (N := some 44) (v := ?_) (a' := ?_) #[Zz,Yy,Yy,Yy,Zz,Zz,Zz] rfl rfl (by kernel_rfl) (fun _ _ _ h => h) (Or.inl ⟨by rfl, ?_⟩) ?_ ?_
       rotate_left
       · intro w'
         go_simp
         with_reducible rfl
       rotate_left
       · simp only [Act.put, List.setIfInBounds_toArray, List.set_cons_zero, List.set_cons_succ, cz, dF]
         rfl
       refine ll (i := 4) (N := some 45) (v := ?_) (a' := ?_) #[Zz,Yy,Yy,Yy,Yy,Zz,Zz] rfl rfl (by kernel_rfl) (fun _ _ _ h => h) (Or.inl ⟨by rfl, ?_⟩) ?_ ?_
       rotate_left
       · intro w'
         go_simp
         with_reducible rfl
       rotate_left
       · simp only [Act.put, List.setIfInBounds_toArray, List.set_cons_zero, List.set_cons_succ, cz, dF]
         rfl
       refine xQ 0 (N := some 41) hHeld ?_
       refine mV (i := 5) (N := some 46) #[Yy,Yy,Yy,Yy,Yy,Yy,Zz] rfl rfl (by kernel_rfl) (by decide) (fun K hK => ?_)
       refine nA Try.func77 (by kernel_rfl) rfl #[.int .i64 tH, .int .i64 (zP.length : Int)] (by rfl) rfl rfl (by (try simp only [List.map_toArray, List.map_cons, List.map_nil]); first | done | rfl | (simp only [List.length_drop, List.length_take]; rfl)) ?_
       with_reducible refine (dA.calls k2 tH (zP.length : Int) rX _ A26.1).mono ?_
       rintro e MG ⟨aRd, rfl, ho0, hb⟩
       refine ⟨_, rfl, ?_⟩
       refine E9 (kW (PS HO_5.1) (fe ho0) hb) (eT (PR HO_6.1) (fe ho0) hb) (rB HO_7.1 hb) (rB HO_24.1 hb) (rB jD.1 hb) (bN (iI ho0 (iL (PR HO_6.1))) (bZ HB.1)) (bB dQ.1 hb) (bB jQ.1 hb) (bS HB.1 hb) ?_
       clear HO_5 HO_6 HO_7 HO_24 jD dQ jQ HB
       intro HO_5 HO_6 HO_7 HO_24 jD rH dQ jQ HB
       (try clear hb)
       (try clear hb2)
       (try clear hk)
       (try clear hi)
       (try clear ho0)
       obtain ⟨F6, DV, Ra⟩ := bv rH.1
       (first | subst Ra | (injection Ra with rY zZ rZ; have z8 := rY.symm; have Aa := rZ.symm; clear rY zZ rZ; subst z8; subst Aa))
       refine hK.out _ _ ⟨(ai jQ.1 0).trans rfl, (ai jQ.1 1).trans rfl, (ai jQ.1 2).trans rfl⟩ (fun hHeld => ?_)
       clear hK K
       refine eX (a' := ?_) ?_ ?_
       rotate_left
       · show Act.put _ (some 46) _ = _
         simp only [Act.put, List.setIfInBounds_toArray, List.set_cons_zero, List.set_cons_succ, cz, dF]
         rfl
       refine mV (i := 6) (N := some 47) #[Yy,Yy,Yy,Yy,Yy,Yy,Yy] rfl rfl (by kernel_rfl) (by decide) (fun K hK => ?_)
       refine nA Try.func76 (by kernel_rfl) rfl #[.agg #[.int .i64 Jk, .int .i64 xD, .slice Iz DY.length IA], .slice ayR zP.length ayS, .slice F6 rX.length DV] (by rfl) rfl rfl (by (try simp only [List.map_toArray, List.map_cons, List.map_nil]); first | done | rfl | (simp only [List.length_drop, List.length_take]; rfl)) ?_
       with_reducible refine (aM.calls k2 Jk xD (fun k_ => some k_ = (.slice Iz DY.length IA : Value).ownBlock) (.slice Iz DY.length IA) DY _ _ zP _ _ rX ahB w _ ?side1 ?side2 ?side3 ?side4 ?side5 ?side6 A27.1).mono ?_
       (case side1 => exact BL HB.1)
       (case side2 => exact jR rfl jD.1)
       (case side3 => exact qW ((Yd (qC HO_5.1 (dY jD.1) (by decide)))) (fun k_ hk_ hs_ => (hk_.2) hs_))
       (case side4 => exact (fJ HO_5.1).2.1)
       (case side5 => exact qW ((eH rH.1 (dY jD.1) (by decide))) (fun k_ hk_ hs_ => (hk_.2) hs_))
       (case side6 => exact (ay rH.1).2.1)
       rintro e w43 ⟨rfl, hy0, hb, hkp⟩
       refine ⟨_, rfl, ?_⟩
       refine E9 (eY (ok' := fun k_ => some k_ ≠ (Sj : Value).ownBlock /\ some k_ ≠ (.slice F6 rX.length DV : Value).ownBlock) (wE ((qC HO_5.1 (dY jD.1) (by decide))) hkp (fun k_ hk_ hs_ => (hk_.2) hs_)) (fun k_ hk_ => ⟨hk_.1.1.1, hk_.1.1.2⟩)) (aG (ok' := fun k_ => some k_ ≠ (.slice F6 rX.length DV : Value).ownBlock) (jV ((eH HO_6.1 (dY jD.1) (by decide))) hkp (fun k_ hk_ hs_ => (hk_.2) hs_)) (fun k_ hk_ => hk_.1.1.2)) (aG (ok' := fun k_ => some k_ ≠ (.slice (some Eh) yx.length wP : Value).ownBlock) (jV ((eH HO_7.1 (dY jD.1) (by decide))) hkp (fun k_ hk_ hs_ => (hk_.2) hs_)) (fun k_ hk_ => hk_.1.1)) (aG (ok' := fun k_ => some k_ ≠ (LP : Value).ownBlock) (jV ((eH HO_24.1 (dY jD.1) (by decide))) hkp (fun k_ hk_ hs_ => (hk_.2) hs_)) (fun k_ hk_ => hk_.1.1)) (eQ (PB dQ.1) hkp (fun hs_ => (fun e_ => (dK jD.1 dQ.1 (by decide)) e_) hs_)) (qp rfl hy0 (fun k_ e_ => jD.1.1 k_ e_)) (eQ (PB jQ.1) hkp (fun hs_ => (fun e_ => (dK jD.1 jQ.1 (by decide)) e_) hs_)) (aG (ok' := fun k_ => some k_ ≠ (Sj : Value).ownBlock) (jV ((eH rH.1 (dY jD.1) (by decide))) hkp (fun k_ hk_ hs_ => (hk_.2) hs_)) (fun k_ hk_ => hk_.1.1.2)) (hb) ?_
       clear HO_5 HO_6 HO_7 HO_24 dQ jD jQ rH HB
       intro HO_5 HO_6 HO_7 HO_24 dQ jD jQ rH HB
       (try clear hb)
       (try clear hkp)
       (try clear hy0)
       refine hK.out _ _ ⟨(ai jQ.1 0).trans rfl, (ai jQ.1 1).trans rfl, (ai jQ.1 2).trans rfl⟩ (fun hHeld => ?_)
       clear hK K
       refine eX (a' := ?_) ?_ ?_
       rotate_left
       · show Act.put _ (some 47) _ = _
         simp only [Act.put, List.setIfInBounds_toArray, List.set_cons_zero, List.set_cons_succ, cz, dF]
         rfl
       refine lI (by kernel_rfl) ?_
       obtain ⟨aC6, aC7, aC8, aC9, aDa, aDb⟩ := gB jQ.1
       obtain ⟨P5, ML, aqw⟩ := bv HO_6.1
       subst aqw
       try go_wp2_with (first | ((with_reducible refine aA (f := 78) rfl ?_); refine cK (N := (some 52)) #[.agg #[.int .i64 Jk, .int .i64 xD, .slice Iz DY.length IA], .slice P5 zI.length ML, .int .i64 (rd l1 Hd)] Try.func78 ?_; (with_reducible refine (cZ.calls k2 Jk xD (fun k_ => some k_ = (.slice Iz DY.length IA : Value).ownBlock) (.slice Iz DY.length IA) ahB _ _ zI (rd l1 Hd) LQ tK aqA ayN ayO w _ ?side1 ?side2 ?side3 ?side4 A28.1).mono ?_); (case side1 => exact BL HB.1); (case side2 => exact jR rfl jD.1); (case side3 => exact qW ((eH HO_6.1 (dY jD.1) (by decide))) (fun k_ hk_ hs_ => (hk_.2) hs_)); (case side4 => exact (ay HO_6.1).2.1); rintro e w46 ⟨U2, rfl, ho0, hy0, hb, hkp⟩; refine ⟨_, rfl, ?_⟩; refine E10 (eY (ok' := fun k_ => some k_ ≠ (.slice P5 zI.length ML : Value).ownBlock /\ some k_ ≠ (.slice F6 rX.length DV : Value).ownBlock /\ some k_ ≠ (U2 : Value).ownBlock) (wE ((qC HO_5.1 (dY jD.1) (by decide))) hkp (fun k_ hk_ hs_ => (hk_.2) hs_)) (fun k_ hk_ => ⟨hk_.1.1.1, hk_.1.1.2, fun e_ => Or.elim (ho0.1 k_ e_.symm) (fun hs_ => hk_.2.1 hs_) (fun hn_ => Nat.not_le.2 hk_.2.2 hn_)⟩)) (aG (ok' := fun k_ => some k_ ≠ (.slice F6 rX.length DV : Value).ownBlock /\ some k_ ≠ (U2 : Value).ownBlock) (jV ((eH HO_6.1 (dY jD.1) (by decide))) hkp (fun k_ hk_ hs_ => (hk_.2) hs_)) (fun k_ hk_ => ⟨hk_.1.1, fun e_ => Or.elim (ho0.1 k_ e_.symm) (fun hs_ => hk_.2.1 hs_) (fun hn_ => Nat.not_le.2 hk_.2.2 hn_)⟩)) (aG (ok' := fun k_ => some k_ ≠ (.slice (some Eh) yx.length wP : Value).ownBlock) (jV ((eH HO_7.1 (dY jD.1) (by decide))) hkp (fun k_ hk_ hs_ => (hk_.2) hs_)) (fun k_ hk_ => hk_.1.1)) (aG (ok' := fun k_ => some k_ ≠ (LP : Value).ownBlock) (jV ((eH HO_24.1 (dY jD.1) (by decide))) hkp (fun k_ hk_ hs_ => (hk_.2) hs_)) (fun k_ hk_ => hk_.1.1)) (eQ (PB dQ.1) hkp (fun hs_ => (fun e_ => (dK jD.1 dQ.1 (by decide)) e_) hs_)) (qp rfl hy0 (fun k_ e_ => jD.1.1 k_ e_)) (eQ (PB jQ.1) hkp (fun hs_ => (fun e_ => (dK jD.1 jQ.1 (by decide)) e_) hs_)) (aG (ok' := fun k_ => some k_ ≠ (.slice P5 zI.length ML : Value).ownBlock /\ some k_ ≠ (U2 : Value).ownBlock) (jV ((eH rH.1 (dY jD.1) (by decide))) hkp (fun k_ hk_ hs_ => (hk_.2) hs_)) (fun k_ hk_ => ⟨hk_.1.1, fun e_ => Or.elim (ho0.1 k_ e_.symm) (fun hs_ => hk_.2.1 hs_) (fun hn_ => Nat.not_le.2 hk_.2.2 hn_)⟩)) (aG (ok' := fun k_ => some k_ ≠ (.slice P5 zI.length ML : Value).ownBlock /\ some k_ ≠ (.slice F6 rX.length DV : Value).ownBlock) ho0 (fun k_ hk_ => ⟨Or.elim hk_ (fun hs_ => fun e_ => ((((eH HO_6.1 (dY jD.1) (by decide))).1 k_ e_.symm).2) hs_) (fun hn_ => (Kd.kX (iL (PR HO_6.1)) k_ hn_)), Or.elim hk_ (fun hs_ => fun e_ => ((((eH rH.1 (dY jD.1) (by decide))).1 k_ e_.symm).2) hs_) (fun hn_ => (Kd.kX (iL (PR rH.1)) k_ hn_))⟩)) (hb) ?_; clear HO_5 HO_6 HO_7 HO_24 dQ jD jQ rH HB; intro HO_5 HO_6 HO_7 HO_24 dQ jD jQ rH He HB; (try clear hb); (try clear hkp); (try clear ho0); (try clear hy0)) | ((with_reducible refine aC (N := 13) rfl ?_); refine dN (cs := #[.int .i64 0, .int .i64 0, .int .i64 0]) (t := 54) ?_; intro oJ hg w47 hbox hb; refine E17 (sB HO_5.1 hb) (rB HO_6.1 hb) (rB HO_7.1 hb) (rB HO_24.1 hb) (rB jD.1 hb) (rB rH.1 hb) (rB He.1 hb) (bB dQ.1 hb) (bB jQ.1 hb) (bS HB.1 hb) (hbox) (gX HB.1 hg) (gX HB.1 hg) (nB dQ.1 hg) (nC dQ.1 hg) (nB jQ.1 hg) (nC jQ.1 hg) ?_; clear HO_5 HO_6 HO_7 HO_24 jD rH He dQ jQ HB; intro HO_5 HO_6 HO_7 HO_24 jD rH He dQ jQ HB vP aNd aNe NI Zn NJ Zo; clear hb hbox hg; have avJ := Zn.1; have avK := NI.1; have aNf := Zo.1; have aNg := NJ.1; obtain ⟨aDc, aDd, aDe, aDf, aDg, aDh⟩ := gB vP.1) | ((with_reducible refine gK (t := 54) (p := 13) rfl ?_); refine lX (t := 54) (p := 13) (w1 := (((w47.setCell ⟨oJ, 0, none⟩ (.int .i64 LQ)).setCell ⟨oJ, 1, none⟩ (.int .i64 tK)).setCell ⟨oJ, 2, none⟩ (.int .i64 aqA))) ?_; intro WV hw; have AV : aa (Kd.S (Kd.slice 3 (Kd.int .i64)) 38 WV w.heap.size (fun k_ => some k_ ≠ (.slice P5 zI.length ML : Value).ownBlock /\ some k_ ≠ (.slice F6 rX.length DV : Value).ownBlock /\ some k_ ≠ (U2 : Value).ownBlock) (.slice ayR zP.length ayS) zP) := ⟨(by rw [hw]; exact (by (with_reducible repeat (first | apply jF | apply jG | apply iV)); exact eY (SQ oJ 2 (SQ oJ 1 (SQ oJ 0 (kG HO_5.1 vP.1 (by decide)) _) _) _) (fun _ hk => ⟨hk.1.1, ⟨hk.1.2.1, hk.1.2.2⟩⟩)))⟩; have AX : aa (Kd.R (Kd.int .i64) 3 WV w.heap.size (fun k_ => some k_ ≠ (.slice F6 rX.length DV : Value).ownBlock /\ some k_ ≠ (U2 : Value).ownBlock) (.slice P5 zI.length ML) zI) := ⟨(by rw [hw]; exact (by (with_reducible repeat (first | apply aV | apply aW | apply aQ)); exact aG (RQ oJ 2 (RQ oJ 1 (RQ oJ 0 (bz HO_6.1 vP.1 (by decide)) _) _) _) (fun _ hk => ⟨hk.1.1, hk.1.2⟩)))⟩; have AY : aa (Kd.R Kd.bool 95 WV w.heap.size (fun k_ => some k_ ≠ (.slice (some Eh) yx.length wP : Value).ownBlock) LP lF) := ⟨(by rw [hw]; exact (by (with_reducible repeat (first | apply aV | apply aW | apply aQ)); exact aG (RQ oJ 2 (RQ oJ 1 (RQ oJ 0 (bz HO_7.1 vP.1 (by decide)) _) _) _) (fun _ hk => hk.1)))⟩; have AZ : aa (Kd.R Kd.bool 4 WV w.heap.size (fun k_ => some k_ ≠ (LP : Value).ownBlock) (.slice (some Eh) yx.length wP) yx) := ⟨(by rw [hw]; exact (by (with_reducible repeat (first | apply aV | apply aW | apply aQ)); exact aG (RQ oJ 2 (RQ oJ 1 (RQ oJ 0 (bz HO_24.1 vP.1 (by decide)) _) _) _) (fun _ hk => hk.1)))⟩; have Ed : aa (Kd.R jZ 83 WV w.heap.size (fun _ => True) (.slice Iz DY.length IA) ayO) := ⟨(by rw [hw]; exact (by (with_reducible repeat (first | apply aV | apply aW | apply aQ)); exact aG (RQ oJ 2 (RQ oJ 1 (RQ oJ 0 (bz jD.1 vP.1 (by decide)) _) _) _) (fun _ hk => trivial)))⟩; have Ee : aa (Kd.R (Kd.int .i64) 3 WV w.heap.size (fun k_ => some k_ ≠ (.slice P5 zI.length ML : Value).ownBlock /\ some k_ ≠ (U2 : Value).ownBlock) (.slice F6 rX.length DV) rX) := ⟨(by rw [hw]; exact (by (with_reducible repeat (first | apply aV | apply aW | apply aQ)); exact aG (RQ oJ 2 (RQ oJ 1 (RQ oJ 0 (bz rH.1 vP.1 (by decide)) _) _) _) (fun _ hk => ⟨hk.1.1, hk.1.2⟩)))⟩; have Lt : aa (Kd.R (Kd.int .i64) 3 WV w.heap.size (fun k_ => some k_ ≠ (.slice P5 zI.length ML : Value).ownBlock /\ some k_ ≠ (.slice F6 rX.length DV : Value).ownBlock) U2 ayN) := ⟨(by rw [hw]; exact (by (with_reducible repeat (first | apply aV | apply aW | apply aQ)); exact aG (RQ oJ 2 (RQ oJ 1 (RQ oJ 0 (bz He.1 vP.1 (by decide)) _) _) _) (fun _ hk => ⟨hk.1.1, hk.1.2⟩)))⟩; have RA : aa (WV.heap[IE]? = some (.cells #[.int .i64 ah, .int .i64 af, .slice aK ae.length aJ] 30 (0, 0))) := ⟨(by rw [hw]; exact (xB NI.1 dQ.1))⟩; have n8_ : aa (WV.heap[nW]? = some (.cells #[.int .i64 Jk, .int .i64 xD, .slice Iz DY.length IA] 30 (0, 0))) := ⟨(by rw [hw]; exact (xB NJ.1 jQ.1))⟩; have n9_ : aa (WV.heap[oJ]? = some (.cells #[.int .i64 LQ, .int .i64 tK, .int .i64 aqA] 54 (0, 0))) := ⟨(by rw [hw]; exact (BB vP.1))⟩; have RS : aa (Below w.heap.size w WV) := ⟨(by rw [hw]; exact (BL HB.1))⟩; clear hw; clear HO_5; clear HO_6; clear HO_7; clear HO_24; clear jD; clear rH; clear He; clear dQ; clear jQ; clear vP; clear HB; have HO_5 := AV; have HO_6 := AX; have HO_7 := AY; have HO_24 := AZ; have jD := Ed; have rH := Ee; have He := Lt; have dQ := RA; have jQ := n8_; have vP := n9_; have HB := RS; clear AV AX AY AZ Ed Ee Lt RA n8_ n9_ RS; obtain ⟨aDi, aDj, aDk, aDl, aDm, aDn⟩ := gB vP.1; have p31 : 0 <= (LQ : Int) := OD; have q31 : (LQ : Int) < ((lF.length : Int) : Int) := OD; have Zp : (LQ : Int) < 4 := adH HV.1 HO_7.1 q31; have q4a_ := eq_true Zp; have q4b_ := decide_eq_true Zp; have p4b_ := decide_eq_true p31; clear Zp; obtain ⟨LU, mg, Mm, ayU, aIl, aRe, ayV⟩ := mQ HO_7.1 (by omega); (first | cases Mm | (injection Mm with ea_ en_ ec_; (first | subst ea_ | (injection ea_ with ea_; subst ea_)); subst ec_; clear en_)); obtain rfl : LU = gA := ayK HV.1; have aIm := aa.mk ayU; have aRf := aa.mk ayV; clear ayU aIl ayV; obtain ⟨aIn, aIo⟩ := lC false HO_7.1 (LQ : Int) p31 q31; replace p31 := eq_true p31; replace q31 := eq_true q31; obtain ⟨aNh, aNi⟩ := lC false HO_7.1 (LQ : Int) (OD) (OD); have K6 := qV HO_7.1 (LQ : Int) true) | ((with_reducible refine gK (t := 4) (p := 57) rfl ?_); refine lX (t := 4) (p := 57) (w1 := (WV.setCell ⟨LU, (LQ : Int).toNat, none⟩ (.bool true))) ?_; intro w54 hw; have hg : WV.grownBy w54 (some LU) := (by rw [hw]; exact K6.2); have hp_ : Kd.R Kd.bool 95 w54 w.heap.size (fun k_ => some k_ ≠ (.slice (some Eh) yx.length wP : Value).ownBlock) (.slice (some ⟨LU, 0, none⟩) lF.length mg) ayP := (by rw [hw, ayQ.1]; exact K6.1); clear K6; refine E11 (Js (v := (.slice (some ⟨LU, 0, none⟩) lF.length mg)) (PS HO_5.1) (dY HO_7.1) (by decide) hg) (kF (v := (.slice (some ⟨LU, 0, none⟩) lF.length mg)) (PR HO_6.1) (dY HO_7.1) (by decide) hg) (hp_) (iX (v := (.slice (some ⟨LU, 0, none⟩) lF.length mg)) (v1 := (.slice (some ⟨LU, 0, none⟩) lF.length mg)) (ok := (fun _ => True)) (pm (aG HO_24.1 (fun _ hk => ⟨trivial, hk⟩))) hg (.inl rfl)) (bG dQ.1 hg (dK HO_7.1 dQ.1 (by decide))) (kF (v := (.slice (some ⟨LU, 0, none⟩) lF.length mg)) (PR jD.1) (dY HO_7.1) (by decide) hg) (bG jQ.1 hg (dK HO_7.1 jQ.1 (by decide))) (kF (v := (.slice (some ⟨LU, 0, none⟩) lF.length mg)) (PR rH.1) (dY HO_7.1) (by decide) hg) (kF (v := (.slice (some ⟨LU, 0, none⟩) lF.length mg)) (PR He.1) (dY HO_7.1) (by decide) hg) (bG vP.1 hg (dK HO_7.1 vP.1 (by decide))) ((by rw [hw]; exact il (HB.1) aIm.1 : Below w.heap.size w w54)) ?_; clear HO_5 HO_6 HO_7 HO_24 dQ jD jQ rH He vP HB; intro HO_5 HO_6 HO_7 HO_24 dQ jD jQ rH He vP HB; clear hg hw hp_))
       (try simp only [<- oU])
       go_roundg k2
       case measure => have := iB.1; have := nG.1; omega
       case rel => exact ⟨(ayP), (yx), (wrap64 (Hd + 1)), RG, H', ⟨by have := iB.1; have := nG.1; omega⟩, ⟨by (try simp only [jw]); (try simp only [oU]); (with_reducible repeat (first | apply jF | apply jG | apply iV)); exact eY HO_5.1 (fun _ hk => hk.1)⟩, ⟨by (try simp only [jw]); (try simp only [oU]); (with_reducible repeat (first | apply aV | apply aW | apply aQ)); exact aG HO_6.1 (fun _ hk => trivial)⟩, ⟨MZ HO_7.1 jw oU⟩, ⟨by (try simp only [jw]); (try simp only [oU]); (with_reducible repeat (first | apply aV | apply aW | apply aQ)); exact aG HO_24.1 (fun _ hk => hk.2)⟩, ⟨HY dQ.1 jw oU⟩, ⟨BL HB.1⟩⟩
     have H' := aa.mk H
     clear H
     go_wp2
     (try simp only [<- jw, <- oU])
     go_roundg k2
     case measure => have := iB.1; have := nG.1; omega
     case rel => exact ⟨(lF), (yx), (wrap64 (tH + 1)), RG, H', ⟨by have := iB.1; have := nG.1; omega⟩, ⟨PS2 HO_5.1 jw oU⟩, ⟨MZ HO_6.1 jw oU⟩, ⟨MZ HO_7.1 jw oU⟩, ⟨MZ HO_24.1 jw oU⟩, ⟨HY dQ.1 jw oU⟩, ⟨BL HB.1⟩⟩
   have H' := aa.mk H
   clear H
   have Sl : 0 <= (tH : Int) := OD
   have Sm : tH < (BH.length : Int) := OD
   obtain ⟨Eh, aqz, Kq⟩ := Kd.Jo (ay HO_24.1).2.2 tH Sl Sm
   (try rw [<- al1.1] at Kq)
   cases aqz
   replace Sl := eq_true Sl
   replace Sm := eq_true Sm
   go_wp2
   (try simp only [<- jw])
   go_roundg k1
   case measure => have := iB.1; omega
   case rel => exact ⟨(qa), (BH), (wrap64 (tH + 1)), RG, H', ⟨by have := iB.1; omega⟩, ⟨PS1 HO_5.1 jw⟩, ⟨ER HO_6.1 jw⟩, ⟨ER HO_7.1 jw⟩, ⟨ER HO_24.1 jw⟩, ⟨Er dQ.1 jw⟩, ⟨BL HB.1⟩⟩
 rw [jw] at c17b0
 generalize al3 : ((([] : List Int)) : List Int) = aIp at H
 have al4 := aa.mk al3.symm; clear al3
 have H' := aa.mk H
 clear H
 go_wp2_with (first | ((with_reducible refine aC (N := 60) rfl ?_); refine qh (Kd.int .i64) _ 3 ?hg (N := 60) ?hd (xs := ([] : List Int)) (inner := []) (ok := fun _ => True) (okp := fun _ => True) ?hr ?hp (fun _ hk => hk) trivial (Below.refl _ _) (Nat.le_refl _) (by simp) ?_; (case hd => rfl); (case hg => rfl); (case hr => first | (go_simp; done) | (go_simp; rfl)); (case hp => exact (fK.none _ _)); intro aRg w55 DU hb hg_ hnew_; clear hg_ hnew_; (first | rw [<- al4.1] at DU | (simp only [Int.reduceToNat] at DU; rw [<- al4.1] at DU)); refine E7 (kW (PS HO_5.1) (fe DU) hb) (eT (PR HO_6.1) (fe DU) hb) (rB HO_7.1 hb) (rB HO_24.1 hb) (bN (iI DU (iL (PR HO_6.1))) (bZ HB.1)) (bB dQ.1 hb) (bS HB.1 hb) ?_; clear HO_5 HO_6 HO_7 HO_24 dQ HB; intro HO_5 HO_6 HO_7 HO_24 ayW dQ HB; clear hb DU))
 go_loopg [15, 16] k1 (fun kq v15 v16 w' => ∃ (Hf : List Int) (rJ : Int), v16 = .int .i64 rJ /\ aa (bi.l2 kq qa Hf rJ = some r) /\ aa (kq <= k1) /\ aa (Kd.R Kd.bool 95 w' w.heap.size (fun _ => True) LP qa) /\ aa (Kd.R (Kd.int .i64) 3 w' w.heap.size (fun _ => True) v15 Hf) /\ aa (w'.heap[IE]? = some (.cells #[.int .i64 ah, .int .i64 af, (.slice aK ae.length aJ)] 30 (0, 0))) /\ aa (Below w.heap.size w w'))
 case atStart => exact ⟨(aIp), (1), RG, H', ⟨Nat.le_refl _⟩, ⟨by (try simp only [jw]); (with_reducible repeat (first | apply aV | apply aW | apply aQ)); exact aG HO_7.1 (fun _ hk => trivial)⟩, ⟨by (try simp only [jw]); (with_reducible repeat (first | apply aV | apply aW | apply aQ)); exact aG ayW.1 (fun _ hk => trivial)⟩, ⟨Er dQ.1 jw⟩, ⟨BL HB.1⟩⟩
 clear H'
 obtain ⟨Hf, rJ, rfl, HA, nG, HO_7, HO_15, dQ, HB⟩ := hrel
 cases gk with
 | zero => exact absurd HA.1 (by simp [bi.l2])
 | succ k2 => ?_
 have H := HA.1
 clear HA
 simp only [bi.l2] at H
 replace H := pu H; rcases H with ⟨c57b0, H⟩ | ⟨c57b0, H⟩
 · replace H := ji H; obtain ⟨c58b0, H⟩ := H
   replace H := ji H; obtain ⟨c59b0, H⟩ := H
   obtain ⟨aIq, adK⟩ : ∃ b_ : Bool, b_ = (Eu false qa rJ) := ⟨_, rfl⟩
   replace H : (if aIq = true then (if Hf.length < 17592186044416 then (bi.l2 k2 qa (Hf ++ [rJ]) (wrap64 (rJ + 1))) else (none)) else (bi.l2 k2 qa Hf (wrap64 (rJ + 1)))) = some r := by rw [<- adK] at H; exact H
   have al5 := aa.mk adK
   clear adK
   replace H := Cm H; rcases H with ⟨rfl, H⟩ | ⟨rfl, H⟩
   · replace H := oC H; obtain ⟨c62, H⟩ := H
     have ayX := aa.mk c62
     clear c62
     generalize al6 : ((Hf ++ [rJ]) : List Int) = aIr at H
     have ayY := aa.mk al6.symm; clear al6
     have H' := aa.mk H
     clear H
     have P7 : 0 <= (rJ : Int) := OD
     have adL : rJ < (qa.length : Int) := OD
     have Zp : rJ < 4 := adH HV.1 HO_7.1 adL
     obtain ⟨P8, ahC⟩ := alZ HV.1 HO_7.1 rJ P7 Zp
     rw [<- al5.1] at P8
     have q4a_ := eq_true Zp
     have q4b_ := decide_eq_true Zp
     have p4b_ := decide_eq_true P7
     replace P7 := eq_true P7
     clear Zp adL
     go_wp2_with (first | ((with_reducible refine bf (b := .append) (xs := #[.tmp 68, .tmp 70]) rfl ?_); at_builtin; refine ek (Kd.int .i64) (w0 := w) w.heap.size rfl (.tmp 68) (.tmp 70) 38 3 (.int .i64 0) 8 rfl Try.underlying38 info3 rfl (by decide) (by omega) u15 Hf rJ [.int .i64 rJ] (fun _ => True) (fun _ => False) rfl rfl ?aP (fun _ hk => hk.elim) ?aF ?aO ?aB ?aS ?aL ?_; (case aP => exact rfl); (case aB => exact (BL HB.1)); (case aF => exact (fun _ _ => trivial)); (case aO => exact (PR HO_15.1)); (case aS => exact (bZ HB.1)); (case aL => have := ayX.1; omega); intro aRh w64 ho hb hg hat; rw [<- ayY.1] at ho; refine E4 (kF (PR HO_7.1) (dY (PR HO_15.1)) (by decide) hg) (bG dQ.1 hg (dK HO_15.1 dQ.1 (by decide))) (hb) (ho) ?_; clear HO_7 dQ HB HO_15; intro HO_7 dQ HB ayZ; clear ho hb hg hat))
     go_roundg k2
     case measure => have := iB.1; have := nG.1; omega
     case rel => exact ⟨(aIr), (wrap64 (rJ + 1)), RG, H', ⟨by have := iB.1; have := nG.1; omega⟩, ⟨ER HO_7.1 jw⟩, ⟨ER ayZ.1 jw⟩, ⟨Er dQ.1 jw⟩, ⟨BL HB.1⟩⟩
   have H' := aa.mk H
   clear H
   have P7 : 0 <= (rJ : Int) := OD
   have adL : rJ < (qa.length : Int) := OD
   have Zp : rJ < 4 := adH HV.1 HO_7.1 adL
   obtain ⟨P8, ahC⟩ := alZ HV.1 HO_7.1 rJ P7 Zp
   rw [<- al5.1] at P8
   have q4a_ := eq_true Zp
   have q4b_ := decide_eq_true Zp
   have p4b_ := decide_eq_true P7
   replace P7 := eq_true P7
   clear Zp adL
   go_wp2
   go_roundg k2
   case measure => have := iB.1; have := nG.1; omega
   case rel => exact ⟨(Hf), (wrap64 (rJ + 1)), RG, H', ⟨by have := iB.1; have := nG.1; omega⟩, ⟨ER HO_7.1 jw⟩, ⟨ER HO_15.1 jw⟩, ⟨Er dQ.1 jw⟩, ⟨BL HB.1⟩⟩
 obtain rfl := Option.some.inj H
 go_wp2
 go_ret
 exact ⟨_, RF, pm (HO_15.1), BL HB.1⟩
end Go.Proofs.Ytbpfdbjnnlmdjaa.P
