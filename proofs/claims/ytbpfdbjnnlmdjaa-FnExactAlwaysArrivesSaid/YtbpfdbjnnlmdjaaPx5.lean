--MINI
import Derived.Test.YtbpfdbjnnlmdjaaPx0
import Derived.Test.YtbpfdbjnnlmdjaaPx4
import Derived.Test.YtbpfdbjnnlmdjaaMapW
namespace Go.Proofs.Ytbpfdbjnnlmdjaa.P
open Go.RowKit Go.Proofs.YtbpfdbjnnlmdjaaW.PrintWords Go.Proofs.YtbpfdbjnnlmdjaaW.PrintLast Go.Proofs.YtbpfdbjnnlmdjaaW.PrintMore
attribute [local go_sem] rQ rR vR vS pO pQ rT rU
set_option linter.unusedVariables false
set_option linter.unusedSimpArgs false
set_option maxHeartbeats 8000000
set_option maxRecDepth 100000
open Kd
def bn.l0 : Nat -> List Int -> List (List Int) -> List (fq) -> Int -> Int -> List (Int × Int) -> Option ((List (List Int)))
 | 0, _, _, _, _, _, _ => none
 | k + 1, x3, x5, Mg, HZ, xC, xm => if xC < HZ then (if 0 <= xC then (if xC < (Mg.length : Int) then (if ((aj Mg xC).f0) = 3 then (if x5.length < 5864062014805 then (bn.l0 k x3 (x5 ++ [(([xC] : List Int))]) Mg HZ (wrap64 (xC + 1)) xm) else (none)) else (if ((aj Mg xC).f0) = 6 then (if xC < (x3.length : Int) then (if wrap64 (rd x3 xC) = (rd x3 xC) then (if Gx xm (rd x3 xC) = true then (if 0 <= (pK xm (rd x3 xC)) then (if (pK xm (rd x3 xC)) < (x5.length : Int) then (if (aT x5 (pK xm (rd x3 xC))).length < 17592186044416 then (bn.l0 k x3 (x5.set ((pK xm (rd x3 xC)) : Int).toNat ((aT x5 (pK xm (rd x3 xC))) ++ [xC])) Mg HZ (wrap64 (xC + 1)) xm) else (none)) else (none)) else (none)) else (if xm.length < 17592186044416 then (if x5.length < 5864062014805 then ((some (x5 ++ [[]] : List (List Int))).bind fun xH => (if 0 <= (x5.length : Int) then (if (x5.length : Int) < (xH.length : Int) then (if (aT xH (x5.length : Int)).length < 17592186044416 then (bn.l0 k x3 (xH.set ((x5.length : Int) : Int).toNat ((aT xH (x5.length : Int)) ++ [xC])) Mg HZ (wrap64 (xC + 1)) (((rd x3 xC), (x5.length : Int)) :: xm)) else (none)) else (none)) else (none))) else (none)) else (none))) else (none)) else (none)) else (bn.l0 k x3 x5 Mg HZ (wrap64 (xC + 1)) xm))) else (none)) else (none)) else (some x5)
def bn.f (k : Nat) (ah : Int) (af : Int) (ae : List (fq)) : Option ((List (List Int))) := (av.f k ah af ae).bind fun mM => (bn.l0 k mM (([] : List (List Int))) ae (ae.length : Int) 0 ([] : List (Int × Int)))
theorem bn.mono_l : ∀ k, (∀ y0 y1 y2 y3 y4 y5, dO (bn.l0 k y0 y1 y2 y3 y4 y5) (bn.l0 (k + 1) y0 y1 y2 y3 y4 y5))
 | 0 => fun _ _ _ _ _ _ r h => by simp [bn.l0] at h
 | k + 1 => by
  have ja := bn.mono_l k
  intros
  first | unfold bn.l0
  exact Qj ja av.mono
theorem bn.mono : ∀ a0 a1 a2 k, dO (bn.f k a0 a1 a2) (bn.f (k + 1) a0 a1 a2) := by
 intro a0 a1 a2 k
 have ja := bn.mono_l k
 unfold bn.f
 exact Qj ja av.mono
theorem bn.zero3 (w : World) : (zeroValue 3).run Try.prog w = .ok (.int .i64 0) w := by kernel_rfl
theorem bn.calls (k : Nat) (ah : Int) (af : Int) (aK : Option Addr) (aJ : Nat) (ae : List (fq)) (r : List (List Int)) (w : World) (dH : Kd.C jZ w aK ae.length ae) (dG : ae.length <= aJ) (h : bn.f k ah af ae = some r) :
 Calls Try.prog 61 #[.agg #[.int .i64 ah, .int .i64 af, .slice aK ae.length aJ]] w fun e w' => ∃ rO : Value, e = .returned (rO) /\ Kd.S (Kd.slice 3 (Kd.int .i64)) 38 w' w.heap.size (fun _ => True) rO r /\ Below w.heap.size w w' := by
 have nH := Try.underlying30
 have xE := Try.underlying83
 have bD := aa.mk dH
 have cO := aa.mk dG
 clear dH dG
 have HB := aa.mk (Below.refl w.heap.size w)
 have H := h
 clear h
 unfold bn.f at H
 replace H := dz H; obtain ⟨mM, A2, H⟩ := H
 generalize akR : ((([] : List (List Int))) : List (List Int)) = aGF at H
 have akS := aa.mk akR.symm; clear akR
 have H' := aa.mk H
 clear H
 go_enter Try.func61, Try.ntmps61
 go_wp2_with (first | ((with_reducible refine aC (N := 1) rfl ?_); refine dN (cs := #[.int .i64 ah, .int .i64 af, .slice aK ae.length aJ]) (t := 30) ?_; intro WY hg w3 hbox hb; refine mJ HB.1 hg hbox hb ?_; clear HB; intro HB gq aL4 aL5; clear hb hbox hg; obtain ⟨Ao, Ap, K7, Aq, Ar, K8⟩ := gB gq.1) | ((with_reducible refine aA (f := 74) rfl ?_); refine cK (N := (some 11)) #[.agg #[.int .i64 ah, .int .i64 af, .slice aK ae.length aJ]] Try.func74 ?_; (with_reducible refine (av.calls k ah af _ _ ae mM _ ?side1 ?side2 A2.1).mono ?_); (case side1 => exact CB (aY bD.1 HB.1)); (case side2 => exact cO.1); rintro e w5 ⟨UA, rfl, ho0, hb⟩; refine ⟨_, rfl, ?_⟩; refine E3 (bN ho0 (bZ HB.1)) (bB gq.1 hb) (bS HB.1 hb) ?_; clear gq HB; intro IW gq HB; (try clear hb); (try clear ho0)) | ((with_reducible refine aC (N := 12) rfl ?_); refine Zf ?hg (N := 12) ?hd ?hr ?_; (case hd => rfl); (case hg => rfl); (case hr => first | (go_simp; done) | (go_simp; rfl) | rfl); intro Ef hg w6 hbox hb; have AV := aa.mk (rB IW.1 hb); have AX := aa.mk (bB gq.1 hb); have AY := aa.mk (bS HB.1 hb); have AZ := aa.mk (hbox); have Ed := aa.mk (gX HB.1 hg); have Ee := aa.mk (gX HB.1 hg); have Lt := aa.mk (nB gq.1 hg); have RA := aa.mk (nC gq.1 hg); clear IW; clear gq; clear HB; have IW := AV; have gq := AX; have HB := AY; have qL : aa (Lv Try.prog 3 (.map #[] 0) []) := ⟨Zg _ _⟩; have gD := AZ; have aL6 := Ed; have awE := Ee; have Dq := Lt; have Im := RA; clear AV AX AY AZ Ed Ee Lt RA; clear hb hbox hg; have aaD := Dq.1; have aaE := Im.1; obtain ⟨lZ, l5, mR, l6, l7, mU⟩ := gB gq.1) | ((with_reducible refine aC (N := 13) rfl ?_); refine aio (Kd.slice 3 (Kd.int .i64)) _ 38 ?hg (N := 13) ?hd (xs := ([] : List (List Int))) (inner := []) (ok := fun _ => True) (okp := fun _ => True) ?hr ?hp (fun _ hk => hk) trivial (Below.refl _ _) (Nat.le_refl _) (by simp) ?_; (case hd => rfl); (case hg => rfl); (case hr => first | (go_simp; done) | (go_simp; rfl)); (case hp => exact (fK.none _ _)); intro aP3 Hw acV hb hg_ hnew_; clear hg_ hnew_; (first | rw [<- akS.1] at acV | (simp only [Int.reduceToNat] at acV; rw [<- akS.1] at acV)); refine E5 (rB IW.1 hb) (lN (BV acV (iL (PR IW.1))) (bZ HB.1)) (bB gq.1 hb) (bB gD.1 hb) (bS HB.1 hb) ?_; clear IW gq gD HB; intro IW awF gq gD HB; clear hb acV; obtain ⟨vT, vU, xI, vV, vW, xJ⟩ := gB gq.1))
 go_loopg [5, 17] k (fun kq v5 v17 w' => ∃ (bq : List (List Int)) (eB : Int) (xm_1 : List (Int × Int)) (om_1 : Obj), v17 = .int .i64 eB /\ aa (bn.l0 kq mM bq ae (ae.length : Int) eB xm_1 = some r) /\ aa (kq <= k) /\ aa (Kd.R (Kd.int .i64) 3 w' w.heap.size (fun _ => True) UA mM) /\ aa (Kd.S (Kd.slice 3 (Kd.int .i64)) 38 w' w.heap.size (fun k_ => some k_ ≠ (UA : Value).ownBlock) v5 bq) /\ aa (w'.heap[WY]? = some (.cells #[.int .i64 ah, .int .i64 af, (.slice aK ae.length aJ)] 30 (0, 0))) /\ aa (w'.heap[Ef]? = some om_1) /\ aa (Lv Try.prog 3 om_1 xm_1) /\ aa (Below w.heap.size w w'))
 case atStart => exact ⟨(aGF), (0), ([]), (.map #[] 0), RG, H', ⟨Nat.le_refl _⟩, ⟨PR IW.1⟩, ⟨ES (eY awF.1 (fun _ hk => hk.2))⟩, ⟨PB gq.1⟩, ⟨PB gD.1⟩, qL, ⟨BL HB.1⟩⟩
 clear H'
 clear vT vU xI Ao Ap K7 lZ l5 mR vV vW xJ Aq Ar K8 l6 l7 mU
 obtain ⟨bq, eB, xm_1, om_1, rfl, HA, iB, HO_3, HO_5, gq, gD, qL, HB⟩ := hrel
 cases gk with
 | zero => exact absurd HA.1 (by simp [bn.l0])
 | succ k1 => ?_
 have H := HA.1
 clear HA
 simp only [bn.l0] at H
 replace H := pu H; rcases H with ⟨c13b0, H⟩ | ⟨c13b0, H⟩
 · replace H := ji H; obtain ⟨c14b0, H⟩ := H
   replace H := ji H; obtain ⟨c15b0, H⟩ := H
   replace H := oP H; rcases H with ⟨c16, H⟩ | ⟨c16, H⟩
   · have c16b0 := beq_iff_eq.mpr c16
     have c16b1 := bne_eq_false_iff_eq.mpr c16
     clear c16
     generalize akT : ((([eB] : List Int)) : List Int) = agQ at H
     have akU := aa.mk akT.symm; clear akT
     replace H := oC H; obtain ⟨c17, H⟩ := H
     have awG := aa.mk c17
     clear c17
     generalize akV : ((bq ++ [agQ]) : List (List Int)) = aGG at H
     have awH := aa.mk akV.symm; clear akV
     have H' := aa.mk H
     clear H
     have EJ : 0 <= (eB : Int) := OD
     have EK : eB < (ae.length : Int) := OD
     obtain ⟨NC, UB, oo, oq⟩ := iP bD.1 eB EJ EK
     cases UB
     replace oo := (HB.1.cell (World.block_lt_of_cell? w _ oo)).trans oo
     replace oq := (HB.1.cell (World.block_lt_of_cell? w _ oq)).trans oq
     replace EJ := eq_true EJ
     replace EK := eq_true EK
     go_wp2_with (first | ((with_reducible refine aC (N := 7) rfl ?_); refine dN (cs := #[.int .i64 0, .int .i64 0]) (t := 83) ?_; intro lV hg w18 hbox hb; refine E12 (rB HO_3.1 hb) (sB HO_5.1 hb) (bB gq.1 hb) (bB gD.1 hb) (bS HB.1 hb) (hbox) (gX HB.1 hg) (gX HB.1 hg) (nB gq.1 hg) (nC gq.1 hg) (nB gD.1 hg) (nC gD.1 hg) ?_; clear HO_3 HO_5 gq gD HB; intro HO_3 HO_5 gq gD HB jh acW acX mW uz iy rC; clear hb hbox hg; have ajk := uz.1; have ajl := mW.1; have auz := rC.1; have auA := iy.1; obtain ⟨uJ, uK, uL, uM⟩ := nO jh.1) | ((with_reducible refine aC (N := 39) rfl ?_); refine Bd (b := Ef) (om := om_1) (mm := xm_1) rfl (.tmp 34) (.tmp 38) 92 3 rfl Try.underlying92 Try.underlying3 ?hz (by first | exact gD.1 | (refine lW ?_ iy.1 _; refine lW ?_ iy.1 _; exact gD.1)) qL.1 ?hm (rd mM eB) ?hx HKY.1 ?_; (case hz => exact bn.zero3 _); (case hm => rfl); (case hx => first | rfl | (go_simp; done) | (go_simp; rfl))) | ((with_reducible refine aC (N := 28) rfl ?_); refine qh (Kd.int .i64) _ 3 ?hg (N := 28) ?hd (xs := ([eB] : List Int)) (inner := [.int .i64 eB]) (ok := fun _ => True) (okp := fun _ => True) ?hr ?hp (fun _ hk => hk) trivial (Below.refl _ _) (Nat.le_refl _) (by simp) ?_; (case hd => rfl); (case hg => rfl); (case hr => first | (go_simp; done) | (go_simp; rfl)); (case hp => exact (fK.one (show Kd.M (Kd.int .i64) _ _ _ eB [.int .i64 eB] from rfl) (fK.none _ _))); intro aP4 BM UC hb hg_ hnew_; clear hg_ hnew_; (first | rw [<- akU.1] at UC | (simp only [Int.reduceToNat] at UC; rw [<- akU.1] at UC)); refine E7 (eT (by (with_reducible repeat (first | apply aV | apply aW | apply aQ)); exact (aG (RQ lV 1 (RQ lV 0 (bz HO_3.1 jh.1 (by decide)) _) _) (fun _ h_ => h_.1))) (fe UC) hb) (kW (by (with_reducible repeat (first | apply jF | apply jG | apply iV)); exact (eY (SQ lV 1 (SQ lV 0 (kG HO_5.1 jh.1 (by decide)) _) _) (fun _ h_ => h_.1))) (fe UC) hb) (bN (iI UC (iL (by (with_reducible repeat (first | apply aV | apply aW | apply aQ)); exact (aG (RQ lV 1 (RQ lV 0 (bz HO_3.1 jh.1 (by decide)) _) _) (fun _ h_ => h_.1))))) (bZ HB.1)) (dh (g := WY) (o := .cells #[.int .i64 ah, .int .i64 af, .slice (some NC) ae.length aJ] 30 (0, 0)) (xB mW.1 gq.1) hb) (dh (g := Ef) (o := om_1) (by (with_reducible repeat (first | refine ak ?_ _ | refine ag ?_ | refine au ?_ _)); refine lW ?_ iy.1 _; (with_reducible repeat (first | refine ak ?_ _ | refine ag ?_ | refine au ?_ _)); refine lW ?_ iy.1 _; (with_reducible repeat (first | refine ak ?_ _ | refine ag ?_ | refine au ?_ _)); exact gD.1) hb) (dh (g := lV) (o := .cells #[.int .i64 ((aj ae eB).f0), .int .i64 ((aj ae eB).f1)] 83 (0, 0)) (BB jh.1) hb) (bS HB.1 hb) ?_; clear HO_3 HO_5 gq gD jh HB; intro HO_3 HO_5 WZ gq gD jh HB; clear hb UC; obtain ⟨apc, apd, ape⟩ := bv WZ.1; subst ape) | ((with_reducible refine bf (b := .append) (xs := #[.tmp 26, .tmp 29]) rfl ?_); at_builtin; refine uV (Kd.slice 3 (Kd.int .i64)) (w0 := w) w.heap.size rfl (.tmp 26) (.tmp 29) 60 38 (.slice none 0 0) 24 rfl Try.underlying60 Ab rfl (by decide) (by omega) u5 bq agQ [.slice apc agQ.length apd] (fun k_ => some k_ ≠ (UA : Value).ownBlock) (fun k_ => some k_ = (.slice apc agQ.length apd : Value).ownBlock) rfl rfl ?aP (fun k_ hk_ => ((aG (ok' := fun k_ => ((fun k_ => some k_ ≠ (UA : Value).ownBlock)) k_ /\ some k_ ≠ (u5 : Value).ownBlock) (eH (WZ.1) (jW HO_5.1) (by decide)) (fun k_ hk => ⟨hk.1.2, hk.2⟩))).1 k_ hk_.symm) ?aF ?aO ?aB ?aS ?aL ?_; (case aP => exact BC (aG (jR rfl (aG (ok' := fun k_ => ((fun k_ => some k_ ≠ (UA : Value).ownBlock)) k_ /\ some k_ ≠ (u5 : Value).ownBlock) (eH (WZ.1) (jW HO_5.1) (by decide)) (fun k_ hk => ⟨hk.1.2, hk.2⟩))) (fun _ h_ => h_))); (case aB => exact (BL HB.1)); (case aF => exact (fun k_ hk => Kd.kX (iL (PR HO_3.1)) k_ hk)); (case aO => exact (ES (eY HO_5.1 (fun k_ hk => ⟨hk.1, fun e_ => hk.2 e_⟩)))); (case aS => exact (bZ HB.1)); (case aL => have := awG.1; omega); intro aP5 Mi ho hb hg hat; rw [<- awH.1] at ho; refine E6 (kF (PR HO_3.1) (jW (PS HO_5.1)) (by decide) hg) (bG gq.1 hg (xe HO_5.1 gq.1 (by decide))) (bG gD.1 hg (Io (Yd HO_5.1) gD.1 qL.1)) (bG jh.1 hg (xe HO_5.1 jh.1 (by decide))) (hb) (ho) ?_; clear HO_3 gq gD jh HB HO_5 WZ; intro HO_3 gq gD jh HB awI; clear ho hb hg hat))
     go_roundg k1
     case measure => have := iB.1; omega
     case rel => exact ⟨(aGG), (wrap64 (eB + 1)), (xm_1), (om_1), RG, H', ⟨by have := iB.1; omega⟩, ⟨pm (aG HO_3.1 (fun _ hk => trivial))⟩, ⟨PS awI.1⟩, ⟨PB gq.1⟩, ⟨PB gD.1⟩, qL, ⟨BL HB.1⟩⟩
   have c16b0 := beq_eq_false_iff_ne.mpr c16
   have c16b1 := bne_iff_ne.mpr c16
   replace H := oP H; rcases H with ⟨c26, H⟩ | ⟨c26, H⟩
   · have c26b0 := beq_iff_eq.mpr c26
     have c26b1 := bne_eq_false_iff_eq.mpr c26
     clear c26
     replace H := ji H; obtain ⟨c27b0, H⟩ := H
     have c_k : wrap64 (rd mM eB) = (rd mM eB) := by
      apply Classical.byContradiction; intro h_; rw [if_neg h_] at H; exact absurd H (by simp)
     rw [if_pos c_k] at H
     have HKY := aa.mk c_k
     clear c_k
     replace H := oP H; rcases H with ⟨c28, H⟩ | ⟨c28, H⟩
     · have c28b0 : Gx xm_1 (rd mM eB) = true := c28
       have c28b1 : (!Gx xm_1 (rd mM eB)) = false := by rw [c28]; rfl
       clear c28
       replace H := ji H; obtain ⟨c29b0, H⟩ := H
       replace H := ji H; obtain ⟨c30b0, H⟩ := H
       replace H := oC H; obtain ⟨c31, H⟩ := H
       have awJ := aa.mk c31
       clear c31
       generalize akW : (((aT bq (pK xm_1 (rd mM eB))) ++ [eB]) : List Int) = agR at H
       have awK := aa.mk akW.symm; clear akW
       generalize akX : ((bq.set ((pK xm_1 (rd mM eB)) : Int).toNat agR) : List (List Int)) = awL at H
       have awM := aa.mk akX.symm; clear akX
       have H' := aa.mk H
       clear H
       have EJ : 0 <= (eB : Int) := OD
       have EK : eB < (ae.length : Int) := OD
       obtain ⟨NC, UB, oo, oq⟩ := iP bD.1 eB EJ EK
       cases UB
       replace oo := (HB.1.cell (World.block_lt_of_cell? w _ oo)).trans oo
       replace oq := (HB.1.cell (World.block_lt_of_cell? w _ oq)).trans oq
       replace EJ := eq_true EJ
       replace EK := eq_true EK
       go_wp2_with (first | ((with_reducible refine aC (N := 7) rfl ?_); refine dN (cs := #[.int .i64 0, .int .i64 0]) (t := 83) ?_; intro lV hg w33 hbox hb; refine E12 (rB HO_3.1 hb) (sB HO_5.1 hb) (bB gq.1 hb) (bB gD.1 hb) (bS HB.1 hb) (hbox) (gX HB.1 hg) (gX HB.1 hg) (nB gq.1 hg) (nC gq.1 hg) (nB gD.1 hg) (nC gD.1 hg) ?_; clear HO_3 HO_5 gq gD HB; intro HO_3 HO_5 gq gD HB jh acW acX mW uz iy rC; clear hb hbox hg; have aL7 := uz.1; have aL8 := mW.1; have awN := rC.1; have awO := iy.1; obtain ⟨agS, agT, agU, agV⟩ := nO jh.1) | ((with_reducible refine aC (N := 39) rfl ?_); refine Bd (b := Ef) (om := om_1) (mm := xm_1) rfl (.tmp 34) (.tmp 38) 92 3 rfl Try.underlying92 Try.underlying3 ?hz (by first | exact gD.1 | (refine lW ?_ iy.1 _; refine lW ?_ iy.1 _; exact gD.1)) qL.1 ?hm (rd mM eB) ?hx HKY.1 ?_; (case hz => exact bn.zero3 _); (case hm => rfl); (case hx => first | rfl | (go_simp; done) | (go_simp; rfl))) | ((with_reducible refine gK (t := 83) (p := 7) rfl ?_); refine lX (t := 83) (p := 7) (w1 := ((w33.setCell ⟨lV, 0, none⟩ (.int .i64 ((aj ae eB).f0))).setCell ⟨lV, 1, none⟩ (.int .i64 ((aj ae eB).f1)))) ?_; intro Mw hw; have AV : aa (Kd.R (Kd.int .i64) 3 Mw w.heap.size (fun _ => True) UA mM) := ⟨(by rw [hw]; exact (by (with_reducible repeat (first | apply aV | apply aW | apply aQ)); exact aG (RQ lV 1 (RQ lV 0 (bz HO_3.1 jh.1 (by decide)) _) _) (fun _ hk => trivial)))⟩; have AX : aa (Kd.S (Kd.slice 3 (Kd.int .i64)) 38 Mw w.heap.size (fun k_ => some k_ ≠ (UA : Value).ownBlock) u5 bq) := ⟨(by rw [hw]; exact (by (with_reducible repeat (first | apply jF | apply jG | apply iV)); exact eY (SQ lV 1 (SQ lV 0 (kG HO_5.1 jh.1 (by decide)) _) _) (fun _ hk => hk.1)))⟩; have AY : aa (Mw.heap[WY]? = some (.cells #[.int .i64 ah, .int .i64 af, .slice (some NC) ae.length aJ] 30 (0, 0))) := ⟨(by rw [hw]; exact (xB mW.1 gq.1))⟩; have AZ : aa (Mw.heap[Ef]? = some om_1) := ⟨(by rw [hw]; exact (by (with_reducible repeat (first | refine ak ?_ _ | refine ag ?_ | refine au ?_ _)); refine lW ?_ iy.1 _; (with_reducible repeat (first | refine ak ?_ _ | refine ag ?_ | refine au ?_ _)); refine lW ?_ iy.1 _; (with_reducible repeat (first | refine ak ?_ _ | refine ag ?_ | refine au ?_ _)); exact gD.1))⟩; have Ed : aa (Mw.heap[lV]? = some (.cells #[.int .i64 ((aj ae eB).f0), .int .i64 ((aj ae eB).f1)] 83 (0, 0))) := ⟨(by rw [hw]; exact (BB jh.1))⟩; have Ee : aa (Below w.heap.size w Mw) := ⟨(by rw [hw]; exact (BL HB.1))⟩; clear hw; clear HO_3; clear HO_5; clear gq; clear gD; clear jh; clear HB; have HO_3 := AV; have HO_5 := AX; have gq := AY; have gD := AZ; have jh := Ed; have HB := Ee; clear AV AX AY AZ Ed Ee; obtain ⟨aBk, aBl, aBm, aBn⟩ := nO jh.1; obtain ⟨arX, aes, amE⟩ := bv HO_3.1; subst amE; have UD : 0 <= (eB : Int) := OD; have UE : eB < (mM.length : Int) := OD; obtain ⟨Ci, apf, Gy⟩ := Kd.dx (ay HO_3.1).2.2 eB UD UE; cases apf; replace UD := eq_true UD; replace UE := eq_true UE; have aL9 := Im.1; have aMa := Dq.1; obtain ⟨F6, DV, Ra⟩ := mq HO_5.1; subst Ra; have agW : 0 <= ((pK xm_1 (rd mM eB)) : Int) := OD; have agX : (pK xm_1 (rd mM eB)) < (bq.length : Int) := OD; obtain ⟨aMb, acY, acZ, aGI, Pp, W9, Xa⟩ := tT (fJ HO_5.1).2.2 (pK xm_1 (rd mM eB)) agW agX; cases aGI; obtain ⟨aMc, apg, aph, ac0⟩ := BF HO_5.1 [] (pK xm_1 (rd mM eB)) agW (by first | exact agX | exact OD | (have e_ := (fJ HO_5.1).1; omega)); obtain ⟨aBo, rfl, Pq⟩ := aph; have Gz := ac0 0 _ rfl; rw [Nat.add_zero, show ((Kd.slice 3 (Kd.int .i64))).sz = 1 from rfl, Nat.mul_one] at Gz; replace Gz := Option.some.inj (Gz.symm.trans Pp); rw [Gz] at Pq; have GA := aa.mk (show Kd.R (Kd.int .i64) 3 _ _ _ _ (aT bq (pK xm_1 (rd mM eB))) from Pq); clear Gz Pq; have agY := aa.mk Pp; clear ac0 apg; have aBp := aa.mk Xa; have aBq := aa.mk W9; clear Xa W9; replace agW := eq_true agW; replace agX := eq_true agX; obtain ⟨agZ, Yu, Yv, awP, aGJ, aP6, awQ⟩ := Ol HO_5.1 (by have h_ : ((pK xm_1 (rd mM eB)) : Int) < ((bq.length : Int) : Int) := OD; have qi : 0 <= ((pK xm_1 (rd mM eB)) : Int) := (OD); omega); (first | cases Yv | (injection Yv with ea_ en_ ec_; (first | subst ea_ | (injection ea_ with ea_; subst ea_)); subst ec_; clear en_)); have aGK := aa.mk awP; have aP7 := aa.mk awQ; clear awP aGJ awQ; (first | simp only [add_plain] at Pp | skip); obtain ⟨akY, aP8, awR, aGL, akZ, _, _, awS⟩ := KN HO_5.1 [] ((pK xm_1 (rd mM eB)) : Int) (OD) (by have h_ : ((pK xm_1 (rd mM eB)) : Int) < ((bq.length : Int) : Int) := OD; first | exact h_ | (have e_ := (fJ HO_5.1).1; omega) | simpa using h_); obtain ⟨aGM, rfl, ac1⟩ := aGL; have ac2 := akZ 0 _ rfl; have api := agY.1; (try simp only [add_plain] at api); (try simp only [Nat.add_zero] at ac2); (try rw [show ((Kd.slice 3 (Kd.int .i64))).sz = 1 from rfl, Nat.mul_one] at ac2); replace ac2 := Option.some.inj (ac2.symm.trans api); subst ac2; clear api akZ awR; have apj := aa.mk (show Kd.R (Kd.int .i64) 3 _ w.heap.size akY (.slice acY (aT bq (pK xm_1 (rd mM eB))).length acZ) (aT bq (pK xm_1 (rd mM eB))) from ac1); have UF := aa.mk awS; have apk := aa.mk (fJ HO_5.1).1; clear awS ac1) | ((with_reducible refine bf (b := .append) (xs := #[.tmp 60, .tmp 62]) rfl ?_); at_builtin; refine ek (Kd.int .i64) (w0 := w) w.heap.size rfl (.tmp 60) (.tmp 62) 38 3 (.int .i64 0) 8 rfl Try.underlying38 info3 rfl (by decide) (by omega) (.slice acY (aT bq (pK xm_1 (rd mM eB))).length acZ) (aT bq (pK xm_1 (rd mM eB))) eB [.int .i64 eB] (fun k_ => akY k_ ∨ ((fun k_ => some k_ ≠ (.slice (some Ci) mM.length aes : Value).ownBlock)) k_ /\ Mw.heap.size <= k_) (fun _ => False) rfl rfl ?aP (fun _ hk => hk.elim) ?aF ?aO ?aB ?aS ?aL ?_; (case aP => exact rfl); (case aB => exact (BL HB.1)); (case aF => exact (fun k_ hk => .inr ⟨Kd.kX (iL (PR HO_3.1)) k_ hk, hk⟩)); (case aO => exact (pm (aG apj.1 (fun _ hk => .inl hk)))); (case aS => exact (bZ HB.1)); (case aL => have := awJ.1; omega); intro aP9 w44 ho hb hg hat; rw [<- awK.1] at ho; refine E7 (FC (PR HO_3.1) rfl hg (fun k_ e_ => (GA.1.1 k_ e_).1)) (bG gq.1 hg (dK GA.1 gq.1 (by decide))) (bG gD.1 hg (Io GA.1 gD.1 qL.1)) (bG jh.1 hg (dK GA.1 jh.1 (by decide))) (hb) (Jt (Om (by repeat (first | exact UF.1 | refine Oq ?_ _ | refine Ot ?_ _ | refine Tu ?_))) hg (fun k_ e_ => .inl (apj.1.1 k_ e_))) (ho) ?_; clear HO_3 gq gD jh HB UF HO_5 apj GA; intro HO_3 gq gD jh HB UF ac3; clear ho hb hg hat; have p32 : 0 <= ((pK xm_1 (rd mM eB)) : Int) := OD; have q32 : ((pK xm_1 (rd mM eB)) : Int) < ((bq.length : Int) : Int) := OD; replace p32 := eq_true p32; replace q32 := eq_true q32; obtain ⟨YT, YU, aoC⟩ := bv ac3.1; subst aoC; obtain ⟨_, _, hraw45, _, _, Rx, _⟩ := QF UF.1 (OD) (by have h_ : ((pK xm_1 (rd mM eB)) : Int) < ((bq.length : Int) : Int) := OD; first | exact h_ | (have e_ := (apk.1); omega) | simpa using h_); obtain ⟨_, WU⟩ := am9 UF.1 (OD) (by have h_ : ((pK xm_1 (rd mM eB)) : Int) < ((bq.length : Int) : Int) := OD; first | exact h_ | (have e_ := (apk.1); omega) | simpa using h_); have UG := Rx 0 _ rfl; have UH := WU 0; (try simp only [Nat.add_zero] at UG UH); (try rw [show ((Kd.slice 3 (Kd.int .i64))).sz = 1 from rfl, Nat.mul_one] at UG); (try rw [show ((Kd.slice 3 (Kd.int .i64))).sz = 1 from rfl, Nat.mul_one] at UH); (try simp only [Go.IntWalk.toNatUp] at UG UH); have Ry := Tw UF.1 (OD) (by have h_ : ((pK xm_1 (rd mM eB)) : Int) < ((bq.length : Int) : Int) := OD; first | exact h_ | (have e_ := (apk.1); omega) | simpa using h_) (seg := [.slice YT agR.length YU]) (j := 0) (show 1 <= 1 from by decide) (x' := agR) (BC ac3.1) (fun _ hk => hk); (try simp only [show ((Kd.slice 3 (Kd.int .i64))).sz = 1 from rfl, Nat.mul_one, Nat.add_zero] at Ry); clear Rx WU) | ((with_reducible refine gK (t := 38) (p := 64) rfl ?_); refine lX (t := 38) (p := 64) (w1 := (w44.setCell ⟨agZ, ((pK xm_1 (rd mM eB)) : Int).toNat, none⟩ (.slice YT agR.length YU))) ?_; intro w46 hw; have hg : w44.grownBy w46 (some agZ) := (by rw [hw]; exact Ry.2); have hp_ : Kd.S (Kd.slice 3 (Kd.int .i64)) 38 w46 w.heap.size (fun k_ => some k_ ≠ (.slice (some Ci) mM.length aes : Value).ownBlock) (.slice (some ⟨agZ, 0, none⟩) bq.length DV) awL := (by rw [hw, awM.1]; exact Ry.1); clear Ry; refine E6 (kF (v := (.slice (some ⟨agZ, 0, none⟩) bq.length DV)) (PR HO_3.1) (dY hraw45) (by decide) hg) (bG gq.1 hg (dK hraw45 gq.1 (by decide))) (bG gD.1 hg (Io hraw45 gD.1 qL.1)) (bG jh.1 hg (dK hraw45 jh.1 (by decide))) ((by rw [hw]; exact il HB.1 aGK.1 : Below w.heap.size w w46)) (hp_) ?_; clear HO_3 gq gD jh HB ac3 UF; intro HO_3 gq gD jh HB HO_5; clear hg hw hp_ hraw45))
       go_roundg k1
       case measure => have := iB.1; omega
       case rel => exact ⟨(awL), (wrap64 (eB + 1)), (xm_1), (om_1), RG, H', ⟨by have := iB.1; omega⟩, ⟨PR HO_3.1⟩, ⟨PS HO_5.1⟩, ⟨PB gq.1⟩, ⟨PB gD.1⟩, qL, ⟨BL HB.1⟩⟩
     have c28b0 : Gx xm_1 (rd mM eB) = false := by simpa using c28
     have c28b1 : (!Gx xm_1 (rd mM eB)) = true := by rw [c28b0]; rfl
     have c_m : xm_1.length < 17592186044416 := by
      apply Classical.byContradiction; intro h_; rw [if_neg h_] at H; exact absurd H (by simp)
     rw [if_pos c_m] at H
     have HML := aa.mk c_m
     clear c_m
     replace H := oC H; obtain ⟨c48, H⟩ := H
     have ak0 := aa.mk c48
     clear c48
     replace H := nR H; obtain ⟨xH, awT, H⟩ := H
     replace H := oC H; obtain ⟨c49, H⟩ := H
     have c49b0 := decide_eq_true c49
     have c49b1 : decide (0 <= bq.length) = true := decide_eq_true (by omega)
     clear c49
     replace H := oC H; obtain ⟨c50, H⟩ := H
     have c50b0 := decide_eq_true c50
     have c50b1 : decide (bq.length < xH.length) = true := decide_eq_true (Int.ofNat_lt.mp c50)
     clear c50
     replace H := oC H; obtain ⟨c51, H⟩ := H
     have awU := aa.mk c51
     clear c51
     generalize ak1 : (((aT xH (bq.length : Int)) ++ [eB]) : List Int) = ag0 at H
     have awV := aa.mk ak1.symm; clear ak1
     generalize ak2 : ((xH.set ((bq.length : Int) : Int).toNat ag0) : List (List Int)) = awW at H
     have awX := aa.mk ak2.symm; clear ak2
     have H' := aa.mk H
     clear H
     have EJ : 0 <= (eB : Int) := OD
     have EK : eB < (ae.length : Int) := OD
     obtain ⟨NC, UB, oo, oq⟩ := iP bD.1 eB EJ EK
     cases UB
     replace oo := (HB.1.cell (World.block_lt_of_cell? w _ oo)).trans oo
     replace oq := (HB.1.cell (World.block_lt_of_cell? w _ oq)).trans oq
     replace EJ := eq_true EJ
     replace EK := eq_true EK
     go_wp2_with (first | ((with_reducible refine aC (N := 7) rfl ?_); refine dN (cs := #[.int .i64 0, .int .i64 0]) (t := 83) ?_; intro lV hg w53 hbox hb; refine E12 (rB HO_3.1 hb) (sB HO_5.1 hb) (bB gq.1 hb) (bB gD.1 hb) (bS HB.1 hb) (hbox) (gX HB.1 hg) (gX HB.1 hg) (nB gq.1 hg) (nC gq.1 hg) (nB gD.1 hg) (nC gD.1 hg) ?_; clear HO_3 HO_5 gq gD HB; intro HO_3 HO_5 gq gD HB jh acW acX mW uz iy rC; clear hb hbox hg; have avL := uz.1; have avM := mW.1; have aMe := rC.1; have aMf := iy.1; obtain ⟨agr, ags, agt, agu⟩ := nO jh.1; obtain ⟨SX, Mq, amJ⟩ := bv HO_3.1; subst amJ; have UD : 0 <= (eB : Int) := OD; have UE : eB < (mM.length : Int) := OD; obtain ⟨Ci, apf, Gy⟩ := Kd.dx (ay HO_3.1).2.2 eB UD UE; cases apf; have Kb : Ci.block ≠ lV := Kd.iY (dK HO_3.1 jh.1 (by decide)); have Ke : Ci.block ≠ lV := Kd.iY (dK HO_3.1 jh.1 (by decide)); replace Gy := (cell_far (p := ⟨lV, 0, none⟩) (by first | (rw [add_block]; exact Kb) | (show (Addr.add _ _).block ≠ _; rw [add_block]; exact Kb) | exact Kb) (.int .i64 ((aj ae eB).f0))).trans Gy; replace Gy := (cell_far (p := ⟨lV, 1, none⟩) (by first | (rw [add_block]; exact Ke) | (show (Addr.add _ _).block ≠ _; rw [add_block]; exact Ke) | exact Ke) (.int .i64 ((aj ae eB).f1))).trans Gy; clear Kb; clear Ke; replace UD := eq_true UD; replace UE := eq_true UE; have ar2 := Im.1; have ar3 := Dq.1; obtain ⟨agv, agw, ao6⟩ := mq HO_5.1; subst ao6; have apl : 0 <= (eB : Int) := OD; have apm : eB < (mM.length : Int) := OD; obtain ⟨awY, aGN, Kg⟩ := Kd.dx (ay HO_3.1).2.2 eB apl apm; obtain rfl : Ci = awY := (by injection aGN); have Kh : Ci.block ≠ lV := Kd.iY (dK HO_3.1 jh.1 (by decide)); have Ki : Ci.block ≠ lV := Kd.iY (dK HO_3.1 jh.1 (by decide)); replace Kg := (cell_far (p := ⟨lV, 0, none⟩) (by first | (rw [add_block]; exact Kh) | (show (Addr.add _ _).block ≠ _; rw [add_block]; exact Kh) | exact Kh) (.int .i64 ((aj ae eB).f0))).trans Kg; replace Kg := (cell_far (p := ⟨lV, 1, none⟩) (by first | (rw [add_block]; exact Ki) | (show (Addr.add _ _).block ≠ _; rw [add_block]; exact Ki) | exact Ki) (.int .i64 ((aj ae eB).f1))).trans Kg; clear Kh; clear Ki; replace apl := eq_true apl; replace apm := eq_true apm) | ((with_reducible refine aC (N := 39) rfl ?_); refine Bd (b := Ef) (om := om_1) (mm := xm_1) rfl (.tmp 34) (.tmp 38) 92 3 rfl Try.underlying92 Try.underlying3 ?hz (by first | exact gD.1 | (refine lW ?_ iy.1 _; refine lW ?_ iy.1 _; exact gD.1)) qL.1 ?hm (rd mM eB) ?hx HKY.1 ?_; (case hz => exact bn.zero3 _); (case hm => rfl); (case hx => first | rfl | (go_simp; done) | (go_simp; rfl))) | ((with_reducible refine ac4 (T := 92) (m := .tmp 46) (x := .tmp 50) (v := .tmp 51) rfl ?_); refine Zh (b := Ef) (om := om_1) (mm := xm_1) rfl (.tmp 46) (.tmp 50) (.tmp 51) 92 3 rfl rfl Try.underlying92 Try.underlying3 (by (with_reducible repeat (first | refine ak ?_ _ | refine ag ?_ | refine au ?_ _)); refine lW ?_ iy.1 _; (with_reducible repeat (first | refine ak ?_ _ | refine ag ?_ | refine au ?_ _)); refine lW ?_ iy.1 _; (with_reducible repeat (first | refine ak ?_ _ | refine ag ?_ | refine au ?_ _)); exact gD.1) qL.1 HML.1 ?hm (rd mM eB) (bq.length : Int) ?hx ?hv HKY.1 ?hw ?_; (case hm => rfl); (case hx => first | rfl | (go_simp; done) | (go_simp; rfl)); (case hv => first | rfl | (go_simp; done) | (go_simp; rfl)); (case hw => (have := ak0.1; exact UI (by omega))); intro w61 aQa hbm awZ hg; have AV := aa.mk (QA (g := Ef) (om := om_1) (by (with_reducible repeat (first | apply aV | apply aW | apply aQ)); exact (aG (RQ lV 1 (RQ lV 0 (bz HO_3.1 jh.1 (by decide)) _) _) (fun _ h_ => h_.1))) (by (with_reducible repeat (first | refine ak ?_ _ | refine ag ?_ | refine au ?_ _)); refine lW ?_ iy.1 _; (with_reducible repeat (first | refine ak ?_ _ | refine ag ?_ | refine au ?_ _)); refine lW ?_ iy.1 _; (with_reducible repeat (first | refine ak ?_ _ | refine ag ?_ | refine au ?_ _)); exact gD.1) qL.1 hg); have AX := aa.mk (aw0 (g := Ef) (om := om_1) (by (with_reducible repeat (first | apply jF | apply jG | apply iV)); exact (eY (SQ lV 1 (SQ lV 0 (kG HO_5.1 jh.1 (by decide)) _) _) (fun _ h_ => h_.1))) (by (with_reducible repeat (first | refine ak ?_ _ | refine ag ?_ | refine au ?_ _)); refine lW ?_ iy.1 _; (with_reducible repeat (first | refine ak ?_ _ | refine ag ?_ | refine au ?_ _)); refine lW ?_ iy.1 _; (with_reducible repeat (first | refine ak ?_ _ | refine ag ?_ | refine au ?_ _)); exact gD.1) qL.1 hg); have AY := aa.mk (yQ (g := WY) (o := .cells #[.int .i64 ah, .int .i64 af, .slice (some NC) ae.length aJ] 30 (0, 0)) (xB mW.1 gq.1) hg (fun e_ => Dq.1 (Option.some.inj e_))); have AZ := aa.mk (hbm); have Ed := aa.mk (yQ (g := lV) (o := .cells #[.int .i64 ((aj ae eB).f0), .int .i64 ((aj ae eB).f1)] 83 (0, 0)) (BB jh.1) hg (fun e_ => rC.1 (Option.some.inj e_))); have Ee := aa.mk (Kw (BL HB.1) _ (bZ HB.1) hg (fun k_ e_ => by cases e_; exact awE.1)); clear HO_3; clear HO_5; clear gq; clear gD; clear jh; clear HB; clear qL; have HO_3 := AV; have HO_5 := AX; have gq := AY; have gD := AZ; have jh := Ed; have HB := Ee; have qL := aa.mk awZ; clear AV AX AY AZ Ed Ee; clear hbm awZ hg) | ((with_reducible refine bf (b := .append) (xs := #[.tmp 52, .tmp 53]) rfl ?_); at_builtin; refine uV (Kd.slice 3 (Kd.int .i64)) (w0 := w) w.heap.size rfl (.tmp 52) (.tmp 53) 60 38 (.slice none 0 0) 24 rfl Try.underlying60 Ab rfl (by decide) (by omega) (.slice agv bq.length agw) bq [] [.slice none 0 0] (fun k_ => some k_ ≠ (.slice (some Ci) mM.length Mq : Value).ownBlock) (fun _ => False) rfl rfl ?aP (fun _ hk => hk.elim) ?aF ?aO ?aB ?aS ?aL ?_; (case aP => exact ⟨_, rfl, tO _ _ _ _ _⟩); (case aB => exact (BL HB.1)); (case aF => exact (fun k_ hk => Kd.kX (iL (PR HO_3.1)) k_ hk)); (case aO => exact (ES (eY HO_5.1 (fun k_ hk => ⟨hk, fun e_ => e_⟩)))); (case aS => exact (bZ HB.1)); (case aL => have := ak0.1; omega); intro aQb w62 ho hb hg hat; rw [<- awT.1] at ho; have AV := aa.mk (kF (PR HO_3.1) (jW (PS HO_5.1)) (by decide) hg); have AX := aa.mk (bG gq.1 hg (xe HO_5.1 gq.1 (by decide))); have AY := aa.mk (bG gD.1 hg (Io (Yd HO_5.1) gD.1 qL.1)); have AZ := aa.mk (bG jh.1 hg (xe HO_5.1 jh.1 (by decide))); have Ee := aa.mk (hb); have Lt := aa.mk (ho); clear HO_3; clear gq; clear gD; clear jh; clear HB; clear HO_5; have HO_3 := AV; have gq := AX; have gD := AY; have jh := AZ; have HB := Ee; have Cj := Lt; clear AV AX AY AZ Ee Lt; clear ho hb hg hat; obtain ⟨aQc, aw1, aGO⟩ := mq Cj.1; subst aGO; have ag1 : 0 <= ((bq.length : Int) : Int) := OD; have ag2 : (bq.length : Int) < (xH.length : Int) := OD; obtain ⟨aMg, ac5, ac6, aGP, Kj, Xb, Xc⟩ := tT (fJ Cj.1).2.2 (bq.length : Int) ag1 ag2; cases aGP; obtain ⟨aMh, apn, apo, ac7⟩ := BF Cj.1 [] (bq.length : Int) ag1 (by first | exact ag2 | exact OD | (have e_ := (fJ Cj.1).1; omega)); obtain ⟨aBr, rfl, Ps⟩ := apo; have GD := ac7 0 _ rfl; rw [Nat.add_zero, show ((Kd.slice 3 (Kd.int .i64))).sz = 1 from rfl, Nat.mul_one] at GD; replace GD := Option.some.inj (GD.symm.trans Kj); rw [GD] at Ps; have GG := aa.mk (show Kd.R (Kd.int .i64) 3 _ _ _ _ (aT xH (bq.length : Int)) from Ps); clear GD Ps; have ag3 := aa.mk Kj; clear ac7 apn; have aBs := aa.mk Xc; have aBt := aa.mk Xb; clear Xc Xb; (try simp only [Go.IntWalk.toNatUp] at Kj); replace ag1 := eq_true ag1; replace ag2 := eq_true ag2; obtain ⟨ag4, Uz, agx, aw2, aGQ, aQd, aw3⟩ := Ol Cj.1 (by have h_ : ((bq.length : Int) : Int) < ((xH.length : Int) : Int) := OD; have qi : 0 <= ((bq.length : Int) : Int) := (OD); omega); (first | cases agx | (injection agx with ea_ en_ ec_; (first | subst ea_ | (injection ea_ with ea_; subst ea_)); subst ec_; clear en_)); have aGR := aa.mk aw2; have aQe := aa.mk aw3; clear aw2 aGQ aw3; (first | simp only [add_plain] at Kj | skip); obtain ⟨ak3, aQf, aw4, aGS, ak4, _, _, aw5⟩ := KN Cj.1 [] ((bq.length : Int) : Int) (OD) (by have h_ : ((bq.length : Int) : Int) < ((xH.length : Int) : Int) := OD; first | exact h_ | (have e_ := (fJ Cj.1).1; omega) | simpa using h_); obtain ⟨aGT, rfl, ac8⟩ := aGS; have hv64 := ak4 0 _ rfl; have apq := ag3.1; (try simp only [add_plain] at apq); (try simp only [Nat.add_zero] at hv64); (try rw [show ((Kd.slice 3 (Kd.int .i64))).sz = 1 from rfl, Nat.mul_one] at hv64); replace hv64 := Option.some.inj (hv64.symm.trans apq); subst hv64; clear apq ak4 aw4; have apr := aa.mk (show Kd.R (Kd.int .i64) 3 _ w.heap.size ak3 (.slice ac5 (aT xH (bq.length : Int)).length ac6) (aT xH (bq.length : Int)) from ac8); have UJ := aa.mk aw5; have aps := aa.mk (fJ Cj.1).1; clear aw5 ac8) | ((with_reducible refine bf (b := .append) (xs := #[.tmp 60, .tmp 62]) rfl ?_); at_builtin; refine ek (Kd.int .i64) (w0 := w) w.heap.size rfl (.tmp 60) (.tmp 62) 38 3 (.int .i64 0) 8 rfl Try.underlying38 info3 rfl (by decide) (by omega) (.slice ac5 (aT xH (bq.length : Int)).length ac6) (aT xH (bq.length : Int)) eB [.int .i64 eB] (fun k_ => ak3 k_ ∨ ((fun k_ => some k_ ≠ (.slice (some Ci) mM.length Mq : Value).ownBlock)) k_ /\ w62.heap.size <= k_) (fun _ => False) rfl rfl ?aP (fun _ hk => hk.elim) ?aF ?aO ?aB ?aS ?aL ?_; (case aP => exact rfl); (case aB => exact (BL HB.1)); (case aF => exact (fun k_ hk => .inr ⟨Kd.kX (iL (PR HO_3.1)) k_ hk, hk⟩)); (case aO => exact (pm (aG apr.1 (fun _ hk => .inl hk)))); (case aS => exact (bZ HB.1)); (case aL => have := awU.1; omega); intro aQg w65 ho hb hg hat; rw [<- awV.1] at ho; have AV := aa.mk (FC (PR HO_3.1) rfl hg (fun k_ e_ => (GG.1.1 k_ e_).1)); have AX := aa.mk (bG gq.1 hg (dK GG.1 gq.1 (by decide))); have AY := aa.mk (bG gD.1 hg (Io GG.1 gD.1 qL.1)); have AZ := aa.mk (bG jh.1 hg (dK GG.1 jh.1 (by decide))); have Ee := aa.mk (hb); have Lt := aa.mk (Jt (Om (by repeat (first | exact UJ.1 | refine Oq ?_ _ | refine Ot ?_ _ | refine Tu ?_))) hg (fun k_ e_ => .inl (apr.1.1 k_ e_))); have RA := aa.mk (ho); clear HO_3; clear gq; clear gD; clear jh; clear HB; clear UJ; clear Cj; clear apr; clear GG; have HO_3 := AV; have gq := AX; have gD := AY; have jh := AZ; have HB := Ee; have UJ := Lt; have ac9 := RA; clear AV AX AY AZ Ee Lt RA; clear ho hb hg hat; have p52 : 0 <= ((bq.length : Int) : Int) := OD; have q52 : ((bq.length : Int) : Int) < ((xH.length : Int) : Int) := OD; replace p52 := eq_true p52; replace q52 := eq_true q52; obtain ⟨aw6, aw7, aGU⟩ := bv ac9.1; subst aGU; obtain ⟨_, _, hraw66, _, _, ak5, _⟩ := QF UJ.1 (OD) (by have h_ : ((bq.length : Int) : Int) < ((xH.length : Int) : Int) := OD; first | exact h_ | (have e_ := (aps.1); omega) | simpa using h_); obtain ⟨_, ak6⟩ := am9 UJ.1 (OD) (by have h_ : ((bq.length : Int) : Int) < ((xH.length : Int) : Int) := OD; first | exact h_ | (have e_ := (aps.1); omega) | simpa using h_); have UK := ak5 0 _ rfl; have UL := ak6 0; (try simp only [Nat.add_zero] at UK UL); (try rw [show ((Kd.slice 3 (Kd.int .i64))).sz = 1 from rfl, Nat.mul_one] at UK); (try rw [show ((Kd.slice 3 (Kd.int .i64))).sz = 1 from rfl, Nat.mul_one] at UL); (try simp only [Go.IntWalk.toNatUp] at UK UL); have ag5 := Tw UJ.1 (OD) (by have h_ : ((bq.length : Int) : Int) < ((xH.length : Int) : Int) := OD; first | exact h_ | (have e_ := (aps.1); omega) | simpa using h_) (seg := [.slice aw6 ag0.length aw7]) (j := 0) (show 1 <= 1 from by decide) (x' := ag0) (BC ac9.1) (fun _ hk => hk); (try simp only [show ((Kd.slice 3 (Kd.int .i64))).sz = 1 from rfl, Nat.mul_one, Nat.add_zero] at ag5); clear ak5 ak6) | ((with_reducible refine gK (t := 38) (p := 64) rfl ?_); refine lX (t := 38) (p := 64) (w1 := (w65.setCell ⟨ag4, ((bq.length : Int) : Int).toNat, none⟩ (.slice aw6 ag0.length aw7))) ?_; intro w67 hw; have hg : w65.grownBy w67 (some ag4) := (by rw [hw]; exact ag5.2); have hp_ : Kd.S (Kd.slice 3 (Kd.int .i64)) 38 w67 w.heap.size (fun k_ => some k_ ≠ (.slice (some Ci) mM.length Mq : Value).ownBlock) (.slice (some ⟨ag4, 0, none⟩) xH.length aw1) awW := (by rw [hw, awX.1]; exact ag5.1); clear ag5; have AV := aa.mk (kF (v := (.slice (some ⟨ag4, 0, none⟩) xH.length aw1)) (PR HO_3.1) (dY hraw66) (by decide) hg); have AX := aa.mk (bG gq.1 hg (dK hraw66 gq.1 (by decide))); have AY := aa.mk (bG gD.1 hg (Io hraw66 gD.1 qL.1)); have AZ := aa.mk (bG jh.1 hg (dK hraw66 jh.1 (by decide))); have Ee := aa.mk ((by rw [hw]; exact il HB.1 aGR.1 : Below w.heap.size w w67)); have Lt := aa.mk (hp_); clear HO_3; clear gq; clear gD; clear jh; clear HB; clear ac9; clear UJ; have HO_3 := AV; have gq := AX; have gD := AY; have jh := AZ; have HB := Ee; have Cj := Lt; clear AV AX AY AZ Ee Lt; clear hg hw hp_ hraw66))
     go_roundg k1
     case measure => have := iB.1; omega
     case rel => exact ⟨(awW), (wrap64 (eB + 1)), (((rd mM eB), (bq.length : Int)) :: xm_1), (_), RG, H', ⟨by have := iB.1; omega⟩, ⟨PR HO_3.1⟩, ⟨PS Cj.1⟩, ⟨PB gq.1⟩, ⟨PB gD.1⟩, qL, ⟨BL HB.1⟩⟩
   have c26b0 := beq_eq_false_iff_ne.mpr c26
   have c26b1 := bne_iff_ne.mpr c26
   have H' := aa.mk H
   clear H
   have EJ : 0 <= (eB : Int) := OD
   have EK : eB < (ae.length : Int) := OD
   obtain ⟨NC, UB, oo, oq⟩ := iP bD.1 eB EJ EK
   cases UB
   replace oo := (HB.1.cell (World.block_lt_of_cell? w _ oo)).trans oo
   replace oq := (HB.1.cell (World.block_lt_of_cell? w _ oq)).trans oq
   replace EJ := eq_true EJ
   replace EK := eq_true EK
   go_wp2_with (first | ((with_reducible refine aC (N := 7) rfl ?_); refine dN (cs := #[.int .i64 0, .int .i64 0]) (t := 83) ?_; intro lV hg w69 hbox hb; refine E12 (rB HO_3.1 hb) (sB HO_5.1 hb) (bB gq.1 hb) (bB gD.1 hb) (bS HB.1 hb) (hbox) (gX HB.1 hg) (gX HB.1 hg) (nB gq.1 hg) (nC gq.1 hg) (nB gD.1 hg) (nC gD.1 hg) ?_; clear HO_3 HO_5 gq gD HB; intro HO_3 HO_5 gq gD HB jh acW acX mW uz iy rC; clear hb hbox hg; have avW := uz.1; have avX := mW.1; have aMj := rC.1; have aMk := iy.1; obtain ⟨aBu, aBv, aBw, aBx⟩ := nO jh.1) | ((with_reducible refine aC (N := 39) rfl ?_); refine Bd (b := Ef) (om := om_1) (mm := xm_1) rfl (.tmp 34) (.tmp 38) 92 3 rfl Try.underlying92 Try.underlying3 ?hz (by first | exact gD.1 | (refine lW ?_ iy.1 _; refine lW ?_ iy.1 _; exact gD.1)) qL.1 ?hm (rd mM eB) ?hx HKY.1 ?_; (case hz => exact bn.zero3 _); (case hm => rfl); (case hx => first | rfl | (go_simp; done) | (go_simp; rfl))))
   go_roundg k1
   case measure => have := iB.1; omega
   case rel => exact ⟨(bq), (wrap64 (eB + 1)), (xm_1), (om_1), RG, H', ⟨by have := iB.1; omega⟩, ⟨by (with_reducible repeat (first | apply aV | apply aW | apply aQ)); exact aG (RQ lV 1 (RQ lV 0 (bz HO_3.1 jh.1 (by decide)) _) _) (fun _ hk => trivial)⟩, ⟨by (with_reducible repeat (first | apply jF | apply jG | apply iV)); exact eY (SQ lV 1 (SQ lV 0 (kG HO_5.1 jh.1 (by decide)) _) _) (fun _ hk => hk.1)⟩, ⟨by (with_reducible repeat (first | refine ak ?_ _ | refine ag ?_ | refine au ?_ _)); refine bu ?_ mW.1 _; (with_reducible repeat (first | refine ak ?_ _ | refine ag ?_ | refine au ?_ _)); refine bu ?_ mW.1 _; (with_reducible repeat (first | refine ak ?_ _ | refine ag ?_ | refine au ?_ _)); exact gq.1⟩, ⟨by (with_reducible repeat (first | refine ak ?_ _ | refine ag ?_ | refine au ?_ _)); refine lW ?_ iy.1 _; (with_reducible repeat (first | refine ak ?_ _ | refine ag ?_ | refine au ?_ _)); refine lW ?_ iy.1 _; (with_reducible repeat (first | refine ak ?_ _ | refine ag ?_ | refine au ?_ _)); exact gD.1⟩, qL, ⟨BL HB.1⟩⟩
 obtain rfl := Option.some.inj H
 go_wp2
 go_ret
 exact ⟨_, RF, ES (eY HO_5.1 (fun _ hk => trivial)), BL HB.1⟩
def kD.f (ah : Int) (af : Int) : Option (Bool) := if ah < 0 then (some false) else (if ah > 7 then (some false) else (if af < 0 then (some false) else (if af > 1 then (some false) else (if af = 0 then (some true) else (if ah = 3 then (some true) else (some (ah == 6)))))))
theorem kD.calls (ah : Int) (af : Int) (r : Bool) (w : World) (h : kD.f ah af = some r) :
 Calls Try.prog 99 #[.agg #[.int .i64 ah, .int .i64 af]] w fun e w' => e = .returned (.bool r) /\ Below w.heap.size w w' := by
 have xE := Try.underlying83
 have HB := aa.mk (Below.refl w.heap.size w)
 have H := h
 clear h
 unfold kD.f at H
 replace H := pu H; rcases H with ⟨c2b0, H⟩ | ⟨c2b0, H⟩
 · obtain rfl := Option.some.inj H
   go_enter Try.func99, Try.ntmps99
   go_wp2_with (first | ((with_reducible refine aC (N := 1) rfl ?_); refine dN (cs := #[.int .i64 ah, .int .i64 af]) (t := 83) ?_; intro ND hg w3 hbox hb; refine mJ HB.1 hg hbox hb ?_; clear HB; intro HB zA NE NF; clear hb hbox hg; obtain ⟨Ao, Ap, Aq, Ar⟩ := nO zA.1))
   go_ret
   exact ⟨RF, BL HB.1⟩
 replace H := oP H; rcases H with ⟨c5, H⟩ | ⟨c5, H⟩
 · have c5b0 : decide (7 < ah) = true := decide_eq_true c5
   clear c5
   obtain rfl := Option.some.inj H
   go_enter Try.func99, Try.ntmps99
   go_wp2_with (first | ((with_reducible refine aC (N := 1) rfl ?_); refine dN (cs := #[.int .i64 ah, .int .i64 af]) (t := 83) ?_; intro ND hg w6 hbox hb; refine mJ HB.1 hg hbox hb ?_; clear HB; intro HB zA NE NF; clear hb hbox hg; obtain ⟨NN, NP, NQ, NR⟩ := nO zA.1))
   go_ret
   exact ⟨RF, BL HB.1⟩
 have c5b0 : decide (7 < ah) = false := decide_eq_false c5
 clear c5
 replace H := pu H; rcases H with ⟨c8b0, H⟩ | ⟨c8b0, H⟩
 · obtain rfl := Option.some.inj H
   go_enter Try.func99, Try.ntmps99
   go_wp2_with (first | ((with_reducible refine aC (N := 1) rfl ?_); refine dN (cs := #[.int .i64 ah, .int .i64 af]) (t := 83) ?_; intro ND hg w9 hbox hb; refine mJ HB.1 hg hbox hb ?_; clear HB; intro HB zA NE NF; clear hb hbox hg; obtain ⟨pR, pU, pV, pW⟩ := nO zA.1))
   go_ret
   exact ⟨RF, BL HB.1⟩
 replace H := oP H; rcases H with ⟨c11, H⟩ | ⟨c11, H⟩
 · have c11b0 : decide (1 < af) = true := decide_eq_true c11
   clear c11
   obtain rfl := Option.some.inj H
   go_enter Try.func99, Try.ntmps99
   go_wp2_with (first | ((with_reducible refine aC (N := 1) rfl ?_); refine dN (cs := #[.int .i64 ah, .int .i64 af]) (t := 83) ?_; intro ND hg yC hbox hb; refine mJ HB.1 hg hbox hb ?_; clear HB; intro HB zA NE NF; clear hb hbox hg; obtain ⟨uF, uG, uH, uI⟩ := nO zA.1))
   go_ret
   exact ⟨RF, BL HB.1⟩
 have c11b0 : decide (1 < af) = false := decide_eq_false c11
 clear c11
 replace H := oP H; rcases H with ⟨c14, H⟩ | ⟨c14, H⟩
 · have c14b0 := beq_iff_eq.mpr c14
   have c14b1 := bne_eq_false_iff_eq.mpr c14
   clear c14
   obtain rfl := Option.some.inj H
   go_enter Try.func99, Try.ntmps99
   go_wp2_with (first | ((with_reducible refine aC (N := 1) rfl ?_); refine dN (cs := #[.int .i64 ah, .int .i64 af]) (t := 83) ?_; intro ND hg NU hbox hb; refine mJ HB.1 hg hbox hb ?_; clear HB; intro HB zA NE NF; clear hb hbox hg; obtain ⟨wm, wo, wu, ww⟩ := nO zA.1))
   go_ret
   exact ⟨RF, BL HB.1⟩
 have c14b0 := beq_eq_false_iff_ne.mpr c14
 have c14b1 := bne_iff_ne.mpr c14
 replace H := oP H; rcases H with ⟨c17, H⟩ | ⟨c17, H⟩
 · have c17b0 := beq_iff_eq.mpr c17
   have c17b1 := bne_eq_false_iff_eq.mpr c17
   clear c17
   obtain rfl := Option.some.inj H
   go_enter Try.func99, Try.ntmps99
   go_wp2_with (first | ((with_reducible refine aC (N := 1) rfl ?_); refine dN (cs := #[.int .i64 ah, .int .i64 af]) (t := 83) ?_; intro ND hg w18 hbox hb; refine mJ HB.1 hg hbox hb ?_; clear HB; intro HB zA NE NF; clear hb hbox hg; obtain ⟨FD, FE, FF, FH⟩ := nO zA.1))
   go_ret
   exact ⟨RF, BL HB.1⟩
 have c17b0 := beq_eq_false_iff_ne.mpr c17
 have c17b1 := bne_iff_ne.mpr c17
 obtain rfl := Option.some.inj H
 go_enter Try.func99, Try.ntmps99
 go_wp2_with (first | ((with_reducible refine aC (N := 1) rfl ?_); refine dN (cs := #[.int .i64 ah, .int .i64 af]) (t := 83) ?_; intro ND hg ZJ hbox hb; refine mJ HB.1 hg hbox hb ?_; clear HB; intro HB zA NE NF; clear hb hbox hg; obtain ⟨uJ, uK, uL, uM⟩ := nO zA.1))
 go_ret
 exact ⟨RF, BL HB.1⟩
def df.l0 : Nat -> List (fq) -> Int -> Int -> Option (Bool)
 | 0, _, _, _ => none
 | k + 1, x8, x9, j6 => if j6 < x9 then (if 0 <= j6 then (if j6 < (x8.length : Int) then ((kD.f ((aj x8 j6).f0) ((aj x8 j6).f1)).bind fun aw8 => (if aw8 = true then (df.l0 k x8 x9 (wrap64 (j6 + 1))) else (some false))) else (none)) else (none)) else (some true)
def df.f (k : Nat) (l0 : List (fq)) : Option (Bool) := if (l0.length : Int) > 90 then (some false) else (df.l0 k l0 (l0.length : Int) 0)
theorem df.mono_l : ∀ k, (∀ y0 y1 y2, dO (df.l0 k y0 y1 y2) (df.l0 (k + 1) y0 y1 y2))
 | 0 => fun _ _ _ r h => by simp [df.l0] at h
 | k + 1 => by
  have ja := df.mono_l k
  intros
  first | unfold df.l0
  exact BA ja
theorem df.mono : ∀ a0 k, dO (df.f k a0) (df.f (k + 1) a0) := by
 intro a0 k
 have ja := df.mono_l k
 unfold df.f
 exact BA ja
theorem df.calls (k : Nat) (A0 : Option Addr) (c0 : Nat) (l0 : List (fq)) (r : Bool) (w : World) (hr0 : Kd.C jZ w A0 l0.length l0) (hc0 : l0.length <= c0) (h : df.f k l0 = some r) :
 Calls Try.prog 86 #[.slice A0 l0.length c0] w fun e w' => e = .returned (.bool r) /\ Below w.heap.size w w' := by
 have xE := Try.underlying83
 have DI := aa.mk hr0
 have ZU := aa.mk hc0
 clear hr0 hc0
 have HB := aa.mk (Below.refl w.heap.size w)
 have H := h
 clear h
 unfold df.f at H
 replace H := oP H; rcases H with ⟨c2, H⟩ | ⟨c2, H⟩
 · have c2b0 : decide (90 < (l0.length : Int)) = true := decide_eq_true c2
   have c2b1 : decide (90 < l0.length) = true := decide_eq_true (by omega)
   clear c2
   obtain rfl := Option.some.inj H
   go_enter Try.func86, Try.ntmps86
   go_wp2
   go_ret
   exact ⟨RF, BL HB.1⟩
 have c2b0 : decide (90 < (l0.length : Int)) = false := decide_eq_false c2
 have c2b1 : decide (90 < l0.length) = false := decide_eq_false (by omega)
 clear c2
 have H' := aa.mk H
 clear H
 go_enter Try.func86, Try.ntmps86
 go_wp2
 go_loopg [10] k (fun kq v10 w' => ∃ (bE : Int), v10 = .int .i64 bE /\ aa (df.l0 kq l0 (l0.length : Int) bE = some r) /\ aa (kq <= k) /\ aa (Below w.heap.size w w'))
 case atStart => exact ⟨(0), RG, H', ⟨Nat.le_refl _⟩, ⟨BL HB.1⟩⟩
 clear H'
 clear c2b0 c2b1
 obtain ⟨bE, rfl, HA, iB, HB⟩ := hrel
 cases gk with
 | zero => exact absurd HA.1 (by simp [df.l0])
 | succ k1 => ?_
 have H := HA.1
 clear HA
 simp only [df.l0] at H
 replace H := pu H; rcases H with ⟨c3b0, H⟩ | ⟨c3b0, H⟩
 · replace H := ji H; obtain ⟨c4b0, H⟩ := H
   replace H := ji H; obtain ⟨c5b0, H⟩ := H
   replace H := dz H; obtain ⟨aw8, A6, H⟩ := H
   replace H := Cm H; rcases H with ⟨rfl, H⟩ | ⟨rfl, H⟩
   · have H' := aa.mk H
     clear H
     have UM : 0 <= (bE : Int) := OD
     have UN : bE < (l0.length : Int) := OD
     obtain ⟨aw9, apt, Be, Bf⟩ := iP DI.1 bE UM UN
     cases apt
     replace Be := (HB.1.cell (World.block_lt_of_cell? w _ Be)).trans Be
     replace Bf := (HB.1.cell (World.block_lt_of_cell? w _ Bf)).trans Bf
     replace UM := eq_true UM
     replace UN := eq_true UN
     go_wp2_with (first | ((with_reducible refine aC (N := 4) rfl ?_); refine dN (cs := #[.int .i64 0, .int .i64 0]) (t := 83) ?_; intro ada hg w8 hbox hb; refine mJ HB.1 hg hbox hb ?_; clear HB; intro HB GH axa axb; clear hb hbox hg; obtain ⟨Ej, El, Em, En⟩ := nO GH.1) | ((with_reducible refine aA (f := 99) rfl ?_); refine cK (N := (some 15)) #[.agg #[.int .i64 ((aj l0 bE).f0), .int .i64 ((aj l0 bE).f1)]] Try.func99 ?_; (with_reducible refine (kD.calls ((aj l0 bE).f0) ((aj l0 bE).f1) true _ A6.1).mono ?_); rintro e Hw ⟨rfl, hb⟩; refine ⟨_, rfl, ?_⟩; refine E2 (dh (g := ada) (o := .cells #[.int .i64 ((aj l0 bE).f0), .int .i64 ((aj l0 bE).f1)] 83 (0, 0)) (BB GH.1) hb) (bS HB.1 hb) ?_; clear GH HB; intro GH HB; (try clear hb)))
     go_roundg k1
     case measure => have := iB.1; omega
     case rel => exact ⟨(wrap64 (bE + 1)), RG, H', ⟨by have := iB.1; omega⟩, ⟨BL HB.1⟩⟩
   obtain rfl := Option.some.inj H
   have UM : 0 <= (bE : Int) := OD
   have UN : bE < (l0.length : Int) := OD
   obtain ⟨aw9, apt, Be, Bf⟩ := iP DI.1 bE UM UN
   cases apt
   replace Be := (HB.1.cell (World.block_lt_of_cell? w _ Be)).trans Be
   replace Bf := (HB.1.cell (World.block_lt_of_cell? w _ Bf)).trans Bf
   replace UM := eq_true UM
   replace UN := eq_true UN
   go_wp2_with (first | ((with_reducible refine aC (N := 4) rfl ?_); refine dN (cs := #[.int .i64 0, .int .i64 0]) (t := 83) ?_; intro ada hg qy hbox hb; refine mJ HB.1 hg hbox hb ?_; clear HB; intro HB GH axa axb; clear hb hbox hg; obtain ⟨vT, vU, vV, vW⟩ := nO GH.1) | ((with_reducible refine aA (f := 99) rfl ?_); refine cK (N := (some 15)) #[.agg #[.int .i64 ((aj l0 bE).f0), .int .i64 ((aj l0 bE).f1)]] Try.func99 ?_; (with_reducible refine (kD.calls ((aj l0 bE).f0) ((aj l0 bE).f1) false _ A6.1).mono ?_); rintro e yJ ⟨rfl, hb⟩; refine ⟨_, rfl, ?_⟩; refine E2 (dh (g := ada) (o := .cells #[.int .i64 ((aj l0 bE).f0), .int .i64 ((aj l0 bE).f1)] 83 (0, 0)) (BB GH.1) hb) (bS HB.1 hb) ?_; clear GH HB; intro GH HB; (try clear hb)))
   go_ret
   exact ⟨RF, BL HB.1⟩
 obtain rfl := Option.some.inj H
 go_wp2
 go_ret
 exact ⟨RF, BL HB.1⟩
def iZ.f (k : Nat) (ah : Int) (af : Int) (ae : List (fq)) : Option (Bool) := if ah ≥ 1 then (if ah <= 10 then (if af ≥ 1 then (if af <= 9 then (if (ae.length : Int) = (wrap64 (ah * af)) then ((df.f k ae).bind fun apu => (some apu)) else (some false)) else (some false)) else (some false)) else (some false)) else (some false)
theorem iZ.mono : ∀ a0 a1 a2 k, dO (iZ.f k a0 a1 a2) (iZ.f (k + 1) a0 a1 a2) := by
 intro a0 a1 a2 k
 unfold iZ.f
 repeat' first
  | (with_reducible exact df.mono _ _)
  | (with_reducible exact dO.refl _)
  | (with_reducible exact dO.none _)
  | (with_reducible refine dO.ite ?_ ?_)
  | (with_reducible refine dO.bind ?_ (fun _ => ?_))
  | exact df.mono _ _
  | exact dO.none _
  | refine dO.ite ?_ ?_
  | refine dO.bind ?_ (fun _ => ?_)
theorem iZ.calls (k : Nat) (ah : Int) (af : Int) (aK : Option Addr) (aJ : Nat) (ae : List (fq)) (r : Bool) (w : World) (dH : Kd.C jZ w aK ae.length ae) (dG : ae.length <= aJ) (h : iZ.f k ah af ae = some r) :
 Calls Try.prog 73 #[.agg #[.int .i64 ah, .int .i64 af, .slice aK ae.length aJ]] w fun e w' => e = .returned (.bool r) /\ Below w.heap.size w w' := by
 have nH := Try.underlying30
 have bD := aa.mk dH
 have cO := aa.mk dG
 clear dH dG
 have HB := aa.mk (Below.refl w.heap.size w)
 have H := h
 clear h
 unfold iZ.f at H
 replace H := oP H; rcases H with ⟨c2, H⟩ | ⟨c2, H⟩
 · have c2b0 : decide (1 <= ah) = true := decide_eq_true c2
   clear c2
   replace H := pu H; rcases H with ⟨c3b0, H⟩ | ⟨c3b0, H⟩
   · replace H := oP H; rcases H with ⟨c4, H⟩ | ⟨c4, H⟩
     · have c4b0 : decide (1 <= af) = true := decide_eq_true c4
       clear c4
       replace H := pu H; rcases H with ⟨c5b0, H⟩ | ⟨c5b0, H⟩
       · replace H := oP H; rcases H with ⟨c6, H⟩ | ⟨c6, H⟩
         · have c6b0 := beq_iff_eq.mpr c6
           have c6b1 := bne_eq_false_iff_eq.mpr c6
           clear c6
           replace H := dz H; obtain ⟨apu, A7, H⟩ := H
           obtain rfl := Option.some.inj H
           go_enter Try.func73, Try.ntmps73
           go_wp2_with (first | ((with_reducible refine aC (N := 1) rfl ?_); (try (refine jT (by rfl) ?_; dsimp only)); refine dN (cs := #[.int .i64 ah, .int .i64 af, .slice aK ae.length aJ]) (t := 30) ?_; intro RV hg w8 hbox hb; refine mJ HB.1 hg hbox hb ?_; clear HB; intro HB yj RX RY; clear hb hbox hg; obtain ⟨Ej, El, NS, Em, En, NT⟩ := gB yj.1) | (go_at_call 86; (with_reducible refine (df.calls k _ _ ae apu _ ?side1 ?side2 A7.1).mono ?_); (case side1 => exact CB (aY bD.1 HB.1)); (case side2 => exact cO.1); rintro e Hw ⟨rfl, hb⟩; refine E2 (bB yj.1 hb) (bS HB.1 hb) ?_; clear yj HB; intro yj HB; (try clear hb)))
           go_ret
           exact ⟨RF, BL HB.1⟩
         have c6b0 := beq_eq_false_iff_ne.mpr c6
         have c6b1 := bne_iff_ne.mpr c6
         obtain rfl := Option.some.inj H
         go_enter Try.func73, Try.ntmps73
         go_wp2_with (first | ((with_reducible refine aC (N := 1) rfl ?_); (try (refine jT (by rfl) ?_; dsimp only)); refine dN (cs := #[.int .i64 ah, .int .i64 af, .slice aK ae.length aJ]) (t := 30) ?_; intro RV hg qy hbox hb; refine mJ HB.1 hg hbox hb ?_; clear HB; intro HB yj RX RY; clear hb hbox hg; obtain ⟨vT, vU, xI, vV, vW, xJ⟩ := gB yj.1))
         go_ret
         exact ⟨RF, BL HB.1⟩
       obtain rfl := Option.some.inj H
       go_enter Try.func73, Try.ntmps73
       go_wp2_with (first | ((with_reducible refine aC (N := 1) rfl ?_); (try (refine jT (by rfl) ?_; dsimp only)); refine dN (cs := #[.int .i64 ah, .int .i64 af, .slice aK ae.length aJ]) (t := 30) ?_; intro RV hg yJ hbox hb; refine mJ HB.1 hg hbox hb ?_; clear HB; intro HB yj RX RY; clear hb hbox hg; obtain ⟨Af, Ag, Ju, Ah, Ai, Jv⟩ := gB yj.1))
       go_ret
       exact ⟨RF, BL HB.1⟩
     have c4b0 : decide (1 <= af) = false := decide_eq_false c4
     clear c4
     obtain rfl := Option.some.inj H
     go_enter Try.func73, Try.ntmps73
     go_wp2_with (first | ((with_reducible refine aC (N := 1) rfl ?_); (try (refine jT (by rfl) ?_; dsimp only)); refine dN (cs := #[.int .i64 ah, .int .i64 af, .slice aK ae.length aJ]) (t := 30) ?_; intro RV hg NU hbox hb; refine mJ HB.1 hg hbox hb ?_; clear HB; intro HB yj RX RY; clear hb hbox hg; obtain ⟨wm, wo, zQ, wu, ww, zR⟩ := gB yj.1))
     go_ret
     exact ⟨RF, BL HB.1⟩
   obtain rfl := Option.some.inj H
   go_enter Try.func73, Try.ntmps73
   go_wp2_with (first | ((with_reducible refine aC (N := 1) rfl ?_); (try (refine jT (by rfl) ?_; dsimp only)); refine dN (cs := #[.int .i64 ah, .int .i64 af, .slice aK ae.length aJ]) (t := 30) ?_; intro RV hg Vn hbox hb; refine mJ HB.1 hg hbox hb ?_; clear HB; intro HB yj RX RY; clear hb hbox hg; obtain ⟨qN, qO, rV, qP, qQ, rW⟩ := gB yj.1))
   go_ret
   exact ⟨RF, BL HB.1⟩
 have c2b0 : decide (1 <= ah) = false := decide_eq_false c2
 clear c2
 obtain rfl := Option.some.inj H
 go_enter Try.func73, Try.ntmps73
 go_wp2_with (first | ((with_reducible refine aC (N := 1) rfl ?_); (try (refine jT (by rfl) ?_; dsimp only)); refine dN (cs := #[.int .i64 ah, .int .i64 af, .slice aK ae.length aJ]) (t := 30) ?_; intro RV hg w19 hbox hb; refine mJ HB.1 hg hbox hb ?_; clear HB; intro HB yj RX RY; clear hb hbox hg; obtain ⟨wz, wB, zT, wC, wD, zU⟩ := gB yj.1))
 go_ret
 exact ⟨RF, BL HB.1⟩
def dP.f (k : Nat) (ah : Int) (af : Int) (ae : List (fq)) : Option (Bool) := (iZ.f k ah af ae).bind fun axc => (if axc = true then ((bn.f k ah af ae).bind fun apv => (some (decide ((apv.length : Int) <= 8)))) else (some false))
theorem dP.mono : ∀ a0 a1 a2 k, dO (dP.f k a0 a1 a2) (dP.f (k + 1) a0 a1 a2) := by
 intro a0 a1 a2 k
 unfold dP.f
 repeat' first
  | (with_reducible exact iZ.mono _ _ _ _)
  | (with_reducible exact bn.mono _ _ _ _)
  | (with_reducible exact dO.refl _)
  | (with_reducible exact dO.none _)
  | (with_reducible refine dO.ite ?_ ?_)
  | (with_reducible refine dO.bind ?_ (fun _ => ?_))
  | exact iZ.mono _ _ _ _
  | exact bn.mono _ _ _ _
  | exact dO.none _
  | refine dO.ite ?_ ?_
  | refine dO.bind ?_ (fun _ => ?_)
theorem dP.calls (k : Nat) (ah : Int) (af : Int) (aK : Option Addr) (aJ : Nat) (ae : List (fq)) (r : Bool) (w : World) (dH : Kd.C jZ w aK ae.length ae) (dG : ae.length <= aJ) (h : dP.f k ah af ae = some r) :
 Calls Try.prog 46 #[.agg #[.int .i64 ah, .int .i64 af, .slice aK ae.length aJ]] w fun e w' => e = .returned (.bool r) /\ Below w.heap.size w w' := by
 have nH := Try.underlying30
 have bD := aa.mk dH
 have cO := aa.mk dG
 clear dH dG
 have HB := aa.mk (Below.refl w.heap.size w)
 have H := h
 clear h
 unfold dP.f at H
 replace H := dz H; obtain ⟨axc, A2, H⟩ := H
 replace H := Cm H; rcases H with ⟨rfl, H⟩ | ⟨rfl, H⟩
 · replace H := dz H; obtain ⟨apv, A4, H⟩ := H
   obtain rfl := Option.some.inj H
   go_enter Try.func46, Try.ntmps46
   go_wp2_with (first | ((with_reducible refine aC (N := 1) rfl ?_); (try (refine jT (by rfl) ?_; dsimp only)); refine dN (cs := #[.int .i64 ah, .int .i64 af, .slice aK ae.length aJ]) (t := 30) ?_; intro axd hg w5 hbox hb; refine mJ HB.1 hg hbox hb ?_; clear HB; intro HB zB axe axf; clear hb hbox hg; obtain ⟨oL, oM, tZ, oN, oO, uf⟩ := gB zB.1) | ((with_reducible refine aA (f := 73) rfl ?_); refine cK (N := (some 4)) #[.agg #[.int .i64 ah, .int .i64 af, .slice aK ae.length aJ]] Try.func73 ?_; (with_reducible refine (iZ.calls k ah af _ _ ae true _ ?side1 ?side2 A2.1).mono ?_); (case side1 => exact CB (aY bD.1 HB.1)); (case side2 => exact cO.1); rintro e w7 ⟨rfl, hb⟩; refine ⟨_, rfl, ?_⟩; refine E2 (bB zB.1 hb) (bS HB.1 hb) ?_; clear zB HB; intro zB HB; (try clear hb); obtain ⟨lZ, l5, mR, l6, l7, mU⟩ := gB zB.1) | (go_at_call 61; (with_reducible refine (bn.calls k ah af _ _ ae apv _ ?side1 ?side2 A4.1).mono ?_); (case side1 => exact CB (aY bD.1 HB.1)); (case side2 => exact cO.1); rintro e w9 ⟨aQh, rfl, ho0, hb⟩; refine E3 (lN ho0 (bZ HB.1)) (bB zB.1 hb) (bS HB.1 hb) ?_; clear zB HB; intro axg zB HB; (try clear hb); (try clear ho0); obtain ⟨aE7, aeI, Yn⟩ := mq axg.1; subst Yn))
   go_ret
   exact ⟨RF, BL HB.1⟩
 obtain rfl := Option.some.inj H
 go_enter Try.func46, Try.ntmps46
 go_wp2_with (first | ((with_reducible refine aC (N := 1) rfl ?_); (try (refine jT (by rfl) ?_; dsimp only)); refine dN (cs := #[.int .i64 ah, .int .i64 af, .slice aK ae.length aJ]) (t := 30) ?_; intro axd hg qy hbox hb; refine mJ HB.1 hg hbox hb ?_; clear HB; intro HB zB axe axf; clear hb hbox hg; obtain ⟨vT, vU, xI, vV, vW, xJ⟩ := gB zB.1) | ((with_reducible refine aA (f := 73) rfl ?_); refine cK (N := (some 4)) #[.agg #[.int .i64 ah, .int .i64 af, .slice aK ae.length aJ]] Try.func73 ?_; (with_reducible refine (iZ.calls k ah af _ _ ae false _ ?side1 ?side2 A2.1).mono ?_); (case side1 => exact CB (aY bD.1 HB.1)); (case side2 => exact cO.1); rintro e yJ ⟨rfl, hb⟩; refine ⟨_, rfl, ?_⟩; refine E2 (bB zB.1 hb) (bS HB.1 hb) ?_; clear zB HB; intro zB HB; (try clear hb)))
 go_ret
 exact ⟨RF, BL HB.1⟩
def aN.l0 : Nat -> List Int -> List Int -> Int -> Int -> Int -> Int -> List (fq) -> Option (Bool)
 | 0, _, _, _, _, _, _, _ => none
 | k + 1, x1, j6, qR, pz, Xd, Pt, Xe => if pz < qR then (if 0 <= pz then (if pz < (j6.length : Int) then (if (rd j6 pz) < 0 then (some false) else (if (rd j6 pz) ≥ Pt then (some false) else (if pz > 0 then (if 0 <= (wrap64 (pz - 1)) then (if (wrap64 (pz - 1)) < (x1.length : Int) then (if (rd j6 pz) <= (rd x1 (wrap64 (pz - 1))) then (some false) else (aN.l0 k x1 j6 qR (wrap64 (pz + 1)) Xd Pt Xe)) else (none)) else (none)) else (aN.l0 k x1 j6 qR (wrap64 (pz + 1)) Xd Pt Xe)))) else (none)) else (none)) else (some true)
def aN.f (k : Nat) (ah : Int) (af : Int) (ae : List (fq)) (l1 : List Int) : Option (Bool) := if (l1.length : Int) < 1 then (some false) else (aN.l0 k l1 l1 (l1.length : Int) 0 ah af ae)
theorem aN.mono_l : ∀ k, (∀ y0 y1 y2 y3 y4 y5 y6, dO (aN.l0 k y0 y1 y2 y3 y4 y5 y6) (aN.l0 (k + 1) y0 y1 y2 y3 y4 y5 y6))
 | 0 => fun _ _ _ _ _ _ _ r h => by simp [aN.l0] at h
 | k + 1 => by
  have ja := aN.mono_l k
  intros
  first | unfold aN.l0
  exact BA ja
theorem aN.mono : ∀ a0 a1 a2 a3 k, dO (aN.f k a0 a1 a2 a3) (aN.f (k + 1) a0 a1 a2 a3) := by
 intro a0 a1 a2 a3 k
 have ja := aN.mono_l k
 unfold aN.f
 exact BA ja
theorem aN.calls (k : Nat) (ah : Int) (af : Int) (aK : Option Addr) (aJ : Nat) (ae : List (fq)) (A1 : Option Addr) (c1 : Nat) (l1 : List Int) (r : Bool) (w : World) (dH : Kd.C jZ w aK ae.length ae) (dG : ae.length <= aJ) (hr1 : Kd.C (Kd.int .i64) w A1 l1.length l1) (hc1 : l1.length <= c1) (h : aN.f k ah af ae l1 = some r) :
 Calls Try.prog 60 #[.agg #[.int .i64 ah, .int .i64 af, .slice aK ae.length aJ], .slice A1 l1.length c1] w fun e w' => e = .returned (.bool r) /\ Below w.heap.size w w' := by
 have nH := Try.underlying30
 have bD := aa.mk dH
 have cO := aa.mk dG
 clear dH dG
 have HR1 := aa.mk hr1
 have vD := aa.mk hc1
 clear hr1 hc1
 have HB := aa.mk (Below.refl w.heap.size w)
 have H := h
 clear h
 unfold aN.f at H
 replace H := oP H; rcases H with ⟨c3, H⟩ | ⟨c3, H⟩
 · have c3b0 := decide_eq_true c3
   have c3b1 : decide (l1.length < 1) = true := decide_eq_true (by omega)
   clear c3
   obtain rfl := Option.some.inj H
   go_enter Try.func60, Try.ntmps60
   go_wp2_with (first | ((with_reducible refine aC (N := 2) rfl ?_); refine dN (cs := #[.int .i64 ah, .int .i64 af, .slice aK ae.length aJ]) (t := 30) ?_; intro ak7 hg w4 hbox hb; refine mJ HB.1 hg hbox hb ?_; clear HB; intro HB GI axh axi; clear hb hbox hg))
   go_ret
   exact ⟨RF, BL HB.1⟩
 have c3b0 := decide_eq_false c3
 have c3b1 : decide (l1.length < 1) = false := decide_eq_false (by omega)
 clear c3
 have H' := aa.mk H
 clear H
 go_enter Try.func60, Try.ntmps60
 go_wp2_with (first | ((with_reducible refine aC (N := 2) rfl ?_); refine dN (cs := #[.int .i64 ah, .int .i64 af, .slice aK ae.length aJ]) (t := 30) ?_; intro ak7 hg w5 hbox hb; refine mJ HB.1 hg hbox hb ?_; clear HB; intro HB GI axh axi; clear hb hbox hg))
 go_loopg [12] k (fun kq v12 w' => ∃ (bK : Int), v12 = .int .i64 bK /\ aa (aN.l0 kq l1 l1 (l1.length : Int) bK ah af ae = some r) /\ aa (kq <= k) /\ aa (w'.heap[ak7]? = some (.cells #[.int .i64 ah, .int .i64 af, (.slice aK ae.length aJ)] 30 (0, 0))) /\ aa (Below w.heap.size w w'))
 case atStart => exact ⟨(0), RG, H', ⟨Nat.le_refl _⟩, ⟨PB GI.1⟩, ⟨BL HB.1⟩⟩
 clear H'
 try clear c1; clear c3b0 c3b1
 obtain ⟨bK, rfl, HA, iB, GI, HB⟩ := hrel
 cases gk with
 | zero => exact absurd HA.1 (by simp [aN.l0])
 | succ k1 => ?_
 have H := HA.1
 clear HA
 simp only [aN.l0] at H
 replace H := pu H; rcases H with ⟨c6b0, H⟩ | ⟨c6b0, H⟩
 · replace H := ji H; obtain ⟨c7b0, H⟩ := H
   replace H := ji H; obtain ⟨c8b0, H⟩ := H
   replace H := pu H; rcases H with ⟨c9b0, H⟩ | ⟨c9b0, H⟩
   · obtain rfl := Option.some.inj H
     have Bg : 0 <= (bK : Int) := OD
     have Bh : bK < (l1.length : Int) := OD
     obtain ⟨NG, Pv, mr⟩ := Kd.dx HR1.1 bK Bg Bh
     cases Pv
     replace mr := (HB.1.cell (World.block_lt_of_cell? w _ mr)).trans mr
     replace Bg := eq_true Bg
     replace Bh := eq_true Bh
     go_wp2
     go_ret
     exact ⟨RF, BL HB.1⟩
   replace H := oP H; rcases H with ⟨c10, H⟩ | ⟨c10, H⟩
   · have c10b0 : decide (af <= (rd l1 bK)) = true := decide_eq_true c10
     clear c10
     obtain rfl := Option.some.inj H
     have Bg : 0 <= (bK : Int) := OD
     have Bh : bK < (l1.length : Int) := OD
     obtain ⟨NG, Pv, mr⟩ := Kd.dx HR1.1 bK Bg Bh
     cases Pv
     replace mr := (HB.1.cell (World.block_lt_of_cell? w _ mr)).trans mr
     replace Bg := eq_true Bg
     replace Bh := eq_true Bh
     obtain ⟨vX, vY, EZ, vZ, wh, Fa⟩ := gB GI.1
     go_wp2
     go_ret
     exact ⟨RF, BL HB.1⟩
   have c10b0 : decide (af <= (rd l1 bK)) = false := decide_eq_false c10
   clear c10
   replace H := oP H; rcases H with ⟨c12, H⟩ | ⟨c12, H⟩
   · have c12b0 : decide (0 < bK) = true := decide_eq_true c12
     clear c12
     obtain ⟨pY, yc⟩ : ∃ j_ : Int, (wrap64 (bK - 1)) = j_ := ⟨_, rfl⟩
     replace H : (if 0 <= (pY) then (if (pY) < (l1.length : Int) then (if (rd l1 bK) <= (rd l1 (pY)) then (some false) else (aN.l0 k1 l1 l1 (l1.length : Int) (wrap64 (bK + 1)) ah af ae)) else (none)) else (none)) = some r := by first | (rw [yc] at H; exact H) | (simp only [yc] at H ⊢; exact H)
     have hji13w : (IntKind.i64.wrap (bK - 1)) = pY := (cz _).trans yc
     replace H := ji H; obtain ⟨c14b0, H⟩ := H
     replace H := ji H; obtain ⟨c15b0, H⟩ := H
     replace H := pu H; rcases H with ⟨c16b0, H⟩ | ⟨c16b0, H⟩
     · obtain rfl := Option.some.inj H
       have Bg : 0 <= (bK : Int) := OD
       have Bh : bK < (l1.length : Int) := OD
       obtain ⟨NG, Pv, mr⟩ := Kd.dx HR1.1 bK Bg Bh
       cases Pv
       replace mr := (HB.1.cell (World.block_lt_of_cell? w _ mr)).trans mr
       replace Bg := eq_true Bg
       replace Bh := eq_true Bh
       obtain ⟨VL, VM, VN, VO, VP, VQ⟩ := gB GI.1
       have UO : 0 <= ((pY) : Int) := OD
       have UQ : (pY) < (l1.length : Int) := OD
       obtain ⟨adb, apw, Bi⟩ := Kd.dx HR1.1 (pY) UO UQ
       obtain rfl : NG = adb := (by injection apw)
       replace Bi := (HB.1.cell (World.block_lt_of_cell? w _ Bi)).trans Bi
       replace UO := eq_true UO
       replace UQ := eq_true UQ
       go_wp2
       go_ret
       exact ⟨by first | rfl | (simp [iC, iD] <;> rfl) | (simp only [<- yc]; first | rfl | (simp [iC, iD] <;> rfl)) | (simp [*, iC, iD] <;> rfl), BL HB.1⟩
     have H' := aa.mk H
     clear H
     have Bg : 0 <= (bK : Int) := OD
     have Bh : bK < (l1.length : Int) := OD
     obtain ⟨NG, Pv, mr⟩ := Kd.dx HR1.1 bK Bg Bh
     cases Pv
     replace mr := (HB.1.cell (World.block_lt_of_cell? w _ mr)).trans mr
     replace Bg := eq_true Bg
     replace Bh := eq_true Bh
     obtain ⟨qN, qO, rV, qP, qQ, rW⟩ := gB GI.1
     have UO : 0 <= ((pY) : Int) := OD
     have UQ : (pY) < (l1.length : Int) := OD
     obtain ⟨adb, apw, Bi⟩ := Kd.dx HR1.1 (pY) UO UQ
     obtain rfl : NG = adb := (by injection apw)
     replace Bi := (HB.1.cell (World.block_lt_of_cell? w _ Bi)).trans Bi
     replace UO := eq_true UO
     replace UQ := eq_true UQ
     go_wp2
     go_roundg k1
     case measure => have := iB.1; omega
     case rel => exact ⟨(wrap64 (bK + 1)), RG, H', ⟨by have := iB.1; omega⟩, ⟨PB GI.1⟩, ⟨BL HB.1⟩⟩
   have c12b0 : decide (0 < bK) = false := decide_eq_false c12
   clear c12
   have H' := aa.mk H
   clear H
   have Bg : 0 <= (bK : Int) := OD
   have Bh : bK < (l1.length : Int) := OD
   obtain ⟨NG, Pv, mr⟩ := Kd.dx HR1.1 bK Bg Bh
   cases Pv
   replace mr := (HB.1.cell (World.block_lt_of_cell? w _ mr)).trans mr
   replace Bg := eq_true Bg
   replace Bh := eq_true Bh
   obtain ⟨FD, FE, OA, FF, FH, OB⟩ := gB GI.1
   go_wp2
   go_roundg k1
   case measure => have := iB.1; omega
   case rel => exact ⟨(wrap64 (bK + 1)), RG, H', ⟨by have := iB.1; omega⟩, ⟨PB GI.1⟩, ⟨BL HB.1⟩⟩
 obtain rfl := Option.some.inj H
 go_wp2
 go_ret
 exact ⟨RF, BL HB.1⟩
def bC.l0 : Nat -> Int -> List Int -> Int -> Int -> Option (Int)
 | 0, _, _, _, _ => none
 | k + 1, x3, x6, x7, x8 => if x8 < x7 then (if 0 <= x8 then (if x8 < (x6.length : Int) then (bC.l0 k (Go.bits .or .i64 x3 (shl .i64 (rd x6 x8) x8)) x6 x7 (wrap64 (x8 + 1))) else (none)) else (none)) else (some x3)
def bC.f (k : Nat) (l0 : List Int) : Option (Int) := bC.l0 k 0 l0 (l0.length : Int) 0
theorem bC.mono_l : ∀ k, (∀ y0 y1 y2 y3, dO (bC.l0 k y0 y1 y2 y3) (bC.l0 (k + 1) y0 y1 y2 y3))
 | 0 => fun _ _ _ _ r h => by simp [bC.l0] at h
 | k + 1 => by
  have ja := bC.mono_l k
  intros
  first | unfold bC.l0
  exact BA ja
theorem bC.mono : ∀ a0 k, dO (bC.f k a0) (bC.f (k + 1) a0) := by
 intro a0 k
 have ja := bC.mono_l k
 unfold bC.f
 exact BA ja
theorem bC.calls (k : Nat) (A0 : Option Addr) (c0 : Nat) (l0 : List Int) (r : Int) (w : World) (hr0 : Kd.C (Kd.int .i64) w A0 l0.length l0) (hc0 : l0.length <= c0) (h : bC.f k l0 = some r) :
 Calls Try.prog 49 #[.slice A0 l0.length c0] w fun e w' => e = .returned (.int .i64 r) /\ lY w w' := by
 have DI := aa.mk hr0
 have ZU := aa.mk hc0
 clear hr0 hc0
 have H := h
 clear h
 unfold bC.f at H
 have H' := aa.mk H
 clear H
 go_enter Try.func49, Try.ntmps49
 go_wp2
 go_loopg [3, 8] k (fun kq v3 v8 w' => ∃ (ky : Int) (d9 : Int), v3 = .int .i64 ky /\ v8 = .int .i64 d9 /\ aa (bC.l0 kq ky l0 (l0.length : Int) d9 = some r) /\ aa (kq <= k) /\ lY w w')
 case atStart => exact ⟨(0), (0), RG, RG, H', ⟨Nat.le_refl _⟩, DR⟩
 clear H'
 obtain ⟨ky, d9, rfl, rfl, HA, iB, ⟨m1, rfl⟩⟩ := hrel
 cases gk with
 | zero => exact absurd HA.1 (by simp [bC.l0])
 | succ k1 => ?_
 have H := HA.1
 clear HA
 simp only [bC.l0] at H
 replace H := pu H; rcases H with ⟨c2b0, H⟩ | ⟨c2b0, H⟩
 · replace H := ji H; obtain ⟨c3b0, H⟩ := H
   replace H := ji H; obtain ⟨c4b0, H⟩ := H
   have c5b0 := eq_true (OD : 0 <= d9)
   obtain ⟨ji6, adc⟩ : ∃ j_ : Int, (shl .i64 (rd l0 d9) d9) = j_ := ⟨_, rfl⟩
   replace H : (bC.l0 k1 (Go.bits .or .i64 ky (ji6)) l0 (l0.length : Int) (wrap64 (d9 + 1))) = some r := by first | (rw [adc] at H; exact H) | (simp only [adc] at H ⊢; exact H)
   have axj : (IntKind.i64.wrap ((rd l0 d9) * 2 ^ min d9.toNat 64)) = ji6 := adc
   have hji6z : d9 <= 64 -> (IntKind.i64.wrap ((rd l0 d9) * 2 ^ d9.toNat)) = ji6 := CO adc
   have hji6y : (wrap64 ((rd l0 d9) * 2 ^ min d9.toNat 64)) = ji6 := (cz _).symm.trans axj
   have hji6x : d9 <= 64 -> (wrap64 ((rd l0 d9) * 2 ^ d9.toNat)) = ji6 := fun h_ => (cz _).symm.trans (hji6z h_)
   have H' := aa.mk H
   clear H
   have apx : 0 <= (d9 : Int) := OD
   have apy : d9 < (l0.length : Int) := OD
   obtain ⟨aMl, aGW, aBy⟩ := Kd.dx DI.1 d9 apx apy
   cases aGW
   replace apx := eq_true apx
   replace apy := eq_true apy
   go_wp2
   go_roundg k1
   case measure => have := iB.1; omega
   case rel => exact ⟨(Go.bits .or .i64 ky (ji6)), (wrap64 (d9 + 1)), (by first | rfl | (simp; done) | (simp only [<- adc] <;> (first | rfl | simp)) | (simp [*]; done)), RG, H', ⟨by have := iB.1; omega⟩, DR⟩
 obtain rfl := Option.some.inj H
 go_wp2
 go_ret
 exact ⟨RG, DR⟩
def fM.f (ah : Int) (af : Int) (ae : List (fq)) : Option (Int × Int × (List (fq))) := (some (([] : List (fq)) : List (fq))).bind fun ade => (if ade.length + ae.length < 8796093022208 then (some (ah, af, (ade ++ ae))) else (none))
def fM.T1 : Bool × List (List Nat × List Nat) := (true, [([], []), ([0], [0]), ([], []), ([2], [2]), ([], []), ([], []), ([5], [5]), ([4, 6], [4, 6]), ([1, 3, 7], [1, 3, 7]), ([8, 7, 0, 1, 2, 3, 4, 5, 6, 7, 8], [8])])
def fM.B1 : List Nat := [0, 1, 0, 4, 0, 0, 32, 112, 255, 511]
theorem fM.aby : mX .any (opsOf Try.f75 1) = fM.T1 := by kernel_rfl
theorem fM.bits1 : kr fM.T1.2 fM.B1 = true := by kernel_rfl
theorem fM.calls (ah : Int) (af : Int) (aK : Option Addr) (aJ : Nat) (ae : List (fq)) (r1 : Int) (r2 : Int) (r3 : List (fq)) (w : World) (dH : Kd.C jZ w aK ae.length ae) (dG : ae.length <= aJ) (h : fM.f ah af ae = some (r1, r2, r3)) :
 Calls Try.prog 75 #[.agg #[.int .i64 ah, .int .i64 af, .slice aK ae.length aJ]] w fun e w' => ∃ VK : Value, e = .returned (.agg #[.int .i64 r1, .int .i64 r2, VK]) /\ Kd.R jZ 83 w' w.heap.size (fun _ => True) VK r3 /\ Below w.heap.size w w' := by
 have nH := Try.underlying30
 have bD := aa.mk dH
 have cO := aa.mk dG
 clear dH dG
 have HB := aa.mk (Below.refl w.heap.size w)
 have H := h
 clear h
 unfold fM.f at H
 replace H := nR H; obtain ⟨ade, ak8, H⟩ := H
 replace H := oC H; obtain ⟨c2, H⟩ := H
 have abz := aa.mk c2
 clear c2
 generalize ak9 : ((ade ++ ae) : List (fq)) = aGX at H
 have axk := aa.mk ak9.symm; clear ak9
 simp only [Option.some.injEq, Prod.mk.injEq] at H
 obtain ⟨rfl, rfl, rfl⟩ := H
 go_enter Try.func75, Try.ntmps75
 try go_wp2_with (first | ((with_reducible refine aC (N := 1) rfl ?_); refine dN (cs := #[.int .i64 ah, .int .i64 af, .slice aK ae.length aJ]) (t := 30) ?_; intro adf hg w3 hbox hb; refine mJ HB.1 hg hbox hb ?_; clear HB; intro HB oI aMm aMn; clear hb hbox hg) | ((with_reducible refine aC (N := 2) rfl ?_); refine dN (cs := #[.int .i64 0, .int .i64 0, .slice none 0 0]) (t := 30) ?_; intro Xf hg w4 hbox hb; refine E7 (bB oI.1 hb) (bS HB.1 hb) (hbox) (gX HB.1 hg) (gX HB.1 hg) (nB oI.1 hg) (nC oI.1 hg) ?_; clear oI HB; intro oI HB yl aMo aMp Dr Zi; clear hb hbox hg))
 refine E3 (ag oI.1) (ag yl.1) (dm HB.1) ?_
 clear oI yl HB
 intro oI yl HB
 refine jN (n := 10) (S := fun w' => w'.cell? ⟨adf, 0, none⟩ = some (.int .i64 ah) /\ w'.cell? ⟨adf, 1, none⟩ = some (.int .i64 af) /\ w'.cell? ⟨adf, 2, none⟩ = some (.slice aK ae.length aJ)) (ds := []) #[Zz,Zz,Zz,Zz,Zz,Zz,Zz,Zz,Zz,Zz] (by kernel_rfl) rfl rfl ⟨(ai oI.1 0).trans rfl, (ai oI.1 1).trans rfl, (ai oI.1 2).trans rfl⟩ (fun hHeld => ?_); refine iq fM.aby fM.bits1 (fun HT_ HW_ => ?_)
 generalize w4.drew = w5 at oI yl HB hHeld ⊢
 refine aU 0 (N := some 3) HT_.1 ?_
 refine aU 2 (N := some 5) HT_.1 ?_
 refine aU 5 (N := some 8) HT_.1 ?_
 refine gF 1 (N := some 4) HT_.1 HW_.1 hHeld ?_
 refine gF 3 (N := some 6) HT_.1 HW_.1 hHeld ?_
 refine gF 6 (N := some 9) HT_.1 HW_.1 hHeld ?_
 refine mV (i := 4) (N := some 7) #[Yy,Yy,Yy,Yy,Yy,Yy,Yy,Zz,Zz,Zz] rfl rfl (jc HT_.1 (by kernel_rfl)) (by decide) (fun K hK => ?_)
 refine KH jZ _ 83 ?hg (N := 7) ?hd (xs := ([] : List (fq))) (inner := []) (ok := fun _ => True) (okp := fun _ => True) ?hr ?hp (fun _ hk => hk) trivial (Below.refl _ _) (Nat.le_refl _) (by simp) ?_; (case hd => rfl); (case hg => rfl); (case hr => first | (go_simp; done) | (go_simp; rfl)); (case hp => exact (fK.none _ _))
 intro aGY w6 yY hb hg_ hnew_
 clear hg_ hnew_
 (first | rw [<- ak8.1] at yY | (simp only [Int.reduceToNat] at yY; rw [<- ak8.1] at yY))
 refine E4 (bN yY (bZ HB.1)) (bB oI.1 hb) (bB yl.1 hb) (bS HB.1 hb) ?_
 clear oI yl HB
 intro Xg oI yl HB
 clear hb yY
 refine hK.out _ _ ⟨(ai oI.1 0).trans rfl, (ai oI.1 1).trans rfl, (ai oI.1 2).trans rfl⟩ (fun hHeld => ?_)
 clear hK K
 refine eX (a' := ?_) ?_ ?_
 rotate_left
 · show Act.put _ (some 7) _ = _
   simp only [Act.put, List.setIfInBounds_toArray, List.set_cons_zero, List.set_cons_succ, cz, dF]
   rfl
 refine mV (i := 7) (N := some 10) #[Yy,Yy,Yy,Yy,Yy,Yy,Yy,Yy,Zz,Zz] rfl rfl (jc HT_.1 (by kernel_rfl)) (by decide) (fun K hK => ?_)
 refine xc jZ (w0 := w) w.heap.size (by rfl) (.tmp 7) (.tmp 9) 28 83 (.agg #[(.int .i64 0), (.int .i64 0)]) 16 rfl Try.underlying28 Tc rfl (by decide) (by omega) aGY ade ae _ _ _ (fun _ => True) (fun _ => False) rfl rfl ?aO ?aR (fun _ _ h => h) (fun _ h => h.elim) ?aF ?aB ?aS ?aL ?_
 (case aR => repeat (first | exact (aY bD.1 HB.1) | (with_reducible refine kg ?_ _) | (with_reducible refine ko ?_ _) | (with_reducible refine kH ?_)))
 (case aB => exact (BL HB.1))
 (case aF => exact (fun _ _ => trivial))
 (case aO => exact (PR Xg.1))
 (case aS => exact (bZ HB.1))
 (case aL => have := abz.1; omega)
 intro aQi w8 ho hb hg hat
 rw [<- axk.1] at ho
 refine E4 (bG oI.1 hg (dK Xg.1 oI.1 (by decide))) (bG yl.1 hg (dK Xg.1 yl.1 (by decide))) (hb) (ho) ?_
 clear oI yl HB Xg
 intro oI yl HB ala
 clear ho hb hg hat
 obtain ⟨Ao9, ZI, Vm⟩ := bv ala.1
 (first | subst Vm | (injection Vm with rY zZ rZ; have z8 := rY.symm; have Aa := rZ.symm; clear rY zZ rZ; subst z8; subst Aa))
 refine hK.out _ _ ⟨(ai oI.1 0).trans rfl, (ai oI.1 1).trans rfl, (ai oI.1 2).trans rfl⟩ (fun hHeld => ?_)
 clear hK K
 refine eX (a' := ?_) ?_ ?_
 rotate_left
 · show Act.put _ (some 10) _ = _
   simp only [Act.put, List.setIfInBounds_toArray, List.set_cons_zero, List.set_cons_succ, cz, dF]
   rfl
 refine aU 8 (N := some 11) HT_.1 ?_
 refine mV (i := 9) (N := none) #[Yy,Yy,Yy,Yy,Yy,Yy,Yy,Yy,Yy,Yy] rfl rfl (jc HT_.1 (by kernel_rfl)) (by decide) (fun K hK => ?_)
 obtain ⟨aFe, aFf, aFg, auc, aud, aue⟩ := gB yl.1
 have afv := Dr.1
 have afw := Zi.1
 refine pF (w1 := ?_) (by rfl) rfl ?_ ?_
 rotate_left
 · go_simp
   rfl
 refine hK.out _ _ ⟨(rP Dr.1 hHeld.1), (rP Dr.1 hHeld.2.1), (rP Dr.1 hHeld.2.2)⟩ (fun hHeld => ?_)
 clear hK K
 refine lI (jS HT_.1 (by kernel_rfl)) ?_
 try go_wp2
 refine bodyPost_ret (results_cell_row rfl _ _ Xf 30 #[.int .i64 ah, .int .i64 af, .slice Ao9 aGX.length ZI] (0, 0) _ rfl (BB yl.1) Try.underlying30 rfl (by kernel_rfl)) rfl ?_
 exact ⟨_, RF, by (with_reducible repeat (first | apply aV | apply aW | apply aQ)); exact aG (RQ Xf 2 (RQ Xf 1 (RQ Xf 0 (bz ala.1 yl.1 (by decide)) _) _) _) (fun _ hk => trivial), BL HB.1⟩
theorem IX {w W : World} {S : Nat -> Prop} {ad : Addr} {n : Nat} {xs : List (List Int)} {i : Int} {A : Option Addr} {c : Nat}
 (hr : ∀ W_, Kept w W_ S -> Kd.C (Kd.slice 3 (Kd.int .i64)) W_ (some ad) n xs) (hk : Kept w W S) (h0 : 0 <= i) (h1 : i < n)
 (hx : W.cell? (ad.add i.toNat) = some (.slice A (aT xs i).length c)) : ∀ W_, Kept w W_ S -> Kd.C (Kd.int .i64) W_ A (aT xs i).length (aT xs i) := by
 obtain ⟨ad1, A1, c1, e1, hw, _, _⟩ := tT (hr w (Kept.refl w S)) i h0 h1
 cases e1
 have hne : ¬ S (ad.add i.toNat).block := by
  intro hS
  obtain ⟨ad2, A2, c2, e2, hw2, _, _⟩ := tT (hr _ ((Kept.refl w S).setCell (p := ad.add i.toNat) (.inl hS) (.int .i64 0))) i h0 h1
  cases e2
  rw [World.cell?_setCell_same' _ _ _ (by rw [hw]; rfl)] at hw2
  cases hw2
 have a1 := cell_kept hw hk hne
 rw [a1] at hx
 injection hx with hx
 injection hx with hA _ _
 intro W_ hk_
 obtain ⟨ad2, A2, c2, e2, hw2, _, hC2⟩ := tT (hr W_ hk_) i h0 h1
 cases e2
 have a2 := cell_kept hw hk_ hne
 rw [a2] at hw2
 injection hw2 with hw2
 injection hw2 with hA2 _ _
 rw [<- hA, hA2]
 exact hC2
mutual
def aM.l0 : Nat -> List Int -> List (List Int) -> Int -> Int -> Int -> Int -> List (fq) -> Option ((List (fq)))
 | 0, _, _, _, _, _, _, _ => none
 | k + 1, x2, j6, qR, pz, GJ, GK, tq => if pz < qR then (if 0 <= pz then (if pz < (j6.length : Int) then (if 0 < ((aT j6 pz).length : Int) then (if 0 <= (rd (aT j6 pz) 0) then (if (rd (aT j6 pz) 0) < (tq.length : Int) then (if pz < (x2.length : Int) then (if ((aj tq (rd (aT j6 pz) 0)).f1) = (rd x2 pz) then (aM.l0 k x2 j6 qR (wrap64 (pz + 1)) GJ GK tq) else (aM.l1 k x2 j6 qR pz (aT j6 pz) ((aT j6 pz).length : Int) 0 GJ GK tq)) else (none)) else (none)) else (none)) else (none)) else (none)) else (none)) else (some tq)
def aM.l1 : Nat -> List Int -> List (List Int) -> Int -> Int -> List Int -> Int -> Int -> Int -> Int -> List (fq) -> Option ((List (fq)))
 | 0, _, _, _, _, _, _, _, _, _, _ => none
 | k + 1, x2, j6, qR, pz, x30, x31, x32, GJ, GK, tq => if x32 < x31 then (if 0 <= x32 then (if x32 < (x30.length : Int) then (if 0 <= (rd x30 x32) then (if (rd x30 x32) < (tq.length : Int) then (aM.l1 k x2 j6 qR pz x30 x31 (wrap64 (x32 + 1)) GJ GK (tq.set ((rd x30 x32) : Int).toNat (⟨(aj tq (rd x30 x32)).f0, wrap64 (1 - ((aj tq (rd x30 x32)).f1))⟩ : fq))) else (none)) else (none)) else (none)) else (none)) else (aM.l0 k x2 j6 qR (wrap64 (pz + 1)) GJ GK tq)
end
def aM.f (k : Nat) (ah : Int) (af : Int) (ae : List (fq)) (l1 : List (List Int)) (l2 : List Int) : Option ((List (fq))) := aM.l0 k l2 l1 (l1.length : Int) 0 ah af ae
theorem aM.mono_l : ∀ k, (∀ y0 y1 y2 y3 y4 y5 y6, dO (aM.l0 k y0 y1 y2 y3 y4 y5 y6) (aM.l0 (k + 1) y0 y1 y2 y3 y4 y5 y6)) /\ (∀ y0 y1 y2 y3 y4 y5 y6 y7 y8 y9, dO (aM.l1 k y0 y1 y2 y3 y4 y5 y6 y7 y8 y9) (aM.l1 (k + 1) y0 y1 y2 y3 y4 y5 y6 y7 y8 y9))
 | 0 => by refine ⟨?_, ?_⟩ <;> (intros; intro r h; first | (simp [aM.l0] at h; done) | (simp [aM.l1] at h; done))
 | k + 1 => by
  obtain ⟨ja, ih1⟩ := aM.mono_l k
  refine ⟨?_, ?_⟩ <;> (
   intros
   first | unfold aM.l0 | unfold aM.l1
   exact Qj ja ih1)
theorem aM.mono : ∀ a0 a1 a2 a3 a4 k, dO (aM.f k a0 a1 a2 a3 a4) (aM.f (k + 1) a0 a1 a2 a3 a4) := by
 intro a0 a1 a2 a3 a4 k
 obtain ⟨ja, ih1⟩ := aM.mono_l k
 unfold aM.f
 exact Qj ja ih1
def aM.T4 : Bool × List (List Nat × List Nat) := (true, [([], []), ([0], [0]), ([], []), ([2], [2]), ([3], [3]), ([1, 4], [1, 4]), ([5], [5]), ([6], [6]), ([], []), ([], []), ([8, 9], [8, 9]), ([10], [10]), ([7, 11], [7, 11])])
def aM.B4 : List Nat := [0, 1, 0, 4, 12, 31, 63, 127, 0, 0, 768, 1792, 4095]
theorem aM.RU : mX .any (opsOf Try.f76 4) = aM.T4 := by kernel_rfl
theorem aM.bits4 : kr aM.T4.2 aM.B4 = true := by kernel_rfl
def aM.T8 : Bool × List (List Nat × List Nat) := (true, [([], []), ([0], [0]), ([], []), ([], []), ([3], [3]), ([], []), ([4, 5], [4, 5]), ([6], [6]), ([7], [7]), ([8], [8]), ([1, 2, 0, 1, 2, 3, 4, 5, 6, 7, 8, 9], [1, 2]), ([10, 0, 1, 2, 3, 4, 5, 6, 7, 8, 9], [10]), ([11, 9, 0, 1, 2, 3, 4, 5, 6, 7, 8, 9], [9, 11])])
def aM.B8 : List Nat := [0, 1, 0, 0, 8, 0, 56, 120, 248, 504, 1023, 2047, 4095]
theorem aM.afG : mX .any (opsOf Try.f76 8) = aM.T8 := by kernel_rfl
theorem aM.bits8 : kr aM.T8.2 aM.B8 = true := by kernel_rfl
theorem aM.calls (k : Nat) (ah : Int) (af : Int) (cu : Nat -> Prop) (iH : Value) (ae : List (fq)) (A1 : Option Addr) (c1 : Nat) (l1 : List (List Int)) (A2 : Option Addr) (c2 : Nat) (l2 : List Int) (r : List (fq)) (w0 w : World) (hB : Below w0.heap.size w0 w) (BN : Kd.R jZ 83 w w0.heap.size cu iH ae) (hr1 : ∀ W_, Kept w W_ (fun k_ => cu k_) -> Kd.C (Kd.slice 3 (Kd.int .i64)) W_ A1 l1.length l1) (hc1 : l1.length <= c1) (hr2 : ∀ W_, Kept w W_ (fun k_ => cu k_) -> Kd.C (Kd.int .i64) W_ A2 l2.length l2) (hc2 : l2.length <= c2) (h : aM.f k ah af ae l1 l2 = some r) :
 Calls Try.prog 76 #[.agg #[.int .i64 ah, .int .i64 af, iH], .slice A1 l1.length c1, .slice A2 l2.length c2] w fun e w' => e = .returned (.tuple #[]) /\ Kd.R jZ 83 w' w0.heap.size (fun k_ => (cu k_ ∨ w.heap.size <= k_)) iH r /\ Below w0.heap.size w0 w' /\ Kept w w' (fun k_ => cu k_) := by
 have nH := Try.underlying30
 have fB := aa.mk (show Kd.R jZ 83 w w0.heap.size (fun k_ => (cu k_ ∨ w.heap.size <= k_)) iH ae from aG BN (fun k_ hk => (.inl hk)))
 have HR1 := aa.mk hr1
 have vD := aa.mk hc1
 clear hr1 hc1
 have HR2 := aa.mk hr2
 have HC2 := aa.mk hc2
 clear hr2 hc2
 have HK := aa.mk (Kept.refl w (fun k_ => cu k_))
 have HW0 := aa.mk hB.size
 have HB := aa.mk hB
 clear hB
 have H := h
 clear h
 unfold aM.f at H
 have H' := aa.mk H
 clear H
 obtain ⟨SB, yK, eo4⟩ := bv fB.1
 subst eo4
 go_enter Try.func76, Try.ntmps76
 go_wp2_with (first | ((with_reducible refine aC (N := 3) rfl ?_); refine dN (cs := #[.int .i64 ah, .int .i64 af, .slice SB ae.length yK]) (t := 30) ?_; intro zC hg w5 hbox hb; refine E6 (rB fB.1 hb) (Kept.below (S := (fun k_ => cu k_)) (KL HK.1) hb) (bS HB.1 hb) (hbox) ((by rw [hg]; exact (by first | exact HK.1.1 | exact (show Kept w _ (fun k_ => cu k_) from KL HK.1).1) : w.heap.size <= zC)) (Qm hg (bZ HB.1) : w0.heap.size <= zC) ?_; clear fB HK HB; intro fB HK HB mO alb aMq; clear hb hbox hg))
 go_loopg [12] k (fun kq v12 w' => ∃ (bK : Int) (lg : List (fq)), v12 = .int .i64 bK /\ aa (aM.l0 kq l2 l1 (l1.length : Int) bK ah af lg = some r) /\ aa (kq <= k) /\ aa (Kd.R jZ 83 w' w0.heap.size (fun k_ => (cu k_ ∨ w.heap.size <= k_)) (.slice SB ae.length yK) lg) /\ aa (w'.heap[zC]? = some (.cells #[.int .i64 ah, .int .i64 af, (.slice SB ae.length yK)] 30 (0, 0))) /\ aa (Kept w w' (fun k_ => cu k_)) /\ aa (Below w0.heap.size w0 w'))
 case atStart => exact ⟨(0), (ae), RG, H', ⟨Nat.le_refl _⟩, ⟨PR fB.1⟩, ⟨PB mO.1⟩, ⟨KL HK.1⟩, ⟨BL HB.1⟩⟩
 clear H'
 try clear c1; try clear c2
 obtain ⟨bK, lg, rfl, HA, iB, HO_578002, mO, HK, HB⟩ := hrel
 have kM := (ay HO_578002.1).1
 rw [kM] at HO_578002
 (try simp only [kM])
 (try simp only [kM] at mO)
 cases gk with
 | zero => exact absurd HA.1 (by simp [aM.l0])
 | succ k1 => ?_
 have H := HA.1
 clear HA
 simp only [aM.l0] at H
 replace H := pu H; rcases H with ⟨c6b0, H⟩ | ⟨c6b0, H⟩
 · replace H := ji H; obtain ⟨c7b0, H⟩ := H
   replace H := ji H; obtain ⟨c8b0, H⟩ := H
   replace H := oC H; obtain ⟨c9, H⟩ := H
   have c9b0 := decide_eq_true c9
   have c9b1 : decide (0 < (aT l1 bK).length) = true := decide_eq_true (by omega)
   clear c9
   replace H := ji H; obtain ⟨c10b0, H⟩ := H
   replace H := ji H; obtain ⟨c11b0, H⟩ := H
   replace H := ji H; obtain ⟨c12b0, H⟩ := H
   replace H := oP H; rcases H with ⟨c13, H⟩ | ⟨c13, H⟩
   · have c13b0 := beq_iff_eq.mpr c13
     have c13b1 := bne_eq_false_iff_eq.mpr c13
     clear c13
     have H' := aa.mk H
     clear H
     have MH : 0 <= (bK : Int) := OD
     have MI : bK < (l1.length : Int) := OD
     obtain ⟨axl, apA, apB, apC, Kk, GL, GM⟩ := tT (kY HR1.1 HK.1) bK MH MI
     cases apC
     have lH := aa.mk GM
     have Xh := aa.mk (IX HR1.1 HK.1 MH MI Kk)
     have ag6 := aa.mk GL
     clear GM GL
     replace MH := eq_true MH
     replace MI := eq_true MI
     try go_wp2
     refine E5 (aQ HO_578002.1) (ag mO.1) (kH lH.1) (Kept.drew HK.1) (dm HB.1) ?_
     clear HO_578002 mO lH HK HB
     intro HO_578002 mO lH HK HB
     have RZ : 0 <= (0 : Int) := (by omega)
     have R3 : 0 < ((aT l1 bK).length : Int) := OD
     obtain ⟨R4, apD, uP⟩ := Kd.dx (by repeat (first | (with_reducible exact lH.1) | (with_reducible refine kg ?_ _) | (with_reducible refine ko ?_ _) | (with_reducible refine kH ?_) | exact lH.1)) 0 RZ R3
     cases apD
     have axm : (0 < (aT l1 bK).length) = True := eq_true (by omega)
     (try rw [show ((0 : Int)).toNat = 0 from rfl] at uP)
     (try rw [Addr.add_zero'] at uP)
     replace RZ := eq_true RZ
     replace R3 := eq_true R3
     have R5 : 0 <= ((rd (aT l1 bK) 0) : Int) := OD
     have R6 : (rd (aT l1 bK) 0) < (lg.length : Int) := OD
     obtain ⟨xu, apE, Bj, Bl⟩ := iP (ay HO_578002.1).2.2 (rd (aT l1 bK) 0) R5 R6
     cases apE
     replace R5 := eq_true R5
     replace R6 := eq_true R6
     have MJ : 0 <= (bK : Int) := OD
     have MK : bK < (l2.length : Int) := OD
     obtain ⟨adg, apF, Dt⟩ := Kd.dx (kY HR2.1 HK.1) bK MJ MK
     have ag7 := Dt
     cases apF
     replace MJ := eq_true MJ
     replace MK := eq_true MK
     refine jN (n := 13) (S := fun w' => w'.cell? ⟨zC, 0, none⟩ = some (.int .i64 ah) /\ w'.cell? ⟨zC, 1, none⟩ = some (.int .i64 af) /\ w'.cell? ⟨zC, 2, none⟩ = some (.slice (some xu) lg.length yK) /\ w'.cell? R4 = some (.int .i64 (rd (aT l1 bK) 0)) /\ w'.cell? (xu.add (((rd (aT l1 bK) 0)).toNat * 2)) = some (.int .i64 ((aj lg (rd (aT l1 bK) 0)).f0)) /\ w'.cell? ⟨(xu.add (((rd (aT l1 bK) 0)).toNat * 2)).block, (xu.add (((rd (aT l1 bK) 0)).toNat * 2)).off + 1, none⟩ = some (.int .i64 ((aj lg (rd (aT l1 bK) 0)).f1)) /\ w'.cell? (adg.add (bK).toNat) = some (.int .i64 (rd l2 bK))) (ds := []) #[Zz,Zz,Zz,Zz,Zz,Zz,Zz,Zz,Zz,Zz,Zz,Zz,Zz] (by kernel_rfl) rfl rfl ⟨(ai mO.1 0).trans rfl, (ai mO.1 1).trans rfl, (ai mO.1 2).trans rfl, uP, Bj, Bl, (Kd.qE (HR2.1 _ (by repeat (first | exact HK.1 | apply Kept.alloc | apply Kept.drewN | apply Kept.drew))) bK (of_eq_true MJ) (of_eq_true MK))⟩ (fun hHeld => ?_); refine iq aM.RU aM.bits4 (fun HT_ HW_ => ?_)
     generalize wr.drew = yM at HO_578002 mO lH HK HB uP Bj Bl Dt hHeld ⊢
     refine aU 0 (N := some 17) HT_.1 ?_
     refine aU 2 (N := some 19) HT_.1 ?_
     refine aU 3 (N := some 20) HT_.1 ?_
     refine aU 8 (N := some 25) HT_.1 ?_
     refine aU 9 (N := some 26) HT_.1 ?_
     refine aU 10 (N := some 27) HT_.1 ?_
     refine gF 1 (N := some 18) HT_.1 HW_.1 hHeld ?_
     refine gF 4 (N := some 21) HT_.1 HW_.1 hHeld ?_
     refine aU 5 (N := some 22) HT_.1 ?_
     refine aU 6 (N := some 23) HT_.1 ?_
     refine gF 7 (N := some 24) HT_.1 HW_.1 hHeld ?_
     refine gF 11 (N := some 28) HT_.1 HW_.1 hHeld ?_
     refine aU 12 (N := some 29) HT_.1 ?_
     refine lI (jS HT_.1 (by kernel_rfl)) ?_
     try go_wp2
     (try simp only [<- kM])
     go_roundg k1
     case measure => have := iB.1; omega
     case rel => exact ⟨(wrap64 (bK + 1)), (lg), RG, H', ⟨by have := iB.1; omega⟩, ⟨ER HO_578002.1 kM⟩, ⟨Er mO.1 kM⟩, ⟨KL HK.1⟩, ⟨BL HB.1⟩⟩
   have c13b0 := beq_eq_false_iff_ne.mpr c13
   have c13b1 := bne_iff_ne.mpr c13
   have H' := aa.mk H
   clear H
   have MH : 0 <= (bK : Int) := OD
   have MI : bK < (l1.length : Int) := OD
   obtain ⟨axl, apA, apB, apC, Kk, GL, GM⟩ := tT (kY HR1.1 HK.1) bK MH MI
   cases apC
   have lH := aa.mk GM
   have Xh := aa.mk (IX HR1.1 HK.1 MH MI Kk)
   have ag6 := aa.mk GL
   clear GM GL
   replace MH := eq_true MH
   replace MI := eq_true MI
   try go_wp2
   refine E5 (aQ HO_578002.1) (ag mO.1) (kH lH.1) (Kept.drew HK.1) (dm HB.1) ?_
   clear HO_578002 mO lH HK HB
   intro HO_578002 mO lH HK HB
   have RZ : 0 <= (0 : Int) := (by omega)
   have R3 : 0 < ((aT l1 bK).length : Int) := OD
   obtain ⟨R4, apD, uP⟩ := Kd.dx (by repeat (first | (with_reducible exact lH.1) | (with_reducible refine kg ?_ _) | (with_reducible refine ko ?_ _) | (with_reducible refine kH ?_) | exact lH.1)) 0 RZ R3
   cases apD
   have axm : (0 < (aT l1 bK).length) = True := eq_true (by omega)
   (try rw [show ((0 : Int)).toNat = 0 from rfl] at uP)
   (try rw [Addr.add_zero'] at uP)
   replace RZ := eq_true RZ
   replace R3 := eq_true R3
   have R5 : 0 <= ((rd (aT l1 bK) 0) : Int) := OD
   have R6 : (rd (aT l1 bK) 0) < (lg.length : Int) := OD
   obtain ⟨xu, apE, Bj, Bl⟩ := iP (ay HO_578002.1).2.2 (rd (aT l1 bK) 0) R5 R6
   cases apE
   replace R5 := eq_true R5
   replace R6 := eq_true R6
   have MJ : 0 <= (bK : Int) := OD
   have MK : bK < (l2.length : Int) := OD
   obtain ⟨adg, apF, Dt⟩ := Kd.dx (kY HR2.1 HK.1) bK MJ MK
   have ag7 := Dt
   cases apF
   replace MJ := eq_true MJ
   replace MK := eq_true MK
   refine jN (n := 13) (S := fun w' => w'.cell? ⟨zC, 0, none⟩ = some (.int .i64 ah) /\ w'.cell? ⟨zC, 1, none⟩ = some (.int .i64 af) /\ w'.cell? ⟨zC, 2, none⟩ = some (.slice (some xu) lg.length yK) /\ w'.cell? R4 = some (.int .i64 (rd (aT l1 bK) 0)) /\ w'.cell? (xu.add (((rd (aT l1 bK) 0)).toNat * 2)) = some (.int .i64 ((aj lg (rd (aT l1 bK) 0)).f0)) /\ w'.cell? ⟨(xu.add (((rd (aT l1 bK) 0)).toNat * 2)).block, (xu.add (((rd (aT l1 bK) 0)).toNat * 2)).off + 1, none⟩ = some (.int .i64 ((aj lg (rd (aT l1 bK) 0)).f1)) /\ w'.cell? (adg.add (bK).toNat) = some (.int .i64 (rd l2 bK))) (ds := []) #[Zz,Zz,Zz,Zz,Zz,Zz,Zz,Zz,Zz,Zz,Zz,Zz,Zz] (by kernel_rfl) rfl rfl ⟨(ai mO.1 0).trans rfl, (ai mO.1 1).trans rfl, (ai mO.1 2).trans rfl, uP, Bj, Bl, (Kd.qE (HR2.1 _ (by repeat (first | exact HK.1 | apply Kept.alloc | apply Kept.drewN | apply Kept.drew))) bK (of_eq_true MJ) (of_eq_true MK))⟩ (fun hHeld => ?_); refine iq aM.RU aM.bits4 (fun HT_ HW_ => ?_)
   generalize wr.drew = NU at HO_578002 mO lH HK HB uP Bj Bl Dt hHeld ⊢
   refine aU 0 (N := some 17) HT_.1 ?_
   refine aU 2 (N := some 19) HT_.1 ?_
   refine aU 3 (N := some 20) HT_.1 ?_
   refine aU 8 (N := some 25) HT_.1 ?_
   refine aU 9 (N := some 26) HT_.1 ?_
   refine aU 10 (N := some 27) HT_.1 ?_
   refine gF 1 (N := some 18) HT_.1 HW_.1 hHeld ?_
   refine gF 4 (N := some 21) HT_.1 HW_.1 hHeld ?_
   refine aU 5 (N := some 22) HT_.1 ?_
   refine aU 6 (N := some 23) HT_.1 ?_
   refine gF 7 (N := some 24) HT_.1 HW_.1 hHeld ?_
   refine gF 11 (N := some 28) HT_.1 HW_.1 hHeld ?_
   refine aU 12 (N := some 29) HT_.1 ?_
   refine lI (jS HT_.1 (by kernel_rfl)) ?_
   try go_wp2
   generalize Value.pointer (some ⟨(xu.add (((rd (aT l1 bK) 0)).toNat * 2)).block, (xu.add (((rd (aT l1 bK) 0)).toNat * 2)).off + 1, none⟩) = aQk
   generalize Value.pointer (some (xu.add (((rd (aT l1 bK) 0)).toNat * 2))) = aQl
   go_loopg [32] k1 (fun kq v32 w' => ∃ (lK : Int) (jA : List (fq)), v32 = .int .i64 lK /\ aa (aM.l1 kq l2 l1 (l1.length : Int) bK (aT l1 bK) ((aT l1 bK).length : Int) lK ah af jA = some r) /\ aa (kq <= k1) /\ aa (Kd.R jZ 83 w' w0.heap.size (fun k_ => (cu k_ ∨ w.heap.size <= k_)) (.slice (some xu) lg.length yK) jA) /\ aa (w'.heap[zC]? = some (.cells #[.int .i64 ah, .int .i64 af, (.slice (some xu) lg.length yK)] 30 (0, 0))) /\ aa (Kd.C (Kd.int .i64) w' (some R4) (aT l1 bK).length (aT l1 bK)) /\ aa (Kept w w' (fun k_ => cu k_)) /\ aa (Below w0.heap.size w0 w'))
   case atStart => exact ⟨(0), (lg), RG, H', ⟨Nat.le_refl _⟩, ⟨ER HO_578002.1 kM⟩, ⟨Er mO.1 kM⟩, ⟨by repeat (first | (with_reducible exact lH.1) | (with_reducible refine kg ?_ _) | (with_reducible refine ko ?_ _) | (with_reducible refine kH ?_) | exact lH.1)⟩, ⟨KL HK.1⟩, ⟨BL HB.1⟩⟩
   clear H'
   try clear c13; try clear Kk; try clear uP; try clear Bj; try clear Bl; try clear Dt; try clear MH; try clear RZ; try clear R5; try clear MJ; try clear MI; try clear R3; try clear R6; try clear MK; clear c6b0 c7b0 c8b0 c9b0 c9b1 c10b0 c11b0 c12b0 c13b0 c13b1
   obtain ⟨lK, jA, rfl, HA, nG, HO_578002, mO, lH, HK, HB⟩ := hrel
   have ou := (ay HO_578002.1).1
   rw [ou] at HO_578002
   (try simp only [ou])
   (try simp only [ou] at mO)
   cases gk with
   | zero => exact absurd HA.1 (by simp [aM.l1])
   | succ k2 => ?_
   have H := HA.1
   clear HA
   simp only [aM.l1] at H
   replace H := pu H; rcases H with ⟨c16b0, H⟩ | ⟨c16b0, H⟩
   · replace H := ji H; obtain ⟨c17b0, H⟩ := H
     replace H := ji H; obtain ⟨c18b0, H⟩ := H
     replace H := ji H; obtain ⟨c19b0, H⟩ := H
     replace H := ji H; obtain ⟨c20b0, H⟩ := H
     generalize alc : ((jA.set ((rd (aT l1 bK) lK) : Int).toNat (⟨(aj jA (rd (aT l1 bK) lK)).f0, wrap64 (1 - ((aj jA (rd (aT l1 bK) lK)).f1))⟩ : fq)) : List (fq)) = aGZ at H
     have axn := aa.mk alc.symm; clear alc
     have H' := aa.mk H
     clear H
     have apG : 0 <= (lK : Int) := OD
     have apH : lK < ((aT l1 bK).length : Int) := OD
     obtain ⟨axo, aG0, aBz⟩ := Kd.dx lH.1 lK apG apH
     obtain rfl : R4 = axo := (by injection aG0)
     replace apG := eq_true apG
     replace apH := eq_true apH
     try go_wp2
     refine E5 (aQ HO_578002.1) (ag mO.1) (kH lH.1) (Kept.drew HK.1) (dm HB.1) ?_
     clear HO_578002 mO lH HK HB
     intro HO_578002 mO lH HK HB
     have apI : 0 <= ((rd (aT l1 bK) lK) : Int) := OD
     have apJ : (rd (aT l1 bK) lK) < (jA.length : Int) := OD
     obtain ⟨axp, aG1, Pw, Px⟩ := iP (ay HO_578002.1).2.2 (rd (aT l1 bK) lK) apI apJ
     obtain rfl : xu = axp := (by injection aG1)
     replace apI := eq_true apI
     replace apJ := eq_true apJ
     have p21 : 0 <= ((rd (aT l1 bK) lK) : Int) := OD
     have q21 : ((rd (aT l1 bK) lK) : Int) < ((jA.length : Int) : Int) := OD
     obtain ⟨Py, aQm, axq, axr, aG4, aQn, axs⟩ := mQ HO_578002.1 (by omega)
     (first | cases axq | (injection axq with ea_ en_ ec_; (first | subst ea_ | (injection ea_ with ea_; subst ea_)); subst ec_; clear en_))
     have aQo := aa.mk axr
     have aG5 := aa.mk axs
     clear axr aG4 axs
     have HMgo21 := aa.mk (show (cu Py ∨ w.heap.size <= Py) from (HO_578002.1.1 _ rfl))
     (first | simp only [add_plain] at Bj | skip)
     (first | simp only [add_plain] at Bl | skip)
     (first | simp only [add_plain] at Pw | skip)
     (first | simp only [add_plain] at Px | skip)
     obtain ⟨aQp, axt, axu, adh, adi⟩ := nz HO_578002.1 z83 ((rd (aT l1 bK) lK) : Int) p21 q21
     obtain rfl := jY axu
     have apK : World.cell? _ ⟨Py, ((rd (aT l1 bK) lK) : Int).toNat * 2, none⟩ = some (.int .i64 ((aj jA (rd (aT l1 bK) lK)).f0)) := adh 0 _ rfl
     have apL : World.cell? _ ⟨Py, ((rd (aT l1 bK) lK) : Int).toNat * 2 + 1, none⟩ = some (.int .i64 ((aj jA (rd (aT l1 bK) lK)).f1)) := adh 1 _ rfl
     have apM : World.frozen? _ ⟨Py, ((rd (aT l1 bK) lK) : Int).toNat * 2, none⟩ = false := adi 0
     have apN : World.frozen? _ ⟨Py, ((rd (aT l1 bK) lK) : Int).toNat * 2 + 1, none⟩ = false := adi 1
     (try clear axu); clear axt adh adi
     replace p21 := eq_true p21
     replace q21 := eq_true q21
     obtain ⟨aQq, ald, axv, ale, axw⟩ := nz HO_578002.1 z83 ((rd (aT l1 bK) lK) : Int) (OD) (by have h_ : ((rd (aT l1 bK) lK) : Int) < ((jA.length : Int) : Int) := OD; first | exact h_ | (have e_ := (ay HO_578002.1).1; omega) | simpa using h_)
     obtain rfl := jY axv
     have apO := (DZ HO_578002.1 ((rd (aT l1 bK) lK) : Int) (OD) (by have h_ : ((rd (aT l1 bK) lK) : Int) < ((jA.length : Int) : Int) := OD; first | exact h_ | (have e_ := (ay HO_578002.1).1; omega) | simpa using h_) (seg := [.int .i64 (wrap64 (1 - ((aj jA (rd (aT l1 bK) lK)).f1)))]) (j := 1) ald ale (show 2 <= 2 from by decide) (x' := (⟨(aj jA (rd (aT l1 bK) lK)).f0, wrap64 (1 - ((aj jA (rd (aT l1 bK) lK)).f1))⟩ : fq)) (uE _ _ _ (⟨(aj jA (rd (aT l1 bK) lK)).f0, wrap64 (1 - ((aj jA (rd (aT l1 bK) lK)).f1))⟩ : fq) ) (fun _ hk => hk)).1
     rw [<- axn.1] at apO
     have axx := aa.mk apO
     (try clear axv); clear ald ale axw apO
     refine jN (n := 13) (S := fun w' => w'.cell? ⟨zC, 0, none⟩ = some (.int .i64 ah) /\ w'.cell? ⟨zC, 1, none⟩ = some (.int .i64 af) /\ w'.cell? ⟨zC, 2, none⟩ = some (.slice (some ⟨Py, 0, none⟩) jA.length yK) /\ w'.cell? ⟨Py, ((rd (aT l1 bK) lK)).toNat * 2, none⟩ = some (.int .i64 ((aj jA (rd (aT l1 bK) lK)).f0)) /\ w'.cell? ⟨Py, ((rd (aT l1 bK) lK)).toNat * 2 + 1, none⟩ = some (.int .i64 ((aj jA (rd (aT l1 bK) lK)).f1))) (ds := [12]) #[Zz,Zz,Zz,Zz,Zz,Zz,Zz,Zz,Zz,Zz,Zz,Zz,Zz] (by kernel_rfl) rfl rfl ⟨(ai mO.1 0).trans rfl, (ai mO.1 1).trans rfl, (ai mO.1 2).trans rfl, Pw, Px⟩ (fun hHeld => ?_); refine iq aM.afG aM.bits8 (fun HT_ HW_ => ?_)
     generalize wr.drew = BM at HO_578002 mO lH HK HB aG5 axx apM apN apK apL Pw Px hHeld ⊢
     refine aU 0 (N := some 36) HT_.1 ?_
     refine aU 2 (N := some 38) HT_.1 ?_
     refine aU 3 (N := some 39) HT_.1 ?_
     refine aU 5 (N := some 41) HT_.1 ?_
     refine gF 1 (N := some 37) HT_.1 HW_.1 hHeld ?_
     refine gF 4 (N := some 40) HT_.1 HW_.1 hHeld ?_
     refine aU 6 (N := some 42) HT_.1 ?_
     refine aU 7 (N := some 43) HT_.1 ?_
     refine gF 8 (N := some 44) HT_.1 HW_.1 hHeld ?_
     refine aU 9 (N := some 45) HT_.1 ?_
     refine aU 10 (N := some 46) HT_.1 ?_
     refine aU 11 (N := some 47) HT_.1 ?_
     refine BD (i := 12) (N := none) #[Yy,Yy,Yy,Yy,Yy,Yy,Yy,Yy,Yy,Yy,Yy,Yy,Yy] rfl rfl (jc HT_.1 (by kernel_rfl)) (by decide) (fun K hK => ?_)
     refine pF (w1 := ?_) (by rfl) rfl ?_ ?_
     rotate_left
     · go_simp
       rfl
     refine hK.out _ _ ?_
     clear hK K
     refine lI (jS HT_.1 (by kernel_rfl)) ?_
     try go_wp2
     (try simp only [<- ou])
     go_roundg k2
     case measure => have := iB.1; have := nG.1; omega
     case rel => exact ⟨(wrap64 (lK + 1)), (aGZ), RG, H', ⟨by have := iB.1; have := nG.1; omega⟩, ⟨MZ axx.1 kM ou⟩, ⟨by (try simp only [kM]); (try simp only [ou]); (with_reducible repeat (first | refine ak ?_ _ | refine ag ?_ | refine au ?_ _)); refine bu ?_ (by have h_ := dK HO_578002.1 mO.1 (by decide); intro e_; exact h_ (by rw [e_]; rfl)) _; (with_reducible repeat (first | refine ak ?_ _ | refine ag ?_ | refine au ?_ _)); exact mO.1⟩, ⟨Xh.1 _ (by repeat (first | (with_reducible first | exact HK.1 | apply Kept.alloc | apply Kept.drewN | apply Kept.drew | refine Kept.setCell ?_ HMgo21.1 _ | refine Kept.setCell ?_ (.inr alb.1) _) | exact HK.1))⟩, ⟨by repeat (first | (with_reducible first | exact HK.1 | apply Kept.alloc | apply Kept.drewN | apply Kept.drew | refine Kept.setCell ?_ HMgo21.1 _ | refine Kept.setCell ?_ (.inr alb.1) _) | exact HK.1)⟩, ⟨BL HB.1⟩⟩
   have H' := aa.mk H
   clear H
   go_wp2
   (try simp only [<- kM, <- ou])
   go_roundg k2
   case measure => have := iB.1; have := nG.1; omega
   case rel => exact ⟨(wrap64 (bK + 1)), (jA), RG, H', ⟨by have := iB.1; have := nG.1; omega⟩, ⟨MZ HO_578002.1 kM ou⟩, ⟨HY mO.1 kM ou⟩, ⟨KL HK.1⟩, ⟨BL HB.1⟩⟩
 obtain rfl := Option.some.inj H
 go_wp2
 first | go_end0 | ((try simp only [Exit.inBlock, Exit.then]); refine bodyPost_ret (results_none rfl _ _ _) rfl ?_)
 exact ⟨RF, (by first | exact (PR HO_578002.1) | (simp only [kM]; exact (PR HO_578002.1))), BL HB.1, KL HK.1⟩
def dA.l0 : Nat -> Int -> List Int -> Int -> Int -> Option (List Int)
 | 0, _, _, _, _ => none
 | k + 1, x0, x5, j6, qR => if qR < j6 then (if 0 <= qR then (if qR < (x5.length : Int) then (dA.l0 k x0 (x5.set (qR : Int).toNat (Go.bits .and .i64 (shr .i64 x0 qR) 1)) j6 (wrap64 (qR + 1))) else (none)) else (none)) else (some x5)
def dA.f (k : Nat) (a0 : Int) (a1 : Int) : Option (List Int) := if 0 <= a1 then (if (a1 : Int).toNat <= 35184372088832 then ((some (List.replicate (a1 : Int).toNat 0 : List Int)).bind fun UR => (dA.l0 k a0 UR (UR.length : Int) 0)) else (none)) else (none)
theorem dA.mono_l : ∀ k, (∀ y0 y1 y2 y3, dO (dA.l0 k y0 y1 y2 y3) (dA.l0 (k + 1) y0 y1 y2 y3))
 | 0 => fun _ _ _ _ r h => by simp [dA.l0] at h
 | k + 1 => by
  have ja := dA.mono_l k
  intros
  first | unfold dA.l0
  exact BA ja
theorem dA.mono : ∀ a0 a1 k, dO (dA.f k a0 a1) (dA.f (k + 1) a0 a1) := by
 intro a0 a1 k
 have ja := dA.mono_l k
 unfold dA.f
 exact BA ja
theorem dA.calls (k : Nat) (a0 : Int) (a1 : Int) (r : List Int) (w : World) (h : dA.f k a0 a1 = some r) :
 Calls Try.prog 77 #[.int .i64 a0, .int .i64 a1] w fun e w' => ∃ rO : Value, e = .returned (rO) /\ Kd.R (Kd.int .i64) 3 w' w.heap.size (fun _ => True) rO r /\ Below w.heap.size w w' := by
 have HB := aa.mk (Below.refl w.heap.size w)
 have H := h
 clear h
 unfold dA.f at H
 replace H := oC H; obtain ⟨c3, H⟩ := H
 have c3b0 := eq_true c3
 have c3b1 := decide_eq_true c3
 clear c3
 replace H := oC H; obtain ⟨c4, H⟩ := H
 have c4b0 := eq_true c4
 have c4b1 := decide_eq_true c4
 clear c4
 replace H := nR H; obtain ⟨UR, alf, H⟩ := H
 have H' := aa.mk H
 clear H
 go_enter Try.func77, Try.ntmps77
 go_wp2_with (first | ((with_reducible refine aC (N := 8) rfl ?_); refine yH (Kd.int .i64) _ 3 rfl (N := 8) rfl 38 _ _ rfl a1 rfl rfl Try.underlying38 (.int .i64 0) 8 info3 rfl (by decide) (by omega) 0 (ok := fun _ => True) (okp := fun _ => True) rfl (fun _ hk => hk) trivial (OD) (Nat.le_trans (Nat.mul_le_mul_right _ (OD : a1.toNat <= 35184372088832)) (by omega)) (Below.refl _ _) (Nat.le_refl _) ?_; intro aQr w5 ho6 hb hg_ hnew_; clear hg_ hnew_; (first | rw [<- alf.1] at ho6 | (simp only [Int.reduceToNat] at ho6; rw [<- alf.1] at ho6)); refine E2 (bN ho6 (bZ HB.1)) (bS HB.1 hb) ?_; clear HB; intro alg HB; clear hb ho6; obtain ⟨Ao7, SI, eo7⟩ := bv alg.1; subst eo7))
 go_loopg [11] k (fun kq v11 w' => ∃ (bq : List Int) (iQ : Int), v11 = .int .i64 iQ /\ aa (dA.l0 kq a0 bq (UR.length : Int) iQ = some r) /\ aa (kq <= k) /\ aa (Kd.R (Kd.int .i64) 3 w' w.heap.size (fun _ => True) (.slice Ao7 UR.length SI) bq) /\ aa (Below w.heap.size w w'))
 case atStart => exact ⟨(UR), (0), RG, H', ⟨Nat.le_refl _⟩, ⟨PR alg.1⟩, ⟨BL HB.1⟩⟩
 clear H'
 clear c3b0 c3b1 c4b0 c4b1
 obtain ⟨bq, iQ, rfl, HA, iB, HO_5, HB⟩ := hrel
 have R7 := (ay HO_5.1).1
 rw [R7] at HO_5
 (try simp only [R7])
 cases gk with
 | zero => exact absurd HA.1 (by simp [dA.l0])
 | succ k1 => ?_
 have H := HA.1
 clear HA
 simp only [dA.l0] at H
 replace H := pu H; rcases H with ⟨c8b0, H⟩ | ⟨c8b0, H⟩
 · replace H := oC H; obtain ⟨c9, H⟩ := H
   have c9b0 := eq_true c9
   have c9b1 := decide_eq_true c9
   clear c9
   obtain ⟨sN, ze⟩ : ∃ j_ : Int, (shr .i64 a0 iQ) = j_ := ⟨_, rfl⟩
   replace H : (if iQ < (bq.length : Int) then (dA.l0 k1 a0 (bq.set (iQ : Int).toNat (Go.bits .and .i64 (sN) 1)) (UR.length : Int) (wrap64 (iQ + 1))) else (none)) = some r := by first | (rw [ze] at H; exact H) | (simp only [ze] at H ⊢; exact H)
   have aG6 : (a0 / 2 ^ min iQ.toNat 64) = sN := ze
   have hji10z : iQ <= 64 -> (a0 / 2 ^ iQ.toNat) = sN := M6 ze
   replace H := ji H; obtain ⟨c11b0, H⟩ := H
   generalize alh : ((bq.set (iQ : Int).toNat (Go.bits .and .i64 (sN) 1)) : List Int) = axz at H
   have axA := aa.mk alh.symm; clear alh
   have H' := aa.mk H
   clear H
   have SF : 0 <= (iQ : Int) := OD
   have SG : (iQ : Int) < ((bq.length : Int) : Int) := OD
   obtain ⟨tL, rM, vF, KV, TG, ano, KW⟩ := mQ HO_5.1 (by omega)
   (first | cases vF | (injection vF with ea_ en_ ec_; (first | subst ea_ | (injection ea_ with ea_; subst ea_)); subst ec_; clear en_))
   have QR := aa.mk KV
   have anp := aa.mk KW
   clear KV TG KW
   obtain ⟨Ib, KR⟩ := lC 0 HO_5.1 (iQ : Int) SF SG
   replace SF := eq_true SF
   replace SG := eq_true SG
   have KX := qV HO_5.1 (iQ : Int) (Go.bits .and .i64 (sN) 1)
   go_wp2_with (first | ((with_reducible refine gK (t := 3) (p := 20) rfl ?_); refine lX (t := 3) (p := 20) (w1 := (wr.setCell ⟨tL, (iQ : Int).toNat, none⟩ (.int .i64 (Go.bits .and .i64 (sN) 1)))) ?_; intro yM hw; have hg : wr.grownBy yM (some tL) := (by rw [hw]; exact KX.2); have hp_ : Kd.R (Kd.int .i64) 3 yM w.heap.size (fun _ => True) (.slice (some ⟨tL, 0, none⟩) bq.length SI) axz := (by rw [hw, axA.1]; exact KX.1); clear KX; refine E2 (hp_) ((by rw [hw]; exact il (HB.1) QR.1 : Below w.heap.size w yM)) ?_; clear HO_5 HB; intro HO_5 HB; clear hg hw hp_))
   (try simp only [<- R7])
   go_roundg k1
   case measure => have := iB.1; omega
   case rel => exact ⟨(axz), (wrap64 (iQ + 1)), RG, H', ⟨by have := iB.1; omega⟩, ⟨ER HO_5.1 R7⟩, ⟨BL HB.1⟩⟩
 (try simp only [R7] at c8b0)
 obtain rfl := Option.some.inj H
 go_wp2
 go_ret
 exact ⟨_, RF, pm (HO_5.1), BL HB.1⟩
mutual
def bY.j0 : Nat -> Int -> Bool -> Int -> Int -> Option (Int × Bool)
 | 0, _, _, _, _ => none
 | k + 1, x1, Oc, uQ, Kl => if Oc = true then (some (0, false)) else (if uQ = 1 then (some ((-1), true)) else (if uQ = 2 then (some (1, true)) else (if uQ = 3 then (bY.j1 k x1 uQ (uQ == 3) uQ Kl) else (bY.j1 k x1 uQ (uQ == 6) uQ Kl))))
def bY.j1 : Nat -> Int -> Int -> Bool -> Int -> Int -> Option (Int × Bool)
 | 0, _, _, _, _, _ => none
 | k + 1, x1, Hu, x28, uQ, Kl => if x28 = true then (some (wrap64 ((wrap64 (2 * Kl)) - 1), true)) else (if Hu = 4 then (some (wrap64 (-x1), true)) else (some (0, true)))
end
def bY.f (k : Nat) (ah : Int) (af : Int) (a1 : Int) : Option (Int × Bool) := (kD.f ah af).bind fun axB => (if axB = true then (if a1 < (-1) then (bY.j0 k a1 true ah af) else (if a1 > 1 then (bY.j0 k a1 true ah af) else (bY.j0 k a1 (ah == 5) ah af))) else (bY.j0 k a1 true ah af))
theorem bY.mono_l : ∀ k, (∀ y0 y1 y2 y3, dO (bY.j0 k y0 y1 y2 y3) (bY.j0 (k + 1) y0 y1 y2 y3)) /\ (∀ y0 y1 y2 y3 y4, dO (bY.j1 k y0 y1 y2 y3 y4) (bY.j1 (k + 1) y0 y1 y2 y3 y4))
 | 0 => by refine ⟨?_, ?_⟩ <;> (intros; intro r h; first | (simp [bY.j0] at h; done) | (simp [bY.j1] at h; done))
 | k + 1 => by
  obtain ⟨ja, ih1⟩ := bY.mono_l k
  refine ⟨?_, ?_⟩ <;> (
   intros
   first | unfold bY.j0 | unfold bY.j1
   exact Qj ja ih1)
theorem bY.mono : ∀ a0 a1 a2 k, dO (bY.f k a0 a1 a2) (bY.f (k + 1) a0 a1 a2) := by
 intro a0 a1 a2 k
 obtain ⟨ja, ih1⟩ := bY.mono_l k
 unfold bY.f
 exact Qj ja ih1
theorem bY.calls (k : Nat) (ah : Int) (af : Int) (a1 : Int) (r1 : Int) (r2 : Bool) (w : World) (h : bY.f k ah af a1 = some (r1, r2)) :
 Calls Try.prog 89 #[.agg #[.int .i64 ah, .int .i64 af], .int .i64 a1] w fun e w' => e = .returned (.tuple #[.int .i64 r1, .bool r2]) /\ Below w.heap.size w w' := by
 have xE := Try.underlying83
 have HB := aa.mk (Below.refl w.heap.size w)
 have H := h
 clear h
 unfold bY.f at H
 have HC3 := aa.mk H
 clear H
 go_enter Try.func89, Try.ntmps89
 go_upto_region 1 with (first | ((with_reducible refine aC (N := 2) rfl ?_); refine dN (cs := #[.int .i64 ah, .int .i64 af]) (t := 83) ?_; intro ali hg w4 hbox hb; refine mJ HB.1 hg hbox hb ?_; clear HB; intro HB ny aMr aMs; clear hb hbox hg))
 (try simp only [Act.put, List.setIfInBounds_toArray, List.set_cons_zero, List.set_cons_succ])
 go_cut [21] (fun v21 wc => ∃ (kq : Nat) (adj : Bool), v21 = .bool adj /\ aa (bY.j0 kq a1 adj ah af = some (r1, r2)) /\ aa (kq <= k) /\ aa (wc.heap[ali]? = some (.cells #[.int .i64 ah, .int .i64 af] 83 (0, 0))) /\ aa (Below w.heap.size w wc))
 case first =>
  have H := HC3.1
  clear HC3
  replace H := dz H; obtain ⟨axB, A5, H⟩ := H
  replace H := Cm H; rcases H with ⟨rfl, H⟩ | ⟨rfl, H⟩
  · replace H := pu H; rcases H with ⟨c7b0, H⟩ | ⟨c7b0, H⟩
    · (first | rw [c7b0] | (simp only [cz, dF]; rw [c7b0]) | skip)
      have H' := aa.mk H
      clear H
      obtain ⟨lZ, l5, l6, l7⟩ := nO ny.1
      go_wp2_with (first | ((with_reducible refine aA (f := 99) rfl ?_); refine cK (N := (some 7)) #[.agg #[.int .i64 ah, .int .i64 af]] Try.func99 ?_; (with_reducible refine (kD.calls ah af true _ A5.1).mono ?_); rintro e w9 ⟨rfl, hb⟩; refine ⟨_, rfl, ?_⟩; refine E2 (bB ny.1 hb) (bS HB.1 hb) ?_; clear ny HB; intro ny HB; (try clear hb)))
      go_meet
      case rel => exact ⟨_, (true), RG, H', ⟨by first | omega | exact Nat.le_refl _⟩, ⟨PB ny.1⟩, ⟨BL HB.1⟩⟩
    (first | rw [c7b0] | (simp only [cz, dF]; rw [c7b0]) | skip)
    replace H := oP H; rcases H with ⟨c10, H⟩ | ⟨c10, H⟩
    · have c10b0 : decide (1 < a1) = true := decide_eq_true c10
      clear c10
      have H' := aa.mk H
      clear H
      obtain ⟨vX, vY, vZ, wh⟩ := nO ny.1
      go_wp2_with (first | ((with_reducible refine aA (f := 99) rfl ?_); refine cK (N := (some 7)) #[.agg #[.int .i64 ah, .int .i64 af]] Try.func99 ?_; (with_reducible refine (kD.calls ah af true _ A5.1).mono ?_); rintro e yC ⟨rfl, hb⟩; refine ⟨_, rfl, ?_⟩; refine E2 (bB ny.1 hb) (bS HB.1 hb) ?_; clear ny HB; intro ny HB; (try clear hb)))
      go_meet
      case rel => exact ⟨_, (true), RG, H', ⟨by first | omega | exact Nat.le_refl _⟩, ⟨PB ny.1⟩, ⟨BL HB.1⟩⟩
    have c10b0 : decide (1 < a1) = false := decide_eq_false c10
    clear c10
    have H' := aa.mk H
    clear H
    obtain ⟨uF, uG, uH, uI⟩ := nO ny.1
    go_wp2_with (first | ((with_reducible refine aA (f := 99) rfl ?_); refine cK (N := (some 7)) #[.agg #[.int .i64 ah, .int .i64 af]] Try.func99 ?_; (with_reducible refine (kD.calls ah af true _ A5.1).mono ?_); rintro e yM ⟨rfl, hb⟩; refine ⟨_, rfl, ?_⟩; refine E2 (bB ny.1 hb) (bS HB.1 hb) ?_; clear ny HB; intro ny HB; (try clear hb); obtain ⟨sD, sF, sG, sH⟩ := nO ny.1))
    go_meet
    case rel => exact ⟨_, ((ah == 5)), RG, H', ⟨by first | omega | exact Nat.le_refl _⟩, ⟨PB ny.1⟩, ⟨BL HB.1⟩⟩
  have H' := aa.mk H
  clear H
  obtain ⟨wm, wo, wu, ww⟩ := nO ny.1
  go_wp2_with (first | ((with_reducible refine aA (f := 99) rfl ?_); refine cK (N := (some 7)) #[.agg #[.int .i64 ah, .int .i64 af]] Try.func99 ?_; (with_reducible refine (kD.calls ah af false _ A5.1).mono ?_); rintro e Vn ⟨rfl, hb⟩; refine ⟨_, rfl, ?_⟩; refine E2 (bB ny.1 hb) (bS HB.1 hb) ?_; clear ny HB; intro ny HB; (try clear hb)))
  go_meet
  case rel => exact ⟨_, (true), RG, H', ⟨by first | omega | exact Nat.le_refl _⟩, ⟨PB ny.1⟩, ⟨BL HB.1⟩⟩
 clear HC3
 obtain ⟨kq, adj, rfl, HA, HJ2, ny, HB⟩ := hcut
 cases kq with
 | zero => exact absurd HA.1 (by simp [bY.j0])
 | succ kj2 => ?_
 have H := HA.1
 clear HA
 simp only [bY.j0] at H
 replace H := Cm H; rcases H with ⟨rfl, H⟩ | ⟨rfl, H⟩
 · simp only [Option.some.injEq, Prod.mk.injEq] at H
   obtain ⟨rfl, rfl⟩ := H
   go_wp2
   go_ret2
   exact ⟨RF, BL HB.1⟩
 replace H := oP H; rcases H with ⟨c19, H⟩ | ⟨c19, H⟩
 · have c19b0 := beq_iff_eq.mpr c19
   have c19b1 := bne_eq_false_iff_eq.mpr c19
   clear c19
   simp only [Option.some.injEq, Prod.mk.injEq] at H
   obtain ⟨rfl, rfl⟩ := H
   obtain ⟨wz, wB, wC, wD⟩ := nO ny.1
   go_wp2
   go_ret2
   exact ⟨RF, BL HB.1⟩
 have c19b0 := beq_eq_false_iff_ne.mpr c19
 have c19b1 := bne_iff_ne.mpr c19
 replace H := oP H; rcases H with ⟨c21, H⟩ | ⟨c21, H⟩
 · have c21b0 := beq_iff_eq.mpr c21
   have c21b1 := bne_eq_false_iff_eq.mpr c21
   clear c21
   simp only [Option.some.injEq, Prod.mk.injEq] at H
   obtain ⟨rfl, rfl⟩ := H
   obtain ⟨wJ, wK, wL, wM⟩ := nO ny.1
   go_wp2
   go_ret2
   exact ⟨RF, BL HB.1⟩
 have c21b0 := beq_eq_false_iff_ne.mpr c21
 have c21b1 := bne_iff_ne.mpr c21
 have apP := aa.mk H
 clear H
 obtain ⟨JP, JQ, JR, JS⟩ := nO ny.1
 go_upto_if 28 with (fail)
 go_cut [28] (fun v28 wc => ∃ (kq : Nat) (UT : Bool), v28 = .bool UT /\ aa (bY.j1 kq a1 ah UT ah af = some (r1, r2)) /\ aa (kq <= kj2) /\ aa (wc.heap[ali]? = some (.cells #[.int .i64 ah, .int .i64 af] 83 (0, 0))) /\ aa (Below w.heap.size w wc))
 case first =>
  have H := apP.1
  clear apP
  replace H := oP H; rcases H with ⟨Q8, H⟩ | ⟨Q8, H⟩
  · have c25b0 := beq_iff_eq.mpr Q8
    have c25b1 := bne_eq_false_iff_eq.mpr Q8
    clear Q8
    (first | rw [c25b0] | (simp only [cz, dF]; rw [c25b0]) | skip)
    have H' := aa.mk H
    clear H
    go_wp2
    go_meet
    case rel => exact ⟨_, ((ah == 3)), RG, H', ⟨by have := HJ2.1; first | omega | exact Nat.le_refl _⟩, ⟨PB ny.1⟩, ⟨BL HB.1⟩⟩
  have c25b0 := beq_eq_false_iff_ne.mpr Q8
  have c25b1 := bne_iff_ne.mpr Q8
  (first | rw [c25b0] | (simp only [cz, dF]; rw [c25b0]) | skip)
  have H' := aa.mk H
  clear H
  go_wp2
  go_meet
  case rel => exact ⟨_, ((ah == 6)), RG, H', ⟨by have := HJ2.1; first | omega | exact Nat.le_refl _⟩, ⟨PB ny.1⟩, ⟨BL HB.1⟩⟩
 clear apP
 try clear c19; try clear c21; clear c19b0 c19b1 c21b0 c21b1 JP JQ JR JS
 obtain ⟨kq, UT, rfl, HA, aQt, ny, HB⟩ := hcut
 cases kq with
 | zero => exact absurd HA.1 (by simp [bY.j1])
 | succ aQu => ?_
 have H := HA.1
 clear HA
 simp only [bY.j1] at H
 replace H := Cm H; rcases H with ⟨rfl, H⟩ | ⟨rfl, H⟩
 · simp only [Option.some.injEq, Prod.mk.injEq] at H
   obtain ⟨rfl, rfl⟩ := H
   obtain ⟨Aj, Ak, Al, Am⟩ := nO ny.1
   go_wp2
   go_ret2
   exact ⟨RF, BL HB.1⟩
 replace H := oP H; rcases H with ⟨c28, H⟩ | ⟨c28, H⟩
 · have c28b0 := beq_iff_eq.mpr c28
   have c28b1 := bne_eq_false_iff_eq.mpr c28
   clear c28
   simp only [Option.some.injEq, Prod.mk.injEq] at H
   obtain ⟨rfl, rfl⟩ := H
   go_wp2
   go_ret2
   exact ⟨RF, BL HB.1⟩
 have c28b0 := beq_eq_false_iff_ne.mpr c28
 have c28b1 := bne_iff_ne.mpr c28
 simp only [Option.some.injEq, Prod.mk.injEq] at H
 obtain ⟨rfl, rfl⟩ := H
 go_wp2
 go_ret2
 exact ⟨RF, BL HB.1⟩
def aX.l0 : Nat -> List Int -> Int -> Int -> Int -> Int -> Int -> List (fq) -> Option ((List (fq)))
 | 0, _, _, _, _, _, _, _ => none
 | k + 1, x1, x2, x9, j6, Pz, PD, ym => if j6 < x9 then (if 0 <= j6 then (if j6 < (ym.length : Int) then (if ((aj ym j6).f0) = 6 then (if j6 < (x1.length : Int) then (if 0 <= x2 then (if x2 < (x1.length : Int) then (if (rd x1 j6) = (rd x1 x2) then (aX.l0 k x1 x2 x9 (wrap64 (j6 + 1)) Pz PD (ym.set (j6 : Int).toNat (⟨(aj ym j6).f0, wrap64 (1 - ((aj ym j6).f1))⟩ : fq))) else (aX.l0 k x1 x2 x9 (wrap64 (j6 + 1)) Pz PD ym)) else (none)) else (none)) else (none)) else (aX.l0 k x1 x2 x9 (wrap64 (j6 + 1)) Pz PD ym)) else (none)) else (none)) else (some ym)
def aX.f (k : Nat) (ah : Int) (af : Int) (ae : List (fq)) (l1 : List Int) (a2 : Int) : Option ((List (fq))) := aX.l0 k l1 a2 (ae.length : Int) 0 ah af ae
theorem aX.mono_l : ∀ k, (∀ y0 y1 y2 y3 y4 y5 y6, dO (aX.l0 k y0 y1 y2 y3 y4 y5 y6) (aX.l0 (k + 1) y0 y1 y2 y3 y4 y5 y6))
 | 0 => fun _ _ _ _ _ _ _ r h => by simp [aX.l0] at h
 | k + 1 => by
  have ja := aX.mono_l k
  intros
  first | unfold aX.l0
  exact BA ja
theorem aX.mono : ∀ a0 a1 a2 a3 a4 k, dO (aX.f k a0 a1 a2 a3 a4) (aX.f (k + 1) a0 a1 a2 a3 a4) := by
 intro a0 a1 a2 a3 a4 k
 have ja := aX.mono_l k
 unfold aX.f
 exact BA ja
def aX.T4 : Bool × List (List Nat × List Nat) := (true, [([], []), ([0], [0]), ([], []), ([1, 2], [1, 2]), ([3], [3]), ([4], [4]), ([5], [5]), ([6], [6]), ([7], [7]), ([7], [7]), ([8, 9, 7], [7, 8, 9]), ([10, 7], [7, 10]), ([7], [7]), ([7], [7]), ([12, 13, 7], [7, 12, 13]), ([14, 7], [7, 14]), ([11, 15, 7], [7, 11, 15]), ([7, 16], [7, 16])])
def aX.B4 : List Nat := [0, 1, 0, 7, 15, 31, 63, 127, 255, 255, 1023, 2047, 255, 255, 12543, 28927, 65535, 131071]
theorem aX.RU : mX .any (opsOf Try.f90 4) = aX.T4 := by kernel_rfl
theorem aX.bits4 : kr aX.T4.2 aX.B4 = true := by kernel_rfl
def aX.T5 : Bool × List (List Nat × List Nat) := (true, [([], []), ([0], [0]), ([], []), ([], []), ([3], [3]), ([], []), ([4, 5], [4, 5]), ([6], [6]), ([7], [7]), ([8], [8]), ([1, 2, 0, 1, 2, 3, 4, 5, 6, 7, 8, 9], [1, 2]), ([10, 0, 1, 2, 3, 4, 5, 6, 7, 8, 9], [10]), ([11, 9, 0, 1, 2, 3, 4, 5, 6, 7, 8, 9], [9, 11])])
def aX.B5 : List Nat := [0, 1, 0, 0, 8, 0, 56, 120, 248, 504, 1023, 2047, 4095]
theorem aX.abv : mX .any (opsOf Try.f90 5) = aX.T5 := by kernel_rfl
theorem aX.bits5 : kr aX.T5.2 aX.B5 = true := by kernel_rfl
theorem aX.calls (k : Nat) (ah : Int) (af : Int) (cu : Nat -> Prop) (iH : Value) (ae : List (fq)) (A1 : Option Addr) (c1 : Nat) (l1 : List Int) (a2 : Int) (r : List (fq)) (w0 w : World) (hB : Below w0.heap.size w0 w) (BN : Kd.R jZ 83 w w0.heap.size cu iH ae) (hr1 : ∀ W_, Kept w W_ (fun k_ => cu k_) -> Kd.C (Kd.int .i64) W_ A1 l1.length l1) (hc1 : l1.length <= c1) (h : aX.f k ah af ae l1 a2 = some r) :
 Calls Try.prog 90 #[.agg #[.int .i64 ah, .int .i64 af, iH], .slice A1 l1.length c1, .int .i64 a2] w fun e w' => e = .returned (.tuple #[]) /\ Kd.R jZ 83 w' w0.heap.size (fun k_ => (cu k_ ∨ w.heap.size <= k_)) iH r /\ Below w0.heap.size w0 w' /\ Kept w w' (fun k_ => cu k_) := by
 have nH := Try.underlying30
 have fB := aa.mk (show Kd.R jZ 83 w w0.heap.size (fun k_ => (cu k_ ∨ w.heap.size <= k_)) iH ae from aG BN (fun k_ hk => (.inl hk)))
 have HR1 := aa.mk hr1
 have vD := aa.mk hc1
 clear hr1 hc1
 have HK := aa.mk (Kept.refl w (fun k_ => cu k_))
 have HW0 := aa.mk hB.size
 have HB := aa.mk hB
 clear hB
 have H := h
 clear h
 unfold aX.f at H
 have H' := aa.mk H
 clear H
 obtain ⟨SB, yK, eo4⟩ := bv fB.1
 subst eo4
 go_enter Try.func90, Try.ntmps90
 go_wp2_with (first | ((with_reducible refine aC (N := 3) rfl ?_); refine dN (cs := #[.int .i64 ah, .int .i64 af, .slice SB ae.length yK]) (t := 30) ?_; intro xw hg w5 hbox hb; refine E6 (rB fB.1 hb) (Kept.below (S := (fun k_ => cu k_)) (KL HK.1) hb) (bS HB.1 hb) (hbox) ((by rw [hg]; exact (by first | exact HK.1.1 | exact (show Kept w _ (fun k_ => cu k_) from KL HK.1).1) : w.heap.size <= xw)) (Qm hg (bZ HB.1) : w0.heap.size <= xw) ?_; clear fB HK HB; intro fB HK HB lv axD aMt; clear hb hbox hg; obtain ⟨oL, oM, tZ, oN, oO, uf⟩ := gB lv.1))
 go_loopg [10] k (fun kq v10 w' => ∃ (bE : Int) (fG : List (fq)), v10 = .int .i64 bE /\ aa (aX.l0 kq l1 a2 (ae.length : Int) bE ah af fG = some r) /\ aa (kq <= k) /\ aa (Kd.R jZ 83 w' w0.heap.size (fun k_ => (cu k_ ∨ w.heap.size <= k_)) (.slice SB ae.length yK) fG) /\ aa (w'.heap[xw]? = some (.cells #[.int .i64 ah, .int .i64 af, (.slice SB ae.length yK)] 30 (0, 0))) /\ aa (Kept w w' (fun k_ => cu k_)) /\ aa (Below w0.heap.size w0 w'))
 case atStart => exact ⟨(0), (ae), RG, H', ⟨Nat.le_refl _⟩, ⟨PR fB.1⟩, ⟨PB lv.1⟩, ⟨KL HK.1⟩, ⟨BL HB.1⟩⟩
 clear H'
 try clear c1; clear oL oM tZ oN oO uf
 obtain ⟨bE, fG, rfl, HA, iB, HO_592002, lv, HK, HB⟩ := hrel
 have kN := (ay HO_592002.1).1
 rw [kN] at HO_592002
 (try simp only [kN])
 (try simp only [kN] at lv)
 cases gk with
 | zero => exact absurd HA.1 (by simp [aX.l0])
 | succ k1 => ?_
 have H := HA.1
 clear HA
 simp only [aX.l0] at H
 replace H := pu H; rcases H with ⟨c7b0, H⟩ | ⟨c7b0, H⟩
 · replace H := ji H; obtain ⟨c8b0, H⟩ := H
   replace H := ji H; obtain ⟨c9b0, H⟩ := H
   replace H := oP H; rcases H with ⟨c10, H⟩ | ⟨c10, H⟩
   · have c10b0 := beq_iff_eq.mpr c10
     have c10b1 := bne_eq_false_iff_eq.mpr c10
     clear c10
     replace H := ji H; obtain ⟨c11b0, H⟩ := H
     replace H := ji H; obtain ⟨c12b0, H⟩ := H
     replace H := ji H; obtain ⟨c13b0, H⟩ := H
     replace H := oP H; rcases H with ⟨c14, H⟩ | ⟨c14, H⟩
     · have c14b0 := beq_iff_eq.mpr c14
       have c14b1 := bne_eq_false_iff_eq.mpr c14
       clear c14
       generalize alj : ((fG.set (bE : Int).toNat (⟨(aj fG bE).f0, wrap64 (1 - ((aj fG bE).f1))⟩ : fq)) : List (fq)) = aG7 at H
       have axE := aa.mk alj.symm; clear alj
       have H' := aa.mk H
       clear H
       try go_wp2
       refine E4 (aQ HO_592002.1) (ag lv.1) (Kept.drew HK.1) (dm HB.1) ?_
       clear HO_592002 lv HK HB
       intro HO_592002 lv HK HB
       have Lx : 0 <= (bE : Int) := OD
       have LA : bE < (fG.length : Int) := OD
       obtain ⟨xx, adk, uR, uS⟩ := iP (ay HO_592002.1).2.2 bE Lx LA
       cases adk
       replace Lx := eq_true Lx
       replace LA := eq_true LA
       have PE : 0 <= (bE : Int) := OD
       have PG : bE < (l1.length : Int) := OD
       obtain ⟨LB, apQ, GN⟩ := Kd.dx (kY HR1.1 HK.1) bE PE PG
       have ag8 := GN
       cases apQ
       replace PE := eq_true PE
       replace PG := eq_true PG
       have PH : 0 <= (a2 : Int) := OD
       have PI : a2 < (l1.length : Int) := OD
       obtain ⟨adl, apR, GQ⟩ := Kd.dx (kY HR1.1 HK.1) a2 PH PI
       have ag9 := GQ
       obtain rfl : LB = adl := (by injection apR)
       replace PH := eq_true PH
       replace PI := eq_true PI
       refine jN (n := 18) (S := fun w' => w'.cell? ⟨xw, 0, none⟩ = some (.int .i64 ah) /\ w'.cell? ⟨xw, 1, none⟩ = some (.int .i64 af) /\ w'.cell? ⟨xw, 2, none⟩ = some (.slice (some xx) fG.length yK) /\ w'.cell? (xx.add ((bE).toNat * 2)) = some (.int .i64 ((aj fG bE).f0)) /\ w'.cell? ⟨(xx.add ((bE).toNat * 2)).block, (xx.add ((bE).toNat * 2)).off + 1, none⟩ = some (.int .i64 ((aj fG bE).f1)) /\ w'.cell? (LB.add (bE).toNat) = some (.int .i64 (rd l1 bE)) /\ w'.cell? (LB.add (a2).toNat) = some (.int .i64 (rd l1 a2))) (ds := []) #[Zz,Zz,Zz,Zz,Zz,Zz,Zz,Zz,Zz,Zz,Zz,Zz,Zz,Zz,Zz,Zz,Zz,Zz] (by kernel_rfl) rfl rfl ⟨(ai lv.1 0).trans rfl, (ai lv.1 1).trans rfl, (ai lv.1 2).trans rfl, uR, uS, (Kd.qE (HR1.1 _ (by repeat (first | exact HK.1 | apply Kept.alloc | apply Kept.drewN | apply Kept.drew))) bE (of_eq_true PE) (of_eq_true PG)), (Kd.qE (HR1.1 _ (by repeat (first | exact HK.1 | apply Kept.alloc | apply Kept.drewN | apply Kept.drew))) a2 (of_eq_true PH) (of_eq_true PI))⟩ (fun hHeld => ?_); refine iq aX.RU aX.bits4 (fun HT_ HW_ => ?_)
       generalize wr.drew = w16 at HO_592002 lv HK HB uR uS GN GQ hHeld ⊢
       refine aU 0 (N := some 13) HT_.1 ?_
       refine aU 2 (N := some 15) HT_.1 ?_
       refine gF 1 (N := some 14) HT_.1 HW_.1 hHeld ?_
       refine aU 3 (N := some 16) HT_.1 ?_
       refine aU 4 (N := some 17) HT_.1 ?_
       refine gF 5 (N := some 18) HT_.1 HW_.1 hHeld ?_
       refine aU 6 (N := some 19) HT_.1 ?_
       refine aU 7 (N := some 20) HT_.1 ?_
       refine aU 8 (N := some 21) HT_.1 ?_
       refine aU 9 (N := some 22) HT_.1 ?_
       refine aU 10 (N := some 23) HT_.1 ?_
       refine aU 12 (N := some 25) HT_.1 ?_
       refine aU 13 (N := some 26) HT_.1 ?_
       refine aU 14 (N := some 27) HT_.1 ?_
       refine gF 11 (N := some 24) HT_.1 HW_.1 hHeld ?_
       refine gF 15 (N := some 28) HT_.1 HW_.1 hHeld ?_
       refine aU 16 (N := some 29) HT_.1 ?_
       refine aU 17 (N := some 30) HT_.1 ?_
       refine lI (jS HT_.1 (by kernel_rfl)) ?_
       try go_wp2
       refine E4 (aQ HO_592002.1) (ag lv.1) (Kept.drew HK.1) (dm HB.1) ?_
       clear HO_592002 lv HK HB
       intro HO_592002 lv HK HB
       have apS : 0 <= (bE : Int) := OD
       have apT : bE < (fG.length : Int) := OD
       obtain ⟨axF, aG8, PK, PL⟩ := iP (ay HO_592002.1).2.2 bE apS apT
       obtain rfl : xx = axF := (by injection aG8)
       replace apS := eq_true apS
       replace apT := eq_true apT
       have p15 : 0 <= (bE : Int) := OD
       have q15 : (bE : Int) < ((fG.length : Int) : Int) := OD
       obtain ⟨EE, anC, TQ, aa9, anD, aEM, aba⟩ := mQ HO_592002.1 (by omega)
       (first | cases TQ | (injection TQ with ea_ en_ ec_; (first | subst ea_ | (injection ea_ with ea_; subst ea_)); subst ec_; clear en_))
       have atd := aa.mk aa9
       have ate := aa.mk aba
       clear aa9 anD aba
       have HMgo15 := aa.mk (show (cu EE ∨ w.heap.size <= EE) from (HO_592002.1.1 _ rfl))
       (first | simp only [add_plain] at uR | skip)
       (first | simp only [add_plain] at uS | skip)
       (first | simp only [add_plain] at PK | skip)
       (first | simp only [add_plain] at PL | skip)
       obtain ⟨aQv, axG, axH, adm, adn⟩ := nz HO_592002.1 z83 (bE : Int) p15 q15
       obtain rfl := jY axH
       have abb : World.cell? _ ⟨EE, (bE : Int).toNat * 2, none⟩ = some (.int .i64 ((aj fG bE).f0)) := adm 0 _ rfl
       have apU : World.cell? _ ⟨EE, (bE : Int).toNat * 2 + 1, none⟩ = some (.int .i64 ((aj fG bE).f1)) := adm 1 _ rfl
       have abd : World.frozen? _ ⟨EE, (bE : Int).toNat * 2, none⟩ = false := adn 0
       have apV : World.frozen? _ ⟨EE, (bE : Int).toNat * 2 + 1, none⟩ = false := adn 1
       (try clear axH); clear axG adm adn
       replace p15 := eq_true p15
       replace q15 := eq_true q15
       obtain ⟨aF3, Rt, ack, Ru, acl⟩ := nz HO_592002.1 z83 (bE : Int) (OD) (by have h_ : (bE : Int) < ((fG.length : Int) : Int) := OD; first | exact h_ | (have e_ := (ay HO_592002.1).1; omega) | simpa using h_)
       obtain rfl := jY ack
       have Uw := (DZ HO_592002.1 (bE : Int) (OD) (by have h_ : (bE : Int) < ((fG.length : Int) : Int) := OD; first | exact h_ | (have e_ := (ay HO_592002.1).1; omega) | simpa using h_) (seg := [.int .i64 (wrap64 (1 - ((aj fG bE).f1)))]) (j := 1) Rt Ru (show 2 <= 2 from by decide) (x' := (⟨(aj fG bE).f0, wrap64 (1 - ((aj fG bE).f1))⟩ : fq)) (uE _ _ _ (⟨(aj fG bE).f0, wrap64 (1 - ((aj fG bE).f1))⟩ : fq) ) (fun _ hk => hk)).1
       rw [<- axE.1] at Uw
       have agb := aa.mk Uw
       (try clear ack); clear Rt Ru acl Uw
       refine jN (n := 13) (S := fun w' => w'.cell? ⟨xw, 0, none⟩ = some (.int .i64 ah) /\ w'.cell? ⟨xw, 1, none⟩ = some (.int .i64 af) /\ w'.cell? ⟨xw, 2, none⟩ = some (.slice (some ⟨EE, 0, none⟩) fG.length yK) /\ w'.cell? ⟨EE, ((bE).toNat * 2), none⟩ = some (.int .i64 ((aj fG bE).f0)) /\ w'.cell? ⟨EE, ((bE).toNat * 2) + 1, none⟩ = some (.int .i64 ((aj fG bE).f1))) (ds := [12]) #[Zz,Zz,Zz,Zz,Zz,Zz,Zz,Zz,Zz,Zz,Zz,Zz,Zz] (by kernel_rfl) rfl rfl ⟨(ai lv.1 0).trans rfl, (ai lv.1 1).trans rfl, (ai lv.1 2).trans rfl, PK, PL⟩ (fun hHeld => ?_); refine iq aX.abv aX.bits5 (fun HT_ HW_ => ?_)
       generalize w16.drew = Vn at HO_592002 lv HK HB ate agb abd apV abb apU uR uS PK PL hHeld ⊢
       refine aU 0 (N := some 31) HT_.1 ?_
       refine aU 2 (N := some 33) HT_.1 ?_
       refine aU 3 (N := some 34) HT_.1 ?_
       refine aU 5 (N := some 36) HT_.1 ?_
       refine gF 1 (N := some 32) HT_.1 HW_.1 hHeld ?_
       refine gF 4 (N := some 35) HT_.1 HW_.1 hHeld ?_
       refine aU 6 (N := some 37) HT_.1 ?_
       refine aU 7 (N := some 38) HT_.1 ?_
       refine gF 8 (N := some 39) HT_.1 HW_.1 hHeld ?_
       refine aU 9 (N := some 40) HT_.1 ?_
       refine aU 10 (N := some 41) HT_.1 ?_
       refine aU 11 (N := some 42) HT_.1 ?_
       refine BD (i := 12) (N := none) #[Yy,Yy,Yy,Yy,Yy,Yy,Yy,Yy,Yy,Yy,Yy,Yy,Yy] rfl rfl (jc HT_.1 (by kernel_rfl)) (by decide) (fun K hK => ?_)
       refine pF (w1 := ?_) (by rfl) rfl ?_ ?_
       rotate_left
       · go_simp
         rfl
       refine hK.out _ _ ?_
       clear hK K
       refine lI (jS HT_.1 (by kernel_rfl)) ?_
       try go_wp2
       (try simp only [<- kN])
       go_roundg k1
       case measure => have := iB.1; omega
       case rel => exact ⟨(wrap64 (bE + 1)), (aG7), RG, H', ⟨by have := iB.1; omega⟩, ⟨ER agb.1 kN⟩, ⟨by (try simp only [kN]); (with_reducible repeat (first | refine ak ?_ _ | refine ag ?_ | refine au ?_ _)); refine bu ?_ (by have h_ := dK HO_592002.1 lv.1 (by decide); intro e_; exact h_ (by rw [e_]; rfl)) _; (with_reducible repeat (first | refine ak ?_ _ | refine ag ?_ | refine au ?_ _)); exact lv.1⟩, ⟨by repeat (first | (with_reducible first | exact HK.1 | apply Kept.alloc | apply Kept.drewN | apply Kept.drew | refine Kept.setCell ?_ HMgo15.1 _ | refine Kept.setCell ?_ (.inr axD.1) _) | exact HK.1)⟩, ⟨BL HB.1⟩⟩
     have c14b0 := beq_eq_false_iff_ne.mpr c14
     have c14b1 := bne_iff_ne.mpr c14
     have H' := aa.mk H
     clear H
     try go_wp2
     refine E4 (aQ HO_592002.1) (ag lv.1) (Kept.drew HK.1) (dm HB.1) ?_
     clear HO_592002 lv HK HB
     intro HO_592002 lv HK HB
     have Lx : 0 <= (bE : Int) := OD
     have LA : bE < (fG.length : Int) := OD
     obtain ⟨xx, adk, uR, uS⟩ := iP (ay HO_592002.1).2.2 bE Lx LA
     cases adk
     replace Lx := eq_true Lx
     replace LA := eq_true LA
     have PE : 0 <= (bE : Int) := OD
     have PG : bE < (l1.length : Int) := OD
     obtain ⟨LB, apQ, GN⟩ := Kd.dx (kY HR1.1 HK.1) bE PE PG
     have ag8 := GN
     cases apQ
     replace PE := eq_true PE
     replace PG := eq_true PG
     have PH : 0 <= (a2 : Int) := OD
     have PI : a2 < (l1.length : Int) := OD
     obtain ⟨adl, apR, GQ⟩ := Kd.dx (kY HR1.1 HK.1) a2 PH PI
     have ag9 := GQ
     obtain rfl : LB = adl := (by injection apR)
     replace PH := eq_true PH
     replace PI := eq_true PI
     refine jN (n := 18) (S := fun w' => w'.cell? ⟨xw, 0, none⟩ = some (.int .i64 ah) /\ w'.cell? ⟨xw, 1, none⟩ = some (.int .i64 af) /\ w'.cell? ⟨xw, 2, none⟩ = some (.slice (some xx) fG.length yK) /\ w'.cell? (xx.add ((bE).toNat * 2)) = some (.int .i64 ((aj fG bE).f0)) /\ w'.cell? ⟨(xx.add ((bE).toNat * 2)).block, (xx.add ((bE).toNat * 2)).off + 1, none⟩ = some (.int .i64 ((aj fG bE).f1)) /\ w'.cell? (LB.add (bE).toNat) = some (.int .i64 (rd l1 bE)) /\ w'.cell? (LB.add (a2).toNat) = some (.int .i64 (rd l1 a2))) (ds := []) #[Zz,Zz,Zz,Zz,Zz,Zz,Zz,Zz,Zz,Zz,Zz,Zz,Zz,Zz,Zz,Zz,Zz,Zz] (by kernel_rfl) rfl rfl ⟨(ai lv.1 0).trans rfl, (ai lv.1 1).trans rfl, (ai lv.1 2).trans rfl, uR, uS, (Kd.qE (HR1.1 _ (by repeat (first | exact HK.1 | apply Kept.alloc | apply Kept.drewN | apply Kept.drew))) bE (of_eq_true PE) (of_eq_true PG)), (Kd.qE (HR1.1 _ (by repeat (first | exact HK.1 | apply Kept.alloc | apply Kept.drewN | apply Kept.drew))) a2 (of_eq_true PH) (of_eq_true PI))⟩ (fun hHeld => ?_); refine iq aX.RU aX.bits4 (fun HT_ HW_ => ?_)
     generalize wr.drew = w19 at HO_592002 lv HK HB uR uS GN GQ hHeld ⊢
     refine aU 0 (N := some 13) HT_.1 ?_
     refine aU 2 (N := some 15) HT_.1 ?_
     refine gF 1 (N := some 14) HT_.1 HW_.1 hHeld ?_
     refine aU 3 (N := some 16) HT_.1 ?_
     refine aU 4 (N := some 17) HT_.1 ?_
     refine gF 5 (N := some 18) HT_.1 HW_.1 hHeld ?_
     refine aU 6 (N := some 19) HT_.1 ?_
     refine aU 7 (N := some 20) HT_.1 ?_
     refine aU 8 (N := some 21) HT_.1 ?_
     refine aU 9 (N := some 22) HT_.1 ?_
     refine aU 10 (N := some 23) HT_.1 ?_
     refine aU 12 (N := some 25) HT_.1 ?_
     refine aU 13 (N := some 26) HT_.1 ?_
     refine aU 14 (N := some 27) HT_.1 ?_
     refine gF 11 (N := some 24) HT_.1 HW_.1 hHeld ?_
     refine gF 15 (N := some 28) HT_.1 HW_.1 hHeld ?_
     refine aU 16 (N := some 29) HT_.1 ?_
     refine aU 17 (N := some 30) HT_.1 ?_
     refine lI (jS HT_.1 (by kernel_rfl)) ?_
     try go_wp2
     (try simp only [<- kN])
     go_roundg k1
     case measure => have := iB.1; omega
     case rel => exact ⟨(wrap64 (bE + 1)), (fG), RG, H', ⟨by have := iB.1; omega⟩, ⟨ER HO_592002.1 kN⟩, ⟨Er lv.1 kN⟩, ⟨KL HK.1⟩, ⟨BL HB.1⟩⟩
   have c10b0 := beq_eq_false_iff_ne.mpr c10
   have c10b1 := bne_iff_ne.mpr c10
   have H' := aa.mk H
   clear H
   try go_wp2
   refine E4 (aQ HO_592002.1) (ag lv.1) (Kept.drew HK.1) (dm HB.1) ?_
   clear HO_592002 lv HK HB
   intro HO_592002 lv HK HB
   have Lx : 0 <= (bE : Int) := OD
   have LA : bE < (fG.length : Int) := OD
   obtain ⟨xx, adk, uR, uS⟩ := iP (ay HO_592002.1).2.2 bE Lx LA
   cases adk
   replace Lx := eq_true Lx
   replace LA := eq_true LA
   refine jN (n := 18) (S := fun w' => w'.cell? ⟨xw, 0, none⟩ = some (.int .i64 ah) /\ w'.cell? ⟨xw, 1, none⟩ = some (.int .i64 af) /\ w'.cell? ⟨xw, 2, none⟩ = some (.slice (some xx) fG.length yK) /\ w'.cell? (xx.add ((bE).toNat * 2)) = some (.int .i64 ((aj fG bE).f0)) /\ w'.cell? ⟨(xx.add ((bE).toNat * 2)).block, (xx.add ((bE).toNat * 2)).off + 1, none⟩ = some (.int .i64 ((aj fG bE).f1))) (ds := []) #[Zz,Zz,Zz,Zz,Zz,Zz,Zz,Zz,Zz,Zz,Zz,Zz,Zz,Zz,Zz,Zz,Zz,Zz] (by kernel_rfl) rfl rfl ⟨(ai lv.1 0).trans rfl, (ai lv.1 1).trans rfl, (ai lv.1 2).trans rfl, uR, uS⟩ (fun hHeld => ?_); refine iq aX.RU aX.bits4 (fun HT_ HW_ => ?_)
   generalize wr.drew = ZJ at HO_592002 lv HK HB uR uS hHeld ⊢
   refine aU 0 (N := some 13) HT_.1 ?_
   refine aU 2 (N := some 15) HT_.1 ?_
   refine gF 1 (N := some 14) HT_.1 HW_.1 hHeld ?_
   refine aU 3 (N := some 16) HT_.1 ?_
   refine aU 4 (N := some 17) HT_.1 ?_
   refine gF 5 (N := some 18) HT_.1 HW_.1 hHeld ?_
   refine aU 6 (N := some 19) HT_.1 ?_
   refine aU 7 (N := some 20) HT_.1 ?_
   refine ll (i := 8) (N := some 21) (v := undef) (a' := ?_) #[Yy,Yy,Yy,Yy,Yy,Yy,Yy,Yy,Yy,Zz,Zz,Zz,Zz,Zz,Zz,Zz,Zz,Zz] rfl rfl (nX HT_.1 (by kernel_rfl)) (fun _ _ _ h => h) (Or.inr ⟨by rfl, rfl⟩) ?_ ?_
   rotate_left
   · simp only [Act.put, List.setIfInBounds_toArray, List.set_cons_zero, List.set_cons_succ, cz, dF]
     rfl
   refine ll (i := 9) (N := some 22) (v := undef) (a' := ?_) #[Yy,Yy,Yy,Yy,Yy,Yy,Yy,Yy,Yy,Yy,Zz,Zz,Zz,Zz,Zz,Zz,Zz,Zz] rfl rfl (nX HT_.1 (by kernel_rfl)) (fun _ _ _ h => h) (Or.inr ⟨by rfl, rfl⟩) ?_ ?_
   rotate_left
   · simp only [Act.put, List.setIfInBounds_toArray, List.set_cons_zero, List.set_cons_succ, cz, dF]
     rfl
   refine ll (i := 10) (N := some 23) (v := undef) (a' := ?_) #[Yy,Yy,Yy,Yy,Yy,Yy,Yy,Yy,Yy,Yy,Yy,Zz,Zz,Zz,Zz,Zz,Zz,Zz] rfl rfl (nX HT_.1 (by kernel_rfl)) (fun _ _ _ h => h) (Or.inr ⟨by rfl, rfl⟩) ?_ ?_
   rotate_left
   · simp only [Act.put, List.setIfInBounds_toArray, List.set_cons_zero, List.set_cons_succ, cz, dF]
     rfl
   refine ll (i := 11) (N := some 24) (v := undef) (a' := ?_) #[Yy,Yy,Yy,Yy,Yy,Yy,Yy,Yy,Yy,Yy,Yy,Yy,Zz,Zz,Zz,Zz,Zz,Zz] rfl rfl (nX HT_.1 (by kernel_rfl)) (fun _ _ _ h => h) (Or.inr ⟨by rfl, rfl⟩) ?_ ?_
   rotate_left
   · simp only [Act.put, List.setIfInBounds_toArray, List.set_cons_zero, List.set_cons_succ, cz, dF]
     rfl
   refine ll (i := 12) (N := some 25) (v := undef) (a' := ?_) #[Yy,Yy,Yy,Yy,Yy,Yy,Yy,Yy,Yy,Yy,Yy,Yy,Yy,Zz,Zz,Zz,Zz,Zz] rfl rfl (nX HT_.1 (by kernel_rfl)) (fun _ _ _ h => h) (Or.inr ⟨by rfl, rfl⟩) ?_ ?_
   rotate_left
   · simp only [Act.put, List.setIfInBounds_toArray, List.set_cons_zero, List.set_cons_succ, cz, dF]
     rfl
   refine ll (i := 13) (N := some 26) (v := undef) (a' := ?_) #[Yy,Yy,Yy,Yy,Yy,Yy,Yy,Yy,Yy,Yy,Yy,Yy,Yy,Yy,Zz,Zz,Zz,Zz] rfl rfl (nX HT_.1 (by kernel_rfl)) (fun _ _ _ h => h) (Or.inr ⟨by rfl, rfl⟩) ?_ ?_
   rotate_left
   · simp only [Act.put, List.setIfInBounds_toArray, List.set_cons_zero, List.set_cons_succ, cz, dF]
     rfl
   refine ll (i := 14) (N := some 27) (v := undef) (a' := ?_) #[Yy,Yy,Yy,Yy,Yy,Yy,Yy,Yy,Yy,Yy,Yy,Yy,Yy,Yy,Yy,Zz,Zz,Zz] rfl rfl (nX HT_.1 (by kernel_rfl)) (fun _ _ _ h => h) (Or.inr ⟨by rfl, rfl⟩) ?_ ?_
   rotate_left
   · simp only [Act.put, List.setIfInBounds_toArray, List.set_cons_zero, List.set_cons_succ, cz, dF]
     rfl
   refine ll (i := 15) (N := some 28) (v := undef) (a' := ?_) #[Yy,Yy,Yy,Yy,Yy,Yy,Yy,Yy,Yy,Yy,Yy,Yy,Yy,Yy,Yy,Yy,Zz,Zz] rfl rfl (nX HT_.1 (by kernel_rfl)) (fun _ _ _ h => h) (Or.inr ⟨by rfl, rfl⟩) ?_ ?_
   rotate_left
   · simp only [Act.put, List.setIfInBounds_toArray, List.set_cons_zero, List.set_cons_succ, cz, dF]
     rfl
   refine ll (i := 16) (N := some 29) (v := undef) (a' := ?_) #[Yy,Yy,Yy,Yy,Yy,Yy,Yy,Yy,Yy,Yy,Yy,Yy,Yy,Yy,Yy,Yy,Yy,Zz] rfl rfl (nX HT_.1 (by kernel_rfl)) (fun _ _ _ h => h) (Or.inr ⟨by rfl, rfl⟩) ?_ ?_
   rotate_left
   · simp only [Act.put, List.setIfInBounds_toArray, List.set_cons_zero, List.set_cons_succ, cz, dF]
     rfl
   refine aU 17 (N := some 30) HT_.1 ?_
   refine lI (jS HT_.1 (by kernel_rfl)) ?_
   try go_wp2
   (try simp only [<- kN])
   go_roundg k1
   case measure => have := iB.1; omega
   case rel => exact ⟨(wrap64 (bE + 1)), (fG), RG, H', ⟨by have := iB.1; omega⟩, ⟨ER HO_592002.1 kN⟩, ⟨Er lv.1 kN⟩, ⟨KL HK.1⟩, ⟨BL HB.1⟩⟩
 (try simp only [kN] at c7b0)
 obtain rfl := Option.some.inj H
 go_wp2
 first | go_end0 | ((try simp only [Exit.inBlock, Exit.then]); refine bodyPost_ret (results_none rfl _ _ _) rfl ?_)
 exact ⟨RF, (by first | exact (PR HO_592002.1) | (simp only [kN]; exact (PR HO_592002.1))), BL HB.1, KL HK.1⟩
end Go.Proofs.Ytbpfdbjnnlmdjaa.P
