--MINI
-- PRINTED by print.py (a twelfth state) out of the translation. Not trusted: Lean checks it.
import Derived.Test.YtbpfdbjnnlmdjaaPx0
import Derived.Test.YtbpfdbjnnlmdjaaPx2
import Derived.Test.YtbpfdbjnnlmdjaaPx3
import Derived.Test.YtbpfdbjnnlmdjaaPx5
namespace Go.Proofs.Ytbpfdbjnnlmdjaa.P
open Go.RowKit Go.Proofs.YtbpfdbjnnlmdjaaW.PrintWords Go.Proofs.YtbpfdbjnnlmdjaaW.PrintLast Go.Proofs.YtbpfdbjnnlmdjaaW.PrintMore
attribute [local go_sem] rQ rR vR vS pO pQ rT rU   -- for this text's walks alone
set_option linter.unusedVariables false
set_option linter.unusedSimpArgs false
set_option maxHeartbeats 8000000
set_option maxRecDepth 100000

open Kd
def ed.l0 : Nat -> List Int -> List (List Int) -> Int -> Int -> Int -> Int -> List (fq) -> Int -> Int -> List (fq) -> Option (Int × Int × (List (fq)))
 | 0, _, _, _, _, _, _, _, _, _, _ => none
 | k + 1, x1, qR, pz, wy, aWM, aWN, aS8, aS9, aTa, aUu => if wy < pz then (if 0 <= wy then (if wy < (qR.length : Int) then (if 0 < ((aT qR wy).length : Int) then (if 0 <= (rd (aT qR wy) 0) then (if (rd (aT qR wy) 0) < (aS8.length : Int) then (if wy < (x1.length : Int) then (if ((aj aS8 (rd (aT qR wy) 0)).f1) = (rd x1 wy) then (ed.l0 k x1 qR pz (wrap64 (wy + 1)) aWM aWN aS8 aS9 aTa aUu) else ((dn.f k aS9 aTa aUu (aT qR wy)).bind fun aX2 => (ed.l0 k x1 qR pz (wrap64 (wy + 1)) aWM aWN aS8 aS9 aTa aX2))) else (none)) else (none)) else (none)) else (none)) else (none)) else (none)) else (some (aS9, aTa, aUu))
def ed.f (k : Nat) (ah : Int) (af : Int) (ae : List (fq)) (l1 : List Int) : Option (Int × Int × (List (fq))) := (je.f ah af ae).bind fun akN => ((aD.f k ah af ae).bind fun I9 => (ed.l0 k l1 I9 (I9.length : Int) 0 ah af ae akN.1 akN.2.1 akN.2.2))
theorem ed.mono_l : ∀ k, (∀ y0 y1 y2 y3 y4 y5 y6 y7 y8 y9, dO (ed.l0 k y0 y1 y2 y3 y4 y5 y6 y7 y8 y9) (ed.l0 (k + 1) y0 y1 y2 y3 y4 y5 y6 y7 y8 y9))
 | 0 => fun _ _ _ _ _ _ _ _ _ _ r h => by simp [ed.l0] at h
 | k + 1 => by
  have ja := ed.mono_l k
  intros
  first | unfold ed.l0
  exact LM3 ja dn.mono aD.mono
theorem ed.mono : ∀ a0 a1 a2 a3 k, dO (ed.f k a0 a1 a2 a3) (ed.f (k + 1) a0 a1 a2 a3) := by
 intro a0 a1 a2 a3 k
 have ja := ed.mono_l k
 unfold ed.f
 exact LM3 ja dn.mono aD.mono
theorem ed.calls (k : Nat) (ah : Int) (af : Int) (aK : Option Addr) (aJ : Nat) (ae : List (fq)) (A1 : Option Addr) (c1 : Nat) (l1 : List Int) (r1 : Int) (r2 : Int) (r3 : List (fq)) (w : World) (dH : Kd.C jZ w aK ae.length ae) (dG : ae.length <= aJ) (hr1 : Kd.C (Kd.int .i64) w A1 l1.length l1) (hc1 : l1.length <= c1) (h : ed.f k ah af ae l1 = some (r1, r2, r3)) :
 Calls Try.prog 85 #[.agg #[.int .i64 ah, .int .i64 af, .slice aK ae.length aJ], .slice A1 l1.length c1] w fun e w' => ∃ VK : Value, e = .returned (.agg #[.int .i64 r1, .int .i64 r2, VK]) /\ Kd.R jZ 83 w' w.heap.size (fun _ => True) VK r3 /\ Below w.heap.size w w' := by
 have nH := Try.underlying30
 have bD := aa.mk dH
 have cO := aa.mk dG
 clear dH dG
 have HR1 := aa.mk hr1
 have vD := aa.mk hc1
 clear hr1 hc1
 have HB := aa.mk (Below.refl w.heap.size w)
 have H := h
 clear h
 unfold ed.f at H
 replace H := dz H; obtain ⟨⟨acR, acS, aVm⟩, A3, H⟩ := H
 dsimp only at H
 replace H := dz H; obtain ⟨I9, A4, H⟩ := H
 have H' := aa.mk H
 clear H
 go_enter Try.func85, Try.ntmps85
 go_wp2_with (first | ((with_reducible refine aC (N := 2) rfl ?_); refine dN (cs := #[.int .i64 ah, .int .i64 af, .slice aK ae.length aJ]) (t := 30) ?_; intro aT8 hg w5 hbox hb; refine mJ HB.1 hg hbox hb ?_; clear HB; intro HB ajY a1D a1E; clear hb hbox hg) | ((with_reducible refine aC (N := 4) rfl ?_); refine dN (cs := #[.int .i64 0, .int .i64 0, .slice none 0 0]) (t := 30) ?_; intro aRJ hg w6 hbox hb; refine E7 (bB ajY.1 hb) (bS HB.1 hb) (hbox) (gX HB.1 hg) (gX HB.1 hg) (nB ajY.1 hg) (nC ajY.1 hg) ?_; clear ajY HB; intro ajY HB aq2 a1F a1G aM9 aNj; clear hb hbox hg; have aaD := aM9.1; have aaE := aNj.1; obtain ⟨lZ, l5, mR, l6, l7, mU⟩ := gB ajY.1) | (go_at_call 94; (with_reducible refine (je.calls ah af _ _ ae acR acS aVm _ ?side1 ?side2 A3.1).mono ?_); (case side1 => exact CB (aY bD.1 HB.1)); (case side2 => exact cO.1); rintro e w9 ⟨a7J, rfl, ho0, hb⟩; refine E4 (bN ho0 (bZ HB.1)) (bB ajY.1 hb) (bB aq2.1 hb) (bS HB.1 hb) ?_; clear ajY aq2 HB; intro aDt ajY aq2 HB; (try clear hb); (try clear ho0)) | ((with_reducible refine aC (N := 5) rfl ?_); refine dN (cs := #[.int .i64 0, .int .i64 0, .slice none 0 0]) (t := 30) ?_; intro aJC hg Hw hbox hb; refine E11 (rB aDt.1 hb) (bB ajY.1 hb) (bB aq2.1 hb) (bS HB.1 hb) (hbox) (gX HB.1 hg) (gX HB.1 hg) (nB ajY.1 hg) (nC ajY.1 hg) (nB aq2.1 hg) (nC aq2.1 hg) ?_; clear aDt ajY aq2 HB; intro aDt ajY aq2 HB asc a1H a1I aEu aNk aEw aNl; clear hb hbox hg; have ajF := aNk.1; have ajG := aEu.1; have aaF := aNl.1; have aaG := aEw.1; obtain ⟨uF, uG, Cn, uH, uI, Co⟩ := gB asc.1; obtain ⟨Q6, Q7, Ua⟩ := bv aDt.1; subst Ua; obtain ⟨sD, sF, wN, sG, sH, wO⟩ := gB ajY.1) | (go_at_call 52; (with_reducible refine (aD.calls k ah af _ _ ae I9 _ ?side1 ?side2 A4.1).mono ?_); (case side1 => exact aY bD.1 (BL HB.1)); (case side2 => exact cO.1); rintro e w16 ⟨a7K, rfl, ho0, hb⟩; refine E6 (jf (by (with_reducible repeat (first | apply aV | apply aW | apply aQ)); exact (aG (RQ aJC 2 (RQ aJC 1 (RQ aJC 0 (bz aDt.1 asc.1 (by decide)) _) _) _) (fun _ h_ => h_.1))) hb) (lN ho0 (bZ HB.1)) (dh (g := aT8) (o := .cells #[.int .i64 ah, .int .i64 af, .slice aK ae.length aJ] 30 (0, 0)) (xB aEu.1 ajY.1) hb) (dh (g := aRJ) (o := .cells #[.int .i64 0, .int .i64 0, .slice none 0 0] 30 (0, 0)) (xB aEw.1 aq2.1) hb) (dh (g := aJC) (o := .cells #[.int .i64 acR, .int .i64 acS, .slice Q6 aVm.length Q7] 30 (0, 0)) (BB asc.1) hb) (bS HB.1 hb) ?_; clear aDt ajY aq2 asc HB; intro aDt aT9 ajY aq2 asc HB; (try clear hb); (try clear ho0); obtain ⟨YH, Ja, Jb⟩ := mq aT9.1; subst Jb))
 repeat (go_quiet (first | ((with_reducible refine aC (N := 2) rfl ?_); refine dN (cs := #[.int .i64 ah, .int .i64 af, .slice aK ae.length aJ]) (t := 30) ?_; intro aT8 hg w5 hbox hb; refine mJ HB.1 hg hbox hb ?_; clear HB; intro HB ajY a1D a1E; clear hb hbox hg) | ((with_reducible refine aC (N := 4) rfl ?_); refine dN (cs := #[.int .i64 0, .int .i64 0, .slice none 0 0]) (t := 30) ?_; intro aRJ hg w6 hbox hb; refine E7 (bB ajY.1 hb) (bS HB.1 hb) (hbox) (gX HB.1 hg) (gX HB.1 hg) (nB ajY.1 hg) (nC ajY.1 hg) ?_; clear ajY HB; intro ajY HB aq2 a1F a1G aM9 aNj; clear hb hbox hg; have aaD := aM9.1; have aaE := aNj.1; obtain ⟨lZ, l5, mR, l6, l7, mU⟩ := gB ajY.1) | (go_at_call 94; (with_reducible refine (je.calls ah af _ _ ae acR acS aVm _ ?side1 ?side2 A3.1).mono ?_); (case side1 => exact CB (aY bD.1 HB.1)); (case side2 => exact cO.1); rintro e w9 ⟨a7J, rfl, ho0, hb⟩; refine E4 (bN ho0 (bZ HB.1)) (bB ajY.1 hb) (bB aq2.1 hb) (bS HB.1 hb) ?_; clear ajY aq2 HB; intro aDt ajY aq2 HB; (try clear hb); (try clear ho0)) | ((with_reducible refine aC (N := 5) rfl ?_); refine dN (cs := #[.int .i64 0, .int .i64 0, .slice none 0 0]) (t := 30) ?_; intro aJC hg Hw hbox hb; refine E11 (rB aDt.1 hb) (bB ajY.1 hb) (bB aq2.1 hb) (bS HB.1 hb) (hbox) (gX HB.1 hg) (gX HB.1 hg) (nB ajY.1 hg) (nC ajY.1 hg) (nB aq2.1 hg) (nC aq2.1 hg) ?_; clear aDt ajY aq2 HB; intro aDt ajY aq2 HB asc a1H a1I aEu aNk aEw aNl; clear hb hbox hg; have ajF := aNk.1; have ajG := aEu.1; have aaF := aNl.1; have aaG := aEw.1; obtain ⟨uF, uG, Cn, uH, uI, Co⟩ := gB asc.1; obtain ⟨Q6, Q7, Ua⟩ := bv aDt.1; subst Ua; obtain ⟨sD, sF, wN, sG, sH, wO⟩ := gB ajY.1) | (go_at_call 52; (with_reducible refine (aD.calls k ah af _ _ ae I9 _ ?side1 ?side2 A4.1).mono ?_); (case side1 => exact aY bD.1 (BL HB.1)); (case side2 => exact cO.1); rintro e w16 ⟨a7K, rfl, ho0, hb⟩; refine E6 (jf (by (with_reducible repeat (first | apply aV | apply aW | apply aQ)); exact (aG (RQ aJC 2 (RQ aJC 1 (RQ aJC 0 (bz aDt.1 asc.1 (by decide)) _) _) _) (fun _ h_ => h_.1))) hb) (lN ho0 (bZ HB.1)) (dh (g := aT8) (o := .cells #[.int .i64 ah, .int .i64 af, .slice aK ae.length aJ] 30 (0, 0)) (xB aEu.1 ajY.1) hb) (dh (g := aRJ) (o := .cells #[.int .i64 0, .int .i64 0, .slice none 0 0] 30 (0, 0)) (xB aEw.1 aq2.1) hb) (dh (g := aJC) (o := .cells #[.int .i64 acR, .int .i64 acS, .slice Q6 aVm.length Q7] 30 (0, 0)) (BB asc.1) hb) (bS HB.1 hb) ?_; clear aDt ajY aq2 asc HB; intro aDt aT9 ajY aq2 asc HB; (try clear hb); (try clear ho0); obtain ⟨YH, Ja, Jb⟩ := mq aT9.1; subst Jb)); try go_wp2_with (first | ((with_reducible refine aC (N := 2) rfl ?_); refine dN (cs := #[.int .i64 ah, .int .i64 af, .slice aK ae.length aJ]) (t := 30) ?_; intro aT8 hg w5 hbox hb; refine mJ HB.1 hg hbox hb ?_; clear HB; intro HB ajY a1D a1E; clear hb hbox hg) | ((with_reducible refine aC (N := 4) rfl ?_); refine dN (cs := #[.int .i64 0, .int .i64 0, .slice none 0 0]) (t := 30) ?_; intro aRJ hg w6 hbox hb; refine E7 (bB ajY.1 hb) (bS HB.1 hb) (hbox) (gX HB.1 hg) (gX HB.1 hg) (nB ajY.1 hg) (nC ajY.1 hg) ?_; clear ajY HB; intro ajY HB aq2 a1F a1G aM9 aNj; clear hb hbox hg; have aaD := aM9.1; have aaE := aNj.1; obtain ⟨lZ, l5, mR, l6, l7, mU⟩ := gB ajY.1) | (go_at_call 94; (with_reducible refine (je.calls ah af _ _ ae acR acS aVm _ ?side1 ?side2 A3.1).mono ?_); (case side1 => exact CB (aY bD.1 HB.1)); (case side2 => exact cO.1); rintro e w9 ⟨a7J, rfl, ho0, hb⟩; refine E4 (bN ho0 (bZ HB.1)) (bB ajY.1 hb) (bB aq2.1 hb) (bS HB.1 hb) ?_; clear ajY aq2 HB; intro aDt ajY aq2 HB; (try clear hb); (try clear ho0)) | ((with_reducible refine aC (N := 5) rfl ?_); refine dN (cs := #[.int .i64 0, .int .i64 0, .slice none 0 0]) (t := 30) ?_; intro aJC hg Hw hbox hb; refine E11 (rB aDt.1 hb) (bB ajY.1 hb) (bB aq2.1 hb) (bS HB.1 hb) (hbox) (gX HB.1 hg) (gX HB.1 hg) (nB ajY.1 hg) (nC ajY.1 hg) (nB aq2.1 hg) (nC aq2.1 hg) ?_; clear aDt ajY aq2 HB; intro aDt ajY aq2 HB asc a1H a1I aEu aNk aEw aNl; clear hb hbox hg; have ajF := aNk.1; have ajG := aEu.1; have aaF := aNl.1; have aaG := aEw.1; obtain ⟨uF, uG, Cn, uH, uI, Co⟩ := gB asc.1; obtain ⟨Q6, Q7, Ua⟩ := bv aDt.1; subst Ua; obtain ⟨sD, sF, wN, sG, sH, wO⟩ := gB ajY.1) | (go_at_call 52; (with_reducible refine (aD.calls k ah af _ _ ae I9 _ ?side1 ?side2 A4.1).mono ?_); (case side1 => exact aY bD.1 (BL HB.1)); (case side2 => exact cO.1); rintro e w16 ⟨a7K, rfl, ho0, hb⟩; refine E6 (jf (by (with_reducible repeat (first | apply aV | apply aW | apply aQ)); exact (aG (RQ aJC 2 (RQ aJC 1 (RQ aJC 0 (bz aDt.1 asc.1 (by decide)) _) _) _) (fun _ h_ => h_.1))) hb) (lN ho0 (bZ HB.1)) (dh (g := aT8) (o := .cells #[.int .i64 ah, .int .i64 af, .slice aK ae.length aJ] 30 (0, 0)) (xB aEu.1 ajY.1) hb) (dh (g := aRJ) (o := .cells #[.int .i64 0, .int .i64 0, .slice none 0 0] 30 (0, 0)) (xB aEw.1 aq2.1) hb) (dh (g := aJC) (o := .cells #[.int .i64 acR, .int .i64 acS, .slice Q6 aVm.length Q7] 30 (0, 0)) (BB asc.1) hb) (bS HB.1 hb) ?_; clear aDt ajY aq2 asc HB; intro aDt aT9 ajY aq2 asc HB; (try clear hb); (try clear ho0); obtain ⟨YH, Ja, Jb⟩ := mq aT9.1; subst Jb)))
 go_loopg [13] k (fun kq v13 w' => ∃ (jm : Int) (arS : List (fq)) (aTb : Value), v13 = .int .i64 jm /\ aa (ed.l0 kq l1 I9 (I9.length : Int) jm ah af ae acR acS arS = some (r1, r2, r3)) /\ aa (kq <= k) /\ aa (Kd.S (Kd.slice 3 (Kd.int .i64)) 38 w' w.heap.size (fun _ => True) (.slice YH I9.length Ja) I9) /\ aa (Kd.R jZ 83 w' w.heap.size (fun _ => True) aTb arS) /\ aa (w'.heap[aT8]? = some (.cells #[.int .i64 ah, .int .i64 af, (.slice aK ae.length aJ)] 30 (0, 0))) /\ aa (w'.heap[aRJ]? = some (.cells #[.int .i64 0, .int .i64 0, (.slice none 0 0)] 30 (0, 0))) /\ aa (w'.heap[aJC]? = some (.cells #[.int .i64 acR, .int .i64 acS, aTb] 30 (0, 0))) /\ aa (Below w.heap.size w w'))
 case atStart => exact ⟨(0), (aVm), (.slice Q6 aVm.length Q7), RG, H', ⟨Nat.le_refl _⟩, ⟨PS aT9.1⟩, ⟨PR aDt.1⟩, ⟨PB ajY.1⟩, ⟨PB aq2.1⟩, ⟨PB asc.1⟩, ⟨BL HB.1⟩⟩
 clear H'
 try clear c1; clear uF uG Cn sD sF wN lZ l5 mR uH uI Co sG sH wO l6 l7 mU
 obtain ⟨jm, arS, aTb, rfl, HA, iB, HO_11, HO_330002, ajY, aq2, asc, HB⟩ := hrel
 cases gk with
 | zero => exact absurd HA.1 (by simp [ed.l0])
 | succ k1 => ?_
 have H := HA.1
 clear HA
 simp only [ed.l0] at H
 replace H := pu H; rcases H with ⟨c18b0, H⟩ | ⟨c18b0, H⟩
 · replace H := ji H; obtain ⟨c19b0, H⟩ := H
   replace H := ji H; obtain ⟨c20b0, H⟩ := H
   replace H := oC H; obtain ⟨c21, H⟩ := H
   have c21b0 := decide_eq_true c21
   have c21b1 : decide (0 < (aT I9 jm).length) = true := decide_eq_true (by omega)
   clear c21
   replace H := ji H; obtain ⟨c22b0, H⟩ := H
   replace H := ji H; obtain ⟨c23b0, H⟩ := H
   replace H := ji H; obtain ⟨c24b0, H⟩ := H
   replace H := oP H; rcases H with ⟨Q8, H⟩ | ⟨Q8, H⟩
   · have c25b0 := beq_iff_eq.mpr Q8
     have c25b1 := bne_eq_false_iff_eq.mpr Q8
     clear Q8
     have H' := aa.mk H
     clear H
     have aUv : 0 <= (jm : Int) := OD
     have aUw : jm < (I9.length : Int) := OD
     obtain ⟨a7L, a4u, a4v, e333, aUx, aRZ, aR0⟩ := tT (fJ HO_11.1).2.2 jm aUv aUw
     cases e333
     obtain ⟨a7M, aV1, aV2, aTA⟩ := BF HO_11.1 [] jm aUv (by first | exact aUw | exact OD | (have e_ := (fJ HO_11.1).1; omega))
     obtain ⟨a0m, rfl, aNS⟩ := aV2
     have aEU := aTA 0 _ rfl
     rw [Nat.add_zero, show ((Kd.slice 3 (Kd.int .i64))).sz = 1 from rfl, Nat.mul_one] at aEU
     replace aEU := Option.some.inj (aEU.symm.trans aUx)
     rw [aEU] at aNS
     have aNT := aa.mk (show Kd.R (Kd.int .i64) 3 _ _ _ _ (aT I9 jm) from aNS)
     clear aEU aNS
     clear aTA aV1
     have aR1 := aa.mk aR0
     have aTc := aa.mk aRZ
     clear aR0 aRZ
     replace aUv := eq_true aUv
     replace aUw := eq_true aUw
     obtain ⟨VR, VS, VT, VU, VV, VW⟩ := gB ajY.1
     have aV3 : 0 <= (0 : Int) := (by omega)
     have aV4 : 0 < ((aT I9 jm).length : Int) := OD
     obtain ⟨a7N, e334, aR2⟩ := Kd.dx (by repeat (first | (with_reducible exact aR1.1) | (with_reducible refine kg ?_ _) | (with_reducible refine ko ?_ _) | (with_reducible refine kH ?_) | exact aR1.1)) 0 aV3 aV4
     cases e334
     have a7O : (0 < (aT I9 jm).length) = True := eq_true (by omega)
     (try rw [show ((0 : Int)).toNat = 0 from rfl] at aR2)
     (try rw [Addr.add_zero'] at aR2)
     replace aV3 := eq_true aV3
     replace aV4 := eq_true aV4
     have aV5 : 0 <= ((rd (aT I9 jm) 0) : Int) := OD
     have aV6 : (rd (aT I9 jm) 0) < (ae.length : Int) := OD
     obtain ⟨a7P, e335, aNU, aNV⟩ := iP bD.1 (rd (aT I9 jm) 0) aV5 aV6
     cases e335
     replace aNU := (HB.1.cell (World.block_lt_of_cell? w _ aNU)).trans aNU
     replace aNV := (HB.1.cell (World.block_lt_of_cell? w _ aNV)).trans aNV
     replace aV5 := eq_true aV5
     replace aV6 := eq_true aV6
     have aV7 : 0 <= (jm : Int) := OD
     have aV8 : jm < (l1.length : Int) := OD
     obtain ⟨a7Q, e336, aNY⟩ := Kd.dx HR1.1 jm aV7 aV8
     cases e336
     replace aNY := (HB.1.cell (World.block_lt_of_cell? w _ aNY)).trans aNY
     replace aV7 := eq_true aV7
     replace aV8 := eq_true aV8
     go_wp2
     repeat (go_quiet (fail); try go_wp2)
     go_roundg k1
     case measure => have := iB.1; omega
     case rel => exact ⟨(wrap64 (jm + 1)), (arS), (aTb), RG, H', ⟨by have := iB.1; omega⟩, ⟨PS HO_11.1⟩, ⟨PR HO_330002.1⟩, ⟨PB ajY.1⟩, ⟨PB aq2.1⟩, ⟨PB asc.1⟩, ⟨BL HB.1⟩⟩
   have c25b0 := beq_eq_false_iff_ne.mpr Q8
   have c25b1 := bne_iff_ne.mpr Q8
   replace H := dz H; obtain ⟨aX2, A29, H⟩ := H
   have H' := aa.mk H
   clear H
   have aUv : 0 <= (jm : Int) := OD
   have aUw : jm < (I9.length : Int) := OD
   obtain ⟨a7L, a4u, a4v, e333, aUx, aRZ, aR0⟩ := tT (fJ HO_11.1).2.2 jm aUv aUw
   cases e333
   obtain ⟨a7M, aV1, aV2, aTA⟩ := BF HO_11.1 [] jm aUv (by first | exact aUw | exact OD | (have e_ := (fJ HO_11.1).1; omega))
   obtain ⟨a0m, rfl, aNS⟩ := aV2
   have aEU := aTA 0 _ rfl
   rw [Nat.add_zero, show ((Kd.slice 3 (Kd.int .i64))).sz = 1 from rfl, Nat.mul_one] at aEU
   replace aEU := Option.some.inj (aEU.symm.trans aUx)
   rw [aEU] at aNS
   have aNT := aa.mk (show Kd.R (Kd.int .i64) 3 _ _ _ _ (aT I9 jm) from aNS)
   clear aEU aNS
   clear aTA aV1
   have aR1 := aa.mk aR0
   have aTc := aa.mk aRZ
   clear aR0 aRZ
   replace aUv := eq_true aUv
   replace aUw := eq_true aUw
   obtain ⟨J2, J3, J4, J5, J6, J7⟩ := gB ajY.1
   have aV3 : 0 <= (0 : Int) := (by omega)
   have aV4 : 0 < ((aT I9 jm).length : Int) := OD
   obtain ⟨a7N, e334, aR2⟩ := Kd.dx (by repeat (first | (with_reducible exact aR1.1) | (with_reducible refine kg ?_ _) | (with_reducible refine ko ?_ _) | (with_reducible refine kH ?_) | exact aR1.1)) 0 aV3 aV4
   cases e334
   have a7O : (0 < (aT I9 jm).length) = True := eq_true (by omega)
   (try rw [show ((0 : Int)).toNat = 0 from rfl] at aR2)
   (try rw [Addr.add_zero'] at aR2)
   replace aV3 := eq_true aV3
   replace aV4 := eq_true aV4
   have aV5 : 0 <= ((rd (aT I9 jm) 0) : Int) := OD
   have aV6 : (rd (aT I9 jm) 0) < (ae.length : Int) := OD
   obtain ⟨a7P, e335, aNU, aNV⟩ := iP bD.1 (rd (aT I9 jm) 0) aV5 aV6
   cases e335
   replace aNU := (HB.1.cell (World.block_lt_of_cell? w _ aNU)).trans aNU
   replace aNV := (HB.1.cell (World.block_lt_of_cell? w _ aNV)).trans aNV
   replace aV5 := eq_true aV5
   replace aV6 := eq_true aV6
   have aV7 : 0 <= (jm : Int) := OD
   have aV8 : jm < (l1.length : Int) := OD
   obtain ⟨a7Q, e336, aNY⟩ := Kd.dx HR1.1 jm aV7 aV8
   cases e336
   replace aNY := (HB.1.cell (World.block_lt_of_cell? w _ aNY)).trans aNY
   replace aV7 := eq_true aV7
   replace aV8 := eq_true aV8
   obtain ⟨V3, V4, azL, V5, V6, azM⟩ := gB asc.1
   obtain ⟨Q9, ED, Mv⟩ := bv HO_330002.1
   subst Mv
   go_wp2_with (first | (go_at_call 98; (with_reducible refine (dn.calls k1 acR acS (fun k_ => some k_ = (.slice Q9 arS.length ED : Value).ownBlock) (.slice Q9 arS.length ED) arS _ _ (aT I9 jm) aX2 w _ ?side1 ?side2 ?side3 ?side4 A29.1).mono ?_); (case side1 => exact BL HB.1); (case side2 => exact jR rfl HO_330002.1); (case side3 => exact qW ((eH aNT.1 (dY HO_330002.1) (by decide))) (fun k_ hk_ hs_ => (hk_.2) hs_)); (case side4 => exact aTc.1); rintro e w36 ⟨rfl, hy0, hb, hkp⟩; refine E6 (eY (ok' := fun k_ => True) (wE ((qC HO_11.1 (dY HO_330002.1) (by decide))) hkp (fun k_ hk_ hs_ => (hk_.2) hs_)) (fun k_ hk_ => trivial)) (qp rfl hy0 (fun k_ e_ => HO_330002.1.1 k_ e_)) (eQ (PB ajY.1) hkp (fun hs_ => (fun e_ => (dK HO_330002.1 ajY.1 (by decide)) e_) hs_)) (eQ (PB aq2.1) hkp (fun hs_ => (fun e_ => (dK HO_330002.1 aq2.1 (by decide)) e_) hs_)) (eQ (PB asc.1) hkp (fun hs_ => (fun e_ => (dK HO_330002.1 asc.1 (by decide)) e_) hs_)) (hb) ?_; clear HO_11 HO_330002 ajY aq2 asc HB aNT; intro HO_11 HO_330002 ajY aq2 asc HB; (try clear hb); (try clear hkp); (try clear hy0)))
   repeat (go_quiet (first | (go_at_call 98; (with_reducible refine (dn.calls k1 acR acS (fun k_ => some k_ = (.slice Q9 arS.length ED : Value).ownBlock) (.slice Q9 arS.length ED) arS _ _ (aT I9 jm) aX2 w _ ?side1 ?side2 ?side3 ?side4 A29.1).mono ?_); (case side1 => exact BL HB.1); (case side2 => exact jR rfl HO_330002.1); (case side3 => exact qW ((eH aNT.1 (dY HO_330002.1) (by decide))) (fun k_ hk_ hs_ => (hk_.2) hs_)); (case side4 => exact aTc.1); rintro e w36 ⟨rfl, hy0, hb, hkp⟩; refine E6 (eY (ok' := fun k_ => True) (wE ((qC HO_11.1 (dY HO_330002.1) (by decide))) hkp (fun k_ hk_ hs_ => (hk_.2) hs_)) (fun k_ hk_ => trivial)) (qp rfl hy0 (fun k_ e_ => HO_330002.1.1 k_ e_)) (eQ (PB ajY.1) hkp (fun hs_ => (fun e_ => (dK HO_330002.1 ajY.1 (by decide)) e_) hs_)) (eQ (PB aq2.1) hkp (fun hs_ => (fun e_ => (dK HO_330002.1 aq2.1 (by decide)) e_) hs_)) (eQ (PB asc.1) hkp (fun hs_ => (fun e_ => (dK HO_330002.1 asc.1 (by decide)) e_) hs_)) (hb) ?_; clear HO_11 HO_330002 ajY aq2 asc HB aNT; intro HO_11 HO_330002 ajY aq2 asc HB; (try clear hb); (try clear hkp); (try clear hy0))); try go_wp2_with (first | (go_at_call 98; (with_reducible refine (dn.calls k1 acR acS (fun k_ => some k_ = (.slice Q9 arS.length ED : Value).ownBlock) (.slice Q9 arS.length ED) arS _ _ (aT I9 jm) aX2 w _ ?side1 ?side2 ?side3 ?side4 A29.1).mono ?_); (case side1 => exact BL HB.1); (case side2 => exact jR rfl HO_330002.1); (case side3 => exact qW ((eH aNT.1 (dY HO_330002.1) (by decide))) (fun k_ hk_ hs_ => (hk_.2) hs_)); (case side4 => exact aTc.1); rintro e w36 ⟨rfl, hy0, hb, hkp⟩; refine E6 (eY (ok' := fun k_ => True) (wE ((qC HO_11.1 (dY HO_330002.1) (by decide))) hkp (fun k_ hk_ hs_ => (hk_.2) hs_)) (fun k_ hk_ => trivial)) (qp rfl hy0 (fun k_ e_ => HO_330002.1.1 k_ e_)) (eQ (PB ajY.1) hkp (fun hs_ => (fun e_ => (dK HO_330002.1 ajY.1 (by decide)) e_) hs_)) (eQ (PB aq2.1) hkp (fun hs_ => (fun e_ => (dK HO_330002.1 aq2.1 (by decide)) e_) hs_)) (eQ (PB asc.1) hkp (fun hs_ => (fun e_ => (dK HO_330002.1 asc.1 (by decide)) e_) hs_)) (hb) ?_; clear HO_11 HO_330002 ajY aq2 asc HB aNT; intro HO_11 HO_330002 ajY aq2 asc HB; (try clear hb); (try clear hkp); (try clear hy0))))
   go_roundg k1
   case measure => have := iB.1; omega
   case rel => exact ⟨(wrap64 (jm + 1)), (aX2), (.slice Q9 arS.length ED), RG, H', ⟨by have := iB.1; omega⟩, ⟨PS HO_11.1⟩, ⟨PR HO_330002.1⟩, ⟨PB ajY.1⟩, ⟨PB aq2.1⟩, ⟨PB asc.1⟩, ⟨BL HB.1⟩⟩
 simp only [Option.some.injEq, Prod.mk.injEq] at H
 obtain ⟨rfl, rfl, rfl⟩ := H
 obtain ⟨azN, azO, azP, azQ, azR, azS⟩ := gB asc.1
 obtain ⟨afA, afB, azT, afC, afD, azU⟩ := gB aq2.1
 obtain ⟨F6, DV, Ra⟩ := bv HO_330002.1
 subst Ra
 go_wp2
 repeat (go_quiet (fail); try go_wp2)
 refine bodyPost_ret (results_cell_row rfl _ _ aRJ 30 #[.int .i64 acR, .int .i64 acS, .slice F6 arS.length DV] (0, 0) _ rfl (BB aq2.1) Try.underlying30 rfl (by kernel_rfl)) rfl ?_
 exact ⟨_, RF, by (with_reducible repeat (first | apply aV | apply aW | apply aQ)); exact aG (RQ aRJ 2 (RQ aRJ 1 (RQ aRJ 0 (bz HO_330002.1 aq2.1 (by decide)) _) _) _) (fun _ hk => trivial), BL HB.1⟩
def fQ.l0 : Nat -> Int -> List Int -> Int -> Int -> Int -> Int -> List (fq) -> Option (Int × Int × (List (fq)))
 | 0, _, _, _, _, _, _, _ => none
 | k + 1, x1, x5, x9, j6, aWO, aWP, aWQ => if j6 < x9 then (if 0 <= (IntKind.u64.wrap (j6)) then (if x5.length < 17592186044416 then (fQ.l0 k x1 (x5 ++ [Go.bits .and .i64 (shr .i64 x1 (IntKind.u64.wrap (j6))) 1]) x9 (wrap64 (j6 + 1)) aWO aWP aWQ) else (none)) else (none)) else ((ed.f k aWO aWP aWQ x5).bind fun aYQ => (some (aYQ.1, aYQ.2.1, aYQ.2.2)))
def fQ.f (k : Nat) (ah : Int) (af : Int) (ae : List (fq)) (a1 : Int) : Option (Int × Int × (List (fq))) := (aD.f k ah af ae).bind fun aX3 => (fQ.l0 k a1 ([] : List Int) (aX3.length : Int) 0 ah af ae)
theorem fQ.mono_l : ∀ k, (∀ y0 y1 y2 y3 y4 y5 y6, dO (fQ.l0 k y0 y1 y2 y3 y4 y5 y6) (fQ.l0 (k + 1) y0 y1 y2 y3 y4 y5 y6))
 | 0 => fun _ _ _ _ _ _ _ r h => by simp [fQ.l0] at h
 | k + 1 => by
  have ja := fQ.mono_l k
  intros
  first | unfold fQ.l0
  exact LM3 ja aD.mono ed.mono
theorem fQ.mono : ∀ a0 a1 a2 a3 k, dO (fQ.f k a0 a1 a2 a3) (fQ.f (k + 1) a0 a1 a2 a3) := by
 intro a0 a1 a2 a3 k
 have ja := fQ.mono_l k
 unfold fQ.f
 exact LM3 ja aD.mono ed.mono
theorem fQ.calls (k : Nat) (ah : Int) (af : Int) (aK : Option Addr) (aJ : Nat) (ae : List (fq)) (a1 : Int) (r1 : Int) (r2 : Int) (r3 : List (fq)) (w : World) (dH : Kd.C jZ w aK ae.length ae) (dG : ae.length <= aJ) (h : fQ.f k ah af ae a1 = some (r1, r2, r3)) :
 Calls Try.prog 70 #[.agg #[.int .i64 ah, .int .i64 af, .slice aK ae.length aJ], .int .i64 a1] w fun e w' => ∃ VK : Value, e = .returned (.agg #[.int .i64 r1, .int .i64 r2, VK]) /\ Kd.R jZ 83 w' w.heap.size (fun _ => True) VK r3 /\ Below w.heap.size w w' := by
 have nH := Try.underlying30
 have bD := aa.mk dH
 have cO := aa.mk dG
 clear dH dG
 have HB := aa.mk (Below.refl w.heap.size w)
 have H := h
 clear h
 unfold fQ.f at H
 replace H := dz H; obtain ⟨aX3, A3, H⟩ := H
 have H' := aa.mk H
 clear H
 go_enter Try.func70, Try.ntmps70
 go_wp2_with (first | ((with_reducible refine aC (N := 2) rfl ?_); refine dN (cs := #[.int .i64 ah, .int .i64 af, .slice aK ae.length aJ]) (t := 30) ?_; intro a7R hg w4 hbox hb; refine mJ HB.1 hg hbox hb ?_; clear HB; intro HB aEx bdC bdD; clear hb hbox hg) | ((with_reducible refine aC (N := 4) rfl ?_); refine dN (cs := #[.int .i64 0, .int .i64 0, .slice none 0 0]) (t := 30) ?_; intro aVn hg w5 hbox hb; refine E7 (bB aEx.1 hb) (bS HB.1 hb) (hbox) (gX HB.1 hg) (gX HB.1 hg) (nB aEx.1 hg) (nC aEx.1 hg) ?_; clear aEx HB; intro aEx HB aIJ bdE bdF aX4 aX5; clear hb hbox hg; have asv := aX4.1; have asw := aX5.1; obtain ⟨NN, NP, ZV, NQ, NR, ZW⟩ := gB aEx.1) | ((with_reducible refine aA (f := 52) rfl ?_); refine cK (N := (some 8)) #[.agg #[.int .i64 ah, .int .i64 af, .slice aK ae.length aJ]] Try.func52 ?_; (with_reducible refine (aD.calls k ah af _ _ ae aX3 _ ?side1 ?side2 A3.1).mono ?_); (case side1 => exact CB (aY bD.1 HB.1)); (case side2 => exact cO.1); rintro e w8 ⟨bgw, rfl, ho0, hb⟩; refine ⟨_, rfl, ?_⟩; refine E4 (lN ho0 (bZ HB.1)) (bB aEx.1 hb) (bB aIJ.1 hb) (bS HB.1 hb) ?_; clear aEx aIJ HB; intro a7S aEx aIJ HB; (try clear hb); (try clear ho0); obtain ⟨Ao9, ZI, Vm⟩ := mq a7S.1; subst Vm))
 go_loopg [5, 10] k (fun kq v5 v10 w' => ∃ (bq : List Int) (bE : Int), v10 = .int .i64 bE /\ aa (fQ.l0 kq a1 bq (aX3.length : Int) bE ah af ae = some (r1, r2, r3)) /\ aa (kq <= k) /\ aa (Kd.R (Kd.int .i64) 3 w' w.heap.size (fun _ => True) v5 bq) /\ aa (w'.heap[a7R]? = some (.cells #[.int .i64 ah, .int .i64 af, (.slice aK ae.length aJ)] 30 (0, 0))) /\ aa (w'.heap[aVn]? = some (.cells #[.int .i64 0, .int .i64 0, (.slice none 0 0)] 30 (0, 0))) /\ aa (Below w.heap.size w w'))
 case atStart => exact ⟨(([] : List Int)), (0), RG, H', ⟨Nat.le_refl _⟩, ⟨by first | exact tO _ _ _ _ _ | exact ET _ _ _ _ _ | exact EU _ _ _ _ _ | exact EW _ _ _ _ _ | exact EY _ _ _ _ _⟩, ⟨PB aEx.1⟩, ⟨PB aIJ.1⟩, ⟨BL HB.1⟩⟩
 clear H'
 clear NN NP ZV NQ NR ZW
 obtain ⟨bq, bE, rfl, HA, iB, HO_5, aEx, aIJ, HB⟩ := hrel
 cases gk with
 | zero => exact absurd HA.1 (by simp [fQ.l0])
 | succ k1 => ?_
 have H := HA.1
 clear HA
 simp only [fQ.l0] at H
 replace H := pu H; rcases H with ⟨c10b0, H⟩ | ⟨c10b0, H⟩
 · obtain ⟨jq, uY⟩ : ∃ j_ : Int, (IntKind.u64.wrap (bE)) = j_ := ⟨_, rfl⟩
   replace H : (if 0 <= (jq) then (if bq.length < 17592186044416 then (fQ.l0 k1 a1 (bq ++ [Go.bits .and .i64 (shr .i64 a1 (jq)) 1]) (aX3.length : Int) (wrap64 (bE + 1)) ah af ae) else (none)) else (none)) = some (r1, r2, r3) := by first | (rw [uY] at H; exact H) | (simp only [uY] at H ⊢; exact H)
   replace H := oC H; obtain ⟨c12, H⟩ := H
   have c12b0 := eq_true c12
   have c12b1 := decide_eq_true c12
   clear c12
   obtain ⟨pY, yc⟩ : ∃ j_ : Int, (shr .i64 a1 (jq)) = j_ := ⟨_, rfl⟩
   replace H : (if bq.length < 17592186044416 then (fQ.l0 k1 a1 (bq ++ [Go.bits .and .i64 (pY) 1]) (aX3.length : Int) (wrap64 (bE + 1)) ah af ae) else (none)) = some (r1, r2, r3) := by first | (rw [yc] at H; exact H) | (simp only [yc] at H ⊢; exact H)
   have OV : (a1 / 2 ^ min (jq).toNat 64) = pY := yc
   have hji13z : (jq) <= 64 -> (a1 / 2 ^ (jq).toNat) = pY := M6 yc
   replace H := oC H; obtain ⟨c14, H⟩ := H
   have aur := aa.mk c14
   clear c14
   generalize a1J : ((bq ++ [Go.bits .and .i64 (pY) 1]) : List Int) = bbv at H
   have a7T := aa.mk a1J.symm; clear a1J
   have H' := aa.mk H
   clear H
   go_wp2_with (first | ((with_reducible refine bf (b := .append) (xs := #[.tmp 13, .tmp 19]) rfl ?_); at_builtin; refine ek (Kd.int .i64) (w0 := w) w.heap.size rfl (.tmp 13) (.tmp 19) 38 3 (.int .i64 0) 8 rfl Try.underlying38 info3 rfl (by decide) (by omega) u5 bq (Go.bits .and .i64 (pY) 1) [.int .i64 (Go.bits .and .i64 (pY) 1)] (fun _ => True) (fun _ => False) rfl rfl ?aP (fun _ hk => hk.elim) ?aF ?aO ?aB ?aS ?aL ?_; (case aP => exact rfl); (case aB => exact (BL HB.1)); (case aF => exact (fun _ _ => trivial)); (case aO => exact (PR HO_5.1)); (case aS => exact (bZ HB.1)); (case aL => have := aur.1; omega); intro bgx NU ho hb hg hat; rw [<- a7T.1] at ho; refine E4 (bG aEx.1 hg (dK HO_5.1 aEx.1 (by decide))) (bG aIJ.1 hg (dK HO_5.1 aIJ.1 (by decide))) (hb) (ho) ?_; clear aEx aIJ HB HO_5; intro aEx aIJ HB a7U; clear ho hb hg hat))
   go_roundg k1
   case measure => have := iB.1; omega
   case rel => exact ⟨(bbv), (wrap64 (bE + 1)), RG, H', ⟨by have := iB.1; omega⟩, ⟨PR a7U.1⟩, ⟨PB aEx.1⟩, ⟨PB aIJ.1⟩, ⟨BL HB.1⟩⟩
 replace H := dz H; obtain ⟨⟨a7V, a7W, a7X⟩, A16, H⟩ := H
 dsimp only at H
 simp only [Option.some.injEq, Prod.mk.injEq] at H
 obtain ⟨rfl, rfl, rfl⟩ := H
 obtain ⟨qN, qO, rV, qP, qQ, rW⟩ := gB aEx.1
 obtain ⟨aFk, aFl, aFm⟩ := bv HO_5.1
 subst aFm
 go_wp2_with (first | ((with_reducible refine aA (f := 85) rfl ?_); refine cK (N := (some 24)) #[.agg #[.int .i64 ah, .int .i64 af, .slice aK ae.length aJ], .slice aFk bq.length aFl] Try.func85 ?_; (with_reducible refine (ed.calls k1 ah af _ _ ae _ _ bq a7V a7W a7X _ ?side1 ?side2 ?side3 ?side4 A16.1).mono ?_); (case side1 => exact CB (aY bD.1 HB.1)); (case side2 => exact cO.1); (case side3 => exact CB (ay HO_5.1).2.2); (case side4 => exact (ay HO_5.1).2.1); rintro e ZJ ⟨aON, rfl, ho0, hb⟩; refine ⟨_, rfl, ?_⟩; refine E5 (rB HO_5.1 hb) (bN ho0 (bZ HB.1)) (bB aEx.1 hb) (bB aIJ.1 hb) (bS HB.1 hb) ?_; clear HO_5 aEx aIJ HB; intro HO_5 aut aEx aIJ HB; (try clear hb); (try clear ho0); obtain ⟨uJ, uK, xK, uL, uM, xL⟩ := gB aIJ.1; obtain ⟨aux, YL, afE⟩ := bv aut.1; subst afE))
 refine bodyPost_ret (results_cell_row rfl _ _ aVn 30 #[.int .i64 a7V, .int .i64 a7W, .slice aux a7X.length YL] (0, 0) _ rfl (BB aIJ.1) Try.underlying30 rfl (by kernel_rfl)) rfl ?_
 exact ⟨_, RF, by (with_reducible repeat (first | apply aV | apply aW | apply aQ)); exact aG (RQ aVn 2 (RQ aVn 1 (RQ aVn 0 (bz aut.1 aIJ.1 (by decide)) _) _) _) (fun _ hk => trivial), BL HB.1⟩
def iE.f (k : Nat) (ah : Int) (af : Int) (ae : List (fq)) (a1 : Int) (a2 : Int) : Option (Int × Int × Int × Int) := (fQ.f k ah af ae a1).bind fun aYR => ((iU.f k aYR.1 aYR.2.1 aYR.2.2 a2).bind fun abF => ((bR.f k abF.2.2.2.1 abF.2.2.2.2.1 abF.2.2.2.2.2).bind fun ME => (some (ME, abF.1, abF.2.1, abF.2.2.1))))
theorem iE.mono : ∀ a0 a1 a2 a3 a4 k, dO (iE.f k a0 a1 a2 a3 a4) (iE.f (k + 1) a0 a1 a2 a3 a4) := by
 intro a0 a1 a2 a3 a4 k
 unfold iE.f
 repeat' first
  | (with_reducible exact iU.mono _ _ _ _ _)
  | (with_reducible exact fQ.mono _ _ _ _ _)
  | (with_reducible exact bR.mono _ _ _ _)
  | (with_reducible exact dO.refl _)
  | (with_reducible exact dO.none _)
  | (with_reducible refine dO.ite ?_ ?_)
  | (with_reducible refine dO.bind ?_ (fun _ => ?_))
  | exact iU.mono _ _ _ _ _
  | exact fQ.mono _ _ _ _ _
  | exact bR.mono _ _ _ _
  | exact dO.none _
  | refine dO.ite ?_ ?_
  | refine dO.bind ?_ (fun _ => ?_)
theorem iE.calls (k : Nat) (ah : Int) (af : Int) (aK : Option Addr) (aJ : Nat) (ae : List (fq)) (a1 : Int) (a2 : Int) (r1 : Int) (r2 : Int) (r3 : Int) (r4 : Int) (w : World) (dH : Kd.C jZ w aK ae.length ae) (dG : ae.length <= aJ) (h : iE.f k ah af ae a1 a2 = some (r1, r2, r3, r4)) :
 Calls Try.prog 43 #[.agg #[.int .i64 ah, .int .i64 af, .slice aK ae.length aJ], .int .i64 a1, .int .i64 a2] w fun e w' => e = .returned (.tuple #[.int .i64 r1, .agg #[.int .i64 r2, .int .i64 r3, .int .i64 r4]]) /\ Below w.heap.size w w' := by
 have nH := Try.underlying30
 have YM := Try.underlying54
 have bD := aa.mk dH
 have cO := aa.mk dG
 clear dH dG
 have HB := aa.mk (Below.refl w.heap.size w)
 have H := h
 clear h
 unfold iE.f at H
 replace H := dz H; obtain ⟨⟨auw, a4w, aX6⟩, A4, H⟩ := H
 dsimp only at H
 replace H := dz H; obtain ⟨⟨aov, aow, YN, aUy, aVo, MC⟩, A5, H⟩ := H
 dsimp only at H
 replace H := dz H; obtain ⟨ME, A6, H⟩ := H
 simp only [Option.some.injEq, Prod.mk.injEq] at H
 obtain ⟨rfl, rfl, rfl, rfl⟩ := H
 go_enter Try.func43, Try.ntmps43
 try go_wp2_with (first | ((with_reducible refine aC (N := 3) rfl ?_); refine dN (cs := #[.int .i64 ah, .int .i64 af, .slice aK ae.length aJ]) (t := 30) ?_; intro a7Y hg w7 hbox hb; refine mJ HB.1 hg hbox hb ?_; clear HB; intro HB axC bdG bdH; clear hb hbox hg) | ((with_reducible refine aC (N := 7) rfl ?_); refine dN (cs := #[.int .i64 0, .int .i64 0, .int .i64 0]) (t := 54) ?_; intro a1K hg w8 hbox hb; refine E7 (bB axC.1 hb) (bS HB.1 hb) (hbox) (gX HB.1 hg) (gX HB.1 hg) (nB axC.1 hg) (nC axC.1 hg) ?_; clear axC HB; intro axC HB azG bdI bdJ aX7 aX8; clear hb hbox hg; have aeJ := aX7.1; have aeK := aX8.1; obtain ⟨pR, pU, uN, pV, pW, uO⟩ := gB axC.1) | ((with_reducible refine aA (f := 70) rfl ?_); refine cK (N := (some 13)) #[.agg #[.int .i64 ah, .int .i64 af, .slice aK ae.length aJ], .int .i64 a1] Try.func70 ?_; (with_reducible refine (fQ.calls k ah af _ _ ae a1 auw a4w aX6 _ ?side1 ?side2 A4.1).mono ?_); (case side1 => exact CB (aY bD.1 HB.1)); (case side2 => exact cO.1); rintro e qy ⟨bgy, rfl, ho0, hb⟩; refine ⟨_, rfl, ?_⟩; refine E4 (bN ho0 (bZ HB.1)) (bB axC.1 hb) (bB azG.1 hb) (bS HB.1 hb) ?_; clear axC azG HB; intro aDF axC azG HB; (try clear hb); (try clear ho0); obtain ⟨DF, rM, vF⟩ := bv aDF.1; subst vF) | ((with_reducible refine aA (f := 69) rfl ?_); refine cK (N := (some 15)) #[.agg #[.int .i64 auw, .int .i64 a4w, .slice DF aX6.length rM], .int .i64 a2] Try.func69 ?_; (with_reducible refine (iU.calls k auw a4w _ _ aX6 a2 aov aow YN aUy aVo MC _ ?side1 ?side2 A5.1).mono ?_); (case side1 => exact CB (ay aDF.1).2.2); (case side2 => exact (ay aDF.1).2.1); rintro e yJ ⟨bgz, rfl, ho0, hb⟩; refine ⟨_, rfl, ?_⟩; refine E5 (eT (PR aDF.1) (fe ho0) hb) (bN (iI ho0 (iL (PR aDF.1))) (bZ HB.1)) (bB axC.1 hb) (bB azG.1 hb) (bS HB.1 hb) ?_; clear aDF axC azG HB; intro aDF aFh axC azG HB; (try clear hb); (try clear ho0)) | ((with_reducible refine aC (N := 8) rfl ?_); refine dN (cs := #[.int .i64 0, .int .i64 0, .int .i64 0]) (t := 54) ?_; intro aIM hg yM hbox hb; refine E12 (rB aDF.1 hb) (rB aFh.1 hb) (bB axC.1 hb) (bB azG.1 hb) (bS HB.1 hb) (hbox) (gX HB.1 hg) (gX HB.1 hg) (nB axC.1 hg) (nC axC.1 hg) (nB azG.1 hg) (nC azG.1 hg) ?_; clear aDF aFh axC azG HB; intro aDF aFh axC azG HB aDu bdK bdL aQs aX9 aQD aQE; clear hb hbox hg) | ((with_reducible refine aC (N := 9) rfl ?_); refine dN (cs := #[.int .i64 0, .int .i64 0, .slice none 0 0]) (t := 30) ?_; intro aIN hg NU hbox hb; refine E15 (rB aDF.1 hb) (rB aFh.1 hb) (bB axC.1 hb) (bB azG.1 hb) (bB aDu.1 hb) (bS HB.1 hb) (hbox) (gX HB.1 hg) (gX HB.1 hg) (nB axC.1 hg) (nC axC.1 hg) (nB azG.1 hg) (nC azG.1 hg) (nB aDu.1 hg) (nC aDu.1 hg) ?_; clear aDF aFh axC azG aDu HB; intro aDF aFh axC azG aDu HB aFi bdM bdN aQF aYa aQG aQH aQN aQO; clear hb hbox hg; have aKc := aX9.1; have aKd := aQs.1; have aiC := aQE.1; have aiD := aQD.1; have aKe := aQN.1; have aKf := aQO.1; obtain ⟨FD, FE, OA, FF, FH, OB⟩ := gB aDu.1; have auz := aYa.1; have auA := aQF.1; have aaO := aQH.1; have aaP := aQG.1; obtain ⟨wJ, wK, Jw, wL, wM, Jy⟩ := gB aFi.1; obtain ⟨yN, yO, NV⟩ := bv aFh.1; subst NV))
 have n_ : (fun Mi : World => (Kd.R jZ 83 Mi w.heap.size (fun k_ => some k_ ≠ (.slice yN MC.length yO : Value).ownBlock) (.slice DF aX6.length rM) aX6) /\ (Kd.R jZ 83 Mi w.heap.size (fun k_ => some k_ ≠ (.slice DF aX6.length rM : Value).ownBlock) (.slice yN MC.length yO) MC) /\ (Mi.heap[a7Y]? = some (.cells #[.int .i64 ah, .int .i64 af, .slice aK ae.length aJ] 30 (0, 0))) /\ (Mi.heap[a1K]? = some (.cells #[.int .i64 0, .int .i64 0, .int .i64 0] 54 (0, 0))) /\ (Mi.heap[aIM]? = some (.cells #[.int .i64 aov, .int .i64 aow, .int .i64 YN] 54 (0, 0))) /\ (Mi.heap[aIN]? = some (.cells #[.int .i64 aUy, .int .i64 aVo, .slice yN MC.length yO] 30 (0, 0))) /\ (Below w.heap.size w Mi)) ((((((NU.setCell ⟨aIM, 0, none⟩ (.int .i64 aov)).setCell ⟨aIM, 1, none⟩ (.int .i64 aow)).setCell ⟨aIM, 2, none⟩ (.int .i64 YN)).setCell ⟨aIN, 0, none⟩ (.int .i64 aUy)).setCell ⟨aIN, 1, none⟩ (.int .i64 aVo)).setCell ⟨aIN, 2, none⟩ (.slice yN MC.length yO)) := ⟨by (with_reducible repeat (first | apply aV | apply aW | apply aQ)); exact aG (RQ aIN 2 (RQ aIN 1 (RQ aIN 0 (mY (p := ⟨aIM, 2, none⟩) (mY (p := ⟨aIM, 1, none⟩) (mY (p := ⟨aIM, 0, none⟩) (bz (bz aDF.1 aDu.1 (by decide)) aFi.1 (by decide)) (fun _ hk => hk.1.2) (.int .i64 aov)) (fun _ hk => hk.1.2) (.int .i64 aow)) (fun _ hk => hk.1.2) (.int .i64 YN)) _) _) _) (fun _ hk => hk.1.1.2), by (with_reducible repeat (first | apply aV | apply aW | apply aQ)); exact aG (RQ aIN 2 (RQ aIN 1 (RQ aIN 0 (mY (p := ⟨aIM, 2, none⟩) (mY (p := ⟨aIM, 1, none⟩) (mY (p := ⟨aIM, 0, none⟩) (bz (bz aFh.1 aDu.1 (by decide)) aFi.1 (by decide)) (fun _ hk => hk.1.2) (.int .i64 aov)) (fun _ hk => hk.1.2) (.int .i64 aow)) (fun _ hk => hk.1.2) (.int .i64 YN)) _) _) _) (fun _ hk => hk.1.1.2), by (with_reducible repeat (first | refine ak ?_ _ | refine ag ?_ | refine au ?_ _)); refine bu ?_ aQF.1 _; (with_reducible repeat (first | refine ak ?_ _ | refine ag ?_ | refine au ?_ _)); refine bu ?_ aQF.1 _; (with_reducible repeat (first | refine ak ?_ _ | refine ag ?_ | refine au ?_ _)); refine bu ?_ aQF.1 _; (with_reducible repeat (first | refine ak ?_ _ | refine ag ?_ | refine au ?_ _)); refine bu ?_ aQs.1 _; (with_reducible repeat (first | refine ak ?_ _ | refine ag ?_ | refine au ?_ _)); refine bu ?_ aQs.1 _; (with_reducible repeat (first | refine ak ?_ _ | refine ag ?_ | refine au ?_ _)); refine bu ?_ aQs.1 _; (with_reducible repeat (first | refine ak ?_ _ | refine ag ?_ | refine au ?_ _)); exact axC.1, by (with_reducible repeat (first | refine ak ?_ _ | refine ag ?_ | refine au ?_ _)); refine bu ?_ aQG.1 _; (with_reducible repeat (first | refine ak ?_ _ | refine ag ?_ | refine au ?_ _)); refine bu ?_ aQG.1 _; (with_reducible repeat (first | refine ak ?_ _ | refine ag ?_ | refine au ?_ _)); refine bu ?_ aQG.1 _; (with_reducible repeat (first | refine ak ?_ _ | refine ag ?_ | refine au ?_ _)); refine bu ?_ aQD.1 _; (with_reducible repeat (first | refine ak ?_ _ | refine ag ?_ | refine au ?_ _)); refine bu ?_ aQD.1 _; (with_reducible repeat (first | refine ak ?_ _ | refine ag ?_ | refine au ?_ _)); refine bu ?_ aQD.1 _; (with_reducible repeat (first | refine ak ?_ _ | refine ag ?_ | refine au ?_ _)); exact azG.1, by (with_reducible repeat (first | refine ak ?_ _ | refine ag ?_ | refine au ?_ _)); refine bu ?_ aQN.1 _; (with_reducible repeat (first | refine ak ?_ _ | refine ag ?_ | refine au ?_ _)); refine bu ?_ aQN.1 _; (with_reducible repeat (first | refine ak ?_ _ | refine ag ?_ | refine au ?_ _)); refine bu ?_ aQN.1 _; (with_reducible repeat (first | refine ak ?_ _ | refine ag ?_ | refine au ?_ _)); refine gy (cs := #[.int .i64 aov, .int .i64 aow, .int .i64 0]) ?_ 2 _ rfl; (with_reducible repeat (first | refine ak ?_ _ | refine ag ?_ | refine au ?_ _)); refine gy (cs := #[.int .i64 aov, .int .i64 0, .int .i64 0]) ?_ 1 _ rfl; (with_reducible repeat (first | refine ak ?_ _ | refine ag ?_ | refine au ?_ _)); refine gy (cs := #[.int .i64 0, .int .i64 0, .int .i64 0]) ?_ 0 _ rfl; (with_reducible repeat (first | refine ak ?_ _ | refine ag ?_ | refine au ?_ _)); exact aDu.1, by (with_reducible repeat (first | refine ak ?_ _ | refine ag ?_ | refine au ?_ _)); refine gy (cs := #[.int .i64 aUy, .int .i64 aVo, .slice none 0 0]) ?_ 2 _ rfl; (with_reducible repeat (first | refine ak ?_ _ | refine ag ?_ | refine au ?_ _)); refine gy (cs := #[.int .i64 aUy, .int .i64 0, .slice none 0 0]) ?_ 1 _ rfl; (with_reducible repeat (first | refine ak ?_ _ | refine ag ?_ | refine au ?_ _)); refine gy (cs := #[.int .i64 0, .int .i64 0, .slice none 0 0]) ?_ 0 _ rfl; (with_reducible repeat (first | refine ak ?_ _ | refine ag ?_ | refine au ?_ _)); refine bu ?_ aQO.1 _; (with_reducible repeat (first | refine ak ?_ _ | refine ag ?_ | refine au ?_ _)); refine bu ?_ aQO.1 _; (with_reducible repeat (first | refine ak ?_ _ | refine ag ?_ | refine au ?_ _)); refine bu ?_ aQO.1 _; (with_reducible repeat (first | refine ak ?_ _ | refine ag ?_ | refine au ?_ _)); exact aFi.1, BL HB.1⟩
 (try clear aDF)
 (try clear aFh)
 (try clear axC)
 (try clear azG)
 (try clear aDu)
 (try clear aFi)
 (try clear HB)
 generalize ((((((NU.setCell ⟨aIM, 0, none⟩ (.int .i64 aov)).setCell ⟨aIM, 1, none⟩ (.int .i64 aow)).setCell ⟨aIM, 2, none⟩ (.int .i64 YN)).setCell ⟨aIN, 0, none⟩ (.int .i64 aUy)).setCell ⟨aIN, 1, none⟩ (.int .i64 aVo)).setCell ⟨aIN, 2, none⟩ (.slice yN MC.length yO)) = Mi at n_ ⊢
 obtain ⟨qG, qH, qi, qI, qJ, tX, xk⟩ := n_
 refine E7 qG qH qi qI qJ tX xk ?_
 clear qG qH qi qI qJ tX xk
 intro aDF aFh axC azG aDu aFi HB
 refine E7 (aQ aDF.1) (aQ aFh.1) (ag axC.1) (ag azG.1) (ag aDu.1) (ag aFi.1) (dm HB.1) ?_
 clear aDF aFh axC azG aDu aFi HB
 intro aDF aFh axC azG aDu aFi HB
 refine jN (n := 5) (S := fun w' => w'.cell? ⟨aIN, 0, none⟩ = some (.int .i64 aUy) /\ w'.cell? ⟨aIN, 1, none⟩ = some (.int .i64 aVo) /\ w'.cell? ⟨aIN, 2, none⟩ = some (.slice yN MC.length yO) /\ w'.cell? ⟨aIM, 0, none⟩ = some (.int .i64 aov) /\ w'.cell? ⟨aIM, 1, none⟩ = some (.int .i64 aow) /\ w'.cell? ⟨aIM, 2, none⟩ = some (.int .i64 YN)) (ds := []) #[Zz,Zz,Zz,Zz,Zz] (by kernel_rfl) rfl rfl ⟨(ai aFi.1 0).trans rfl, (ai aFi.1 1).trans rfl, (ai aFi.1 2).trans rfl, (ai aDu.1 0).trans rfl, (ai aDu.1 1).trans rfl, (ai aDu.1 2).trans rfl⟩ (fun hHeld => ?_)
 generalize Mi.drew = Mk at aDF aFh axC azG aDu aFi HB hHeld ⊢
 refine xQ 0 (N := some 18) hHeld ?_
 refine xQ 2 (N := some 20) hHeld ?_
 refine mV (i := 1) (N := some 19) #[Yy,Yy,Yy,Zz,Zz] rfl rfl (by kernel_rfl) (by decide) (fun K hK => ?_)
 refine nA Try.func44 (by kernel_rfl) rfl #[.agg #[.int .i64 aUy, .int .i64 aVo, .slice yN MC.length yO]] (by rfl) rfl rfl (by (try simp only [List.map_toArray, List.map_cons, List.map_nil]); first | done | rfl | (simp only [List.length_drop, List.length_take]; rfl)) ?_
 with_reducible refine (bR.calls k aUy aVo _ _ MC ME _ ?side1 ?side2 A6.1).mono ?_
 (case side1 => exact CB (ay aFh.1).2.2)
 (case side2 => exact (ay aFh.1).2.1)
 rintro e w26 ⟨rfl, hb⟩
 refine ⟨_, rfl, ?_⟩
 refine E7 (rB aDF.1 hb) (rB aFh.1 hb) (bB axC.1 hb) (bB azG.1 hb) (bB aDu.1 hb) (bB aFi.1 hb) (bS HB.1 hb) ?_
 clear aDF aFh axC azG aDu aFi HB
 intro aDF aFh axC azG aDu aFi HB
 (try clear hb)
 (try clear hb2)
 (try clear hk)
 (try clear hi)
 refine hK.out _ _ ⟨(ai aFi.1 0).trans rfl, (ai aFi.1 1).trans rfl, (ai aFi.1 2).trans rfl, (ai aDu.1 0).trans rfl, (ai aDu.1 1).trans rfl, (ai aDu.1 2).trans rfl⟩ (fun hHeld => ?_)
 clear hK K
 refine eX (a' := ?_) ?_ ?_
 rotate_left
 · show Act.put _ (some 19) _ = _
   simp only [Act.put, List.setIfInBounds_toArray, List.set_cons_zero, List.set_cons_succ, cz, dF]
   rfl
 refine ll (i := 3) (N := some 6) (v := ?_) (a' := ?_) #[Yy,Yy,Yy,Yy,Zz] rfl rfl (by kernel_rfl) (fun _ _ _ h => h) (Or.inl ⟨by rfl, ?_⟩) ?_ ?_
 rotate_left
 · intro w'
   go_simp
   with_reducible rfl
 rotate_left
 · simp only [Act.put, List.setIfInBounds_toArray, List.set_cons_zero, List.set_cons_succ, cz, dF]
   rfl
 refine mV (i := 4) (N := none) #[Yy,Yy,Yy,Yy,Yy] rfl rfl (by kernel_rfl) (by decide) (fun K hK => ?_)
 obtain ⟨auB, auC, aFn, ajK, ajL, auD⟩ := gB azG.1
 refine pF (w1 := ?_) (by rfl) rfl ?_ ?_
 rotate_left
 · go_simp
   rfl
 refine hK.out _ _ ⟨(rP aQH.1 hHeld.1), (rP aQH.1 hHeld.2.1), (rP aQH.1 hHeld.2.2.1), (rP aQE.1 hHeld.2.2.2.1), (rP aQE.1 hHeld.2.2.2.2.1), (rP aQE.1 hHeld.2.2.2.2.2)⟩ (fun hHeld => ?_)
 clear hK K
 refine lI (by kernel_rfl) ?_
 try go_wp2
 refine bodyPost_ret (Te rfl _ _ a1K 54 #[.int .i64 aov, .int .i64 aow, .int .i64 YN] (0, 0) _ rfl (BB azG.1) Try.underlying54 rfl (by kernel_rfl)) rfl ?_
 exact ⟨RF, BL HB.1⟩

def uk.f (l0 : List Int) : Option (List Int) := (some (([] : List Int) : List Int)).bind fun aYS => (if aYS.length + l0.length < 17592186044416 then (some (aYS ++ l0)) else (none))
theorem uk.calls (A0 : Option Addr) (c0 : Nat) (l0 : List Int) (r : List Int) (w : World) (hr0 : Kd.C (Kd.int .i64) w A0 l0.length l0) (hc0 : l0.length <= c0) (h : uk.f l0 = some r) :
 Calls Try.prog 59 #[.slice A0 l0.length c0] w fun e w' => ∃ rO : Value, e = .returned (rO) /\ Kd.R (Kd.int .i64) 3 w' w.heap.size (fun _ => True) rO r /\ Below w.heap.size w w' := by
 have DI := aa.mk hr0
 have ZU := aa.mk hc0
 clear hr0 hc0
 have HB := aa.mk (Below.refl w.heap.size w)
 have H := h
 clear h
 unfold uk.f at H
 replace H := nR H; obtain ⟨aYS, a1L, H⟩ := H
 replace H := oC H; obtain ⟨c2, H⟩ := H
 have abz := aa.mk c2
 clear c2
 generalize a1M : ((aYS ++ l0) : List Int) = bgA at H
 have a7Z := aa.mk a1M.symm; clear a1M
 obtain rfl := Option.some.inj H
 go_enter Try.func59, Try.ntmps59
 go_wp2_with (first | ((with_reducible refine aC (N := 3) rfl ?_); refine qh (Kd.int .i64) _ 3 ?hg (N := 3) ?hd (xs := ([] : List Int)) (inner := []) (ok := fun _ => True) (okp := fun _ => True) ?hr ?hp (fun _ hk => hk) trivial (Below.refl _ _) (Nat.le_refl _) (by simp) ?_; (case hd => rfl); (case hg => rfl); (case hr => first | (go_simp; done) | (go_simp; rfl)); (case hp => exact (fK.none _ _)); intro bbw w3 ho4 hb hg_ hnew_; clear hg_ hnew_; (first | rw [<- a1L.1] at ho4 | (simp only [Int.reduceToNat] at ho4; rw [<- a1L.1] at ho4)); refine E2 (bN ho4 (bZ HB.1)) (bS HB.1 hb) ?_; clear HB; intro a1N HB; clear hb ho4) | ((with_reducible refine bf (b := .append) (xs := #[.tmp 3, .tmp 4]) rfl ?_); at_builtin; refine qB (Kd.int .i64) (w0 := w) w.heap.size rfl (.tmp 3) (.tmp 4) 38 3 (.int .i64 0) 8 rfl Try.underlying38 info3 rfl (by decide) (by omega) bbw aYS l0 _ _ _ (fun _ => True) (fun _ => False) rfl rfl ?aO ?aR (fun _ _ h => h) (fun _ h => h.elim) ?aF ?aB ?aS ?aL ?_; (case aR => repeat (first | exact (aY DI.1 HB.1) | (with_reducible refine kg ?_ _) | (with_reducible refine ko ?_ _) | (with_reducible refine kH ?_))); (case aB => exact (BL HB.1)); (case aF => exact (fun _ _ => trivial)); (case aO => exact (PR a1N.1)); (case aS => exact (bZ HB.1)); (case aL => have := abz.1; omega); intro bgB w5 ho hb hg hat; rw [<- a7Z.1] at ho; refine E2 (hb) (ho) ?_; clear HB a1N; intro HB a8b; clear ho hb hg hat))
 go_ret
 exact ⟨_, RF, pm (a8b.1), BL HB.1⟩
def fF.l0 : Nat -> Int -> List Int -> Int -> Int -> Option (Bool)
 | 0, _, _, _, _ => none
 | k + 1, x1, x7, x8, x9 => if x9 < x8 then (if 0 <= x9 then (if x9 < (x7.length : Int) then (if (rd x7 x9) = x1 then (some true) else (fF.l0 k x1 x7 x8 (wrap64 (x9 + 1)))) else (none)) else (none)) else (some false)
def fF.f (k : Nat) (l0 : List Int) (a1 : Int) : Option (Bool) := fF.l0 k a1 l0 (l0.length : Int) 0
theorem fF.mono_l : ∀ k, (∀ y0 y1 y2 y3, dO (fF.l0 k y0 y1 y2 y3) (fF.l0 (k + 1) y0 y1 y2 y3))
 | 0 => fun _ _ _ _ r h => by simp [fF.l0] at h
 | k + 1 => by
  have ja := fF.mono_l k
  intros
  first | unfold fF.l0
  exact BA ja
theorem fF.mono : ∀ a0 a1 k, dO (fF.f k a0 a1) (fF.f (k + 1) a0 a1) := by
 intro a0 a1 k
 have ja := fF.mono_l k
 unfold fF.f
 exact BA ja
theorem fF.calls (k : Nat) (A0 : Option Addr) (c0 : Nat) (l0 : List Int) (a1 : Int) (r : Bool) (w : World) (hr0 : Kd.C (Kd.int .i64) w A0 l0.length l0) (hc0 : l0.length <= c0) (h : fF.f k l0 a1 = some r) :
 Calls Try.prog 62 #[.slice A0 l0.length c0, .int .i64 a1] w fun e w' => e = .returned (.bool r) /\ lY w w' := by
 have DI := aa.mk hr0
 have ZU := aa.mk hc0
 clear hr0 hc0
 have H := h
 clear h
 unfold fF.f at H
 have H' := aa.mk H
 clear H
 go_enter Try.func62, Try.ntmps62
 go_wp2
 go_loopg [9] k (fun kq v9 w' => ∃ (kJ : Int), v9 = .int .i64 kJ /\ aa (fF.l0 kq a1 l0 (l0.length : Int) kJ = some r) /\ aa (kq <= k) /\ lY w w')
 case atStart => exact ⟨(0), RG, H', ⟨Nat.le_refl _⟩, DR⟩
 clear H'
 obtain ⟨kJ, rfl, HA, iB, ⟨m1, rfl⟩⟩ := hrel
 cases gk with
 | zero => exact absurd HA.1 (by simp [fF.l0])
 | succ k1 => ?_
 have H := HA.1
 clear HA
 simp only [fF.l0] at H
 replace H := pu H; rcases H with ⟨c3b0, H⟩ | ⟨c3b0, H⟩
 · replace H := ji H; obtain ⟨c4b0, H⟩ := H
   replace H := ji H; obtain ⟨c5b0, H⟩ := H
   replace H := oP H; rcases H with ⟨c6, H⟩ | ⟨c6, H⟩
   · have c6b0 := beq_iff_eq.mpr c6
     have c6b1 := bne_eq_false_iff_eq.mpr c6
     clear c6
     obtain rfl := Option.some.inj H
     have aV9 : 0 <= (kJ : Int) := OD
     have aWa : kJ < (l0.length : Int) := OD
     obtain ⟨a8c, a4x, a0n⟩ := Kd.dx DI.1 kJ aV9 aWa
     cases a4x
     replace aV9 := eq_true aV9
     replace aWa := eq_true aWa
     go_wp2
     go_ret
     exact ⟨RG, DR⟩
   have c6b0 := beq_eq_false_iff_ne.mpr c6
   have c6b1 := bne_iff_ne.mpr c6
   have H' := aa.mk H
   clear H
   have aV9 : 0 <= (kJ : Int) := OD
   have aWa : kJ < (l0.length : Int) := OD
   obtain ⟨a8c, a4x, a0n⟩ := Kd.dx DI.1 kJ aV9 aWa
   cases a4x
   replace aV9 := eq_true aV9
   replace aWa := eq_true aWa
   go_wp2
   go_roundg k1
   case measure => have := iB.1; omega
   case rel => exact ⟨(wrap64 (kJ + 1)), RG, H', ⟨by have := iB.1; omega⟩, DR⟩
 obtain rfl := Option.some.inj H
 go_wp2
 go_ret
 exact ⟨RG, DR⟩
mutual
def bA.l0 : Nat -> List Int -> List Int -> List (List Int) -> Int -> Int -> Int -> List (fq) -> Option (List Int × (List (List Int)))
 | 0, _, _, _, _, _, _, _ => none
 | k + 1, x1, x6, x7, x8, aQR, aQU, aRa => if x8 < (x6.length : Int) then (bA.l1 k x1 x6 x7 x8 x1 (x1.length : Int) 0 aQR aQU aRa) else (some (x6, x7))
def bA.l1 : Nat -> List Int -> List Int -> List (List Int) -> Int -> List Int -> Int -> Int -> Int -> Int -> List (fq) -> Option (List Int × (List (List Int)))
 | 0, _, _, _, _, _, _, _, _, _, _ => none
 | k + 1, x1, x6, x7, x8, Hu, x24, x25, aQR, aQU, aRa => if x25 < x24 then (if 0 <= x25 then (if x25 < (Hu.length : Int) then (if 0 <= x8 then (if x8 < (x6.length : Int) then ((iE.f k aQR aQU aRa (rd x6 x8) (rd Hu x25)).bind fun a1O => ((fF.f k x6 a1O.1).bind fun Cc => (if Cc = true then (bA.l1 k x1 x6 x7 x8 Hu x24 (wrap64 (x25 + 1)) aQR aQU aRa) else (if x6.length < 17592186044416 then (if x8 < (x7.length : Int) then ((uk.f (aT x7 x8)).bind fun auI => (if auI.length < 17592186044416 then (if x7.length < 5864062014805 then (bA.l1 k x1 (x6 ++ [a1O.1]) (x7 ++ [(auI ++ [rd Hu x25])]) x8 Hu x24 (wrap64 (x25 + 1)) aQR aQU aRa) else (none)) else (none))) else (none)) else (none))))) else (none)) else (none)) else (none)) else (none)) else (bA.l0 k x1 x6 x7 (wrap64 (x8 + 1)) aQR aQU aRa)
end
def bA.f (k : Nat) (ah : Int) (af : Int) (ae : List (fq)) (l1 : List Int) : Option (List Int × (List (List Int))) := (bR.f k ah af ae).bind fun aVp => (bA.l0 k l1 (([aVp] : List Int)) (([[]] : List (List Int))) 0 ah af ae)
theorem bA.mono_l : ∀ k, (∀ y0 y1 y2 y3 y4 y5 y6, dO (bA.l0 k y0 y1 y2 y3 y4 y5 y6) (bA.l0 (k + 1) y0 y1 y2 y3 y4 y5 y6)) /\ (∀ y0 y1 y2 y3 y4 y5 y6 y7 y8 y9, dO (bA.l1 k y0 y1 y2 y3 y4 y5 y6 y7 y8 y9) (bA.l1 (k + 1) y0 y1 y2 y3 y4 y5 y6 y7 y8 y9))
 | 0 => by refine ⟨?_, ?_⟩ <;> (intros; intro r h; first | (simp [bA.l0] at h; done) | (simp [bA.l1] at h; done))
 | k + 1 => by
  obtain ⟨ja, ih1⟩ := bA.mono_l k
  refine ⟨?_, ?_⟩ <;> (
   intros
   first | unfold bA.l0 | unfold bA.l1
   exact LM5 ja ih1 fF.mono iE.mono bR.mono)
theorem bA.mono : ∀ a0 a1 a2 a3 k, dO (bA.f k a0 a1 a2 a3) (bA.f (k + 1) a0 a1 a2 a3) := by
 intro a0 a1 a2 a3 k
 obtain ⟨ja, ih1⟩ := bA.mono_l k
 unfold bA.f
 exact LM5 ja ih1 fF.mono iE.mono bR.mono
def bA.T8 : Bool × List (List Nat × List Nat) := (true, [([], []), ([], []), ([], []), ([1, 2], [1, 2]), ([3], [3]), ([], []), ([0, 4, 5], [0, 4, 5]), ([6], [6]), ([7], [7]), ([7], [7]), ([], []), ([8, 6, 0, 1, 2, 3, 4, 5, 6, 7, 8, 10], [8]), ([10, 9, 11, 0, 1, 2, 3, 4, 5, 6, 7, 8, 9, 10, 11], [9, 10])])
def bA.B8 : List Nat := [0, 0, 0, 6, 14, 0, 63, 127, 255, 255, 0, 1535, 4095]
theorem bA.afG : mX .any (opsOf Try.f58 8) = bA.T8 := by kernel_rfl
theorem bA.bits8 : kr bA.T8.2 bA.B8 = true := by kernel_rfl
theorem bA.calls (k : Nat) (ah : Int) (af : Int) (aK : Option Addr) (aJ : Nat) (ae : List (fq)) (A1 : Option Addr) (c1 : Nat) (l1 : List Int) (r1 : List Int) (r2 : List (List Int)) (w : World) (dH : Kd.C jZ w aK ae.length ae) (dG : ae.length <= aJ) (hr1 : Kd.C (Kd.int .i64) w A1 l1.length l1) (hc1 : l1.length <= c1) (h : bA.f k ah af ae l1 = some (r1, r2)) :
 Calls Try.prog 58 #[.agg #[.int .i64 ah, .int .i64 af, .slice aK ae.length aJ], .slice A1 l1.length c1] w fun e w' => ∃ rO v1_ : Value, e = .returned (.tuple #[rO, v1_]) /\ Kd.R (Kd.int .i64) 3 w' w.heap.size (fun _ => True) rO r1 /\ Kd.S (Kd.slice 3 (Kd.int .i64)) 38 w' w.heap.size (fun k_ => some k_ ≠ (rO : Value).ownBlock) v1_ r2 /\ Below w.heap.size w w' := by
 have nH := Try.underlying30
 have YM := Try.underlying54
 have bD := aa.mk dH
 have cO := aa.mk dG
 clear dH dG
 have HR1 := aa.mk hr1
 have vD := aa.mk hc1
 clear hr1 hc1
 have HB := aa.mk (Below.refl w.heap.size w)
 have H := h
 clear h
 unfold bA.f at H
 replace H := dz H; obtain ⟨aVp, A3, H⟩ := H
 generalize a1P : ((([aVp] : List Int)) : List Int) = bbx at H
 have a1Q := aa.mk a1P.symm; clear a1P
 generalize a1R : ((([[]] : List (List Int))) : List (List Int)) = bby at H
 have a1S := aa.mk a1R.symm; clear a1R
 have H' := aa.mk H
 clear H
 go_enter Try.func58, Try.ntmps58
 go_wp2_with (first | ((with_reducible refine aC (N := 2) rfl ?_); refine dN (cs := #[.int .i64 ah, .int .i64 af, .slice aK ae.length aJ]) (t := 30) ?_; intro azV hg w4 hbox hb; refine mJ HB.1 hg hbox hb ?_; clear HB; intro HB aeh bdP bdQ; clear hb hbox hg; obtain ⟨Au, Av, EA, Aw, Ay, EB⟩ := gB aeh.1) | ((with_reducible refine aA (f := 44) rfl ?_); refine cK (N := (some 14)) #[.agg #[.int .i64 ah, .int .i64 af, .slice aK ae.length aJ]] Try.func44 ?_; (with_reducible refine (bR.calls k ah af _ _ ae aVp _ ?side1 ?side2 A3.1).mono ?_); (case side1 => exact CB (aY bD.1 HB.1)); (case side2 => exact cO.1); rintro e w6 ⟨rfl, hb⟩; refine ⟨_, rfl, ?_⟩; refine E2 (bB aeh.1 hb) (bS HB.1 hb) ?_; clear aeh HB; intro aeh HB; (try clear hb)) | ((with_reducible refine aC (N := 15) rfl ?_); refine qh (Kd.int .i64) _ 3 ?hg (N := 15) ?hd (xs := ([aVp] : List Int)) (inner := [.int .i64 aVp]) (ok := fun _ => True) (okp := fun _ => True) ?hr ?hp (fun _ hk => hk) trivial (Below.refl _ _) (Nat.le_refl _) (by simp) ?_; (case hd => rfl); (case hg => rfl); (case hr => first | (go_simp; done) | (go_simp; rfl)); (case hp => exact (fK.one (show Kd.M (Kd.int .i64) _ _ _ aVp [.int .i64 aVp] from rfl) (fK.none _ _))); intro bgC w7 ho8 hb hg_ hnew_; clear hg_ hnew_; (first | rw [<- a1Q.1] at ho8 | (simp only [Int.reduceToNat] at ho8; rw [<- a1Q.1] at ho8)); refine E3 (bN ho8 (bZ HB.1)) (bB aeh.1 hb) (bS HB.1 hb) ?_; clear aeh HB; intro aVq aeh HB; clear hb ho8) | ((with_reducible refine aC (N := 16) rfl ?_); refine aio (Kd.slice 3 (Kd.int .i64)) _ 38 ?hg (N := 16) ?hd (xs := ([[]] : List (List Int))) (inner := [.slice none 0 0]) (ok := fun _ => True) (okp := fun _ => True) ?hr ?hp (fun _ hk => hk) trivial (Below.refl _ _) (Nat.le_refl _) (by simp) ?_; (case hd => rfl); (case hg => rfl); (case hr => first | (go_simp; done) | (go_simp; rfl)); (case hp => exact (fK.one (show Kd.M (Kd.slice 3 (Kd.int .i64)) _ _ _ [] [.slice none 0 0] from ⟨_, rfl, tO _ _ _ _ _⟩) (fK.none _ _))); intro bgD w9 I7 hb hg_ hnew_; clear hg_ hnew_; (first | rw [<- a1S.1] at I7 | (simp only [Int.reduceToNat] at I7; rw [<- a1S.1] at I7)); refine E4 (rB aVq.1 hb) (lN (BV I7 (iL (PR aVq.1))) (bZ HB.1)) (bB aeh.1 hb) (bS HB.1 hb) ?_; clear aVq aeh HB; intro aVq a8d aeh HB; clear hb I7))
 go_loopg [6, 7, 8] k (fun kq v6 v7 v8 w' => ∃ (MF : List Int) (qa : List (List Int)) (d9 : Int), v8 = .int .i64 d9 /\ aa (bA.l0 kq l1 MF qa d9 ah af ae = some (r1, r2)) /\ aa (kq <= k) /\ aa (Kd.R (Kd.int .i64) 3 w' w.heap.size (fun _ => True) v6 MF) /\ aa (Kd.S (Kd.slice 3 (Kd.int .i64)) 38 w' w.heap.size (fun k_ => some k_ ≠ (v6 : Value).ownBlock) v7 qa) /\ aa (w'.heap[azV]? = some (.cells #[.int .i64 ah, .int .i64 af, (.slice aK ae.length aJ)] 30 (0, 0))) /\ aa (Below w.heap.size w w'))
 case atStart => exact ⟨(bbx), (bby), (0), RG, H', ⟨Nat.le_refl _⟩, ⟨PR aVq.1⟩, ⟨ES (eY a8d.1 (fun _ hk => hk.2))⟩, ⟨PB aeh.1⟩, ⟨BL HB.1⟩⟩
 clear H'
 try clear c1; clear Au Av EA Aw Ay EB
 obtain ⟨MF, qa, d9, rfl, HA, iB, HO_6, HO_7, aeh, HB⟩ := hrel
 cases gk with
 | zero => exact absurd HA.1 (by simp [bA.l0])
 | succ k1 => ?_
 have H := HA.1
 clear HA
 simp only [bA.l0] at H
 replace H := pu H; rcases H with ⟨c11b0, H⟩ | ⟨c11b0, H⟩
 · have H' := aa.mk H
   clear H
   obtain ⟨DF, rM, vF⟩ := bv HO_6.1
   subst vF
   go_wp2
   go_loopg [6, 7, 25] k1 (fun kq v6 v7 v25 w' => ∃ (iT : List Int) (lF : List (List Int)) (ql : Int), v25 = .int .i64 ql /\ aa (bA.l1 kq l1 iT lF d9 l1 (l1.length : Int) ql ah af ae = some (r1, r2)) /\ aa (kq <= k1) /\ aa (Kd.R (Kd.int .i64) 3 w' w.heap.size (fun _ => True) v6 iT) /\ aa (Kd.S (Kd.slice 3 (Kd.int .i64)) 38 w' w.heap.size (fun k_ => some k_ ≠ (v6 : Value).ownBlock) v7 lF) /\ aa (w'.heap[azV]? = some (.cells #[.int .i64 ah, .int .i64 af, (.slice aK ae.length aJ)] 30 (0, 0))) /\ aa (Below w.heap.size w w'))
   case atStart => exact ⟨(MF), (qa), (0), RG, H', ⟨Nat.le_refl _⟩, ⟨PR HO_6.1⟩, ⟨PS HO_7.1⟩, ⟨PB aeh.1⟩, ⟨BL HB.1⟩⟩
   clear H'
   try clear c11b0
   obtain ⟨iT, lF, ql, rfl, HA, nG, HO_6, HO_7, aeh, HB⟩ := hrel
   cases gk with
   | zero => exact absurd HA.1 (by simp [bA.l1])
   | succ k2 => ?_
   have H := HA.1
   clear HA
   simp only [bA.l1] at H
   replace H := pu H; rcases H with ⟨c13b0, H⟩ | ⟨c13b0, H⟩
   · replace H := ji H; obtain ⟨c14b0, H⟩ := H
     replace H := ji H; obtain ⟨c15b0, H⟩ := H
     replace H := ji H; obtain ⟨c16b0, H⟩ := H
     replace H := ji H; obtain ⟨c17b0, H⟩ := H
     replace H := dz H; obtain ⟨⟨aPw, aTB, aTC, aTD⟩, A18, H⟩ := H
     dsimp only at H
     replace H := dz H; obtain ⟨Cc, A19, H⟩ := H
     replace H := Cm H; rcases H with ⟨rfl, H⟩ | ⟨rfl, H⟩
     · have H' := aa.mk H
       clear H
       have aWb : 0 <= (ql : Int) := OD
       have aWc : ql < (l1.length : Int) := OD
       obtain ⟨a8e, a4y, aN0⟩ := Kd.dx HR1.1 ql aWb aWc
       cases a4y
       replace aN0 := (HB.1.cell (World.block_lt_of_cell? w _ aN0)).trans aN0
       replace aWb := eq_true aWb
       replace aWc := eq_true aWc
       try go_wp2
       refine E4 (aQ HO_6.1) (iV HO_7.1) (ag aeh.1) (dm HB.1) ?_
       clear HO_6 HO_7 aeh HB
       intro HO_6 HO_7 aeh HB
       obtain ⟨aux, YL, afE⟩ := bv HO_6.1
       (first | subst afE | (injection afE with rY zZ rZ; have z8 := rY.symm; have Aa := rZ.symm; clear rY zZ rZ; subst z8; subst Aa))
       have aWd : 0 <= (d9 : Int) := OD
       have aWe : d9 < (iT.length : Int) := OD
       obtain ⟨aKV, a4z, aR3⟩ := Kd.dx (ay HO_6.1).2.2 d9 aWd aWe
       cases a4z
       replace aWd := eq_true aWd
       replace aWe := eq_true aWe
       refine jN (n := 13) (S := fun w' => w'.cell? ⟨azV, 0, none⟩ = some (.int .i64 ah) /\ w'.cell? ⟨azV, 1, none⟩ = some (.int .i64 af) /\ w'.cell? ⟨azV, 2, none⟩ = some (.slice aK ae.length aJ) /\ w'.cell? (aKV.add (d9).toNat) = some (.int .i64 (rd iT d9))) (ds := []) #[Zz,Zz,Zz,Zz,Zz,Zz,Zz,Zz,Zz,Zz,Zz,Zz,Zz] (by kernel_rfl) rfl rfl ⟨(ai aeh.1 0).trans rfl, (ai aeh.1 1).trans rfl, (ai aeh.1 2).trans rfl, aR3⟩ (fun hHeld => ?_); refine iq bA.afG bA.bits8 (fun HT_ HW_ => ?_)
       generalize wr.drew = Qo at HO_6 HO_7 aeh HB aR3 hHeld ⊢
       refine aU 1 (N := some 31) HT_.1 ?_
       refine aU 2 (N := some 32) HT_.1 ?_
       refine aU 3 (N := some 33) HT_.1 ?_
       refine aU 5 (N := some 35) HT_.1 ?_
       refine gF 0 (N := some 30) HT_.1 HW_.1 hHeld ?_
       refine gF 4 (N := some 34) HT_.1 HW_.1 hHeld ?_
       refine yS (σ := Nat) 2 #[Yy,Yy,Yy,Yy,Yy,Yy,Yy,Yy,Yy,Yy,Yy,Zz,Zz] (fun s_ => [(36, .tuple #[.int .i64 aPw, .agg #[.int .i64 aTB, .int .i64 aTC, .int .i64 aTD]]), (12, .pointer (some ⟨s_, 0, none⟩)), (29, .tuple #[.int .i64 aPw, .agg #[.int .i64 aTB, .int .i64 aTC, .int .i64 aTD]]), (37, .int .i64 aPw), (38, .agg #[.int .i64 aTB, .int .i64 aTC, .int .i64 aTD])]) (fun s_ w' => (w'.cell? ⟨azV, 0, none⟩ = some (.int .i64 ah) /\ w'.cell? ⟨azV, 1, none⟩ = some (.int .i64 af) /\ w'.cell? ⟨azV, 2, none⟩ = some (.slice aK ae.length aJ) /\ w'.cell? (aKV.add (d9).toNat) = some (.int .i64 (rd iT d9))) /\ (Kd.R (Kd.int .i64) 3 w' w.heap.size (fun _ => True) (.slice (some aKV) iT.length YL) iT) /\ (Kd.S (Kd.slice 3 (Kd.int .i64)) 38 w' w.heap.size (fun k_ => some k_ ≠ (.slice (some aKV) iT.length YL : Value).ownBlock) u7 lF) /\ (w'.heap[azV]? = some (.cells #[.int .i64 ah, .int .i64 af, .slice aK ae.length aJ] 30 (0, 0))) /\ (w'.heap[s_]? = some (.cells #[.int .i64 0, .int .i64 0, .int .i64 0] 54 (0, 0))) /\ (w.heap.size <= s_) /\ (w.heap.size <= s_) /\ (azV ≠ s_) /\ (s_ ≠ azV) /\ (Below w.heap.size w w')) ?_ ?_
       rotate_left
       · intro hCont
         refine Tn (i := 6) (j := 10) (Ni := some 36) (Nj := some 12) #[Yy,Yy,Yy,Yy,Yy,Yy,Yy,Zz,Zz,Zz,Zz,Zz,Zz] #[Yy,Yy,Yy,Yy,Yy,Yy,Zz,Zz,Zz,Zz,Yy,Zz,Zz] rfl rfl rfl rfl (Ey HT_.1 (by kernel_rfl)) (by decide) (by decide) (fun K hK => ?_) (fun K hK => ?_)
         · skip
           refine nA Try.func43 (by kernel_rfl) rfl #[.agg #[.int .i64 ah, .int .i64 af, .slice aK ae.length aJ], .int .i64 (rd iT d9), .int .i64 (rd l1 ql)] (by rfl) rfl rfl (by (try simp only [List.map_toArray, List.map_cons, List.map_nil]); first | done | rfl | (simp only [List.length_drop, List.length_take]; rfl)) ?_
           with_reducible refine (iE.calls k2 ah af _ _ ae (rd iT d9) (rd l1 ql) aPw aTB aTC aTD _ ?side1 ?side2 A18.1).mono ?_
           (case side1 => exact CB (aY bD.1 HB.1))
           (case side2 => exact cO.1)
           rintro e w23 ⟨rfl, hb⟩
           have xF := (hb.cell (World.block_lt_of_cell? _ _ (hHeld.2.2.2))).trans (hHeld.2.2.2)
           refine ⟨_, rfl, ?_⟩
           refine E4 (rB HO_6.1 hb) (sB HO_7.1 hb) (bB aeh.1 hb) (bS HB.1 hb) ?_
           clear HO_6 HO_7 aeh HB
           intro HO_6 HO_7 aeh HB
           (try clear hb)
           (try clear hb2)
           (try clear hk)
           (try clear hi)
           refine hK.out _ _ ⟨(ai aeh.1 0).trans rfl, (ai aeh.1 1).trans rfl, (ai aeh.1 2).trans rfl, xF⟩ (fun hHeld => ?_)
           clear hK K
           refine eX (a' := ?_) ?_ ?_
           rotate_left
           · show Act.put _ (some 36) _ = _
             simp only [Act.put, List.setIfInBounds_toArray, List.set_cons_zero, List.set_cons_succ, cz, dF]
             rfl
           refine aU 7 (N := some 29) HT_.1 ?_
           refine aU 8 (N := some 37) HT_.1 ?_
           refine aU 9 (N := some 38) HT_.1 ?_
           refine mV (i := 10) (N := some 12) #[Yy,Yy,Yy,Yy,Yy,Yy,Yy,Yy,Yy,Yy,Yy,Zz,Zz] rfl rfl (jc HT_.1 (by kernel_rfl)) (by decide) (fun K hK => ?_)
           refine ma ?hg (N := 12) ?hd (cs := #[.int .i64 0, .int .i64 0, .int .i64 0]) (t := 54) ?hr ?_; (case hd => rfl); (case hg => rfl); (case hr => first | (go_simp; done) | (go_simp; rfl))
           intro ase hg Mi hbox hb
           have xF := (hb.cell (World.block_lt_of_cell? _ _ (hHeld.2.2.2))).trans (hHeld.2.2.2)
           refine E9 (rB HO_6.1 hb) (sB HO_7.1 hb) (bB aeh.1 hb) (bS HB.1 hb) (hbox) (gX HB.1 hg) (gX HB.1 hg) (nB aeh.1 hg) (nC aeh.1 hg) ?_
           clear HO_6 HO_7 aeh HB
           intro HO_6 HO_7 aeh HB aoX aR4 aR5 aq7 azY
           clear hb hbox hg
           refine hK.out _ _ ⟨(ai aeh.1 0).trans rfl, (ai aeh.1 1).trans rfl, (ai aeh.1 2).trans rfl, xF⟩ (fun hHeld => ?_)
           clear hK K
           refine eX (a' := ?_) ?_ ?_
           rotate_left
           · show Act.put _ (some 12) _ = _
             simp only [Act.put, List.setIfInBounds_toArray, List.set_cons_zero, List.set_cons_succ, cz, dF]
             rfl
           exact eX NA (hCont (ase) _ ⟨hHeld, (PR HO_6.1), (PS HO_7.1), (PB aeh.1), (PB aoX.1), aR4.1, aR5.1, aq7.1, azY.1, (BL HB.1)⟩)
         skip
         refine ma ?hg (N := 12) ?hd (cs := #[.int .i64 0, .int .i64 0, .int .i64 0]) (t := 54) ?hr ?_; (case hd => rfl); (case hg => rfl); (case hr => first | (go_simp; done) | (go_simp; rfl))
         intro ase hg w23 hbox hb
         have xF := (hb.cell (World.block_lt_of_cell? _ _ (hHeld.2.2.2))).trans (hHeld.2.2.2)
         refine E9 (rB HO_6.1 hb) (sB HO_7.1 hb) (bB aeh.1 hb) (bS HB.1 hb) (hbox) (gX HB.1 hg) (gX HB.1 hg) (nB aeh.1 hg) (nC aeh.1 hg) ?_
         clear HO_6 HO_7 aeh HB
         intro HO_6 HO_7 aeh HB aoX aR4 aR5 aq7 azY
         clear hb hbox hg
         refine hK.out _ _ ⟨(ai aeh.1 0).trans rfl, (ai aeh.1 1).trans rfl, (ai aeh.1 2).trans rfl, xF⟩ (fun hHeld => ?_)
         clear hK K
         refine eX (a' := ?_) ?_ ?_
         rotate_left
         · show Act.put _ (some 12) _ = _
           simp only [Act.put, List.setIfInBounds_toArray, List.set_cons_zero, List.set_cons_succ, cz, dF]
           rfl
         refine mV (i := 6) (N := some 36) #[Yy,Yy,Yy,Yy,Yy,Yy,Yy,Zz,Zz,Zz,Yy,Zz,Zz] rfl rfl (jc HT_.1 (by kernel_rfl)) (by decide) (fun K hK => ?_)
         refine nA Try.func43 (by kernel_rfl) rfl #[.agg #[.int .i64 ah, .int .i64 af, .slice aK ae.length aJ], .int .i64 (rd iT d9), .int .i64 (rd l1 ql)] (by rfl) rfl rfl (by (try simp only [List.map_toArray, List.map_cons, List.map_nil]); first | done | rfl | (simp only [List.length_drop, List.length_take]; rfl)) ?_
         with_reducible refine (iE.calls k2 ah af _ _ ae (rd iT d9) (rd l1 ql) aPw aTB aTC aTD _ ?side1 ?side2 A18.1).mono ?_
         (case side1 => exact CB (aY bD.1 HB.1))
         (case side2 => exact cO.1)
         rintro e Mi ⟨rfl, hb⟩
         have xF := (hb.cell (World.block_lt_of_cell? _ _ (hHeld.2.2.2))).trans (hHeld.2.2.2)
         refine ⟨_, rfl, ?_⟩
         refine E5 (rB HO_6.1 hb) (sB HO_7.1 hb) (bB aeh.1 hb) (bB aoX.1 hb) (bS HB.1 hb) ?_
         clear HO_6 HO_7 aeh aoX HB
         intro HO_6 HO_7 aeh aoX HB
         (try clear hb)
         (try clear hb2)
         (try clear hk)
         (try clear hi)
         refine hK.out _ _ ⟨(ai aeh.1 0).trans rfl, (ai aeh.1 1).trans rfl, (ai aeh.1 2).trans rfl, xF⟩ (fun hHeld => ?_)
         clear hK K
         refine eX (a' := ?_) ?_ ?_
         rotate_left
         · show Act.put _ (some 36) _ = _
           simp only [Act.put, List.setIfInBounds_toArray, List.set_cons_zero, List.set_cons_succ, cz, dF]
           rfl
         refine aU 7 (N := some 29) HT_.1 ?_
         refine aU 8 (N := some 37) HT_.1 ?_
         refine aU 9 (N := some 38) HT_.1 ?_
         exact eX NA (hCont (ase) _ ⟨hHeld, (PR HO_6.1), (PS HO_7.1), (PB aeh.1), (PB aoX.1), aR4.1, aR5.1, aq7.1, azY.1, (BL HB.1)⟩)
       rintro ase Mk ⟨hS_, qG, qH, qi, qI, qJ, tX, xk, zk, Ce⟩
       refine E9 qG qH qi qI qJ tX xk zk Ce ?_
       clear HO_6 HO_7 aeh HB qG qH qi qI qJ tX xk zk Ce
       intro HO_6 HO_7 aeh aoX aR4 aR5 aq7 azY HB
       have hHeld : Mk.cell? ⟨azV, 0, none⟩ = some (.int .i64 ah) /\ Mk.cell? ⟨azV, 1, none⟩ = some (.int .i64 af) /\ Mk.cell? ⟨azV, 2, none⟩ = some (.slice aK ae.length aJ) /\ Mk.cell? (aKV.add (d9).toNat) = some (.int .i64 (rd iT d9)) := hS_
       refine eX (a' := ?_) ?_ ?_
       rotate_left
       · simp only [oQ, Act.put, List.setIfInBounds_toArray, List.set_cons_zero, List.set_cons_succ]
         rfl
       refine aU 11 (N := some 11) HT_.1 ?_
       refine mV (i := 12) (N := none) #[Yy,Yy,Yy,Yy,Yy,Yy,Yy,Yy,Yy,Yy,Yy,Yy,Yy] rfl rfl (jc HT_.1 (by kernel_rfl)) (by decide) (fun K hK => ?_)
       obtain ⟨aFr, auB, auC, auL, ajK, ajL⟩ := gB aoX.1
       have azW := aq7.1
       have azX := azY.1
       refine pF (w1 := ?_) (by rfl) rfl ?_ ?_
       rotate_left
       · go_simp
         rfl
       refine hK.out _ _ ⟨(rP aq7.1 hHeld.1), (rP aq7.1 hHeld.2.1), (rP aq7.1 hHeld.2.2.1), ((cell_far (p := ⟨ase, _, none⟩) (by first | exact Kd.iY (dK HO_6.1 aoX.1 (by decide)) | (rw [add_block]; exact Kd.iY (dK HO_6.1 aoX.1 (by decide))) | (show (Addr.add _ _).block ≠ _; rw [add_block]; exact Kd.iY (dK HO_6.1 aoX.1 (by decide))) | (dsimp only; exact Kd.iY (dK HO_6.1 aoX.1 (by decide)))) _).trans (((cell_far (p := ⟨ase, _, none⟩) (by first | exact Kd.iY (dK HO_6.1 aoX.1 (by decide)) | (rw [add_block]; exact Kd.iY (dK HO_6.1 aoX.1 (by decide))) | (show (Addr.add _ _).block ≠ _; rw [add_block]; exact Kd.iY (dK HO_6.1 aoX.1 (by decide))) | (dsimp only; exact Kd.iY (dK HO_6.1 aoX.1 (by decide)))) _).trans (((cell_far (p := ⟨ase, _, none⟩) (by first | exact Kd.iY (dK HO_6.1 aoX.1 (by decide)) | (rw [add_block]; exact Kd.iY (dK HO_6.1 aoX.1 (by decide))) | (show (Addr.add _ _).block ≠ _; rw [add_block]; exact Kd.iY (dK HO_6.1 aoX.1 (by decide))) | (dsimp only; exact Kd.iY (dK HO_6.1 aoX.1 (by decide)))) _).trans (hHeld.2.2.2))))))⟩ (fun hHeld => ?_)
       clear hK K
       refine lI (jS HT_.1 (by kernel_rfl)) ?_
       try go_wp2_with (first | ((with_reducible refine aA (f := 62) rfl ?_); refine cK (N := (some 41)) #[.slice (some aKV) iT.length YL, .int .i64 aPw] Try.func62 ?_; (with_reducible refine (fF.calls k2 _ _ iT aPw true _ ?side1 ?side2 A19.1).mono ?_); (case side1 => refine (ay (e := 3) (base := w.heap.size) (ok := fun k_ => True) (n := iT.length) (c := YL) ?_).2.2; exact (by (with_reducible repeat (first | apply aV | apply aW | apply aQ)); exact (aG (RQ ase 2 (RQ ase 1 (RQ ase 0 (bz HO_6.1 aoX.1 (by decide)) _) _) _) (fun _ h_ => h_.1)))); (case side2 => exact (ay HO_6.1).2.1); rintro e w' ⟨rfl, ⟨nd, rfl⟩⟩; refine ⟨_, rfl, ?_⟩))
       go_roundg k2
       case measure => have := iB.1; have := nG.1; omega
       case rel => exact ⟨(iT), (lF), (wrap64 (ql + 1)), RG, H', ⟨by have := iB.1; have := nG.1; omega⟩, ⟨by (with_reducible repeat (first | apply aV | apply aW | apply aQ)); exact aG (RQ ase 2 (RQ ase 1 (RQ ase 0 (bz HO_6.1 aoX.1 (by decide)) _) _) _) (fun _ hk => trivial)⟩, ⟨by (with_reducible repeat (first | apply jF | apply jG | apply iV)); exact eY (SQ ase 2 (SQ ase 1 (SQ ase 0 (kG HO_7.1 aoX.1 (by decide)) _) _) _) (fun _ hk => hk.1)⟩, ⟨by (with_reducible repeat (first | refine ak ?_ _ | refine ag ?_ | refine au ?_ _)); refine bu ?_ aq7.1 _; (with_reducible repeat (first | refine ak ?_ _ | refine ag ?_ | refine au ?_ _)); refine bu ?_ aq7.1 _; (with_reducible repeat (first | refine ak ?_ _ | refine ag ?_ | refine au ?_ _)); refine bu ?_ aq7.1 _; (with_reducible repeat (first | refine ak ?_ _ | refine ag ?_ | refine au ?_ _)); exact aeh.1⟩, ⟨BL HB.1⟩⟩
     replace H := oC H; obtain ⟨c29, H⟩ := H
     have Ri := aa.mk c29
     clear c29
     generalize a1T : ((iT ++ [aPw]) : List Int) = bbz at H
     have a8g := aa.mk a1T.symm; clear a1T
     replace H := ji H; obtain ⟨c30b0, H⟩ := H
     replace H := dz H; obtain ⟨auI, A31, H⟩ := H
     replace H := oC H; obtain ⟨c32, H⟩ := H
     have auN := aa.mk c32
     clear c32
     generalize a1U : ((auI ++ [rd l1 ql]) : List Int) = aYU at H
     have a8h := aa.mk a1U.symm; clear a1U
     replace H := oC H; obtain ⟨c33, H⟩ := H
     have auP := aa.mk c33
     clear c33
     generalize a1V : ((lF ++ [aYU]) : List (List Int)) = bbB at H
     have a8i := aa.mk a1V.symm; clear a1V
     have H' := aa.mk H
     clear H
     have aWb : 0 <= (ql : Int) := OD
     have aWc : ql < (l1.length : Int) := OD
     obtain ⟨a8e, a4y, aN0⟩ := Kd.dx HR1.1 ql aWb aWc
     cases a4y
     replace aN0 := (HB.1.cell (World.block_lt_of_cell? w _ aN0)).trans aN0
     replace aWb := eq_true aWb
     replace aWc := eq_true aWc
     try go_wp2
     refine E4 (aQ HO_6.1) (iV HO_7.1) (ag aeh.1) (dm HB.1) ?_
     clear HO_6 HO_7 aeh HB
     intro HO_6 HO_7 aeh HB
     obtain ⟨Q9, ED, Mv⟩ := bv HO_6.1
     (first | subst Mv | (injection Mv with rY zZ rZ; have z8 := rY.symm; have Aa := rZ.symm; clear rY zZ rZ; subst z8; subst Aa))
     have aWd : 0 <= (d9 : Int) := OD
     have aWe : d9 < (iT.length : Int) := OD
     obtain ⟨aKV, a4z, aR3⟩ := Kd.dx (ay HO_6.1).2.2 d9 aWd aWe
     cases a4z
     replace aWd := eq_true aWd
     replace aWe := eq_true aWe
     refine jN (n := 13) (S := fun w' => w'.cell? ⟨azV, 0, none⟩ = some (.int .i64 ah) /\ w'.cell? ⟨azV, 1, none⟩ = some (.int .i64 af) /\ w'.cell? ⟨azV, 2, none⟩ = some (.slice aK ae.length aJ) /\ w'.cell? (aKV.add (d9).toNat) = some (.int .i64 (rd iT d9))) (ds := []) #[Zz,Zz,Zz,Zz,Zz,Zz,Zz,Zz,Zz,Zz,Zz,Zz,Zz] (by kernel_rfl) rfl rfl ⟨(ai aeh.1 0).trans rfl, (ai aeh.1 1).trans rfl, (ai aeh.1 2).trans rfl, aR3⟩ (fun hHeld => ?_); refine iq bA.afG bA.bits8 (fun HT_ HW_ => ?_)
     generalize wr.drew = w34 at HO_6 HO_7 aeh HB aR3 hHeld ⊢
     refine aU 1 (N := some 31) HT_.1 ?_
     refine aU 2 (N := some 32) HT_.1 ?_
     refine aU 3 (N := some 33) HT_.1 ?_
     refine aU 5 (N := some 35) HT_.1 ?_
     refine gF 0 (N := some 30) HT_.1 HW_.1 hHeld ?_
     refine gF 4 (N := some 34) HT_.1 HW_.1 hHeld ?_
     refine yS (σ := Nat) 2 #[Yy,Yy,Yy,Yy,Yy,Yy,Yy,Yy,Yy,Yy,Yy,Zz,Zz] (fun s_ => [(36, .tuple #[.int .i64 aPw, .agg #[.int .i64 aTB, .int .i64 aTC, .int .i64 aTD]]), (12, .pointer (some ⟨s_, 0, none⟩)), (29, .tuple #[.int .i64 aPw, .agg #[.int .i64 aTB, .int .i64 aTC, .int .i64 aTD]]), (37, .int .i64 aPw), (38, .agg #[.int .i64 aTB, .int .i64 aTC, .int .i64 aTD])]) (fun s_ w' => (w'.cell? ⟨azV, 0, none⟩ = some (.int .i64 ah) /\ w'.cell? ⟨azV, 1, none⟩ = some (.int .i64 af) /\ w'.cell? ⟨azV, 2, none⟩ = some (.slice aK ae.length aJ) /\ w'.cell? (aKV.add (d9).toNat) = some (.int .i64 (rd iT d9))) /\ (Kd.R (Kd.int .i64) 3 w' w.heap.size (fun _ => True) (.slice (some aKV) iT.length ED) iT) /\ (Kd.S (Kd.slice 3 (Kd.int .i64)) 38 w' w.heap.size (fun k_ => some k_ ≠ (.slice (some aKV) iT.length ED : Value).ownBlock) u7 lF) /\ (w'.heap[azV]? = some (.cells #[.int .i64 ah, .int .i64 af, .slice aK ae.length aJ] 30 (0, 0))) /\ (w'.heap[s_]? = some (.cells #[.int .i64 0, .int .i64 0, .int .i64 0] 54 (0, 0))) /\ (w.heap.size <= s_) /\ (w.heap.size <= s_) /\ (azV ≠ s_) /\ (s_ ≠ azV) /\ (Below w.heap.size w w')) ?_ ?_
     rotate_left
     · intro hCont
       refine Tn (i := 6) (j := 10) (Ni := some 36) (Nj := some 12) #[Yy,Yy,Yy,Yy,Yy,Yy,Yy,Zz,Zz,Zz,Zz,Zz,Zz] #[Yy,Yy,Yy,Yy,Yy,Yy,Zz,Zz,Zz,Zz,Yy,Zz,Zz] rfl rfl rfl rfl (Ey HT_.1 (by kernel_rfl)) (by decide) (by decide) (fun K hK => ?_) (fun K hK => ?_)
       · skip
         refine nA Try.func43 (by kernel_rfl) rfl #[.agg #[.int .i64 ah, .int .i64 af, .slice aK ae.length aJ], .int .i64 (rd iT d9), .int .i64 (rd l1 ql)] (by rfl) rfl rfl (by (try simp only [List.map_toArray, List.map_cons, List.map_nil]); first | done | rfl | (simp only [List.length_drop, List.length_take]; rfl)) ?_
         with_reducible refine (iE.calls k2 ah af _ _ ae (rd iT d9) (rd l1 ql) aPw aTB aTC aTD _ ?side1 ?side2 A18.1).mono ?_
         (case side1 => exact CB (aY bD.1 HB.1))
         (case side2 => exact cO.1)
         rintro e w36 ⟨rfl, hb⟩
         have xF := (hb.cell (World.block_lt_of_cell? _ _ (hHeld.2.2.2))).trans (hHeld.2.2.2)
         refine ⟨_, rfl, ?_⟩
         refine E4 (rB HO_6.1 hb) (sB HO_7.1 hb) (bB aeh.1 hb) (bS HB.1 hb) ?_
         clear HO_6 HO_7 aeh HB
         intro HO_6 HO_7 aeh HB
         (try clear hb)
         (try clear hb2)
         (try clear hk)
         (try clear hi)
         refine hK.out _ _ ⟨(ai aeh.1 0).trans rfl, (ai aeh.1 1).trans rfl, (ai aeh.1 2).trans rfl, xF⟩ (fun hHeld => ?_)
         clear hK K
         refine eX (a' := ?_) ?_ ?_
         rotate_left
         · show Act.put _ (some 36) _ = _
           simp only [Act.put, List.setIfInBounds_toArray, List.set_cons_zero, List.set_cons_succ, cz, dF]
           rfl
         refine aU 7 (N := some 29) HT_.1 ?_
         refine aU 8 (N := some 37) HT_.1 ?_
         refine aU 9 (N := some 38) HT_.1 ?_
         refine mV (i := 10) (N := some 12) #[Yy,Yy,Yy,Yy,Yy,Yy,Yy,Yy,Yy,Yy,Yy,Zz,Zz] rfl rfl (jc HT_.1 (by kernel_rfl)) (by decide) (fun K hK => ?_)
         refine ma ?hg (N := 12) ?hd (cs := #[.int .i64 0, .int .i64 0, .int .i64 0]) (t := 54) ?hr ?_; (case hd => rfl); (case hg => rfl); (case hr => first | (go_simp; done) | (go_simp; rfl))
         intro ase hg Mw hbox hb
         have xF := (hb.cell (World.block_lt_of_cell? _ _ (hHeld.2.2.2))).trans (hHeld.2.2.2)
         refine E9 (rB HO_6.1 hb) (sB HO_7.1 hb) (bB aeh.1 hb) (bS HB.1 hb) (hbox) (gX HB.1 hg) (gX HB.1 hg) (nB aeh.1 hg) (nC aeh.1 hg) ?_
         clear HO_6 HO_7 aeh HB
         intro HO_6 HO_7 aeh HB aoX aR4 aR5 aq7 azY
         clear hb hbox hg
         refine hK.out _ _ ⟨(ai aeh.1 0).trans rfl, (ai aeh.1 1).trans rfl, (ai aeh.1 2).trans rfl, xF⟩ (fun hHeld => ?_)
         clear hK K
         refine eX (a' := ?_) ?_ ?_
         rotate_left
         · show Act.put _ (some 12) _ = _
           simp only [Act.put, List.setIfInBounds_toArray, List.set_cons_zero, List.set_cons_succ, cz, dF]
           rfl
         exact eX NA (hCont (ase) _ ⟨hHeld, (PR HO_6.1), (PS HO_7.1), (PB aeh.1), (PB aoX.1), aR4.1, aR5.1, aq7.1, azY.1, (BL HB.1)⟩)
       skip
       refine ma ?hg (N := 12) ?hd (cs := #[.int .i64 0, .int .i64 0, .int .i64 0]) (t := 54) ?hr ?_; (case hd => rfl); (case hg => rfl); (case hr => first | (go_simp; done) | (go_simp; rfl))
       intro ase hg w36 hbox hb
       have xF := (hb.cell (World.block_lt_of_cell? _ _ (hHeld.2.2.2))).trans (hHeld.2.2.2)
       refine E9 (rB HO_6.1 hb) (sB HO_7.1 hb) (bB aeh.1 hb) (bS HB.1 hb) (hbox) (gX HB.1 hg) (gX HB.1 hg) (nB aeh.1 hg) (nC aeh.1 hg) ?_
       clear HO_6 HO_7 aeh HB
       intro HO_6 HO_7 aeh HB aoX aR4 aR5 aq7 azY
       clear hb hbox hg
       refine hK.out _ _ ⟨(ai aeh.1 0).trans rfl, (ai aeh.1 1).trans rfl, (ai aeh.1 2).trans rfl, xF⟩ (fun hHeld => ?_)
       clear hK K
       refine eX (a' := ?_) ?_ ?_
       rotate_left
       · show Act.put _ (some 12) _ = _
         simp only [Act.put, List.setIfInBounds_toArray, List.set_cons_zero, List.set_cons_succ, cz, dF]
         rfl
       refine mV (i := 6) (N := some 36) #[Yy,Yy,Yy,Yy,Yy,Yy,Yy,Zz,Zz,Zz,Yy,Zz,Zz] rfl rfl (jc HT_.1 (by kernel_rfl)) (by decide) (fun K hK => ?_)
       refine nA Try.func43 (by kernel_rfl) rfl #[.agg #[.int .i64 ah, .int .i64 af, .slice aK ae.length aJ], .int .i64 (rd iT d9), .int .i64 (rd l1 ql)] (by rfl) rfl rfl (by (try simp only [List.map_toArray, List.map_cons, List.map_nil]); first | done | rfl | (simp only [List.length_drop, List.length_take]; rfl)) ?_
       with_reducible refine (iE.calls k2 ah af _ _ ae (rd iT d9) (rd l1 ql) aPw aTB aTC aTD _ ?side1 ?side2 A18.1).mono ?_
       (case side1 => exact CB (aY bD.1 HB.1))
       (case side2 => exact cO.1)
       rintro e Mw ⟨rfl, hb⟩
       have xF := (hb.cell (World.block_lt_of_cell? _ _ (hHeld.2.2.2))).trans (hHeld.2.2.2)
       refine ⟨_, rfl, ?_⟩
       refine E5 (rB HO_6.1 hb) (sB HO_7.1 hb) (bB aeh.1 hb) (bB aoX.1 hb) (bS HB.1 hb) ?_
       clear HO_6 HO_7 aeh aoX HB
       intro HO_6 HO_7 aeh aoX HB
       (try clear hb)
       (try clear hb2)
       (try clear hk)
       (try clear hi)
       refine hK.out _ _ ⟨(ai aeh.1 0).trans rfl, (ai aeh.1 1).trans rfl, (ai aeh.1 2).trans rfl, xF⟩ (fun hHeld => ?_)
       clear hK K
       refine eX (a' := ?_) ?_ ?_
       rotate_left
       · show Act.put _ (some 36) _ = _
         simp only [Act.put, List.setIfInBounds_toArray, List.set_cons_zero, List.set_cons_succ, cz, dF]
         rfl
       refine aU 7 (N := some 29) HT_.1 ?_
       refine aU 8 (N := some 37) HT_.1 ?_
       refine aU 9 (N := some 38) HT_.1 ?_
       exact eX NA (hCont (ase) _ ⟨hHeld, (PR HO_6.1), (PS HO_7.1), (PB aeh.1), (PB aoX.1), aR4.1, aR5.1, aq7.1, azY.1, (BL HB.1)⟩)
     rintro ase Nc ⟨hS_, qG, qH, qi, qI, qJ, tX, xk, zk, Ce⟩
     refine E9 qG qH qi qI qJ tX xk zk Ce ?_
     clear HO_6 HO_7 aeh HB qG qH qi qI qJ tX xk zk Ce
     intro HO_6 HO_7 aeh aoX aR4 aR5 aq7 azY HB
     have hHeld : Nc.cell? ⟨azV, 0, none⟩ = some (.int .i64 ah) /\ Nc.cell? ⟨azV, 1, none⟩ = some (.int .i64 af) /\ Nc.cell? ⟨azV, 2, none⟩ = some (.slice aK ae.length aJ) /\ Nc.cell? (aKV.add (d9).toNat) = some (.int .i64 (rd iT d9)) := hS_
     refine eX (a' := ?_) ?_ ?_
     rotate_left
     · simp only [oQ, Act.put, List.setIfInBounds_toArray, List.set_cons_zero, List.set_cons_succ]
       rfl
     refine aU 11 (N := some 11) HT_.1 ?_
     refine mV (i := 12) (N := none) #[Yy,Yy,Yy,Yy,Yy,Yy,Yy,Yy,Yy,Yy,Yy,Yy,Yy] rfl rfl (jc HT_.1 (by kernel_rfl)) (by decide) (fun K hK => ?_)
     obtain ⟨aOW, aOX, aOY, aKl, aKm, aKn⟩ := gB aoX.1
     have azZ := aq7.1
     have az0 := azY.1
     refine pF (w1 := ?_) (by rfl) rfl ?_ ?_
     rotate_left
     · go_simp
       rfl
     refine hK.out _ _ ⟨(rP aq7.1 hHeld.1), (rP aq7.1 hHeld.2.1), (rP aq7.1 hHeld.2.2.1), ((cell_far (p := ⟨ase, _, none⟩) (by first | exact Kd.iY (dK HO_6.1 aoX.1 (by decide)) | (rw [add_block]; exact Kd.iY (dK HO_6.1 aoX.1 (by decide))) | (show (Addr.add _ _).block ≠ _; rw [add_block]; exact Kd.iY (dK HO_6.1 aoX.1 (by decide))) | (dsimp only; exact Kd.iY (dK HO_6.1 aoX.1 (by decide)))) _).trans (((cell_far (p := ⟨ase, _, none⟩) (by first | exact Kd.iY (dK HO_6.1 aoX.1 (by decide)) | (rw [add_block]; exact Kd.iY (dK HO_6.1 aoX.1 (by decide))) | (show (Addr.add _ _).block ≠ _; rw [add_block]; exact Kd.iY (dK HO_6.1 aoX.1 (by decide))) | (dsimp only; exact Kd.iY (dK HO_6.1 aoX.1 (by decide)))) _).trans (((cell_far (p := ⟨ase, _, none⟩) (by first | exact Kd.iY (dK HO_6.1 aoX.1 (by decide)) | (rw [add_block]; exact Kd.iY (dK HO_6.1 aoX.1 (by decide))) | (show (Addr.add _ _).block ≠ _; rw [add_block]; exact Kd.iY (dK HO_6.1 aoX.1 (by decide))) | (dsimp only; exact Kd.iY (dK HO_6.1 aoX.1 (by decide)))) _).trans (hHeld.2.2.2))))))⟩ (fun hHeld => ?_)
     clear hK K
     refine lI (jS HT_.1 (by kernel_rfl)) ?_
     try go_wp2_with (first | ((with_reducible refine aA (f := 62) rfl ?_); refine cK (N := (some 41)) #[.slice (some aKV) iT.length ED, .int .i64 aPw] Try.func62 ?_; (with_reducible refine (fF.calls k2 _ _ iT aPw false _ ?side1 ?side2 A19.1).mono ?_); (case side1 => refine (ay (e := 3) (base := w.heap.size) (ok := fun k_ => True) (n := iT.length) (c := ED) ?_).2.2; exact (by (with_reducible repeat (first | apply aV | apply aW | apply aQ)); exact (aG (RQ ase 2 (RQ ase 1 (RQ ase 0 (bz HO_6.1 aoX.1 (by decide)) _) _) _) (fun _ h_ => h_.1)))); (case side2 => exact (ay HO_6.1).2.1); rintro e w' ⟨rfl, ⟨nd, rfl⟩⟩; refine ⟨_, rfl, ?_⟩) | ((with_reducible refine bf (b := .append) (xs := #[.tmp 43, .tmp 45]) rfl ?_); at_builtin; refine ek (Kd.int .i64) (w0 := w) w.heap.size rfl (.tmp 43) (.tmp 45) 38 3 (.int .i64 0) 8 rfl Try.underlying38 info3 rfl (by decide) (by omega) (.slice (some aKV) iT.length ED) iT aPw [.int .i64 aPw] (fun _ => True) (fun _ => False) rfl (by first | (go_simp; done) | (go_simp; rfl)) ?aP (fun _ hk => hk.elim) ?aF ?aO ?aB ?aS ?aL ?_; (case aP => exact rfl); (case aB => exact (BL HB.1)); (case aF => exact (fun _ _ => trivial)); (case aO => exact (by (with_reducible repeat (first | apply aV | apply aW | apply aQ)); exact aG (RQ ase 2 (RQ ase 1 (RQ ase 0 (bz HO_6.1 aoX.1 (by decide)) _) _) _) (fun _ hk => trivial))); (case aS => exact (bZ HB.1)); (case aL => have := Ri.1; omega); intro aWf w42 ho hb hg hat; rw [<- a8g.1] at ho; refine E5 (CK (ok := (fun _ => True)) (by (with_reducible repeat (first | apply jF | apply jG | apply iV)); exact eY (SQ ase 2 (SQ ase 1 (SQ ase 0 (kG HO_7.1 aoX.1 (by decide)) _) _) _) (fun _ hk => ⟨trivial, hk.1⟩)) hg hat) (yQ (g := azV) (o := .cells #[.int .i64 ah, .int .i64 af, .slice aK ae.length aJ] 30 (0, 0)) (xB aq7.1 aeh.1) hg (dK HO_6.1 aeh.1 (by decide))) (yQ (g := ase) (o := .cells #[.int .i64 aTB, .int .i64 aTC, .int .i64 aTD] 54 (0, 0)) (BB aoX.1) hg (dK HO_6.1 aoX.1 (by decide))) (hb) (ho) ?_; clear HO_7 aeh aoX HB HO_6; intro HO_7 aeh aoX HB aNq; clear ho hb hg hat; obtain ⟨aEC, Yu, Yv⟩ := mq HO_7.1; subst Yv; have a0o : 0 <= (d9 : Int) := OD; have a0p : d9 < (lF.length : Int) := OD; obtain ⟨aWR, aYV, aYW, bbC, a0q, aWS, aWT⟩ := tT (fJ HO_7.1).2.2 d9 a0o a0p; cases bbC; obtain ⟨bdT, a4A, a4B, aYX⟩ := BF HO_7.1 [] d9 a0o (by first | exact a0p | exact OD | (have e_ := (fJ HO_7.1).1; omega)); obtain ⟨a_8, rfl, aUz⟩ := a4B; have aR6 := aYX 0 _ rfl; rw [Nat.add_zero, show ((Kd.slice 3 (Kd.int .i64))).sz = 1 from rfl, Nat.mul_one] at aR6; replace aR6 := Option.some.inj (aR6.symm.trans a0q); rw [aR6] at aUz; have aFy := aa.mk (show Kd.R (Kd.int .i64) 3 _ _ _ _ (aT lF d9) from aUz); clear aR6 aUz; clear aYX a4A; have aRb := aa.mk aWT; have a0r := aa.mk aWS; clear aWT aWS; replace a0o := eq_true a0o; replace a0p := eq_true a0p) | ((with_reducible refine aA (f := 59) rfl ?_); refine cK (N := (some 52)) #[.slice aYV (aT lF d9).length aYW] Try.func59 ?_; (with_reducible refine (uk.calls _ _ (aT lF d9) auI _ ?side1 ?side2 A31.1).mono ?_); (case side1 => repeat (first | exact (by repeat (first | (with_reducible exact aRb.1) | (with_reducible refine kg ?_ _) | (with_reducible refine ko ?_ _) | (with_reducible refine kH ?_) | exact aRb.1)) | (with_reducible refine kg ?_ _) | (with_reducible refine ko ?_ _) | (with_reducible refine kH ?_))); (case side2 => exact a0r.1); rintro e w44 ⟨bbD, rfl, ho0, hb⟩; refine ⟨_, rfl, ?_⟩; refine E8 (kW (PS HO_7.1) (fe ho0) hb) (eT (PR aNq.1) (fe ho0) hb) (eT (PR aFy.1) (fe ho0) hb) (bN (iI (iI ho0 (iL (PR aNq.1))) (iL (PR aFy.1))) (bZ HB.1)) (bB aeh.1 hb) (bB aoX.1 hb) (aY (by repeat (first | (with_reducible exact aRb.1) | (with_reducible refine kg ?_ _) | (with_reducible refine ko ?_ _) | (with_reducible refine kH ?_) | exact aRb.1)) hb) (bS HB.1 hb) ?_; clear HO_7 aNq aFy aeh aoX aRb HB; intro HO_7 aNq aFy aWU aeh aoX aRb HB; (try clear hb)) | ((with_reducible refine bf (b := .append) (xs := #[.tmp 52, .tmp 54]) rfl ?_); at_builtin; refine ek (Kd.int .i64) (w0 := w) w.heap.size rfl (.tmp 52) (.tmp 54) 38 3 (.int .i64 0) 8 rfl Try.underlying38 info3 rfl (by decide) (by omega) bbD auI (rd l1 ql) [.int .i64 (rd l1 ql)] (fun k_ => some k_ ≠ (aWf : Value).ownBlock /\ some k_ ≠ (.slice aYV (aT lF d9).length aYW : Value).ownBlock) (fun _ => False) rfl rfl ?aP (fun _ hk => hk.elim) ?aF ?aO ?aB ?aS ?aL ?_; (case aP => exact rfl); (case aB => exact (BL HB.1)); (case aF => exact (fun k_ hk => ⟨Kd.kX (iL (PR aNq.1)) k_ hk, Kd.kX (iL (PR aFy.1)) k_ hk⟩)); (case aO => exact (pm (aG aWU.1 (fun _ hk => ⟨hk.1.2, hk.2⟩)))); (case aS => exact (bZ HB.1)); (case aL => have := auN.1; omega); intro bgF w45 ho hb hg hat; rw [<- a8h.1] at ho; refine E7 (CK (ok := (fun k_ => some k_ ≠ (aWf : Value).ownBlock)) (ES (eY HO_7.1 (fun _ hk => ⟨hk.1.2, hk.2⟩))) hg hat) (bG aeh.1 hg (dK aWU.1 aeh.1 (by decide))) (bG aoX.1 hg (dK aWU.1 aoX.1 (by decide))) (iX (ok := (fun _ => True)) (PR aNq.1) hg hat) (iX (ok := (fun k_ => some k_ ≠ (.slice (some aWR) lF.length Yu : Value).ownBlock /\ some k_ ≠ (aWf : Value).ownBlock)) (pm (aG aFy.1 (fun _ hk => ⟨⟨hk.1.2, hk.1.1.2⟩, hk.2⟩))) hg hat) (hb) (ho) ?_; clear HO_7 aeh aoX aNq aFy HB aWU; intro HO_7 aeh aoX aNq aFy HB aWV; clear ho hb hg hat; obtain ⟨YT, YU, aoC⟩ := bv aWV.1; subst aoC) | ((with_reducible refine bf (b := .append) (xs := #[.tmp 47, .tmp 56]) rfl ?_); at_builtin; refine uV (Kd.slice 3 (Kd.int .i64)) (w0 := w) w.heap.size rfl (.tmp 47) (.tmp 56) 60 38 (.slice none 0 0) 24 rfl Try.underlying60 Ab rfl (by decide) (by omega) (.slice (some aWR) lF.length Yu) lF aYU [.slice YT aYU.length YU] (fun k_ => some k_ ≠ (aWf : Value).ownBlock) (fun k_ => some k_ = (.slice YT aYU.length YU : Value).ownBlock) rfl rfl ?aP (fun k_ hk_ => ((aG (ok' := fun k_ => ((fun k_ => some k_ ≠ (aWf : Value).ownBlock)) k_ /\ some k_ ≠ (.slice (some aWR) lF.length Yu : Value).ownBlock) (eH (aWV.1) (jW HO_7.1) (by decide)) (fun k_ hk => ⟨hk.1.1, hk.2⟩))).1 k_ hk_.symm) ?aF ?aO ?aB ?aS ?aL ?_; (case aP => exact BC (aG (jR rfl (aG (ok' := fun k_ => ((fun k_ => some k_ ≠ (aWf : Value).ownBlock)) k_ /\ some k_ ≠ (.slice (some aWR) lF.length Yu : Value).ownBlock) (eH (aWV.1) (jW HO_7.1) (by decide)) (fun k_ hk => ⟨hk.1.1, hk.2⟩))) (fun _ h_ => h_))); (case aB => exact (BL HB.1)); (case aF => exact (fun k_ hk => Kd.kX (iL (PR aNq.1)) k_ hk)); (case aO => exact (ES (eY HO_7.1 (fun k_ hk => ⟨hk.1, fun e_ => hk.2 e_⟩)))); (case aS => exact (bZ HB.1)); (case aL => have := auP.1; omega); intro bgH w46 ho hb hg hat; rw [<- a8i.1] at ho; refine E6 (bG aeh.1 hg (xe HO_7.1 aeh.1 (by decide))) (bG aoX.1 hg (xe HO_7.1 aoX.1 (by decide))) (kF (PR aNq.1) (jW (PS HO_7.1)) (by decide) hg) (iX (ok := (fun k_ => some k_ ≠ (aWf : Value).ownBlock /\ some k_ ≠ (.slice YT aYU.length YU : Value).ownBlock)) (pm (aG aFy.1 (fun _ hk => ⟨⟨hk.1.2, hk.2⟩, hk.1.1⟩))) hg hat) (hb) (ho) ?_; clear aeh aoX aNq aFy HB HO_7 aWV; intro aeh aoX aNq aFy HB a8j; clear ho hb hg hat))
     go_roundg k2
     case measure => have := iB.1; have := nG.1; omega
     case rel => exact ⟨(bbz), (bbB), (wrap64 (ql + 1)), RG, H', ⟨by have := iB.1; have := nG.1; omega⟩, ⟨pm (aG aNq.1 (fun _ hk => trivial))⟩, ⟨PS a8j.1⟩, ⟨PB aeh.1⟩, ⟨BL HB.1⟩⟩
   have H' := aa.mk H
   clear H
   go_wp2
   go_roundg k2
   case measure => have := iB.1; have := nG.1; omega
   case rel => exact ⟨(iT), (lF), (wrap64 (d9 + 1)), RG, H', ⟨by have := iB.1; have := nG.1; omega⟩, ⟨PR HO_6.1⟩, ⟨PS HO_7.1⟩, ⟨PB aeh.1⟩, ⟨BL HB.1⟩⟩
 simp only [Option.some.injEq, Prod.mk.injEq] at H
 obtain ⟨rfl, rfl⟩ := H
 obtain ⟨aO1, aO2, aFw⟩ := bv HO_6.1
 subst aFw
 go_wp2
 go_ret2
 exact ⟨_, _, RF, pm (HO_6.1), ES (HO_7.1), BL HB.1⟩
mutual
def aeg.j0 : Nat -> List Int -> Int -> Bool -> Int -> Int -> List (fq) -> Option (List Int × Bool)
 | 0, _, _, _, _, _, _ => none
 | k + 1, x1, x2, qx, a0s, a0t, a0u => if qx = true then (some (([] : List Int), false)) else ((bA.f k a0s a0t a0u x1).bind fun aYY => (aeg.l0 k x2 aYY.2 aYY.1 (aYY.1.length : Int) 0))
def aeg.l0 : Nat -> Int -> List (List Int) -> List Int -> Int -> Int -> Option (List Int × Bool)
 | 0, _, _, _, _, _ => none
 | k + 1, x2, x9, x33, x34, x35 => if x35 < x34 then (if 0 <= x35 then (if x35 < (x33.length : Int) then (if (rd x33 x35) = x2 then (if x35 < (x9.length : Int) then ((uk.f (aT x9 x35)).bind fun a4E => (some (a4E, true))) else (none)) else (aeg.l0 k x2 x9 x33 x34 (wrap64 (x35 + 1)))) else (none)) else (none)) else (some (([] : List Int), false))
end
def aeg.f (k : Nat) (ah : Int) (af : Int) (ae : List (fq)) (l1 : List Int) (a2 : Int) : Option (List Int × Bool) := (fH.f k ah af ae l1).bind fun a8k => (if a8k = true then ((aD.f k ah af ae).bind fun aYZ => (if 0 <= (IntKind.u64.wrap ((aYZ.length : Int))) then ((iw.f a2 0 (wrap64 ((shl .i64 1 (IntKind.u64.wrap ((aYZ.length : Int)))) - 1))).bind fun aVr => (aeg.j0 k l1 a2 (!aVr) ah af ae)) else (none))) else (aeg.j0 k l1 a2 true ah af ae))
theorem aeg.mono_l : ∀ k, (∀ y0 y1 y2 y3 y4 y5, dO (aeg.j0 k y0 y1 y2 y3 y4 y5) (aeg.j0 (k + 1) y0 y1 y2 y3 y4 y5)) /\ (∀ y0 y1 y2 y3 y4, dO (aeg.l0 k y0 y1 y2 y3 y4) (aeg.l0 (k + 1) y0 y1 y2 y3 y4))
 | 0 => by refine ⟨?_, ?_⟩ <;> (intros; intro r h; first | (simp [aeg.j0] at h; done) | (simp [aeg.l0] at h; done))
 | k + 1 => by
  obtain ⟨ja, ih1⟩ := aeg.mono_l k
  refine ⟨?_, ?_⟩ <;> (
   intros
   first | unfold aeg.j0 | unfold aeg.l0
   exact LM5 ja ih1 bA.mono fH.mono aD.mono)
theorem aeg.mono : ∀ a0 a1 a2 a3 a4 k, dO (aeg.f k a0 a1 a2 a3 a4) (aeg.f (k + 1) a0 a1 a2 a3 a4) := by
 intro a0 a1 a2 a3 a4 k
 obtain ⟨ja, ih1⟩ := aeg.mono_l k
 unfold aeg.f
 exact LM5 ja ih1 bA.mono fH.mono aD.mono
theorem aeg.calls (k : Nat) (ah : Int) (af : Int) (aK : Option Addr) (aJ : Nat) (ae : List (fq)) (A1 : Option Addr) (c1 : Nat) (l1 : List Int) (a2 : Int) (r1 : List Int) (r2 : Bool) (w : World) (dH : Kd.C jZ w aK ae.length ae) (dG : ae.length <= aJ) (hr1 : Kd.C (Kd.int .i64) w A1 l1.length l1) (hc1 : l1.length <= c1) (h : aeg.f k ah af ae l1 a2 = some (r1, r2)) :
 Calls Try.prog 30 #[.agg #[.int .i64 ah, .int .i64 af, .slice aK ae.length aJ], .slice A1 l1.length c1, .int .i64 a2] w fun e w' => ∃ rO : Value, e = .returned (.tuple #[rO, .bool r2]) /\ Kd.R (Kd.int .i64) 3 w' w.heap.size (fun _ => True) rO r1 /\ Below w.heap.size w w' := by
 have nH := Try.underlying30
 have bD := aa.mk dH
 have cO := aa.mk dG
 clear dH dG
 have HR1 := aa.mk hr1
 have vD := aa.mk hc1
 clear hr1 hc1
 have HB := aa.mk (Below.refl w.heap.size w)
 have H := h
 clear h
 unfold aeg.f at H
 have HC4 := aa.mk H
 clear H
 go_enter Try.func30, Try.ntmps30
 go_upto_region 1 with (first | ((with_reducible refine aC (N := 3) rfl ?_); (try (refine jT (by rfl) ?_; dsimp only)); refine dN (cs := #[.int .i64 ah, .int .i64 af, .slice aK ae.length aJ]) (t := 30) ?_; intro a1X hg w5 hbox hb; refine mJ HB.1 hg hbox hb ?_; clear HB; intro HB aDr bdU bdV; clear hb hbox hg))
 (try simp only [Act.put, List.setIfInBounds_toArray, List.set_cons_zero, List.set_cons_succ])
 go_cut [26] (fun v26 wc => ∃ (kq : Nat) (aY0 : Bool), v26 = .bool aY0 /\ aa (aeg.j0 kq l1 a2 aY0 ah af ae = some (r1, r2)) /\ aa (kq <= k) /\ aa (wc.heap[a1X]? = some (.cells #[.int .i64 ah, .int .i64 af, (.slice aK ae.length aJ)] 30 (0, 0))) /\ aa (Below w.heap.size w wc))
 case first =>
  have H := HC4.1
  clear HC4
  replace H := dz H; obtain ⟨a8k, A6, H⟩ := H
  replace H := Cm H; rcases H with ⟨rfl, H⟩ | ⟨rfl, H⟩
  · replace H := dz H; obtain ⟨aYZ, A8, H⟩ := H
    obtain ⟨ji9, a0v⟩ : ∃ j_ : Int, (IntKind.u64.wrap ((aYZ.length : Int))) = j_ := ⟨_, rfl⟩
    replace H : (if 0 <= (ji9) then ((iw.f a2 0 (wrap64 ((shl .i64 1 (ji9)) - 1))).bind fun aVr => (aeg.j0 k l1 a2 (!aVr) ah af ae)) else (none)) = some (r1, r2) := by first | (rw [a0v] at H; exact H) | (simp only [a0v] at H ⊢; exact H)
    (try rw [a0v] at A6)
    (try rw [a0v] at A8)
    replace H := oC H; obtain ⟨c10, H⟩ := H
    have c10b0 := eq_true c10
    have c10b1 := decide_eq_true c10
    clear c10
    obtain ⟨jq, uY⟩ : ∃ j_ : Int, (shl .i64 1 (ji9)) = j_ := ⟨_, rfl⟩
    replace H : ((iw.f a2 0 (wrap64 ((jq) - 1))).bind fun aVr => (aeg.j0 k l1 a2 (!aVr) ah af ae)) = some (r1, r2) := by first | (rw [uY] at H; exact H) | (simp only [uY] at H ⊢; exact H)
    (try rw [uY] at A6)
    (try rw [uY] at A8)
    have aY1 : (IntKind.i64.wrap (1 * 2 ^ min (ji9).toNat 64)) = jq := uY
    have hji11z : (ji9) <= 64 -> (IntKind.i64.wrap (1 * 2 ^ (ji9).toNat)) = jq := CO uY
    have hji11u : (IntKind.i64.wrap (2 ^ min (ji9).toNat 64)) = jq := by have h_ := aY1; rw [Int.one_mul] at h_; exact h_
    have hji11v : (ji9) <= 64 -> (IntKind.i64.wrap (2 ^ (ji9).toNat)) = jq := fun hle_ => by have h_ := hji11z hle_; rw [Int.one_mul] at h_; exact h_
    have hji11y : (wrap64 (1 * 2 ^ min (ji9).toNat 64)) = jq := (cz _).symm.trans aY1
    have hji11x : (ji9) <= 64 -> (wrap64 (1 * 2 ^ (ji9).toNat)) = jq := fun h_ => (cz _).symm.trans (hji11z h_)
    replace H := dz H; obtain ⟨aVr, A12, H⟩ := H
    have H' := aa.mk H
    clear H
    obtain ⟨uF, uG, Cn, uH, uI, Co⟩ := gB aDr.1
    go_wp2_with (first | ((with_reducible refine aA (f := 57) rfl ?_); refine cK (N := (some 14)) #[.agg #[.int .i64 ah, .int .i64 af, .slice aK ae.length aJ], .slice A1 l1.length c1] Try.func57 ?_; (with_reducible refine (fH.calls k ah af _ _ ae _ _ l1 true _ ?side1 ?side2 ?side3 ?side4 A6.1).mono ?_); (case side1 => exact CB (aY bD.1 HB.1)); (case side2 => exact cO.1); (case side3 => exact CB (aY HR1.1 HB.1)); (case side4 => exact vD.1); rintro e yM ⟨rfl, hb⟩; refine ⟨_, rfl, ?_⟩; refine E2 (bB aDr.1 hb) (bS HB.1 hb) ?_; clear aDr HB; intro aDr HB; (try clear hb); obtain ⟨sD, sF, wN, sG, sH, wO⟩ := gB aDr.1) | (go_at_call 52; (with_reducible refine (aD.calls k ah af _ _ ae aYZ _ ?side1 ?side2 A8.1).mono ?_); (case side1 => exact CB (aY bD.1 HB.1)); (case side2 => exact cO.1); rintro e w16 ⟨aO0, rfl, ho0, hb⟩; refine E3 (lN ho0 (bZ HB.1)) (bB aDr.1 hb) (bS HB.1 hb) ?_; clear aDr HB; intro auR aDr HB; (try clear hb); (try clear ho0); obtain ⟨YH, Ja, Jb⟩ := mq auR.1; subst Jb) | (go_at_call 55; (with_reducible refine (iw.calls a2 0 (wrap64 ((jq) - 1)) aVr _ A12.1).mono ?_); rintro e w' ⟨rfl, ⟨nd, rfl⟩⟩))
    go_meet
    case rel => exact ⟨_, (!aVr), RG, H', ⟨by first | omega | exact Nat.le_refl _⟩, ⟨PB aDr.1⟩, ⟨BL HB.1⟩⟩
  have H' := aa.mk H
  clear H
  obtain ⟨qN, qO, rV, qP, qQ, rW⟩ := gB aDr.1
  go_wp2_with (first | ((with_reducible refine aA (f := 57) rfl ?_); refine cK (N := (some 14)) #[.agg #[.int .i64 ah, .int .i64 af, .slice aK ae.length aJ], .slice A1 l1.length c1] Try.func57 ?_; (with_reducible refine (fH.calls k ah af _ _ ae _ _ l1 false _ ?side1 ?side2 ?side3 ?side4 A6.1).mono ?_); (case side1 => exact CB (aY bD.1 HB.1)); (case side2 => exact cO.1); (case side3 => exact CB (aY HR1.1 HB.1)); (case side4 => exact vD.1); rintro e w19 ⟨rfl, hb⟩; refine ⟨_, rfl, ?_⟩; refine E2 (bB aDr.1 hb) (bS HB.1 hb) ?_; clear aDr HB; intro aDr HB; (try clear hb)))
  go_meet
  case rel => exact ⟨_, (true), RG, H', ⟨by first | omega | exact Nat.le_refl _⟩, ⟨PB aDr.1⟩, ⟨BL HB.1⟩⟩
 clear HC4
 try clear c1
 obtain ⟨kq, aY0, rfl, HA, HJ3, aDr, HB⟩ := hcut
 cases kq with
 | zero => exact absurd HA.1 (by simp [aeg.j0])
 | succ kj3 => ?_
 have H := HA.1
 clear HA
 simp only [aeg.j0] at H
 replace H := Cm H; rcases H with ⟨rfl, H⟩ | ⟨rfl, H⟩
 · simp only [Option.some.injEq, Prod.mk.injEq] at H
   obtain ⟨rfl, rfl⟩ := H
   go_wp2
   go_ret2
   exact ⟨_, RF, by first | exact tO _ _ _ _ _ | exact ET _ _ _ _ _ | exact EU _ _ _ _ _ | exact EW _ _ _ _ _ | exact EY _ _ _ _ _, BL HB.1⟩
 replace H := dz H; obtain ⟨⟨aVs, aWg⟩, A21, H⟩ := H
 dsimp only at H
 have H' := aa.mk H
 clear H
 obtain ⟨wJ, wK, Jw, wL, wM, Jy⟩ := gB aDr.1
 go_wp2_with (first | ((with_reducible refine aA (f := 58) rfl ?_); refine cK (N := (some 30)) #[.agg #[.int .i64 ah, .int .i64 af, .slice aK ae.length aJ], .slice A1 l1.length c1] Try.func58 ?_; (with_reducible refine (bA.calls kj3 ah af _ _ ae _ _ l1 aVs aWg _ ?side1 ?side2 ?side3 ?side4 A21.1).mono ?_); (case side1 => exact CB (aY bD.1 HB.1)); (case side2 => exact cO.1); (case side3 => exact CB (aY HR1.1 HB.1)); (case side4 => exact vD.1); rintro e w23 ⟨bgJ, bbF, rfl, ho0, ho1, hb⟩; refine ⟨_, rfl, ?_⟩; refine E4 (bN ho0 (bZ HB.1)) (lN ho1 (bZ HB.1)) (bB aDr.1 hb) (bS HB.1 hb) ?_; clear aDr HB; intro a1Y a8l aDr HB; (try clear hb); (try clear ho0); (try clear ho1); obtain ⟨amA, amB, amC⟩ := bv a1Y.1; subst amC))
 go_loopg [35] kj3 (fun kq v35 w' => ∃ (Hd : Int), v35 = .int .i64 Hd /\ aa (aeg.l0 kq a2 aWg aVs (aVs.length : Int) Hd = some (r1, r2)) /\ aa (kq <= kj3) /\ aa (Kd.S (Kd.slice 3 (Kd.int .i64)) 38 w' w.heap.size (fun k_ => some k_ ≠ ((.slice amA aVs.length amB) : Value).ownBlock) bbF aWg) /\ aa (Kd.R (Kd.int .i64) 3 w' w.heap.size (fun _ => True) (.slice amA aVs.length amB) aVs) /\ aa (w'.heap[a1X]? = some (.cells #[.int .i64 ah, .int .i64 af, (.slice aK ae.length aJ)] 30 (0, 0))) /\ aa (Below w.heap.size w w'))
 case atStart => exact ⟨(0), RG, H', ⟨Nat.le_refl _⟩, ⟨PS a8l.1⟩, ⟨PR a1Y.1⟩, ⟨PB aDr.1⟩, ⟨BL HB.1⟩⟩
 clear H'
 try clear c1; clear wJ wK Jw wL wM Jy
 obtain ⟨Hd, rfl, HA, nG, HO_9, HO_33, aDr, HB⟩ := hrel
 cases gk with
 | zero => exact absurd HA.1 (by simp [aeg.l0])
 | succ k2 => ?_
 have H := HA.1
 clear HA
 simp only [aeg.l0] at H
 replace H := pu H; rcases H with ⟨c25b0, H⟩ | ⟨c25b0, H⟩
 · replace H := ji H; obtain ⟨c26b0, H⟩ := H
   replace H := ji H; obtain ⟨c27b0, H⟩ := H
   replace H := oP H; rcases H with ⟨c28, H⟩ | ⟨c28, H⟩
   · have c28b0 := beq_iff_eq.mpr c28
     have c28b1 := bne_eq_false_iff_eq.mpr c28
     clear c28
     replace H := ji H; obtain ⟨c29b0, H⟩ := H
     replace H := dz H; obtain ⟨a4E, A30, H⟩ := H
     simp only [Option.some.injEq, Prod.mk.injEq] at H
     obtain ⟨rfl, rfl⟩ := H
     have aWh : 0 <= (Hd : Int) := OD
     have aWi : Hd < (aVs.length : Int) := OD
     obtain ⟨a8m, a4F, a0w⟩ := Kd.dx (ay HO_33.1).2.2 Hd aWh aWi
     cases a4F
     replace aWh := eq_true aWh
     replace aWi := eq_true aWi
     obtain ⟨pq, mg, Mm⟩ := mq HO_9.1
     subst Mm
     have a0x : 0 <= (Hd : Int) := OD
     have a0y : Hd < (aWg.length : Int) := OD
     obtain ⟨bdW, a4G, a4H, bbG, a0z, aWW, aWX⟩ := tT (fJ HO_9.1).2.2 Hd a0x a0y
     cases bbG
     obtain ⟨bdX, a4I, a4J, aY2⟩ := BF HO_9.1 [] Hd a0x (by first | exact a0y | exact OD | (have e_ := (fJ HO_9.1).1; omega))
     obtain ⟨a_9, rfl, aUA⟩ := a4J
     have aR7 := aY2 0 _ rfl
     rw [Nat.add_zero, show ((Kd.slice 3 (Kd.int .i64))).sz = 1 from rfl, Nat.mul_one] at aR7
     replace aR7 := Option.some.inj (aR7.symm.trans a0z)
     rw [aR7] at aUA
     have aTd := aa.mk (show Kd.R (Kd.int .i64) 3 _ _ _ _ (aT aWg Hd) from aUA)
     clear aR7 aUA
     clear aY2 a4I
     have aRi := aa.mk aWX
     have a0A := aa.mk aWW
     clear aWX aWW
     replace a0x := eq_true a0x
     replace a0y := eq_true a0y
     go_wp2_with (first | ((with_reducible refine aA (f := 59) rfl ?_); refine cK (N := (some 47)) #[.slice a4G (aT aWg Hd).length a4H] Try.func59 ?_; (with_reducible refine (uk.calls _ _ (aT aWg Hd) a4E _ ?side1 ?side2 A30.1).mono ?_); (case side1 => repeat (first | exact (by repeat (first | (with_reducible exact aRi.1) | (with_reducible refine kg ?_ _) | (with_reducible refine ko ?_ _) | (with_reducible refine kH ?_) | exact aRi.1)) | (with_reducible refine kg ?_ _) | (with_reducible refine ko ?_ _) | (with_reducible refine kH ?_))); (case side2 => exact a0A.1); rintro e w32 ⟨aFz, rfl, ho0, hb⟩; refine ⟨_, rfl, ?_⟩; refine E7 (kW (PS HO_9.1) (fe ho0) hb) (eT (PR HO_33.1) (fe ho0) hb) (eT (PR aTd.1) (fe ho0) hb) (bN (iI (iI ho0 (iL (PR HO_33.1))) (iL (PR aTd.1))) (bZ HB.1)) (bB aDr.1 hb) (aY (by repeat (first | (with_reducible exact aRi.1) | (with_reducible refine kg ?_ _) | (with_reducible refine ko ?_ _) | (with_reducible refine kH ?_) | exact aRi.1)) hb) (bS HB.1 hb) ?_; clear HO_9 HO_33 aTd aDr aRi HB; intro HO_9 HO_33 aTd abS aDr aRi HB; (try clear hb)))
     go_ret2
     exact ⟨_, RF, pm (aG abS.1 (fun _ hk => trivial)), BL HB.1⟩
   have c28b0 := beq_eq_false_iff_ne.mpr c28
   have c28b1 := bne_iff_ne.mpr c28
   have H' := aa.mk H
   clear H
   have aWh : 0 <= (Hd : Int) := OD
   have aWi : Hd < (aVs.length : Int) := OD
   obtain ⟨a8m, a4F, a0w⟩ := Kd.dx (ay HO_33.1).2.2 Hd aWh aWi
   cases a4F
   replace aWh := eq_true aWh
   replace aWi := eq_true aWi
   go_wp2
   go_roundg k2
   case measure => have := HJ3.1; have := nG.1; omega
   case rel => exact ⟨(wrap64 (Hd + 1)), RG, H', ⟨by have := HJ3.1; have := nG.1; omega⟩, ⟨PS HO_9.1⟩, ⟨PR HO_33.1⟩, ⟨PB aDr.1⟩, ⟨BL HB.1⟩⟩
 simp only [Option.some.injEq, Prod.mk.injEq] at H
 obtain ⟨rfl, rfl⟩ := H
 go_wp2
 go_ret2
 exact ⟨_, RF, by first | exact tO _ _ _ _ _ | exact ET _ _ _ _ _ | exact EU _ _ _ _ _ | exact EW _ _ _ _ _ | exact EY _ _ _ _ _, BL HB.1⟩
end Go.Proofs.Ytbpfdbjnnlmdjaa.P
