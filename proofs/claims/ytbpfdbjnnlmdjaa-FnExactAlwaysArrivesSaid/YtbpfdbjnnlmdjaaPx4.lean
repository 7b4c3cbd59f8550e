--MINI
import Derived.Test.YtbpfdbjnnlmdjaaPx0
import Derived.Test.YtbpfdbjnnlmdjaaPx2
import Derived.Test.YtbpfdbjnnlmdjaaPx3
namespace Go.Proofs.Ytbpfdbjnnlmdjaa.P
open Go.RowKit Go.Proofs.YtbpfdbjnnlmdjaaW.PrintWords Go.Proofs.YtbpfdbjnnlmdjaaW.PrintLast Go.Proofs.YtbpfdbjnnlmdjaaW.PrintMore
attribute [local go_sem] rQ rR vR vS pO pQ rT rU
set_option linter.unusedVariables false
set_option linter.unusedSimpArgs false
set_option maxHeartbeats 8000000
set_option maxRecDepth 100000
open Kd
def ed.l0 : Nat -> List Int -> List (List Int) -> Int -> Int -> Int -> Int -> List (fq) -> Int -> Int -> List (fq) -> Option (Int × Int × (List (fq)))
 | 0, _, _, _, _, _, _, _, _, _, _ => none
 | k + 1, x1, qR, pz, wy, Wy, Wz, JV, JW, JX, OP => if wy < pz then (if 0 <= wy then (if wy < (qR.length : Int) then (if 0 < ((aT qR wy).length : Int) then (if 0 <= (rd (aT qR wy) 0) then (if (rd (aT qR wy) 0) < (JV.length : Int) then (if wy < (x1.length : Int) then (if ((aj JV (rd (aT qR wy) 0)).f1) = (rd x1 wy) then (ed.l0 k x1 qR pz (wrap64 (wy + 1)) Wy Wz JV JW JX OP) else ((dn.f k JW JX OP (aT qR wy)).bind fun YG => (ed.l0 k x1 qR pz (wrap64 (wy + 1)) Wy Wz JV JW JX YG))) else (none)) else (none)) else (none)) else (none)) else (none)) else (none)) else (some (JW, JX, OP))
def ed.f (k : Nat) (ah : Int) (af : Int) (ae : List (fq)) (l1 : List Int) : Option (Int × Int × (List (fq))) := (je.f ah af ae).bind fun abD => ((aD.f k ah af ae).bind fun tN => (ed.l0 k l1 tN (tN.length : Int) 0 ah af ae abD.1 abD.2.1 abD.2.2))
theorem ed.mono_l : ∀ k, (∀ y0 y1 y2 y3 y4 y5 y6 y7 y8 y9, dO (ed.l0 k y0 y1 y2 y3 y4 y5 y6 y7 y8 y9) (ed.l0 (k + 1) y0 y1 y2 y3 y4 y5 y6 y7 y8 y9))
 | 0 => fun _ _ _ _ _ _ _ _ _ _ r h => by simp [ed.l0] at h
 | k + 1 => by
  have ja := ed.mono_l k
  intros
  first | unfold ed.l0
  exact LM3 ja dn.mono aD.mono
theorem ed.mono : ∀ a0 a1 a2 a3 k, dO (ed.f k a0 a1 a2 a3) (ed.f (k + 1) a0 a1 a2 a3) := by
 intro a0 a1 a2 a3 k
 have ja := ed.mono_l k
 unfold ed.f
 exact LM3 ja dn.mono aD.mono
theorem ed.calls (k : Nat) (ah : Int) (af : Int) (aK : Option Addr) (aJ : Nat) (ae : List (fq)) (A1 : Option Addr) (c1 : Nat) (l1 : List Int) (r1 : Int) (r2 : Int) (r3 : List (fq)) (w : World) (dH : Kd.C jZ w aK ae.length ae) (dG : ae.length <= aJ) (hr1 : Kd.C (Kd.int .i64) w A1 l1.length l1) (hc1 : l1.length <= c1) (h : ed.f k ah af ae l1 = some (r1, r2, r3)) :
 Calls Try.prog 85 #[.agg #[.int .i64 ah, .int .i64 af, .slice aK ae.length aJ], .slice A1 l1.length c1] w fun e w' => ∃ VK : Value, e = .returned (.agg #[.int .i64 r1, .int .i64 r2, VK]) /\ Kd.R jZ 83 w' w.heap.size (fun _ => True) VK r3 /\ Below w.heap.size w w' := by
 have nH := Try.underlying30
 have bD := aa.mk dH
 have cO := aa.mk dG
 clear dH dG
 have HR1 := aa.mk hr1
 have vD := aa.mk hc1
 clear hr1 hc1
 have HB := aa.mk (Below.refl w.heap.size w)
 have H := h
 clear h
 unfold ed.f at H
 replace H := dz H; obtain ⟨⟨I8, I9, Q5⟩, A3, H⟩ := H
 dsimp only at H
 replace H := dz H; obtain ⟨tN, A4, H⟩ := H
 have H' := aa.mk H
 clear H
 go_enter Try.func85, Try.ntmps85
 go_wp2_with (first | ((with_reducible refine aC (N := 2) rfl ?_); refine dN (cs := #[.int .i64 ah, .int .i64 af, .slice aK ae.length aJ]) (t := 30) ?_; intro Nl hg w5 hbox hb; refine mJ HB.1 hg hbox hb ?_; clear HB; intro HB fO ajz ajA; clear hb hbox hg) | ((with_reducible refine aC (N := 4) rfl ?_); refine dN (cs := #[.int .i64 0, .int .i64 0, .slice none 0 0]) (t := 30) ?_; intro Eb hg w6 hbox hb; refine E7 (bB fO.1 hb) (bS HB.1 hb) (hbox) (gX HB.1 hg) (gX HB.1 hg) (nB fO.1 hg) (nC fO.1 hg) ?_; clear fO HB; intro fO HB jg ajB ajC zf zg; clear hb hbox hg; have aaD := zf.1; have aaE := zg.1; obtain ⟨lZ, l5, mR, l6, l7, mU⟩ := gB fO.1) | (go_at_call 94; (with_reducible refine (je.calls ah af _ _ ae I8 I9 Q5 _ ?side1 ?side2 A3.1).mono ?_); (case side1 => exact CB (aY bD.1 HB.1)); (case side2 => exact cO.1); rintro e w9 ⟨auh, rfl, ho0, hb⟩; refine E4 (bN ho0 (bZ HB.1)) (bB fO.1 hb) (bB jg.1 hb) (bS HB.1 hb) ?_; clear fO jg HB; intro oW fO jg HB; (try clear hb); (try clear ho0)) | ((with_reducible refine aC (N := 5) rfl ?_); refine dN (cs := #[.int .i64 0, .int .i64 0, .slice none 0 0]) (t := 30) ?_; intro xh hg Hw hbox hb; refine E11 (rB oW.1 hb) (bB fO.1 hb) (bB jg.1 hb) (bS HB.1 hb) (hbox) (gX HB.1 hg) (gX HB.1 hg) (nB fO.1 hg) (nC fO.1 hg) (nB jg.1 hg) (nC jg.1 hg) ?_; clear oW fO jg HB; intro oW fO jg HB lJ ajD ajE rq zh ru zi; clear hb hbox hg; have ajF := zh.1; have ajG := rq.1; have aaF := zi.1; have aaG := ru.1; obtain ⟨uF, uG, Cn, uH, uI, Co⟩ := gB lJ.1; obtain ⟨Q6, Q7, Ua⟩ := bv oW.1; subst Ua; obtain ⟨sD, sF, wN, sG, sH, wO⟩ := gB fO.1) | (go_at_call 52; (with_reducible refine (aD.calls k ah af _ _ ae tN _ ?side1 ?side2 A4.1).mono ?_); (case side1 => exact aY bD.1 (BL HB.1)); (case side2 => exact cO.1); rintro e w16 ⟨aui, rfl, ho0, hb⟩; refine E6 (jf (by (with_reducible repeat (first | apply aV | apply aW | apply aQ)); exact (aG (RQ xh 2 (RQ xh 1 (RQ xh 0 (bz oW.1 lJ.1 (by decide)) _) _) _) (fun _ h_ => h_.1))) hb) (lN ho0 (bZ HB.1)) (dh (g := Nl) (o := .cells #[.int .i64 ah, .int .i64 af, .slice aK ae.length aJ] 30 (0, 0)) (xB rq.1 fO.1) hb) (dh (g := Eb) (o := .cells #[.int .i64 0, .int .i64 0, .slice none 0 0] 30 (0, 0)) (xB ru.1 jg.1) hb) (dh (g := xh) (o := .cells #[.int .i64 I8, .int .i64 I9, .slice Q6 Q5.length Q7] 30 (0, 0)) (BB lJ.1) hb) (bS HB.1 hb) ?_; clear oW fO jg lJ HB; intro oW Nn fO jg lJ HB; (try clear hb); (try clear ho0); obtain ⟨YH, Ja, Jb⟩ := mq Nn.1; subst Jb))
 repeat (go_quiet (first | ((with_reducible refine aC (N := 2) rfl ?_); refine dN (cs := #[.int .i64 ah, .int .i64 af, .slice aK ae.length aJ]) (t := 30) ?_; intro Nl hg w5 hbox hb; refine mJ HB.1 hg hbox hb ?_; clear HB; intro HB fO ajz ajA; clear hb hbox hg) | ((with_reducible refine aC (N := 4) rfl ?_); refine dN (cs := #[.int .i64 0, .int .i64 0, .slice none 0 0]) (t := 30) ?_; intro Eb hg w6 hbox hb; refine E7 (bB fO.1 hb) (bS HB.1 hb) (hbox) (gX HB.1 hg) (gX HB.1 hg) (nB fO.1 hg) (nC fO.1 hg) ?_; clear fO HB; intro fO HB jg ajB ajC zf zg; clear hb hbox hg; have aaD := zf.1; have aaE := zg.1; obtain ⟨lZ, l5, mR, l6, l7, mU⟩ := gB fO.1) | (go_at_call 94; (with_reducible refine (je.calls ah af _ _ ae I8 I9 Q5 _ ?side1 ?side2 A3.1).mono ?_); (case side1 => exact CB (aY bD.1 HB.1)); (case side2 => exact cO.1); rintro e w9 ⟨auh, rfl, ho0, hb⟩; refine E4 (bN ho0 (bZ HB.1)) (bB fO.1 hb) (bB jg.1 hb) (bS HB.1 hb) ?_; clear fO jg HB; intro oW fO jg HB; (try clear hb); (try clear ho0)) | ((with_reducible refine aC (N := 5) rfl ?_); refine dN (cs := #[.int .i64 0, .int .i64 0, .slice none 0 0]) (t := 30) ?_; intro xh hg Hw hbox hb; refine E11 (rB oW.1 hb) (bB fO.1 hb) (bB jg.1 hb) (bS HB.1 hb) (hbox) (gX HB.1 hg) (gX HB.1 hg) (nB fO.1 hg) (nC fO.1 hg) (nB jg.1 hg) (nC jg.1 hg) ?_; clear oW fO jg HB; intro oW fO jg HB lJ ajD ajE rq zh ru zi; clear hb hbox hg; have ajF := zh.1; have ajG := rq.1; have aaF := zi.1; have aaG := ru.1; obtain ⟨uF, uG, Cn, uH, uI, Co⟩ := gB lJ.1; obtain ⟨Q6, Q7, Ua⟩ := bv oW.1; subst Ua; obtain ⟨sD, sF, wN, sG, sH, wO⟩ := gB fO.1) | (go_at_call 52; (with_reducible refine (aD.calls k ah af _ _ ae tN _ ?side1 ?side2 A4.1).mono ?_); (case side1 => exact aY bD.1 (BL HB.1)); (case side2 => exact cO.1); rintro e w16 ⟨aui, rfl, ho0, hb⟩; refine E6 (jf (by (with_reducible repeat (first | apply aV | apply aW | apply aQ)); exact (aG (RQ xh 2 (RQ xh 1 (RQ xh 0 (bz oW.1 lJ.1 (by decide)) _) _) _) (fun _ h_ => h_.1))) hb) (lN ho0 (bZ HB.1)) (dh (g := Nl) (o := .cells #[.int .i64 ah, .int .i64 af, .slice aK ae.length aJ] 30 (0, 0)) (xB rq.1 fO.1) hb) (dh (g := Eb) (o := .cells #[.int .i64 0, .int .i64 0, .slice none 0 0] 30 (0, 0)) (xB ru.1 jg.1) hb) (dh (g := xh) (o := .cells #[.int .i64 I8, .int .i64 I9, .slice Q6 Q5.length Q7] 30 (0, 0)) (BB lJ.1) hb) (bS HB.1 hb) ?_; clear oW fO jg lJ HB; intro oW Nn fO jg lJ HB; (try clear hb); (try clear ho0); obtain ⟨YH, Ja, Jb⟩ := mq Nn.1; subst Jb)); try go_wp2_with (first | ((with_reducible refine aC (N := 2) rfl ?_); refine dN (cs := #[.int .i64 ah, .int .i64 af, .slice aK ae.length aJ]) (t := 30) ?_; intro Nl hg w5 hbox hb; refine mJ HB.1 hg hbox hb ?_; clear HB; intro HB fO ajz ajA; clear hb hbox hg) | ((with_reducible refine aC (N := 4) rfl ?_); refine dN (cs := #[.int .i64 0, .int .i64 0, .slice none 0 0]) (t := 30) ?_; intro Eb hg w6 hbox hb; refine E7 (bB fO.1 hb) (bS HB.1 hb) (hbox) (gX HB.1 hg) (gX HB.1 hg) (nB fO.1 hg) (nC fO.1 hg) ?_; clear fO HB; intro fO HB jg ajB ajC zf zg; clear hb hbox hg; have aaD := zf.1; have aaE := zg.1; obtain ⟨lZ, l5, mR, l6, l7, mU⟩ := gB fO.1) | (go_at_call 94; (with_reducible refine (je.calls ah af _ _ ae I8 I9 Q5 _ ?side1 ?side2 A3.1).mono ?_); (case side1 => exact CB (aY bD.1 HB.1)); (case side2 => exact cO.1); rintro e w9 ⟨auh, rfl, ho0, hb⟩; refine E4 (bN ho0 (bZ HB.1)) (bB fO.1 hb) (bB jg.1 hb) (bS HB.1 hb) ?_; clear fO jg HB; intro oW fO jg HB; (try clear hb); (try clear ho0)) | ((with_reducible refine aC (N := 5) rfl ?_); refine dN (cs := #[.int .i64 0, .int .i64 0, .slice none 0 0]) (t := 30) ?_; intro xh hg Hw hbox hb; refine E11 (rB oW.1 hb) (bB fO.1 hb) (bB jg.1 hb) (bS HB.1 hb) (hbox) (gX HB.1 hg) (gX HB.1 hg) (nB fO.1 hg) (nC fO.1 hg) (nB jg.1 hg) (nC jg.1 hg) ?_; clear oW fO jg HB; intro oW fO jg HB lJ ajD ajE rq zh ru zi; clear hb hbox hg; have ajF := zh.1; have ajG := rq.1; have aaF := zi.1; have aaG := ru.1; obtain ⟨uF, uG, Cn, uH, uI, Co⟩ := gB lJ.1; obtain ⟨Q6, Q7, Ua⟩ := bv oW.1; subst Ua; obtain ⟨sD, sF, wN, sG, sH, wO⟩ := gB fO.1) | (go_at_call 52; (with_reducible refine (aD.calls k ah af _ _ ae tN _ ?side1 ?side2 A4.1).mono ?_); (case side1 => exact aY bD.1 (BL HB.1)); (case side2 => exact cO.1); rintro e w16 ⟨aui, rfl, ho0, hb⟩; refine E6 (jf (by (with_reducible repeat (first | apply aV | apply aW | apply aQ)); exact (aG (RQ xh 2 (RQ xh 1 (RQ xh 0 (bz oW.1 lJ.1 (by decide)) _) _) _) (fun _ h_ => h_.1))) hb) (lN ho0 (bZ HB.1)) (dh (g := Nl) (o := .cells #[.int .i64 ah, .int .i64 af, .slice aK ae.length aJ] 30 (0, 0)) (xB rq.1 fO.1) hb) (dh (g := Eb) (o := .cells #[.int .i64 0, .int .i64 0, .slice none 0 0] 30 (0, 0)) (xB ru.1 jg.1) hb) (dh (g := xh) (o := .cells #[.int .i64 I8, .int .i64 I9, .slice Q6 Q5.length Q7] 30 (0, 0)) (BB lJ.1) hb) (bS HB.1 hb) ?_; clear oW fO jg lJ HB; intro oW Nn fO jg lJ HB; (try clear hb); (try clear ho0); obtain ⟨YH, Ja, Jb⟩ := mq Nn.1; subst Jb)))
 go_loopg [13] k (fun kq v13 w' => ∃ (jm : Int) (lc : List (fq)) (JY : Value), v13 = .int .i64 jm /\ aa (ed.l0 kq l1 tN (tN.length : Int) jm ah af ae I8 I9 lc = some (r1, r2, r3)) /\ aa (kq <= k) /\ aa (Kd.S (Kd.slice 3 (Kd.int .i64)) 38 w' w.heap.size (fun _ => True) (.slice YH tN.length Ja) tN) /\ aa (Kd.R jZ 83 w' w.heap.size (fun _ => True) JY lc) /\ aa (w'.heap[Nl]? = some (.cells #[.int .i64 ah, .int .i64 af, (.slice aK ae.length aJ)] 30 (0, 0))) /\ aa (w'.heap[Eb]? = some (.cells #[.int .i64 0, .int .i64 0, (.slice none 0 0)] 30 (0, 0))) /\ aa (w'.heap[xh]? = some (.cells #[.int .i64 I8, .int .i64 I9, JY] 30 (0, 0))) /\ aa (Below w.heap.size w w'))
 case atStart => exact ⟨(0), (Q5), (.slice Q6 Q5.length Q7), RG, H', ⟨Nat.le_refl _⟩, ⟨PS Nn.1⟩, ⟨PR oW.1⟩, ⟨PB fO.1⟩, ⟨PB jg.1⟩, ⟨PB lJ.1⟩, ⟨BL HB.1⟩⟩
 clear H'
 try clear c1; clear uF uG Cn sD sF wN lZ l5 mR uH uI Co sG sH wO l6 l7 mU
 obtain ⟨jm, lc, JY, rfl, HA, iB, HO_11, HO_335002, fO, jg, lJ, HB⟩ := hrel
 cases gk with
 | zero => exact absurd HA.1 (by simp [ed.l0])
 | succ k1 => ?_
 have H := HA.1
 clear HA
 simp only [ed.l0] at H
 replace H := pu H; rcases H with ⟨c18b0, H⟩ | ⟨c18b0, H⟩
 · replace H := ji H; obtain ⟨c19b0, H⟩ := H
   replace H := ji H; obtain ⟨c20b0, H⟩ := H
   replace H := oC H; obtain ⟨c21, H⟩ := H
   have c21b0 := decide_eq_true c21
   have c21b1 : decide (0 < (aT tN jm).length) = true := decide_eq_true (by omega)
   clear c21
   replace H := ji H; obtain ⟨c22b0, H⟩ := H
   replace H := ji H; obtain ⟨c23b0, H⟩ := H
   replace H := ji H; obtain ⟨c24b0, H⟩ := H
   replace H := oP H; rcases H with ⟨Q8, H⟩ | ⟨Q8, H⟩
   · have c25b0 := beq_iff_eq.mpr Q8
     have c25b1 := bne_eq_false_iff_eq.mpr Q8
     clear Q8
     have H' := aa.mk H
     clear H
     have OQ : 0 <= (jm : Int) := OD
     have OT : jm < (tN.length : Int) := OD
     obtain ⟨auj, aoo, aop, aoq, OU, FZ, F3⟩ := tT (fJ HO_11.1).2.2 jm OQ OT
     cases aoq
     obtain ⟨auk, Ub, Uc, La⟩ := BF HO_11.1 [] jm OQ (by first | exact OT | exact OD | (have e_ := (fJ HO_11.1).1; omega))
     obtain ⟨afz, rfl, AJ⟩ := Uc
     have sO := La 0 _ rfl
     rw [Nat.add_zero, show ((Kd.slice 3 (Kd.int .i64))).sz = 1 from rfl, Nat.mul_one] at sO
     replace sO := Option.some.inj (sO.symm.trans OU)
     rw [sO] at AJ
     have AL := aa.mk (show Kd.R (Kd.int .i64) 3 _ _ _ _ (aT tN jm) from AJ)
     clear sO AJ
     clear La Ub
     have F4 := aa.mk F3
     have JZ := aa.mk FZ
     clear F3 FZ
     replace OQ := eq_true OQ
     replace OT := eq_true OT
     obtain ⟨VR, VS, VT, VU, VV, VW⟩ := gB fO.1
     have Ud : 0 <= (0 : Int) := (by omega)
     have Ue : 0 < ((aT tN jm).length : Int) := OD
     obtain ⟨aul, e339, F5⟩ := Kd.dx (by repeat (first | (with_reducible exact F4.1) | (with_reducible refine kg ?_ _) | (with_reducible refine ko ?_ _) | (with_reducible refine kH ?_) | exact F4.1)) 0 Ud Ue
     cases e339
     have aum : (0 < (aT tN jm).length) = True := eq_true (by omega)
     (try rw [show ((0 : Int)).toNat = 0 from rfl] at F5)
     (try rw [Addr.add_zero'] at F5)
     replace Ud := eq_true Ud
     replace Ue := eq_true Ue
     have Uf : 0 <= ((rd (aT tN jm) 0) : Int) := OD
     have Ug : (rd (aT tN jm) 0) < (ae.length : Int) := OD
     obtain ⟨aun, aor, AO, AP⟩ := iP bD.1 (rd (aT tN jm) 0) Uf Ug
     cases aor
     replace AO := (HB.1.cell (World.block_lt_of_cell? w _ AO)).trans AO
     replace AP := (HB.1.cell (World.block_lt_of_cell? w _ AP)).trans AP
     replace Uf := eq_true Uf
     replace Ug := eq_true Ug
     have Uh : 0 <= (jm : Int) := OD
     have Ui : jm < (l1.length : Int) := OD
     obtain ⟨auo, aos, AQ⟩ := Kd.dx HR1.1 jm Uh Ui
     cases aos
     replace AQ := (HB.1.cell (World.block_lt_of_cell? w _ AQ)).trans AQ
     replace Uh := eq_true Uh
     replace Ui := eq_true Ui
     go_wp2
     repeat (go_quiet (fail); try go_wp2)
     go_roundg k1
     case measure => have := iB.1; omega
     case rel => exact ⟨(wrap64 (jm + 1)), (lc), (JY), RG, H', ⟨by have := iB.1; omega⟩, ⟨PS HO_11.1⟩, ⟨PR HO_335002.1⟩, ⟨PB fO.1⟩, ⟨PB jg.1⟩, ⟨PB lJ.1⟩, ⟨BL HB.1⟩⟩
   have c25b0 := beq_eq_false_iff_ne.mpr Q8
   have c25b1 := bne_iff_ne.mpr Q8
   replace H := dz H; obtain ⟨YG, A29, H⟩ := H
   have H' := aa.mk H
   clear H
   have OQ : 0 <= (jm : Int) := OD
   have OT : jm < (tN.length : Int) := OD
   obtain ⟨auj, aoo, aop, aoq, OU, FZ, F3⟩ := tT (fJ HO_11.1).2.2 jm OQ OT
   cases aoq
   obtain ⟨auk, Ub, Uc, La⟩ := BF HO_11.1 [] jm OQ (by first | exact OT | exact OD | (have e_ := (fJ HO_11.1).1; omega))
   obtain ⟨afz, rfl, AJ⟩ := Uc
   have sO := La 0 _ rfl
   rw [Nat.add_zero, show ((Kd.slice 3 (Kd.int .i64))).sz = 1 from rfl, Nat.mul_one] at sO
   replace sO := Option.some.inj (sO.symm.trans OU)
   rw [sO] at AJ
   have AL := aa.mk (show Kd.R (Kd.int .i64) 3 _ _ _ _ (aT tN jm) from AJ)
   clear sO AJ
   clear La Ub
   have F4 := aa.mk F3
   have JZ := aa.mk FZ
   clear F3 FZ
   replace OQ := eq_true OQ
   replace OT := eq_true OT
   obtain ⟨J2, J3, J4, J5, J6, J7⟩ := gB fO.1
   have Ud : 0 <= (0 : Int) := (by omega)
   have Ue : 0 < ((aT tN jm).length : Int) := OD
   obtain ⟨aul, e339, F5⟩ := Kd.dx (by repeat (first | (with_reducible exact F4.1) | (with_reducible refine kg ?_ _) | (with_reducible refine ko ?_ _) | (with_reducible refine kH ?_) | exact F4.1)) 0 Ud Ue
   cases e339
   have aum : (0 < (aT tN jm).length) = True := eq_true (by omega)
   (try rw [show ((0 : Int)).toNat = 0 from rfl] at F5)
   (try rw [Addr.add_zero'] at F5)
   replace Ud := eq_true Ud
   replace Ue := eq_true Ue
   have Uf : 0 <= ((rd (aT tN jm) 0) : Int) := OD
   have Ug : (rd (aT tN jm) 0) < (ae.length : Int) := OD
   obtain ⟨aun, aor, AO, AP⟩ := iP bD.1 (rd (aT tN jm) 0) Uf Ug
   cases aor
   replace AO := (HB.1.cell (World.block_lt_of_cell? w _ AO)).trans AO
   replace AP := (HB.1.cell (World.block_lt_of_cell? w _ AP)).trans AP
   replace Uf := eq_true Uf
   replace Ug := eq_true Ug
   have Uh : 0 <= (jm : Int) := OD
   have Ui : jm < (l1.length : Int) := OD
   obtain ⟨auo, aos, AQ⟩ := Kd.dx HR1.1 jm Uh Ui
   cases aos
   replace AQ := (HB.1.cell (World.block_lt_of_cell? w _ AQ)).trans AQ
   replace Uh := eq_true Uh
   replace Ui := eq_true Ui
   obtain ⟨V3, V4, azL, V5, V6, azM⟩ := gB lJ.1
   obtain ⟨Q9, ED, Mv⟩ := bv HO_335002.1
   subst Mv
   go_wp2_with (first | (go_at_call 98; (with_reducible refine (dn.calls k1 I8 I9 (fun k_ => some k_ = (.slice Q9 lc.length ED : Value).ownBlock) (.slice Q9 lc.length ED) lc _ _ (aT tN jm) YG w _ ?side1 ?side2 ?side3 ?side4 A29.1).mono ?_); (case side1 => exact BL HB.1); (case side2 => exact jR rfl HO_335002.1); (case side3 => exact qW ((eH AL.1 (dY HO_335002.1) (by decide))) (fun k_ hk_ hs_ => (hk_.2) hs_)); (case side4 => exact JZ.1); rintro e w36 ⟨rfl, hy0, hb, hkp⟩; refine E6 (eY (ok' := fun k_ => True) (wE ((qC HO_11.1 (dY HO_335002.1) (by decide))) hkp (fun k_ hk_ hs_ => (hk_.2) hs_)) (fun k_ hk_ => trivial)) (qp rfl hy0 (fun k_ e_ => HO_335002.1.1 k_ e_)) (eQ (PB fO.1) hkp (fun hs_ => (fun e_ => (dK HO_335002.1 fO.1 (by decide)) e_) hs_)) (eQ (PB jg.1) hkp (fun hs_ => (fun e_ => (dK HO_335002.1 jg.1 (by decide)) e_) hs_)) (eQ (PB lJ.1) hkp (fun hs_ => (fun e_ => (dK HO_335002.1 lJ.1 (by decide)) e_) hs_)) (hb) ?_; clear HO_11 HO_335002 fO jg lJ HB AL; intro HO_11 HO_335002 fO jg lJ HB; (try clear hb); (try clear hkp); (try clear hy0)))
   repeat (go_quiet (first | (go_at_call 98; (with_reducible refine (dn.calls k1 I8 I9 (fun k_ => some k_ = (.slice Q9 lc.length ED : Value).ownBlock) (.slice Q9 lc.length ED) lc _ _ (aT tN jm) YG w _ ?side1 ?side2 ?side3 ?side4 A29.1).mono ?_); (case side1 => exact BL HB.1); (case side2 => exact jR rfl HO_335002.1); (case side3 => exact qW ((eH AL.1 (dY HO_335002.1) (by decide))) (fun k_ hk_ hs_ => (hk_.2) hs_)); (case side4 => exact JZ.1); rintro e w36 ⟨rfl, hy0, hb, hkp⟩; refine E6 (eY (ok' := fun k_ => True) (wE ((qC HO_11.1 (dY HO_335002.1) (by decide))) hkp (fun k_ hk_ hs_ => (hk_.2) hs_)) (fun k_ hk_ => trivial)) (qp rfl hy0 (fun k_ e_ => HO_335002.1.1 k_ e_)) (eQ (PB fO.1) hkp (fun hs_ => (fun e_ => (dK HO_335002.1 fO.1 (by decide)) e_) hs_)) (eQ (PB jg.1) hkp (fun hs_ => (fun e_ => (dK HO_335002.1 jg.1 (by decide)) e_) hs_)) (eQ (PB lJ.1) hkp (fun hs_ => (fun e_ => (dK HO_335002.1 lJ.1 (by decide)) e_) hs_)) (hb) ?_; clear HO_11 HO_335002 fO jg lJ HB AL; intro HO_11 HO_335002 fO jg lJ HB; (try clear hb); (try clear hkp); (try clear hy0))); try go_wp2_with (first | (go_at_call 98; (with_reducible refine (dn.calls k1 I8 I9 (fun k_ => some k_ = (.slice Q9 lc.length ED : Value).ownBlock) (.slice Q9 lc.length ED) lc _ _ (aT tN jm) YG w _ ?side1 ?side2 ?side3 ?side4 A29.1).mono ?_); (case side1 => exact BL HB.1); (case side2 => exact jR rfl HO_335002.1); (case side3 => exact qW ((eH AL.1 (dY HO_335002.1) (by decide))) (fun k_ hk_ hs_ => (hk_.2) hs_)); (case side4 => exact JZ.1); rintro e w36 ⟨rfl, hy0, hb, hkp⟩; refine E6 (eY (ok' := fun k_ => True) (wE ((qC HO_11.1 (dY HO_335002.1) (by decide))) hkp (fun k_ hk_ hs_ => (hk_.2) hs_)) (fun k_ hk_ => trivial)) (qp rfl hy0 (fun k_ e_ => HO_335002.1.1 k_ e_)) (eQ (PB fO.1) hkp (fun hs_ => (fun e_ => (dK HO_335002.1 fO.1 (by decide)) e_) hs_)) (eQ (PB jg.1) hkp (fun hs_ => (fun e_ => (dK HO_335002.1 jg.1 (by decide)) e_) hs_)) (eQ (PB lJ.1) hkp (fun hs_ => (fun e_ => (dK HO_335002.1 lJ.1 (by decide)) e_) hs_)) (hb) ?_; clear HO_11 HO_335002 fO jg lJ HB AL; intro HO_11 HO_335002 fO jg lJ HB; (try clear hb); (try clear hkp); (try clear hy0))))
   go_roundg k1
   case measure => have := iB.1; omega
   case rel => exact ⟨(wrap64 (jm + 1)), (YG), (.slice Q9 lc.length ED), RG, H', ⟨by have := iB.1; omega⟩, ⟨PS HO_11.1⟩, ⟨PR HO_335002.1⟩, ⟨PB fO.1⟩, ⟨PB jg.1⟩, ⟨PB lJ.1⟩, ⟨BL HB.1⟩⟩
 simp only [Option.some.injEq, Prod.mk.injEq] at H
 obtain ⟨rfl, rfl, rfl⟩ := H
 obtain ⟨azN, azO, azP, azQ, azR, azS⟩ := gB lJ.1
 obtain ⟨afA, afB, azT, afC, afD, azU⟩ := gB jg.1
 obtain ⟨F6, DV, Ra⟩ := bv HO_335002.1
 subst Ra
 go_wp2
 repeat (go_quiet (fail); try go_wp2)
 refine bodyPost_ret (results_cell_row rfl _ _ Eb 30 #[.int .i64 I8, .int .i64 I9, .slice F6 lc.length DV] (0, 0) _ rfl (BB jg.1) Try.underlying30 rfl (by kernel_rfl)) rfl ?_
 exact ⟨_, RF, by (with_reducible repeat (first | apply aV | apply aW | apply aQ)); exact aG (RQ Eb 2 (RQ Eb 1 (RQ Eb 0 (bz HO_335002.1 jg.1 (by decide)) _) _) _) (fun _ hk => trivial), BL HB.1⟩
def fQ.l0 : Nat -> Int -> List Int -> Int -> Int -> Int -> Int -> List (fq) -> Option (Int × Int × (List (fq)))
 | 0, _, _, _, _, _, _, _ => none
 | k + 1, x1, x5, x9, j6, WA, WB, WC => if j6 < x9 then (if 0 <= (IntKind.u64.wrap (j6)) then (if x5.length < 17592186044416 then (fQ.l0 k x1 (x5 ++ [Go.bits .and .i64 (shr .i64 x1 (IntKind.u64.wrap (j6))) 1]) x9 (wrap64 (j6 + 1)) WA WB WC) else (none)) else (none)) else ((ed.f k WA WB WC x5).bind fun abE => (some (abE.1, abE.2.1, abE.2.2)))
def fQ.f (k : Nat) (ah : Int) (af : Int) (ae : List (fq)) (a1 : Int) : Option (Int × Int × (List (fq))) := (aD.f k ah af ae).bind fun YI => (fQ.l0 k a1 ([] : List Int) (YI.length : Int) 0 ah af ae)
theorem fQ.mono_l : ∀ k, (∀ y0 y1 y2 y3 y4 y5 y6, dO (fQ.l0 k y0 y1 y2 y3 y4 y5 y6) (fQ.l0 (k + 1) y0 y1 y2 y3 y4 y5 y6))
 | 0 => fun _ _ _ _ _ _ _ r h => by simp [fQ.l0] at h
 | k + 1 => by
  have ja := fQ.mono_l k
  intros
  first | unfold fQ.l0
  exact LM3 ja aD.mono ed.mono
theorem fQ.mono : ∀ a0 a1 a2 a3 k, dO (fQ.f k a0 a1 a2 a3) (fQ.f (k + 1) a0 a1 a2 a3) := by
 intro a0 a1 a2 a3 k
 have ja := fQ.mono_l k
 unfold fQ.f
 exact LM3 ja aD.mono ed.mono
theorem fQ.calls (k : Nat) (ah : Int) (af : Int) (aK : Option Addr) (aJ : Nat) (ae : List (fq)) (a1 : Int) (r1 : Int) (r2 : Int) (r3 : List (fq)) (w : World) (dH : Kd.C jZ w aK ae.length ae) (dG : ae.length <= aJ) (h : fQ.f k ah af ae a1 = some (r1, r2, r3)) :
 Calls Try.prog 70 #[.agg #[.int .i64 ah, .int .i64 af, .slice aK ae.length aJ], .int .i64 a1] w fun e w' => ∃ VK : Value, e = .returned (.agg #[.int .i64 r1, .int .i64 r2, VK]) /\ Kd.R jZ 83 w' w.heap.size (fun _ => True) VK r3 /\ Below w.heap.size w w' := by
 have nH := Try.underlying30
 have bD := aa.mk dH
 have cO := aa.mk dG
 clear dH dG
 have HB := aa.mk (Below.refl w.heap.size w)
 have H := h
 clear h
 unfold fQ.f at H
 replace H := dz H; obtain ⟨YI, A3, H⟩ := H
 have H' := aa.mk H
 clear H
 go_enter Try.func70, Try.ntmps70
 go_wp2_with (first | ((with_reducible refine aC (N := 2) rfl ?_); refine dN (cs := #[.int .i64 ah, .int .i64 af, .slice aK ae.length aJ]) (t := 30) ?_; intro aup hg w4 hbox hb; refine mJ HB.1 hg hbox hb ?_; clear HB; intro HB ry aJ0 aJ1; clear hb hbox hg) | ((with_reducible refine aC (N := 4) rfl ?_); refine dN (cs := #[.int .i64 0, .int .i64 0, .slice none 0 0]) (t := 30) ?_; intro Rb hg w5 hbox hb; refine E7 (bB ry.1 hb) (bS HB.1 hb) (hbox) (gX HB.1 hg) (gX HB.1 hg) (nB ry.1 hg) (nC ry.1 hg) ?_; clear ry HB; intro ry HB vK aJ2 aJ3 YJ YK; clear hb hbox hg; have asv := YJ.1; have asw := YK.1; obtain ⟨NN, NP, ZV, NQ, NR, ZW⟩ := gB ry.1) | ((with_reducible refine aA (f := 52) rfl ?_); refine cK (N := (some 8)) #[.agg #[.int .i64 ah, .int .i64 af, .slice aK ae.length aJ]] Try.func52 ?_; (with_reducible refine (aD.calls k ah af _ _ ae YI _ ?side1 ?side2 A3.1).mono ?_); (case side1 => exact CB (aY bD.1 HB.1)); (case side2 => exact cO.1); rintro e w8 ⟨aOM, rfl, ho0, hb⟩; refine ⟨_, rfl, ?_⟩; refine E4 (lN ho0 (bZ HB.1)) (bB ry.1 hb) (bB vK.1 hb) (bS HB.1 hb) ?_; clear ry vK HB; intro auq ry vK HB; (try clear hb); (try clear ho0); obtain ⟨Ao9, ZI, Vm⟩ := mq auq.1; subst Vm))
 go_loopg [5, 10] k (fun kq v5 v10 w' => ∃ (bq : List Int) (bE : Int), v10 = .int .i64 bE /\ aa (fQ.l0 kq a1 bq (YI.length : Int) bE ah af ae = some (r1, r2, r3)) /\ aa (kq <= k) /\ aa (Kd.R (Kd.int .i64) 3 w' w.heap.size (fun _ => True) v5 bq) /\ aa (w'.heap[aup]? = some (.cells #[.int .i64 ah, .int .i64 af, (.slice aK ae.length aJ)] 30 (0, 0))) /\ aa (w'.heap[Rb]? = some (.cells #[.int .i64 0, .int .i64 0, (.slice none 0 0)] 30 (0, 0))) /\ aa (Below w.heap.size w w'))
 case atStart => exact ⟨(([] : List Int)), (0), RG, H', ⟨Nat.le_refl _⟩, ⟨by first | exact tO _ _ _ _ _ | exact ET _ _ _ _ _ | exact EU _ _ _ _ _ | exact EW _ _ _ _ _ | exact EY _ _ _ _ _⟩, ⟨PB ry.1⟩, ⟨PB vK.1⟩, ⟨BL HB.1⟩⟩
 clear H'
 clear NN NP ZV NQ NR ZW
 obtain ⟨bq, bE, rfl, HA, iB, HO_5, ry, vK, HB⟩ := hrel
 cases gk with
 | zero => exact absurd HA.1 (by simp [fQ.l0])
 | succ k1 => ?_
 have H := HA.1
 clear HA
 simp only [fQ.l0] at H
 replace H := pu H; rcases H with ⟨c10b0, H⟩ | ⟨c10b0, H⟩
 · obtain ⟨jq, uY⟩ : ∃ j_ : Int, (IntKind.u64.wrap (bE)) = j_ := ⟨_, rfl⟩
   replace H : (if 0 <= (jq) then (if bq.length < 17592186044416 then (fQ.l0 k1 a1 (bq ++ [Go.bits .and .i64 (shr .i64 a1 (jq)) 1]) (YI.length : Int) (wrap64 (bE + 1)) ah af ae) else (none)) else (none)) = some (r1, r2, r3) := by first | (rw [uY] at H; exact H) | (simp only [uY] at H ⊢; exact H)
   replace H := oC H; obtain ⟨c12, H⟩ := H
   have c12b0 := eq_true c12
   have c12b1 := decide_eq_true c12
   clear c12
   obtain ⟨pY, yc⟩ : ∃ j_ : Int, (shr .i64 a1 (jq)) = j_ := ⟨_, rfl⟩
   replace H : (if bq.length < 17592186044416 then (fQ.l0 k1 a1 (bq ++ [Go.bits .and .i64 (pY) 1]) (YI.length : Int) (wrap64 (bE + 1)) ah af ae) else (none)) = some (r1, r2, r3) := by first | (rw [yc] at H; exact H) | (simp only [yc] at H ⊢; exact H)
   have OV : (a1 / 2 ^ min (jq).toNat 64) = pY := yc
   have hji13z : (jq) <= 64 -> (a1 / 2 ^ (jq).toNat) = pY := M6 yc
   replace H := oC H; obtain ⟨c14, H⟩ := H
   have aur := aa.mk c14
   clear c14
   generalize ajH : ((bq ++ [Go.bits .and .i64 (pY) 1]) : List Int) = aFj at H
   have aus := aa.mk ajH.symm; clear ajH
   have H' := aa.mk H
   clear H
   go_wp2_with (first | ((with_reducible refine bf (b := .append) (xs := #[.tmp 13, .tmp 19]) rfl ?_); at_builtin; refine ek (Kd.int .i64) (w0 := w) w.heap.size rfl (.tmp 13) (.tmp 19) 38 3 (.int .i64 0) 8 rfl Try.underlying38 info3 rfl (by decide) (by omega) u5 bq (Go.bits .and .i64 (pY) 1) [.int .i64 (Go.bits .and .i64 (pY) 1)] (fun _ => True) (fun _ => False) rfl rfl ?aP (fun _ hk => hk.elim) ?aF ?aO ?aB ?aS ?aL ?_; (case aP => exact rfl); (case aB => exact (BL HB.1)); (case aF => exact (fun _ _ => trivial)); (case aO => exact (PR HO_5.1)); (case aS => exact (bZ HB.1)); (case aL => have := aur.1; omega); intro aON NU ho hb hg hat; rw [<- aus.1] at ho; refine E4 (bG ry.1 hg (dK HO_5.1 ry.1 (by decide))) (bG vK.1 hg (dK HO_5.1 vK.1 (by decide))) (hb) (ho) ?_; clear ry vK HB HO_5; intro ry vK HB aut; clear ho hb hg hat))
   go_roundg k1
   case measure => have := iB.1; omega
   case rel => exact ⟨(aFj), (wrap64 (bE + 1)), RG, H', ⟨by have := iB.1; omega⟩, ⟨PR aut.1⟩, ⟨PB ry.1⟩, ⟨PB vK.1⟩, ⟨BL HB.1⟩⟩
 replace H := dz H; obtain ⟨⟨auu, auv, auw⟩, A16, H⟩ := H
 dsimp only at H
 simp only [Option.some.injEq, Prod.mk.injEq] at H
 obtain ⟨rfl, rfl, rfl⟩ := H
 obtain ⟨qN, qO, rV, qP, qQ, rW⟩ := gB ry.1
 obtain ⟨aFk, aFl, aFm⟩ := bv HO_5.1
 subst aFm
 go_wp2_with (first | ((with_reducible refine aA (f := 85) rfl ?_); refine cK (N := (some 24)) #[.agg #[.int .i64 ah, .int .i64 af, .slice aK ae.length aJ], .slice aFk bq.length aFl] Try.func85 ?_; (with_reducible refine (ed.calls k1 ah af _ _ ae _ _ bq auu auv auw _ ?side1 ?side2 ?side3 ?side4 A16.1).mono ?_); (case side1 => exact CB (aY bD.1 HB.1)); (case side2 => exact cO.1); (case side3 => exact CB (ay HO_5.1).2.2); (case side4 => exact (ay HO_5.1).2.1); rintro e ZJ ⟨aOO, rfl, ho0, hb⟩; refine ⟨_, rfl, ?_⟩; refine E5 (rB HO_5.1 hb) (bN ho0 (bZ HB.1)) (bB ry.1 hb) (bB vK.1 hb) (bS HB.1 hb) ?_; clear HO_5 ry vK HB; intro HO_5 ajI ry vK HB; (try clear hb); (try clear ho0); obtain ⟨uJ, uK, xK, uL, uM, xL⟩ := gB vK.1; obtain ⟨aux, YL, afE⟩ := bv ajI.1; subst afE))
 refine bodyPost_ret (results_cell_row rfl _ _ Rb 30 #[.int .i64 auu, .int .i64 auv, .slice aux auw.length YL] (0, 0) _ rfl (BB vK.1) Try.underlying30 rfl (by kernel_rfl)) rfl ?_
 exact ⟨_, RF, by (with_reducible repeat (first | apply aV | apply aW | apply aQ)); exact aG (RQ Rb 2 (RQ Rb 1 (RQ Rb 0 (bz ajI.1 vK.1 (by decide)) _) _) _) (fun _ hk => trivial), BL HB.1⟩
def iE.f (k : Nat) (ah : Int) (af : Int) (ae : List (fq)) (a1 : Int) (a2 : Int) : Option (Int × Int × Int × Int) := (fQ.f k ah af ae a1).bind fun abF => ((iU.f k abF.1 abF.2.1 abF.2.2 a2).bind fun Np => ((bR.f k Np.2.2.2.1 Np.2.2.2.2.1 Np.2.2.2.2.2).bind fun aou => (some (aou, Np.1, Np.2.1, Np.2.2.1))))
theorem iE.mono : ∀ a0 a1 a2 a3 a4 k, dO (iE.f k a0 a1 a2 a3 a4) (iE.f (k + 1) a0 a1 a2 a3 a4) := by
 intro a0 a1 a2 a3 a4 k
 unfold iE.f
 repeat' first
  | (with_reducible exact iU.mono _ _ _ _ _)
  | (with_reducible exact fQ.mono _ _ _ _ _)
  | (with_reducible exact bR.mono _ _ _ _)
  | (with_reducible exact dO.refl _)
  | (with_reducible exact dO.none _)
  | (with_reducible refine dO.ite ?_ ?_)
  | (with_reducible refine dO.bind ?_ (fun _ => ?_))
  | exact iU.mono _ _ _ _ _
  | exact fQ.mono _ _ _ _ _
  | exact bR.mono _ _ _ _
  | exact dO.none _
  | refine dO.ite ?_ ?_
  | refine dO.bind ?_ (fun _ => ?_)
theorem iE.calls (k : Nat) (ah : Int) (af : Int) (aK : Option Addr) (aJ : Nat) (ae : List (fq)) (a1 : Int) (a2 : Int) (r1 : Int) (r2 : Int) (r3 : Int) (r4 : Int) (w : World) (dH : Kd.C jZ w aK ae.length ae) (dG : ae.length <= aJ) (h : iE.f k ah af ae a1 a2 = some (r1, r2, r3, r4)) :
 Calls Try.prog 43 #[.agg #[.int .i64 ah, .int .i64 af, .slice aK ae.length aJ], .int .i64 a1, .int .i64 a2] w fun e w' => e = .returned (.tuple #[.int .i64 r1, .agg #[.int .i64 r2, .int .i64 r3, .int .i64 r4]]) /\ Below w.heap.size w w' := by
 have nH := Try.underlying30
 have YM := Try.underlying54
 have bD := aa.mk dH
 have cO := aa.mk dG
 clear dH dG
 have HB := aa.mk (Below.refl w.heap.size w)
 have H := h
 clear h
 unfold iE.f at H
 replace H := dz H; obtain ⟨⟨aov, aow, YN⟩, A4, H⟩ := H
 dsimp only at H
 replace H := dz H; obtain ⟨⟨MC, OW, Rc, OX, Re, ME⟩, A5, H⟩ := H
 dsimp only at H
 replace H := dz H; obtain ⟨aou, A6, H⟩ := H
 simp only [Option.some.injEq, Prod.mk.injEq] at H
 obtain ⟨rfl, rfl, rfl, rfl⟩ := H
 go_enter Try.func43, Try.ntmps43
 try go_wp2_with (first | ((with_reducible refine aC (N := 3) rfl ?_); refine dN (cs := #[.int .i64 ah, .int .i64 af, .slice aK ae.length aJ]) (t := 30) ?_; intro auy hg w7 hbox hb; refine mJ HB.1 hg hbox hb ?_; clear HB; intro HB mF aJ4 aJ5; clear hb hbox hg) | ((with_reducible refine aC (N := 7) rfl ?_); refine dN (cs := #[.int .i64 0, .int .i64 0, .int .i64 0]) (t := 54) ?_; intro ajJ hg w8 hbox hb; refine E7 (bB mF.1 hb) (bS HB.1 hb) (hbox) (gX HB.1 hg) (gX HB.1 hg) (nB mF.1 hg) (nC mF.1 hg) ?_; clear mF HB; intro mF HB nD aJ6 aJ7 YO YP; clear hb hbox hg; have aeJ := YO.1; have aeK := YP.1; obtain ⟨pR, pU, uN, pV, pW, uO⟩ := gB mF.1) | ((with_reducible refine aA (f := 70) rfl ?_); refine cK (N := (some 13)) #[.agg #[.int .i64 ah, .int .i64 af, .slice aK ae.length aJ], .int .i64 a1] Try.func70 ?_; (with_reducible refine (fQ.calls k ah af _ _ ae a1 aov aow YN _ ?side1 ?side2 A4.1).mono ?_); (case side1 => exact CB (aY bD.1 HB.1)); (case side2 => exact cO.1); rintro e qy ⟨aOP, rfl, ho0, hb⟩; refine ⟨_, rfl, ?_⟩; refine E4 (bN ho0 (bZ HB.1)) (bB mF.1 hb) (bB nD.1 hb) (bS HB.1 hb) ?_; clear mF nD HB; intro pJ mF nD HB; (try clear hb); (try clear ho0); obtain ⟨DF, rM, vF⟩ := bv pJ.1; subst vF) | ((with_reducible refine aA (f := 69) rfl ?_); refine cK (N := (some 15)) #[.agg #[.int .i64 aov, .int .i64 aow, .slice DF YN.length rM], .int .i64 a2] Try.func69 ?_; (with_reducible refine (iU.calls k aov aow _ _ YN a2 MC OW Rc OX Re ME _ ?side1 ?side2 A5.1).mono ?_); (case side1 => exact CB (ay pJ.1).2.2); (case side2 => exact (ay pJ.1).2.1); rintro e yJ ⟨aOQ, rfl, ho0, hb⟩; refine ⟨_, rfl, ?_⟩; refine E5 (eT (PR pJ.1) (fe ho0) hb) (bN (iI ho0 (iL (PR pJ.1))) (bZ HB.1)) (bB mF.1 hb) (bB nD.1 hb) (bS HB.1 hb) ?_; clear pJ mF nD HB; intro pJ sP mF nD HB; (try clear hb); (try clear ho0)) | ((with_reducible refine aC (N := 8) rfl ?_); refine dN (cs := #[.int .i64 0, .int .i64 0, .int .i64 0]) (t := 54) ?_; intro vL hg yM hbox hb; refine E12 (rB pJ.1 hb) (rB sP.1 hb) (bB mF.1 hb) (bB nD.1 hb) (bS HB.1 hb) (hbox) (gX HB.1 hg) (gX HB.1 hg) (nB mF.1 hg) (nC mF.1 hg) (nB nD.1 hg) (nC nD.1 hg) ?_; clear pJ sP mF nD HB; intro pJ sP mF nD HB oZ aJ8 aJ9 CX YQ CY CZ; clear hb hbox hg) | ((with_reducible refine aC (N := 9) rfl ?_); refine dN (cs := #[.int .i64 0, .int .i64 0, .slice none 0 0]) (t := 30) ?_; intro vM hg NU hbox hb; refine E15 (rB pJ.1 hb) (rB sP.1 hb) (bB mF.1 hb) (bB nD.1 hb) (bB oZ.1 hb) (bS HB.1 hb) (hbox) (gX HB.1 hg) (gX HB.1 hg) (nB mF.1 hg) (nC mF.1 hg) (nB nD.1 hg) (nC nD.1 hg) (nB oZ.1 hg) (nC oZ.1 hg) ?_; clear pJ sP mF nD oZ HB; intro pJ sP mF nD oZ HB sQ aKa aKb C8 YR C9 Da Db Dc; clear hb hbox hg; have aKc := YQ.1; have aKd := CX.1; have aiC := CZ.1; have aiD := CY.1; have aKe := Db.1; have aKf := Dc.1; obtain ⟨FD, FE, OA, FF, FH, OB⟩ := gB oZ.1; have auz := YR.1; have auA := C8.1; have aaO := Da.1; have aaP := C9.1; obtain ⟨wJ, wK, Jw, wL, wM, Jy⟩ := gB sQ.1; obtain ⟨yN, yO, NV⟩ := bv sP.1; subst NV))
 have n_ : (fun Mi : World => (Kd.R jZ 83 Mi w.heap.size (fun k_ => some k_ ≠ (.slice yN ME.length yO : Value).ownBlock) (.slice DF YN.length rM) YN) /\ (Kd.R jZ 83 Mi w.heap.size (fun k_ => some k_ ≠ (.slice DF YN.length rM : Value).ownBlock) (.slice yN ME.length yO) ME) /\ (Mi.heap[auy]? = some (.cells #[.int .i64 ah, .int .i64 af, .slice aK ae.length aJ] 30 (0, 0))) /\ (Mi.heap[ajJ]? = some (.cells #[.int .i64 0, .int .i64 0, .int .i64 0] 54 (0, 0))) /\ (Mi.heap[vL]? = some (.cells #[.int .i64 MC, .int .i64 OW, .int .i64 Rc] 54 (0, 0))) /\ (Mi.heap[vM]? = some (.cells #[.int .i64 OX, .int .i64 Re, .slice yN ME.length yO] 30 (0, 0))) /\ (Below w.heap.size w Mi)) ((((((NU.setCell ⟨vL, 0, none⟩ (.int .i64 MC)).setCell ⟨vL, 1, none⟩ (.int .i64 OW)).setCell ⟨vL, 2, none⟩ (.int .i64 Rc)).setCell ⟨vM, 0, none⟩ (.int .i64 OX)).setCell ⟨vM, 1, none⟩ (.int .i64 Re)).setCell ⟨vM, 2, none⟩ (.slice yN ME.length yO)) := ⟨by (with_reducible repeat (first | apply aV | apply aW | apply aQ)); exact aG (RQ vM 2 (RQ vM 1 (RQ vM 0 (mY (p := ⟨vL, 2, none⟩) (mY (p := ⟨vL, 1, none⟩) (mY (p := ⟨vL, 0, none⟩) (bz (bz pJ.1 oZ.1 (by decide)) sQ.1 (by decide)) (fun _ hk => hk.1.2) (.int .i64 MC)) (fun _ hk => hk.1.2) (.int .i64 OW)) (fun _ hk => hk.1.2) (.int .i64 Rc)) _) _) _) (fun _ hk => hk.1.1.2), by (with_reducible repeat (first | apply aV | apply aW | apply aQ)); exact aG (RQ vM 2 (RQ vM 1 (RQ vM 0 (mY (p := ⟨vL, 2, none⟩) (mY (p := ⟨vL, 1, none⟩) (mY (p := ⟨vL, 0, none⟩) (bz (bz sP.1 oZ.1 (by decide)) sQ.1 (by decide)) (fun _ hk => hk.1.2) (.int .i64 MC)) (fun _ hk => hk.1.2) (.int .i64 OW)) (fun _ hk => hk.1.2) (.int .i64 Rc)) _) _) _) (fun _ hk => hk.1.1.2), by (with_reducible repeat (first | refine ak ?_ _ | refine ag ?_ | refine au ?_ _)); refine bu ?_ C8.1 _; (with_reducible repeat (first | refine ak ?_ _ | refine ag ?_ | refine au ?_ _)); refine bu ?_ C8.1 _; (with_reducible repeat (first | refine ak ?_ _ | refine ag ?_ | refine au ?_ _)); refine bu ?_ C8.1 _; (with_reducible repeat (first | refine ak ?_ _ | refine ag ?_ | refine au ?_ _)); refine bu ?_ CX.1 _; (with_reducible repeat (first | refine ak ?_ _ | refine ag ?_ | refine au ?_ _)); refine bu ?_ CX.1 _; (with_reducible repeat (first | refine ak ?_ _ | refine ag ?_ | refine au ?_ _)); refine bu ?_ CX.1 _; (with_reducible repeat (first | refine ak ?_ _ | refine ag ?_ | refine au ?_ _)); exact mF.1, by (with_reducible repeat (first | refine ak ?_ _ | refine ag ?_ | refine au ?_ _)); refine bu ?_ C9.1 _; (with_reducible repeat (first | refine ak ?_ _ | refine ag ?_ | refine au ?_ _)); refine bu ?_ C9.1 _; (with_reducible repeat (first | refine ak ?_ _ | refine ag ?_ | refine au ?_ _)); refine bu ?_ C9.1 _; (with_reducible repeat (first | refine ak ?_ _ | refine ag ?_ | refine au ?_ _)); refine bu ?_ CY.1 _; (with_reducible repeat (first | refine ak ?_ _ | refine ag ?_ | refine au ?_ _)); refine bu ?_ CY.1 _; (with_reducible repeat (first | refine ak ?_ _ | refine ag ?_ | refine au ?_ _)); refine bu ?_ CY.1 _; (with_reducible repeat (first | refine ak ?_ _ | refine ag ?_ | refine au ?_ _)); exact nD.1, by (with_reducible repeat (first | refine ak ?_ _ | refine ag ?_ | refine au ?_ _)); refine bu ?_ Db.1 _; (with_reducible repeat (first | refine ak ?_ _ | refine ag ?_ | refine au ?_ _)); refine bu ?_ Db.1 _; (with_reducible repeat (first | refine ak ?_ _ | refine ag ?_ | refine au ?_ _)); refine bu ?_ Db.1 _; (with_reducible repeat (first | refine ak ?_ _ | refine ag ?_ | refine au ?_ _)); refine gy (cs := #[.int .i64 MC, .int .i64 OW, .int .i64 0]) ?_ 2 _ rfl; (with_reducible repeat (first | refine ak ?_ _ | refine ag ?_ | refine au ?_ _)); refine gy (cs := #[.int .i64 MC, .int .i64 0, .int .i64 0]) ?_ 1 _ rfl; (with_reducible repeat (first | refine ak ?_ _ | refine ag ?_ | refine au ?_ _)); refine gy (cs := #[.int .i64 0, .int .i64 0, .int .i64 0]) ?_ 0 _ rfl; (with_reducible repeat (first | refine ak ?_ _ | refine ag ?_ | refine au ?_ _)); exact oZ.1, by (with_reducible repeat (first | refine ak ?_ _ | refine ag ?_ | refine au ?_ _)); refine gy (cs := #[.int .i64 OX, .int .i64 Re, .slice none 0 0]) ?_ 2 _ rfl; (with_reducible repeat (first | refine ak ?_ _ | refine ag ?_ | refine au ?_ _)); refine gy (cs := #[.int .i64 OX, .int .i64 0, .slice none 0 0]) ?_ 1 _ rfl; (with_reducible repeat (first | refine ak ?_ _ | refine ag ?_ | refine au ?_ _)); refine gy (cs := #[.int .i64 0, .int .i64 0, .slice none 0 0]) ?_ 0 _ rfl; (with_reducible repeat (first | refine ak ?_ _ | refine ag ?_ | refine au ?_ _)); refine bu ?_ Dc.1 _; (with_reducible repeat (first | refine ak ?_ _ | refine ag ?_ | refine au ?_ _)); refine bu ?_ Dc.1 _; (with_reducible repeat (first | refine ak ?_ _ | refine ag ?_ | refine au ?_ _)); refine bu ?_ Dc.1 _; (with_reducible repeat (first | refine ak ?_ _ | refine ag ?_ | refine au ?_ _)); exact sQ.1, BL HB.1⟩
 (try clear pJ)
 (try clear sP)
 (try clear mF)
 (try clear nD)
 (try clear oZ)
 (try clear sQ)
 (try clear HB)
 generalize ((((((NU.setCell ⟨vL, 0, none⟩ (.int .i64 MC)).setCell ⟨vL, 1, none⟩ (.int .i64 OW)).setCell ⟨vL, 2, none⟩ (.int .i64 Rc)).setCell ⟨vM, 0, none⟩ (.int .i64 OX)).setCell ⟨vM, 1, none⟩ (.int .i64 Re)).setCell ⟨vM, 2, none⟩ (.slice yN ME.length yO)) = Mi at n_ ⊢
 obtain ⟨qG, qH, qi, qI, qJ, tX, xk⟩ := n_
 refine E7 qG qH qi qI qJ tX xk ?_
 clear qG qH qi qI qJ tX xk
 intro pJ sP mF nD oZ sQ HB
 refine E7 (aQ pJ.1) (aQ sP.1) (ag mF.1) (ag nD.1) (ag oZ.1) (ag sQ.1) (dm HB.1) ?_
 clear pJ sP mF nD oZ sQ HB
 intro pJ sP mF nD oZ sQ HB
 refine jN (n := 5) (S := fun w' => w'.cell? ⟨vM, 0, none⟩ = some (.int .i64 OX) /\ w'.cell? ⟨vM, 1, none⟩ = some (.int .i64 Re) /\ w'.cell? ⟨vM, 2, none⟩ = some (.slice yN ME.length yO) /\ w'.cell? ⟨vL, 0, none⟩ = some (.int .i64 MC) /\ w'.cell? ⟨vL, 1, none⟩ = some (.int .i64 OW) /\ w'.cell? ⟨vL, 2, none⟩ = some (.int .i64 Rc)) (ds := []) #[Zz,Zz,Zz,Zz,Zz] (by kernel_rfl) rfl rfl ⟨(ai sQ.1 0).trans rfl, (ai sQ.1 1).trans rfl, (ai sQ.1 2).trans rfl, (ai oZ.1 0).trans rfl, (ai oZ.1 1).trans rfl, (ai oZ.1 2).trans rfl⟩ (fun hHeld => ?_)
 generalize Mi.drew = Mk at pJ sP mF nD oZ sQ HB hHeld ⊢
 refine xQ 0 (N := some 18) hHeld ?_
 refine xQ 2 (N := some 20) hHeld ?_
 refine mV (i := 1) (N := some 19) #[Yy,Yy,Yy,Zz,Zz] rfl rfl (by kernel_rfl) (by decide) (fun K hK => ?_)
 refine nA Try.func44 (by kernel_rfl) rfl #[.agg #[.int .i64 OX, .int .i64 Re, .slice yN ME.length yO]] (by rfl) rfl rfl (by (try simp only [List.map_toArray, List.map_cons, List.map_nil]); first | done | rfl | (simp only [List.length_drop, List.length_take]; rfl)) ?_
 with_reducible refine (bR.calls k OX Re _ _ ME aou _ ?side1 ?side2 A6.1).mono ?_
 (case side1 => exact CB (ay sP.1).2.2)
 (case side2 => exact (ay sP.1).2.1)
 rintro e w26 ⟨rfl, hb⟩
 refine ⟨_, rfl, ?_⟩
 refine E7 (rB pJ.1 hb) (rB sP.1 hb) (bB mF.1 hb) (bB nD.1 hb) (bB oZ.1 hb) (bB sQ.1 hb) (bS HB.1 hb) ?_
 clear pJ sP mF nD oZ sQ HB
 intro pJ sP mF nD oZ sQ HB
 (try clear hb)
 (try clear hb2)
 (try clear hk)
 (try clear hi)
 refine hK.out _ _ ⟨(ai sQ.1 0).trans rfl, (ai sQ.1 1).trans rfl, (ai sQ.1 2).trans rfl, (ai oZ.1 0).trans rfl, (ai oZ.1 1).trans rfl, (ai oZ.1 2).trans rfl⟩ (fun hHeld => ?_)
 clear hK K
 refine eX (a' := ?_) ?_ ?_
 rotate_left
 · show Act.put _ (some 19) _ = _
   simp only [Act.put, List.setIfInBounds_toArray, List.set_cons_zero, List.set_cons_succ, cz, dF]
   rfl
 refine ll (i := 3) (N := some 6) (v := ?_) (a' := ?_) #[Yy,Yy,Yy,Yy,Zz] rfl rfl (by kernel_rfl) (fun _ _ _ h => h) (Or.inl ⟨by rfl, ?_⟩) ?_ ?_
 rotate_left
 · intro w'
   go_simp
   with_reducible rfl
 rotate_left
 · simp only [Act.put, List.setIfInBounds_toArray, List.set_cons_zero, List.set_cons_succ, cz, dF]
   rfl
 refine mV (i := 4) (N := none) #[Yy,Yy,Yy,Yy,Yy] rfl rfl (by kernel_rfl) (by decide) (fun K hK => ?_)
 obtain ⟨auB, auC, aFn, ajK, ajL, auD⟩ := gB nD.1
 refine pF (w1 := ?_) (by rfl) rfl ?_ ?_
 rotate_left
 · go_simp
   rfl
 refine hK.out _ _ ⟨(rP Da.1 hHeld.1), (rP Da.1 hHeld.2.1), (rP Da.1 hHeld.2.2.1), (rP CZ.1 hHeld.2.2.2.1), (rP CZ.1 hHeld.2.2.2.2.1), (rP CZ.1 hHeld.2.2.2.2.2)⟩ (fun hHeld => ?_)
 clear hK K
 refine lI (by kernel_rfl) ?_
 try go_wp2
 refine bodyPost_ret (Te rfl _ _ ajJ 54 #[.int .i64 MC, .int .i64 OW, .int .i64 Rc] (0, 0) _ rfl (BB nD.1) Try.underlying54 rfl (by kernel_rfl)) rfl ?_
 exact ⟨RF, BL HB.1⟩
def uk.f (l0 : List Int) : Option (List Int) := (some (([] : List Int) : List Int)).bind fun abG => (if abG.length + l0.length < 17592186044416 then (some (abG ++ l0)) else (none))
theorem uk.calls (A0 : Option Addr) (c0 : Nat) (l0 : List Int) (r : List Int) (w : World) (hr0 : Kd.C (Kd.int .i64) w A0 l0.length l0) (hc0 : l0.length <= c0) (h : uk.f l0 = some r) :
 Calls Try.prog 59 #[.slice A0 l0.length c0] w fun e w' => ∃ rO : Value, e = .returned (rO) /\ Kd.R (Kd.int .i64) 3 w' w.heap.size (fun _ => True) rO r /\ Below w.heap.size w w' := by
 have DI := aa.mk hr0
 have ZU := aa.mk hc0
 clear hr0 hc0
 have HB := aa.mk (Below.refl w.heap.size w)
 have H := h
 clear h
 unfold uk.f at H
 replace H := nR H; obtain ⟨abG, ajM, H⟩ := H
 replace H := oC H; obtain ⟨c2, H⟩ := H
 have abz := aa.mk c2
 clear c2
 generalize ajN : ((abG ++ l0) : List Int) = aOR at H
 have auE := aa.mk ajN.symm; clear ajN
 obtain rfl := Option.some.inj H
 go_enter Try.func59, Try.ntmps59
 go_wp2_with (first | ((with_reducible refine aC (N := 3) rfl ?_); refine qh (Kd.int .i64) _ 3 ?hg (N := 3) ?hd (xs := ([] : List Int)) (inner := []) (ok := fun _ => True) (okp := fun _ => True) ?hr ?hp (fun _ hk => hk) trivial (Below.refl _ _) (Nat.le_refl _) (by simp) ?_; (case hd => rfl); (case hg => rfl); (case hr => first | (go_simp; done) | (go_simp; rfl)); (case hp => exact (fK.none _ _)); intro aFo w3 ho4 hb hg_ hnew_; clear hg_ hnew_; (first | rw [<- ajM.1] at ho4 | (simp only [Int.reduceToNat] at ho4; rw [<- ajM.1] at ho4)); refine E2 (bN ho4 (bZ HB.1)) (bS HB.1 hb) ?_; clear HB; intro ajO HB; clear hb ho4) | ((with_reducible refine bf (b := .append) (xs := #[.tmp 3, .tmp 4]) rfl ?_); at_builtin; refine qB (Kd.int .i64) (w0 := w) w.heap.size rfl (.tmp 3) (.tmp 4) 38 3 (.int .i64 0) 8 rfl Try.underlying38 info3 rfl (by decide) (by omega) aFo abG l0 _ _ _ (fun _ => True) (fun _ => False) rfl rfl ?aO ?aR (fun _ _ h => h) (fun _ h => h.elim) ?aF ?aB ?aS ?aL ?_; (case aR => repeat (first | exact (aY DI.1 HB.1) | (with_reducible refine kg ?_ _) | (with_reducible refine ko ?_ _) | (with_reducible refine kH ?_))); (case aB => exact (BL HB.1)); (case aF => exact (fun _ _ => trivial)); (case aO => exact (PR ajO.1)); (case aS => exact (bZ HB.1)); (case aL => have := abz.1; omega); intro aOS w5 ho hb hg hat; rw [<- auE.1] at ho; refine E2 (hb) (ho) ?_; clear HB ajO; intro HB auG; clear ho hb hg hat))
 go_ret
 exact ⟨_, RF, pm (auG.1), BL HB.1⟩
def fF.l0 : Nat -> Int -> List Int -> Int -> Int -> Option (Bool)
 | 0, _, _, _, _ => none
 | k + 1, x1, x7, x8, x9 => if x9 < x8 then (if 0 <= x9 then (if x9 < (x7.length : Int) then (if (rd x7 x9) = x1 then (some true) else (fF.l0 k x1 x7 x8 (wrap64 (x9 + 1)))) else (none)) else (none)) else (some false)
def fF.f (k : Nat) (l0 : List Int) (a1 : Int) : Option (Bool) := fF.l0 k a1 l0 (l0.length : Int) 0
theorem fF.mono_l : ∀ k, (∀ y0 y1 y2 y3, dO (fF.l0 k y0 y1 y2 y3) (fF.l0 (k + 1) y0 y1 y2 y3))
 | 0 => fun _ _ _ _ r h => by simp [fF.l0] at h
 | k + 1 => by
  have ja := fF.mono_l k
  intros
  first | unfold fF.l0
  exact BA ja
theorem fF.mono : ∀ a0 a1 k, dO (fF.f k a0 a1) (fF.f (k + 1) a0 a1) := by
 intro a0 a1 k
 have ja := fF.mono_l k
 unfold fF.f
 exact BA ja
theorem fF.calls (k : Nat) (A0 : Option Addr) (c0 : Nat) (l0 : List Int) (a1 : Int) (r : Bool) (w : World) (hr0 : Kd.C (Kd.int .i64) w A0 l0.length l0) (hc0 : l0.length <= c0) (h : fF.f k l0 a1 = some r) :
 Calls Try.prog 62 #[.slice A0 l0.length c0, .int .i64 a1] w fun e w' => e = .returned (.bool r) /\ lY w w' := by
 have DI := aa.mk hr0
 have ZU := aa.mk hc0
 clear hr0 hc0
 have H := h
 clear h
 unfold fF.f at H
 have H' := aa.mk H
 clear H
 go_enter Try.func62, Try.ntmps62
 go_wp2
 go_loopg [9] k (fun kq v9 w' => ∃ (kJ : Int), v9 = .int .i64 kJ /\ aa (fF.l0 kq a1 l0 (l0.length : Int) kJ = some r) /\ aa (kq <= k) /\ lY w w')
 case atStart => exact ⟨(0), RG, H', ⟨Nat.le_refl _⟩, DR⟩
 clear H'
 obtain ⟨kJ, rfl, HA, iB, ⟨m1, rfl⟩⟩ := hrel
 cases gk with
 | zero => exact absurd HA.1 (by simp [fF.l0])
 | succ k1 => ?_
 have H := HA.1
 clear HA
 simp only [fF.l0] at H
 replace H := pu H; rcases H with ⟨c3b0, H⟩ | ⟨c3b0, H⟩
 · replace H := ji H; obtain ⟨c4b0, H⟩ := H
   replace H := ji H; obtain ⟨c5b0, H⟩ := H
   replace H := oP H; rcases H with ⟨c6, H⟩ | ⟨c6, H⟩
   · have c6b0 := beq_iff_eq.mpr c6
     have c6b1 := bne_eq_false_iff_eq.mpr c6
     clear c6
     obtain rfl := Option.some.inj H
     have Uj : 0 <= (kJ : Int) := OD
     have Uk : kJ < (l0.length : Int) := OD
     obtain ⟨auH, aox, afF⟩ := Kd.dx DI.1 kJ Uj Uk
     cases aox
     replace Uj := eq_true Uj
     replace Uk := eq_true Uk
     go_wp2
     go_ret
     exact ⟨RG, DR⟩
   have c6b0 := beq_eq_false_iff_ne.mpr c6
   have c6b1 := bne_iff_ne.mpr c6
   have H' := aa.mk H
   clear H
   have Uj : 0 <= (kJ : Int) := OD
   have Uk : kJ < (l0.length : Int) := OD
   obtain ⟨auH, aox, afF⟩ := Kd.dx DI.1 kJ Uj Uk
   cases aox
   replace Uj := eq_true Uj
   replace Uk := eq_true Uk
   go_wp2
   go_roundg k1
   case measure => have := iB.1; omega
   case rel => exact ⟨(wrap64 (kJ + 1)), RG, H', ⟨by have := iB.1; omega⟩, DR⟩
 obtain rfl := Option.some.inj H
 go_wp2
 go_ret
 exact ⟨RG, DR⟩
mutual
def bA.l0 : Nat -> List Int -> List Int -> List (List Int) -> Int -> Int -> Int -> List (fq) -> Option (List Int × (List (List Int)))
 | 0, _, _, _, _, _, _, _ => none
 | k + 1, x1, x6, x7, x8, De, Df, Dh => if x8 < (x6.length : Int) then (bA.l1 k x1 x6 x7 x8 x1 (x1.length : Int) 0 De Df Dh) else (some (x6, x7))
def bA.l1 : Nat -> List Int -> List Int -> List (List Int) -> Int -> List Int -> Int -> Int -> Int -> Int -> List (fq) -> Option (List Int × (List (List Int)))
 | 0, _, _, _, _, _, _, _, _, _, _ => none
 | k + 1, x1, x6, x7, x8, Hu, x24, x25, De, Df, Dh => if x25 < x24 then (if 0 <= x25 then (if x25 < (Hu.length : Int) then (if 0 <= x8 then (if x8 < (x6.length : Int) then ((iE.f k De Df Dh (rd x6 x8) (rd Hu x25)).bind fun ajP => ((fF.f k x6 ajP.1).bind fun auI => (if auI = true then (bA.l1 k x1 x6 x7 x8 Hu x24 (wrap64 (x25 + 1)) De Df Dh) else (if x6.length < 17592186044416 then (if x8 < (x7.length : Int) then ((uk.f (aT x7 x8)).bind fun YS => (if YS.length < 17592186044416 then (if x7.length < 5864062014805 then (bA.l1 k x1 (x6 ++ [ajP.1]) (x7 ++ [(YS ++ [rd Hu x25])]) x8 Hu x24 (wrap64 (x25 + 1)) De Df Dh) else (none)) else (none))) else (none)) else (none))))) else (none)) else (none)) else (none)) else (none)) else (bA.l0 k x1 x6 x7 (wrap64 (x8 + 1)) De Df Dh)
end
def bA.f (k : Nat) (ah : Int) (af : Int) (ae : List (fq)) (l1 : List Int) : Option (List Int × (List (List Int))) := (bR.f k ah af ae).bind fun Rf => (bA.l0 k l1 (([Rf] : List Int)) (([[]] : List (List Int))) 0 ah af ae)
theorem bA.mono_l : ∀ k, (∀ y0 y1 y2 y3 y4 y5 y6, dO (bA.l0 k y0 y1 y2 y3 y4 y5 y6) (bA.l0 (k + 1) y0 y1 y2 y3 y4 y5 y6)) /\ (∀ y0 y1 y2 y3 y4 y5 y6 y7 y8 y9, dO (bA.l1 k y0 y1 y2 y3 y4 y5 y6 y7 y8 y9) (bA.l1 (k + 1) y0 y1 y2 y3 y4 y5 y6 y7 y8 y9))
 | 0 => by refine ⟨?_, ?_⟩ <;> (intros; intro r h; first | (simp [bA.l0] at h; done) | (simp [bA.l1] at h; done))
 | k + 1 => by
  obtain ⟨ja, ih1⟩ := bA.mono_l k
  refine ⟨?_, ?_⟩ <;> (
   intros
   first | unfold bA.l0 | unfold bA.l1
   exact LM5 ja ih1 fF.mono iE.mono bR.mono)
theorem bA.mono : ∀ a0 a1 a2 a3 k, dO (bA.f k a0 a1 a2 a3) (bA.f (k + 1) a0 a1 a2 a3) := by
 intro a0 a1 a2 a3 k
 obtain ⟨ja, ih1⟩ := bA.mono_l k
 unfold bA.f
 exact LM5 ja ih1 fF.mono iE.mono bR.mono
def bA.T8 : Bool × List (List Nat × List Nat) := (true, [([], []), ([], []), ([], []), ([1, 2], [1, 2]), ([3], [3]), ([], []), ([0, 4, 5], [0, 4, 5]), ([6], [6]), ([7], [7]), ([7], [7]), ([], []), ([8, 6, 0, 1, 2, 3, 4, 5, 6, 7, 8, 10], [8]), ([10, 9, 11, 0, 1, 2, 3, 4, 5, 6, 7, 8, 9, 10, 11], [9, 10])])
def bA.B8 : List Nat := [0, 0, 0, 6, 14, 0, 63, 127, 255, 255, 0, 1535, 4095]
theorem bA.afG : mX .any (opsOf Try.f58 8) = bA.T8 := by kernel_rfl
theorem bA.bits8 : kr bA.T8.2 bA.B8 = true := by kernel_rfl
theorem bA.calls (k : Nat) (ah : Int) (af : Int) (aK : Option Addr) (aJ : Nat) (ae : List (fq)) (A1 : Option Addr) (c1 : Nat) (l1 : List Int) (r1 : List Int) (r2 : List (List Int)) (w : World) (dH : Kd.C jZ w aK ae.length ae) (dG : ae.length <= aJ) (hr1 : Kd.C (Kd.int .i64) w A1 l1.length l1) (hc1 : l1.length <= c1) (h : bA.f k ah af ae l1 = some (r1, r2)) :
 Calls Try.prog 58 #[.agg #[.int .i64 ah, .int .i64 af, .slice aK ae.length aJ], .slice A1 l1.length c1] w fun e w' => ∃ rO v1_ : Value, e = .returned (.tuple #[rO, v1_]) /\ Kd.R (Kd.int .i64) 3 w' w.heap.size (fun _ => True) rO r1 /\ Kd.S (Kd.slice 3 (Kd.int .i64)) 38 w' w.heap.size (fun k_ => some k_ ≠ (rO : Value).ownBlock) v1_ r2 /\ Below w.heap.size w w' := by
 have nH := Try.underlying30
 have YM := Try.underlying54
 have bD := aa.mk dH
 have cO := aa.mk dG
 clear dH dG
 have HR1 := aa.mk hr1
 have vD := aa.mk hc1
 clear hr1 hc1
 have HB := aa.mk (Below.refl w.heap.size w)
 have H := h
 clear h
 unfold bA.f at H
 replace H := dz H; obtain ⟨Rf, A3, H⟩ := H
 generalize ajQ : ((([Rf] : List Int)) : List Int) = aFp at H
 have ajR := aa.mk ajQ.symm; clear ajQ
 generalize ajS : ((([[]] : List (List Int))) : List (List Int)) = aFq at H
 have ajT := aa.mk ajS.symm; clear ajS
 have H' := aa.mk H
 clear H
 go_enter Try.func58, Try.ntmps58
 go_wp2_with (first | ((with_reducible refine aC (N := 2) rfl ?_); refine dN (cs := #[.int .i64 ah, .int .i64 af, .slice aK ae.length aJ]) (t := 30) ?_; intro nK hg w4 hbox hb; refine mJ HB.1 hg hbox hb ?_; clear HB; intro HB dL aKh aKi; clear hb hbox hg; obtain ⟨Au, Av, EA, Aw, Ay, EB⟩ := gB dL.1) | ((with_reducible refine aA (f := 44) rfl ?_); refine cK (N := (some 14)) #[.agg #[.int .i64 ah, .int .i64 af, .slice aK ae.length aJ]] Try.func44 ?_; (with_reducible refine (bR.calls k ah af _ _ ae Rf _ ?side1 ?side2 A3.1).mono ?_); (case side1 => exact CB (aY bD.1 HB.1)); (case side2 => exact cO.1); rintro e w6 ⟨rfl, hb⟩; refine ⟨_, rfl, ?_⟩; refine E2 (bB dL.1 hb) (bS HB.1 hb) ?_; clear dL HB; intro dL HB; (try clear hb)) | ((with_reducible refine aC (N := 15) rfl ?_); refine qh (Kd.int .i64) _ 3 ?hg (N := 15) ?hd (xs := ([Rf] : List Int)) (inner := [.int .i64 Rf]) (ok := fun _ => True) (okp := fun _ => True) ?hr ?hp (fun _ hk => hk) trivial (Below.refl _ _) (Nat.le_refl _) (by simp) ?_; (case hd => rfl); (case hg => rfl); (case hr => first | (go_simp; done) | (go_simp; rfl)); (case hp => exact (fK.one (show Kd.M (Kd.int .i64) _ _ _ Rf [.int .i64 Rf] from rfl) (fK.none _ _))); intro aOT w7 ho8 hb hg_ hnew_; clear hg_ hnew_; (first | rw [<- ajR.1] at ho8 | (simp only [Int.reduceToNat] at ho8; rw [<- ajR.1] at ho8)); refine E3 (bN ho8 (bZ HB.1)) (bB dL.1 hb) (bS HB.1 hb) ?_; clear dL HB; intro Rh dL HB; clear hb ho8) | ((with_reducible refine aC (N := 16) rfl ?_); refine aio (Kd.slice 3 (Kd.int .i64)) _ 38 ?hg (N := 16) ?hd (xs := ([[]] : List (List Int))) (inner := [.slice none 0 0]) (ok := fun _ => True) (okp := fun _ => True) ?hr ?hp (fun _ hk => hk) trivial (Below.refl _ _) (Nat.le_refl _) (by simp) ?_; (case hd => rfl); (case hg => rfl); (case hr => first | (go_simp; done) | (go_simp; rfl)); (case hp => exact (fK.one (show Kd.M (Kd.slice 3 (Kd.int .i64)) _ _ _ [] [.slice none 0 0] from ⟨_, rfl, tO _ _ _ _ _⟩) (fK.none _ _))); intro aOU w9 I7 hb hg_ hnew_; clear hg_ hnew_; (first | rw [<- ajT.1] at I7 | (simp only [Int.reduceToNat] at I7; rw [<- ajT.1] at I7)); refine E4 (rB Rh.1 hb) (lN (BV I7 (iL (PR Rh.1))) (bZ HB.1)) (bB dL.1 hb) (bS HB.1 hb) ?_; clear Rh dL HB; intro Rh auJ dL HB; clear hb I7))
 go_loopg [6, 7, 8] k (fun kq v6 v7 v8 w' => ∃ (MF : List Int) (qa : List (List Int)) (d9 : Int), v8 = .int .i64 d9 /\ aa (bA.l0 kq l1 MF qa d9 ah af ae = some (r1, r2)) /\ aa (kq <= k) /\ aa (Kd.R (Kd.int .i64) 3 w' w.heap.size (fun _ => True) v6 MF) /\ aa (Kd.S (Kd.slice 3 (Kd.int .i64)) 38 w' w.heap.size (fun k_ => some k_ ≠ (v6 : Value).ownBlock) v7 qa) /\ aa (w'.heap[nK]? = some (.cells #[.int .i64 ah, .int .i64 af, (.slice aK ae.length aJ)] 30 (0, 0))) /\ aa (Below w.heap.size w w'))
 case atStart => exact ⟨(aFp), (aFq), (0), RG, H', ⟨Nat.le_refl _⟩, ⟨PR Rh.1⟩, ⟨ES (eY auJ.1 (fun _ hk => hk.2))⟩, ⟨PB dL.1⟩, ⟨BL HB.1⟩⟩
 clear H'
 try clear c1; clear Au Av EA Aw Ay EB
 obtain ⟨MF, qa, d9, rfl, HA, iB, HO_6, HO_7, dL, HB⟩ := hrel
 cases gk with
 | zero => exact absurd HA.1 (by simp [bA.l0])
 | succ k1 => ?_
 have H := HA.1
 clear HA
 simp only [bA.l0] at H
 replace H := pu H; rcases H with ⟨c11b0, H⟩ | ⟨c11b0, H⟩
 · have H' := aa.mk H
   clear H
   obtain ⟨DF, rM, vF⟩ := bv HO_6.1
   subst vF
   go_wp2
   go_loopg [6, 7, 25] k1 (fun kq v6 v7 v25 w' => ∃ (iT : List Int) (lF : List (List Int)) (ql : Int), v25 = .int .i64 ql /\ aa (bA.l1 kq l1 iT lF d9 l1 (l1.length : Int) ql ah af ae = some (r1, r2)) /\ aa (kq <= k1) /\ aa (Kd.R (Kd.int .i64) 3 w' w.heap.size (fun _ => True) v6 iT) /\ aa (Kd.S (Kd.slice 3 (Kd.int .i64)) 38 w' w.heap.size (fun k_ => some k_ ≠ (v6 : Value).ownBlock) v7 lF) /\ aa (w'.heap[nK]? = some (.cells #[.int .i64 ah, .int .i64 af, (.slice aK ae.length aJ)] 30 (0, 0))) /\ aa (Below w.heap.size w w'))
   case atStart => exact ⟨(MF), (qa), (0), RG, H', ⟨Nat.le_refl _⟩, ⟨PR HO_6.1⟩, ⟨PS HO_7.1⟩, ⟨PB dL.1⟩, ⟨BL HB.1⟩⟩
   clear H'
   try clear c11b0
   obtain ⟨iT, lF, ql, rfl, HA, nG, HO_6, HO_7, dL, HB⟩ := hrel
   cases gk with
   | zero => exact absurd HA.1 (by simp [bA.l1])
   | succ k2 => ?_
   have H := HA.1
   clear HA
   simp only [bA.l1] at H
   replace H := pu H; rcases H with ⟨c13b0, H⟩ | ⟨c13b0, H⟩
   · replace H := ji H; obtain ⟨c14b0, H⟩ := H
     replace H := ji H; obtain ⟨c15b0, H⟩ := H
     replace H := ji H; obtain ⟨c16b0, H⟩ := H
     replace H := ji H; obtain ⟨c17b0, H⟩ := H
     replace H := dz H; obtain ⟨⟨Cc, Lb, Lc, Ld⟩, A18, H⟩ := H
     dsimp only at H
     replace H := dz H; obtain ⟨auI, A19, H⟩ := H
     replace H := Cm H; rcases H with ⟨rfl, H⟩ | ⟨rfl, H⟩
     · have H' := aa.mk H
       clear H
       have Ul : 0 <= (ql : Int) := OD
       have Um : ql < (l1.length : Int) := OD
       obtain ⟨auK, aoy, AR⟩ := Kd.dx HR1.1 ql Ul Um
       cases aoy
       replace AR := (HB.1.cell (World.block_lt_of_cell? w _ AR)).trans AR
       replace Ul := eq_true Ul
       replace Um := eq_true Um
       try go_wp2
       refine E4 (aQ HO_6.1) (iV HO_7.1) (ag dL.1) (dm HB.1) ?_
       clear HO_6 HO_7 dL HB
       intro HO_6 HO_7 dL HB
       obtain ⟨aux, YL, afE⟩ := bv HO_6.1
       (first | subst afE | (injection afE with rY zZ rZ; have z8 := rY.symm; have Aa := rZ.symm; clear rY zZ rZ; subst z8; subst Aa))
       have Un : 0 <= (d9 : Int) := OD
       have Uo : d9 < (iT.length : Int) := OD
       obtain ⟨yf, aoz, F7⟩ := Kd.dx (ay HO_6.1).2.2 d9 Un Uo
       cases aoz
       replace Un := eq_true Un
       replace Uo := eq_true Uo
       refine jN (n := 13) (S := fun w' => w'.cell? ⟨nK, 0, none⟩ = some (.int .i64 ah) /\ w'.cell? ⟨nK, 1, none⟩ = some (.int .i64 af) /\ w'.cell? ⟨nK, 2, none⟩ = some (.slice aK ae.length aJ) /\ w'.cell? (yf.add (d9).toNat) = some (.int .i64 (rd iT d9))) (ds := []) #[Zz,Zz,Zz,Zz,Zz,Zz,Zz,Zz,Zz,Zz,Zz,Zz,Zz] (by kernel_rfl) rfl rfl ⟨(ai dL.1 0).trans rfl, (ai dL.1 1).trans rfl, (ai dL.1 2).trans rfl, F7⟩ (fun hHeld => ?_); refine iq bA.afG bA.bits8 (fun HT_ HW_ => ?_)
       generalize wr.drew = Qo at HO_6 HO_7 dL HB F7 hHeld ⊢
       refine aU 1 (N := some 31) HT_.1 ?_
       refine aU 2 (N := some 32) HT_.1 ?_
       refine aU 3 (N := some 33) HT_.1 ?_
       refine aU 5 (N := some 35) HT_.1 ?_
       refine gF 0 (N := some 30) HT_.1 HW_.1 hHeld ?_
       refine gF 4 (N := some 34) HT_.1 HW_.1 hHeld ?_
       refine yS (σ := Nat) 2 #[Yy,Yy,Yy,Yy,Yy,Yy,Yy,Yy,Yy,Yy,Yy,Zz,Zz] (fun s_ => [(36, .tuple #[.int .i64 Cc, .agg #[.int .i64 Lb, .int .i64 Lc, .int .i64 Ld]]), (12, .pointer (some ⟨s_, 0, none⟩)), (29, .tuple #[.int .i64 Cc, .agg #[.int .i64 Lb, .int .i64 Lc, .int .i64 Ld]]), (37, .int .i64 Cc), (38, .agg #[.int .i64 Lb, .int .i64 Lc, .int .i64 Ld])]) (fun s_ w' => (w'.cell? ⟨nK, 0, none⟩ = some (.int .i64 ah) /\ w'.cell? ⟨nK, 1, none⟩ = some (.int .i64 af) /\ w'.cell? ⟨nK, 2, none⟩ = some (.slice aK ae.length aJ) /\ w'.cell? (yf.add (d9).toNat) = some (.int .i64 (rd iT d9))) /\ (Kd.R (Kd.int .i64) 3 w' w.heap.size (fun _ => True) (.slice (some yf) iT.length YL) iT) /\ (Kd.S (Kd.slice 3 (Kd.int .i64)) 38 w' w.heap.size (fun k_ => some k_ ≠ (.slice (some yf) iT.length YL : Value).ownBlock) u7 lF) /\ (w'.heap[nK]? = some (.cells #[.int .i64 ah, .int .i64 af, .slice aK ae.length aJ] 30 (0, 0))) /\ (w'.heap[s_]? = some (.cells #[.int .i64 0, .int .i64 0, .int .i64 0] 54 (0, 0))) /\ (w.heap.size <= s_) /\ (w.heap.size <= s_) /\ (nK ≠ s_) /\ (s_ ≠ nK) /\ (Below w.heap.size w w')) ?_ ?_
       rotate_left
       · intro hCont
         refine Tn (i := 6) (j := 10) (Ni := some 36) (Nj := some 12) #[Yy,Yy,Yy,Yy,Yy,Yy,Yy,Zz,Zz,Zz,Zz,Zz,Zz] #[Yy,Yy,Yy,Yy,Yy,Yy,Zz,Zz,Zz,Zz,Yy,Zz,Zz] rfl rfl rfl rfl (Ey HT_.1 (by kernel_rfl)) (by decide) (by decide) (fun K hK => ?_) (fun K hK => ?_)
         · skip
           refine nA Try.func43 (by kernel_rfl) rfl #[.agg #[.int .i64 ah, .int .i64 af, .slice aK ae.length aJ], .int .i64 (rd iT d9), .int .i64 (rd l1 ql)] (by rfl) rfl rfl (by (try simp only [List.map_toArray, List.map_cons, List.map_nil]); first | done | rfl | (simp only [List.length_drop, List.length_take]; rfl)) ?_
           with_reducible refine (iE.calls k2 ah af _ _ ae (rd iT d9) (rd l1 ql) Cc Lb Lc Ld _ ?side1 ?side2 A18.1).mono ?_
           (case side1 => exact CB (aY bD.1 HB.1))
           (case side2 => exact cO.1)
           rintro e w23 ⟨rfl, hb⟩
           have xF := (hb.cell (World.block_lt_of_cell? _ _ (hHeld.2.2.2))).trans (hHeld.2.2.2)
           refine ⟨_, rfl, ?_⟩
           refine E4 (rB HO_6.1 hb) (sB HO_7.1 hb) (bB dL.1 hb) (bS HB.1 hb) ?_
           clear HO_6 HO_7 dL HB
           intro HO_6 HO_7 dL HB
           (try clear hb)
           (try clear hb2)
           (try clear hk)
           (try clear hi)
           refine hK.out _ _ ⟨(ai dL.1 0).trans rfl, (ai dL.1 1).trans rfl, (ai dL.1 2).trans rfl, xF⟩ (fun hHeld => ?_)
           clear hK K
           refine eX (a' := ?_) ?_ ?_
           rotate_left
           · show Act.put _ (some 36) _ = _
             simp only [Act.put, List.setIfInBounds_toArray, List.set_cons_zero, List.set_cons_succ, cz, dF]
             rfl
           refine aU 7 (N := some 29) HT_.1 ?_
           refine aU 8 (N := some 37) HT_.1 ?_
           refine aU 9 (N := some 38) HT_.1 ?_
           refine mV (i := 10) (N := some 12) #[Yy,Yy,Yy,Yy,Yy,Yy,Yy,Yy,Yy,Yy,Yy,Zz,Zz] rfl rfl (jc HT_.1 (by kernel_rfl)) (by decide) (fun K hK => ?_)
           refine ma ?hg (N := 12) ?hd (cs := #[.int .i64 0, .int .i64 0, .int .i64 0]) (t := 54) ?hr ?_; (case hd => rfl); (case hg => rfl); (case hr => first | (go_simp; done) | (go_simp; rfl))
           intro lS hg Mi hbox hb
           have xF := (hb.cell (World.block_lt_of_cell? _ _ (hHeld.2.2.2))).trans (hHeld.2.2.2)
           refine E9 (rB HO_6.1 hb) (sB HO_7.1 hb) (bB dL.1 hb) (bS HB.1 hb) (hbox) (gX HB.1 hg) (gX HB.1 hg) (nB dL.1 hg) (nC dL.1 hg) ?_
           clear HO_6 HO_7 dL HB
           intro HO_6 HO_7 dL HB iF F8 F9 jy nL
           clear hb hbox hg
           refine hK.out _ _ ⟨(ai dL.1 0).trans rfl, (ai dL.1 1).trans rfl, (ai dL.1 2).trans rfl, xF⟩ (fun hHeld => ?_)
           clear hK K
           refine eX (a' := ?_) ?_ ?_
           rotate_left
           · show Act.put _ (some 12) _ = _
             simp only [Act.put, List.setIfInBounds_toArray, List.set_cons_zero, List.set_cons_succ, cz, dF]
             rfl
           exact eX NA (hCont (lS) _ ⟨hHeld, (PR HO_6.1), (PS HO_7.1), (PB dL.1), (PB iF.1), F8.1, F9.1, jy.1, nL.1, (BL HB.1)⟩)
         skip
         refine ma ?hg (N := 12) ?hd (cs := #[.int .i64 0, .int .i64 0, .int .i64 0]) (t := 54) ?hr ?_; (case hd => rfl); (case hg => rfl); (case hr => first | (go_simp; done) | (go_simp; rfl))
         intro lS hg w23 hbox hb
         have xF := (hb.cell (World.block_lt_of_cell? _ _ (hHeld.2.2.2))).trans (hHeld.2.2.2)
         refine E9 (rB HO_6.1 hb) (sB HO_7.1 hb) (bB dL.1 hb) (bS HB.1 hb) (hbox) (gX HB.1 hg) (gX HB.1 hg) (nB dL.1 hg) (nC dL.1 hg) ?_
         clear HO_6 HO_7 dL HB
         intro HO_6 HO_7 dL HB iF F8 F9 jy nL
         clear hb hbox hg
         refine hK.out _ _ ⟨(ai dL.1 0).trans rfl, (ai dL.1 1).trans rfl, (ai dL.1 2).trans rfl, xF⟩ (fun hHeld => ?_)
         clear hK K
         refine eX (a' := ?_) ?_ ?_
         rotate_left
         · show Act.put _ (some 12) _ = _
           simp only [Act.put, List.setIfInBounds_toArray, List.set_cons_zero, List.set_cons_succ, cz, dF]
           rfl
         refine mV (i := 6) (N := some 36) #[Yy,Yy,Yy,Yy,Yy,Yy,Yy,Zz,Zz,Zz,Yy,Zz,Zz] rfl rfl (jc HT_.1 (by kernel_rfl)) (by decide) (fun K hK => ?_)
         refine nA Try.func43 (by kernel_rfl) rfl #[.agg #[.int .i64 ah, .int .i64 af, .slice aK ae.length aJ], .int .i64 (rd iT d9), .int .i64 (rd l1 ql)] (by rfl) rfl rfl (by (try simp only [List.map_toArray, List.map_cons, List.map_nil]); first | done | rfl | (simp only [List.length_drop, List.length_take]; rfl)) ?_
         with_reducible refine (iE.calls k2 ah af _ _ ae (rd iT d9) (rd l1 ql) Cc Lb Lc Ld _ ?side1 ?side2 A18.1).mono ?_
         (case side1 => exact CB (aY bD.1 HB.1))
         (case side2 => exact cO.1)
         rintro e Mi ⟨rfl, hb⟩
         have xF := (hb.cell (World.block_lt_of_cell? _ _ (hHeld.2.2.2))).trans (hHeld.2.2.2)
         refine ⟨_, rfl, ?_⟩
         refine E5 (rB HO_6.1 hb) (sB HO_7.1 hb) (bB dL.1 hb) (bB iF.1 hb) (bS HB.1 hb) ?_
         clear HO_6 HO_7 dL iF HB
         intro HO_6 HO_7 dL iF HB
         (try clear hb)
         (try clear hb2)
         (try clear hk)
         (try clear hi)
         refine hK.out _ _ ⟨(ai dL.1 0).trans rfl, (ai dL.1 1).trans rfl, (ai dL.1 2).trans rfl, xF⟩ (fun hHeld => ?_)
         clear hK K
         refine eX (a' := ?_) ?_ ?_
         rotate_left
         · show Act.put _ (some 36) _ = _
           simp only [Act.put, List.setIfInBounds_toArray, List.set_cons_zero, List.set_cons_succ, cz, dF]
           rfl
         refine aU 7 (N := some 29) HT_.1 ?_
         refine aU 8 (N := some 37) HT_.1 ?_
         refine aU 9 (N := some 38) HT_.1 ?_
         exact eX NA (hCont (lS) _ ⟨hHeld, (PR HO_6.1), (PS HO_7.1), (PB dL.1), (PB iF.1), F8.1, F9.1, jy.1, nL.1, (BL HB.1)⟩)
       rintro lS Mk ⟨hS_, qG, qH, qi, qI, qJ, tX, xk, zk, Ce⟩
       refine E9 qG qH qi qI qJ tX xk zk Ce ?_
       clear HO_6 HO_7 dL HB qG qH qi qI qJ tX xk zk Ce
       intro HO_6 HO_7 dL iF F8 F9 jy nL HB
       have hHeld : Mk.cell? ⟨nK, 0, none⟩ = some (.int .i64 ah) /\ Mk.cell? ⟨nK, 1, none⟩ = some (.int .i64 af) /\ Mk.cell? ⟨nK, 2, none⟩ = some (.slice aK ae.length aJ) /\ Mk.cell? (yf.add (d9).toNat) = some (.int .i64 (rd iT d9)) := hS_
       refine eX (a' := ?_) ?_ ?_
       rotate_left
       · simp only [oQ, Act.put, List.setIfInBounds_toArray, List.set_cons_zero, List.set_cons_succ]
         rfl
       refine aU 11 (N := some 11) HT_.1 ?_
       refine mV (i := 12) (N := none) #[Yy,Yy,Yy,Yy,Yy,Yy,Yy,Yy,Yy,Yy,Yy,Yy,Yy] rfl rfl (jc HT_.1 (by kernel_rfl)) (by decide) (fun K hK => ?_)
       obtain ⟨aFr, auB, auC, auL, ajK, ajL⟩ := gB iF.1
       have azW := jy.1
       have azX := nL.1
       refine pF (w1 := ?_) (by rfl) rfl ?_ ?_
       rotate_left
       · go_simp
         rfl
       refine hK.out _ _ ⟨(rP jy.1 hHeld.1), (rP jy.1 hHeld.2.1), (rP jy.1 hHeld.2.2.1), ((cell_far (p := ⟨lS, _, none⟩) (by first | exact Kd.iY (dK HO_6.1 iF.1 (by decide)) | (rw [add_block]; exact Kd.iY (dK HO_6.1 iF.1 (by decide))) | (show (Addr.add _ _).block ≠ _; rw [add_block]; exact Kd.iY (dK HO_6.1 iF.1 (by decide))) | (dsimp only; exact Kd.iY (dK HO_6.1 iF.1 (by decide)))) _).trans (((cell_far (p := ⟨lS, _, none⟩) (by first | exact Kd.iY (dK HO_6.1 iF.1 (by decide)) | (rw [add_block]; exact Kd.iY (dK HO_6.1 iF.1 (by decide))) | (show (Addr.add _ _).block ≠ _; rw [add_block]; exact Kd.iY (dK HO_6.1 iF.1 (by decide))) | (dsimp only; exact Kd.iY (dK HO_6.1 iF.1 (by decide)))) _).trans (((cell_far (p := ⟨lS, _, none⟩) (by first | exact Kd.iY (dK HO_6.1 iF.1 (by decide)) | (rw [add_block]; exact Kd.iY (dK HO_6.1 iF.1 (by decide))) | (show (Addr.add _ _).block ≠ _; rw [add_block]; exact Kd.iY (dK HO_6.1 iF.1 (by decide))) | (dsimp only; exact Kd.iY (dK HO_6.1 iF.1 (by decide)))) _).trans (hHeld.2.2.2))))))⟩ (fun hHeld => ?_)
       clear hK K
       refine lI (jS HT_.1 (by kernel_rfl)) ?_
       try go_wp2_with (first | ((with_reducible refine aA (f := 62) rfl ?_); refine cK (N := (some 41)) #[.slice (some yf) iT.length YL, .int .i64 Cc] Try.func62 ?_; (with_reducible refine (fF.calls k2 _ _ iT Cc true _ ?side1 ?side2 A19.1).mono ?_); (case side1 => refine (ay (e := 3) (base := w.heap.size) (ok := fun k_ => True) (n := iT.length) (c := YL) ?_).2.2; exact (by (with_reducible repeat (first | apply aV | apply aW | apply aQ)); exact (aG (RQ lS 2 (RQ lS 1 (RQ lS 0 (bz HO_6.1 iF.1 (by decide)) _) _) _) (fun _ h_ => h_.1)))); (case side2 => exact (ay HO_6.1).2.1); rintro e w' ⟨rfl, ⟨nd, rfl⟩⟩; refine ⟨_, rfl, ?_⟩))
       go_roundg k2
       case measure => have := iB.1; have := nG.1; omega
       case rel => exact ⟨(iT), (lF), (wrap64 (ql + 1)), RG, H', ⟨by have := iB.1; have := nG.1; omega⟩, ⟨by (with_reducible repeat (first | apply aV | apply aW | apply aQ)); exact aG (RQ lS 2 (RQ lS 1 (RQ lS 0 (bz HO_6.1 iF.1 (by decide)) _) _) _) (fun _ hk => trivial)⟩, ⟨by (with_reducible repeat (first | apply jF | apply jG | apply iV)); exact eY (SQ lS 2 (SQ lS 1 (SQ lS 0 (kG HO_7.1 iF.1 (by decide)) _) _) _) (fun _ hk => hk.1)⟩, ⟨by (with_reducible repeat (first | refine ak ?_ _ | refine ag ?_ | refine au ?_ _)); refine bu ?_ jy.1 _; (with_reducible repeat (first | refine ak ?_ _ | refine ag ?_ | refine au ?_ _)); refine bu ?_ jy.1 _; (with_reducible repeat (first | refine ak ?_ _ | refine ag ?_ | refine au ?_ _)); refine bu ?_ jy.1 _; (with_reducible repeat (first | refine ak ?_ _ | refine ag ?_ | refine au ?_ _)); exact dL.1⟩, ⟨BL HB.1⟩⟩
     replace H := oC H; obtain ⟨c29, H⟩ := H
     have Ri := aa.mk c29
     clear c29
     generalize ajV : ((iT ++ [Cc]) : List Int) = aFs at H
     have auM := aa.mk ajV.symm; clear ajV
     replace H := ji H; obtain ⟨c30b0, H⟩ := H
     replace H := dz H; obtain ⟨YS, A31, H⟩ := H
     replace H := oC H; obtain ⟨c32, H⟩ := H
     have auN := aa.mk c32
     clear c32
     generalize ajW : ((YS ++ [rd l1 ql]) : List Int) = abI at H
     have auO := aa.mk ajW.symm; clear ajW
     replace H := oC H; obtain ⟨c33, H⟩ := H
     have auP := aa.mk c33
     clear c33
     generalize ajX : ((lF ++ [abI]) : List (List Int)) = aFt at H
     have auQ := aa.mk ajX.symm; clear ajX
     have H' := aa.mk H
     clear H
     have Ul : 0 <= (ql : Int) := OD
     have Um : ql < (l1.length : Int) := OD
     obtain ⟨auK, aoy, AR⟩ := Kd.dx HR1.1 ql Ul Um
     cases aoy
     replace AR := (HB.1.cell (World.block_lt_of_cell? w _ AR)).trans AR
     replace Ul := eq_true Ul
     replace Um := eq_true Um
     try go_wp2
     refine E4 (aQ HO_6.1) (iV HO_7.1) (ag dL.1) (dm HB.1) ?_
     clear HO_6 HO_7 dL HB
     intro HO_6 HO_7 dL HB
     obtain ⟨Q9, ED, Mv⟩ := bv HO_6.1
     (first | subst Mv | (injection Mv with rY zZ rZ; have z8 := rY.symm; have Aa := rZ.symm; clear rY zZ rZ; subst z8; subst Aa))
     have Un : 0 <= (d9 : Int) := OD
     have Uo : d9 < (iT.length : Int) := OD
     obtain ⟨yf, aoz, F7⟩ := Kd.dx (ay HO_6.1).2.2 d9 Un Uo
     cases aoz
     replace Un := eq_true Un
     replace Uo := eq_true Uo
     refine jN (n := 13) (S := fun w' => w'.cell? ⟨nK, 0, none⟩ = some (.int .i64 ah) /\ w'.cell? ⟨nK, 1, none⟩ = some (.int .i64 af) /\ w'.cell? ⟨nK, 2, none⟩ = some (.slice aK ae.length aJ) /\ w'.cell? (yf.add (d9).toNat) = some (.int .i64 (rd iT d9))) (ds := []) #[Zz,Zz,Zz,Zz,Zz,Zz,Zz,Zz,Zz,Zz,Zz,Zz,Zz] (by kernel_rfl) rfl rfl ⟨(ai dL.1 0).trans rfl, (ai dL.1 1).trans rfl, (ai dL.1 2).trans rfl, F7⟩ (fun hHeld => ?_); refine iq bA.afG bA.bits8 (fun HT_ HW_ => ?_)
     generalize wr.drew = w34 at HO_6 HO_7 dL HB F7 hHeld ⊢
     refine aU 1 (N := some 31) HT_.1 ?_
     refine aU 2 (N := some 32) HT_.1 ?_
     refine aU 3 (N := some 33) HT_.1 ?_
     refine aU 5 (N := some 35) HT_.1 ?_
     refine gF 0 (N := some 30) HT_.1 HW_.1 hHeld ?_
     refine gF 4 (N := some 34) HT_.1 HW_.1 hHeld ?_
     refine yS (σ := Nat) 2 #[Yy,Yy,Yy,Yy,Yy,Yy,Yy,Yy,Yy,Yy,Yy,Zz,Zz] (fun s_ => [(36, .tuple #[.int .i64 Cc, .agg #[.int .i64 Lb, .int .i64 Lc, .int .i64 Ld]]), (12, .pointer (some ⟨s_, 0, none⟩)), (29, .tuple #[.int .i64 Cc, .agg #[.int .i64 Lb, .int .i64 Lc, .int .i64 Ld]]), (37, .int .i64 Cc), (38, .agg #[.int .i64 Lb, .int .i64 Lc, .int .i64 Ld])]) (fun s_ w' => (w'.cell? ⟨nK, 0, none⟩ = some (.int .i64 ah) /\ w'.cell? ⟨nK, 1, none⟩ = some (.int .i64 af) /\ w'.cell? ⟨nK, 2, none⟩ = some (.slice aK ae.length aJ) /\ w'.cell? (yf.add (d9).toNat) = some (.int .i64 (rd iT d9))) /\ (Kd.R (Kd.int .i64) 3 w' w.heap.size (fun _ => True) (.slice (some yf) iT.length ED) iT) /\ (Kd.S (Kd.slice 3 (Kd.int .i64)) 38 w' w.heap.size (fun k_ => some k_ ≠ (.slice (some yf) iT.length ED : Value).ownBlock) u7 lF) /\ (w'.heap[nK]? = some (.cells #[.int .i64 ah, .int .i64 af, .slice aK ae.length aJ] 30 (0, 0))) /\ (w'.heap[s_]? = some (.cells #[.int .i64 0, .int .i64 0, .int .i64 0] 54 (0, 0))) /\ (w.heap.size <= s_) /\ (w.heap.size <= s_) /\ (nK ≠ s_) /\ (s_ ≠ nK) /\ (Below w.heap.size w w')) ?_ ?_
     rotate_left
     · intro hCont
       refine Tn (i := 6) (j := 10) (Ni := some 36) (Nj := some 12) #[Yy,Yy,Yy,Yy,Yy,Yy,Yy,Zz,Zz,Zz,Zz,Zz,Zz] #[Yy,Yy,Yy,Yy,Yy,Yy,Zz,Zz,Zz,Zz,Yy,Zz,Zz] rfl rfl rfl rfl (Ey HT_.1 (by kernel_rfl)) (by decide) (by decide) (fun K hK => ?_) (fun K hK => ?_)
       · skip
         refine nA Try.func43 (by kernel_rfl) rfl #[.agg #[.int .i64 ah, .int .i64 af, .slice aK ae.length aJ], .int .i64 (rd iT d9), .int .i64 (rd l1 ql)] (by rfl) rfl rfl (by (try simp only [List.map_toArray, List.map_cons, List.map_nil]); first | done | rfl | (simp only [List.length_drop, List.length_take]; rfl)) ?_
         with_reducible refine (iE.calls k2 ah af _ _ ae (rd iT d9) (rd l1 ql) Cc Lb Lc Ld _ ?side1 ?side2 A18.1).mono ?_
         (case side1 => exact CB (aY bD.1 HB.1))
         (case side2 => exact cO.1)
         rintro e w36 ⟨rfl, hb⟩
         have xF := (hb.cell (World.block_lt_of_cell? _ _ (hHeld.2.2.2))).trans (hHeld.2.2.2)
         refine ⟨_, rfl, ?_⟩
         refine E4 (rB HO_6.1 hb) (sB HO_7.1 hb) (bB dL.1 hb) (bS HB.1 hb) ?_
         clear HO_6 HO_7 dL HB
         intro HO_6 HO_7 dL HB
         (try clear hb)
         (try clear hb2)
         (try clear hk)
         (try clear hi)
         refine hK.out _ _ ⟨(ai dL.1 0).trans rfl, (ai dL.1 1).trans rfl, (ai dL.1 2).trans rfl, xF⟩ (fun hHeld => ?_)
         clear hK K
         refine eX (a' := ?_) ?_ ?_
         rotate_left
         · show Act.put _ (some 36) _ = _
           simp only [Act.put, List.setIfInBounds_toArray, List.set_cons_zero, List.set_cons_succ, cz, dF]
           rfl
         refine aU 7 (N := some 29) HT_.1 ?_
         refine aU 8 (N := some 37) HT_.1 ?_
         refine aU 9 (N := some 38) HT_.1 ?_
         refine mV (i := 10) (N := some 12) #[Yy,Yy,Yy,Yy,Yy,Yy,Yy,Yy,Yy,Yy,Yy,Zz,Zz] rfl rfl (jc HT_.1 (by kernel_rfl)) (by decide) (fun K hK => ?_)
         refine ma ?hg (N := 12) ?hd (cs := #[.int .i64 0, .int .i64 0, .int .i64 0]) (t := 54) ?hr ?_; (case hd => rfl); (case hg => rfl); (case hr => first | (go_simp; done) | (go_simp; rfl))
         intro lS hg Mw hbox hb
         have xF := (hb.cell (World.block_lt_of_cell? _ _ (hHeld.2.2.2))).trans (hHeld.2.2.2)
         refine E9 (rB HO_6.1 hb) (sB HO_7.1 hb) (bB dL.1 hb) (bS HB.1 hb) (hbox) (gX HB.1 hg) (gX HB.1 hg) (nB dL.1 hg) (nC dL.1 hg) ?_
         clear HO_6 HO_7 dL HB
         intro HO_6 HO_7 dL HB iF F8 F9 jy nL
         clear hb hbox hg
         refine hK.out _ _ ⟨(ai dL.1 0).trans rfl, (ai dL.1 1).trans rfl, (ai dL.1 2).trans rfl, xF⟩ (fun hHeld => ?_)
         clear hK K
         refine eX (a' := ?_) ?_ ?_
         rotate_left
         · show Act.put _ (some 12) _ = _
           simp only [Act.put, List.setIfInBounds_toArray, List.set_cons_zero, List.set_cons_succ, cz, dF]
           rfl
         exact eX NA (hCont (lS) _ ⟨hHeld, (PR HO_6.1), (PS HO_7.1), (PB dL.1), (PB iF.1), F8.1, F9.1, jy.1, nL.1, (BL HB.1)⟩)
       skip
       refine ma ?hg (N := 12) ?hd (cs := #[.int .i64 0, .int .i64 0, .int .i64 0]) (t := 54) ?hr ?_; (case hd => rfl); (case hg => rfl); (case hr => first | (go_simp; done) | (go_simp; rfl))
       intro lS hg w36 hbox hb
       have xF := (hb.cell (World.block_lt_of_cell? _ _ (hHeld.2.2.2))).trans (hHeld.2.2.2)
       refine E9 (rB HO_6.1 hb) (sB HO_7.1 hb) (bB dL.1 hb) (bS HB.1 hb) (hbox) (gX HB.1 hg) (gX HB.1 hg) (nB dL.1 hg) (nC dL.1 hg) ?_
       clear HO_6 HO_7 dL HB
       intro HO_6 HO_7 dL HB iF F8 F9 jy nL
       clear hb hbox hg
       refine hK.out _ _ ⟨(ai dL.1 0).trans rfl, (ai dL.1 1).trans rfl, (ai dL.1 2).trans rfl, xF⟩ (fun hHeld => ?_)
       clear hK K
       refine eX (a' := ?_) ?_ ?_
       rotate_left
       · show Act.put _ (some 12) _ = _
         simp only [Act.put, List.setIfInBounds_toArray, List.set_cons_zero, List.set_cons_succ, cz, dF]
         rfl
       refine mV (i := 6) (N := some 36) #[Yy,Yy,Yy,Yy,Yy,Yy,Yy,Zz,Zz,Zz,Yy,Zz,Zz] rfl rfl (jc HT_.1 (by kernel_rfl)) (by decide) (fun K hK => ?_)
       refine nA Try.func43 (by kernel_rfl) rfl #[.agg #[.int .i64 ah, .int .i64 af, .slice aK ae.length aJ], .int .i64 (rd iT d9), .int .i64 (rd l1 ql)] (by rfl) rfl rfl (by (try simp only [List.map_toArray, List.map_cons, List.map_nil]); first | done | rfl | (simp only [List.length_drop, List.length_take]; rfl)) ?_
       with_reducible refine (iE.calls k2 ah af _ _ ae (rd iT d9) (rd l1 ql) Cc Lb Lc Ld _ ?side1 ?side2 A18.1).mono ?_
       (case side1 => exact CB (aY bD.1 HB.1))
       (case side2 => exact cO.1)
       rintro e Mw ⟨rfl, hb⟩
       have xF := (hb.cell (World.block_lt_of_cell? _ _ (hHeld.2.2.2))).trans (hHeld.2.2.2)
       refine ⟨_, rfl, ?_⟩
       refine E5 (rB HO_6.1 hb) (sB HO_7.1 hb) (bB dL.1 hb) (bB iF.1 hb) (bS HB.1 hb) ?_
       clear HO_6 HO_7 dL iF HB
       intro HO_6 HO_7 dL iF HB
       (try clear hb)
       (try clear hb2)
       (try clear hk)
       (try clear hi)
       refine hK.out _ _ ⟨(ai dL.1 0).trans rfl, (ai dL.1 1).trans rfl, (ai dL.1 2).trans rfl, xF⟩ (fun hHeld => ?_)
       clear hK K
       refine eX (a' := ?_) ?_ ?_
       rotate_left
       · show Act.put _ (some 36) _ = _
         simp only [Act.put, List.setIfInBounds_toArray, List.set_cons_zero, List.set_cons_succ, cz, dF]
         rfl
       refine aU 7 (N := some 29) HT_.1 ?_
       refine aU 8 (N := some 37) HT_.1 ?_
       refine aU 9 (N := some 38) HT_.1 ?_
       exact eX NA (hCont (lS) _ ⟨hHeld, (PR HO_6.1), (PS HO_7.1), (PB dL.1), (PB iF.1), F8.1, F9.1, jy.1, nL.1, (BL HB.1)⟩)
     rintro lS Nc ⟨hS_, qG, qH, qi, qI, qJ, tX, xk, zk, Ce⟩
     refine E9 qG qH qi qI qJ tX xk zk Ce ?_
     clear HO_6 HO_7 dL HB qG qH qi qI qJ tX xk zk Ce
     intro HO_6 HO_7 dL iF F8 F9 jy nL HB
     have hHeld : Nc.cell? ⟨nK, 0, none⟩ = some (.int .i64 ah) /\ Nc.cell? ⟨nK, 1, none⟩ = some (.int .i64 af) /\ Nc.cell? ⟨nK, 2, none⟩ = some (.slice aK ae.length aJ) /\ Nc.cell? (yf.add (d9).toNat) = some (.int .i64 (rd iT d9)) := hS_
     refine eX (a' := ?_) ?_ ?_
     rotate_left
     · simp only [oQ, Act.put, List.setIfInBounds_toArray, List.set_cons_zero, List.set_cons_succ]
       rfl
     refine aU 11 (N := some 11) HT_.1 ?_
     refine mV (i := 12) (N := none) #[Yy,Yy,Yy,Yy,Yy,Yy,Yy,Yy,Yy,Yy,Yy,Yy,Yy] rfl rfl (jc HT_.1 (by kernel_rfl)) (by decide) (fun K hK => ?_)
     obtain ⟨aOW, aOX, aOY, aKl, aKm, aKn⟩ := gB iF.1
     have azZ := jy.1
     have az0 := nL.1
     refine pF (w1 := ?_) (by rfl) rfl ?_ ?_
     rotate_left
     · go_simp
       rfl
     refine hK.out _ _ ⟨(rP jy.1 hHeld.1), (rP jy.1 hHeld.2.1), (rP jy.1 hHeld.2.2.1), ((cell_far (p := ⟨lS, _, none⟩) (by first | exact Kd.iY (dK HO_6.1 iF.1 (by decide)) | (rw [add_block]; exact Kd.iY (dK HO_6.1 iF.1 (by decide))) | (show (Addr.add _ _).block ≠ _; rw [add_block]; exact Kd.iY (dK HO_6.1 iF.1 (by decide))) | (dsimp only; exact Kd.iY (dK HO_6.1 iF.1 (by decide)))) _).trans (((cell_far (p := ⟨lS, _, none⟩) (by first | exact Kd.iY (dK HO_6.1 iF.1 (by decide)) | (rw [add_block]; exact Kd.iY (dK HO_6.1 iF.1 (by decide))) | (show (Addr.add _ _).block ≠ _; rw [add_block]; exact Kd.iY (dK HO_6.1 iF.1 (by decide))) | (dsimp only; exact Kd.iY (dK HO_6.1 iF.1 (by decide)))) _).trans (((cell_far (p := ⟨lS, _, none⟩) (by first | exact Kd.iY (dK HO_6.1 iF.1 (by decide)) | (rw [add_block]; exact Kd.iY (dK HO_6.1 iF.1 (by decide))) | (show (Addr.add _ _).block ≠ _; rw [add_block]; exact Kd.iY (dK HO_6.1 iF.1 (by decide))) | (dsimp only; exact Kd.iY (dK HO_6.1 iF.1 (by decide)))) _).trans (hHeld.2.2.2))))))⟩ (fun hHeld => ?_)
     clear hK K
     refine lI (jS HT_.1 (by kernel_rfl)) ?_
     try go_wp2_with (first | ((with_reducible refine aA (f := 62) rfl ?_); refine cK (N := (some 41)) #[.slice (some yf) iT.length ED, .int .i64 Cc] Try.func62 ?_; (with_reducible refine (fF.calls k2 _ _ iT Cc false _ ?side1 ?side2 A19.1).mono ?_); (case side1 => refine (ay (e := 3) (base := w.heap.size) (ok := fun k_ => True) (n := iT.length) (c := ED) ?_).2.2; exact (by (with_reducible repeat (first | apply aV | apply aW | apply aQ)); exact (aG (RQ lS 2 (RQ lS 1 (RQ lS 0 (bz HO_6.1 iF.1 (by decide)) _) _) _) (fun _ h_ => h_.1)))); (case side2 => exact (ay HO_6.1).2.1); rintro e w' ⟨rfl, ⟨nd, rfl⟩⟩; refine ⟨_, rfl, ?_⟩) | ((with_reducible refine bf (b := .append) (xs := #[.tmp 43, .tmp 45]) rfl ?_); at_builtin; refine ek (Kd.int .i64) (w0 := w) w.heap.size rfl (.tmp 43) (.tmp 45) 38 3 (.int .i64 0) 8 rfl Try.underlying38 info3 rfl (by decide) (by omega) (.slice (some yf) iT.length ED) iT Cc [.int .i64 Cc] (fun _ => True) (fun _ => False) rfl (by first | (go_simp; done) | (go_simp; rfl)) ?aP (fun _ hk => hk.elim) ?aF ?aO ?aB ?aS ?aL ?_; (case aP => exact rfl); (case aB => exact (BL HB.1)); (case aF => exact (fun _ _ => trivial)); (case aO => exact (by (with_reducible repeat (first | apply aV | apply aW | apply aQ)); exact aG (RQ lS 2 (RQ lS 1 (RQ lS 0 (bz HO_6.1 iF.1 (by decide)) _) _) _) (fun _ hk => trivial))); (case aS => exact (bZ HB.1)); (case aL => have := Ri.1; omega); intro Uq w42 ho hb hg hat; rw [<- auM.1] at ho; refine E5 (CK (ok := (fun _ => True)) (by (with_reducible repeat (first | apply jF | apply jG | apply iV)); exact eY (SQ lS 2 (SQ lS 1 (SQ lS 0 (kG HO_7.1 iF.1 (by decide)) _) _) _) (fun _ hk => ⟨trivial, hk.1⟩)) hg hat) (yQ (g := nK) (o := .cells #[.int .i64 ah, .int .i64 af, .slice aK ae.length aJ] 30 (0, 0)) (xB jy.1 dL.1) hg (dK HO_6.1 dL.1 (by decide))) (yQ (g := lS) (o := .cells #[.int .i64 Lb, .int .i64 Lc, .int .i64 Ld] 54 (0, 0)) (BB iF.1) hg (dK HO_6.1 iF.1 (by decide))) (hb) (ho) ?_; clear HO_7 dL iF HB HO_6; intro HO_7 dL iF HB zl; clear ho hb hg hat; obtain ⟨aEC, Yu, Yv⟩ := mq HO_7.1; subst Yv; have afH : 0 <= (d9 : Int) := OD; have afI : d9 < (lF.length : Int) := OD; obtain ⟨WE, abJ, abK, aFu, afJ, WF, WG⟩ := tT (fJ HO_7.1).2.2 d9 afH afI; cases aFu; obtain ⟨aKo, aoA, aoB, abL⟩ := BF HO_7.1 [] d9 afH (by first | exact afI | exact OD | (have e_ := (fJ HO_7.1).1; omega)); obtain ⟨az2, rfl, OY⟩ := aoB; have Gf := abL 0 _ rfl; rw [Nat.add_zero, show ((Kd.slice 3 (Kd.int .i64))).sz = 1 from rfl, Nat.mul_one] at Gf; replace Gf := Option.some.inj (Gf.symm.trans afJ); rw [Gf] at OY; have sS := aa.mk (show Kd.R (Kd.int .i64) 3 _ _ _ _ (aT lF d9) from OY); clear Gf OY; clear abL aoA; have Di := aa.mk WG; have afK := aa.mk WF; clear WG WF; replace afH := eq_true afH; replace afI := eq_true afI) | ((with_reducible refine aA (f := 59) rfl ?_); refine cK (N := (some 52)) #[.slice abJ (aT lF d9).length abK] Try.func59 ?_; (with_reducible refine (uk.calls _ _ (aT lF d9) YS _ ?side1 ?side2 A31.1).mono ?_); (case side1 => repeat (first | exact (by repeat (first | (with_reducible exact Di.1) | (with_reducible refine kg ?_ _) | (with_reducible refine ko ?_ _) | (with_reducible refine kH ?_) | exact Di.1)) | (with_reducible refine kg ?_ _) | (with_reducible refine ko ?_ _) | (with_reducible refine kH ?_))); (case side2 => exact afK.1); rintro e w44 ⟨aFv, rfl, ho0, hb⟩; refine ⟨_, rfl, ?_⟩; refine E8 (kW (PS HO_7.1) (fe ho0) hb) (eT (PR zl.1) (fe ho0) hb) (eT (PR sS.1) (fe ho0) hb) (bN (iI (iI ho0 (iL (PR zl.1))) (iL (PR sS.1))) (bZ HB.1)) (bB dL.1 hb) (bB iF.1 hb) (aY (by repeat (first | (with_reducible exact Di.1) | (with_reducible refine kg ?_ _) | (with_reducible refine ko ?_ _) | (with_reducible refine kH ?_) | exact Di.1)) hb) (bS HB.1 hb) ?_; clear HO_7 zl sS dL iF Di HB; intro HO_7 zl sS WH dL iF Di HB; (try clear hb)) | ((with_reducible refine bf (b := .append) (xs := #[.tmp 52, .tmp 54]) rfl ?_); at_builtin; refine ek (Kd.int .i64) (w0 := w) w.heap.size rfl (.tmp 52) (.tmp 54) 38 3 (.int .i64 0) 8 rfl Try.underlying38 info3 rfl (by decide) (by omega) aFv YS (rd l1 ql) [.int .i64 (rd l1 ql)] (fun k_ => some k_ ≠ (Uq : Value).ownBlock /\ some k_ ≠ (.slice abJ (aT lF d9).length abK : Value).ownBlock) (fun _ => False) rfl rfl ?aP (fun _ hk => hk.elim) ?aF ?aO ?aB ?aS ?aL ?_; (case aP => exact rfl); (case aB => exact (BL HB.1)); (case aF => exact (fun k_ hk => ⟨Kd.kX (iL (PR zl.1)) k_ hk, Kd.kX (iL (PR sS.1)) k_ hk⟩)); (case aO => exact (pm (aG WH.1 (fun _ hk => ⟨hk.1.2, hk.2⟩)))); (case aS => exact (bZ HB.1)); (case aL => have := auN.1; omega); intro aOZ w45 ho hb hg hat; rw [<- auO.1] at ho; refine E7 (CK (ok := (fun k_ => some k_ ≠ (Uq : Value).ownBlock)) (ES (eY HO_7.1 (fun _ hk => ⟨hk.1.2, hk.2⟩))) hg hat) (bG dL.1 hg (dK WH.1 dL.1 (by decide))) (bG iF.1 hg (dK WH.1 iF.1 (by decide))) (iX (ok := (fun _ => True)) (PR zl.1) hg hat) (iX (ok := (fun k_ => some k_ ≠ (.slice (some WE) lF.length Yu : Value).ownBlock /\ some k_ ≠ (Uq : Value).ownBlock)) (pm (aG sS.1 (fun _ hk => ⟨⟨hk.1.2, hk.1.1.2⟩, hk.2⟩))) hg hat) (hb) (ho) ?_; clear HO_7 dL iF zl sS HB WH; intro HO_7 dL iF zl sS HB WI; clear ho hb hg hat; obtain ⟨YT, YU, aoC⟩ := bv WI.1; subst aoC) | ((with_reducible refine bf (b := .append) (xs := #[.tmp 47, .tmp 56]) rfl ?_); at_builtin; refine uV (Kd.slice 3 (Kd.int .i64)) (w0 := w) w.heap.size rfl (.tmp 47) (.tmp 56) 60 38 (.slice none 0 0) 24 rfl Try.underlying60 Ab rfl (by decide) (by omega) (.slice (some WE) lF.length Yu) lF abI [.slice YT abI.length YU] (fun k_ => some k_ ≠ (Uq : Value).ownBlock) (fun k_ => some k_ = (.slice YT abI.length YU : Value).ownBlock) rfl rfl ?aP (fun k_ hk_ => ((aG (ok' := fun k_ => ((fun k_ => some k_ ≠ (Uq : Value).ownBlock)) k_ /\ some k_ ≠ (.slice (some WE) lF.length Yu : Value).ownBlock) (eH (WI.1) (jW HO_7.1) (by decide)) (fun k_ hk => ⟨hk.1.1, hk.2⟩))).1 k_ hk_.symm) ?aF ?aO ?aB ?aS ?aL ?_; (case aP => exact BC (aG (jR rfl (aG (ok' := fun k_ => ((fun k_ => some k_ ≠ (Uq : Value).ownBlock)) k_ /\ some k_ ≠ (.slice (some WE) lF.length Yu : Value).ownBlock) (eH (WI.1) (jW HO_7.1) (by decide)) (fun k_ hk => ⟨hk.1.1, hk.2⟩))) (fun _ h_ => h_))); (case aB => exact (BL HB.1)); (case aF => exact (fun k_ hk => Kd.kX (iL (PR zl.1)) k_ hk)); (case aO => exact (ES (eY HO_7.1 (fun k_ hk => ⟨hk.1, fun e_ => hk.2 e_⟩)))); (case aS => exact (bZ HB.1)); (case aL => have := auP.1; omega); intro aO0 w46 ho hb hg hat; rw [<- auQ.1] at ho; refine E6 (bG dL.1 hg (xe HO_7.1 dL.1 (by decide))) (bG iF.1 hg (xe HO_7.1 iF.1 (by decide))) (kF (PR zl.1) (jW (PS HO_7.1)) (by decide) hg) (iX (ok := (fun k_ => some k_ ≠ (Uq : Value).ownBlock /\ some k_ ≠ (.slice YT abI.length YU : Value).ownBlock)) (pm (aG sS.1 (fun _ hk => ⟨⟨hk.1.2, hk.2⟩, hk.1.1⟩))) hg hat) (hb) (ho) ?_; clear dL iF zl sS HB HO_7 WI; intro dL iF zl sS HB auR; clear ho hb hg hat))
     go_roundg k2
     case measure => have := iB.1; have := nG.1; omega
     case rel => exact ⟨(aFs), (aFt), (wrap64 (ql + 1)), RG, H', ⟨by have := iB.1; have := nG.1; omega⟩, ⟨pm (aG zl.1 (fun _ hk => trivial))⟩, ⟨PS auR.1⟩, ⟨PB dL.1⟩, ⟨BL HB.1⟩⟩
   have H' := aa.mk H
   clear H
   go_wp2
   go_roundg k2
   case measure => have := iB.1; have := nG.1; omega
   case rel => exact ⟨(iT), (lF), (wrap64 (d9 + 1)), RG, H', ⟨by have := iB.1; have := nG.1; omega⟩, ⟨PR HO_6.1⟩, ⟨PS HO_7.1⟩, ⟨PB dL.1⟩, ⟨BL HB.1⟩⟩
 simp only [Option.some.injEq, Prod.mk.injEq] at H
 obtain ⟨rfl, rfl⟩ := H
 obtain ⟨aO1, aO2, aFw⟩ := bv HO_6.1
 subst aFw
 go_wp2
 go_ret2
 exact ⟨_, _, RF, pm (HO_6.1), ES (HO_7.1), BL HB.1⟩
def fI.l0 : Nat -> List Int -> Int -> Int -> Option (List Int)
 | 0, _, _, _ => none
 | k + 1, x0, x1, x5 => if x5 < (x0.length : Int) then (if 0 <= x5 then (if (rd x0 x5) < x1 then (fI.l0 k x0 x1 (wrap64 (x5 + 1))) else (if (rd x0 x5) = x1 then (some x0) else ((some (([] : List Int) : List Int)).bind fun afL => (if x5 <= (x0.length : Int) then ((some (x0.take (x5 : Int).toNat : List Int)).bind fun Jc => (if afL.length + Jc.length < 17592186044416 then ((some (afL ++ Jc : List Int)).bind fun afM => (if afM.length < 17592186044416 then ((some (afM ++ [x1] : List Int)).bind fun abM => ((some (x0.drop (x5 : Int).toNat : List Int)).bind fun Jd => (if abM.length + Jd.length < 17592186044416 then (some (abM ++ Jd)) else (none)))) else (none))) else (none))) else (none))))) else (none)) else ((some (([] : List Int) : List Int)).bind fun afN => (if 0 <= x5 then (if x5 <= (x0.length : Int) then ((some (x0.take (x5 : Int).toNat : List Int)).bind fun Je => (if afN.length + Je.length < 17592186044416 then ((some (afN ++ Je : List Int)).bind fun afO => (if afO.length < 17592186044416 then ((some (afO ++ [x1] : List Int)).bind fun abN => ((some (x0.drop (x5 : Int).toNat : List Int)).bind fun Jf => (if abN.length + Jf.length < 17592186044416 then (some (abN ++ Jf)) else (none)))) else (none))) else (none))) else (none)) else (none)))
def fI.f (k : Nat) (l0 : List Int) (a1 : Int) : Option (List Int) := fI.l0 k l0 a1 0
theorem fI.mono_l : ∀ k, (∀ y0 y1 y2, dO (fI.l0 k y0 y1 y2) (fI.l0 (k + 1) y0 y1 y2))
 | 0 => fun _ _ _ r h => by simp [fI.l0] at h
 | k + 1 => by
  have ja := fI.mono_l k
  intros
  first | unfold fI.l0
  exact BA ja
theorem fI.mono : ∀ a0 a1 k, dO (fI.f k a0 a1) (fI.f (k + 1) a0 a1) := by
 intro a0 a1 k
 have ja := fI.mono_l k
 unfold fI.f
 exact BA ja
theorem fI.calls (k : Nat) (pg : Nat -> Prop) (iH : Value) (l0 : List Int) (a1 : Int) (r : List Int) (w0 w : World) (hB : Below w0.heap.size w0 w) (ho0 : Kd.R (Kd.int .i64) 3 w w0.heap.size pg iH l0) (h : fI.f k l0 a1 = some r) :
 Calls Try.prog 82 #[iH, .int .i64 a1] w fun e w' => ∃ rO : Value, e = .returned (rO) /\ Kd.R (Kd.int .i64) 3 w' w0.heap.size (fun k_ => (pg k_ ∨ w.heap.size <= k_)) rO r /\ Below w0.heap.size w0 w' /\ Kept w w' (fun k_ => pg k_) := by
 have HO0 := aa.mk (show Kd.R (Kd.int .i64) 3 w w0.heap.size (fun k_ => (pg k_ ∨ w.heap.size <= k_)) iH l0 from aG ho0 (fun k_ hk => (.inl hk)))
 have HK := aa.mk (Kept.refl w (fun k_ => pg k_))
 have HW0 := aa.mk hB.size
 have HB := aa.mk hB
 clear hB
 have H := h
 clear h
 unfold fI.f at H
 have H' := aa.mk H
 clear H
 go_enter Try.func82, Try.ntmps82
 go_wp2
 go_loopg [5] k (fun kq v5 w' => ∃ (bq : Int), v5 = .int .i64 bq /\ aa (fI.l0 kq l0 a1 bq = some r) /\ aa (kq <= k) /\ aa (Kd.R (Kd.int .i64) 3 w' w0.heap.size (fun k_ => (pg k_ ∨ w.heap.size <= k_)) iH l0) /\ aa (Kept w w' (fun k_ => pg k_)) /\ aa (Below w0.heap.size w0 w'))
 case atStart => exact ⟨(0), RG, H', ⟨Nat.le_refl _⟩, ⟨PR HO0.1⟩, ⟨KL HK.1⟩, ⟨BL HB.1⟩⟩
 clear H'
 obtain ⟨bq, rfl, HA, iB, HO_0, HK, HB⟩ := hrel
 cases gk with
 | zero => exact absurd HA.1 (by simp [fI.l0])
 | succ k1 => ?_
 have H := HA.1
 clear HA
 simp only [fI.l0] at H
 replace H := pu H; rcases H with ⟨c3b0, H⟩ | ⟨c3b0, H⟩
 · replace H := ji H; obtain ⟨c4b0, H⟩ := H
   replace H := pu H; rcases H with ⟨c5b0, H⟩ | ⟨c5b0, H⟩
   · have H' := aa.mk H
     clear H
     obtain ⟨Ao6, co6, eo6⟩ := bv HO_0.1
     subst eo6
     have Le : 0 <= (bq : Int) := OD
     have Lf : bq < (l0.length : Int) := OD
     obtain ⟨vN, abO, WJ⟩ := Kd.dx (ay HO_0.1).2.2 bq Le Lf
     cases abO
     replace Le := eq_true Le
     replace Lf := eq_true Lf
     go_wp2
     go_roundg k1
     case measure => have := iB.1; omega
     case rel => exact ⟨(wrap64 (bq + 1)), RG, H', ⟨by have := iB.1; omega⟩, ⟨PR HO_0.1⟩, ⟨KL HK.1⟩, ⟨BL HB.1⟩⟩
   replace H := oP H; rcases H with ⟨c7, H⟩ | ⟨c7, H⟩
   · have c7b0 := beq_iff_eq.mpr c7
     have c7b1 := bne_eq_false_iff_eq.mpr c7
     clear c7
     obtain rfl := Option.some.inj H
     obtain ⟨Ao8, yZ, eo8⟩ := bv HO_0.1
     subst eo8
     have Le : 0 <= (bq : Int) := OD
     have Lf : bq < (l0.length : Int) := OD
     obtain ⟨vN, abO, WJ⟩ := Kd.dx (ay HO_0.1).2.2 bq Le Lf
     cases abO
     replace Le := eq_true Le
     replace Lf := eq_true Lf
     have Ur : 0 <= (bq : Int) := OD
     have Ut : bq < (l0.length : Int) := OD
     obtain ⟨abP, aoD, afP⟩ := Kd.dx (ay HO_0.1).2.2 bq Ur Ut
     obtain rfl : vN = abP := (by injection aoD)
     replace Ur := eq_true Ur
     replace Ut := eq_true Ut
     go_wp2
     go_ret
     exact ⟨_, RF, pm (HO_0.1), BL HB.1, KL HK.1⟩
   have c7b0 := beq_eq_false_iff_ne.mpr c7
   have c7b1 := bne_iff_ne.mpr c7
   replace H := nR H; obtain ⟨afL, ajZ, H⟩ := H
   have c9b0 := eq_true (OD : 0 <= bq)
   replace H := oC H; obtain ⟨c10, H⟩ := H
   have c10b0 := eq_true c10
   have c10b1 := decide_eq_true c10
   clear c10
   replace H := nR H; obtain ⟨Jc, Rj, H⟩ := H
   replace H := oC H; obtain ⟨c11, H⟩ := H
   have auS := aa.mk c11
   clear c11
   replace H := nR H; obtain ⟨afM, auT, H⟩ := H
   replace H := oC H; obtain ⟨c12, H⟩ := H
   have auU := aa.mk c12
   clear c12
   replace H := nR H; obtain ⟨abM, auV, H⟩ := H
   have c13b0 := eq_true (OD : 0 <= bq)
   have c14b0 := eq_true (OD : bq <= (l0.length : Int))
   replace H := nR H; obtain ⟨Jd, abQ, H⟩ := H
   replace H := oC H; obtain ⟨c15, H⟩ := H
   have Lg := aa.mk c15
   clear c15
   generalize aj0 : ((abM ++ Jd) : List Int) = aO3 at H
   have auW := aa.mk aj0.symm; clear aj0
   obtain rfl := Option.some.inj H
   obtain ⟨aoE, wP, aoF⟩ := bv HO_0.1
   subst aoF
   have Le : 0 <= (bq : Int) := OD
   have Lf : bq < (l0.length : Int) := OD
   obtain ⟨vN, abO, WJ⟩ := Kd.dx (ay HO_0.1).2.2 bq Le Lf
   cases abO
   replace Le := eq_true Le
   replace Lf := eq_true Lf
   have Ur : 0 <= (bq : Int) := OD
   have Ut : bq < (l0.length : Int) := OD
   obtain ⟨abP, aoD, afP⟩ := Kd.dx (ay HO_0.1).2.2 bq Ur Ut
   obtain rfl : vN = abP := (by injection aoD)
   replace Ur := eq_true Ur
   replace Ut := eq_true Ut
   go_wp2_with (first | ((with_reducible refine aC (N := 34) rfl ?_); refine qh (Kd.int .i64) _ 3 ?hg (N := 34) ?hd (xs := ([] : List Int)) (inner := []) (ok := fun _ => True) (okp := fun _ => True) ?hr ?hp (fun _ hk => hk) trivial (Below.refl _ _) (Nat.le_refl _) (by simp) ?_; (case hd => rfl); (case hg => rfl); (case hr => first | (go_simp; done) | (go_simp; rfl)); (case hp => exact (fK.none _ _)); intro aFx Vn YV hb hg_ hnew_; clear hg_ hnew_; (first | rw [<- ajZ.1] at YV | (simp only [Int.reduceToNat] at YV; rw [<- ajZ.1] at YV)); refine E4 (eT (PR HO_0.1) (fe YV) hb) (bN (iI (Tx (M := fun k_ => (pg k_ ∨ w.heap.size <= k_)) YV (by first | exact HK.1.1 | exact (show Kept w _ (fun k_ => pg k_) from KL HK.1).1) (fun k_ h_ => .inr h_)) (iL (PR HO_0.1))) (bZ HB.1)) (Kept.below (S := (fun k_ => pg k_)) (KL HK.1) hb) (bS HB.1 hb) ?_; clear HO_0 HK HB; intro HO_0 abR HK HB; clear hb YV; have q19 : (bq : Int) <= ((l0.length : Int) : Int) := OD; obtain ⟨aO4, aj1, _, auX, _⟩ := info_parts info3; have hroom19 : l0.length <= wP := (ay HO_0.1).2.1; have auY : Kd.C (Kd.int .i64) _ (some vN) l0.length l0 := (ay HO_0.1).2.2; have hcut19 := aaj (P := Try.prog) 38 3 .i64 Try.underlying38 aj1 (some vN) l0.length wP bq (OD) q19 hroom19; have aoG := BR (m := (bq : Int).toNat) auY (by omega); have aoH : Jc.length = (bq : Int).toNat := (by rw [Rj.1, List.length_take]; omega); rw [<- Rj.1] at aoG; rw [<- aoH] at hcut19; have IQ := aa.mk aoG; have aKp := aa.mk (show Jc.length <= wP from by omega); clear aoG auY hroom19 aj1 auX; have aO5 := aa.mk aoH; clear aoH; have aoI := aa.mk (show (bq : Int).toNat <= l0.length from by omega); replace q19 := eq_true q19) | ((with_reducible refine bf (b := .append) (xs := #[.tmp 34, .tmp 37]) rfl ?_); at_builtin; refine qB (Kd.int .i64) (w0 := w0) w0.heap.size rfl (.tmp 34) (.tmp 37) 38 3 (.int .i64 0) 8 rfl Try.underlying38 info3 rfl (by decide) (by omega) aFx afL Jc _ _ _ (fun k_ => (pg k_ ∨ w.heap.size <= k_) /\ some k_ ≠ (.slice (some vN) l0.length wP : Value).ownBlock) (fun _ => False) rfl rfl ?aO ?aR (fun _ _ h => h) (fun _ h => h.elim) ?aF ?aB ?aS ?aL ?_; (case aR => repeat (first | exact (by repeat (first | (with_reducible exact IQ.1) | (with_reducible refine kg ?_ _) | (with_reducible refine ko ?_ _) | (with_reducible refine kH ?_) | exact IQ.1)) | (with_reducible refine kg ?_ _) | (with_reducible refine ko ?_ _) | (with_reducible refine kH ?_))); (case aB => exact (BL HB.1)); (case aF => exact (fun k_ hk => ⟨(.inr (Nat.le_trans (by first | exact HK.1.1 | exact (show Kept w _ (fun k_ => pg k_) from KL HK.1).1) hk)), Kd.kX (iL (PR HO_0.1)) k_ hk⟩)); (case aO => exact (pm (aG abR.1 (fun _ hk => ⟨hk.1.1, hk.2⟩)))); (case aS => exact (bZ HB.1)); (case aL => have := auS.1; omega); intro aFz ZJ ho hb hg hat; rw [<- auT.1] at ho; refine E5 (iX (ok := (fun k_ => (pg k_ ∨ w.heap.size <= k_))) (PR HO_0.1) hg hat) (hb) (Kept.of_grown (S := (fun k_ => pg k_)) hg (KL HK.1) (fun k_ e_ => (abR.1.1 k_ e_).1.1)) ((show Kd.C (Kd.int .i64) ZJ (some vN) Jc.length Jc from by rw [Rj.1]; exact BR (m := (bq : Int).toNat) ((ay (iX (ok := (fun k_ => (pg k_ ∨ w.heap.size <= k_))) (PR HO_0.1) hg hat)).2.2) aoI.1)) (ho) ?_; clear HO_0 HB HK IQ abR; intro HO_0 HB HK IQ abS; clear ho hb hg hat) | ((with_reducible refine bf (b := .append) (xs := #[.tmp 39, .tmp 41]) rfl ?_); at_builtin; refine ek (Kd.int .i64) (w0 := w0) w0.heap.size rfl (.tmp 39) (.tmp 41) 38 3 (.int .i64 0) 8 rfl Try.underlying38 info3 rfl (by decide) (by omega) aFz afM a1 [.int .i64 a1] (fun k_ => (pg k_ ∨ w.heap.size <= k_) /\ some k_ ≠ (.slice (some vN) l0.length wP : Value).ownBlock) (fun _ => False) rfl rfl ?aP (fun _ hk => hk.elim) ?aF ?aO ?aB ?aS ?aL ?_; (case aP => exact rfl); (case aB => exact (BL HB.1)); (case aF => exact (fun k_ hk => ⟨(.inr (Nat.le_trans (by first | exact HK.1.1 | exact (show Kept w _ (fun k_ => pg k_) from KL HK.1).1) hk)), Kd.kX (iL (PR HO_0.1)) k_ hk⟩)); (case aO => exact (PR abS.1)); (case aS => exact (bZ HB.1)); (case aL => have := auU.1; omega); intro aFA Qo ho hb hg hat; rw [<- auV.1] at ho; refine E5 (iX (ok := (fun k_ => (pg k_ ∨ w.heap.size <= k_))) (PR HO_0.1) hg hat) (hb) (Kept.of_grown (S := (fun k_ => pg k_)) hg (KL HK.1) (fun k_ e_ => (abS.1.1 k_ e_).1)) ((show Kd.C (Kd.int .i64) Qo (some vN) Jc.length Jc from by rw [Rj.1]; exact BR (m := (bq : Int).toNat) ((ay (iX (ok := (fun k_ => (pg k_ ∨ w.heap.size <= k_))) (PR HO_0.1) hg hat)).2.2) aoI.1)) (ho) ?_; clear HO_0 HB HK IQ abS; intro HO_0 HB HK IQ abT; clear ho hb hg hat; have q22 : (bq : Int) <= ((l0.length : Int) : Int) := OD; obtain ⟨aO6, aj2, _, aj3, _⟩ := info_parts info3; have hroom22 : l0.length <= wP := (ay HO_0.1).2.1; have auZ : Kd.C (Kd.int .i64) _ (some vN) l0.length l0 := (ay HO_0.1).2.2; have aFB : (0 : Int) <= (bq : Int) := OD; have hcut22 := Fy (P := Try.prog) 38 3 .i64 Try.underlying38 aj2 1 aj3 (some vN) l0.length wP bq aFB q22; have abU := Oi (m := (bq : Int).toNat) (c := wP) auZ (by omega) hroom22; obtain ⟨A22, afQ⟩ : ∃ A1, A1 = (if wP = (bq : Int).toNat then (some vN) else ((some vN) : Option Addr).map (·.add ((bq : Int).toNat * 1))) := ⟨_, rfl⟩; obtain ⟨c22, hc22⟩ : ∃ c1, c1 = wP - (bq : Int).toNat := ⟨_, rfl⟩; have afR : Jd.length = l0.length - (bq : Int).toNat := (by rw [abQ.1, List.length_drop] <;> omega); rw [show (l0).drop (bq : Int).toNat = Jd from abQ.1.symm] at abU; replace abU : Kd.C (Kd.int .i64) _ A22 Jd.length Jd := (by rw [afQ]; exact abU); rw [<- afR, <- afQ, <- hc22] at hcut22; have WK := aa.mk abU; have aKr := aa.mk (show Jd.length <= c22 from by rw [afR, hc22]; exact Nat.sub_le_sub_right hroom22 _); clear abU auZ hroom22 aj2 aj3 hc22; have aO7 := aa.mk afR; have aFC := aa.mk afQ; clear afR afQ; have aFD := aa.mk (show (bq : Int).toNat <= l0.length from by omega); replace q22 := eq_true q22) | ((with_reducible refine bf (b := .append) (xs := #[.tmp 43, .tmp 46]) rfl ?_); at_builtin; refine qB (Kd.int .i64) (w0 := w0) w0.heap.size rfl (.tmp 43) (.tmp 46) 38 3 (.int .i64 0) 8 rfl Try.underlying38 info3 rfl (by decide) (by omega) aFA abM Jd _ _ _ (fun k_ => (pg k_ ∨ w.heap.size <= k_) /\ some k_ ≠ (.slice (some vN) l0.length wP : Value).ownBlock) (fun _ => False) rfl rfl ?aO ?aR (fun _ _ h => h) (fun _ h => h.elim) ?aF ?aB ?aS ?aL ?_; (case aR => repeat (first | exact (by repeat (first | (with_reducible exact WK.1) | (with_reducible refine kg ?_ _) | (with_reducible refine ko ?_ _) | (with_reducible refine kH ?_) | exact WK.1)) | (with_reducible refine kg ?_ _) | (with_reducible refine ko ?_ _) | (with_reducible refine kH ?_))); (case aB => exact (BL HB.1)); (case aF => exact (fun k_ hk => ⟨(.inr (Nat.le_trans (by first | exact HK.1.1 | exact (show Kept w _ (fun k_ => pg k_) from KL HK.1).1) hk)), Kd.kX (iL (PR HO_0.1)) k_ hk⟩)); (case aO => exact (PR abT.1)); (case aS => exact (bZ HB.1)); (case aL => have := Lg.1; omega); intro aO8 w23 ho hb hg hat; rw [<- auW.1] at ho; refine E6 (iX (ok := (fun k_ => (pg k_ ∨ w.heap.size <= k_))) (PR HO_0.1) hg hat) (hb) (Kept.of_grown (S := (fun k_ => pg k_)) hg (KL HK.1) (fun k_ e_ => (abT.1.1 k_ e_).1)) ((show Kd.C (Kd.int .i64) w23 (some vN) Jc.length Jc from by rw [Rj.1]; exact BR (m := (bq : Int).toNat) ((ay (iX (ok := (fun k_ => (pg k_ ∨ w.heap.size <= k_))) (PR HO_0.1) hg hat)).2.2) aoI.1)) ((show Kd.C (Kd.int .i64) w23 A22 Jd.length Jd from by rw [abQ.1, aFC.1]; exact Oi (m := (bq : Int).toNat) (c := wP) ((ay (iX (ok := (fun k_ => (pg k_ ∨ w.heap.size <= k_))) (PR HO_0.1) hg hat)).2.2) aFD.1 ((ay (iX (ok := (fun k_ => (pg k_ ∨ w.heap.size <= k_))) (PR HO_0.1) hg hat)).2.1))) (ho) ?_; clear HO_0 HB HK IQ WK abT; intro HO_0 HB HK IQ WK au0; clear ho hb hg hat))
   go_ret
   exact ⟨_, RF, pm (aG au0.1 (fun _ hk => hk.1)), BL HB.1, KL HK.1⟩
 replace H := nR H; obtain ⟨afN, aj4, H⟩ := H
 replace H := oC H; obtain ⟨c24, H⟩ := H
 have c24b0 := eq_true c24
 have c24b1 := decide_eq_true c24
 clear c24
 replace H := oC H; obtain ⟨Q8, H⟩ := H
 have c25b0 := eq_true Q8
 have c25b1 := decide_eq_true Q8
 clear Q8
 replace H := nR H; obtain ⟨Je, Rk, H⟩ := H
 replace H := oC H; obtain ⟨c26, H⟩ := H
 have au1 := aa.mk c26
 clear c26
 replace H := nR H; obtain ⟨afO, au2, H⟩ := H
 replace H := oC H; obtain ⟨SE, H⟩ := H
 have QP := aa.mk SE
 clear SE
 replace H := nR H; obtain ⟨abN, au3, H⟩ := H
 have c28b0 := eq_true (OD : 0 <= bq)
 have c29b0 := eq_true (OD : bq <= (l0.length : Int))
 replace H := nR H; obtain ⟨Jf, abV, H⟩ := H
 replace H := oC H; obtain ⟨YW, H⟩ := H
 have au4 := aa.mk YW
 clear YW
 generalize aj5 : ((abN ++ Jf) : List Int) = aO9 at H
 have au5 := aa.mk aj5.symm; clear aj5
 obtain rfl := Option.some.inj H
 obtain ⟨pq, mg, Mm⟩ := bv HO_0.1
 subst Mm
 go_wp2_with (first | ((with_reducible refine aC (N := 34) rfl ?_); refine qh (Kd.int .i64) _ 3 ?hg (N := 34) ?hd (xs := ([] : List Int)) (inner := []) (ok := fun _ => True) (okp := fun _ => True) ?hr ?hp (fun _ hk => hk) trivial (Below.refl _ _) (Nat.le_refl _) (by simp) ?_; (case hd => rfl); (case hg => rfl); (case hr => first | (go_simp; done) | (go_simp; rfl)); (case hp => exact (fK.none _ _)); intro aFE w32 YX hb hg_ hnew_; clear hg_ hnew_; (first | rw [<- aj4.1] at YX | (simp only [Int.reduceToNat] at YX; rw [<- aj4.1] at YX)); refine E4 (eT (PR HO_0.1) (fe YX) hb) (bN (iI (Tx (M := fun k_ => (pg k_ ∨ w.heap.size <= k_)) YX (by first | exact HK.1.1 | exact (show Kept w _ (fun k_ => pg k_) from KL HK.1).1) (fun k_ h_ => .inr h_)) (iL (PR HO_0.1))) (bZ HB.1)) (Kept.below (S := (fun k_ => pg k_)) (KL HK.1) hb) (bS HB.1 hb) ?_; clear HO_0 HK HB; intro HO_0 abW HK HB; clear hb YX; have q34 : (bq : Int) <= ((l0.length : Int) : Int) := OD; obtain ⟨aPa, aj6, _, au6, _⟩ := info_parts info3; have hroom34 : l0.length <= mg := (ay HO_0.1).2.1; have au7 : Kd.C (Kd.int .i64) _ pq l0.length l0 := (ay HO_0.1).2.2; have hcut34 := aaj (P := Try.prog) 38 3 .i64 Try.underlying38 aj6 pq l0.length mg bq (OD) q34 hroom34; have aoJ := BR (m := (bq : Int).toNat) au7 (by omega); have hy34 : Je.length = (bq : Int).toNat := (by rw [Rk.1, List.length_take]; omega); rw [<- Rk.1] at aoJ; rw [<- hy34] at hcut34; have IR := aa.mk aoJ; have aKs := aa.mk (show Je.length <= mg from by omega); clear aoJ au7 hroom34 aj6 au6; have aPb := aa.mk hy34; clear hy34; have aoK := aa.mk (show (bq : Int).toNat <= l0.length from by omega); replace q34 := eq_true q34) | ((with_reducible refine bf (b := .append) (xs := #[.tmp 34, .tmp 37]) rfl ?_); at_builtin; refine qB (Kd.int .i64) (w0 := w0) w0.heap.size rfl (.tmp 34) (.tmp 37) 38 3 (.int .i64 0) 8 rfl Try.underlying38 info3 rfl (by decide) (by omega) aFE afN Je _ _ _ (fun k_ => (pg k_ ∨ w.heap.size <= k_) /\ some k_ ≠ (.slice pq l0.length mg : Value).ownBlock) (fun _ => False) rfl rfl ?aO ?aR (fun _ _ h => h) (fun _ h => h.elim) ?aF ?aB ?aS ?aL ?_; (case aR => repeat (first | exact (by repeat (first | (with_reducible exact IR.1) | (with_reducible refine kg ?_ _) | (with_reducible refine ko ?_ _) | (with_reducible refine kH ?_) | exact IR.1)) | (with_reducible refine kg ?_ _) | (with_reducible refine ko ?_ _) | (with_reducible refine kH ?_))); (case aB => exact (BL HB.1)); (case aF => exact (fun k_ hk => ⟨(.inr (Nat.le_trans (by first | exact HK.1.1 | exact (show Kept w _ (fun k_ => pg k_) from KL HK.1).1) hk)), Kd.kX (iL (PR HO_0.1)) k_ hk⟩)); (case aO => exact (pm (aG abW.1 (fun _ hk => ⟨hk.1.1, hk.2⟩)))); (case aS => exact (bZ HB.1)); (case aL => have := au1.1; omega); intro aFG Qi ho hb hg hat; rw [<- au2.1] at ho; refine E5 (iX (ok := (fun k_ => (pg k_ ∨ w.heap.size <= k_))) (PR HO_0.1) hg hat) (hb) (Kept.of_grown (S := (fun k_ => pg k_)) hg (KL HK.1) (fun k_ e_ => (abW.1.1 k_ e_).1.1)) ((show Kd.C (Kd.int .i64) Qi pq Je.length Je from by rw [Rk.1]; exact BR (m := (bq : Int).toNat) ((ay (iX (ok := (fun k_ => (pg k_ ∨ w.heap.size <= k_))) (PR HO_0.1) hg hat)).2.2) aoK.1)) (ho) ?_; clear HO_0 HB HK IR abW; intro HO_0 HB HK IR abX; clear ho hb hg hat) | ((with_reducible refine bf (b := .append) (xs := #[.tmp 39, .tmp 41]) rfl ?_); at_builtin; refine ek (Kd.int .i64) (w0 := w0) w0.heap.size rfl (.tmp 39) (.tmp 41) 38 3 (.int .i64 0) 8 rfl Try.underlying38 info3 rfl (by decide) (by omega) aFG afO a1 [.int .i64 a1] (fun k_ => (pg k_ ∨ w.heap.size <= k_) /\ some k_ ≠ (.slice pq l0.length mg : Value).ownBlock) (fun _ => False) rfl rfl ?aP (fun _ hk => hk.elim) ?aF ?aO ?aB ?aS ?aL ?_; (case aP => exact rfl); (case aB => exact (BL HB.1)); (case aF => exact (fun k_ hk => ⟨(.inr (Nat.le_trans (by first | exact HK.1.1 | exact (show Kept w _ (fun k_ => pg k_) from KL HK.1).1) hk)), Kd.kX (iL (PR HO_0.1)) k_ hk⟩)); (case aO => exact (PR abX.1)); (case aS => exact (bZ HB.1)); (case aL => have := QP.1; omega); intro aFH w36 ho hb hg hat; rw [<- au3.1] at ho; refine E5 (iX (ok := (fun k_ => (pg k_ ∨ w.heap.size <= k_))) (PR HO_0.1) hg hat) (hb) (Kept.of_grown (S := (fun k_ => pg k_)) hg (KL HK.1) (fun k_ e_ => (abX.1.1 k_ e_).1)) ((show Kd.C (Kd.int .i64) w36 pq Je.length Je from by rw [Rk.1]; exact BR (m := (bq : Int).toNat) ((ay (iX (ok := (fun k_ => (pg k_ ∨ w.heap.size <= k_))) (PR HO_0.1) hg hat)).2.2) aoK.1)) (ho) ?_; clear HO_0 HB HK IR abX; intro HO_0 HB HK IR abY; clear ho hb hg hat; have q37 : (bq : Int) <= ((l0.length : Int) : Int) := OD; obtain ⟨aPc, aj7, _, aj8, _⟩ := info_parts info3; have hroom37 : l0.length <= mg := (ay HO_0.1).2.1; have au8 : Kd.C (Kd.int .i64) _ pq l0.length l0 := (ay HO_0.1).2.2; have aFJ : (0 : Int) <= (bq : Int) := OD; have hcut37 := Fy (P := Try.prog) 38 3 .i64 Try.underlying38 aj7 1 aj8 pq l0.length mg bq aFJ q37; have abZ := Oi (m := (bq : Int).toNat) (c := mg) au8 (by omega) hroom37; obtain ⟨A37, afT⟩ : ∃ A1, A1 = (if mg = (bq : Int).toNat then pq else (pq : Option Addr).map (·.add ((bq : Int).toNat * 1))) := ⟨_, rfl⟩; obtain ⟨c37, aoL⟩ : ∃ c1, c1 = mg - (bq : Int).toNat := ⟨_, rfl⟩; have afU : Jf.length = l0.length - (bq : Int).toNat := (by rw [abV.1, List.length_drop] <;> omega); rw [show (l0).drop (bq : Int).toNat = Jf from abV.1.symm] at abZ; replace abZ : Kd.C (Kd.int .i64) _ A37 Jf.length Jf := (by rw [afT]; exact abZ); rw [<- afU, <- afT, <- aoL] at hcut37; have WL := aa.mk abZ; have aKt := aa.mk (show Jf.length <= c37 from by rw [afU, aoL]; exact Nat.sub_le_sub_right hroom37 _); clear abZ au8 hroom37 aj7 aj8 aoL; have aPd := aa.mk afU; have aFK := aa.mk afT; clear afU afT; have aFL := aa.mk (show (bq : Int).toNat <= l0.length from by omega); replace q37 := eq_true q37) | ((with_reducible refine bf (b := .append) (xs := #[.tmp 43, .tmp 46]) rfl ?_); at_builtin; refine qB (Kd.int .i64) (w0 := w0) w0.heap.size rfl (.tmp 43) (.tmp 46) 38 3 (.int .i64 0) 8 rfl Try.underlying38 info3 rfl (by decide) (by omega) aFH abN Jf _ _ _ (fun k_ => (pg k_ ∨ w.heap.size <= k_) /\ some k_ ≠ (.slice pq l0.length mg : Value).ownBlock) (fun _ => False) rfl rfl ?aO ?aR (fun _ _ h => h) (fun _ h => h.elim) ?aF ?aB ?aS ?aL ?_; (case aR => repeat (first | exact (by repeat (first | (with_reducible exact WL.1) | (with_reducible refine kg ?_ _) | (with_reducible refine ko ?_ _) | (with_reducible refine kH ?_) | exact WL.1)) | (with_reducible refine kg ?_ _) | (with_reducible refine ko ?_ _) | (with_reducible refine kH ?_))); (case aB => exact (BL HB.1)); (case aF => exact (fun k_ hk => ⟨(.inr (Nat.le_trans (by first | exact HK.1.1 | exact (show Kept w _ (fun k_ => pg k_) from KL HK.1).1) hk)), Kd.kX (iL (PR HO_0.1)) k_ hk⟩)); (case aO => exact (PR abY.1)); (case aS => exact (bZ HB.1)); (case aL => have := au4.1; omega); intro aPe Nc ho hb hg hat; rw [<- au5.1] at ho; refine E6 (iX (ok := (fun k_ => (pg k_ ∨ w.heap.size <= k_))) (PR HO_0.1) hg hat) (hb) (Kept.of_grown (S := (fun k_ => pg k_)) hg (KL HK.1) (fun k_ e_ => (abY.1.1 k_ e_).1)) ((show Kd.C (Kd.int .i64) Nc pq Je.length Je from by rw [Rk.1]; exact BR (m := (bq : Int).toNat) ((ay (iX (ok := (fun k_ => (pg k_ ∨ w.heap.size <= k_))) (PR HO_0.1) hg hat)).2.2) aoK.1)) ((show Kd.C (Kd.int .i64) Nc A37 Jf.length Jf from by rw [abV.1, aFK.1]; exact Oi (m := (bq : Int).toNat) (c := mg) ((ay (iX (ok := (fun k_ => (pg k_ ∨ w.heap.size <= k_))) (PR HO_0.1) hg hat)).2.2) aFL.1 ((ay (iX (ok := (fun k_ => (pg k_ ∨ w.heap.size <= k_))) (PR HO_0.1) hg hat)).2.1))) (ho) ?_; clear HO_0 HB HK IR WL abY; intro HO_0 HB HK IR WL au9; clear ho hb hg hat))
 go_ret
 exact ⟨_, RF, pm (aG au9.1 (fun _ hk => hk.1)), BL HB.1, KL HK.1⟩
mutual
def bM.l0 : Nat -> List Int -> List Int -> List Int -> Int -> Int -> Int -> Int -> List (fq) -> Option (List Int)
 | 0, _, _, _, _, _, _, _, _ => none
 | k + 1, x1, x5, x20, Oc, Mh, Gh, Gi, Gj => if Mh < Oc then (if 0 <= Mh then (if Mh < (x20.length : Int) then (bM.l1 k x1 x5 (rd x20 Mh) x20 Oc Mh x1 (x1.length : Int) 0 Gh Gi Gj) else (none)) else (none)) else (some x5)
def bM.l1 : Nat -> List Int -> List Int -> Int -> List Int -> Int -> Int -> List Int -> Int -> Int -> Int -> Int -> List (fq) -> Option (List Int)
 | 0, _, _, _, _, _, _, _, _, _, _, _, _ => none
 | k + 1, x1, x5, x9, x20, Oc, Mh, qx, x27, x28, Gh, Gi, Gj => if x28 < x27 then (if 0 <= x28 then (if x28 < (qx.length : Int) then ((iE.f k Gh Gi Gj x9 (rd qx x28)).bind fun ava => ((fI.f k x5 ava.2.1).bind fun afV => (bM.l1 k x1 afV x9 x20 Oc Mh qx x27 (wrap64 (x28 + 1)) Gh Gi Gj))) else (none)) else (none)) else (bM.l0 k x1 x5 x20 Oc (wrap64 (Mh + 1)) Gh Gi Gj)
end
def bM.f (k : Nat) (ah : Int) (af : Int) (ae : List (fq)) (l1 : List Int) : Option (List Int) := (bA.f k ah af ae l1).bind fun aj9 => (bM.l0 k l1 ([] : List Int) aj9.1 (aj9.1.length : Int) 0 ah af ae)
theorem bM.mono_l : ∀ k, (∀ y0 y1 y2 y3 y4 y5 y6 y7, dO (bM.l0 k y0 y1 y2 y3 y4 y5 y6 y7) (bM.l0 (k + 1) y0 y1 y2 y3 y4 y5 y6 y7)) /\ (∀ y0 y1 y2 y3 y4 y5 y6 y7 y8 y9 IG MV, dO (bM.l1 k y0 y1 y2 y3 y4 y5 y6 y7 y8 y9 IG MV) (bM.l1 (k + 1) y0 y1 y2 y3 y4 y5 y6 y7 y8 y9 IG MV))
 | 0 => by refine ⟨?_, ?_⟩ <;> (intros; intro r h; first | (simp [bM.l0] at h; done) | (simp [bM.l1] at h; done))
 | k + 1 => by
  obtain ⟨ja, ih1⟩ := bM.mono_l k
  refine ⟨?_, ?_⟩ <;> (
   intros
   first | unfold bM.l0 | unfold bM.l1
   exact LM5 ja ih1 fI.mono bA.mono iE.mono)
theorem bM.mono : ∀ a0 a1 a2 a3 k, dO (bM.f k a0 a1 a2 a3) (bM.f (k + 1) a0 a1 a2 a3) := by
 intro a0 a1 a2 a3 k
 obtain ⟨ja, ih1⟩ := bM.mono_l k
 unfold bM.f
 exact LM5 ja ih1 fI.mono bA.mono iE.mono
theorem bM.calls (k : Nat) (ah : Int) (af : Int) (aK : Option Addr) (aJ : Nat) (ae : List (fq)) (A1 : Option Addr) (c1 : Nat) (l1 : List Int) (r : List Int) (w : World) (dH : Kd.C jZ w aK ae.length ae) (dG : ae.length <= aJ) (hr1 : Kd.C (Kd.int .i64) w A1 l1.length l1) (hc1 : l1.length <= c1) (h : bM.f k ah af ae l1 = some r) :
 Calls Try.prog 65 #[.agg #[.int .i64 ah, .int .i64 af, .slice aK ae.length aJ], .slice A1 l1.length c1] w fun e w' => ∃ rO : Value, e = .returned (rO) /\ Kd.R (Kd.int .i64) 3 w' w.heap.size (fun _ => True) rO r /\ Below w.heap.size w w' := by
 have nH := Try.underlying30
 have YM := Try.underlying54
 have bD := aa.mk dH
 have cO := aa.mk dG
 clear dH dG
 have HR1 := aa.mk hr1
 have vD := aa.mk hc1
 clear hr1 hc1
 have HB := aa.mk (Below.refl w.heap.size w)
 have H := h
 clear h
 unfold bM.f at H
 replace H := dz H; obtain ⟨⟨AU, aFM⟩, A3, H⟩ := H
 dsimp only at H
 have H' := aa.mk H
 clear H
 go_enter Try.func65, Try.ntmps65
 go_wp2_with (first | ((with_reducible refine aC (N := 2) rfl ?_); refine dN (cs := #[.int .i64 ah, .int .i64 af, .slice aK ae.length aJ]) (t := 30) ?_; intro ab0 hg w4 hbox hb; refine mJ HB.1 hg hbox hb ?_; clear HB; intro HB nT aKu aKv; clear hb hbox hg; obtain ⟨Au, Av, EA, Aw, Ay, EB⟩ := gB nT.1) | ((with_reducible refine aA (f := 58) rfl ?_); refine cK (N := (some 17)) #[.agg #[.int .i64 ah, .int .i64 af, .slice aK ae.length aJ], .slice A1 l1.length c1] Try.func58 ?_; (with_reducible refine (bA.calls k ah af _ _ ae _ _ l1 AU aFM _ ?side1 ?side2 ?side3 ?side4 A3.1).mono ?_); (case side1 => exact CB (aY bD.1 HB.1)); (case side2 => exact cO.1); (case side3 => exact CB (aY HR1.1 HB.1)); (case side4 => exact vD.1); rintro e w6 ⟨aPf, aPg, rfl, ho0, ho1, hb⟩; refine ⟨_, rfl, ?_⟩; refine E4 (bN ho0 (bZ HB.1)) (lN ho1 (bZ HB.1)) (bB nT.1 hb) (bS HB.1 hb) ?_; clear nT HB; intro aka aKw nT HB; (try clear hb); (try clear ho0); (try clear ho1); obtain ⟨Ao7, SI, eo7⟩ := bv aka.1; subst eo7))
 go_loopg [5, 22] k (fun kq v5 v22 w' => ∃ (bq : List Int) (Cf : Int), v22 = .int .i64 Cf /\ aa (bM.l0 kq l1 bq AU (AU.length : Int) Cf ah af ae = some r) /\ aa (kq <= k) /\ aa (Kd.R (Kd.int .i64) 3 w' w.heap.size (fun k_ => some k_ ≠ ((.slice Ao7 AU.length SI) : Value).ownBlock) v5 bq) /\ aa (Kd.R (Kd.int .i64) 3 w' w.heap.size (fun k_ => some k_ ≠ (v5 : Value).ownBlock) (.slice Ao7 AU.length SI) AU) /\ aa (w'.heap[ab0]? = some (.cells #[.int .i64 ah, .int .i64 af, (.slice aK ae.length aJ)] 30 (0, 0))) /\ aa (Below w.heap.size w w'))
 case atStart => exact ⟨(([] : List Int)), (0), RG, H', ⟨Nat.le_refl _⟩, ⟨by first | exact tO _ _ _ _ _ | exact ET _ _ _ _ _ | exact EU _ _ _ _ _ | exact EW _ _ _ _ _ | exact EY _ _ _ _ _⟩, ⟨pm (aG aka.1 (fun _ hk => (by simp [Value.ownBlock])))⟩, ⟨PB nT.1⟩, ⟨BL HB.1⟩⟩
 clear H'
 try clear c1; clear Au Av EA Aw Ay EB
 obtain ⟨bq, Cf, rfl, HA, iB, HO_5, HO_20, nT, HB⟩ := hrel
 cases gk with
 | zero => exact absurd HA.1 (by simp [bM.l0])
 | succ k1 => ?_
 have H := HA.1
 clear HA
 simp only [bM.l0] at H
 replace H := pu H; rcases H with ⟨c8b0, H⟩ | ⟨c8b0, H⟩
 · replace H := ji H; obtain ⟨c9b0, H⟩ := H
   replace H := ji H; obtain ⟨c10b0, H⟩ := H
   have H' := aa.mk H
   clear H
   have afW : 0 <= (Cf : Int) := OD
   have afX : Cf < (AU.length : Int) := OD
   obtain ⟨Rl, aFN, afY⟩ := Kd.dx (ay HO_20.1).2.2 Cf afW afX
   cases aFN
   replace afW := eq_true afW
   replace afX := eq_true afX
   go_wp2
   go_loopg [5, 28] k1 (fun kq v5 v28 w' => ∃ (ol : List Int) (dV : Int), v28 = .int .i64 dV /\ aa (bM.l1 kq l1 ol (rd AU Cf) AU (AU.length : Int) Cf l1 (l1.length : Int) dV ah af ae = some r) /\ aa (kq <= k1) /\ aa (Kd.R (Kd.int .i64) 3 w' w.heap.size (fun k_ => some k_ ≠ ((.slice (some Rl) AU.length SI) : Value).ownBlock) v5 ol) /\ aa (Kd.R (Kd.int .i64) 3 w' w.heap.size (fun k_ => some k_ ≠ (v5 : Value).ownBlock) (.slice (some Rl) AU.length SI) AU) /\ aa (w'.heap[ab0]? = some (.cells #[.int .i64 ah, .int .i64 af, (.slice aK ae.length aJ)] 30 (0, 0))) /\ aa (Below w.heap.size w w'))
   case atStart => exact ⟨(bq), (0), RG, H', ⟨Nat.le_refl _⟩, ⟨PR HO_5.1⟩, ⟨PR HO_20.1⟩, ⟨PB nT.1⟩, ⟨BL HB.1⟩⟩
   clear H'
   try clear afY; try clear afW; try clear afX; clear c8b0 c9b0 c10b0
   obtain ⟨ol, dV, rfl, HA, nG, HO_5, HO_20, nT, HB⟩ := hrel
   cases gk with
   | zero => exact absurd HA.1 (by simp [bM.l1])
   | succ k2 => ?_
   have H := HA.1
   clear HA
   simp only [bM.l1] at H
   replace H := pu H; rcases H with ⟨c11b0, H⟩ | ⟨c11b0, H⟩
   · replace H := ji H; obtain ⟨c12b0, H⟩ := H
     replace H := ji H; obtain ⟨c13b0, H⟩ := H
     replace H := dz H; obtain ⟨⟨aFO, ab1, aoM, aoN⟩, A14, H⟩ := H
     dsimp only at H
     replace H := dz H; obtain ⟨afV, A15, H⟩ := H
     have H' := aa.mk H
     clear H
     have aoO : 0 <= (dV : Int) := OD
     have aoP : dV < (l1.length : Int) := OD
     obtain ⟨aKx, aFP, OZ⟩ := Kd.dx HR1.1 dV aoO aoP
     cases aFP
     replace OZ := (HB.1.cell (World.block_lt_of_cell? w _ OZ)).trans OZ
     replace aoO := eq_true aoO
     replace aoP := eq_true aoP
     obtain ⟨wm, wo, zQ, wu, ww, zR⟩ := gB nT.1
     go_wp2_with (first | ((with_reducible refine aA (f := 43) rfl ?_); refine cK (N := (some 36)) #[.agg #[.int .i64 ah, .int .i64 af, .slice aK ae.length aJ], .int .i64 (rd AU Cf), .int .i64 (rd l1 dV)] Try.func43 ?_; (with_reducible refine (iE.calls k2 ah af _ _ ae (rd AU Cf) (rd l1 dV) aFO ab1 aoM aoN _ ?side1 ?side2 A14.1).mono ?_); (case side1 => exact CB (aY bD.1 HB.1)); (case side2 => exact cO.1); rintro e Vn ⟨rfl, hb⟩; refine ⟨_, rfl, ?_⟩; refine E4 (rB HO_5.1 hb) (rB HO_20.1 hb) (bB nT.1 hb) (bS HB.1 hb) ?_; clear HO_5 HO_20 nT HB; intro HO_5 HO_20 nT HB; (try clear hb)) | ((with_reducible refine aC (N := 13) rfl ?_); refine dN (cs := #[.int .i64 0, .int .i64 0, .int .i64 0]) (t := 54) ?_; intro Ec hg w18 hbox hb; refine E9 (rB HO_5.1 hb) (rB HO_20.1 hb) (bB nT.1 hb) (bS HB.1 hb) (hbox) (gX HB.1 hg) (gX HB.1 hg) (nB nT.1 hg) (nC nT.1 hg) ?_; clear HO_5 HO_20 nT HB; intro HO_5 HO_20 nT HB Cg aKy aKz Nq YY; clear hb hbox hg; have ajk := YY.1; have ajl := Nq.1; obtain ⟨wz, wB, zT, wC, wD, zU⟩ := gB Cg.1) | ((with_reducible refine gK (t := 54) (p := 13) rfl ?_); refine lX (t := 54) (p := 13) (w1 := (((w18.setCell ⟨Ec, 0, none⟩ (.int .i64 ab1)).setCell ⟨Ec, 1, none⟩ (.int .i64 aoM)).setCell ⟨Ec, 2, none⟩ (.int .i64 aoN))) ?_; intro Qo hw; have AV : aa (Kd.R (Kd.int .i64) 3 Qo w.heap.size (fun k_ => some k_ ≠ (.slice (some Rl) AU.length SI : Value).ownBlock) u5 ol) := ⟨(by rw [hw]; exact (by (with_reducible repeat (first | apply aV | apply aW | apply aQ)); exact aG (RQ Ec 2 (RQ Ec 1 (RQ Ec 0 (bz HO_5.1 Cg.1 (by decide)) _) _) _) (fun _ hk => hk.1)))⟩; have AX : aa (Kd.R (Kd.int .i64) 3 Qo w.heap.size (fun k_ => some k_ ≠ (u5 : Value).ownBlock) (.slice (some Rl) AU.length SI) AU) := ⟨(by rw [hw]; exact (by (with_reducible repeat (first | apply aV | apply aW | apply aQ)); exact aG (RQ Ec 2 (RQ Ec 1 (RQ Ec 0 (bz HO_20.1 Cg.1 (by decide)) _) _) _) (fun _ hk => hk.1)))⟩; have AY : aa (Qo.heap[ab0]? = some (.cells #[.int .i64 ah, .int .i64 af, .slice aK ae.length aJ] 30 (0, 0))) := ⟨(by rw [hw]; exact (xB Nq.1 nT.1))⟩; have AZ : aa (Qo.heap[Ec]? = some (.cells #[.int .i64 ab1, .int .i64 aoM, .int .i64 aoN] 54 (0, 0))) := ⟨(by rw [hw]; exact (BB Cg.1))⟩; have Ed : aa (Below w.heap.size w Qo) := ⟨(by rw [hw]; exact (BL HB.1))⟩; clear hw; clear HO_5; clear HO_20; clear nT; clear Cg; clear HB; have HO_5 := AV; have HO_20 := AX; have nT := AY; have Cg := AZ; have HB := Ed; clear AV AX AY AZ Ed; obtain ⟨wJ, wK, Jw, wL, wM, Jy⟩ := gB Cg.1; obtain ⟨yN, yO, NV⟩ := bv HO_5.1; subst NV) | ((with_reducible refine aA (f := 82) rfl ?_); refine cK (N := (some 42)) #[.slice yN ol.length yO, .int .i64 ab1] Try.func82 ?_; (with_reducible refine (fI.calls k2 (fun k_ => some k_ = (.slice yN ol.length yO : Value).ownBlock) (.slice yN ol.length yO) ol ab1 afV w _ ?side1 ?side2 A15.1).mono ?_); (case side1 => exact BL HB.1); (case side2 => exact jR rfl HO_5.1); rintro e Mi ⟨aFQ, rfl, ho0, hb, hkp⟩; refine ⟨_, rfl, ?_⟩; refine E5 (aG (ok' := fun k_ => some k_ ≠ (aFQ : Value).ownBlock) (jV (HO_20.1) hkp (fun k_ hk_ hs_ => (hk_) hs_)) (fun k_ hk_ => fun e_ => Or.elim (ho0.1 k_ e_.symm) (fun hs_ => hk_.2.1 hs_) (fun hn_ => Nat.not_le.2 hk_.2.2 hn_))) (eQ (PB nT.1) hkp (fun hs_ => (fun e_ => (dK HO_5.1 nT.1 (by decide)) e_) hs_)) (eQ (PB Cg.1) hkp (fun hs_ => (fun e_ => (dK HO_5.1 Cg.1 (by decide)) e_) hs_)) (aG (ok' := fun k_ => some k_ ≠ (.slice (some Rl) AU.length SI : Value).ownBlock) ho0 (fun k_ hk_ => Or.elim hk_ (fun hs_ => fun e_ => (((HO_20.1).1 k_ e_.symm)) hs_) (fun hn_ => (Kd.kX (iL (PR HO_20.1)) k_ hn_)))) (hb) ?_; clear HO_20 nT Cg HB HO_5; intro HO_20 nT Cg avb HB; (try clear hb); (try clear hkp); (try clear ho0)))
     go_roundg k2
     case measure => have := iB.1; have := nG.1; omega
     case rel => exact ⟨(afV), (wrap64 (dV + 1)), RG, H', ⟨by have := iB.1; have := nG.1; omega⟩, ⟨PR avb.1⟩, ⟨PR HO_20.1⟩, ⟨PB nT.1⟩, ⟨BL HB.1⟩⟩
   have H' := aa.mk H
   clear H
   go_wp2
   go_roundg k2
   case measure => have := iB.1; have := nG.1; omega
   case rel => exact ⟨(ol), (wrap64 (Cf + 1)), RG, H', ⟨by have := iB.1; have := nG.1; omega⟩, ⟨PR HO_5.1⟩, ⟨PR HO_20.1⟩, ⟨PB nT.1⟩, ⟨BL HB.1⟩⟩
 obtain rfl := Option.some.inj H
 go_wp2
 go_ret
 exact ⟨_, RF, pm (aG HO_5.1 (fun _ hk => trivial)), BL HB.1⟩
def jO.f (ah : Int) (af : Int) : Option (Bool) := if ah = 6 then (some true) else (some (ah == 7))
theorem jO.calls (ah : Int) (af : Int) (r : Bool) (w : World) (h : jO.f ah af = some r) :
 Calls Try.prog 87 #[.agg #[.int .i64 ah, .int .i64 af]] w fun e w' => e = .returned (.bool r) /\ Below w.heap.size w w' := by
 have xE := Try.underlying83
 have HB := aa.mk (Below.refl w.heap.size w)
 have H := h
 clear h
 unfold jO.f at H
 replace H := oP H; rcases H with ⟨c2, H⟩ | ⟨c2, H⟩
 · have c2b0 := beq_iff_eq.mpr c2
   have c2b1 := bne_eq_false_iff_eq.mpr c2
   clear c2
   obtain rfl := Option.some.inj H
   go_enter Try.func87, Try.ntmps87
   go_wp2_with (first | ((with_reducible refine aC (N := 1) rfl ?_); refine dN (cs := #[.int .i64 ah, .int .i64 af]) (t := 83) ?_; intro avc hg w3 hbox hb; refine mJ HB.1 hg hbox hb ?_; clear HB; intro HB ab2 avd ave; clear hb hbox hg; obtain ⟨Ao, Ap, Aq, Ar⟩ := nO ab2.1))
   go_ret
   exact ⟨RF, BL HB.1⟩
 have c2b0 := beq_eq_false_iff_ne.mpr c2
 have c2b1 := bne_iff_ne.mpr c2
 obtain rfl := Option.some.inj H
 go_enter Try.func87, Try.ntmps87
 go_wp2_with (first | ((with_reducible refine aC (N := 1) rfl ?_); refine dN (cs := #[.int .i64 ah, .int .i64 af]) (t := 83) ?_; intro avc hg w5 hbox hb; refine mJ HB.1 hg hbox hb ?_; clear HB; intro HB ab2 avd ave; clear hb hbox hg; obtain ⟨oL, oM, oN, oO⟩ := nO ab2.1))
 go_ret
 exact ⟨RF, BL HB.1⟩
mutual
def bF.j0 : Nat -> Int -> List Int -> Int -> Int -> Int -> Int -> List (fq) -> Option (List Int)
 | 0, _, _, _, _, _, _, _ => none
 | k + 1, x1, x5, x6, x7, Gl, Dj, O0 => if x7 > 0 then (if x5.length < 17592186044416 then (bF.j1 k x1 (x5 ++ [wrap64 (x1 - 1)]) x6 x7 Gl Dj O0) else (none)) else (bF.j1 k x1 x5 x6 x7 Gl Dj O0)
def bF.j1 : Nat -> Int -> List Int -> Int -> Int -> Int -> Int -> List (fq) -> Option (List Int)
 | 0, _, _, _, _, _, _, _ => none
 | k + 1, x1, x5, x6, x7, Gl, Dj, O0 => if (wrap64 (x7 + 1)) < Dj then (if x5.length < 17592186044416 then ((some (x5 ++ [wrap64 (x1 + 1)] : List Int)).bind fun Rm => (if (wrap64 (x6 + 1)) < Gl then (if Rm.length < 17592186044416 then (some (Rm ++ [wrap64 (x1 + Dj)])) else (none)) else (some Rm))) else (none)) else (if (wrap64 (x6 + 1)) < Gl then (if x5.length < 17592186044416 then (some (x5 ++ [wrap64 (x1 + Dj)])) else (none)) else (some x5))
end
def bF.f (k : Nat) (ah : Int) (af : Int) (ae : List (fq)) (a1 : Int) : Option (List Int) := (some (([] : List Int) : List Int)).bind fun O1 => (if af = 0 then (none) else (if (wrap64 (Int.tdiv a1 af)) > 0 then (if O1.length < 17592186044416 then (bF.j0 k a1 (O1 ++ [wrap64 (a1 - af)]) (wrap64 (Int.tdiv a1 af)) (Int.tmod a1 af) ah af ae) else (none)) else (bF.j0 k a1 O1 (wrap64 (Int.tdiv a1 af)) (Int.tmod a1 af) ah af ae)))
theorem bF.mono_l : ∀ k, (∀ y0 y1 y2 y3 y4 y5 y6, dO (bF.j0 k y0 y1 y2 y3 y4 y5 y6) (bF.j0 (k + 1) y0 y1 y2 y3 y4 y5 y6)) /\ (∀ y0 y1 y2 y3 y4 y5 y6, dO (bF.j1 k y0 y1 y2 y3 y4 y5 y6) (bF.j1 (k + 1) y0 y1 y2 y3 y4 y5 y6))
 | 0 => by refine ⟨?_, ?_⟩ <;> (intros; intro r h; first | (simp [bF.j0] at h; done) | (simp [bF.j1] at h; done))
 | k + 1 => by
  obtain ⟨ja, ih1⟩ := bF.mono_l k
  refine ⟨?_, ?_⟩ <;> (
   intros
   first | unfold bF.j0 | unfold bF.j1
   exact Qj ja ih1)
theorem bF.mono : ∀ a0 a1 a2 a3 k, dO (bF.f k a0 a1 a2 a3) (bF.f (k + 1) a0 a1 a2 a3) := by
 intro a0 a1 a2 a3 k
 obtain ⟨ja, ih1⟩ := bF.mono_l k
 unfold bF.f
 exact Qj ja ih1
theorem bF.calls (k : Nat) (ah : Int) (af : Int) (aK : Option Addr) (aJ : Nat) (ae : List (fq)) (a1 : Int) (r : List Int) (w : World) (dH : Kd.C jZ w aK ae.length ae) (dG : ae.length <= aJ) (h : bF.f k ah af ae a1 = some r) :
 Calls Try.prog 88 #[.agg #[.int .i64 ah, .int .i64 af, .slice aK ae.length aJ], .int .i64 a1] w fun e w' => ∃ rO : Value, e = .returned (rO) /\ Kd.R (Kd.int .i64) 3 w' w.heap.size (fun _ => True) rO r /\ Below w.heap.size w w' := by
 have nH := Try.underlying30
 have bD := aa.mk dH
 have cO := aa.mk dG
 clear dH dG
 have HB := aa.mk (Below.refl w.heap.size w)
 have H := h
 clear h
 unfold bF.f at H
 replace H := nR H; obtain ⟨O1, Nr, H⟩ := H
 replace H := oP H; rcases H with ⟨c3, H⟩ | ⟨c3, H⟩
 · exact absurd H (by simp)
 have c3b0 := beq_eq_false_iff_ne.mpr c3
 have c3b1 := bne_iff_ne.mpr c3
 have HC4 := aa.mk H
 clear H
 go_enter Try.func88, Try.ntmps88
 go_upto_if 18 with (first | ((with_reducible refine aC (N := 2) rfl ?_); refine dN (cs := #[.int .i64 ah, .int .i64 af, .slice aK ae.length aJ]) (t := 30) ?_; intro WM hg w5 hbox hb; refine mJ HB.1 hg hbox hb ?_; clear HB; intro HB dS akb akc; clear hb hbox hg) | ((with_reducible refine aC (N := 8) rfl ?_); refine qh (Kd.int .i64) _ 3 ?hg (N := 8) ?hd (xs := ([] : List Int)) (inner := []) (ok := fun _ => True) (okp := fun _ => True) ?hr ?hp (fun _ hk => hk) trivial (Below.refl _ _) (Nat.le_refl _) (by simp) ?_; (case hd => rfl); (case hg => rfl); (case hr => first | (go_simp; done) | (go_simp; rfl)); (case hp => exact (fK.none _ _)); intro ab3 w6 yY hb hg_ hnew_; clear hg_ hnew_; (first | rw [<- Nr.1] at yY | (simp only [Int.reduceToNat] at yY; rw [<- Nr.1] at yY)); refine E3 (bN yY (bZ HB.1)) (bB dS.1 hb) (bS HB.1 hb) ?_; clear dS HB; intro BG dS HB; clear hb yY; obtain ⟨lZ, l5, mR, l6, l7, mU⟩ := gB dS.1))
 repeat (go_quiet (first | ((with_reducible refine aC (N := 2) rfl ?_); refine dN (cs := #[.int .i64 ah, .int .i64 af, .slice aK ae.length aJ]) (t := 30) ?_; intro WM hg w5 hbox hb; refine mJ HB.1 hg hbox hb ?_; clear HB; intro HB dS akb akc; clear hb hbox hg) | ((with_reducible refine aC (N := 8) rfl ?_); refine qh (Kd.int .i64) _ 3 ?hg (N := 8) ?hd (xs := ([] : List Int)) (inner := []) (ok := fun _ => True) (okp := fun _ => True) ?hr ?hp (fun _ hk => hk) trivial (Below.refl _ _) (Nat.le_refl _) (by simp) ?_; (case hd => rfl); (case hg => rfl); (case hr => first | (go_simp; done) | (go_simp; rfl)); (case hp => exact (fK.none _ _)); intro ab3 w6 yY hb hg_ hnew_; clear hg_ hnew_; (first | rw [<- Nr.1] at yY | (simp only [Int.reduceToNat] at yY; rw [<- Nr.1] at yY)); refine E3 (bN yY (bZ HB.1)) (bB dS.1 hb) (bS HB.1 hb) ?_; clear dS HB; intro BG dS HB; clear hb yY; obtain ⟨lZ, l5, mR, l6, l7, mU⟩ := gB dS.1)); go_upto_if 18 with (first | ((with_reducible refine aC (N := 2) rfl ?_); refine dN (cs := #[.int .i64 ah, .int .i64 af, .slice aK ae.length aJ]) (t := 30) ?_; intro WM hg w5 hbox hb; refine mJ HB.1 hg hbox hb ?_; clear HB; intro HB dS akb akc; clear hb hbox hg) | ((with_reducible refine aC (N := 8) rfl ?_); refine qh (Kd.int .i64) _ 3 ?hg (N := 8) ?hd (xs := ([] : List Int)) (inner := []) (ok := fun _ => True) (okp := fun _ => True) ?hr ?hp (fun _ hk => hk) trivial (Below.refl _ _) (Nat.le_refl _) (by simp) ?_; (case hd => rfl); (case hg => rfl); (case hr => first | (go_simp; done) | (go_simp; rfl)); (case hp => exact (fK.none _ _)); intro ab3 w6 yY hb hg_ hnew_; clear hg_ hnew_; (first | rw [<- Nr.1] at yY | (simp only [Int.reduceToNat] at yY; rw [<- Nr.1] at yY)); refine E3 (bN yY (bZ HB.1)) (bB dS.1 hb) (bS HB.1 hb) ?_; clear dS HB; intro BG dS HB; clear hb yY; obtain ⟨lZ, l5, mR, l6, l7, mU⟩ := gB dS.1)))
 (try simp only [Act.put, List.setIfInBounds_toArray, List.set_cons_zero, List.set_cons_succ])
 go_cut [5] (fun v5 wc => ∃ (kq : Nat) (Rn : List Int), aa (bF.j0 kq a1 Rn (wrap64 (Int.tdiv a1 af)) (Int.tmod a1 af) ah af ae = some r) /\ aa (kq <= k) /\ aa (Kd.R (Kd.int .i64) 3 wc w.heap.size (fun _ => True) v5 Rn) /\ aa (wc.heap[WM]? = some (.cells #[.int .i64 ah, .int .i64 af, (.slice aK ae.length aJ)] 30 (0, 0))) /\ aa (Below w.heap.size w wc))
 case first =>
  have H := HC4.1
  clear HC4
  replace H := oP H; rcases H with ⟨c9, H⟩ | ⟨c9, H⟩
  · have c9b0 : decide (0 < (wrap64 (Int.tdiv a1 af))) = true := decide_eq_true c9
    clear c9
    (first | rw [c9b0] | (simp only [cz, dF]; rw [c9b0]) | skip)
    replace H := oC H; obtain ⟨c10, H⟩ := H
    have Ns := aa.mk c10
    clear c10
    generalize akd : ((O1 ++ [wrap64 (a1 - af)]) : List Int) = aFR at H
    have ab4 := aa.mk akd.symm; clear akd
    have H' := aa.mk H
    clear H
    obtain ⟨vX, vY, EZ, vZ, wh, Fa⟩ := gB dS.1
    go_wp2_with (first | ((with_reducible refine bf (b := .append) (xs := #[.tmp 19, .tmp 24]) rfl ?_); at_builtin; refine ek (Kd.int .i64) (w0 := w) w.heap.size rfl (.tmp 19) (.tmp 24) 38 3 (.int .i64 0) 8 rfl Try.underlying38 info3 rfl (by decide) (by omega) ab3 O1 (wrap64 (a1 - af)) [.int .i64 (wrap64 (a1 - af))] (fun _ => True) (fun _ => False) rfl rfl ?aP (fun _ hk => hk.elim) ?aF ?aO ?aB ?aS ?aL ?_; (case aP => exact rfl); (case aB => exact (BL HB.1)); (case aF => exact (fun _ _ => trivial)); (case aO => exact (PR BG.1)); (case aS => exact (bZ HB.1)); (case aL => have := Ns.1; omega); intro avf yC ho hb hg hat; rw [<- ab4.1] at ho; refine E3 (bG dS.1 hg (dK BG.1 dS.1 (by decide))) (hb) (ho) ?_; clear dS HB BG; intro dS HB ab5; clear ho hb hg hat))
    repeat (go_quiet (first | ((with_reducible refine bf (b := .append) (xs := #[.tmp 19, .tmp 24]) rfl ?_); at_builtin; refine ek (Kd.int .i64) (w0 := w) w.heap.size rfl (.tmp 19) (.tmp 24) 38 3 (.int .i64 0) 8 rfl Try.underlying38 info3 rfl (by decide) (by omega) ab3 O1 (wrap64 (a1 - af)) [.int .i64 (wrap64 (a1 - af))] (fun _ => True) (fun _ => False) rfl rfl ?aP (fun _ hk => hk.elim) ?aF ?aO ?aB ?aS ?aL ?_; (case aP => exact rfl); (case aB => exact (BL HB.1)); (case aF => exact (fun _ _ => trivial)); (case aO => exact (PR BG.1)); (case aS => exact (bZ HB.1)); (case aL => have := Ns.1; omega); intro avf yC ho hb hg hat; rw [<- ab4.1] at ho; refine E3 (bG dS.1 hg (dK BG.1 dS.1 (by decide))) (hb) (ho) ?_; clear dS HB BG; intro dS HB ab5; clear ho hb hg hat)); try go_wp2_with (first | ((with_reducible refine bf (b := .append) (xs := #[.tmp 19, .tmp 24]) rfl ?_); at_builtin; refine ek (Kd.int .i64) (w0 := w) w.heap.size rfl (.tmp 19) (.tmp 24) 38 3 (.int .i64 0) 8 rfl Try.underlying38 info3 rfl (by decide) (by omega) ab3 O1 (wrap64 (a1 - af)) [.int .i64 (wrap64 (a1 - af))] (fun _ => True) (fun _ => False) rfl rfl ?aP (fun _ hk => hk.elim) ?aF ?aO ?aB ?aS ?aL ?_; (case aP => exact rfl); (case aB => exact (BL HB.1)); (case aF => exact (fun _ _ => trivial)); (case aO => exact (PR BG.1)); (case aS => exact (bZ HB.1)); (case aL => have := Ns.1; omega); intro avf yC ho hb hg hat; rw [<- ab4.1] at ho; refine E3 (bG dS.1 hg (dK BG.1 dS.1 (by decide))) (hb) (ho) ?_; clear dS HB BG; intro dS HB ab5; clear ho hb hg hat)))
    go_meet
    case rel => exact ⟨_, (aFR), H', ⟨by first | omega | exact Nat.le_refl _⟩, ⟨PR ab5.1⟩, ⟨PB dS.1⟩, ⟨BL HB.1⟩⟩
  have c9b0 : decide (0 < (wrap64 (Int.tdiv a1 af))) = false := decide_eq_false c9
  clear c9
  (first | rw [c9b0] | (simp only [cz, dF]; rw [c9b0]) | skip)
  have H' := aa.mk H
  clear H
  go_wp2
  repeat (go_quiet (fail); try go_wp2)
  go_meet
  case rel => exact ⟨_, (O1), H', ⟨by first | omega | exact Nat.le_refl _⟩, ⟨PR BG.1⟩, ⟨PB dS.1⟩, ⟨BL HB.1⟩⟩
 clear HC4
 try clear c3; clear c3b0 c3b1 lZ l5 mR l6 l7 mU
 obtain ⟨kq, Rn, HA, HJ3, HO_5, dS, HB⟩ := hcut
 cases kq with
 | zero => exact absurd HA.1 (by simp [bF.j0])
 | succ kj3 => ?_
 have H := HA.1
 clear HA
 simp only [bF.j0] at H
 have aoQ := aa.mk H
 clear H
 go_upto_if 27 with (fail)
 repeat (go_quiet (fail); go_upto_if 27 with (fail))
 go_cut [5] (fun v5 wc => ∃ (kq : Nat) (zm : List Int), aa (bF.j1 kq a1 zm (wrap64 (Int.tdiv a1 af)) (Int.tmod a1 af) ah af ae = some r) /\ aa (kq <= kj3) /\ aa (Kd.R (Kd.int .i64) 3 wc w.heap.size (fun _ => True) v5 zm) /\ aa (wc.heap[WM]? = some (.cells #[.int .i64 ah, .int .i64 af, (.slice aK ae.length aJ)] 30 (0, 0))) /\ aa (Below w.heap.size w wc))
 case first =>
  have H := aoQ.1
  clear aoQ
  replace H := oP H; rcases H with ⟨c14, H⟩ | ⟨c14, H⟩
  · have c14b0 : decide (0 < (Int.tmod a1 af)) = true := decide_eq_true c14
    clear c14
    (first | rw [c14b0] | (simp only [cz, dF]; rw [c14b0]) | skip)
    replace H := oC H; obtain ⟨c15, H⟩ := H
    have Lg := aa.mk c15
    clear c15
    generalize ake : ((Rn ++ [wrap64 (a1 - 1)]) : List Int) = aFS at H
    have ab6 := aa.mk ake.symm; clear ake
    have H' := aa.mk H
    clear H
    go_wp2_with (first | ((with_reducible refine bf (b := .append) (xs := #[.tmp 28, .tmp 31]) rfl ?_); at_builtin; refine ek (Kd.int .i64) (w0 := w) w.heap.size rfl (.tmp 28) (.tmp 31) 38 3 (.int .i64 0) 8 rfl Try.underlying38 info3 rfl (by decide) (by omega) u5 Rn (wrap64 (a1 - 1)) [.int .i64 (wrap64 (a1 - 1))] (fun _ => True) (fun _ => False) rfl rfl ?aP (fun _ hk => hk.elim) ?aF ?aO ?aB ?aS ?aL ?_; (case aP => exact rfl); (case aB => exact (BL HB.1)); (case aF => exact (fun _ _ => trivial)); (case aO => exact (PR HO_5.1)); (case aS => exact (bZ HB.1)); (case aL => have := Lg.1; omega); intro avg w16 ho hb hg hat; rw [<- ab6.1] at ho; refine E3 (bG dS.1 hg (dK HO_5.1 dS.1 (by decide))) (hb) (ho) ?_; clear dS HB HO_5; intro dS HB ab7; clear ho hb hg hat))
    repeat (go_quiet (first | ((with_reducible refine bf (b := .append) (xs := #[.tmp 28, .tmp 31]) rfl ?_); at_builtin; refine ek (Kd.int .i64) (w0 := w) w.heap.size rfl (.tmp 28) (.tmp 31) 38 3 (.int .i64 0) 8 rfl Try.underlying38 info3 rfl (by decide) (by omega) u5 Rn (wrap64 (a1 - 1)) [.int .i64 (wrap64 (a1 - 1))] (fun _ => True) (fun _ => False) rfl rfl ?aP (fun _ hk => hk.elim) ?aF ?aO ?aB ?aS ?aL ?_; (case aP => exact rfl); (case aB => exact (BL HB.1)); (case aF => exact (fun _ _ => trivial)); (case aO => exact (PR HO_5.1)); (case aS => exact (bZ HB.1)); (case aL => have := Lg.1; omega); intro avg w16 ho hb hg hat; rw [<- ab6.1] at ho; refine E3 (bG dS.1 hg (dK HO_5.1 dS.1 (by decide))) (hb) (ho) ?_; clear dS HB HO_5; intro dS HB ab7; clear ho hb hg hat)); try go_wp2_with (first | ((with_reducible refine bf (b := .append) (xs := #[.tmp 28, .tmp 31]) rfl ?_); at_builtin; refine ek (Kd.int .i64) (w0 := w) w.heap.size rfl (.tmp 28) (.tmp 31) 38 3 (.int .i64 0) 8 rfl Try.underlying38 info3 rfl (by decide) (by omega) u5 Rn (wrap64 (a1 - 1)) [.int .i64 (wrap64 (a1 - 1))] (fun _ => True) (fun _ => False) rfl rfl ?aP (fun _ hk => hk.elim) ?aF ?aO ?aB ?aS ?aL ?_; (case aP => exact rfl); (case aB => exact (BL HB.1)); (case aF => exact (fun _ _ => trivial)); (case aO => exact (PR HO_5.1)); (case aS => exact (bZ HB.1)); (case aL => have := Lg.1; omega); intro avg w16 ho hb hg hat; rw [<- ab6.1] at ho; refine E3 (bG dS.1 hg (dK HO_5.1 dS.1 (by decide))) (hb) (ho) ?_; clear dS HB HO_5; intro dS HB ab7; clear ho hb hg hat)))
    go_meet
    case rel => exact ⟨_, (aFS), H', ⟨by have := HJ3.1; first | omega | exact Nat.le_refl _⟩, ⟨PR ab7.1⟩, ⟨PB dS.1⟩, ⟨BL HB.1⟩⟩
  have c14b0 : decide (0 < (Int.tmod a1 af)) = false := decide_eq_false c14
  clear c14
  (first | rw [c14b0] | (simp only [cz, dF]; rw [c14b0]) | skip)
  have H' := aa.mk H
  clear H
  go_wp2
  repeat (go_quiet (fail); try go_wp2)
  go_meet
  case rel => exact ⟨_, (Rn), H', ⟨by have := HJ3.1; first | omega | exact Nat.le_refl _⟩, ⟨PR HO_5.1⟩, ⟨PB dS.1⟩, ⟨BL HB.1⟩⟩
 clear aoQ
 obtain ⟨kq, zm, HA, aPh, HO_5, dS, HB⟩ := hcut
 cases kq with
 | zero => exact absurd HA.1 (by simp [bF.j1])
 | succ aPi => ?_
 have H := HA.1
 clear HA
 simp only [bF.j1] at H
 replace H := pu H; rcases H with ⟨c17b0, H⟩ | ⟨c17b0, H⟩
 · replace H := oC H; obtain ⟨c18, H⟩ := H
   have D7 := aa.mk c18
   clear c18
   replace H := nR H; obtain ⟨Rm, Nt, H⟩ := H
   replace H := pu H; rcases H with ⟨c19b0, H⟩ | ⟨c19b0, H⟩
   · replace H := oC H; obtain ⟨c20, H⟩ := H
     have ab8 := aa.mk c20
     clear c20
     generalize akf : ((Rm ++ [wrap64 (a1 + af)]) : List Int) = aPj at H
     have ab9 := aa.mk akf.symm; clear akf
     obtain rfl := Option.some.inj H
     obtain ⟨uJ, uK, xK, uL, uM, xL⟩ := gB dS.1
     go_wp2_with (first | ((with_reducible refine bf (b := .append) (xs := #[.tmp 38, .tmp 41]) rfl ?_); at_builtin; refine ek (Kd.int .i64) (w0 := w) w.heap.size rfl (.tmp 38) (.tmp 41) 38 3 (.int .i64 0) 8 rfl Try.underlying38 info3 rfl (by decide) (by omega) u5 zm (wrap64 (a1 + 1)) [.int .i64 (wrap64 (a1 + 1))] (fun _ => True) (fun _ => False) rfl rfl ?aP (fun _ hk => hk.elim) ?aF ?aO ?aB ?aS ?aL ?_; (case aP => exact rfl); (case aB => exact (BL HB.1)); (case aF => exact (fun _ _ => trivial)); (case aO => exact (PR HO_5.1)); (case aS => exact (bZ HB.1)); (case aL => have := D7.1; omega); intro Ro BM ho hb hg hat; rw [<- Nt.1] at ho; refine E3 (bG dS.1 hg (dK HO_5.1 dS.1 (by decide))) (hb) (ho) ?_; clear dS HB HO_5; intro dS HB xn; clear ho hb hg hat; obtain ⟨FI, FJ, FL, FM, FN, FO⟩ := gB dS.1) | ((with_reducible refine bf (b := .append) (xs := #[.tmp 48, .tmp 53]) rfl ?_); at_builtin; refine ek (Kd.int .i64) (w0 := w) w.heap.size rfl (.tmp 48) (.tmp 53) 38 3 (.int .i64 0) 8 rfl Try.underlying38 info3 rfl (by decide) (by omega) Ro Rm (wrap64 (a1 + af)) [.int .i64 (wrap64 (a1 + af))] (fun _ => True) (fun _ => False) rfl rfl ?aP (fun _ hk => hk.elim) ?aF ?aO ?aB ?aS ?aL ?_; (case aP => exact rfl); (case aB => exact (BL HB.1)); (case aF => exact (fun _ _ => trivial)); (case aO => exact (PR xn.1)); (case aS => exact (bZ HB.1)); (case aL => have := ab8.1; omega); intro avh Mi ho hb hg hat; rw [<- ab9.1] at ho; refine E3 (bG dS.1 hg (dK xn.1 dS.1 (by decide))) (hb) (ho) ?_; clear dS HB xn; intro dS HB aca; clear ho hb hg hat))
     repeat (go_quiet (first | ((with_reducible refine bf (b := .append) (xs := #[.tmp 38, .tmp 41]) rfl ?_); at_builtin; refine ek (Kd.int .i64) (w0 := w) w.heap.size rfl (.tmp 38) (.tmp 41) 38 3 (.int .i64 0) 8 rfl Try.underlying38 info3 rfl (by decide) (by omega) u5 zm (wrap64 (a1 + 1)) [.int .i64 (wrap64 (a1 + 1))] (fun _ => True) (fun _ => False) rfl rfl ?aP (fun _ hk => hk.elim) ?aF ?aO ?aB ?aS ?aL ?_; (case aP => exact rfl); (case aB => exact (BL HB.1)); (case aF => exact (fun _ _ => trivial)); (case aO => exact (PR HO_5.1)); (case aS => exact (bZ HB.1)); (case aL => have := D7.1; omega); intro Ro BM ho hb hg hat; rw [<- Nt.1] at ho; refine E3 (bG dS.1 hg (dK HO_5.1 dS.1 (by decide))) (hb) (ho) ?_; clear dS HB HO_5; intro dS HB xn; clear ho hb hg hat; obtain ⟨FI, FJ, FL, FM, FN, FO⟩ := gB dS.1) | ((with_reducible refine bf (b := .append) (xs := #[.tmp 48, .tmp 53]) rfl ?_); at_builtin; refine ek (Kd.int .i64) (w0 := w) w.heap.size rfl (.tmp 48) (.tmp 53) 38 3 (.int .i64 0) 8 rfl Try.underlying38 info3 rfl (by decide) (by omega) Ro Rm (wrap64 (a1 + af)) [.int .i64 (wrap64 (a1 + af))] (fun _ => True) (fun _ => False) rfl rfl ?aP (fun _ hk => hk.elim) ?aF ?aO ?aB ?aS ?aL ?_; (case aP => exact rfl); (case aB => exact (BL HB.1)); (case aF => exact (fun _ _ => trivial)); (case aO => exact (PR xn.1)); (case aS => exact (bZ HB.1)); (case aL => have := ab8.1; omega); intro avh Mi ho hb hg hat; rw [<- ab9.1] at ho; refine E3 (bG dS.1 hg (dK xn.1 dS.1 (by decide))) (hb) (ho) ?_; clear dS HB xn; intro dS HB aca; clear ho hb hg hat)); try go_wp2_with (first | ((with_reducible refine bf (b := .append) (xs := #[.tmp 38, .tmp 41]) rfl ?_); at_builtin; refine ek (Kd.int .i64) (w0 := w) w.heap.size rfl (.tmp 38) (.tmp 41) 38 3 (.int .i64 0) 8 rfl Try.underlying38 info3 rfl (by decide) (by omega) u5 zm (wrap64 (a1 + 1)) [.int .i64 (wrap64 (a1 + 1))] (fun _ => True) (fun _ => False) rfl rfl ?aP (fun _ hk => hk.elim) ?aF ?aO ?aB ?aS ?aL ?_; (case aP => exact rfl); (case aB => exact (BL HB.1)); (case aF => exact (fun _ _ => trivial)); (case aO => exact (PR HO_5.1)); (case aS => exact (bZ HB.1)); (case aL => have := D7.1; omega); intro Ro BM ho hb hg hat; rw [<- Nt.1] at ho; refine E3 (bG dS.1 hg (dK HO_5.1 dS.1 (by decide))) (hb) (ho) ?_; clear dS HB HO_5; intro dS HB xn; clear ho hb hg hat; obtain ⟨FI, FJ, FL, FM, FN, FO⟩ := gB dS.1) | ((with_reducible refine bf (b := .append) (xs := #[.tmp 48, .tmp 53]) rfl ?_); at_builtin; refine ek (Kd.int .i64) (w0 := w) w.heap.size rfl (.tmp 48) (.tmp 53) 38 3 (.int .i64 0) 8 rfl Try.underlying38 info3 rfl (by decide) (by omega) Ro Rm (wrap64 (a1 + af)) [.int .i64 (wrap64 (a1 + af))] (fun _ => True) (fun _ => False) rfl rfl ?aP (fun _ hk => hk.elim) ?aF ?aO ?aB ?aS ?aL ?_; (case aP => exact rfl); (case aB => exact (BL HB.1)); (case aF => exact (fun _ _ => trivial)); (case aO => exact (PR xn.1)); (case aS => exact (bZ HB.1)); (case aL => have := ab8.1; omega); intro avh Mi ho hb hg hat; rw [<- ab9.1] at ho; refine E3 (bG dS.1 hg (dK xn.1 dS.1 (by decide))) (hb) (ho) ?_; clear dS HB xn; intro dS HB aca; clear ho hb hg hat)))
     go_ret
     exact ⟨_, RF, pm (aca.1), BL HB.1⟩
   obtain rfl := Option.some.inj H
   obtain ⟨CQ, CR, JB, CS, CU, JC⟩ := gB dS.1
   go_wp2_with (first | ((with_reducible refine bf (b := .append) (xs := #[.tmp 38, .tmp 41]) rfl ?_); at_builtin; refine ek (Kd.int .i64) (w0 := w) w.heap.size rfl (.tmp 38) (.tmp 41) 38 3 (.int .i64 0) 8 rfl Try.underlying38 info3 rfl (by decide) (by omega) u5 zm (wrap64 (a1 + 1)) [.int .i64 (wrap64 (a1 + 1))] (fun _ => True) (fun _ => False) rfl rfl ?aP (fun _ hk => hk.elim) ?aF ?aO ?aB ?aS ?aL ?_; (case aP => exact rfl); (case aB => exact (BL HB.1)); (case aF => exact (fun _ _ => trivial)); (case aO => exact (PR HO_5.1)); (case aS => exact (bZ HB.1)); (case aL => have := D7.1; omega); intro Ro w26 ho hb hg hat; rw [<- Nt.1] at ho; refine E3 (bG dS.1 hg (dK HO_5.1 dS.1 (by decide))) (hb) (ho) ?_; clear dS HB HO_5; intro dS HB xn; clear ho hb hg hat; obtain ⟨Aj, Ak, Jz, Al, Am, JA⟩ := gB dS.1))
   repeat (go_quiet (first | ((with_reducible refine bf (b := .append) (xs := #[.tmp 38, .tmp 41]) rfl ?_); at_builtin; refine ek (Kd.int .i64) (w0 := w) w.heap.size rfl (.tmp 38) (.tmp 41) 38 3 (.int .i64 0) 8 rfl Try.underlying38 info3 rfl (by decide) (by omega) u5 zm (wrap64 (a1 + 1)) [.int .i64 (wrap64 (a1 + 1))] (fun _ => True) (fun _ => False) rfl rfl ?aP (fun _ hk => hk.elim) ?aF ?aO ?aB ?aS ?aL ?_; (case aP => exact rfl); (case aB => exact (BL HB.1)); (case aF => exact (fun _ _ => trivial)); (case aO => exact (PR HO_5.1)); (case aS => exact (bZ HB.1)); (case aL => have := D7.1; omega); intro Ro w26 ho hb hg hat; rw [<- Nt.1] at ho; refine E3 (bG dS.1 hg (dK HO_5.1 dS.1 (by decide))) (hb) (ho) ?_; clear dS HB HO_5; intro dS HB xn; clear ho hb hg hat; obtain ⟨Aj, Ak, Jz, Al, Am, JA⟩ := gB dS.1)); try go_wp2_with (first | ((with_reducible refine bf (b := .append) (xs := #[.tmp 38, .tmp 41]) rfl ?_); at_builtin; refine ek (Kd.int .i64) (w0 := w) w.heap.size rfl (.tmp 38) (.tmp 41) 38 3 (.int .i64 0) 8 rfl Try.underlying38 info3 rfl (by decide) (by omega) u5 zm (wrap64 (a1 + 1)) [.int .i64 (wrap64 (a1 + 1))] (fun _ => True) (fun _ => False) rfl rfl ?aP (fun _ hk => hk.elim) ?aF ?aO ?aB ?aS ?aL ?_; (case aP => exact rfl); (case aB => exact (BL HB.1)); (case aF => exact (fun _ _ => trivial)); (case aO => exact (PR HO_5.1)); (case aS => exact (bZ HB.1)); (case aL => have := D7.1; omega); intro Ro w26 ho hb hg hat; rw [<- Nt.1] at ho; refine E3 (bG dS.1 hg (dK HO_5.1 dS.1 (by decide))) (hb) (ho) ?_; clear dS HB HO_5; intro dS HB xn; clear ho hb hg hat; obtain ⟨Aj, Ak, Jz, Al, Am, JA⟩ := gB dS.1)))
   go_ret
   exact ⟨_, RF, pm (xn.1), BL HB.1⟩
 replace H := pu H; rcases H with ⟨c28b0, H⟩ | ⟨c28b0, H⟩
 · replace H := oC H; obtain ⟨c29, H⟩ := H
   have Ri := aa.mk c29
   clear c29
   generalize akg : ((zm ++ [wrap64 (a1 + af)]) : List Int) = aPk at H
   have acb := aa.mk akg.symm; clear akg
   obtain rfl := Option.some.inj H
   obtain ⟨zV, zW, Fh, zX, zY, Fj⟩ := gB dS.1
   go_wp2_with (first | ((with_reducible refine bf (b := .append) (xs := #[.tmp 48, .tmp 53]) rfl ?_); at_builtin; refine ek (Kd.int .i64) (w0 := w) w.heap.size rfl (.tmp 48) (.tmp 53) 38 3 (.int .i64 0) 8 rfl Try.underlying38 info3 rfl (by decide) (by omega) u5 zm (wrap64 (a1 + af)) [.int .i64 (wrap64 (a1 + af))] (fun _ => True) (fun _ => False) rfl rfl ?aP (fun _ hk => hk.elim) ?aF ?aO ?aB ?aS ?aL ?_; (case aP => exact rfl); (case aB => exact (BL HB.1)); (case aF => exact (fun _ _ => trivial)); (case aO => exact (PR HO_5.1)); (case aS => exact (bZ HB.1)); (case aL => have := Ri.1; omega); intro avi w31 ho hb hg hat; rw [<- acb.1] at ho; refine E3 (bG dS.1 hg (dK HO_5.1 dS.1 (by decide))) (hb) (ho) ?_; clear dS HB HO_5; intro dS HB acd; clear ho hb hg hat))
   repeat (go_quiet (first | ((with_reducible refine bf (b := .append) (xs := #[.tmp 48, .tmp 53]) rfl ?_); at_builtin; refine ek (Kd.int .i64) (w0 := w) w.heap.size rfl (.tmp 48) (.tmp 53) 38 3 (.int .i64 0) 8 rfl Try.underlying38 info3 rfl (by decide) (by omega) u5 zm (wrap64 (a1 + af)) [.int .i64 (wrap64 (a1 + af))] (fun _ => True) (fun _ => False) rfl rfl ?aP (fun _ hk => hk.elim) ?aF ?aO ?aB ?aS ?aL ?_; (case aP => exact rfl); (case aB => exact (BL HB.1)); (case aF => exact (fun _ _ => trivial)); (case aO => exact (PR HO_5.1)); (case aS => exact (bZ HB.1)); (case aL => have := Ri.1; omega); intro avi w31 ho hb hg hat; rw [<- acb.1] at ho; refine E3 (bG dS.1 hg (dK HO_5.1 dS.1 (by decide))) (hb) (ho) ?_; clear dS HB HO_5; intro dS HB acd; clear ho hb hg hat)); try go_wp2_with (first | ((with_reducible refine bf (b := .append) (xs := #[.tmp 48, .tmp 53]) rfl ?_); at_builtin; refine ek (Kd.int .i64) (w0 := w) w.heap.size rfl (.tmp 48) (.tmp 53) 38 3 (.int .i64 0) 8 rfl Try.underlying38 info3 rfl (by decide) (by omega) u5 zm (wrap64 (a1 + af)) [.int .i64 (wrap64 (a1 + af))] (fun _ => True) (fun _ => False) rfl rfl ?aP (fun _ hk => hk.elim) ?aF ?aO ?aB ?aS ?aL ?_; (case aP => exact rfl); (case aB => exact (BL HB.1)); (case aF => exact (fun _ _ => trivial)); (case aO => exact (PR HO_5.1)); (case aS => exact (bZ HB.1)); (case aL => have := Ri.1; omega); intro avi w31 ho hb hg hat; rw [<- acb.1] at ho; refine E3 (bG dS.1 hg (dK HO_5.1 dS.1 (by decide))) (hb) (ho) ?_; clear dS HB HO_5; intro dS HB acd; clear ho hb hg hat)))
   go_ret
   exact ⟨_, RF, pm (acd.1), BL HB.1⟩
 obtain rfl := Option.some.inj H
 obtain ⟨J2, J3, J4, J5, J6, J7⟩ := gB dS.1
 go_wp2
 repeat (go_quiet (fail); try go_wp2)
 go_ret
 exact ⟨_, RF, pm (HO_5.1), BL HB.1⟩
mutual
def av.l0 : Nat -> List Int -> Int -> Int -> Int -> Int -> List (fq) -> Option (List Int)
 | 0, _, _, _, _, _, _ => none
 | k + 1, x3, xC, Qk, nk, nu, kV => if Qk < xC then (if 0 <= Qk then (if Qk < (x3.length : Int) then (av.l0 k (x3.set (Qk : Int).toNat (-1)) xC (wrap64 (Qk + 1)) nk nu kV) else (none)) else (none)) else (av.l1 k x3 0 kV (kV.length : Int) 0 nk nu kV)
def av.l1 : Nat -> List Int -> Int -> List (fq) -> Int -> Int -> Int -> Int -> List (fq) -> Option (List Int)
 | 0, _, _, _, _, _, _, _, _ => none
 | k + 1, x3, x5, qx, x27, x28, nk, nu, kV => if x28 < x27 then (if 0 <= x28 then (if x28 < (qx.length : Int) then ((jO.f ((aj qx x28).f0) ((aj qx x28).f1)).bind fun avj => (if avj = true then (if x28 < (x3.length : Int) then (av.j2 k x3 x5 x28 qx x27 x28 (decide ((rd x3 x28) ≥ 0)) nk nu kV) else (none)) else (av.j2 k x3 x5 x28 qx x27 x28 true nk nu kV))) else (none)) else (none)) else (some x3)
def av.j2 : Nat -> List Int -> Int -> Int -> List (fq) -> Int -> Int -> Bool -> Int -> Int -> List (fq) -> Option (List Int)
 | 0, _, _, _, _, _, _, _, _, _, _ => none
 | k + 1, x3, x5, x6, qx, x27, x28, x42, nk, nu, kV => if x42 = true then (av.l1 k x3 x5 qx x27 (wrap64 (x28 + 1)) nk nu kV) else (if 0 <= x6 then (if x6 < (x3.length : Int) then (av.l2 k (x3.set (x6 : Int).toNat x5) x5 (([x6] : List Int)) qx x27 x28 nk nu kV) else (none)) else (none))
def av.l2 : Nat -> List Int -> Int -> List Int -> List (fq) -> Int -> Int -> Int -> Int -> List (fq) -> Option (List Int)
 | 0, _, _, _, _, _, _, _, _, _ => none
 | k + 1, x3, x5, x8, qx, x27, x28, nk, nu, kV => if (x8.length : Int) > 0 then (if 0 < (x8.length : Int) then (if 1 <= (x8.length : Int) then ((bF.f k nk nu kV (rd x8 0)).bind fun lG => (av.l3 k x3 x5 (x8.drop (1 : Int).toNat) qx x27 x28 lG (lG.length : Int) 0 nk nu kV)) else (none)) else (none)) else (av.l1 k x3 (wrap64 (x5 + 1)) qx x27 (wrap64 (x28 + 1)) nk nu kV)
def av.l3 : Nat -> List Int -> Int -> List Int -> List (fq) -> Int -> Int -> List Int -> Int -> Int -> Int -> Int -> List (fq) -> Option (List Int)
 | 0, _, _, _, _, _, _, _, _, _, _, _, _ => none
 | k + 1, x3, x5, x8, qx, x27, x28, ZK, KU, DN, nk, nu, kV => if DN < KU then (if 0 <= DN then (if DN < (ZK.length : Int) then (if 0 <= (rd ZK DN) then (if (rd ZK DN) < (kV.length : Int) then ((jO.f ((aj kV (rd ZK DN)).f0) ((aj kV (rd ZK DN)).f1)).bind fun avk => (if avk = true then (if (rd ZK DN) < (x3.length : Int) then (if (rd x3 (rd ZK DN)) < 0 then (if x8.length < 17592186044416 then (av.l3 k (x3.set ((rd ZK DN) : Int).toNat x5) x5 (x8 ++ [rd ZK DN]) qx x27 x28 ZK KU (wrap64 (DN + 1)) nk nu kV) else (none)) else (av.l3 k x3 x5 x8 qx x27 x28 ZK KU (wrap64 (DN + 1)) nk nu kV)) else (none)) else (av.l3 k x3 x5 x8 qx x27 x28 ZK KU (wrap64 (DN + 1)) nk nu kV))) else (none)) else (none)) else (none)) else (none)) else (av.l2 k x3 x5 x8 qx x27 x28 nk nu kV)
end
def av.f (k : Nat) (ah : Int) (af : Int) (ae : List (fq)) : Option (List Int) := if 0 <= (ae.length : Int) then (if ((ae.length : Int) : Int).toNat <= 35184372088832 then ((some (List.replicate ((ae.length : Int) : Int).toNat 0 : List Int)).bind fun YZ => (av.l0 k YZ (YZ.length : Int) 0 ah af ae)) else (none)) else (none)
theorem av.mono_l : ∀ k, (∀ y0 y1 y2 y3 y4 y5, dO (av.l0 k y0 y1 y2 y3 y4 y5) (av.l0 (k + 1) y0 y1 y2 y3 y4 y5)) /\ (∀ y0 y1 y2 y3 y4 y5 y6 y7, dO (av.l1 k y0 y1 y2 y3 y4 y5 y6 y7) (av.l1 (k + 1) y0 y1 y2 y3 y4 y5 y6 y7)) /\ (∀ y0 y1 y2 y3 y4 y5 y6 y7 y8 y9, dO (av.j2 k y0 y1 y2 y3 y4 y5 y6 y7 y8 y9) (av.j2 (k + 1) y0 y1 y2 y3 y4 y5 y6 y7 y8 y9)) /\ (∀ y0 y1 y2 y3 y4 y5 y6 y7 y8, dO (av.l2 k y0 y1 y2 y3 y4 y5 y6 y7 y8) (av.l2 (k + 1) y0 y1 y2 y3 y4 y5 y6 y7 y8)) /\ (∀ y0 y1 y2 y3 y4 y5 y6 y7 y8 y9 IG MV, dO (av.l3 k y0 y1 y2 y3 y4 y5 y6 y7 y8 y9 IG MV) (av.l3 (k + 1) y0 y1 y2 y3 y4 y5 y6 y7 y8 y9 IG MV))
 | 0 => by refine ⟨?_, ?_, ?_, ?_, ?_⟩ <;> (intros; intro r h; first | (simp [av.l0] at h; done) | (simp [av.l1] at h; done) | (simp [av.j2] at h; done) | (simp [av.l2] at h; done) | (simp [av.l3] at h; done))
 | k + 1 => by
  obtain ⟨ja, ih1, ih2, ih3, ih4⟩ := av.mono_l k
  refine ⟨?_, ?_, ?_, ?_, ?_⟩ <;> (
   intros
   first | unfold av.l0 | unfold av.l1 | unfold av.j2 | unfold av.l2 | unfold av.l3
   exact LM6 ja ih1 ih2 ih3 ih4 bF.mono)
theorem av.mono : ∀ a0 a1 a2 k, dO (av.f k a0 a1 a2) (av.f (k + 1) a0 a1 a2) := by
 intro a0 a1 a2 k
 obtain ⟨ja, ih1, ih2, ih3, ih4⟩ := av.mono_l k
 unfold av.f
 exact LM6 ja ih1 ih2 ih3 ih4 bF.mono
theorem av.calls (k : Nat) (ah : Int) (af : Int) (aK : Option Addr) (aJ : Nat) (ae : List (fq)) (r : List Int) (w : World) (dH : Kd.C jZ w aK ae.length ae) (dG : ae.length <= aJ) (h : av.f k ah af ae = some r) :
 Calls Try.prog 74 #[.agg #[.int .i64 ah, .int .i64 af, .slice aK ae.length aJ]] w fun e w' => ∃ rO : Value, e = .returned (rO) /\ Kd.R (Kd.int .i64) 3 w' w.heap.size (fun _ => True) rO r /\ Below w.heap.size w w' := by
 have nH := Try.underlying30
 have xE := Try.underlying83
 have bD := aa.mk dH
 have cO := aa.mk dG
 clear dH dG
 have HB := aa.mk (Below.refl w.heap.size w)
 have H := h
 clear h
 unfold av.f at H
 replace H := oC H; obtain ⟨c2, H⟩ := H
 have c2b0 := eq_true c2
 have c2b1 := decide_eq_true c2
 clear c2
 replace H := oC H; obtain ⟨c3, H⟩ := H
 have c3b0 := eq_true c3
 have c3b1 := decide_eq_true c3
 clear c3
 replace H := nR H; obtain ⟨YZ, akh, H⟩ := H
 have H' := aa.mk H
 clear H
 go_enter Try.func74, Try.ntmps74
 go_wp2_with (first | ((with_reducible refine aC (N := 1) rfl ?_); refine dN (cs := #[.int .i64 ah, .int .i64 af, .slice aK ae.length aJ]) (t := 30) ?_; intro Lh hg w4 hbox hb; refine mJ HB.1 hg hbox hb ?_; clear HB; intro HB gp aKA aKB; clear hb hbox hg; obtain ⟨Au, Av, EA, Aw, Ay, EB⟩ := gB gp.1) | ((with_reducible refine aC (N := 15) rfl ?_); refine yH (Kd.int .i64) _ 3 rfl (N := 15) rfl 38 _ _ rfl (ae.length : Int) rfl rfl Try.underlying38 (.int .i64 0) 8 info3 rfl (by decide) (by omega) 0 (ok := fun _ => True) (okp := fun _ => True) rfl (fun _ hk => hk) trivial (OD) (Nat.le_trans (Nat.mul_le_mul_right _ (OD : (ae.length : Int).toNat <= 35184372088832)) (by omega)) (Below.refl _ _) (Nat.le_refl _) ?_; intro aPl w6 yY hb hg_ hnew_; clear hg_ hnew_; (first | rw [<- akh.1] at yY | (simp only [Int.reduceToNat] at yY; rw [<- akh.1] at yY)); refine E3 (bN yY (bZ HB.1)) (bB gp.1 hb) (bS HB.1 hb) ?_; clear gp HB; intro aki gp HB; clear hb yY; obtain ⟨Ao8, yZ, eo8⟩ := bv aki.1; subst eo8))
 go_loopg [18] k (fun kq v18 w' => ∃ (ky : List Int) (qF : Int), v18 = .int .i64 qF /\ aa (av.l0 kq ky (YZ.length : Int) qF ah af ae = some r) /\ aa (kq <= k) /\ aa (Kd.R (Kd.int .i64) 3 w' w.heap.size (fun _ => True) (.slice Ao8 YZ.length yZ) ky) /\ aa (w'.heap[Lh]? = some (.cells #[.int .i64 ah, .int .i64 af, (.slice aK ae.length aJ)] 30 (0, 0))) /\ aa (Below w.heap.size w w'))
 case atStart => exact ⟨(YZ), (0), RG, H', ⟨Nat.le_refl _⟩, ⟨PR aki.1⟩, ⟨PB gp.1⟩, ⟨BL HB.1⟩⟩
 clear H'
 clear c2b0 c2b1 c3b0 c3b1 Au Av EA Aw Ay EB
 obtain ⟨ky, qF, rfl, HA, iB, HO_3, gp, HB⟩ := hrel
 have dU := (ay HO_3.1).1
 rw [dU] at HO_3
 (try simp only [dU])
 (try simp only [dU] at gp)
 cases gk with
 | zero => exact absurd HA.1 (by simp [av.l0])
 | succ k1 => ?_
 have H := HA.1
 clear HA
 simp only [av.l0] at H
 replace H := pu H; rcases H with ⟨c9b0, H⟩ | ⟨c9b0, H⟩
 · replace H := ji H; obtain ⟨c10b0, H⟩ := H
   replace H := ji H; obtain ⟨c11b0, H⟩ := H
   generalize akj : ((ky.set (qF : Int).toNat (-1)) : List Int) = avl at H
   have avm := aa.mk akj.symm; clear akj
   have H' := aa.mk H
   clear H
   have SF : 0 <= (qF : Int) := OD
   have SG : (qF : Int) < ((ky.length : Int) : Int) := OD
   obtain ⟨tL, rM, vF, KV, TG, ano, KW⟩ := mQ HO_3.1 (by omega)
   (first | cases vF | (injection vF with ea_ en_ ec_; (first | subst ea_ | (injection ea_ with ea_; subst ea_)); subst ec_; clear en_))
   have QR := aa.mk KV
   have anp := aa.mk KW
   clear KV TG KW
   obtain ⟨Ib, KR⟩ := lC 0 HO_3.1 (qF : Int) SF SG
   replace SF := eq_true SF
   replace SG := eq_true SG
   have KX := qV HO_3.1 (qF : Int) (-1)
   go_wp2_with (first | ((with_reducible refine gK (t := 3) (p := 23) rfl ?_); refine lX (t := 3) (p := 23) (w1 := (wr.setCell ⟨tL, (qF : Int).toNat, none⟩ (.int .i64 (-1)))) ?_; intro yM hw; have hg : wr.grownBy yM (some tL) := (by rw [hw]; exact KX.2); have hp_ : Kd.R (Kd.int .i64) 3 yM w.heap.size (fun _ => True) (.slice (some ⟨tL, 0, none⟩) ky.length yZ) avl := (by rw [hw, avm.1]; exact KX.1); clear KX; refine E3 (hp_) (bG gp.1 hg (dK HO_3.1 gp.1 (by decide))) ((by rw [hw]; exact il (HB.1) QR.1 : Below w.heap.size w yM)) ?_; clear HO_3 gp HB; intro HO_3 gp HB; clear hg hw hp_))
   (try simp only [<- dU])
   go_roundg k1
   case measure => have := iB.1; omega
   case rel => exact ⟨(avl), (wrap64 (qF + 1)), RG, H', ⟨by have := iB.1; omega⟩, ⟨ER HO_3.1 dU⟩, ⟨Er gp.1 dU⟩, ⟨BL HB.1⟩⟩
 (try simp only [dU] at c9b0)
 have H' := aa.mk H
 clear H
 obtain ⟨sD, sF, wN, sG, sH, wO⟩ := gB gp.1
 go_wp2
 go_loopg [5, 28] k1 (fun kq v5 v28 w' => ∃ (sI : List Int) (ol : Int) (dV : Int), v5 = .int .i64 ol /\ v28 = .int .i64 dV /\ aa (av.l1 kq sI ol ae (ae.length : Int) dV ah af ae = some r) /\ aa (kq <= k1) /\ aa (Kd.R (Kd.int .i64) 3 w' w.heap.size (fun _ => True) (.slice Ao8 ky.length yZ) sI) /\ aa (w'.heap[Lh]? = some (.cells #[.int .i64 ah, .int .i64 af, (.slice aK ae.length aJ)] 30 (0, 0))) /\ aa (Below w.heap.size w w'))
 case atStart => exact ⟨(ky), (0), (0), RG, RG, H', ⟨Nat.le_refl _⟩, ⟨ER HO_3.1 dU⟩, ⟨Er gp.1 dU⟩, ⟨BL HB.1⟩⟩
 clear H'
 clear c9b0 sD sF wN sG sH wO
 obtain ⟨sI, ol, dV, rfl, rfl, HA, nG, HO_3, gp, HB⟩ := hrel
 have eO := (ay HO_3.1).1
 rw [eO] at HO_3
 (try simp only [eO])
 (try simp only [eO] at gp)
 cases gk with
 | zero => exact absurd HA.1 (by simp [av.l1])
 | succ k2 => ?_
 have H := HA.1
 clear HA
 simp only [av.l1] at H
 replace H := pu H; rcases H with ⟨c16b0, H⟩ | ⟨c16b0, H⟩
 · replace H := ji H; obtain ⟨c17b0, H⟩ := H
   replace H := ji H; obtain ⟨c18b0, H⟩ := H
   have TH := aa.mk H
   clear H
   have afZ : 0 <= (dV : Int) := OD
   have af0 : dV < (ae.length : Int) := OD
   obtain ⟨Gm, aFT, J8, J9⟩ := iP bD.1 dV afZ af0
   cases aFT
   replace J8 := (HB.1.cell (World.block_lt_of_cell? w _ J8)).trans J8
   replace J9 := (HB.1.cell (World.block_lt_of_cell? w _ J9)).trans J9
   replace afZ := eq_true afZ
   replace af0 := eq_true af0
   go_upto_region 11 with (first | ((with_reducible refine aC (N := 7) rfl ?_); refine dN (cs := #[.int .i64 0, .int .i64 0]) (t := 83) ?_; intro Gn hg ZJ hbox hb; refine E8 (rB HO_3.1 hb) (bB gp.1 hb) (bS HB.1 hb) (hbox) (gX HB.1 hg) (gX HB.1 hg) (nB gp.1 hg) (nC gp.1 hg) ?_; clear HO_3 gp HB; intro HO_3 gp HB jr aKC aKD Ij Y0; clear hb hbox hg; have aaO := Y0.1; have aaP := Ij.1; obtain ⟨wJ, wK, wL, wM⟩ := nO jr.1))
   (try simp only [Act.put, List.setIfInBounds_toArray, List.set_cons_zero, List.set_cons_succ])
   go_cut [42] (fun v42 wc => ∃ (kq : Nat) (EC : Bool), v42 = .bool EC /\ aa (av.j2 kq sI ol dV ae (ae.length : Int) dV EC ah af ae = some r) /\ aa (kq <= k2) /\ aa (Kd.R (Kd.int .i64) 3 wc w.heap.size (fun _ => True) (.slice Ao8 sI.length yZ) sI) /\ aa (wc.heap[Lh]? = some (.cells #[.int .i64 ah, .int .i64 af, (.slice (some Gm) ae.length aJ)] 30 (0, 0))) /\ aa (wc.heap[Gn]? = some (.cells #[.int .i64 ((aj ae dV).f0), .int .i64 ((aj ae dV).f1)] 83 (0, 0))) /\ aa (Below w.heap.size w wc))
   case first =>
    have H := TH.1
    clear TH
    replace H := dz H; obtain ⟨avj, A23, H⟩ := H
    replace H := Cm H; rcases H with ⟨rfl, H⟩ | ⟨rfl, H⟩
    · replace H := ji H; obtain ⟨c25b0, H⟩ := H
      (first | rw [c25b0] | (simp only [cz, dF]; rw [c25b0]) | skip)
      have H' := aa.mk H
      clear H
      obtain ⟨Aj, Ak, Al, Am⟩ := nO jr.1
      go_wp2_with (first | ((with_reducible refine aA (f := 87) rfl ?_); refine cK (N := (some 34)) #[.agg #[.int .i64 ((aj ae dV).f0), .int .i64 ((aj ae dV).f1)]] Try.func87 ?_; (with_reducible refine (jO.calls ((aj ae dV).f0) ((aj ae dV).f1) true _ A23.1).mono ?_); rintro e w28 ⟨rfl, hb⟩; refine ⟨_, rfl, ?_⟩; refine E4 (jf (by (with_reducible repeat (first | apply aV | apply aW | apply aQ)); exact (aG (RQ Gn 1 (RQ Gn 0 (bz HO_3.1 jr.1 (by decide)) _) _) (fun _ h_ => h_.1))) hb) (dh (g := Lh) (o := .cells #[.int .i64 ah, .int .i64 af, .slice (some Gm) ae.length aJ] 30 (0, 0)) (xB Ij.1 gp.1) hb) (dh (g := Gn) (o := .cells #[.int .i64 ((aj ae dV).f0), .int .i64 ((aj ae dV).f1)] 83 (0, 0)) (BB jr.1) hb) (bS HB.1 hb) ?_; clear HO_3 gp jr HB; intro HO_3 gp jr HB; (try clear hb); have aoR : 0 <= (dV : Int) := OD; have aoS : dV < (sI.length : Int) := OD; obtain ⟨aKE, aFU, az3⟩ := Kd.dx (ay HO_3.1).2.2 dV aoR aoS; cases aFU; replace aoR := eq_true aoR; replace aoS := eq_true aoS))
      go_meet
      case rel => exact ⟨_, (decide ((rd sI dV) ≥ 0)), RG, H', ⟨by have := iB.1; have := nG.1; first | omega | exact Nat.le_refl _⟩, ⟨MZ HO_3.1 dU eO⟩, ⟨HY gp.1 dU eO⟩, ⟨HY jr.1 dU eO⟩, ⟨BL HB.1⟩⟩
    have H' := aa.mk H
    clear H
    obtain ⟨zV, zW, zX, zY⟩ := nO jr.1
    go_wp2_with (first | ((with_reducible refine aA (f := 87) rfl ?_); refine cK (N := (some 34)) #[.agg #[.int .i64 ((aj ae dV).f0), .int .i64 ((aj ae dV).f1)]] Try.func87 ?_; (with_reducible refine (jO.calls ((aj ae dV).f0) ((aj ae dV).f1) false _ A23.1).mono ?_); rintro e w31 ⟨rfl, hb⟩; refine ⟨_, rfl, ?_⟩; refine E4 (jf (by (with_reducible repeat (first | apply aV | apply aW | apply aQ)); exact (aG (RQ Gn 1 (RQ Gn 0 (bz HO_3.1 jr.1 (by decide)) _) _) (fun _ h_ => h_.1))) hb) (dh (g := Lh) (o := .cells #[.int .i64 ah, .int .i64 af, .slice (some Gm) ae.length aJ] 30 (0, 0)) (xB Ij.1 gp.1) hb) (dh (g := Gn) (o := .cells #[.int .i64 ((aj ae dV).f0), .int .i64 ((aj ae dV).f1)] 83 (0, 0)) (BB jr.1) hb) (bS HB.1 hb) ?_; clear HO_3 gp jr HB; intro HO_3 gp jr HB; (try clear hb)))
    go_meet
    case rel => exact ⟨_, (true), RG, H', ⟨by have := iB.1; have := nG.1; first | omega | exact Nat.le_refl _⟩, ⟨MZ HO_3.1 dU eO⟩, ⟨HY gp.1 dU eO⟩, ⟨HY jr.1 dU eO⟩, ⟨BL HB.1⟩⟩
   clear TH
   try clear J8; try clear J9; try clear afZ; try clear af0; clear c16b0 c17b0 c18b0 wJ wK wL wM
   obtain ⟨kq, EC, rfl, HA, vG, HO_3, gp, jr, HB⟩ := hcut
   cases kq with
   | zero => exact absurd HA.1 (by simp [av.j2])
   | succ TI => ?_
   have H := HA.1
   clear HA
   simp only [av.j2] at H
   replace H := Cm H; rcases H with ⟨rfl, H⟩ | ⟨rfl, H⟩
   · have H' := aa.mk H
     clear H
     go_wp2
     (try simp only [<- eO])
     go_roundg TI
     case measure => have := iB.1; have := nG.1; have := vG.1; omega
     case rel => exact ⟨(sI), (ol), (wrap64 (dV + 1)), RG, RG, H', ⟨by have := iB.1; have := nG.1; have := vG.1; omega⟩, ⟨MZ HO_3.1 dU eO⟩, ⟨HY gp.1 dU eO⟩, ⟨BL HB.1⟩⟩
   replace H := ji H; obtain ⟨c33b0, H⟩ := H
   replace H := ji H; obtain ⟨c34b0, H⟩ := H
   generalize akk : ((sI.set (dV : Int).toNat ol) : List Int) = avn at H
   have avo := aa.mk akk.symm; clear akk
   generalize akl : ((([dV] : List Int)) : List Int) = aFV at H
   have akm := aa.mk akl.symm; clear akl
   have H' := aa.mk H
   clear H
   have p35 : 0 <= (dV : Int) := OD
   have q35 : (dV : Int) < ((sI.length : Int) : Int) := OD
   obtain ⟨nP, ED, Mv, aa0, anu, aEz, aa1⟩ := mQ HO_3.1 (by omega)
   (first | cases Mv | (injection Mv with ea_ en_ ec_; (first | subst ea_ | (injection ea_ with ea_; subst ea_)); subst ec_; clear en_))
   have aa2 := aa.mk aa0
   have aEA := aa.mk aa1
   clear aa0 anu aa1
   obtain ⟨TJ, anv⟩ := lC 0 HO_3.1 (dV : Int) p35 q35
   replace p35 := eq_true p35
   replace q35 := eq_true q35
   have TK := qV HO_3.1 (dV : Int) ol
   go_wp2_with (first | ((with_reducible refine gK (t := 3) (p := 46) rfl ?_); refine lX (t := 3) (p := 46) (w1 := (wc.setCell ⟨nP, (dV : Int).toNat, none⟩ (.int .i64 ol))) ?_; intro Mw hw; have hg : wc.grownBy Mw (some nP) := (by rw [hw]; exact TK.2); have hp_ : Kd.R (Kd.int .i64) 3 Mw w.heap.size (fun _ => True) (.slice (some ⟨nP, 0, none⟩) sI.length yZ) avn := (by rw [hw, avo.1]; exact TK.1); clear TK; refine E4 (hp_) (bG gp.1 hg (dK HO_3.1 gp.1 (by decide))) (bG jr.1 hg (dK HO_3.1 jr.1 (by decide))) ((by rw [hw]; exact il (HB.1) aa2.1 : Below w.heap.size w Mw)) ?_; clear HO_3 gp jr HB; intro HO_3 gp jr HB; clear hg hw hp_) | ((with_reducible refine aC (N := 48) rfl ?_); refine qh (Kd.int .i64) _ 3 ?hg (N := 48) ?hd (xs := ([dV] : List Int)) (inner := [.int .i64 dV]) (ok := fun _ => True) (okp := fun _ => True) ?hr ?hp (fun _ hk => hk) trivial (Below.refl _ _) (Nat.le_refl _) (by simp) ?_; (case hd => rfl); (case hg => rfl); (case hr => first | (go_simp; done) | (go_simp; rfl)); (case hp => exact (fK.one (show Kd.M (Kd.int .i64) _ _ _ dV [.int .i64 dV] from rfl) (fK.none _ _))); intro aPm Nc Ig hb hg_ hnew_; clear hg_ hnew_; (first | rw [<- akm.1] at Ig | (simp only [Int.reduceToNat] at Ig; rw [<- akm.1] at Ig)); refine E5 (eT (PR HO_3.1) (fe Ig) hb) (bN (iI Ig (iL (PR HO_3.1))) (bZ HB.1)) (bB gp.1 hb) (bB jr.1 hb) (bS HB.1 hb) ?_; clear HO_3 gp jr HB; intro HO_3 avp gp jr HB; clear hb Ig))
   go_loopg [8] TI (fun kq v8 w' => ∃ (BK : List Int) (uW : List Int), aa (av.l2 kq BK ol uW ae (ae.length : Int) dV ah af ae = some r) /\ aa (kq <= TI) /\ aa (Kd.R (Kd.int .i64) 3 w' w.heap.size (fun k_ => some k_ ≠ (v8 : Value).ownBlock) (.slice (some ⟨nP, 0, none⟩) sI.length yZ) BK) /\ aa (Kd.Q (Kd.int .i64) 3 w' w.heap.size (fun k_ => some k_ ≠ ((.slice (some ⟨nP, 0, none⟩) sI.length yZ) : Value).ownBlock) v8 uW) /\ aa (w'.heap[Lh]? = some (.cells #[.int .i64 ah, .int .i64 af, (.slice (some Gm) ae.length aJ)] 30 (0, 0))) /\ aa (w'.heap[Gn]? = some (.cells #[.int .i64 ((aj ae dV).f0), .int .i64 ((aj ae dV).f1)] 83 (0, 0))) /\ aa (Below w.heap.size w w'))
   case atStart => exact ⟨(avn), (aFV), H', ⟨Nat.le_refl _⟩, ⟨by (try simp only [dU]); (try simp only [eO]); (with_reducible repeat (first | apply aV | apply aW | apply aQ)); exact aG HO_3.1 (fun _ hk => hk.2)⟩, ⟨Tj (by (try simp only [dU]); (try simp only [eO]); (with_reducible repeat (first | apply aV | apply aW | apply aQ)); exact aG avp.1 (fun _ hk => hk.2))⟩, ⟨HY gp.1 dU eO⟩, ⟨HY jr.1 dU eO⟩, ⟨BL HB.1⟩⟩
   clear H'
   try clear p35; try clear q35; try clear TJ; clear c33b0 c34b0
   obtain ⟨BK, uW, HA, Mx, HO_3, HO_8, gp, jr, HB⟩ := hrel
   have gG := (ay HO_3.1).1
   rw [gG] at HO_3
   (try simp only [gG])
   (try simp only [gG] at gp)
   (try simp only [gG] at jr)
   (try simp only [gG] at HO_8)
   cases gk with
   | zero => exact absurd HA.1 (by simp [av.l2])
   | succ k4 => ?_
   have H := HA.1
   clear HA
   simp only [av.l2] at H
   replace H := oP H; rcases H with ⟨c40, H⟩ | ⟨c40, H⟩
   · have c40b0 : decide (0 < (uW.length : Int)) = true := decide_eq_true c40
     have c40b1 : decide (0 < uW.length) = true := decide_eq_true (by omega)
     clear c40
     replace H := oC H; obtain ⟨c41, H⟩ := H
     have c41b0 := decide_eq_true c41
     have c41b1 : decide (0 < uW.length) = true := decide_eq_true (by omega)
     clear c41
     replace H := oC H; obtain ⟨c42, H⟩ := H
     have c42b0 := eq_true c42
     have c42b1 := decide_eq_true c42
     clear c42
     generalize akn : ((uW.drop (1 : Int).toNat) : List Int) = Y1 at H
     have ako := aa.mk akn.symm; clear akn
     replace H := dz H; obtain ⟨lG, A43, H⟩ := H
     have H' := aa.mk H
     clear H
     obtain ⟨aPn, af1, aFX, _⟩ := Jq HO_8.1
     subst aFX
     have af2 : 0 <= (0 : Int) := (by omega)
     have af3 : 0 < (uW.length : Int) := OD
     obtain ⟨Rp, aFY, O3⟩ := Kd.dx (KF HO_8.1).2.2 0 af2 af3
     cases aFY
     have aKF : (0 < uW.length) = True := eq_true (by omega)
     (try rw [show ((0 : Int)).toNat = 0 from rfl] at O3)
     (try rw [Addr.add_zero'] at O3)
     replace af2 := eq_true af2
     replace af3 := eq_true af3
     have q45 : (1 : Int) <= ((uW.length : Int) : Int) := OD
     obtain ⟨aPo, akp, _, akq, _⟩ := info_parts info3
     have hcut45 := Fy (P := Try.prog) 38 3 .i64 Try.underlying38 akp 1 akq (some Rp) uW.length af1 1 (by omega) q45
     have ace := aam (k := (1 : Int).toNat) HO_8.1 (by omega)
     obtain ⟨A45, af4⟩ : ∃ A1, A1 = (if af1 = (1 : Int).toNat then (some Rp) else ((some Rp) : Option Addr).map (·.add ((1 : Int).toNat * 1))) := ⟨_, rfl⟩
     obtain ⟨c45, aoU⟩ : ∃ c1, c1 = af1 - (1 : Int).toNat := ⟨_, rfl⟩
     have aoV : Y1.length = uW.length - (1 : Int).toNat := (by rw [ako.1, List.length_drop])
     rw [<- ako.1] at ace
     rw [<- aoV, <- af4, <- aoU] at hcut45
     replace ace : Kd.Q (Kd.int .i64) 3 wr w.heap.size (fun k_ => some k_ ≠ (.slice (some ⟨nP, 0, none⟩) BK.length yZ : Value).ownBlock) (.slice A45 Y1.length c45) Y1 := (by rw [af4, aoU, aoV]; exact ace)
     have aF0 : aa ((Value.slice A45 Y1.length c45).ownBlock = (.slice (some Rp) uW.length af1 : Value).ownBlock) := ⟨by rw [af4]; split <;> (cases ((some Rp) : Option Addr) <;> rfl)⟩
     clear aoV akp akq HO_8 af4 aoU
     have Rq := aa.mk ace
     clear ace
     replace q45 := eq_true q45
     have n_ := aa.mk (aG (ok' := fun k_ => some k_ ≠ (.slice A45 Y1.length c45 : Value).ownBlock) HO_3.1 (fun k_ hk => (by rw [aF0.1]; exact hk)))
     clear HO_3
     have HO_3 := n_
     clear n_
     obtain ⟨af5, af6, af7, af8, af9, aga⟩ := gB gp.1
     go_wp2_with (first | ((with_reducible refine aA (f := 88) rfl ?_); refine cK (N := (some 59)) #[.agg #[.int .i64 ah, .int .i64 af, .slice (some Gm) ae.length aJ], .int .i64 (rd uW 0)] Try.func88 ?_; (with_reducible refine (bF.calls k4 ah af _ _ ae (rd uW 0) lG _ ?side1 ?side2 A43.1).mono ?_); (case side1 => exact CB (aY bD.1 HB.1)); (case side2 => exact cO.1); rintro e w48 ⟨aPp, rfl, ho0, hb⟩; refine ⟨_, rfl, ?_⟩; refine E6 (eT (PR HO_3.1) (fe ho0) hb) (aan (by (with_reducible repeat (first | apply mi | apply mo | apply nZ)); exact Rq.1) (fe ho0) hb) (bN (iI (iI ho0 (iL (PR HO_3.1))) (aEe (by (with_reducible repeat (first | apply mi | apply mo | apply nZ)); exact Rq.1))) (bZ HB.1)) (bB gp.1 hb) (bB jr.1 hb) (bS HB.1 hb) ?_; clear HO_3 Rq gp jr HB; intro HO_3 Rq akr gp jr HB; (try clear hb); (try clear ho0); obtain ⟨Y2, K5, Q0⟩ := bv akr.1; subst Q0))
     go_loopg [8, 61] k4 (fun kq v8 v61 w' => ∃ (pI : List Int) (Cb : List Int) (jo : Int), v61 = .int .i64 jo /\ aa (av.l3 kq pI ol Cb ae (ae.length : Int) dV lG (lG.length : Int) jo ah af ae = some r) /\ aa (kq <= k4) /\ aa (Kd.R (Kd.int .i64) 3 w' w.heap.size (fun k_ => some k_ ≠ (v8 : Value).ownBlock /\ some k_ ≠ ((.slice Y2 lG.length K5) : Value).ownBlock) (.slice (some ⟨nP, 0, none⟩) BK.length yZ) pI) /\ aa (Kd.Q (Kd.int .i64) 3 w' w.heap.size (fun k_ => some k_ ≠ ((.slice (some ⟨nP, 0, none⟩) BK.length yZ) : Value).ownBlock /\ some k_ ≠ ((.slice Y2 lG.length K5) : Value).ownBlock) v8 Cb) /\ aa (Kd.R (Kd.int .i64) 3 w' w.heap.size (fun k_ => some k_ ≠ ((.slice (some ⟨nP, 0, none⟩) BK.length yZ) : Value).ownBlock /\ some k_ ≠ (v8 : Value).ownBlock) (.slice Y2 lG.length K5) lG) /\ aa (w'.heap[Lh]? = some (.cells #[.int .i64 ah, .int .i64 af, (.slice (some Gm) ae.length aJ)] 30 (0, 0))) /\ aa (w'.heap[Gn]? = some (.cells #[.int .i64 ((aj ae dV).f0), .int .i64 ((aj ae dV).f1)] 83 (0, 0))) /\ aa (Below w.heap.size w w'))
     case atStart => exact ⟨(BK), (Y1), (0), RG, H', ⟨Nat.le_refl _⟩, ⟨PR3 HO_3.1 dU eO gG⟩, ⟨by (try simp only [dU]); (try simp only [eO]); (try simp only [gG]); (with_reducible repeat (first | apply mi | apply mo | apply nZ)); exact Rq.1⟩, ⟨by (try simp only [dU]); (try simp only [eO]); (try simp only [gG]); (with_reducible repeat (first | apply aV | apply aW | apply aQ)); exact aG akr.1 (fun _ hk => ⟨hk.1.2, hk.2⟩)⟩, ⟨PB3 gp.1 dU eO gG⟩, ⟨PB3 jr.1 dU eO gG⟩, ⟨BL HB.1⟩⟩
     clear H'
     try clear c1; try clear c45; try clear q45; try clear O3; try clear af2; try clear af3; clear c40b0 c40b1 c41b0 c41b1 c42b0 c42b1 af5 af6 af7 af8 af9 aga
     obtain ⟨pI, Cb, jo, rfl, HA, QS, HO_3, HO_8, HO_59, gp, jr, HB⟩ := hrel
     have iJ := (ay HO_3.1).1
     rw [iJ] at HO_3
     (try simp only [iJ])
     (try simp only [iJ] at gp)
     (try simp only [iJ] at jr)
     (try simp only [iJ] at HO_8)
     (try simp only [iJ] at HO_59)
     cases gk with
     | zero => exact absurd HA.1 (by simp [av.l3])
     | succ k5 => ?_
     have H := HA.1
     clear HA
     simp only [av.l3] at H
     replace H := pu H; rcases H with ⟨c50b0, H⟩ | ⟨c50b0, H⟩
     · replace H := ji H; obtain ⟨c51b0, H⟩ := H
       replace H := ji H; obtain ⟨c52b0, H⟩ := H
       replace H := ji H; obtain ⟨c53b0, H⟩ := H
       replace H := ji H; obtain ⟨c54b0, H⟩ := H
       replace H := dz H; obtain ⟨avk, A55, H⟩ := H
       replace H := Cm H; rcases H with ⟨rfl, H⟩ | ⟨rfl, H⟩
       · replace H := ji H; obtain ⟨c57b0, H⟩ := H
         replace H := pu H; rcases H with ⟨c58b0, H⟩ | ⟨c58b0, H⟩
         · generalize aks : ((pI.set ((rd lG jo) : Int).toNat ol) : List Int) = avq at H
           have avr := aa.mk aks.symm; clear aks
           replace H := oC H; obtain ⟨c60, H⟩ := H
           have avs := aa.mk c60
           clear c60
           generalize akt : ((Cb ++ [rd lG jo]) : List Int) = aF2 at H
           have avt := aa.mk akt.symm; clear akt
           have H' := aa.mk H
           clear H
           have Li : 0 <= (jo : Int) := OD
           have Lj : jo < (lG.length : Int) := OD
           obtain ⟨Nu, acf, WN⟩ := Kd.dx (ay HO_59.1).2.2 jo Li Lj
           cases acf
           replace Li := eq_true Li
           replace Lj := eq_true Lj
           obtain ⟨az6, az7, az8, az9, aAa, aAb⟩ := gB gp.1
           have Ll : 0 <= ((rd lG jo) : Int) := OD
           have Lm : (rd lG jo) < (ae.length : Int) := OD
           obtain ⟨Rs, acg, sU, sV⟩ := iP bD.1 (rd lG jo) Ll Lm
           obtain rfl : Gm = Rs := (by injection acg)
           replace sU := (HB.1.cell (World.block_lt_of_cell? w _ sU)).trans sU
           replace sV := (HB.1.cell (World.block_lt_of_cell? w _ sV)).trans sV
           replace Ll := eq_true Ll
           replace Lm := eq_true Lm
           go_wp2_with (first | ((with_reducible refine aA (f := 87) rfl ?_); refine cK (N := (some 70)) #[.agg #[.int .i64 ((aj ae (rd lG jo)).f0), .int .i64 ((aj ae (rd lG jo)).f1)]] Try.func87 ?_; (with_reducible refine (jO.calls ((aj ae (rd lG jo)).f0) ((aj ae (rd lG jo)).f1) true _ A55.1).mono ?_); rintro e w63 ⟨rfl, hb⟩; refine ⟨_, rfl, ?_⟩; refine E6 (rB HO_3.1 hb) (CE (by (with_reducible repeat (first | apply mi | apply mo | apply nZ)); exact HO_8.1) hb) (rB HO_59.1 hb) (bB gp.1 hb) (bB jr.1 hb) (bS HB.1 hb) ?_; clear HO_3 HO_8 HO_59 gp jr HB; intro HO_3 HO_8 HO_59 gp jr HB; (try clear hb); have Uu : 0 <= ((rd lG jo) : Int) := OD; have Uv : (rd lG jo) < (pI.length : Int) := OD; obtain ⟨ach, aoW, Ba⟩ := Kd.dx (ay HO_3.1).2.2 (rd lG jo) Uu Uv; obtain rfl : (⟨nP, 0, none⟩ : Addr) = ach := (by injection aoW); (first | simp only [add_plain] at Ba | simp only [uh] at Ba | simp only [Addr.add, Nat.zero_add] at Ba | skip); replace Uu := eq_true Uu; replace Uv := eq_true Uv; have p59 : 0 <= ((rd lG jo) : Int) := OD; have q59 : ((rd lG jo) : Int) < ((pI.length : Int) : Int) := OD; obtain ⟨aoY, aoZ⟩ := lC 0 HO_3.1 ((rd lG jo) : Int) p59 q59; replace p59 := eq_true p59; replace q59 := eq_true q59; obtain ⟨aKI, aKJ⟩ := lC 0 HO_3.1 ((rd lG jo) : Int) (OD) (OD); have ao0 := qV HO_3.1 ((rd lG jo) : Int) ol) | ((with_reducible refine gK (t := 3) (p := 81) rfl ?_); refine lX (t := 3) (p := 81) (w1 := (w63.setCell ⟨nP, ((rd lG jo) : Int).toNat, none⟩ (.int .i64 ol))) ?_; intro w65 hw; have hg : w63.grownBy w65 (some nP) := (by rw [hw]; exact ao0.2); have hp_ : Kd.R (Kd.int .i64) 3 w65 w.heap.size (fun k_ => some k_ ≠ (u8 : Value).ownBlock /\ some k_ ≠ (.slice (some Nu) lG.length K5 : Value).ownBlock) (.slice (some ⟨nP, 0, none⟩) pI.length yZ) avq := (by rw [hw, avr.1]; exact ao0.1); clear ao0; refine E6 (hp_) (aez (v := (.slice (some ⟨nP, 0, none⟩) pI.length yZ)) (v1 := (.slice (some ⟨nP, 0, none⟩) pI.length yZ)) (ok := (fun k_ => some k_ ≠ (.slice (some Nu) lG.length K5 : Value).ownBlock)) (by (with_reducible repeat (first | apply mi | apply mo | apply nZ)); exact Ew HO_8.1 (fun _ hk => ⟨hk.2, hk.1⟩)) hg (.inl rfl)) (iX (v := (.slice (some ⟨nP, 0, none⟩) pI.length yZ)) (v1 := (.slice (some ⟨nP, 0, none⟩) pI.length yZ)) (ok := (fun k_ => some k_ ≠ (u8 : Value).ownBlock)) (pm (aG HO_59.1 (fun _ hk => ⟨hk.2, hk.1⟩))) hg (.inl rfl)) (bG gp.1 hg (dK HO_3.1 gp.1 (by decide))) (bG jr.1 hg (dK HO_3.1 jr.1 (by decide))) ((by rw [hw]; exact il (HB.1) aa2.1 : Below w.heap.size w w65)) ?_; clear HO_3 HO_8 HO_59 gp jr HB; intro HO_3 HO_8 HO_59 gp jr HB; clear hg hw hp_) | ((with_reducible refine bf (b := .append) (xs := #[.tmp 82, .tmp 84]) rfl ?_); at_builtin; refine QB (Kd.int .i64) (w0 := w) w.heap.size rfl (.tmp 82) (.tmp 84) 38 3 (.int .i64 0) 8 rfl Try.underlying38 info3 rfl (by decide) (by omega) u8 Cb (rd lG jo) [.int .i64 (rd lG jo)] (fun k_ => some k_ ≠ (.slice (some ⟨nP, 0, none⟩) pI.length yZ : Value).ownBlock /\ some k_ ≠ (.slice (some Nu) lG.length K5 : Value).ownBlock) (fun _ => False) rfl rfl ?aP (fun _ hk => hk.elim) ?aF ?aO ?aB ?aS ?aL ?_; (case aP => exact rfl); (case aB => exact (BL HB.1)); (case aF => exact (fun k_ hk => ⟨Kd.kX (iL (PR HO_3.1)) k_ hk, Kd.kX (iL (PR HO_59.1)) k_ hk⟩)); (case aO => exact (by (with_reducible repeat (first | apply mi | apply mo | apply nZ)); exact Ew HO_8.1 (fun _ hk => ⟨hk.2, hk.1⟩))); (case aS => exact (bZ HB.1)); (case aL => have := avs.1; omega); intro aPq w66 ho hb hg hat; rw [<- avt.1] at ho; refine E6 (iX (ok := (fun k_ => some k_ ≠ (.slice (some Nu) lG.length K5 : Value).ownBlock)) (pm (aG HO_3.1 (fun _ hk => ⟨hk.2, hk.1⟩))) hg hat) (iX (ok := (fun k_ => some k_ ≠ (.slice (some ⟨nP, 0, none⟩) pI.length yZ : Value).ownBlock)) (pm (aG HO_59.1 (fun _ hk => ⟨hk.2, hk.1⟩))) hg hat) (bG gp.1 hg (amZ HO_8.1 gp.1 (by decide))) (bG jr.1 hg (amZ HO_8.1 jr.1 (by decide))) (hb) (ho) ?_; clear HO_3 HO_59 gp jr HB HO_8; intro HO_3 HO_59 gp jr HB avu; clear ho hb hg hat))
           (try simp only [<- iJ])
           go_roundg k5
           case measure => have := iB.1; have := nG.1; have := vG.1; have := Mx.1; have := QS.1; omega
           case rel => exact ⟨(avq), (aF2), (wrap64 (jo + 1)), RG, H', ⟨by have := iB.1; have := nG.1; have := vG.1; have := Mx.1; have := QS.1; omega⟩, ⟨by (try simp only [dU]); (try simp only [eO]); (try simp only [gG]); (try simp only [iJ]); (with_reducible repeat (first | apply aV | apply aW | apply aQ)); exact aG HO_3.1 (fun _ hk => ⟨hk.2, hk.1⟩)⟩, ⟨by (try simp only [dU]); (try simp only [eO]); (try simp only [gG]); (try simp only [iJ]); (with_reducible repeat (first | apply mi | apply mo | apply nZ)); exact avu.1⟩, ⟨X5 HO_59.1 dU eO gG iJ⟩, ⟨SC gp.1 dU eO gG iJ⟩, ⟨SC jr.1 dU eO gG iJ⟩, ⟨BL HB.1⟩⟩
         have H' := aa.mk H
         clear H
         have Li : 0 <= (jo : Int) := OD
         have Lj : jo < (lG.length : Int) := OD
         obtain ⟨Nu, acf, WN⟩ := Kd.dx (ay HO_59.1).2.2 jo Li Lj
         cases acf
         replace Li := eq_true Li
         replace Lj := eq_true Lj
         obtain ⟨aeW, aeX, aeY, aeZ, ae0, ae1⟩ := gB gp.1
         have Ll : 0 <= ((rd lG jo) : Int) := OD
         have Lm : (rd lG jo) < (ae.length : Int) := OD
         obtain ⟨Rs, acg, sU, sV⟩ := iP bD.1 (rd lG jo) Ll Lm
         obtain rfl : Gm = Rs := (by injection acg)
         replace sU := (HB.1.cell (World.block_lt_of_cell? w _ sU)).trans sU
         replace sV := (HB.1.cell (World.block_lt_of_cell? w _ sV)).trans sV
         replace Ll := eq_true Ll
         replace Lm := eq_true Lm
         go_wp2_with (first | ((with_reducible refine aA (f := 87) rfl ?_); refine cK (N := (some 70)) #[.agg #[.int .i64 ((aj ae (rd lG jo)).f0), .int .i64 ((aj ae (rd lG jo)).f1)]] Try.func87 ?_; (with_reducible refine (jO.calls ((aj ae (rd lG jo)).f0) ((aj ae (rd lG jo)).f1) true _ A55.1).mono ?_); rintro e w69 ⟨rfl, hb⟩; refine ⟨_, rfl, ?_⟩; refine E6 (rB HO_3.1 hb) (CE (by (with_reducible repeat (first | apply mi | apply mo | apply nZ)); exact HO_8.1) hb) (rB HO_59.1 hb) (bB gp.1 hb) (bB jr.1 hb) (bS HB.1 hb) ?_; clear HO_3 HO_8 HO_59 gp jr HB; intro HO_3 HO_8 HO_59 gp jr HB; (try clear hb); have Uu : 0 <= ((rd lG jo) : Int) := OD; have Uv : (rd lG jo) < (pI.length : Int) := OD; obtain ⟨ach, aoW, Ba⟩ := Kd.dx (ay HO_3.1).2.2 (rd lG jo) Uu Uv; obtain rfl : (⟨nP, 0, none⟩ : Addr) = ach := (by injection aoW); (first | simp only [add_plain] at Ba | simp only [uh] at Ba | simp only [Addr.add, Nat.zero_add] at Ba | skip); replace Uu := eq_true Uu; replace Uv := eq_true Uv))
         (try simp only [<- iJ])
         go_roundg k5
         case measure => have := iB.1; have := nG.1; have := vG.1; have := Mx.1; have := QS.1; omega
         case rel => exact ⟨(pI), (Cb), (wrap64 (jo + 1)), RG, H', ⟨by have := iB.1; have := nG.1; have := vG.1; have := Mx.1; have := QS.1; omega⟩, ⟨X5 HO_3.1 dU eO gG iJ⟩, ⟨by (try simp only [dU]); (try simp only [eO]); (try simp only [gG]); (try simp only [iJ]); (with_reducible repeat (first | apply mi | apply mo | apply nZ)); exact HO_8.1⟩, ⟨X5 HO_59.1 dU eO gG iJ⟩, ⟨SC gp.1 dU eO gG iJ⟩, ⟨SC jr.1 dU eO gG iJ⟩, ⟨BL HB.1⟩⟩
       have H' := aa.mk H
       clear H
       have Li : 0 <= (jo : Int) := OD
       have Lj : jo < (lG.length : Int) := OD
       obtain ⟨Nu, acf, WN⟩ := Kd.dx (ay HO_59.1).2.2 jo Li Lj
       cases acf
       replace Li := eq_true Li
       replace Lj := eq_true Lj
       obtain ⟨WO, WP, aAc, WQ, WR, aAd⟩ := gB gp.1
       have Ll : 0 <= ((rd lG jo) : Int) := OD
       have Lm : (rd lG jo) < (ae.length : Int) := OD
       obtain ⟨Rs, acg, sU, sV⟩ := iP bD.1 (rd lG jo) Ll Lm
       obtain rfl : Gm = Rs := (by injection acg)
       replace sU := (HB.1.cell (World.block_lt_of_cell? w _ sU)).trans sU
       replace sV := (HB.1.cell (World.block_lt_of_cell? w _ sV)).trans sV
       replace Ll := eq_true Ll
       replace Lm := eq_true Lm
       go_wp2_with (first | ((with_reducible refine aA (f := 87) rfl ?_); refine cK (N := (some 70)) #[.agg #[.int .i64 ((aj ae (rd lG jo)).f0), .int .i64 ((aj ae (rd lG jo)).f1)]] Try.func87 ?_; (with_reducible refine (jO.calls ((aj ae (rd lG jo)).f0) ((aj ae (rd lG jo)).f1) false _ A55.1).mono ?_); rintro e w72 ⟨rfl, hb⟩; refine ⟨_, rfl, ?_⟩; refine E6 (rB HO_3.1 hb) (CE (by (with_reducible repeat (first | apply mi | apply mo | apply nZ)); exact HO_8.1) hb) (rB HO_59.1 hb) (bB gp.1 hb) (bB jr.1 hb) (bS HB.1 hb) ?_; clear HO_3 HO_8 HO_59 gp jr HB; intro HO_3 HO_8 HO_59 gp jr HB; (try clear hb)))
       (try simp only [<- iJ])
       go_roundg k5
       case measure => have := iB.1; have := nG.1; have := vG.1; have := Mx.1; have := QS.1; omega
       case rel => exact ⟨(pI), (Cb), (wrap64 (jo + 1)), RG, H', ⟨by have := iB.1; have := nG.1; have := vG.1; have := Mx.1; have := QS.1; omega⟩, ⟨X5 HO_3.1 dU eO gG iJ⟩, ⟨by (try simp only [dU]); (try simp only [eO]); (try simp only [gG]); (try simp only [iJ]); (with_reducible repeat (first | apply mi | apply mo | apply nZ)); exact HO_8.1⟩, ⟨X5 HO_59.1 dU eO gG iJ⟩, ⟨SC gp.1 dU eO gG iJ⟩, ⟨SC jr.1 dU eO gG iJ⟩, ⟨BL HB.1⟩⟩
     (try simp only [dU, eO, gG, iJ] at c50b0)
     have H' := aa.mk H
     clear H
     go_wp2
     (try simp only [<- gG, <- iJ])
     go_roundg k5
     case measure => have := iB.1; have := nG.1; have := vG.1; have := Mx.1; have := QS.1; omega
     case rel => exact ⟨(pI), (Cb), H', ⟨by have := iB.1; have := nG.1; have := vG.1; have := Mx.1; have := QS.1; omega⟩, ⟨by (try simp only [dU]); (try simp only [eO]); (try simp only [gG]); (try simp only [iJ]); (with_reducible repeat (first | apply aV | apply aW | apply aQ)); exact aG HO_3.1 (fun _ hk => hk.1)⟩, ⟨by (try simp only [dU]); (try simp only [eO]); (try simp only [gG]); (try simp only [iJ]); (with_reducible repeat (first | apply mi | apply mo | apply nZ)); exact Ew HO_8.1 (fun _ hk => hk.1)⟩, ⟨SC gp.1 dU eO gG iJ⟩, ⟨SC jr.1 dU eO gG iJ⟩, ⟨BL HB.1⟩⟩
   have c40b0 : decide (0 < (uW.length : Int)) = false := decide_eq_false c40
   have c40b1 : decide (0 < uW.length) = false := decide_eq_false (by omega)
   clear c40
   (try simp only [dU, eO, gG] at c40b1)
   have H' := aa.mk H
   clear H
   obtain ⟨aPs, aE1, afi, _⟩ := Jq HO_8.1
   subst afi
   go_wp2
   (try simp only [<- eO, <- gG])
   go_roundg k4
   case measure => have := iB.1; have := nG.1; have := vG.1; have := Mx.1; omega
   case rel => exact ⟨(BK), (wrap64 (ol + 1)), (wrap64 (dV + 1)), RG, RG, H', ⟨by have := iB.1; have := nG.1; have := vG.1; have := Mx.1; omega⟩, ⟨by (try simp only [dU]); (try simp only [eO]); (try simp only [gG]); (with_reducible repeat (first | apply aV | apply aW | apply aQ)); exact aG HO_3.1 (fun _ hk => trivial)⟩, ⟨PB3 gp.1 dU eO gG⟩, ⟨BL HB.1⟩⟩
 (try simp only [dU, eO] at c16b0)
 obtain rfl := Option.some.inj H
 go_wp2
 go_ret
 exact ⟨_, RF, pm (HO_3.1), BL HB.1⟩
end Go.Proofs.Ytbpfdbjnnlmdjaa.P
