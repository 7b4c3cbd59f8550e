--MINI
-- PRINTED by print.py (a twelfth state) out of the translation. Not trusted: Lean checks it.
import Derived.Test.YtbpfdbjnnlmdjaaPx0
import Derived.Test.YtbpfdbjnnlmdjaaPx1
import Derived.Test.YtbpfdbjnnlmdjaaPx6
import Derived.Test.YtbpfdbjnnlmdjaaPx7
import Derived.Test.YtbpfdbjnnlmdjaaPx10
namespace Go.Proofs.Ytbpfdbjnnlmdjaa.P
open Go.RowKit Go.Proofs.YtbpfdbjnnlmdjaaW.PrintWords Go.Proofs.YtbpfdbjnnlmdjaaW.PrintLast Go.Proofs.YtbpfdbjnnlmdjaaW.PrintMore
attribute [local go_sem] rQ rR vR vS pO pQ rT rU   -- for this text's walks alone
set_option linter.unusedVariables false
set_option linter.unusedSimpArgs false

open Kd
mutual
def A9.j0 : Nat -> List Int -> Int -> List Int -> Bool -> List Int -> List Int -> Bool -> Bool -> Int -> Int -> List (Ei) -> Int -> Int -> List (fq) -> Option (Bool)
 | 0, _, _, _, _, _, _, _, _, _, _, _, _, _, _ => none
 | k + 1, x1, x2, x8, x9, qR, pz, wy, x55, aIQ, aIR, aJa, aWH, aWI, aWJ => if x55 = true then (some false) else ((eP.f k aIQ aIR aJa).bind fun aYz => ((iO.f k aWH aWI aWJ aYz.1 aYz.2.1 aYz.2.2).bind fun a7d => (if a7d = true then ((bX.f k x1).bind fun aTV => ((di.f k qR aTV).bind fun a7e => (if a7e = true then ((jb.f k aWH aWI aWJ 1).bind fun a7f => ((dB.f k qR a7f.1).bind fun a7g => (if a7g.1 < 0 then (A9.j1 k x1 x2 x8 x9 pz true aIQ aIR aJa) else ((di.f k pz x8).bind fun a7h => (if a7h = true then (A9.j1 k x1 x2 x8 x9 pz (wy != x9) aIQ aIR aJa) else (A9.j1 k x1 x2 x8 x9 pz true aIQ aIR aJa)))))) else (some false)))) else (some false))))
def A9.j1 : Nat -> List Int -> Int -> List Int -> Bool -> List Int -> Bool -> Int -> Int -> List (Ei) -> Option (Bool)
 | 0, _, _, _, _, _, _, _, _, _ => none
 | k + 1, x1, x2, x8, x9, pz, x84, aIQ, aIR, aJa => if x84 = true then (some false) else ((dB.f k pz 1).bind fun aT4 => ((dC.f k aT4.2 1).bind fun a0b => (if a0b < 0 then (some false) else (if a0b = aT4.1 then ((eP.f k aIQ aIR aJa).bind fun aYA => ((bX.f k x1).bind fun wR => ((aad.f k aYA.1 aYA.2.1 aYA.2.2 wR x2).bind fun a1w => ((di.f k a1w.1 x8).bind fun a7i => (if a7i = true then (A9.j2 k aT4.2 aT4.1 (a1w.2 != x9)) else (A9.j2 k aT4.2 aT4.1 true)))))) else (some false)))))
def A9.j2 : Nat -> List Int -> Int -> Bool -> Option (Bool)
 | 0, _, _, _ => none
 | k + 1, pz, Mg, x113 => if x113 = true then (some false) else ((dC.f k pz 1).bind fun a0c => (if a0c < 0 then (some false) else (if a0c = Mg then (some true) else (some false))))
end
def A9.f (k : Nat) (ah : Int) (af : Int) (ae : List (Ei)) (l1 : List Int) (a2 : Int) : Option (Bool) := if (l1.length : Int) > 1048576 then (some true) else ((kL.f ah af ae 1048576).bind fun aVU => (if aVU < 0 then (some true) else ((eP.f k ah af ae).bind fun aYB => ((bX.f k l1).bind fun DX => ((aeg.f k aYB.1 aYB.2.1 aYB.2.2 DX a2).bind fun aT5 => ((eP.f k ah af ae).bind fun aRW => ((bX.f k l1).bind fun aJb => ((aad.f k aRW.1 aRW.2.1 aRW.2.2 aJb a2).bind fun aT6 => ((di.f k aT6.1 aT5.1).bind fun a7j => (if a7j = true then (A9.j0 k l1 a2 aT5.1 aT5.2 aJb aT6.1 aT6.2 (aT6.2 != aT5.2) ah af ae aRW.1 aRW.2.1 aRW.2.2) else (A9.j0 k l1 a2 aT5.1 aT5.2 aJb aT6.1 aT6.2 true ah af ae aRW.1 aRW.2.1 aRW.2.2)))))))))))
theorem A9.mono_l : ∀ k, (∀ y0 y1 y2 y3 y4 y5 y6 y7 y8 y9 IG MV Vr y13, dO (A9.j0 k y0 y1 y2 y3 y4 y5 y6 y7 y8 y9 IG MV Vr y13) (A9.j0 (k + 1) y0 y1 y2 y3 y4 y5 y6 y7 y8 y9 IG MV Vr y13)) /\ (∀ y0 y1 y2 y3 y4 y5 y6 y7 y8, dO (A9.j1 k y0 y1 y2 y3 y4 y5 y6 y7 y8) (A9.j1 (k + 1) y0 y1 y2 y3 y4 y5 y6 y7 y8)) /\ (∀ y0 y1 y2, dO (A9.j2 k y0 y1 y2) (A9.j2 (k + 1) y0 y1 y2))
 | 0 => by refine ⟨?_, ?_, ?_⟩ <;> (intros; intro r h; first | (simp [A9.j0] at h; done) | (simp [A9.j1] at h; done) | (simp [A9.j2] at h; done))
 | k + 1 => by
  obtain ⟨ja, ih1, ih2⟩ := A9.mono_l k
  refine ⟨?_, ?_, ?_⟩ <;> (
   intros
   first | unfold A9.j0 | unfold A9.j1 | unfold A9.j2
   repeat' first | (with_reducible first | apply ja | apply ih1 | apply ih2 | apply aad.mono | apply iO.mono | apply di.mono | apply dC.mono | apply jb.mono | apply dB.mono | apply eP.mono | apply bX.mono | apply aeg.mono | exact dO.refl _ | exact dO.none _ | refine dO.ite ?_ ?_ | refine dO.bind ?_ (fun _ => ?_)) | exact dO.none _ | refine dO.ite ?_ ?_ | refine dO.bind ?_ (fun _ => ?_))
theorem A9.mono : ∀ a0 a1 a2 a3 a4 k, dO (A9.f k a0 a1 a2 a3 a4) (A9.f (k + 1) a0 a1 a2 a3 a4) := by
 intro a0 a1 a2 a3 a4 k
 obtain ⟨ja, ih1, ih2⟩ := A9.mono_l k
 unfold A9.f
 repeat' first | (with_reducible first | apply ja | apply ih1 | apply ih2 | apply aad.mono | apply iO.mono | apply di.mono | apply dC.mono | apply jb.mono | apply dB.mono | apply eP.mono | apply bX.mono | apply aeg.mono | exact dO.refl _ | exact dO.none _ | refine dO.ite ?_ ?_ | refine dO.bind ?_ (fun _ => ?_)) | exact dO.none _ | refine dO.ite ?_ ?_ | refine dO.bind ?_ (fun _ => ?_)
set_option maxHeartbeats 8000000 in
set_option maxRecDepth 100000 in
theorem A9.calls (k : Nat) (ah : Int) (af : Int) (aK : Option Addr) (aJ : Nat) (ae : List (Ei)) (A1 : Option Addr) (c1 : Nat) (l1 : List Int) (a2 : Int) (w : World) (dH : Kd.C Vi w aK ae.length ae) (dG : ae.length <= aJ) (hr1 : Kd.C (Kd.int .i64) w A1 l1.length l1) (hc1 : l1.length <= c1) (h : A9.f k ah af ae l1 a2 = some true) :
 Calls Try.prog 8 #[.agg #[.int .i64 ah, .int .i64 af, .slice aK ae.length aJ], .slice A1 l1.length c1, .int .i64 a2] w fun e w' => e = .returned (.bool true) /\ Below w.heap.size w w' := by
 have amx := Try.underlying24
 have nH := Try.underlying30
 have bD := aa.mk dH
 have cO := aa.mk dG
 clear dH dG
 have HR1 := aa.mk hr1
 have vD := aa.mk hc1
 clear hr1 hc1
 have HB := aa.mk (Below.refl w.heap.size w)
 have H := h
 clear h
 unfold A9.f at H
 replace H := oP H; rcases H with ⟨c4, H⟩ | ⟨c4, H⟩
 · have c4b0 : decide (1048576 < (l1.length : Int)) = true := decide_eq_true c4
   have c4b1 : decide (1048576 < l1.length) = true := decide_eq_true (by omega)
   clear c4
   first | (obtain rfl := Option.some.inj H) | clear H
   go_enter Try.func8, Try.ntmps8
   go_wp2_with (first | ((with_reducible refine aC (N := 3) rfl ?_); refine dN (cs := #[.int .i64 ah, .int .i64 af, .slice aK ae.length aJ]) (t := 24) ?_; intro aKL hg w5 hbox hb; refine mJ HB.1 hg hbox hb ?_; clear HB; intro HB aae aYC aYD; clear hb hbox hg))
   go_ret
   exact ⟨RF, BL HB.1⟩
 have c4b0 : decide (1048576 < (l1.length : Int)) = false := decide_eq_false c4
 have c4b1 : decide (1048576 < l1.length) = false := decide_eq_false (by omega)
 clear c4
 replace H := dz H; obtain ⟨aVU, A6, H⟩ := H
 replace H := pu H; rcases H with ⟨c7b0, H⟩ | ⟨c7b0, H⟩
 · first | (obtain rfl := Option.some.inj H) | clear H
   go_enter Try.func8, Try.ntmps8
   go_wp2_with (first | ((with_reducible refine aC (N := 3) rfl ?_); refine dN (cs := #[.int .i64 ah, .int .i64 af, .slice aK ae.length aJ]) (t := 24) ?_; intro aKL hg w8 hbox hb; refine mJ HB.1 hg hbox hb ?_; clear HB; intro HB aae aYC aYD; clear hb hbox hg; obtain ⟨Ej, El, NS, Em, En, NT⟩ := gB aae.1) | ((with_reducible refine aA (f := 13) rfl ?_); refine cK (N := (some 24)) #[.agg #[.int .i64 ah, .int .i64 af, .slice aK ae.length aJ], .int .i64 1048576] Try.func13 ?_; (with_reducible refine (kL.calls ah af _ _ ae 1048576 aVU _ ?side1 ?side2 A6.1).mono ?_); (case side1 => exact CB (aY bD.1 HB.1)); (case side2 => exact cO.1); rintro e Hw ⟨rfl, hb⟩; refine ⟨_, rfl, ?_⟩; refine E2 (bB aae.1 hb) (bS HB.1 hb) ?_; clear aae HB; intro aae HB; (try clear hb)))
   go_ret
   exact ⟨RF, BL HB.1⟩
 replace H := dz H; obtain ⟨⟨aXZ, aJv, a4i⟩, A11, H⟩ := H
 dsimp only at H
 replace H := dz H; obtain ⟨DX, A12, H⟩ := H
 replace H := dz H; obtain ⟨⟨aTW, aX0⟩, A13, H⟩ := H
 dsimp only at H
 replace H := dz H; obtain ⟨⟨ahc, aHA, aHB⟩, A14, H⟩ := H
 dsimp only at H
 replace H := dz H; obtain ⟨aJb, A15, H⟩ := H
 replace H := dz H; obtain ⟨⟨aRG, a0d⟩, A16, H⟩ := H
 dsimp only at H
 have a4j := aa.mk H
 clear H
 go_enter Try.func8, Try.ntmps8
 go_upto_region 11 with (first | ((with_reducible refine aC (N := 3) rfl ?_); refine dN (cs := #[.int .i64 ah, .int .i64 af, .slice aK ae.length aJ]) (t := 24) ?_; intro aKL hg w18 hbox hb; refine mJ HB.1 hg hbox hb ?_; clear HB; intro HB aae aYC aYD; clear hb hbox hg; obtain ⟨FD, FE, OA, FF, FH, OB⟩ := gB aae.1) | ((with_reducible refine aA (f := 13) rfl ?_); refine cK (N := (some 24)) #[.agg #[.int .i64 ah, .int .i64 af, .slice aK ae.length aJ], .int .i64 1048576] Try.func13 ?_; (with_reducible refine (kL.calls ah af _ _ ae 1048576 aVU _ ?side1 ?side2 A6.1).mono ?_); (case side1 => exact CB (aY bD.1 HB.1)); (case side2 => exact cO.1); rintro e ZJ ⟨rfl, hb⟩; refine ⟨_, rfl, ?_⟩; refine E2 (bB aae.1 hb) (bS HB.1 hb) ?_; clear aae HB; intro aae HB; (try clear hb); obtain ⟨uJ, uK, xK, uL, uM, xL⟩ := gB aae.1) | ((with_reducible refine aA (f := 15) rfl ?_); refine cK (N := (some 29)) #[.agg #[.int .i64 ah, .int .i64 af, .slice aK ae.length aJ]] Try.func15 ?_; (with_reducible refine (eP.calls k ah af _ _ ae aXZ aJv a4i _ ?side1 ?side2 A11.1).mono ?_); (case side1 => exact CB (aY bD.1 HB.1)); (case side2 => exact cO.1); rintro e BM ⟨bfY, rfl, ho0, hb⟩; refine ⟨_, rfl, ?_⟩; refine E3 (bN ho0 (bZ HB.1)) (bB aae.1 hb) (bS HB.1 hb) ?_; clear aae HB; intro aD9 aae HB; (try clear hb); (try clear ho0)) | ((with_reducible refine aA (f := 31) rfl ?_); refine cK (N := (some 31)) #[.slice A1 l1.length c1] Try.func31 ?_; (with_reducible refine (bX.calls k _ _ l1 DX _ ?side1 ?side2 A12.1).mono ?_); (case side1 => exact CB (aY HR1.1 HB.1)); (case side2 => exact vD.1); rintro e w23 ⟨aQP, rfl, ho0, hb⟩; refine ⟨_, rfl, ?_⟩; refine E4 (rB aD9.1 hb) (bN ho0 (bZ HB.1)) (bB aae.1 hb) (bS HB.1 hb) ?_; clear aD9 aae HB; intro aD9 kS aae HB; (try clear hb); (try clear ho0); obtain ⟨amA, amB, amC⟩ := bv aD9.1; subst amC; obtain ⟨apc, apd, ape⟩ := bv kS.1; subst ape) | ((with_reducible refine aA (f := 30) rfl ?_); refine cK (N := (some 33)) #[.agg #[.int .i64 aXZ, .int .i64 aJv, .slice amA a4i.length amB], .slice apc DX.length apd, .int .i64 a2] Try.func30 ?_; (with_reducible refine (aeg.calls k aXZ aJv _ _ a4i _ _ DX a2 aTW aX0 _ ?side1 ?side2 ?side3 ?side4 A13.1).mono ?_); (case side1 => exact CB (ay aD9.1).2.2); (case side2 => exact (ay aD9.1).2.1); (case side3 => exact CB (ay kS.1).2.2); (case side4 => exact (ay kS.1).2.1); rintro e w26 ⟨aTX, rfl, ho0, hb⟩; refine ⟨_, rfl, ?_⟩; refine E5 (rB aD9.1 hb) (eT (PR kS.1) (fe ho0) hb) (bN (iI ho0 (iL (PR kS.1))) (bZ HB.1)) (bB aae.1 hb) (bS HB.1 hb) ?_; clear aD9 kS aae HB; intro aD9 kS aGy aae HB; (try clear hb); (try clear ho0); obtain ⟨Aj, Ak, Jz, Al, Am, JA⟩ := gB aae.1) | ((with_reducible refine aA (f := 15) rfl ?_); refine cK (N := (some 37)) #[.agg #[.int .i64 ah, .int .i64 af, .slice aK ae.length aJ]] Try.func15 ?_; (with_reducible refine (eP.calls k ah af _ _ ae ahc aHA aHB _ ?side1 ?side2 A14.1).mono ?_); (case side1 => exact CB (aY bD.1 HB.1)); (case side2 => exact cO.1); rintro e w28 ⟨bfZ, rfl, ho0, hb⟩; refine ⟨_, rfl, ?_⟩; refine E6 (eT (PR aD9.1) (fe ho0) hb) (rB kS.1 hb) (rB aGy.1 hb) (bN (iI ho0 (iL (PR aD9.1))) (bZ HB.1)) (bB aae.1 hb) (bS HB.1 hb) ?_; clear aD9 kS aGy aae HB; intro aD9 kS aGy aMW aae HB; (try clear hb); (try clear ho0)) | ((with_reducible refine aC (N := 10) rfl ?_); refine dN (cs := #[.int .i64 0, .int .i64 0, .slice none 0 0]) (t := 30) ?_; intro aDq hg w29 hbox hb; refine E11 (rB aD9.1 hb) (rB kS.1 hb) (rB aGy.1 hb) (rB aMW.1 hb) (bB aae.1 hb) (bS HB.1 hb) (hbox) (gX HB.1 hg) (gX HB.1 hg) (nB aae.1 hg) (nC aae.1 hg) ?_; clear aD9 kS aGy aMW aae HB; intro aD9 kS aGy aMW aae HB anw bdm bdn aPX aSL; clear hb hbox hg; have aK7 := aSL.1; have aK8 := aPX.1; obtain ⟨aBB, aBC, aBD, aBE, aBF, aBG⟩ := gB anw.1; obtain ⟨aRP, aRQ, ba2⟩ := bv aMW.1; subst ba2) | ((with_reducible refine aA (f := 31) rfl ?_); refine cK (N := (some 39)) #[.slice A1 l1.length c1] Try.func31 ?_; (with_reducible refine (bX.calls k _ _ l1 aJb _ ?side1 ?side2 A15.1).mono ?_); (case side1 => exact aY HR1.1 (BL HB.1)); (case side2 => exact vD.1); rintro e w33 ⟨bf0, rfl, ho0, hb⟩; refine ⟨_, rfl, ?_⟩; refine E8 (jf (by (with_reducible repeat (first | apply aV | apply aW | apply aQ)); exact (aG (RQ aDq 2 (RQ aDq 1 (RQ aDq 0 (bz aD9.1 anw.1 (by decide)) _) _) _) (fun _ h_ => h_.1))) hb) (eT (by (with_reducible repeat (first | apply aV | apply aW | apply aQ)); exact (aG (RQ aDq 2 (RQ aDq 1 (RQ aDq 0 (bz kS.1 anw.1 (by decide)) _) _) _) (fun _ h_ => h_.1))) (fe ho0) hb) (eT (by (with_reducible repeat (first | apply aV | apply aW | apply aQ)); exact (aG (RQ aDq 2 (RQ aDq 1 (RQ aDq 0 (bz aGy.1 anw.1 (by decide)) _) _) _) (fun _ h_ => h_.1))) (fe ho0) hb) (jf (by (with_reducible repeat (first | apply aV | apply aW | apply aQ)); exact (aG (RQ aDq 2 (RQ aDq 1 (RQ aDq 0 (bz aMW.1 anw.1 (by decide)) _) _) _) (fun _ h_ => h_.1))) hb) (bN (iI (iI ho0 (iL (by (with_reducible repeat (first | apply aV | apply aW | apply aQ)); exact (aG (RQ aDq 2 (RQ aDq 1 (RQ aDq 0 (bz kS.1 anw.1 (by decide)) _) _) _) (fun _ h_ => h_.1))))) (iL (by (with_reducible repeat (first | apply aV | apply aW | apply aQ)); exact (aG (RQ aDq 2 (RQ aDq 1 (RQ aDq 0 (bz aGy.1 anw.1 (by decide)) _) _) _) (fun _ h_ => h_.1))))) (bZ HB.1)) (dh (g := aKL) (o := .cells #[.int .i64 ah, .int .i64 af, .slice aK ae.length aJ] 24 (0, 0)) (xB aPX.1 aae.1) hb) (dh (g := aDq) (o := .cells #[.int .i64 ahc, .int .i64 aHA, .slice aRP aHB.length aRQ] 30 (0, 0)) (BB anw.1) hb) (bS HB.1 hb) ?_; clear aD9 kS aGy aMW aae anw HB; intro aD9 kS aGy aMW aS0 aae anw HB; (try clear hb); (try clear ho0); obtain ⟨V3, V4, azL, V5, V6, azM⟩ := gB anw.1; obtain ⟨Q9, ED, Mv⟩ := bv aS0.1; subst Mv) | ((with_reducible refine aA (f := 32) rfl ?_); refine cK (N := (some 44)) #[.agg #[.int .i64 ahc, .int .i64 aHA, .slice aRP aHB.length aRQ], .slice Q9 aJb.length ED, .int .i64 a2] Try.func32 ?_; (with_reducible refine (aad.calls k ahc aHA _ _ aHB _ _ aJb a2 aRG a0d _ ?side1 ?side2 ?side3 ?side4 A16.1).mono ?_); (case side1 => exact CB (ay aMW.1).2.2); (case side2 => exact (ay aMW.1).2.1); (case side3 => exact CB (ay aS0.1).2.2); (case side4 => exact (ay aS0.1).2.1); rintro e w36 ⟨aTY, rfl, ho0, hb⟩; refine ⟨_, rfl, ?_⟩; refine E9 (rB aD9.1 hb) (eT (PR kS.1) (fe ho0) hb) (eT (PR aGy.1) (fe ho0) hb) (rB aMW.1 hb) (eT (PR aS0.1) (fe ho0) hb) (bN (iI (iI (iI ho0 (iL (PR kS.1))) (iL (PR aGy.1))) (iL (PR aS0.1))) (bZ HB.1)) (bB aae.1 hb) (bB anw.1 hb) (bS HB.1 hb) ?_; clear aD9 kS aGy aMW aS0 aae anw HB; intro aD9 kS aGy aMW aS0 aWK aae anw HB; (try clear hb); (try clear ho0)))
 (try simp only [Act.put, List.setIfInBounds_toArray, List.set_cons_zero, List.set_cons_succ])
 go_cut [55] (fun v55 wc => ∃ (kq : Nat) (aVV : Bool), v55 = .bool aVV /\ aa (A9.j0 kq l1 a2 aTW aX0 aJb aRG a0d aVV ah af ae ahc aHA aHB = some true) /\ aa (kq <= k) /\ aa (Kd.R (Kd.int .i64) 3 wc w.heap.size (fun k_ => some k_ ≠ ((.slice Q9 aJb.length ED) : Value).ownBlock /\ some k_ ≠ (aTY : Value).ownBlock) aTX aTW) /\ aa (Kd.R (Kd.int .i64) 3 wc w.heap.size (fun k_ => some k_ ≠ (aTX : Value).ownBlock /\ some k_ ≠ (aTY : Value).ownBlock) (.slice Q9 aJb.length ED) aJb) /\ aa (Kd.R (Kd.int .i64) 3 wc w.heap.size (fun k_ => some k_ ≠ (aTX : Value).ownBlock /\ some k_ ≠ ((.slice Q9 aJb.length ED) : Value).ownBlock) aTY aRG) /\ aa (Kd.R jZ 83 wc w.heap.size (fun _ => True) (.slice aRP aHB.length aRQ) aHB) /\ aa (wc.heap[aKL]? = some (.cells #[.int .i64 ah, .int .i64 af, (.slice aK ae.length aJ)] 24 (0, 0))) /\ aa (wc.heap[aDq]? = some (.cells #[.int .i64 ahc, .int .i64 aHA, (.slice aRP aHB.length aRQ)] 30 (0, 0))) /\ aa (Below w.heap.size w wc))
 case first =>
  have H := a4j.1
  clear a4j
  replace H := dz H; obtain ⟨a7j, A37, H⟩ := H
  replace H := ifT H (by cases k <;> simp [A9.j0]); obtain ⟨rfl, H⟩ := H
  have H' := aa.mk H
  clear H
  obtain ⟨arX, aes, amE⟩ := bv aWK.1
  subst amE
  obtain ⟨ayR, ayS, ayT⟩ := bv aGy.1
  subst ayT
  go_wp2_with (first | ((with_reducible refine aA (f := 26) rfl ?_); refine cK (N := (some 49)) #[.slice arX aRG.length aes, .slice ayR aTW.length ayS] Try.func26 ?_; (with_reducible refine (di.calls k _ _ aRG _ _ aTW true _ ?side1 ?side2 ?side3 ?side4 A37.1).mono ?_); (case side1 => exact CB (ay aWK.1).2.2); (case side2 => exact (ay aWK.1).2.1); (case side3 => exact CB (ay aGy.1).2.2); (case side4 => exact (ay aGy.1).2.1); rintro e w' ⟨rfl, ⟨nd, rfl⟩⟩; refine ⟨_, rfl, ?_⟩))
  go_meet
  case rel => exact ⟨_, ((a0d != aX0)), RG, H', ⟨by first | omega | exact Nat.le_refl _⟩, ⟨pm (aG aGy.1 (fun _ hk => ⟨hk.1.2, hk.2⟩))⟩, ⟨pm (aG aS0.1 (fun _ hk => ⟨hk.1.2, hk.2⟩))⟩, ⟨pm (aG aWK.1 (fun _ hk => ⟨hk.1.2, hk.2⟩))⟩, ⟨pm (aG aMW.1 (fun _ hk => trivial))⟩, ⟨PB aae.1⟩, ⟨PB anw.1⟩, ⟨BL HB.1⟩⟩
 clear a4j
 try clear c1; clear c4b0 c4b1 c7b0 FD FE OA uJ uK xK Aj Ak Jz aBB aBC aBD V3 V4 azL FF FH OB uL uM xL Al Am JA aBE aBF aBG V5 V6 azM
 obtain ⟨kq, aVV, rfl, HA, a7p, HO_8, HO_11, HO_12, HO_636002, aae, anw, HB⟩ := hcut
 cases kq with
 | zero => exact absurd HA.1 (by simp [A9.j0])
 | succ aTZ => ?_
 have H := HA.1
 clear HA
 simp only [A9.j0] at H
 replace H := ifF H (by simp); obtain ⟨rfl, H⟩ := H
 replace H := dz H; obtain ⟨⟨a4k, a4l, ads⟩, A44, H⟩ := H
 dsimp only at H
 replace H := dz H; obtain ⟨a7d, A45, H⟩ := H
 replace H := ifT H (by simp); obtain ⟨rfl, H⟩ := H
 replace H := dz H; obtain ⟨aTV, A47, H⟩ := H
 replace H := dz H; obtain ⟨a7e, A48, H⟩ := H
 replace H := ifT H (by simp); obtain ⟨rfl, H⟩ := H
 replace H := dz H; obtain ⟨⟨vB, aYE⟩, A50, H⟩ := H
 dsimp only at H
 replace H := dz H; obtain ⟨⟨ba4, ba5⟩, A51, H⟩ := H
 dsimp only at H
 have a4m := aa.mk H
 clear H
 try go_wp2
 refine E7 (aQ HO_8.1) (aQ HO_11.1) (aQ HO_12.1) (aQ HO_636002.1) (ag aae.1) (ag anw.1) (dm HB.1) ?_
 clear HO_8 HO_11 HO_12 HO_636002 aae anw HB
 intro HO_8 HO_11 HO_12 HO_636002 aae anw HB
 refine jN (n := 5) (S := fun w' => w'.cell? ⟨aDq, 0, none⟩ = some (.int .i64 ahc) /\ w'.cell? ⟨aDq, 1, none⟩ = some (.int .i64 aHA) /\ w'.cell? ⟨aDq, 2, none⟩ = some (.slice aRP aHB.length aRQ) /\ w'.cell? ⟨aKL, 0, none⟩ = some (.int .i64 ah) /\ w'.cell? ⟨aKL, 1, none⟩ = some (.int .i64 af) /\ w'.cell? ⟨aKL, 2, none⟩ = some (.slice aK ae.length aJ)) (ds := []) #[Zz,Zz,Zz,Zz,Zz] (by kernel_rfl) rfl rfl ⟨(ai anw.1 0).trans rfl, (ai anw.1 1).trans rfl, (ai anw.1 2).trans rfl, (ai aae.1 0).trans rfl, (ai aae.1 1).trans rfl, (ai aae.1 2).trans rfl⟩ (fun hHeld => ?_)
 generalize wc.drew = w53 at HO_8 HO_11 HO_12 HO_636002 aae anw HB hHeld ⊢
 refine xQ 0 (N := some 56) hHeld ?_
 refine xQ 1 (N := some 57) hHeld ?_
 refine mV (i := 2) (N := some 58) #[Yy,Yy,Yy,Zz,Zz] rfl rfl (by kernel_rfl) (by decide) (fun K hK => ?_)
 refine nA Try.func15 (by kernel_rfl) rfl #[.agg #[.int .i64 ah, .int .i64 af, .slice aK ae.length aJ]] (by rfl) rfl rfl (by (try simp only [List.map_toArray, List.map_cons, List.map_nil]); first | done | rfl | (simp only [List.length_drop, List.length_take]; rfl)) ?_
 with_reducible refine (eP.calls aTZ ah af _ _ ae a4k a4l ads _ ?side1 ?side2 A44.1).mono ?_
 (case side1 => exact CB (aY bD.1 HB.1))
 (case side2 => exact cO.1)
 rintro e w54 ⟨bf5, rfl, ho0, hb⟩
 refine ⟨_, rfl, ?_⟩
 refine E8 (rB HO_8.1 hb) (rB HO_11.1 hb) (rB HO_12.1 hb) (eT (PR HO_636002.1) (fe ho0) hb) (bN (iI ho0 (iL (PR HO_636002.1))) (bZ HB.1)) (bB aae.1 hb) (bB anw.1 hb) (bS HB.1 hb) ?_
 clear HO_8 HO_11 HO_12 HO_636002 aae anw HB
 intro HO_8 HO_11 HO_12 HO_636002 aJw aae anw HB
 (try clear hb)
 (try clear hb2)
 (try clear hk)
 (try clear hi)
 (try clear ho0)
 obtain ⟨a7r, a7s, a7t⟩ := bv aJw.1
 (first | subst a7t | (injection a7t with rY zZ rZ; have z8 := rY.symm; have Aa := rZ.symm; clear rY zZ rZ; subst z8; subst Aa))
 refine hK.out _ _ ⟨(ai anw.1 0).trans rfl, (ai anw.1 1).trans rfl, (ai anw.1 2).trans rfl, (ai aae.1 0).trans rfl, (ai aae.1 1).trans rfl, (ai aae.1 2).trans rfl⟩ (fun hHeld => ?_)
 clear hK K
 refine eX (a' := ?_) ?_ ?_
 rotate_left
 · show Act.put _ (some 58) _ = _
   simp only [Act.put, List.setIfInBounds_toArray, List.set_cons_zero, List.set_cons_succ, cz, dF]
   rfl
 refine mV (i := 3) (N := some 59) #[Yy,Yy,Yy,Yy,Zz] rfl rfl (by kernel_rfl) (by decide) (fun K hK => ?_)
 refine nA Try.func17 (by kernel_rfl) rfl #[.agg #[.int .i64 ahc, .int .i64 aHA, .slice aRP aHB.length aRQ], .agg #[.int .i64 a4k, .int .i64 a4l, .slice a7r ads.length a7s]] (by rfl) rfl rfl (by (try simp only [List.map_toArray, List.map_cons, List.map_nil]); first | done | rfl | (simp only [List.length_drop, List.length_take]; rfl)) ?_
 with_reducible refine (iO.calls aTZ ahc aHA _ _ aHB a4k a4l _ _ ads true _ ?side1 ?side2 ?side3 ?side4 A45.1).mono ?_
 (case side1 => exact CB (ay HO_636002.1).2.2)
 (case side2 => exact (ay HO_636002.1).2.1)
 (case side3 => exact CB (ay aJw.1).2.2)
 (case side4 => exact (ay aJw.1).2.1)
 rintro e w56 ⟨rfl, hb⟩
 refine ⟨_, rfl, ?_⟩
 refine E8 (rB HO_8.1 hb) (rB HO_11.1 hb) (rB HO_12.1 hb) (rB HO_636002.1 hb) (rB aJw.1 hb) (bB aae.1 hb) (bB anw.1 hb) (bS HB.1 hb) ?_
 clear HO_8 HO_11 HO_12 HO_636002 aJw aae anw HB
 intro HO_8 HO_11 HO_12 HO_636002 aJw aae anw HB
 (try clear hb)
 (try clear hb2)
 (try clear hk)
 (try clear hi)
 refine hK.out _ _ ⟨(ai anw.1 0).trans rfl, (ai anw.1 1).trans rfl, (ai anw.1 2).trans rfl, (ai aae.1 0).trans rfl, (ai aae.1 1).trans rfl, (ai aae.1 2).trans rfl⟩ (fun hHeld => ?_)
 clear hK K
 refine eX (a' := ?_) ?_ ?_
 rotate_left
 · show Act.put _ (some 59) _ = _
   simp only [Act.put, List.setIfInBounds_toArray, List.set_cons_zero, List.set_cons_succ, cz, dF]
   rfl
 refine ll (i := 4) (N := some 60) (v := ?_) (a' := ?_) #[Yy,Yy,Yy,Yy,Yy] rfl rfl (by kernel_rfl) (fun _ _ _ h => h) (Or.inl ⟨by rfl, ?_⟩) ?_ ?_
 rotate_left
 · intro w'
   go_simp
   with_reducible rfl
 rotate_left
 · simp only [Act.put, List.setIfInBounds_toArray, List.set_cons_zero, List.set_cons_succ, cz, dF]
   rfl
 refine lI (by kernel_rfl) ?_
 go_upto_region 20 with (first | ((with_reducible refine aA (f := 31) rfl ?_); refine cK (N := (some 63)) #[.slice A1 l1.length c1] Try.func31 ?_; (with_reducible refine (bX.calls aTZ _ _ l1 aTV _ ?side1 ?side2 A47.1).mono ?_); (case side1 => exact CB (aY HR1.1 HB.1)); (case side2 => exact vD.1); rintro e w57 ⟨a7u, rfl, ho0, hb⟩; refine ⟨_, rfl, ?_⟩; refine E9 (eT (PR HO_8.1) (fe ho0) hb) (eT (PR HO_11.1) (fe ho0) hb) (eT (PR HO_12.1) (fe ho0) hb) (rB HO_636002.1 hb) (rB aJw.1 hb) (bN (iI (iI (iI ho0 (iL (PR HO_8.1))) (iL (PR HO_11.1))) (iL (PR HO_12.1))) (bZ HB.1)) (bB aae.1 hb) (bB anw.1 hb) (bS HB.1 hb) ?_; clear HO_8 HO_11 HO_12 HO_636002 aJw aae anw HB; intro HO_8 HO_11 HO_12 HO_636002 aJw aKU aae anw HB; (try clear hb); (try clear ho0); obtain ⟨afd, afe, anR⟩ := bv aKU.1; subst anR) | ((with_reducible refine aA (f := 26) rfl ?_); refine cK (N := (some 64)) #[.slice Q9 aJb.length ED, .slice afd aTV.length afe] Try.func26 ?_; (with_reducible refine (di.calls aTZ _ _ aJb _ _ aTV true _ ?side1 ?side2 ?side3 ?side4 A48.1).mono ?_); (case side1 => exact CB (ay HO_11.1).2.2); (case side2 => exact (ay HO_11.1).2.1); (case side3 => exact CB (ay aKU.1).2.2); (case side4 => exact (ay aKU.1).2.1); rintro e w' ⟨rfl, ⟨nd, rfl⟩⟩; refine ⟨_, rfl, ?_⟩; have bdp := aSL.1; have bdq := aPX.1; obtain ⟨aAi, aAj, aAk, aAl, aAm, aAn⟩ := gB anw.1) | ((with_reducible refine aA (f := 27) rfl ?_); refine cK (N := (some 68)) #[.agg #[.int .i64 ahc, .int .i64 aHA, .slice aRP aHB.length aRQ], .int .i64 1] Try.func27 ?_; (with_reducible refine (jb.calls aTZ ahc aHA (fun k_ => some k_ = (.slice aRP aHB.length aRQ : Value).ownBlock) (.slice aRP aHB.length aRQ) aHB 1 vB aYE w _ ?side1 ?side2 A50.1).mono ?_); (case side1 => exact BL HB.1); (case side2 => exact jR rfl HO_636002.1); rintro e w61 ⟨rfl, hy0, hb, hkp⟩; refine ⟨_, rfl, ?_⟩; refine E9 (aG (ok' := fun k_ => some k_ ≠ (.slice Q9 aJb.length ED : Value).ownBlock /\ some k_ ≠ (aTY : Value).ownBlock /\ some k_ ≠ (.slice afd aTV.length afe : Value).ownBlock) (jV ((eH HO_8.1 (dY HO_636002.1) (by decide))) hkp (fun k_ hk_ hs_ => (hk_.2) hs_)) (fun k_ hk_ => ⟨hk_.1.1.1.1, hk_.1.1.1.2, hk_.1.1.2⟩)) (aG (ok' := fun k_ => some k_ ≠ (aTX : Value).ownBlock /\ some k_ ≠ (aTY : Value).ownBlock /\ some k_ ≠ (.slice afd aTV.length afe : Value).ownBlock) (jV ((eH HO_11.1 (dY HO_636002.1) (by decide))) hkp (fun k_ hk_ hs_ => (hk_.2) hs_)) (fun k_ hk_ => ⟨hk_.1.1.1.1, hk_.1.1.1.2, hk_.1.1.2⟩)) (aG (ok' := fun k_ => some k_ ≠ (aTX : Value).ownBlock /\ some k_ ≠ (.slice Q9 aJb.length ED : Value).ownBlock /\ some k_ ≠ (.slice afd aTV.length afe : Value).ownBlock) (jV ((eH HO_12.1 (dY HO_636002.1) (by decide))) hkp (fun k_ hk_ hs_ => (hk_.2) hs_)) (fun k_ hk_ => ⟨hk_.1.1.1.1, hk_.1.1.1.2, hk_.1.1.2⟩)) (qp rfl hy0 (fun k_ e_ => HO_636002.1.1 k_ e_)) (eQ (PB aae.1) hkp (fun hs_ => (fun e_ => (dK HO_636002.1 aae.1 (by decide)) e_) hs_)) (eQ (PB anw.1) hkp (fun hs_ => (fun e_ => (dK HO_636002.1 anw.1 (by decide)) e_) hs_)) (aG (ok' := fun k_ => some k_ ≠ (.slice aRP aHB.length aRQ : Value).ownBlock) (jV (aJw.1) hkp (fun k_ hk_ hs_ => (hk_.2) hs_)) (fun k_ hk_ => hk_.1.2)) (aG (ok' := fun k_ => some k_ ≠ (aTX : Value).ownBlock /\ some k_ ≠ (.slice Q9 aJb.length ED : Value).ownBlock /\ some k_ ≠ (aTY : Value).ownBlock) (jV ((eH aKU.1 (dY HO_636002.1) (by decide))) hkp (fun k_ hk_ hs_ => (hk_.2) hs_)) (fun k_ hk_ => ⟨hk_.1.1.1.1.2, hk_.1.1.1.2, hk_.1.1.2⟩)) (hb) ?_; clear HO_8 HO_11 HO_12 HO_636002 aae anw aJw aKU HB; intro HO_8 HO_11 HO_12 HO_636002 aae anw aJw aKU HB; (try clear hb); (try clear hkp); (try clear hy0)) | ((with_reducible refine aA (f := 28) rfl ?_); refine cK (N := (some 71)) #[.slice Q9 aJb.length ED, .int .i64 vB] Try.func28 ?_; (with_reducible refine (dB.calls aTZ (fun k_ => some k_ = (.slice Q9 aJb.length ED : Value).ownBlock) (.slice Q9 aJb.length ED) aJb vB ba4 ba5 w _ ?side1 ?side2 A51.1).mono ?_); (case side1 => exact BL HB.1); (case side2 => exact jR rfl HO_11.1); rintro e w62 ⟨rfl, hy0, hb, hkp⟩; refine ⟨_, rfl, ?_⟩; refine E9 (aG (ok' := fun k_ => some k_ ≠ (.slice Q9 aJb.length ED : Value).ownBlock /\ some k_ ≠ (aTY : Value).ownBlock /\ some k_ ≠ (.slice afd aTV.length afe : Value).ownBlock) (jV (HO_8.1) hkp (fun k_ hk_ hs_ => (hk_.1) hs_)) (fun k_ hk_ => ⟨hk_.1.1, hk_.1.2.1, hk_.1.2.2⟩)) (qp rfl hy0 (fun k_ e_ => HO_11.1.1 k_ e_)) (aG (ok' := fun k_ => some k_ ≠ (aTX : Value).ownBlock /\ some k_ ≠ (.slice Q9 aJb.length ED : Value).ownBlock /\ some k_ ≠ (.slice afd aTV.length afe : Value).ownBlock) (jV (HO_12.1) hkp (fun k_ hk_ hs_ => (hk_.2.1) hs_)) (fun k_ hk_ => ⟨hk_.1.1, hk_.1.2.1, hk_.1.2.2⟩)) (aG (ok' := fun k_ => some k_ ≠ (.slice a7r ads.length a7s : Value).ownBlock) (jV ((eH HO_636002.1 (dY HO_11.1) (by decide))) hkp (fun k_ hk_ hs_ => (hk_.2) hs_)) (fun k_ hk_ => hk_.1.1.2)) (eQ (PB aae.1) hkp (fun hs_ => (fun e_ => (dK HO_11.1 aae.1 (by decide)) e_) hs_)) (eQ (PB anw.1) hkp (fun hs_ => (fun e_ => (dK HO_11.1 anw.1 (by decide)) e_) hs_)) (aG (ok' := fun k_ => some k_ ≠ (.slice aRP aHB.length aRQ : Value).ownBlock) (jV ((eH aJw.1 (dY HO_11.1) (by decide))) hkp (fun k_ hk_ hs_ => (hk_.2) hs_)) (fun k_ hk_ => hk_.1.1)) (aG (ok' := fun k_ => some k_ ≠ (aTX : Value).ownBlock /\ some k_ ≠ (.slice Q9 aJb.length ED : Value).ownBlock /\ some k_ ≠ (aTY : Value).ownBlock) (jV (aKU.1) hkp (fun k_ hk_ hs_ => (hk_.2.1) hs_)) (fun k_ hk_ => ⟨hk_.1.1, hk_.1.2.1, hk_.1.2.2⟩)) (hb) ?_; clear HO_8 HO_11 HO_12 HO_636002 aae anw aJw aKU HB; intro HO_8 HO_11 HO_12 HO_636002 aae anw aJw aKU HB; (try clear hb); (try clear hkp); (try clear hy0)))
 (try simp only [Act.put, List.setIfInBounds_toArray, List.set_cons_zero, List.set_cons_succ])
 go_cut [84] (fun v84 wc => ∃ (kq : Nat) (aVW : Bool), v84 = .bool aVW /\ aa (A9.j1 kq l1 a2 aTW aX0 aRG aVW ah af ae = some true) /\ aa (kq <= aTZ) /\ aa (Kd.R (Kd.int .i64) 3 wc w.heap.size (fun k_ => some k_ ≠ (aTY : Value).ownBlock) aTX aTW) /\ aa (Kd.R (Kd.int .i64) 3 wc w.heap.size (fun k_ => some k_ ≠ (aTX : Value).ownBlock) aTY aRG) /\ aa (Kd.R jZ 83 wc w.heap.size (fun _ => True) (.slice aRP aHB.length aRQ) aYE) /\ aa (wc.heap[aKL]? = some (.cells #[.int .i64 ah, .int .i64 af, (.slice aK ae.length aJ)] 24 (0, 0))) /\ aa (wc.heap[aDq]? = some (.cells #[.int .i64 ahc, .int .i64 aHA, (.slice aRP aHB.length aRQ)] 30 (0, 0))) /\ aa (Below w.heap.size w wc))
 case first =>
  have H := a4m.1
  clear a4m
  replace H := oP H; rcases H with ⟨c63, H⟩ | ⟨c63, H⟩
  · exact absurd H (by cases aTZ <;> simp [A9.j1])
  have c63b0 := decide_eq_false c63
  clear c63
  (first | rw [c63b0] | (simp only [cz, dF]; rw [c63b0]) | skip)
  replace H := dz H; obtain ⟨a7h, A64, H⟩ := H
  replace H := ifT H (by cases aTZ <;> simp [A9.j1]); obtain ⟨rfl, H⟩ := H
  have H' := aa.mk H
  clear H
  obtain ⟨aNN, aNO, aDN⟩ := bv HO_12.1
  subst aDN
  obtain ⟨bf7, bf8, ba8⟩ := bv HO_8.1
  subst ba8
  go_wp2_with (first | (go_at_call 26; (with_reducible refine (di.calls aTZ _ _ aRG _ _ aTW true _ ?side1 ?side2 ?side3 ?side4 A64.1).mono ?_); (case side1 => exact CB (ay HO_12.1).2.2); (case side2 => exact (ay HO_12.1).2.1); (case side3 => exact CB (ay HO_8.1).2.2); (case side4 => exact (ay HO_8.1).2.1); rintro e w' ⟨rfl, ⟨nd, rfl⟩⟩))
  go_meet
  case rel => exact ⟨_, ((a0d != aX0)), RG, H', ⟨by have := a7p.1; first | omega | exact Nat.le_refl _⟩, ⟨pm (aG HO_8.1 (fun _ hk => hk.2.1))⟩, ⟨pm (aG HO_12.1 (fun _ hk => hk.1))⟩, ⟨pm (aG HO_636002.1 (fun _ hk => trivial))⟩, ⟨PB aae.1⟩, ⟨PB anw.1⟩, ⟨BL HB.1⟩⟩
 clear a4m
 try clear c1; clear aAi aAj aAk aAl aAm aAn
 obtain ⟨kq, aVW, rfl, HA, ba9, HO_8, HO_12, HO_636002, aae, anw, HB⟩ := hcut
 have axy := (ay HO_636002.1).1
 rw [axy] at HO_636002
 (try simp only [axy])
 (try simp only [axy] at aae)
 (try simp only [axy] at anw)
 (try simp only [axy] at HO_8)
 (try simp only [axy] at HO_12)
 cases kq with
 | zero => exact absurd HA.1 (by simp [A9.j1])
 | succ aVk => ?_
 have H := HA.1
 clear HA
 simp only [A9.j1] at H
 replace H := ifF H (by simp); obtain ⟨rfl, H⟩ := H
 replace H := dz H; obtain ⟨⟨a7v, aUr⟩, A71, H⟩ := H
 dsimp only at H
 replace H := dz H; obtain ⟨a0b, A72, H⟩ := H
 replace H := oP H; rcases H with ⟨c73, H⟩ | ⟨c73, H⟩
 · exact absurd H (by simp)
 have c73b0 := decide_eq_false c73
 clear c73
 first | replace H := oC H | replace H := ar6 H
 obtain ⟨c76, H⟩ := H
 have c76b0 := beq_iff_eq.mpr c76
 have c76b1 := bne_eq_false_iff_eq.mpr c76
 clear c76
 replace H := dz H; obtain ⟨⟨a4n, a4o, nQ⟩, A77, H⟩ := H
 dsimp only at H
 replace H := dz H; obtain ⟨wR, A78, H⟩ := H
 replace H := dz H; obtain ⟨⟨a4p, LK⟩, A79, H⟩ := H
 dsimp only at H
 have a4q := aa.mk H
 clear H
 obtain ⟨aVX, aVY, bba⟩ := bv HO_12.1
 subst bba
 go_upto_region 31 with (first | ((with_reducible refine aA (f := 28) rfl ?_); refine cK (N := (some 87)) #[.slice aVX aRG.length aVY, .int .i64 1] Try.func28 ?_; (with_reducible refine (dB.calls aVk (fun k_ => some k_ = (.slice aVX aRG.length aVY : Value).ownBlock) (.slice aVX aRG.length aVY) aRG 1 a7v aUr w _ ?side1 ?side2 A71.1).mono ?_); (case side1 => exact BL HB.1); (case side2 => exact jR rfl HO_12.1); rintro e w82 ⟨rfl, hy0, hb, hkp⟩; refine ⟨_, rfl, ?_⟩; refine E6 (aG (ok' := fun k_ => some k_ ≠ (.slice aVX aRG.length aVY : Value).ownBlock) (jV (HO_8.1) hkp (fun k_ hk_ hs_ => (hk_) hs_)) (fun k_ hk_ => hk_.1)) (qp rfl hy0 (fun k_ e_ => HO_12.1.1 k_ e_)) (aG (ok' := fun k_ => True) (jV ((eH HO_636002.1 (dY HO_12.1) (by decide))) hkp (fun k_ hk_ hs_ => (hk_.2) hs_)) (fun k_ hk_ => trivial)) (eQ (PB aae.1) hkp (fun hs_ => (fun e_ => (dK HO_12.1 aae.1 (by decide)) e_) hs_)) (eQ (PB anw.1) hkp (fun hs_ => (fun e_ => (dK HO_12.1 anw.1 (by decide)) e_) hs_)) (hb) ?_; clear HO_8 HO_12 HO_636002 aae anw HB; intro HO_8 HO_12 HO_636002 aae anw HB; (try clear hb); (try clear hkp); (try clear hy0)) | ((with_reducible refine aA (f := 29) rfl ?_); refine Ep (some 90) rfl rfl Try.func29 (by kernel_rfl) rfl #[.slice aVX aUr.length aVY, .int .i64 1] rfl (by (try simp only [List.map_toArray, List.map_cons, List.map_nil]); first | done | (rw [show aUr.length = aRG.length from (ay HO_12.1).1.symm] <;> rfl) | rfl | (simp only [List.length_drop, List.length_take]; rfl)) ?_; (with_reducible refine (dC.calls aVk _ _ aUr 1 a0b _ ?side1 ?side2 A72.1).mono ?_); (case side1 => exact CB (ay HO_12.1).2.2); (case side2 => rw [show aUr.length = aRG.length from (ay HO_12.1).1.symm]; exact (ay HO_12.1).2.1); rintro e w' ⟨rfl, ⟨nd, rfl⟩⟩; refine ⟨_, rfl, ?_⟩; have bds := aPX.1; have bdt := aSL.1; obtain ⟨a0g, a0h, a0i, a0j, a0k, a0l⟩ := gB aae.1) | ((with_reducible refine aA (f := 15) rfl ?_); refine cK (N := (some 98)) #[.agg #[.int .i64 ah, .int .i64 af, .slice aK ae.length aJ]] Try.func15 ?_; (with_reducible refine (eP.calls aVk ah af _ _ ae a4n a4o nQ _ ?side1 ?side2 A77.1).mono ?_); (case side1 => repeat (first | exact (aY bD.1 (BL HB.1)) | (with_reducible refine kg ?_ _) | (with_reducible refine ko ?_ _) | (with_reducible refine kH ?_))); (case side2 => exact cO.1); rintro e w85 ⟨ahu, rfl, ho0, hb⟩; refine ⟨_, rfl, ?_⟩; refine E7 (rB HO_8.1 hb) (rB HO_12.1 hb) (eT (PR HO_636002.1) (fe ho0) hb) (bN (iI ho0 (iL (PR HO_636002.1))) (bZ HB.1)) (bB aae.1 hb) (bB anw.1 hb) (bS HB.1 hb) ?_; clear HO_8 HO_12 HO_636002 aae anw HB; intro HO_8 HO_12 HO_636002 rE aae anw HB; (try clear hb); (try clear ho0)) | ((with_reducible refine aA (f := 31) rfl ?_); refine cK (N := (some 100)) #[.slice A1 l1.length c1] Try.func31 ?_; (with_reducible refine (bX.calls aVk _ _ l1 wR _ ?side1 ?side2 A78.1).mono ?_); (case side1 => exact CB (aY HR1.1 HB.1)); (case side2 => exact vD.1); rintro e w86 ⟨aQ4, rfl, ho0, hb⟩; refine ⟨_, rfl, ?_⟩; refine E8 (eT (PR HO_8.1) (fe ho0) hb) (eT (PR HO_12.1) (fe ho0) hb) (rB HO_636002.1 hb) (rB rE.1 hb) (bN (iI (iI ho0 (iL (PR HO_8.1))) (iL (PR HO_12.1))) (bZ HB.1)) (bB aae.1 hb) (bB anw.1 hb) (bS HB.1 hb) ?_; clear HO_8 HO_12 HO_636002 rE aae anw HB; intro HO_8 HO_12 HO_636002 rE vO aae anw HB; (try clear hb); (try clear ho0); obtain ⟨aDT, aDU, aDV⟩ := bv rE.1; subst aDV; obtain ⟨Pk, Pm, aGg⟩ := bv vO.1; subst aGg) | ((with_reducible refine aA (f := 32) rfl ?_); refine cK (N := (some 102)) #[.agg #[.int .i64 a4n, .int .i64 a4o, .slice aDT nQ.length aDU], .slice Pk wR.length Pm, .int .i64 a2] Try.func32 ?_; (with_reducible refine (aad.calls aVk a4n a4o _ _ nQ _ _ wR a2 a4p LK _ ?side1 ?side2 ?side3 ?side4 A79.1).mono ?_); (case side1 => exact CB (ay rE.1).2.2); (case side2 => exact (ay rE.1).2.1); (case side3 => exact CB (ay vO.1).2.2); (case side4 => exact (ay vO.1).2.1); rintro e w89 ⟨aH6, rfl, ho0, hb⟩; refine ⟨_, rfl, ?_⟩; refine E9 (eT (PR HO_8.1) (fe ho0) hb) (eT (PR HO_12.1) (fe ho0) hb) (rB HO_636002.1 hb) (rB rE.1 hb) (eT (PR vO.1) (fe ho0) hb) (bN (iI (iI (iI ho0 (iL (PR HO_8.1))) (iL (PR HO_12.1))) (iL (PR vO.1))) (bZ HB.1)) (bB aae.1 hb) (bB anw.1 hb) (bS HB.1 hb) ?_; clear HO_8 HO_12 HO_636002 rE vO aae anw HB; intro HO_8 HO_12 HO_636002 rE vO rF aae anw HB; (try clear hb); (try clear ho0)))
 (try simp only [Act.put, List.setIfInBounds_toArray, List.set_cons_zero, List.set_cons_succ])
 go_cut [113] (fun bbb wc => ∃ (kq : Nat) (aUs : Bool), bbb = .bool aUs /\ aa (A9.j2 kq aUr a7v aUs = some true) /\ aa (kq <= aVk) /\ aa (Kd.R (Kd.int .i64) 3 wc w.heap.size (fun _ => True) (.slice aVX aRG.length aVY) aUr) /\ aa (Kd.R jZ 83 wc w.heap.size (fun _ => True) (.slice aRP aYE.length aRQ) aYE) /\ aa (wc.heap[aKL]? = some (.cells #[.int .i64 ah, .int .i64 af, (.slice aK ae.length aJ)] 24 (0, 0))) /\ aa (wc.heap[aDq]? = some (.cells #[.int .i64 ahc, .int .i64 aHA, (.slice aRP aYE.length aRQ)] 30 (0, 0))) /\ aa (Below w.heap.size w wc))
 case first =>
  have H := a4q.1
  clear a4q
  replace H := dz H; obtain ⟨a7i, A90, H⟩ := H
  replace H := ifT H (by cases aVk <;> simp [A9.j2]); obtain ⟨rfl, H⟩ := H
  have H' := aa.mk H
  clear H
  obtain ⟨aD0, aD1, aD2⟩ := bv rF.1
  subst aD2
  obtain ⟨bbc, bbd, bbe⟩ := bv HO_8.1
  subst bbe
  go_wp2_with (first | ((with_reducible refine aA (f := 26) rfl ?_); refine cK (N := (some 107)) #[.slice aD0 a4p.length aD1, .slice bbc aTW.length bbd] Try.func26 ?_; (with_reducible refine (di.calls aVk _ _ a4p _ _ aTW true _ ?side1 ?side2 ?side3 ?side4 A90.1).mono ?_); (case side1 => exact CB (ay rF.1).2.2); (case side2 => exact (ay rF.1).2.1); (case side3 => exact CB (ay HO_8.1).2.2); (case side4 => exact (ay HO_8.1).2.1); rintro e w' ⟨rfl, ⟨nd, rfl⟩⟩; refine ⟨_, rfl, ?_⟩))
  go_meet
  case rel => exact ⟨_, ((LK != aX0)), RG, H', ⟨by have := a7p.1; have := ba9.1; first | omega | exact Nat.le_refl _⟩, ⟨by (try simp only [axy]); (with_reducible repeat (first | apply aV | apply aW | apply aQ)); exact aG HO_12.1 (fun _ hk => trivial)⟩, ⟨by (try simp only [axy]); (with_reducible repeat (first | apply aV | apply aW | apply aQ)); exact aG HO_636002.1 (fun _ hk => trivial)⟩, ⟨Er aae.1 axy⟩, ⟨Er anw.1 axy⟩, ⟨BL HB.1⟩⟩
 clear a4q
 try clear c1; clear c73b0 c76b0 c76b1 a0g a0h a0i a0j a0k a0l
 obtain ⟨kq, aUs, rfl, HA, bgh, HO_12, HO_636002, aae, anw, HB⟩ := hcut
 have aRX := (ay HO_12.1).1
 rw [aRX] at HO_12
 (try simp only [aRX])
 (try simp only [aRX] at aae)
 (try simp only [aRX] at anw)
 (try simp only [aRX] at HO_636002)
 cases kq with
 | zero => exact absurd HA.1 (by simp [A9.j2])
 | succ bbf => ?_
 have H := HA.1
 clear HA
 simp only [A9.j2] at H
 replace H := ifF H (by simp); obtain ⟨rfl, H⟩ := H
 replace H := dz H; obtain ⟨a0c, A97, H⟩ := H
 replace H := oP H; rcases H with ⟨c98, H⟩ | ⟨c98, H⟩
 · exact absurd H (by simp)
 have c98b0 := decide_eq_false c98
 clear c98
 first | replace H := oC H | replace H := ar6 H
 obtain ⟨c99, H⟩ := H
 have c99b0 := beq_iff_eq.mpr c99
 have c99b1 := bne_eq_false_iff_eq.mpr c99
 clear c99
 first | (obtain rfl := Option.some.inj H) | clear H
 go_wp2_with (first | ((with_reducible refine aA (f := 29) rfl ?_); refine cK (N := (some 116)) #[.slice aVX aUr.length aVY, .int .i64 1] Try.func29 ?_; (with_reducible refine (dC.calls bbf _ _ aUr 1 a0c _ ?side1 ?side2 A97.1).mono ?_); (case side1 => exact CB (ay HO_12.1).2.2); (case side2 => exact (ay HO_12.1).2.1); rintro e w' ⟨rfl, ⟨nd, rfl⟩⟩; refine ⟨_, rfl, ?_⟩))
 go_ret
 exact ⟨RF, BL HB.1⟩
end Go.Proofs.Ytbpfdbjnnlmdjaa.P
