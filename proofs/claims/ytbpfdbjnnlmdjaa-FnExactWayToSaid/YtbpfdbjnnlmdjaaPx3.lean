--MINI
-- PRINTED by print.py (a twelfth state) out of the translation. Not trusted: Lean checks it.
import Derived.Test.YtbpfdbjnnlmdjaaPx0
import Derived.Test.YtbpfdbjnnlmdjaaPx2
namespace Go.Proofs.Ytbpfdbjnnlmdjaa.P
open Go.RowKit Go.Proofs.YtbpfdbjnnlmdjaaW.PrintWords Go.Proofs.YtbpfdbjnnlmdjaaW.PrintLast Go.Proofs.YtbpfdbjnnlmdjaaW.PrintMore
attribute [local go_sem] rQ rR vR vS pO pQ rT rU   -- for this text's walks alone
set_option linter.unusedVariables false
set_option linter.unusedSimpArgs false
set_option maxHeartbeats 8000000
set_option maxRecDepth 100000

open Kd
def iW.f (k : Nat) (ah : Int) (af : Int) (ae : List (fq)) : Option (Bool) := (bO.f k ah af ae).bind fun atP => (if atP = true then ((aD.f k ah af ae).bind fun a5l => (some (decide ((a5l.length : Int) <= 8)))) else (some false))
theorem iW.mono : ∀ a0 a1 a2 k, dO (iW.f k a0 a1 a2) (iW.f (k + 1) a0 a1 a2) := by
 intro a0 a1 a2 k
 unfold iW.f
 repeat' first
  | (with_reducible exact bO.mono _ _ _ _)
  | (with_reducible exact aD.mono _ _ _ _)
  | (with_reducible exact dO.refl _)
  | (with_reducible exact dO.none _)
  | (with_reducible refine dO.ite ?_ ?_)
  | (with_reducible refine dO.bind ?_ (fun _ => ?_))
  | exact bO.mono _ _ _ _
  | exact aD.mono _ _ _ _
  | exact dO.none _
  | refine dO.ite ?_ ?_
  | refine dO.bind ?_ (fun _ => ?_)
theorem iW.calls (k : Nat) (ah : Int) (af : Int) (aK : Option Addr) (aJ : Nat) (ae : List (fq)) (r : Bool) (w : World) (dH : Kd.C jZ w aK ae.length ae) (dG : ae.length <= aJ) (h : iW.f k ah af ae = some r) :
 Calls Try.prog 68 #[.agg #[.int .i64 ah, .int .i64 af, .slice aK ae.length aJ]] w fun e w' => e = .returned (.bool r) /\ Below w.heap.size w w' := by
 have nH := Try.underlying30
 have bD := aa.mk dH
 have cO := aa.mk dG
 clear dH dG
 have HB := aa.mk (Below.refl w.heap.size w)
 have H := h
 clear h
 unfold iW.f at H
 replace H := dz H; obtain ⟨atP, A2, H⟩ := H
 replace H := Cm H; rcases H with ⟨rfl, H⟩ | ⟨rfl, H⟩
 · replace H := dz H; obtain ⟨a5l, A4, H⟩ := H
   obtain rfl := Option.some.inj H
   go_enter Try.func68, Try.ntmps68
   go_wp2_with (first | ((with_reducible refine aC (N := 1) rfl ?_); (try (refine jT (by rfl) ?_; dsimp only)); refine dN (cs := #[.int .i64 ah, .int .i64 af, .slice aK ae.length aJ]) (t := 30) ?_; intro a8R hg w5 hbox hb; refine mJ HB.1 hg hbox hb ?_; clear HB; intro HB aNs a8S a8T; clear hb hbox hg; obtain ⟨oL, oM, tZ, oN, oO, uf⟩ := gB aNs.1) | ((with_reducible refine aA (f := 83) rfl ?_); refine cK (N := (some 4)) #[.agg #[.int .i64 ah, .int .i64 af, .slice aK ae.length aJ]] Try.func83 ?_; (with_reducible refine (bO.calls k ah af _ _ ae true _ ?side1 ?side2 A2.1).mono ?_); (case side1 => exact CB (aY bD.1 HB.1)); (case side2 => exact cO.1); rintro e w7 ⟨rfl, hb⟩; refine ⟨_, rfl, ?_⟩; refine E2 (bB aNs.1 hb) (bS HB.1 hb) ?_; clear aNs HB; intro aNs HB; (try clear hb); obtain ⟨lZ, l5, mR, l6, l7, mU⟩ := gB aNs.1) | (go_at_call 52; (with_reducible refine (aD.calls k ah af _ _ ae a5l _ ?side1 ?side2 A4.1).mono ?_); (case side1 => exact CB (aY bD.1 HB.1)); (case side2 => exact cO.1); rintro e w9 ⟨v226, rfl, ho0, hb⟩; refine E3 (lN ho0 (bZ HB.1)) (bB aNs.1 hb) (bS HB.1 hb) ?_; clear aNs HB; intro a8U aNs HB; (try clear hb); (try clear ho0); obtain ⟨aE7, aeI, Yn⟩ := mq a8U.1; subst Yn))
   go_ret
   exact ⟨RF, BL HB.1⟩
 obtain rfl := Option.some.inj H
 go_enter Try.func68, Try.ntmps68
 go_wp2_with (first | ((with_reducible refine aC (N := 1) rfl ?_); (try (refine jT (by rfl) ?_; dsimp only)); refine dN (cs := #[.int .i64 ah, .int .i64 af, .slice aK ae.length aJ]) (t := 30) ?_; intro a8R hg qy hbox hb; refine mJ HB.1 hg hbox hb ?_; clear HB; intro HB aNs a8S a8T; clear hb hbox hg; obtain ⟨vT, vU, xI, vV, vW, xJ⟩ := gB aNs.1) | ((with_reducible refine aA (f := 83) rfl ?_); refine cK (N := (some 4)) #[.agg #[.int .i64 ah, .int .i64 af, .slice aK ae.length aJ]] Try.func83 ?_; (with_reducible refine (bO.calls k ah af _ _ ae false _ ?side1 ?side2 A2.1).mono ?_); (case side1 => exact CB (aY bD.1 HB.1)); (case side2 => exact cO.1); rintro e yJ ⟨rfl, hb⟩; refine ⟨_, rfl, ?_⟩; refine E2 (bB aNs.1 hb) (bS HB.1 hb) ?_; clear aNs HB; intro aNs HB; (try clear hb)))
 go_ret
 exact ⟨RF, BL HB.1⟩

def dI.l0 : Nat -> List Int -> Int -> Int -> List Int -> Int -> Int -> Option (Bool)
 | 0, _, _, _, _, _, _ => none
 | k + 1, x0, x1, x2, x9, j6, qR => if qR < j6 then (if 0 <= qR then (if qR < (x9.length : Int) then ((iw.f (rd x9 qR) x1 x2).bind fun t229 => (if t229 = true then (if qR > 0 then (if 0 <= (wrap64 (qR - 1)) then (if (wrap64 (qR - 1)) < (x0.length : Int) then (if (rd x0 (wrap64 (qR - 1))) ≥ (rd x9 qR) then (some false) else (dI.l0 k x0 x1 x2 x9 j6 (wrap64 (qR + 1)))) else (none)) else (none)) else (dI.l0 k x0 x1 x2 x9 j6 (wrap64 (qR + 1)))) else (some false))) else (none)) else (none)) else (some true)
def dI.f (k : Nat) (l0 : List Int) (a1 : Int) (a2 : Int) : Option (Bool) := dI.l0 k l0 a1 a2 l0 (l0.length : Int) 0
theorem dI.mono_l : ∀ k, (∀ y0 y1 y2 y3 y4 y5, dO (dI.l0 k y0 y1 y2 y3 y4 y5) (dI.l0 (k + 1) y0 y1 y2 y3 y4 y5))
 | 0 => fun _ _ _ _ _ _ r h => by simp [dI.l0] at h
 | k + 1 => by
  have ja := dI.mono_l k
  intros
  first | unfold dI.l0
  exact BA ja
theorem dI.mono : ∀ a0 a1 a2 k, dO (dI.f k a0 a1 a2) (dI.f (k + 1) a0 a1 a2) := by
 intro a0 a1 a2 k
 have ja := dI.mono_l k
 unfold dI.f
 exact BA ja
theorem dI.calls (k : Nat) (A0 : Option Addr) (c0 : Nat) (l0 : List Int) (a1 : Int) (a2 : Int) (r : Bool) (w : World) (hr0 : Kd.C (Kd.int .i64) w A0 l0.length l0) (hc0 : l0.length <= c0) (h : dI.f k l0 a1 a2 = some r) :
 Calls Try.prog 81 #[.slice A0 l0.length c0, .int .i64 a1, .int .i64 a2] w fun e w' => e = .returned (.bool r) /\ lY w w' := by
 have DI := aa.mk hr0
 have ZU := aa.mk hc0
 clear hr0 hc0
 have H := h
 clear h
 unfold dI.f at H
 have H' := aa.mk H
 clear H
 go_enter Try.func81, Try.ntmps81
 go_wp2
 go_loopg [11] k (fun kq v11 w' => ∃ (iQ : Int), v11 = .int .i64 iQ /\ aa (dI.l0 kq l0 a1 a2 l0 (l0.length : Int) iQ = some r) /\ aa (kq <= k) /\ lY w w')
 case atStart => exact ⟨(0), RG, H', ⟨Nat.le_refl _⟩, DR⟩
 clear H'
 obtain ⟨iQ, rfl, HA, iB, ⟨m1, rfl⟩⟩ := hrel
 cases gk with
 | zero => exact absurd HA.1 (by simp [dI.l0])
 | succ k1 => ?_
 have H := HA.1
 clear HA
 simp only [dI.l0] at H
 replace H := pu H; rcases H with ⟨c4b0, H⟩ | ⟨c4b0, H⟩
 · replace H := ji H; obtain ⟨c5b0, H⟩ := H
   replace H := ji H; obtain ⟨c6b0, H⟩ := H
   replace H := dz H; obtain ⟨t229, A7, H⟩ := H
   replace H := Cm H; rcases H with ⟨rfl, H⟩ | ⟨rfl, H⟩
   · replace H := oP H; rcases H with ⟨c9, H⟩ | ⟨c9, H⟩
     · have c9b0 : decide (0 < iQ) = true := decide_eq_true c9
       clear c9
       obtain ⟨sN, ze⟩ : ∃ j_ : Int, (wrap64 (iQ - 1)) = j_ := ⟨_, rfl⟩
       replace H : (if 0 <= (sN) then (if (sN) < (l0.length : Int) then (if (rd l0 (sN)) ≥ (rd l0 iQ) then (some false) else (dI.l0 k1 l0 a1 a2 l0 (l0.length : Int) (wrap64 (iQ + 1)))) else (none)) else (none)) = some r := by first | (rw [ze] at H; exact H) | (simp only [ze] at H ⊢; exact H)
       (try rw [ze] at A7)
       have hji10w : (IntKind.i64.wrap (iQ - 1)) = sN := (cz _).trans ze
       replace H := ji H; obtain ⟨c11b0, H⟩ := H
       replace H := ji H; obtain ⟨c12b0, H⟩ := H
       replace H := oP H; rcases H with ⟨c13, H⟩ | ⟨c13, H⟩
       · have c13b0 : decide ((rd l0 iQ) <= (rd l0 (sN))) = true := decide_eq_true c13
         clear c13
         obtain rfl := Option.some.inj H
         have aRR : 0 <= (iQ : Int) := OD
         have aRS : iQ < (l0.length : Int) := OD
         obtain ⟨aVy, e228, aUD⟩ := Kd.dx DI.1 iQ aRR aRS
         cases e228
         replace aRR := eq_true aRR
         replace aRS := eq_true aRS
         go_wp2_with (first | ((with_reducible refine aA (f := 55) rfl ?_); refine cK (N := (some 19)) #[.int .i64 (rd l0 iQ), .int .i64 a1, .int .i64 a2] Try.func55 ?_; (with_reducible refine (iw.calls (rd l0 iQ) a1 a2 true _ A7.1).mono ?_); rintro e w' ⟨rfl, ⟨nd, rfl⟩⟩; refine ⟨_, rfl, ?_⟩; have aWq : 0 <= ((sN) : Int) := OD; have aWr : (sN) < (l0.length : Int) := OD; obtain ⟨aZd, e230, a0O⟩ := Kd.dx DI.1 (sN) aWq aWr; obtain rfl : aVy = aZd := (by injection e230); replace aWq := eq_true aWq; replace aWr := eq_true aWr))
         go_ret
         exact ⟨by first | rfl | (simp; done) | (simp only [<- ze] <;> (first | rfl | simp)) | (simp [*]; done), DR⟩
       have c13b0 : decide ((rd l0 iQ) <= (rd l0 (sN))) = false := decide_eq_false c13
       clear c13
       have H' := aa.mk H
       clear H
       have aRR : 0 <= (iQ : Int) := OD
       have aRS : iQ < (l0.length : Int) := OD
       obtain ⟨aVy, e228, aUD⟩ := Kd.dx DI.1 iQ aRR aRS
       cases e228
       replace aRR := eq_true aRR
       replace aRS := eq_true aRS
       go_wp2_with (first | ((with_reducible refine aA (f := 55) rfl ?_); refine cK (N := (some 19)) #[.int .i64 (rd l0 iQ), .int .i64 a1, .int .i64 a2] Try.func55 ?_; (with_reducible refine (iw.calls (rd l0 iQ) a1 a2 true _ A7.1).mono ?_); rintro e w' ⟨rfl, ⟨nd, rfl⟩⟩; refine ⟨_, rfl, ?_⟩; have aWq : 0 <= ((sN) : Int) := OD; have aWr : (sN) < (l0.length : Int) := OD; obtain ⟨aZd, e230, a0O⟩ := Kd.dx DI.1 (sN) aWq aWr; obtain rfl : aVy = aZd := (by injection e230); replace aWq := eq_true aWq; replace aWr := eq_true aWr))
       go_roundg k1
       case measure => have := iB.1; omega
       case rel => exact ⟨(wrap64 (iQ + 1)), RG, H', ⟨by have := iB.1; omega⟩, DR⟩
     have c9b0 : decide (0 < iQ) = false := decide_eq_false c9
     clear c9
     have H' := aa.mk H
     clear H
     have aRR : 0 <= (iQ : Int) := OD
     have aRS : iQ < (l0.length : Int) := OD
     obtain ⟨aVy, e228, aUD⟩ := Kd.dx DI.1 iQ aRR aRS
     cases e228
     replace aRR := eq_true aRR
     replace aRS := eq_true aRS
     go_wp2_with (first | ((with_reducible refine aA (f := 55) rfl ?_); refine cK (N := (some 19)) #[.int .i64 (rd l0 iQ), .int .i64 a1, .int .i64 a2] Try.func55 ?_; (with_reducible refine (iw.calls (rd l0 iQ) a1 a2 true _ A7.1).mono ?_); rintro e w' ⟨rfl, ⟨nd, rfl⟩⟩; refine ⟨_, rfl, ?_⟩))
     go_roundg k1
     case measure => have := iB.1; omega
     case rel => exact ⟨(wrap64 (iQ + 1)), RG, H', ⟨by have := iB.1; omega⟩, DR⟩
   obtain rfl := Option.some.inj H
   have aRR : 0 <= (iQ : Int) := OD
   have aRS : iQ < (l0.length : Int) := OD
   obtain ⟨aVy, e228, aUD⟩ := Kd.dx DI.1 iQ aRR aRS
   cases e228
   replace aRR := eq_true aRR
   replace aRS := eq_true aRS
   go_wp2_with (first | ((with_reducible refine aA (f := 55) rfl ?_); refine cK (N := (some 19)) #[.int .i64 (rd l0 iQ), .int .i64 a1, .int .i64 a2] Try.func55 ?_; (with_reducible refine (iw.calls (rd l0 iQ) a1 a2 false _ A7.1).mono ?_); rintro e w' ⟨rfl, ⟨nd, rfl⟩⟩; refine ⟨_, rfl, ?_⟩))
   go_ret
   exact ⟨RG, DR⟩
 obtain rfl := Option.some.inj H
 go_wp2
 go_ret
 exact ⟨RG, DR⟩
def fH.f (k : Nat) (ah : Int) (af : Int) (ae : List (fq)) (l1 : List Int) : Option (Bool) := (iW.f k ah af ae).bind fun t232 => (if t232 = true then (if (l1.length : Int) > 0 then ((dI.f k l1 0 (wrap64 (af - 1))).bind fun t233 => (some t233)) else (some false)) else (some false))
theorem fH.mono : ∀ a0 a1 a2 a3 k, dO (fH.f k a0 a1 a2 a3) (fH.f (k + 1) a0 a1 a2 a3) := by
 intro a0 a1 a2 a3 k
 unfold fH.f
 repeat' first
  | (with_reducible exact dI.mono _ _ _ _)
  | (with_reducible exact iW.mono _ _ _ _)
  | (with_reducible exact dO.refl _)
  | (with_reducible exact dO.none _)
  | (with_reducible refine dO.ite ?_ ?_)
  | (with_reducible refine dO.bind ?_ (fun _ => ?_))
  | exact dI.mono _ _ _ _
  | exact iW.mono _ _ _ _
  | exact dO.none _
  | refine dO.ite ?_ ?_
  | refine dO.bind ?_ (fun _ => ?_)
theorem fH.calls (k : Nat) (ah : Int) (af : Int) (aK : Option Addr) (aJ : Nat) (ae : List (fq)) (A1 : Option Addr) (c1 : Nat) (l1 : List Int) (r : Bool) (w : World) (dH : Kd.C jZ w aK ae.length ae) (dG : ae.length <= aJ) (hr1 : Kd.C (Kd.int .i64) w A1 l1.length l1) (hc1 : l1.length <= c1) (h : fH.f k ah af ae l1 = some r) :
 Calls Try.prog 57 #[.agg #[.int .i64 ah, .int .i64 af, .slice aK ae.length aJ], .slice A1 l1.length c1] w fun e w' => e = .returned (.bool r) /\ Below w.heap.size w w' := by
 have nH := Try.underlying30
 have bD := aa.mk dH
 have cO := aa.mk dG
 clear dH dG
 have HR1 := aa.mk hr1
 have vD := aa.mk hc1
 clear hr1 hc1
 have HB := aa.mk (Below.refl w.heap.size w)
 have H := h
 clear h
 unfold fH.f at H
 replace H := dz H; obtain ⟨t232, A3, H⟩ := H
 replace H := Cm H; rcases H with ⟨rfl, H⟩ | ⟨rfl, H⟩
 · replace H := oP H; rcases H with ⟨c5, H⟩ | ⟨c5, H⟩
   · have c5b0 : decide (0 < (l1.length : Int)) = true := decide_eq_true c5
     have c5b1 : decide (0 < l1.length) = true := decide_eq_true (by omega)
     clear c5
     replace H := dz H; obtain ⟨t233, A6, H⟩ := H
     obtain rfl := Option.some.inj H
     go_enter Try.func57, Try.ntmps57
     go_wp2_with (first | ((with_reducible refine aC (N := 2) rfl ?_); (try (refine jT (by rfl) ?_; dsimp only)); refine dN (cs := #[.int .i64 ah, .int .i64 af, .slice aK ae.length aJ]) (t := 30) ?_; intro a2x hg w7 hbox hb; refine mJ HB.1 hg hbox hb ?_; clear HB; intro HB aJD a2y a2z; clear hb hbox hg; obtain ⟨lZ, l5, mR, l6, l7, mU⟩ := gB aJD.1) | ((with_reducible refine aA (f := 68) rfl ?_); refine cK (N := (some 6)) #[.agg #[.int .i64 ah, .int .i64 af, .slice aK ae.length aJ]] Try.func68 ?_; (with_reducible refine (iW.calls k ah af _ _ ae true _ ?side1 ?side2 A3.1).mono ?_); (case side1 => exact CB (aY bD.1 HB.1)); (case side2 => exact cO.1); rintro e w9 ⟨rfl, hb⟩; refine ⟨_, rfl, ?_⟩; refine E2 (bB aJD.1 hb) (bS HB.1 hb) ?_; clear aJD HB; intro aJD HB; (try clear hb); obtain ⟨pR, pU, uN, pV, pW, uO⟩ := gB aJD.1) | (go_at_call 81; (with_reducible refine (dI.calls k _ _ l1 0 (wrap64 (af - 1)) t233 _ ?side1 ?side2 A6.1).mono ?_); (case side1 => exact CB (aY HR1.1 HB.1)); (case side2 => exact vD.1); rintro e w' ⟨rfl, ⟨nd, rfl⟩⟩))
     go_ret
     exact ⟨RF, BL HB.1⟩
   have c5b0 : decide (0 < (l1.length : Int)) = false := decide_eq_false c5
   have c5b1 : decide (0 < l1.length) = false := decide_eq_false (by omega)
   clear c5
   obtain rfl := Option.some.inj H
   go_enter Try.func57, Try.ntmps57
   go_wp2_with (first | ((with_reducible refine aC (N := 2) rfl ?_); (try (refine jT (by rfl) ?_; dsimp only)); refine dN (cs := #[.int .i64 ah, .int .i64 af, .slice aK ae.length aJ]) (t := 30) ?_; intro a2x hg qy hbox hb; refine mJ HB.1 hg hbox hb ?_; clear HB; intro HB aJD a2y a2z; clear hb hbox hg; obtain ⟨vT, vU, xI, vV, vW, xJ⟩ := gB aJD.1) | ((with_reducible refine aA (f := 68) rfl ?_); refine cK (N := (some 6)) #[.agg #[.int .i64 ah, .int .i64 af, .slice aK ae.length aJ]] Try.func68 ?_; (with_reducible refine (iW.calls k ah af _ _ ae true _ ?side1 ?side2 A3.1).mono ?_); (case side1 => exact CB (aY bD.1 HB.1)); (case side2 => exact cO.1); rintro e yJ ⟨rfl, hb⟩; refine ⟨_, rfl, ?_⟩; refine E2 (bB aJD.1 hb) (bS HB.1 hb) ?_; clear aJD HB; intro aJD HB; (try clear hb)))
   go_ret
   exact ⟨RF, BL HB.1⟩
 obtain rfl := Option.some.inj H
 go_enter Try.func57, Try.ntmps57
 go_wp2_with (first | ((with_reducible refine aC (N := 2) rfl ?_); (try (refine jT (by rfl) ?_; dsimp only)); refine dN (cs := #[.int .i64 ah, .int .i64 af, .slice aK ae.length aJ]) (t := 30) ?_; intro a2x hg yM hbox hb; refine mJ HB.1 hg hbox hb ?_; clear HB; intro HB aJD a2y a2z; clear hb hbox hg; obtain ⟨sD, sF, wN, sG, sH, wO⟩ := gB aJD.1) | ((with_reducible refine aA (f := 68) rfl ?_); refine cK (N := (some 6)) #[.agg #[.int .i64 ah, .int .i64 af, .slice aK ae.length aJ]] Try.func68 ?_; (with_reducible refine (iW.calls k ah af _ _ ae false _ ?side1 ?side2 A3.1).mono ?_); (case side1 => exact CB (aY bD.1 HB.1)); (case side2 => exact cO.1); rintro e w16 ⟨rfl, hb⟩; refine ⟨_, rfl, ?_⟩; refine E2 (bB aJD.1 hb) (bS HB.1 hb) ?_; clear aJD HB; intro aJD HB; (try clear hb)))
 go_ret
 exact ⟨RF, BL HB.1⟩

def dD.l0 : Nat -> List Int -> List (List Int) -> Int -> Int -> Int -> Int -> List (fq) -> Option (List Int)
 | 0, _, _, _, _, _, _, _ => none
 | k + 1, x3, x7, x8, x9, a0P, a0Q, aUE => if x9 < x8 then (if 0 <= x9 then (if x9 < (x7.length : Int) then (if 0 < ((aT x7 x9).length : Int) then (if 0 <= (rd (aT x7 x9) 0) then (if (rd (aT x7 x9) 0) < (aUE.length : Int) then (if x3.length < 17592186044416 then (dD.l0 k (x3 ++ [(aj aUE (rd (aT x7 x9) 0)).f1]) x7 x8 (wrap64 (x9 + 1)) a0P a0Q aUE) else (none)) else (none)) else (none)) else (none)) else (none)) else (none)) else (some x3)
def dD.f (k : Nat) (ah : Int) (af : Int) (ae : List (fq)) : Option (List Int) := (aD.f k ah af ae).bind fun aIt => (dD.l0 k ([] : List Int) aIt (aIt.length : Int) 0 ah af ae)
theorem dD.mono_l : ∀ k, (∀ y0 y1 y2 y3 y4 y5 y6, dO (dD.l0 k y0 y1 y2 y3 y4 y5 y6) (dD.l0 (k + 1) y0 y1 y2 y3 y4 y5 y6))
 | 0 => fun _ _ _ _ _ _ _ r h => by simp [dD.l0] at h
 | k + 1 => by
  have ja := dD.mono_l k
  intros
  first | unfold dD.l0
  exact Qj ja aD.mono
theorem dD.mono : ∀ a0 a1 a2 k, dO (dD.f k a0 a1 a2) (dD.f (k + 1) a0 a1 a2) := by
 intro a0 a1 a2 k
 have ja := dD.mono_l k
 unfold dD.f
 exact Qj ja aD.mono
def dD.T5 : Bool × List (List Nat × List Nat) := (true, [([], []), ([], []), ([1], [1]), ([], []), ([3], [3]), ([4], [4]), ([2, 5], [2, 5]), ([6], [6]), ([7], [7]), ([8], [8]), ([0, 9], [0, 9]), ([10, 10, 0, 1, 2, 3, 4, 5, 6, 7, 8, 9, 10], [0, 10])])
def dD.B5 : List Nat := [0, 0, 2, 0, 8, 24, 62, 126, 254, 510, 1023, 2047]
theorem dD.abv : mX .any (opsOf Try.f71 5) = dD.T5 := by kernel_rfl
theorem dD.bits5 : kr dD.T5.2 dD.B5 = true := by kernel_rfl
theorem dD.calls (k : Nat) (ah : Int) (af : Int) (aK : Option Addr) (aJ : Nat) (ae : List (fq)) (r : List Int) (w : World) (dH : Kd.C jZ w aK ae.length ae) (dG : ae.length <= aJ) (h : dD.f k ah af ae = some r) :
 Calls Try.prog 71 #[.agg #[.int .i64 ah, .int .i64 af, .slice aK ae.length aJ]] w fun e w' => ∃ rO : Value, e = .returned (rO) /\ Kd.R (Kd.int .i64) 3 w' w.heap.size (fun _ => True) rO r /\ Below w.heap.size w w' := by
 have nH := Try.underlying30
 have bD := aa.mk dH
 have cO := aa.mk dG
 clear dH dG
 have HB := aa.mk (Below.refl w.heap.size w)
 have H := h
 clear h
 unfold dD.f at H
 replace H := dz H; obtain ⟨aIt, A2, H⟩ := H
 have H' := aa.mk H
 clear H
 go_enter Try.func71, Try.ntmps71
 go_wp2_with (first | ((with_reducible refine aC (N := 1) rfl ?_); refine dN (cs := #[.int .i64 ah, .int .i64 af, .slice aK ae.length aJ]) (t := 30) ?_; intro aXc hg w3 hbox hb; refine mJ HB.1 hg hbox hb ?_; clear HB; intro HB aGH bef beg; clear hb hbox hg; obtain ⟨Ao, Ap, K7, Aq, Ar, K8⟩ := gB aGH.1) | ((with_reducible refine aA (f := 52) rfl ?_); refine cK (N := (some 7)) #[.agg #[.int .i64 ah, .int .i64 af, .slice aK ae.length aJ]] Try.func52 ?_; (with_reducible refine (aD.calls k ah af _ _ ae aIt _ ?side1 ?side2 A2.1).mono ?_); (case side1 => exact CB (aY bD.1 HB.1)); (case side2 => exact cO.1); rintro e w5 ⟨v236, rfl, ho0, hb⟩; refine ⟨_, rfl, ?_⟩; refine E3 (lN ho0 (bZ HB.1)) (bB aGH.1 hb) (bS HB.1 hb) ?_; clear aGH HB; intro a2A aGH HB; (try clear hb); (try clear ho0); obtain ⟨Ao6, co6, eo6⟩ := mq a2A.1; subst eo6))
 go_loopg [3, 9] k (fun kq v3 v9 w' => ∃ (ky : List Int) (kJ : Int), v9 = .int .i64 kJ /\ aa (dD.l0 kq ky aIt (aIt.length : Int) kJ ah af ae = some r) /\ aa (kq <= k) /\ aa (Kd.R (Kd.int .i64) 3 w' w.heap.size (fun _ => True) v3 ky) /\ aa (Kd.S (Kd.slice 3 (Kd.int .i64)) 38 w' w.heap.size (fun k_ => some k_ ≠ (v3 : Value).ownBlock) (.slice Ao6 aIt.length co6) aIt) /\ aa (w'.heap[aXc]? = some (.cells #[.int .i64 ah, .int .i64 af, (.slice aK ae.length aJ)] 30 (0, 0))) /\ aa (Below w.heap.size w w'))
 case atStart => exact ⟨(([] : List Int)), (0), RG, H', ⟨Nat.le_refl _⟩, ⟨by first | exact tO _ _ _ _ _ | exact ET _ _ _ _ _ | exact EU _ _ _ _ _ | exact EW _ _ _ _ _ | exact EY _ _ _ _ _⟩, ⟨ES (eY a2A.1 (fun _ hk => (by simp [Value.ownBlock])))⟩, ⟨PB aGH.1⟩, ⟨BL HB.1⟩⟩
 clear H'
 clear Ao Ap K7 Aq Ar K8
 obtain ⟨ky, kJ, rfl, HA, iB, HO_3, HO_7, aGH, HB⟩ := hrel
 cases gk with
 | zero => exact absurd HA.1 (by simp [dD.l0])
 | succ k1 => ?_
 have H := HA.1
 clear HA
 simp only [dD.l0] at H
 replace H := pu H; rcases H with ⟨c7b0, H⟩ | ⟨c7b0, H⟩
 · replace H := ji H; obtain ⟨c8b0, H⟩ := H
   replace H := ji H; obtain ⟨c9b0, H⟩ := H
   replace H := oC H; obtain ⟨c10, H⟩ := H
   have c10b0 := decide_eq_true c10
   have c10b1 : decide (0 < (aT aIt kJ).length) = true := decide_eq_true (by omega)
   clear c10
   replace H := ji H; obtain ⟨c11b0, H⟩ := H
   replace H := ji H; obtain ⟨c12b0, H⟩ := H
   replace H := oC H; obtain ⟨c13, H⟩ := H
   have QN := aa.mk c13
   clear c13
   generalize a2B : ((ky ++ [(aj ae (rd (aT aIt kJ) 0)).f1]) : List Int) = bbX at H
   have a8V := aa.mk a2B.symm; clear a2B
   have H' := aa.mk H
   clear H
   have a0R : 0 <= (kJ : Int) := OD
   have a0S : kJ < (aIt.length : Int) := OD
   obtain ⟨a8W, bbY, bbZ, e238, a0T, aXd, aXe⟩ := tT (fJ HO_7.1).2.2 kJ a0R a0S
   cases e238
   obtain ⟨beh, a5m, a5n, aZe⟩ := BF HO_7.1 [] kJ a0R (by first | exact a0S | exact OD | (have e_ := (fJ HO_7.1).1; omega))
   obtain ⟨baj, rfl, aUF⟩ := a5n
   have aSc := aZe 0 _ rfl
   rw [Nat.add_zero, show ((Kd.slice 3 (Kd.int .i64))).sz = 1 from rfl, Nat.mul_one] at aSc
   replace aSc := Option.some.inj (aSc.symm.trans a0T)
   rw [aSc] at aUF
   have aN5 := aa.mk (show Kd.R (Kd.int .i64) 3 _ _ _ _ (aT aIt kJ) from aUF)
   clear aSc aUF
   clear aZe a5m
   have aRl := aa.mk aXe
   have bak := aa.mk aXd
   clear aXe aXd
   replace a0R := eq_true a0R
   replace a0S := eq_true a0S
   try go_wp2
   refine E6 (aQ HO_3.1) (iV HO_7.1) (aQ aN5.1) (ag aGH.1) (kH aRl.1) (dm HB.1) ?_
   clear HO_3 HO_7 aN5 aGH aRl HB
   intro HO_3 HO_7 aN5 aGH aRl HB
   have a5o : 0 <= (0 : Int) := (by omega)
   have a5p : 0 < ((aT aIt kJ).length : Int) := OD
   obtain ⟨a8X, bb4, aTm⟩ := Kd.dx (by repeat (first | (with_reducible exact aRl.1) | (with_reducible refine kg ?_ _) | (with_reducible refine ko ?_ _) | (with_reducible refine kH ?_) | exact aRl.1)) 0 a5o a5p
   cases bb4
   have bei : (0 < (aT aIt kJ).length) = True := eq_true (by omega)
   (try rw [show ((0 : Int)).toNat = 0 from rfl] at aTm)
   (try rw [Addr.add_zero'] at aTm)
   replace a5o := eq_true a5o
   replace a5p := eq_true a5p
   have a5q : 0 <= ((rd (aT aIt kJ) 0) : Int) := OD
   have a5r : (rd (aT aIt kJ) 0) < (ae.length : Int) := OD
   obtain ⟨aXf, e240, aSd, aSe⟩ := iP bD.1 (rd (aT aIt kJ) 0) a5q a5r
   have aXg := aSe
   have aXh := aSd
   cases e240
   replace aSd := (HB.1.cell (World.block_lt_of_cell? w _ aSd)).trans aSd
   replace aSe := (HB.1.cell (World.block_lt_of_cell? w _ aSe)).trans aSe
   replace a5q := eq_true a5q
   replace a5r := eq_true a5r
   refine jN (n := 12) (S := fun w' => w'.cell? ⟨aXc, 0, none⟩ = some (.int .i64 ah) /\ w'.cell? ⟨aXc, 1, none⟩ = some (.int .i64 af) /\ w'.cell? ⟨aXc, 2, none⟩ = some (.slice (some aXf) ae.length aJ) /\ w'.cell? a8X = some (.int .i64 (rd (aT aIt kJ) 0)) /\ w'.cell? (aXf.add (((rd (aT aIt kJ) 0)).toNat * 2)) = some (.int .i64 ((aj ae (rd (aT aIt kJ) 0)).f0)) /\ w'.cell? ⟨(aXf.add (((rd (aT aIt kJ) 0)).toNat * 2)).block, (aXf.add (((rd (aT aIt kJ) 0)).toNat * 2)).off + 1, none⟩ = some (.int .i64 ((aj ae (rd (aT aIt kJ) 0)).f1))) (ds := [9, 10]) #[Zz,Zz,Zz,Zz,Zz,Zz,Zz,Zz,Zz,Zz,Zz,Zz] (by kernel_rfl) rfl rfl ⟨(ai aGH.1 0).trans rfl, (ai aGH.1 1).trans rfl, (ai aGH.1 2).trans rfl, aTm, ((HB.1.cell (World.block_lt_of_cell? w _ aXh)).trans aXh), ((HB.1.cell (World.block_lt_of_cell? w _ aXg)).trans aXg)⟩ (fun hHeld => ?_); refine iq dD.abv dD.bits5 (fun HT_ HW_ => ?_)
   generalize wr.drew = yM at HO_3 HO_7 aN5 aGH aRl HB aTm aSd aSe hHeld ⊢
   refine aU 0 (N := some 13) HT_.1 ?_
   refine aU 1 (N := some 14) HT_.1 ?_
   refine aU 3 (N := some 16) HT_.1 ?_
   refine aU 4 (N := some 17) HT_.1 ?_
   refine gF 2 (N := some 15) HT_.1 HW_.1 hHeld ?_
   refine gF 5 (N := some 18) HT_.1 HW_.1 hHeld ?_
   refine aU 6 (N := some 19) HT_.1 ?_
   refine aU 7 (N := some 20) HT_.1 ?_
   refine gF 8 (N := some 21) HT_.1 HW_.1 hHeld ?_
   refine BD (i := 9) (N := some 22) #[Yy,Yy,Yy,Yy,Yy,Yy,Yy,Yy,Yy,Yy,Zz,Zz] rfl rfl (jc HT_.1 (by kernel_rfl)) (by decide) (fun K hK => ?_)
   refine Tp (w1 := ?_) (v := ?_) (by rfl) rfl ?_ ?_
   rotate_left 2
   · go_simp
     constructor
     · rfl
     rfl
   refine hK.out _ _ ?_
   clear hK K
   refine eX (a' := ?_) ?_ ?_
   rotate_left
   · show Act.put _ (some 22) _ = _
     simp only [Act.put, List.setIfInBounds_toArray, List.set_cons_zero, List.set_cons_succ, cz, dF]
     rfl
   refine BD (i := 10) (N := some 23) #[Yy,Yy,Yy,Yy,Yy,Yy,Yy,Yy,Yy,Yy,Yy,Zz] rfl rfl (jc HT_.1 (by kernel_rfl)) (by decide) (fun K hK => ?_)
   refine yG (Kd.int .i64) (w0 := w) w.heap.size (by rfl) (.tmp 13) (.tmp 22) 38 3 (.int .i64 0) 8 rfl Try.underlying38 info3 rfl (by decide) (by omega) u3 ky ((aj ae (rd (aT aIt kJ) 0)).f1) [.int .i64 ((aj ae (rd (aT aIt kJ) 0)).f1)] (fun _ => True) (fun _ => False) rfl rfl ?aP (fun _ hk => hk.elim) ?aF ?aO ?aB ?aS ?aL ?_
   (case aP => exact rfl)
   (case aB => exact (BL HB.1))
   (case aF => exact (fun _ _ => trivial))
   (case aO => exact (PR HO_3.1))
   (case aS => exact (bZ HB.1))
   (case aL => have := QN.1; omega)
   intro bgU NU ho hb hg hat
   rw [<- a8V.1] at ho
   refine E5 (CK (ok := (fun _ => True)) (ES (eY HO_7.1 (fun _ hk => ⟨trivial, hk⟩))) hg hat) (bG aGH.1 hg (dK HO_3.1 aGH.1 (by decide))) (iX (ok := (fun k_ => some k_ ≠ (.slice (some a8W) aIt.length co6 : Value).ownBlock)) (pm (aG aN5.1 (fun _ hk => ⟨hk.2, hk.1⟩))) hg hat) (hb) (ho) ?_
   clear HO_7 aGH aN5 HB HO_3
   intro HO_7 aGH aN5 HB a8Y
   clear ho hb hg hat
   refine hK.out _ _ ?_
   clear hK K
   refine eX (a' := ?_) ?_ ?_
   rotate_left
   · show Act.put _ (some 23) _ = _
     simp only [Act.put, List.setIfInBounds_toArray, List.set_cons_zero, List.set_cons_succ, cz, dF]
     rfl
   refine aU 11 (N := some 3) HT_.1 ?_
   refine lI (jS HT_.1 (by kernel_rfl)) ?_
   try go_wp2
   go_roundg k1
   case measure => have := iB.1; omega
   case rel => exact ⟨(bbX), (wrap64 (kJ + 1)), RG, H', ⟨by have := iB.1; omega⟩, ⟨PR a8Y.1⟩, ⟨ES (eY HO_7.1 (fun _ hk => hk.2))⟩, ⟨PB aGH.1⟩, ⟨BL HB.1⟩⟩
 obtain rfl := Option.some.inj H
 go_wp2
 go_ret
 exact ⟨_, RF, pm (HO_3.1), BL HB.1⟩
def bR.l0 : Nat -> Int -> List Int -> Int -> Int -> Option (Int)
 | 0, _, _, _, _ => none
 | k + 1, x3, x7, x8, x9 => if x9 < x8 then (if 0 <= x9 then (if x9 < (x7.length : Int) then (if 0 <= (IntKind.u64.wrap (x9)) then (bR.l0 k (wrap64 (x3 + (shl .i64 (rd x7 x9) (IntKind.u64.wrap (x9))))) x7 x8 (wrap64 (x9 + 1))) else (none)) else (none)) else (none)) else (some x3)
def bR.f (k : Nat) (ah : Int) (af : Int) (ae : List (fq)) : Option (Int) := (dD.f k ah af ae).bind fun aN6 => (bR.l0 k 0 aN6 (aN6.length : Int) 0)
theorem bR.mono_l : ∀ k, (∀ y0 y1 y2 y3, dO (bR.l0 k y0 y1 y2 y3) (bR.l0 (k + 1) y0 y1 y2 y3))
 | 0 => fun _ _ _ _ r h => by simp [bR.l0] at h
 | k + 1 => by
  have ja := bR.mono_l k
  intros
  first | unfold bR.l0
  exact Qj ja dD.mono
theorem bR.mono : ∀ a0 a1 a2 k, dO (bR.f k a0 a1 a2) (bR.f (k + 1) a0 a1 a2) := by
 intro a0 a1 a2 k
 have ja := bR.mono_l k
 unfold bR.f
 exact Qj ja dD.mono
theorem bR.calls (k : Nat) (ah : Int) (af : Int) (aK : Option Addr) (aJ : Nat) (ae : List (fq)) (r : Int) (w : World) (dH : Kd.C jZ w aK ae.length ae) (dG : ae.length <= aJ) (h : bR.f k ah af ae = some r) :
 Calls Try.prog 44 #[.agg #[.int .i64 ah, .int .i64 af, .slice aK ae.length aJ]] w fun e w' => e = .returned (.int .i64 r) /\ Below w.heap.size w w' := by
 have nH := Try.underlying30
 have bD := aa.mk dH
 have cO := aa.mk dG
 clear dH dG
 have HB := aa.mk (Below.refl w.heap.size w)
 have H := h
 clear h
 unfold bR.f at H
 replace H := dz H; obtain ⟨aN6, A2, H⟩ := H
 have H' := aa.mk H
 clear H
 go_enter Try.func44, Try.ntmps44
 go_wp2_with (first | ((with_reducible refine aC (N := 1) rfl ?_); refine dN (cs := #[.int .i64 ah, .int .i64 af, .slice aK ae.length aJ]) (t := 30) ?_; intro a8Z hg w3 hbox hb; refine mJ HB.1 hg hbox hb ?_; clear HB; intro HB aTG bej bek; clear hb hbox hg; obtain ⟨Ao, Ap, K7, Aq, Ar, K8⟩ := gB aTG.1) | ((with_reducible refine aA (f := 71) rfl ?_); refine cK (N := (some 7)) #[.agg #[.int .i64 ah, .int .i64 af, .slice aK ae.length aJ]] Try.func71 ?_; (with_reducible refine (dD.calls k ah af _ _ ae aN6 _ ?side1 ?side2 A2.1).mono ?_); (case side1 => exact CB (aY bD.1 HB.1)); (case side2 => exact cO.1); rintro e w5 ⟨bgV, rfl, ho0, hb⟩; refine ⟨_, rfl, ?_⟩; refine E3 (bN ho0 (bZ HB.1)) (bB aTG.1 hb) (bS HB.1 hb) ?_; clear aTG HB; intro a2C aTG HB; (try clear hb); (try clear ho0); obtain ⟨Ao6, co6, eo6⟩ := bv a2C.1; subst eo6))
 go_loopg [3, 9] k (fun kq v3 v9 w' => ∃ (ky : Int) (kJ : Int), v3 = .int .i64 ky /\ v9 = .int .i64 kJ /\ aa (bR.l0 kq ky aN6 (aN6.length : Int) kJ = some r) /\ aa (kq <= k) /\ aa (Kd.R (Kd.int .i64) 3 w' w.heap.size (fun _ => True) (.slice Ao6 aN6.length co6) aN6) /\ aa (w'.heap[a8Z]? = some (.cells #[.int .i64 ah, .int .i64 af, (.slice aK ae.length aJ)] 30 (0, 0))) /\ aa (Below w.heap.size w w'))
 case atStart => exact ⟨(0), (0), RG, RG, H', ⟨Nat.le_refl _⟩, ⟨PR a2C.1⟩, ⟨PB aTG.1⟩, ⟨BL HB.1⟩⟩
 clear H'
 clear Ao Ap K7 Aq Ar K8
 obtain ⟨ky, kJ, rfl, rfl, HA, iB, HO_7, aTG, HB⟩ := hrel
 cases gk with
 | zero => exact absurd HA.1 (by simp [bR.l0])
 | succ k1 => ?_
 have H := HA.1
 clear HA
 simp only [bR.l0] at H
 replace H := pu H; rcases H with ⟨c7b0, H⟩ | ⟨c7b0, H⟩
 · replace H := ji H; obtain ⟨c8b0, H⟩ := H
   replace H := ji H; obtain ⟨c9b0, H⟩ := H
   obtain ⟨sN, ze⟩ : ∃ j_ : Int, (IntKind.u64.wrap (kJ)) = j_ := ⟨_, rfl⟩
   replace H : (if 0 <= (sN) then (bR.l0 k1 (wrap64 (ky + (shl .i64 (rd aN6 kJ) (sN)))) aN6 (aN6.length : Int) (wrap64 (kJ + 1))) else (none)) = some r := by first | (rw [ze] at H; exact H) | (simp only [ze] at H ⊢; exact H)
   replace H := oC H; obtain ⟨c11, H⟩ := H
   have c11b0 := eq_true c11
   have c11b1 := decide_eq_true c11
   clear c11
   obtain ⟨YA, Q4⟩ : ∃ j_ : Int, (shl .i64 (rd aN6 kJ) (sN)) = j_ := ⟨_, rfl⟩
   replace H : (bR.l0 k1 (wrap64 (ky + (YA))) aN6 (aN6.length : Int) (wrap64 (kJ + 1))) = some r := by first | (rw [Q4] at H; exact H) | (simp only [Q4] at H ⊢; exact H)
   have aoj : (IntKind.i64.wrap ((rd aN6 kJ) * 2 ^ min (sN).toNat 64)) = YA := Q4
   have hji12z : (sN) <= 64 -> (IntKind.i64.wrap ((rd aN6 kJ) * 2 ^ (sN).toNat)) = YA := CO Q4
   have hji12y : (wrap64 ((rd aN6 kJ) * 2 ^ min (sN).toNat 64)) = YA := (cz _).symm.trans aoj
   have hji12x : (sN) <= 64 -> (wrap64 ((rd aN6 kJ) * 2 ^ (sN).toNat)) = YA := fun h_ => (cz _).symm.trans (hji12z h_)
   have H' := aa.mk H
   clear H
   have a5s : 0 <= (kJ : Int) := OD
   have a5t : kJ < (aN6.length : Int) := OD
   obtain ⟨bem, e248, bal⟩ := Kd.dx (ay HO_7.1).2.2 kJ a5s a5t
   cases e248
   replace a5s := eq_true a5s
   replace a5t := eq_true a5t
   go_wp2
   go_roundg k1
   case measure => have := iB.1; omega
   case rel => exact ⟨(wrap64 (ky + (YA))), (wrap64 (kJ + 1)), (by first | rfl | (simp; done) | (simp only [<- Q4] <;> (first | rfl | simp)) | (simp [*]; done)), RG, H', ⟨by have := iB.1; omega⟩, ⟨PR HO_7.1⟩, ⟨PB aTG.1⟩, ⟨BL HB.1⟩⟩
 obtain rfl := Option.some.inj H
 go_wp2
 go_ret
 exact ⟨RF, BL HB.1⟩
def je.f (ah : Int) (af : Int) (ae : List (fq)) : Option (Int × Int × (List (fq))) := (some (([] : List (fq)) : List (fq))).bind fun aZf => (if aZf.length + ae.length < 8796093022208 then (some (ah, af, (aZf ++ ae))) else (none))
def je.T1 : Bool × List (List Nat × List Nat) := (true, [([], []), ([0], [0]), ([], []), ([2], [2]), ([], []), ([], []), ([5], [5]), ([4, 6], [4, 6]), ([1, 3, 7], [1, 3, 7]), ([8, 7, 0, 1, 2, 3, 4, 5, 6, 7, 8], [8])])
def je.B1 : List Nat := [0, 1, 0, 4, 0, 0, 32, 112, 255, 511]
theorem je.aby : mX .any (opsOf Try.f94 1) = je.T1 := by kernel_rfl
theorem je.bits1 : kr je.T1.2 je.B1 = true := by kernel_rfl
theorem je.calls (ah : Int) (af : Int) (aK : Option Addr) (aJ : Nat) (ae : List (fq)) (r1 : Int) (r2 : Int) (r3 : List (fq)) (w : World) (dH : Kd.C jZ w aK ae.length ae) (dG : ae.length <= aJ) (h : je.f ah af ae = some (r1, r2, r3)) :
 Calls Try.prog 94 #[.agg #[.int .i64 ah, .int .i64 af, .slice aK ae.length aJ]] w fun e w' => ∃ VK : Value, e = .returned (.agg #[.int .i64 r1, .int .i64 r2, VK]) /\ Kd.R jZ 83 w' w.heap.size (fun _ => True) VK r3 /\ Below w.heap.size w w' := by
 have nH := Try.underlying30
 have bD := aa.mk dH
 have cO := aa.mk dG
 clear dH dG
 have HB := aa.mk (Below.refl w.heap.size w)
 have H := h
 clear h
 unfold je.f at H
 replace H := nR H; obtain ⟨aZf, a2D, H⟩ := H
 replace H := oC H; obtain ⟨c2, H⟩ := H
 have abz := aa.mk c2
 clear c2
 generalize a2E : ((aZf ++ ae) : List (fq)) = bb5 at H
 have a81 := aa.mk a2E.symm; clear a2E
 simp only [Option.some.injEq, Prod.mk.injEq] at H
 obtain ⟨rfl, rfl, rfl⟩ := H
 go_enter Try.func94, Try.ntmps94
 try go_wp2_with (first | ((with_reducible refine aC (N := 1) rfl ?_); refine dN (cs := #[.int .i64 ah, .int .i64 af, .slice aK ae.length aJ]) (t := 30) ?_; intro aua hg w3 hbox hb; refine mJ HB.1 hg hbox hb ?_; clear HB; intro HB K9 aJI aJJ; clear hb hbox hg) | ((with_reducible refine aC (N := 2) rfl ?_); refine dN (cs := #[.int .i64 0, .int .i64 0, .slice none 0 0]) (t := 30) ?_; intro aXi hg w4 hbox hb; refine E7 (bB K9.1 hb) (bS HB.1 hb) (hbox) (gX HB.1 hg) (gX HB.1 hg) (nB K9.1 hg) (nC K9.1 hg) ?_; clear K9 HB; intro K9 HB aMd ben beo aRq aYd; clear hb hbox hg))
 refine E3 (ag K9.1) (ag aMd.1) (dm HB.1) ?_
 clear K9 aMd HB
 intro K9 aMd HB
 refine jN (n := 10) (S := fun w' => w'.cell? ⟨aua, 0, none⟩ = some (.int .i64 ah) /\ w'.cell? ⟨aua, 1, none⟩ = some (.int .i64 af) /\ w'.cell? ⟨aua, 2, none⟩ = some (.slice aK ae.length aJ)) (ds := []) #[Zz,Zz,Zz,Zz,Zz,Zz,Zz,Zz,Zz,Zz] (by kernel_rfl) rfl rfl ⟨(ai K9.1 0).trans rfl, (ai K9.1 1).trans rfl, (ai K9.1 2).trans rfl⟩ (fun hHeld => ?_); refine iq je.aby je.bits1 (fun HT_ HW_ => ?_)
 generalize w4.drew = w5 at K9 aMd HB hHeld ⊢
 refine aU 0 (N := some 3) HT_.1 ?_
 refine aU 2 (N := some 5) HT_.1 ?_
 refine aU 5 (N := some 8) HT_.1 ?_
 refine gF 1 (N := some 4) HT_.1 HW_.1 hHeld ?_
 refine gF 3 (N := some 6) HT_.1 HW_.1 hHeld ?_
 refine gF 6 (N := some 9) HT_.1 HW_.1 hHeld ?_
 refine mV (i := 4) (N := some 7) #[Yy,Yy,Yy,Yy,Yy,Yy,Yy,Zz,Zz,Zz] rfl rfl (jc HT_.1 (by kernel_rfl)) (by decide) (fun K hK => ?_)
 refine KH jZ _ 83 ?hg (N := 7) ?hd (xs := ([] : List (fq))) (inner := []) (ok := fun _ => True) (okp := fun _ => True) ?hr ?hp (fun _ hk => hk) trivial (Below.refl _ _) (Nat.le_refl _) (by simp) ?_; (case hd => rfl); (case hg => rfl); (case hr => first | (go_simp; done) | (go_simp; rfl)); (case hp => exact (fK.none _ _))
 intro bb6 w6 yY hb hg_ hnew_
 clear hg_ hnew_
 (first | rw [<- a2D.1] at yY | (simp only [Int.reduceToNat] at yY; rw [<- a2D.1] at yY))
 refine E4 (bN yY (bZ HB.1)) (bB K9.1 hb) (bB aMd.1 hb) (bS HB.1 hb) ?_
 clear K9 aMd HB
 intro aXj K9 aMd HB
 clear hb yY
 refine hK.out _ _ ⟨(ai K9.1 0).trans rfl, (ai K9.1 1).trans rfl, (ai K9.1 2).trans rfl⟩ (fun hHeld => ?_)
 clear hK K
 refine eX (a' := ?_) ?_ ?_
 rotate_left
 · show Act.put _ (some 7) _ = _
   simp only [Act.put, List.setIfInBounds_toArray, List.set_cons_zero, List.set_cons_succ, cz, dF]
   rfl
 refine mV (i := 7) (N := some 10) #[Yy,Yy,Yy,Yy,Yy,Yy,Yy,Yy,Zz,Zz] rfl rfl (jc HT_.1 (by kernel_rfl)) (by decide) (fun K hK => ?_)
 refine xc jZ (w0 := w) w.heap.size (by rfl) (.tmp 7) (.tmp 9) 28 83 (.agg #[(.int .i64 0), (.int .i64 0)]) 16 rfl Try.underlying28 Tc rfl (by decide) (by omega) bb6 aZf ae _ _ _ (fun _ => True) (fun _ => False) rfl rfl ?aO ?aR (fun _ _ h => h) (fun _ h => h.elim) ?aF ?aB ?aS ?aL ?_
 (case aR => repeat (first | exact (aY bD.1 HB.1) | (with_reducible refine kg ?_ _) | (with_reducible refine ko ?_ _) | (with_reducible refine kH ?_)))
 (case aB => exact (BL HB.1))
 (case aF => exact (fun _ _ => trivial))
 (case aO => exact (PR aXj.1))
 (case aS => exact (bZ HB.1))
 (case aL => have := abz.1; omega)
 intro bgW w8 ho hb hg hat
 rw [<- a81.1] at ho
 refine E4 (bG K9.1 hg (dK aXj.1 K9.1 (by decide))) (bG aMd.1 hg (dK aXj.1 aMd.1 (by decide))) (hb) (ho) ?_
 clear K9 aMd HB aXj
 intro K9 aMd HB a2F
 clear ho hb hg hat
 obtain ⟨Ao9, ZI, Vm⟩ := bv a2F.1
 (first | subst Vm | (injection Vm with rY zZ rZ; have z8 := rY.symm; have Aa := rZ.symm; clear rY zZ rZ; subst z8; subst Aa))
 refine hK.out _ _ ⟨(ai K9.1 0).trans rfl, (ai K9.1 1).trans rfl, (ai K9.1 2).trans rfl⟩ (fun hHeld => ?_)
 clear hK K
 refine eX (a' := ?_) ?_ ?_
 rotate_left
 · show Act.put _ (some 10) _ = _
   simp only [Act.put, List.setIfInBounds_toArray, List.set_cons_zero, List.set_cons_succ, cz, dF]
   rfl
 refine aU 8 (N := some 11) HT_.1 ?_
 refine mV (i := 9) (N := none) #[Yy,Yy,Yy,Yy,Yy,Yy,Yy,Yy,Yy,Yy] rfl rfl (jc HT_.1 (by kernel_rfl)) (by decide) (fun K hK => ?_)
 obtain ⟨aFe, aFf, aFg, auc, aud, aue⟩ := gB aMd.1
 have afv := aRq.1
 have afw := aYd.1
 refine pF (w1 := ?_) (by rfl) rfl ?_ ?_
 rotate_left
 · go_simp
   rfl
 refine hK.out _ _ ⟨(rP aRq.1 hHeld.1), (rP aRq.1 hHeld.2.1), (rP aRq.1 hHeld.2.2)⟩ (fun hHeld => ?_)
 clear hK K
 refine lI (jS HT_.1 (by kernel_rfl)) ?_
 try go_wp2
 refine bodyPost_ret (results_cell_row rfl _ _ aXi 30 #[.int .i64 ah, .int .i64 af, .slice Ao9 bb5.length ZI] (0, 0) _ rfl (BB aMd.1) Try.underlying30 rfl (by kernel_rfl)) rfl ?_
 exact ⟨_, RF, by (with_reducible repeat (first | apply aV | apply aW | apply aQ)); exact aG (RQ aXi 2 (RQ aXi 1 (RQ aXi 0 (bz a2F.1 aMd.1 (by decide)) _) _) _) (fun _ hk => trivial), BL HB.1⟩
def pX.f (ah : Int) (af : Int) (ae : List (fq)) (a1 : Int) (a2 : Int) : Option (Int × Int) := if 0 <= (wrap64 ((wrap64 (a1 * af)) + a2)) then (if (wrap64 ((wrap64 (a1 * af)) + a2)) < (ae.length : Int) then (some ((aj ae (wrap64 ((wrap64 (a1 * af)) + a2))).f0, (aj ae (wrap64 ((wrap64 (a1 * af)) + a2))).f1)) else (none)) else (none)
theorem pX.calls (ah : Int) (af : Int) (aK : Option Addr) (aJ : Nat) (ae : List (fq)) (a1 : Int) (a2 : Int) (r1 : Int) (r2 : Int) (w : World) (dH : Kd.C jZ w aK ae.length ae) (dG : ae.length <= aJ) (h : pX.f ah af ae a1 a2 = some (r1, r2)) :
 Calls Try.prog 95 #[.agg #[.int .i64 ah, .int .i64 af, .slice aK ae.length aJ], .int .i64 a1, .int .i64 a2] w fun e w' => e = .returned (.agg #[.int .i64 r1, .int .i64 r2]) /\ Below w.heap.size w w' := by
 have nH := Try.underlying30
 have xE := Try.underlying83
 have bD := aa.mk dH
 have cO := aa.mk dG
 clear dH dG
 have HB := aa.mk (Below.refl w.heap.size w)
 have H := h
 clear h
 unfold pX.f at H
 obtain ⟨ji4, afx⟩ : ∃ j_ : Int, (wrap64 ((wrap64 (a1 * af)) + a2)) = j_ := ⟨_, rfl⟩
 replace H : (if 0 <= (ji4) then (if (ji4) < (ae.length : Int) then (some ((aj ae (ji4)).f0, (aj ae (ji4)).f1)) else (none)) else (none)) = some (r1, r2) := by first | (rw [afx] at H; exact H) | (simp only [afx] at H ⊢; exact H)
 have hji4w : (IntKind.i64.wrap ((wrap64 (a1 * af)) + a2)) = ji4 := (cz _).trans afx
 replace H := ji H; obtain ⟨c5b0, H⟩ := H
 replace H := ji H; obtain ⟨c6b0, H⟩ := H
 simp only [Option.some.injEq, Prod.mk.injEq] at H
 obtain ⟨rfl, rfl⟩ := H
 go_enter Try.func95, Try.ntmps95
 go_wp2_with (first | ((with_reducible refine aC (N := 3) rfl ?_); refine dN (cs := #[.int .i64 ah, .int .i64 af, .slice aK ae.length aJ]) (t := 30) ?_; intro bep hg w7 hbox hb; refine mJ HB.1 hg hbox hb ?_; clear HB; intro HB aUb ber bes; clear hb hbox hg) | ((with_reducible refine aC (N := 6) rfl ?_); refine dN (cs := #[.int .i64 0, .int .i64 0]) (t := 83) ?_; intro a88 hg w8 hbox hb; refine E7 (bB aUb.1 hb) (bS HB.1 hb) (hbox) (gX HB.1 hg) (gX HB.1 hg) (nB aUb.1 hg) (nC aUb.1 hg) ?_; clear aUb HB; intro aUb HB a2G bet beu aYe aYf; clear hb hbox hg; have aeJ := aYe.1; have aeK := aYf.1; obtain ⟨pR, pU, uN, pV, pW, uO⟩ := gB aUb.1; have a5u : 0 <= ((ji4) : Int) := OD; have a5v : (ji4) < (ae.length : Int) := OD; obtain ⟨bev, e259, aUG, aUH⟩ := iP bD.1 (ji4) a5u a5v; cases e259; replace aUG := (HB.1.cell (World.block_lt_of_cell? w _ aUG)).trans aUG; replace aUH := (HB.1.cell (World.block_lt_of_cell? w _ aUH)).trans aUH; replace a5u := eq_true a5u; replace a5v := eq_true a5v; obtain ⟨vX, vY, vZ, wh⟩ := nO a2G.1))
 refine bodyPost_ret (results_cell_row rfl _ _ a88 83 #[.int .i64 ((aj ae (ji4)).f0), .int .i64 ((aj ae (ji4)).f1)] (0, 0) _ rfl (BB a2G.1) Try.underlying83 rfl (by kernel_rfl)) rfl ?_
 exact ⟨by first | rfl | (simp [iC, iD] <;> rfl) | (simp only [<- afx]; first | rfl | (simp [iC, iD] <;> rfl)) | (simp [*, iC, iD] <;> rfl), BL HB.1⟩
def fo.j0 : Nat -> Int -> Int -> Bool -> Int -> Int -> Option (Int)
 | 0, _, _, _, _, _ => none
 | k + 1, x1, x6, qR, bam, a0U => if qR = true then (some (wrap64 ((wrap64 (2 * a0U)) - 1))) else (if x6 = 4 then (some (wrap64 (-x1))) else (some 0))
def fo.f (k : Nat) (ah : Int) (af : Int) (a1 : Int) : Option (Int) := if ah = 1 then (some (-1)) else (if ah = 2 then (some 1) else (if ah = 3 then (fo.j0 k a1 ah (ah == 3) ah af) else (fo.j0 k a1 ah (ah == 6) ah af)))
theorem fo.mono_l : ∀ k, (∀ y0 y1 y2 y3 y4, dO (fo.j0 k y0 y1 y2 y3 y4) (fo.j0 (k + 1) y0 y1 y2 y3 y4))
 | 0 => fun _ _ _ _ _ r h => by simp [fo.j0] at h
 | k + 1 => by
  have ja := fo.mono_l k
  intros
  first | unfold fo.j0
  exact BA ja
theorem fo.mono : ∀ a0 a1 a2 k, dO (fo.f k a0 a1 a2) (fo.f (k + 1) a0 a1 a2) := by
 intro a0 a1 a2 k
 have ja := fo.mono_l k
 unfold fo.f
 exact BA ja
theorem fo.calls (k : Nat) (ah : Int) (af : Int) (a1 : Int) (r : Int) (w : World) (h : fo.f k ah af a1 = some r) :
 Calls Try.prog 96 #[.agg #[.int .i64 ah, .int .i64 af], .int .i64 a1] w fun e w' => e = .returned (.int .i64 r) /\ Below w.heap.size w w' := by
 have xE := Try.underlying83
 have HB := aa.mk (Below.refl w.heap.size w)
 have H := h
 clear h
 unfold fo.f at H
 replace H := oP H; rcases H with ⟨c3, H⟩ | ⟨c3, H⟩
 · have c3b0 := beq_iff_eq.mpr c3
   have c3b1 := bne_eq_false_iff_eq.mpr c3
   clear c3
   obtain rfl := Option.some.inj H
   go_enter Try.func96, Try.ntmps96
   go_wp2_with (first | ((with_reducible refine aC (N := 2) rfl ?_); refine dN (cs := #[.int .i64 ah, .int .i64 af]) (t := 83) ?_; intro aZg hg w4 hbox hb; refine mJ HB.1 hg hbox hb ?_; clear HB; intro HB aSf a2H a2I; clear hb hbox hg; obtain ⟨Au, Av, Aw, Ay⟩ := nO aSf.1))
   go_ret
   exact ⟨RF, BL HB.1⟩
 have c3b0 := beq_eq_false_iff_ne.mpr c3
 have c3b1 := bne_iff_ne.mpr c3
 replace H := oP H; rcases H with ⟨c6, H⟩ | ⟨c6, H⟩
 · have c6b0 := beq_iff_eq.mpr c6
   have c6b1 := bne_eq_false_iff_eq.mpr c6
   clear c6
   obtain rfl := Option.some.inj H
   go_enter Try.func96, Try.ntmps96
   go_wp2_with (first | ((with_reducible refine aC (N := 2) rfl ?_); refine dN (cs := #[.int .i64 ah, .int .i64 af]) (t := 83) ?_; intro aZg hg w7 hbox hb; refine mJ HB.1 hg hbox hb ?_; clear HB; intro HB aSf a2H a2I; clear hb hbox hg; obtain ⟨lZ, l5, l6, l7⟩ := nO aSf.1))
   go_ret
   exact ⟨RF, BL HB.1⟩
 have c6b0 := beq_eq_false_iff_ne.mpr c6
 have c6b1 := bne_iff_ne.mpr c6
 have HC9 := aa.mk H
 clear H
 go_enter Try.func96, Try.ntmps96
 go_upto_if 11 with (first | ((with_reducible refine aC (N := 2) rfl ?_); refine dN (cs := #[.int .i64 ah, .int .i64 af]) (t := 83) ?_; intro aZg hg Hw hbox hb; refine mJ HB.1 hg hbox hb ?_; clear HB; intro HB aSf a2H a2I; clear hb hbox hg; obtain ⟨vX, vY, vZ, wh⟩ := nO aSf.1))
 (try simp only [Act.put, List.setIfInBounds_toArray, List.set_cons_zero, List.set_cons_succ])
 go_cut [11] (fun v11 wc => ∃ (kq : Nat) (abC : Bool), v11 = .bool abC /\ aa (fo.j0 kq a1 ah abC ah af = some r) /\ aa (kq <= k) /\ aa (wc.heap[aZg]? = some (.cells #[.int .i64 ah, .int .i64 af] 83 (0, 0))) /\ aa (Below w.heap.size w wc))
 case first =>
  have H := HC9.1
  clear HC9
  replace H := oP H; rcases H with ⟨c12, H⟩ | ⟨c12, H⟩
  · have c12b0 := beq_iff_eq.mpr c12
    have c12b1 := bne_eq_false_iff_eq.mpr c12
    clear c12
    (first | rw [c12b0] | (simp only [cz, dF]; rw [c12b0]) | skip)
    have H' := aa.mk H
    clear H
    go_wp2
    go_meet
    case rel => exact ⟨_, ((ah == 3)), RG, H', ⟨by first | omega | exact Nat.le_refl _⟩, ⟨PB aSf.1⟩, ⟨BL HB.1⟩⟩
  have c12b0 := beq_eq_false_iff_ne.mpr c12
  have c12b1 := bne_iff_ne.mpr c12
  (first | rw [c12b0] | (simp only [cz, dF]; rw [c12b0]) | skip)
  have H' := aa.mk H
  clear H
  go_wp2
  go_meet
  case rel => exact ⟨_, ((ah == 6)), RG, H', ⟨by first | omega | exact Nat.le_refl _⟩, ⟨PB aSf.1⟩, ⟨BL HB.1⟩⟩
 clear HC9
 try clear c3; try clear c6; clear c3b0 c3b1 c6b0 c6b1 vX vY vZ wh
 obtain ⟨kq, abC, rfl, HA, HJ8, aSf, HB⟩ := hcut
 cases kq with
 | zero => exact absurd HA.1 (by simp [fo.j0])
 | succ kj8 => ?_
 have H := HA.1
 clear HA
 simp only [fo.j0] at H
 replace H := Cm H; rcases H with ⟨rfl, H⟩ | ⟨rfl, H⟩
 · obtain rfl := Option.some.inj H
   obtain ⟨Af, Ag, Ah, Ai⟩ := nO aSf.1
   go_wp2
   go_ret
   exact ⟨RF, BL HB.1⟩
 replace H := oP H; rcases H with ⟨c15, H⟩ | ⟨c15, H⟩
 · have c15b0 := beq_iff_eq.mpr c15
   have c15b1 := bne_eq_false_iff_eq.mpr c15
   clear c15
   obtain rfl := Option.some.inj H
   go_wp2
   go_ret
   exact ⟨RF, BL HB.1⟩
 have c15b0 := beq_eq_false_iff_ne.mpr c15
 have c15b1 := bne_iff_ne.mpr c15
 obtain rfl := Option.some.inj H
 go_wp2
 go_ret
 exact ⟨RF, BL HB.1⟩
def kR.f (ah : Int) (af : Int) : Option (Int × Int) := some (ah, wrap64 (1 - af))
theorem kR.calls (ah : Int) (af : Int) (r1 : Int) (r2 : Int) (w : World) (h : kR.f ah af = some (r1, r2)) :
 Calls Try.prog 101 #[.agg #[.int .i64 ah, .int .i64 af]] w fun e w' => e = .returned (.agg #[.int .i64 r1, .int .i64 r2]) /\ Below w.heap.size w w' := by
 have xE := Try.underlying83
 have HB := aa.mk (Below.refl w.heap.size w)
 have H := h
 clear h
 unfold kR.f at H
 simp only [Option.some.injEq, Prod.mk.injEq] at H
 obtain ⟨rfl, rfl⟩ := H
 go_enter Try.func101, Try.ntmps101
 go_wp2_with (first | ((with_reducible refine aC (N := 1) rfl ?_); refine dN (cs := #[.int .i64 ah, .int .i64 af]) (t := 83) ?_; intro bew hg w2 hbox hb; refine mJ HB.1 hg hbox hb ?_; clear HB; intro HB aUc bex bey; clear hb hbox hg) | ((with_reducible refine aC (N := 2) rfl ?_); refine dN (cs := #[.int .i64 0, .int .i64 0]) (t := 83) ?_; intro aJP hg w3 hbox hb; refine E7 (bB aUc.1 hb) (bS HB.1 hb) (hbox) (gX HB.1 hg) (gX HB.1 hg) (nB aUc.1 hg) (nC aUc.1 hg) ?_; clear aUc HB; intro aUc HB Ng aJQ aJR aYg aYh; clear hb hbox hg; have aOK := aYg.1; have aOL := aYh.1; obtain ⟨Au, Av, Aw, Ay⟩ := nO aUc.1; obtain ⟨oL, oM, oN, oO⟩ := nO Ng.1))
 refine bodyPost_ret (results_cell_row rfl _ _ aJP 83 #[.int .i64 ah, .int .i64 (wrap64 (1 - af))] (0, 0) _ rfl (BB Ng.1) Try.underlying83 rfl (by kernel_rfl)) rfl ?_
 exact ⟨RF, BL HB.1⟩

end Go.Proofs.Ytbpfdbjnnlmdjaa.P
