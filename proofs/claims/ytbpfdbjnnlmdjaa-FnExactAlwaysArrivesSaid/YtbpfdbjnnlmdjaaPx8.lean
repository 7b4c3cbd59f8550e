--MINI
import Derived.Test.YtbpfdbjnnlmdjaaPx0
import Derived.Test.YtbpfdbjnnlmdjaaPx1
import Derived.Test.YtbpfdbjnnlmdjaaPx2
import Derived.Test.YtbpfdbjnnlmdjaaPx4
import Derived.Test.YtbpfdbjnnlmdjaaPx5
import Derived.Test.YtbpfdbjnnlmdjaaPx6
namespace Go.Proofs.Ytbpfdbjnnlmdjaa.P
open Go.RowKit Go.Proofs.YtbpfdbjnnlmdjaaW.PrintWords Go.Proofs.YtbpfdbjnnlmdjaaW.PrintLast Go.Proofs.YtbpfdbjnnlmdjaaW.PrintMore
attribute [local go_sem] rQ rR vR vS pO pQ rT rU
set_option linter.unusedVariables false
set_option linter.unusedSimpArgs false
set_option maxHeartbeats 8000000
set_option maxRecDepth 100000
open Kd
def fA.l0 : Nat -> List Int -> List Int -> Int -> Int -> Option (Bool)
 | 0, _, _, _, _ => none
 | k + 1, x0, x1, pz, wy => if wy < pz then (if 0 <= wy then (if wy < (x0.length : Int) then (if wy < (x1.length : Int) then (if (rd x0 wy) = (rd x1 wy) then (fA.l0 k x0 x1 pz (wrap64 (wy + 1))) else (some false)) else (none)) else (none)) else (none)) else (some true)
def fA.f (k : Nat) (l0 : List Int) (l1 : List Int) : Option (Bool) := if (l0.length : Int) = (l1.length : Int) then (fA.l0 k l0 l1 (l0.length : Int) 0) else (some false)
theorem fA.mono_l : ∀ k, (∀ y0 y1 y2 y3, dO (fA.l0 k y0 y1 y2 y3) (fA.l0 (k + 1) y0 y1 y2 y3))
 | 0 => fun _ _ _ _ r h => by simp [fA.l0] at h
 | k + 1 => by
  have ja := fA.mono_l k
  intros
  first | unfold fA.l0
  exact BA ja
theorem fA.mono : ∀ a0 a1 k, dO (fA.f k a0 a1) (fA.f (k + 1) a0 a1) := by
 intro a0 a1 k
 have ja := fA.mono_l k
 unfold fA.f
 exact BA ja
theorem fA.calls (k : Nat) (A0 : Option Addr) (c0 : Nat) (l0 : List Int) (A1 : Option Addr) (c1 : Nat) (l1 : List Int) (r : Bool) (w : World) (hr0 : Kd.C (Kd.int .i64) w A0 l0.length l0) (hc0 : l0.length <= c0) (hr1 : Kd.C (Kd.int .i64) w A1 l1.length l1) (hc1 : l1.length <= c1) (h : fA.f k l0 l1 = some r) :
 Calls Try.prog 67 #[.slice A0 l0.length c0, .slice A1 l1.length c1] w fun e w' => e = .returned (.bool r) /\ lY w w' := by
 have DI := aa.mk hr0
 have ZU := aa.mk hc0
 clear hr0 hc0
 have HR1 := aa.mk hr1
 have vD := aa.mk hc1
 clear hr1 hc1
 have H := h
 clear h
 unfold fA.f at H
 replace H := oP H; rcases H with ⟨c3, H⟩ | ⟨c3, H⟩
 · have c3b0 := beq_iff_eq.mpr c3
   have c3b1 := bne_eq_false_iff_eq.mpr c3
   have c3b2 : (l0.length == l1.length) = true := by first | simpa using c3 | (simp at c3 ⊢; omega)
   clear c3
   have H' := aa.mk H
   clear H
   go_enter Try.func67, Try.ntmps67
   go_wp2
   repeat (go_quiet (fail); try go_wp2)
   go_loopg [13] k (fun kq v13 w' => ∃ (jm : Int), v13 = .int .i64 jm /\ aa (fA.l0 kq l0 l1 (l0.length : Int) jm = some r) /\ aa (kq <= k) /\ lY w w')
   case atStart => exact ⟨(0), RG, H', ⟨Nat.le_refl _⟩, DR⟩
   clear H'
   try clear c1; clear c3b0 c3b1 c3b2
   obtain ⟨jm, rfl, HA, iB, ⟨m1, rfl⟩⟩ := hrel
   cases gk with
   | zero => exact absurd HA.1 (by simp [fA.l0])
   | succ k1 => ?_
   have H := HA.1
   clear HA
   simp only [fA.l0] at H
   replace H := pu H; rcases H with ⟨c4b0, H⟩ | ⟨c4b0, H⟩
   · replace H := ji H; obtain ⟨c5b0, H⟩ := H
     replace H := ji H; obtain ⟨c6b0, H⟩ := H
     replace H := ji H; obtain ⟨c7b0, H⟩ := H
     replace H := oP H; rcases H with ⟨c8, H⟩ | ⟨c8, H⟩
     · have c8b0 := beq_iff_eq.mpr c8
       have c8b1 := bne_eq_false_iff_eq.mpr c8
       clear c8
       have H' := aa.mk H
       clear H
       have Vd : 0 <= (jm : Int) := OD
       have Ve : jm < (l0.length : Int) := OD
       obtain ⟨ay6, aqN, ahZ⟩ := Kd.dx DI.1 jm Vd Ve
       cases aqN
       replace Vd := eq_true Vd
       replace Ve := eq_true Ve
       have Vf : 0 <= (jm : Int) := OD
       have Vg : jm < (l1.length : Int) := OD
       obtain ⟨ay7, aqO, ah0⟩ := Kd.dx HR1.1 jm Vf Vg
       cases aqO
       replace Vf := eq_true Vf
       replace Vg := eq_true Vg
       go_wp2
       repeat (go_quiet (fail); try go_wp2)
       go_roundg k1
       case measure => have := iB.1; omega
       case rel => exact ⟨(wrap64 (jm + 1)), RG, H', ⟨by have := iB.1; omega⟩, DR⟩
     have c8b0 := beq_eq_false_iff_ne.mpr c8
     have c8b1 := bne_iff_ne.mpr c8
     obtain rfl := Option.some.inj H
     have Vd : 0 <= (jm : Int) := OD
     have Ve : jm < (l0.length : Int) := OD
     obtain ⟨ay6, aqN, ahZ⟩ := Kd.dx DI.1 jm Vd Ve
     cases aqN
     replace Vd := eq_true Vd
     replace Ve := eq_true Ve
     have Vf : 0 <= (jm : Int) := OD
     have Vg : jm < (l1.length : Int) := OD
     obtain ⟨ay7, aqO, ah0⟩ := Kd.dx HR1.1 jm Vf Vg
     cases aqO
     replace Vf := eq_true Vf
     replace Vg := eq_true Vg
     go_wp2
     repeat (go_quiet (fail); try go_wp2)
     go_ret
     exact ⟨RG, DR⟩
   obtain rfl := Option.some.inj H
   go_wp2
   repeat (go_quiet (fail); try go_wp2)
   go_ret
   exact ⟨RG, DR⟩
 have c3b0 := beq_eq_false_iff_ne.mpr c3
 have c3b1 := bne_iff_ne.mpr c3
 have c3b2 : (l0.length == l1.length) = false := by first | simpa using c3 | (simp at c3 ⊢; omega)
 obtain rfl := Option.some.inj H
 go_enter Try.func67, Try.ntmps67
 go_wp2
 repeat (go_quiet (fail); try go_wp2)
 go_ret
 exact ⟨RG, DR⟩
def fZ.f (k : Nat) (ah : Int) (af : Int) (ae : List (fq)) (l1 : List Int) : Option (Bool × Bool) := (fH.f k ah af ae l1).bind fun ay8 => (if ay8 = true then ((bM.f k ah af ae l1).bind fun ad5 => ((fA.f k ad5 (([1] : List Int))).bind fun aqP => (some (aqP, true)))) else (some (false, false)))
theorem fZ.mono : ∀ a0 a1 a2 a3 k, dO (fZ.f k a0 a1 a2 a3) (fZ.f (k + 1) a0 a1 a2 a3) := by
 intro a0 a1 a2 a3 k
 unfold fZ.f
 repeat' first
  | (with_reducible exact fA.mono _ _ _)
  | (with_reducible exact fH.mono _ _ _ _ _)
  | (with_reducible exact bM.mono _ _ _ _ _)
  | (with_reducible exact dO.refl _)
  | (with_reducible exact dO.none _)
  | (with_reducible refine dO.ite ?_ ?_)
  | (with_reducible refine dO.bind ?_ (fun _ => ?_))
  | exact fA.mono _ _ _
  | exact fH.mono _ _ _ _ _
  | exact bM.mono _ _ _ _ _
  | exact dO.none _
  | refine dO.ite ?_ ?_
  | refine dO.bind ?_ (fun _ => ?_)
theorem fZ.calls (k : Nat) (ah : Int) (af : Int) (aK : Option Addr) (aJ : Nat) (ae : List (fq)) (A1 : Option Addr) (c1 : Nat) (l1 : List Int) (r1 : Bool) (r2 : Bool) (w : World) (dH : Kd.C jZ w aK ae.length ae) (dG : ae.length <= aJ) (hr1 : Kd.C (Kd.int .i64) w A1 l1.length l1) (hc1 : l1.length <= c1) (h : fZ.f k ah af ae l1 = some (r1, r2)) :
 Calls Try.prog 39 #[.agg #[.int .i64 ah, .int .i64 af, .slice aK ae.length aJ], .slice A1 l1.length c1] w fun e w' => e = .returned (.tuple #[.bool r1, .bool r2]) /\ Below w.heap.size w w' := by
 have nH := Try.underlying30
 have bD := aa.mk dH
 have cO := aa.mk dG
 clear dH dG
 have HR1 := aa.mk hr1
 have vD := aa.mk hc1
 clear hr1 hc1
 have HB := aa.mk (Below.refl w.heap.size w)
 have H := h
 clear h
 unfold fZ.f at H
 replace H := dz H; obtain ⟨ay8, A3, H⟩ := H
 replace H := Cm H; rcases H with ⟨rfl, H⟩ | ⟨rfl, H⟩
 · replace H := dz H; obtain ⟨ad5, A5, H⟩ := H
   generalize ama : ((([1] : List Int)) : List Int) = ay9 at H
   have amb := aa.mk ama.symm; clear ama
   replace H := dz H; obtain ⟨aqP, A6, H⟩ := H
   simp only [Option.some.injEq, Prod.mk.injEq] at H
   obtain ⟨rfl, rfl⟩ := H
   go_enter Try.func39, Try.ntmps39
   go_wp2_with (first | ((with_reducible refine aC (N := 2) rfl ?_); refine dN (cs := #[.int .i64 ah, .int .i64 af, .slice aK ae.length aJ]) (t := 30) ?_; intro aza hg w7 hbox hb; refine mJ HB.1 hg hbox hb ?_; clear HB; intro HB vQ azb azc; clear hb hbox hg; obtain ⟨lZ, l5, mR, l6, l7, mU⟩ := gB vQ.1) | ((with_reducible refine aA (f := 57) rfl ?_); refine cK (N := (some 8)) #[.agg #[.int .i64 ah, .int .i64 af, .slice aK ae.length aJ], .slice A1 l1.length c1] Try.func57 ?_; (with_reducible refine (fH.calls k ah af _ _ ae _ _ l1 true _ ?side1 ?side2 ?side3 ?side4 A3.1).mono ?_); (case side1 => exact CB (aY bD.1 HB.1)); (case side2 => exact cO.1); (case side3 => exact CB (aY HR1.1 HB.1)); (case side4 => exact vD.1); rintro e w9 ⟨rfl, hb⟩; refine ⟨_, rfl, ?_⟩; refine E2 (bB vQ.1 hb) (bS HB.1 hb) ?_; clear vQ HB; intro vQ HB; (try clear hb); obtain ⟨pR, pU, uN, pV, pW, uO⟩ := gB vQ.1) | ((with_reducible refine aA (f := 65) rfl ?_); refine cK (N := (some 12)) #[.agg #[.int .i64 ah, .int .i64 af, .slice aK ae.length aJ], .slice A1 l1.length c1] Try.func65 ?_; (with_reducible refine (bM.calls k ah af _ _ ae _ _ l1 ad5 _ ?side1 ?side2 ?side3 ?side4 A5.1).mono ?_); (case side1 => exact CB (aY bD.1 HB.1)); (case side2 => exact cO.1); (case side3 => exact CB (aY HR1.1 HB.1)); (case side4 => exact vD.1); rintro e qy ⟨aRj, rfl, ho0, hb⟩; refine ⟨_, rfl, ?_⟩; refine E3 (bN ho0 (bZ HB.1)) (bB vQ.1 hb) (bS HB.1 hb) ?_; clear vQ HB; intro Mc vQ HB; (try clear hb); (try clear ho0)) | ((with_reducible refine aC (N := 13) rfl ?_); refine qh (Kd.int .i64) _ 3 ?hg (N := 13) ?hd (xs := ([1] : List Int)) (inner := [.int .i64 1]) (ok := fun _ => True) (okp := fun _ => True) ?hr ?hp (fun _ hk => hk) trivial (Below.refl _ _) (Nat.le_refl _) (by simp) ?_; (case hd => rfl); (case hg => rfl); (case hr => first | (go_simp; done) | (go_simp; rfl)); (case hp => exact (fK.one (show Kd.M (Kd.int .i64) _ _ _ 1 [.int .i64 1] from rfl) (fK.none _ _))); intro aRk yC ZG hb hg_ hnew_; clear hg_ hnew_; (first | rw [<- amb.1] at ZG | (simp only [Int.reduceToNat] at ZG; rw [<- amb.1] at ZG)); refine E4 (eT (PR Mc.1) (fe ZG) hb) (bN (iI ZG (iL (PR Mc.1))) (bZ HB.1)) (bB vQ.1 hb) (bS HB.1 hb) ?_; clear Mc vQ HB; intro Mc ad6 vQ HB; clear hb ZG; obtain ⟨Q6, Q7, Ua⟩ := bv Mc.1; subst Ua; obtain ⟨aIv, anC, TQ⟩ := bv ad6.1; subst TQ) | ((with_reducible refine aA (f := 67) rfl ?_); refine cK (N := (some 14)) #[.slice Q6 ad5.length Q7, .slice aIv ay9.length anC] Try.func67 ?_; (with_reducible refine (fA.calls k _ _ ad5 _ _ ay9 aqP _ ?side1 ?side2 ?side3 ?side4 A6.1).mono ?_); (case side1 => exact CB (ay Mc.1).2.2); (case side2 => exact (ay Mc.1).2.1); (case side3 => exact CB (ay ad6.1).2.2); (case side4 => exact (ay ad6.1).2.1); rintro e w' ⟨rfl, ⟨nd, rfl⟩⟩; refine ⟨_, rfl, ?_⟩))
   go_ret2
   exact ⟨RF, BL HB.1⟩
 simp only [Option.some.injEq, Prod.mk.injEq] at H
 obtain ⟨rfl, rfl⟩ := H
 go_enter Try.func39, Try.ntmps39
 go_wp2_with (first | ((with_reducible refine aC (N := 2) rfl ?_); refine dN (cs := #[.int .i64 ah, .int .i64 af, .slice aK ae.length aJ]) (t := 30) ?_; intro aza hg w16 hbox hb; refine mJ HB.1 hg hbox hb ?_; clear HB; intro HB vQ azb azc; clear hb hbox hg; obtain ⟨VL, VM, VN, VO, VP, VQ⟩ := gB vQ.1) | ((with_reducible refine aA (f := 57) rfl ?_); refine cK (N := (some 8)) #[.agg #[.int .i64 ah, .int .i64 af, .slice aK ae.length aJ], .slice A1 l1.length c1] Try.func57 ?_; (with_reducible refine (fH.calls k ah af _ _ ae _ _ l1 false _ ?side1 ?side2 ?side3 ?side4 A3.1).mono ?_); (case side1 => exact CB (aY bD.1 HB.1)); (case side2 => exact cO.1); (case side3 => exact CB (aY HR1.1 HB.1)); (case side4 => exact vD.1); rintro e w18 ⟨rfl, hb⟩; refine ⟨_, rfl, ?_⟩; refine E2 (bB vQ.1 hb) (bS HB.1 hb) ?_; clear vQ HB; intro vQ HB; (try clear hb)))
 go_ret2
 exact ⟨RF, BL HB.1⟩
def gm.f (k : Nat) (ah : Int) (af : Int) (ae : List (fq)) (l1 : List Int) : Option (Bool × Bool) := (dP.f k ah af ae).bind fun azd => (if azd = true then ((aN.f k ah af ae l1).bind fun aze => (if aze = true then ((bi.f k ah af ae l1).bind fun Qf => (if (Qf.length : Int) = 1 then (if 0 < (Qf.length : Int) then (some (((rd Qf 0) == 1), true)) else (none)) else (some (false, true)))) else (some (false, false)))) else (some (false, false)))
theorem gm.mono : ∀ a0 a1 a2 a3 k, dO (gm.f k a0 a1 a2 a3) (gm.f (k + 1) a0 a1 a2 a3) := by
 intro a0 a1 a2 a3 k
 unfold gm.f
 repeat' first
  | (with_reducible exact bi.mono _ _ _ _ _)
  | (with_reducible exact dP.mono _ _ _ _)
  | (with_reducible exact aN.mono _ _ _ _ _)
  | (with_reducible exact dO.refl _)
  | (with_reducible exact dO.none _)
  | (with_reducible refine dO.ite ?_ ?_)
  | (with_reducible refine dO.bind ?_ (fun _ => ?_))
  | exact bi.mono _ _ _ _ _
  | exact dP.mono _ _ _ _
  | exact aN.mono _ _ _ _ _
  | exact dO.none _
  | refine dO.ite ?_ ?_
  | refine dO.bind ?_ (fun _ => ?_)
theorem gm.calls (k : Nat) (ah : Int) (af : Int) (aK : Option Addr) (aJ : Nat) (ae : List (fq)) (A1 : Option Addr) (c1 : Nat) (l1 : List Int) (r1 : Bool) (r2 : Bool) (w : World) (dH : Kd.C jZ w aK ae.length ae) (dG : ae.length <= aJ) (hr1 : Kd.C (Kd.int .i64) w A1 l1.length l1) (hc1 : l1.length <= c1) (h : gm.f k ah af ae l1 = some (r1, r2)) :
 Calls Try.prog 40 #[.agg #[.int .i64 ah, .int .i64 af, .slice aK ae.length aJ], .slice A1 l1.length c1] w fun e w' => e = .returned (.tuple #[.bool r1, .bool r2]) /\ Below w.heap.size w w' := by
 have nH := Try.underlying30
 have bD := aa.mk dH
 have cO := aa.mk dG
 clear dH dG
 have HR1 := aa.mk hr1
 have vD := aa.mk hc1
 clear hr1 hc1
 have HB := aa.mk (Below.refl w.heap.size w)
 have H := h
 clear h
 unfold gm.f at H
 replace H := dz H; obtain ⟨azd, A3, H⟩ := H
 replace H := Cm H; rcases H with ⟨rfl, H⟩ | ⟨rfl, H⟩
 · replace H := dz H; obtain ⟨aze, A5, H⟩ := H
   replace H := Cm H; rcases H with ⟨rfl, H⟩ | ⟨rfl, H⟩
   · replace H := dz H; obtain ⟨Qf, A7, H⟩ := H
     replace H := oP H; rcases H with ⟨c8, H⟩ | ⟨c8, H⟩
     · have c8b0 := beq_iff_eq.mpr c8
       have c8b1 := bne_eq_false_iff_eq.mpr c8
       clear c8
       replace H := oC H; obtain ⟨c9, H⟩ := H
       have c9b0 := decide_eq_true c9
       have c9b1 : decide (0 < Qf.length) = true := decide_eq_true (by omega)
       clear c9
       simp only [Option.some.injEq, Prod.mk.injEq] at H
       obtain ⟨rfl, rfl⟩ := H
       go_enter Try.func40, Try.ntmps40
       go_wp2_with (first | ((with_reducible refine aC (N := 2) rfl ?_); refine dN (cs := #[.int .i64 ah, .int .i64 af, .slice aK ae.length aJ]) (t := 30) ?_; intro ad7 hg Hw hbox hb; refine mJ HB.1 hg hbox hb ?_; clear HB; intro HB kQ ad8 ad9; clear hb hbox hg; obtain ⟨vX, vY, EZ, vZ, wh, Fa⟩ := gB kQ.1) | ((with_reducible refine aA (f := 46) rfl ?_); refine cK (N := (some 8)) #[.agg #[.int .i64 ah, .int .i64 af, .slice aK ae.length aJ]] Try.func46 ?_; (with_reducible refine (dP.calls k ah af _ _ ae true _ ?side1 ?side2 A3.1).mono ?_); (case side1 => exact CB (aY bD.1 HB.1)); (case side2 => exact cO.1); rintro e yC ⟨rfl, hb⟩; refine ⟨_, rfl, ?_⟩; refine E2 (bB kQ.1 hb) (bS HB.1 hb) ?_; clear kQ HB; intro kQ HB; (try clear hb); obtain ⟨uF, uG, Cn, uH, uI, Co⟩ := gB kQ.1) | (go_at_call 60; (with_reducible refine (aN.calls k ah af _ _ ae _ _ l1 true _ ?side1 ?side2 ?side3 ?side4 A5.1).mono ?_); (case side1 => exact CB (aY bD.1 HB.1)); (case side2 => exact cO.1); (case side3 => exact CB (aY HR1.1 HB.1)); (case side4 => exact vD.1); rintro e yM ⟨rfl, hb⟩; refine E2 (bB kQ.1 hb) (bS HB.1 hb) ?_; clear kQ HB; intro kQ HB; (try clear hb); obtain ⟨sD, sF, wN, sG, sH, wO⟩ := gB kQ.1) | ((with_reducible refine aA (f := 66) rfl ?_); refine cK (N := (some 18)) #[.agg #[.int .i64 ah, .int .i64 af, .slice aK ae.length aJ], .slice A1 l1.length c1] Try.func66 ?_; (with_reducible refine (bi.calls k ah af _ _ ae _ _ l1 Qf _ ?side1 ?side2 ?side3 ?side4 A7.1).mono ?_); (case side1 => exact CB (aY bD.1 HB.1)); (case side2 => exact cO.1); (case side3 => exact CB (aY HR1.1 HB.1)); (case side4 => exact vD.1); rintro e w16 ⟨aIw, rfl, ho0, hb⟩; refine ⟨_, rfl, ?_⟩; refine E3 (bN ho0 (bZ HB.1)) (bB kQ.1 hb) (bS HB.1 hb) ?_; clear kQ HB; intro XX kQ HB; (try clear hb); (try clear ho0); obtain ⟨YH, Ja, Jb⟩ := bv XX.1; subst Jb; have aqQ : 0 <= (0 : Int) := (by omega); have aqR : 0 < (Qf.length : Int) := OD; obtain ⟨aNm, aIx, XY⟩ := Kd.dx (ay XX.1).2.2 0 aqQ aqR; cases aIx; have aNn : (0 < Qf.length) = True := eq_true (by omega); (try rw [show ((0 : Int)).toNat = 0 from rfl] at XY); (try rw [Addr.add_zero'] at XY); replace aqQ := eq_true aqQ; replace aqR := eq_true aqR))
       go_ret2
       exact ⟨RF, BL HB.1⟩
     have c8b0 := beq_eq_false_iff_ne.mpr c8
     have c8b1 := bne_iff_ne.mpr c8
     simp only [Option.some.injEq, Prod.mk.injEq] at H
     obtain ⟨rfl, rfl⟩ := H
     go_enter Try.func40, Try.ntmps40
     go_wp2_with (first | ((with_reducible refine aC (N := 2) rfl ?_); refine dN (cs := #[.int .i64 ah, .int .i64 af, .slice aK ae.length aJ]) (t := 30) ?_; intro ad7 hg w18 hbox hb; refine mJ HB.1 hg hbox hb ?_; clear HB; intro HB kQ ad8 ad9; clear hb hbox hg; obtain ⟨FD, FE, OA, FF, FH, OB⟩ := gB kQ.1) | ((with_reducible refine aA (f := 46) rfl ?_); refine cK (N := (some 8)) #[.agg #[.int .i64 ah, .int .i64 af, .slice aK ae.length aJ]] Try.func46 ?_; (with_reducible refine (dP.calls k ah af _ _ ae true _ ?side1 ?side2 A3.1).mono ?_); (case side1 => exact CB (aY bD.1 HB.1)); (case side2 => exact cO.1); rintro e ZJ ⟨rfl, hb⟩; refine ⟨_, rfl, ?_⟩; refine E2 (bB kQ.1 hb) (bS HB.1 hb) ?_; clear kQ HB; intro kQ HB; (try clear hb); obtain ⟨uJ, uK, xK, uL, uM, xL⟩ := gB kQ.1) | (go_at_call 60; (with_reducible refine (aN.calls k ah af _ _ ae _ _ l1 true _ ?side1 ?side2 ?side3 ?side4 A5.1).mono ?_); (case side1 => exact CB (aY bD.1 HB.1)); (case side2 => exact cO.1); (case side3 => exact CB (aY HR1.1 HB.1)); (case side4 => exact vD.1); rintro e BM ⟨rfl, hb⟩; refine E2 (bB kQ.1 hb) (bS HB.1 hb) ?_; clear kQ HB; intro kQ HB; (try clear hb); obtain ⟨FI, FJ, FL, FM, FN, FO⟩ := gB kQ.1) | ((with_reducible refine aA (f := 66) rfl ?_); refine cK (N := (some 18)) #[.agg #[.int .i64 ah, .int .i64 af, .slice aK ae.length aJ], .slice A1 l1.length c1] Try.func66 ?_; (with_reducible refine (bi.calls k ah af _ _ ae _ _ l1 Qf _ ?side1 ?side2 ?side3 ?side4 A7.1).mono ?_); (case side1 => exact CB (aY bD.1 HB.1)); (case side2 => exact cO.1); (case side3 => exact CB (aY HR1.1 HB.1)); (case side4 => exact vD.1); rintro e Mi ⟨aIw, rfl, ho0, hb⟩; refine ⟨_, rfl, ?_⟩; refine E3 (bN ho0 (bZ HB.1)) (bB kQ.1 hb) (bS HB.1 hb) ?_; clear kQ HB; intro XX kQ HB; (try clear hb); (try clear ho0); obtain ⟨apc, apd, ape⟩ := bv XX.1; subst ape))
     go_ret2
     exact ⟨RF, BL HB.1⟩
   simp only [Option.some.injEq, Prod.mk.injEq] at H
   obtain ⟨rfl, rfl⟩ := H
   go_enter Try.func40, Try.ntmps40
   go_wp2_with (first | ((with_reducible refine aC (N := 2) rfl ?_); refine dN (cs := #[.int .i64 ah, .int .i64 af, .slice aK ae.length aJ]) (t := 30) ?_; intro ad7 hg w26 hbox hb; refine mJ HB.1 hg hbox hb ?_; clear HB; intro HB kQ ad8 ad9; clear hb hbox hg; obtain ⟨Aj, Ak, Jz, Al, Am, JA⟩ := gB kQ.1) | ((with_reducible refine aA (f := 46) rfl ?_); refine cK (N := (some 8)) #[.agg #[.int .i64 ah, .int .i64 af, .slice aK ae.length aJ]] Try.func46 ?_; (with_reducible refine (dP.calls k ah af _ _ ae true _ ?side1 ?side2 A3.1).mono ?_); (case side1 => exact CB (aY bD.1 HB.1)); (case side2 => exact cO.1); rintro e w28 ⟨rfl, hb⟩; refine ⟨_, rfl, ?_⟩; refine E2 (bB kQ.1 hb) (bS HB.1 hb) ?_; clear kQ HB; intro kQ HB; (try clear hb); obtain ⟨Xp, Xq, Xr, Xt, Xu, Xv⟩ := gB kQ.1) | (go_at_call 60; (with_reducible refine (aN.calls k ah af _ _ ae _ _ l1 false _ ?side1 ?side2 ?side3 ?side4 A5.1).mono ?_); (case side1 => exact CB (aY bD.1 HB.1)); (case side2 => exact cO.1); (case side3 => exact CB (aY HR1.1 HB.1)); (case side4 => exact vD.1); rintro e w30 ⟨rfl, hb⟩; refine E2 (bB kQ.1 hb) (bS HB.1 hb) ?_; clear kQ HB; intro kQ HB; (try clear hb)))
   go_ret2
   exact ⟨RF, BL HB.1⟩
 simp only [Option.some.injEq, Prod.mk.injEq] at H
 obtain ⟨rfl, rfl⟩ := H
 go_enter Try.func40, Try.ntmps40
 go_wp2_with (first | ((with_reducible refine aC (N := 2) rfl ?_); refine dN (cs := #[.int .i64 ah, .int .i64 af, .slice aK ae.length aJ]) (t := 30) ?_; intro ad7 hg w31 hbox hb; refine mJ HB.1 hg hbox hb ?_; clear HB; intro HB kQ ad8 ad9; clear hb hbox hg; obtain ⟨J2, J3, J4, J5, J6, J7⟩ := gB kQ.1) | ((with_reducible refine aA (f := 46) rfl ?_); refine cK (N := (some 8)) #[.agg #[.int .i64 ah, .int .i64 af, .slice aK ae.length aJ]] Try.func46 ?_; (with_reducible refine (dP.calls k ah af _ _ ae false _ ?side1 ?side2 A3.1).mono ?_); (case side1 => exact CB (aY bD.1 HB.1)); (case side2 => exact cO.1); rintro e w33 ⟨rfl, hb⟩; refine ⟨_, rfl, ?_⟩; refine E2 (bB kQ.1 hb) (bS HB.1 hb) ?_; clear kQ HB; intro kQ HB; (try clear hb)))
 go_ret2
 exact ⟨RF, BL HB.1⟩
def bg.j0 : Nat -> List Int -> List Int -> Bool -> Int -> Int -> List (Ei) -> Int -> Int -> List (fq) -> Option (Bool)
 | 0, _, _, _, _, _, _, _, _, _ => none
 | k + 1, x1, x9, x45, ah1, ah2, ah3, ah4, ah5, ah6 => if x45 = true then (some false) else ((eP.f k ah1 ah2 ah3).bind fun aea => ((iO.f k ah4 ah5 ah6 aea.1 aea.2.1 aea.2.2).bind fun azf => (if azf = true then ((bX.f k x1).bind fun aeb => ((di.f k x9 aeb).bind fun azg => (if azg = true then (some true) else (some false)))) else (some false))))
def bg.f (k : Nat) (ah : Int) (af : Int) (ae : List (Ei)) (l1 : List Int) : Option (Bool) := if (l1.length : Int) > 1048576 then (some true) else ((kL.f ah af ae 1048576).bind fun ah7 => (if ah7 < 0 then (some true) else ((eP.f k ah af ae).bind fun aec => ((bX.f k l1).bind fun aed => ((fZ.f k aec.1 aec.2.1 aec.2.2 aed).bind fun amc => ((eP.f k ah af ae).bind fun Hr => ((bX.f k l1).bind fun Jm => ((gm.f k Hr.1 Hr.2.1 Hr.2.2 Jm).bind fun amd => (if (amd.1 != amc.1) = true then (bg.j0 k l1 Jm true ah af ae Hr.1 Hr.2.1 Hr.2.2) else (bg.j0 k l1 Jm (amd.2 != amc.2) ah af ae Hr.1 Hr.2.1 Hr.2.2))))))))))
theorem bg.mono_l : ∀ k, (∀ y0 y1 y2 y3 y4 y5 y6 y7 y8, dO (bg.j0 k y0 y1 y2 y3 y4 y5 y6 y7 y8) (bg.j0 (k + 1) y0 y1 y2 y3 y4 y5 y6 y7 y8))
 | 0 => fun _ _ _ _ _ _ _ _ _ r h => by simp [bg.j0] at h
 | k + 1 => by
  have ja := bg.mono_l k
  intros
  first | unfold bg.j0
  exact LM7 ja gm.mono iO.mono di.mono eP.mono bX.mono fZ.mono
theorem bg.mono : ∀ a0 a1 a2 a3 k, dO (bg.f k a0 a1 a2 a3) (bg.f (k + 1) a0 a1 a2 a3) := by
 intro a0 a1 a2 a3 k
 have ja := bg.mono_l k
 unfold bg.f
 exact LM7 ja gm.mono iO.mono di.mono eP.mono bX.mono fZ.mono
theorem bg.calls (k : Nat) (ah : Int) (af : Int) (aK : Option Addr) (aJ : Nat) (ae : List (Ei)) (A1 : Option Addr) (c1 : Nat) (l1 : List Int) (w : World) (dH : Kd.C Vi w aK ae.length ae) (dG : ae.length <= aJ) (hr1 : Kd.C (Kd.int .i64) w A1 l1.length l1) (hc1 : l1.length <= c1) (h : bg.f k ah af ae l1 = some true) :
 Calls Try.prog 12 #[.agg #[.int .i64 ah, .int .i64 af, .slice aK ae.length aJ], .slice A1 l1.length c1] w fun e w' => e = .returned (.bool true) /\ Below w.heap.size w w' := by
 have amx := Try.underlying24
 have nH := Try.underlying30
 have bD := aa.mk dH
 have cO := aa.mk dG
 clear dH dG
 have HR1 := aa.mk hr1
 have vD := aa.mk hc1
 clear hr1 hc1
 have HB := aa.mk (Below.refl w.heap.size w)
 have H := h
 clear h
 unfold bg.f at H
 replace H := oP H; rcases H with ⟨c3, H⟩ | ⟨c3, H⟩
 · have c3b0 : decide (1048576 < (l1.length : Int)) = true := decide_eq_true c3
   have c3b1 : decide (1048576 < l1.length) = true := decide_eq_true (by omega)
   clear c3
   first | (obtain rfl := Option.some.inj H) | clear H
   go_enter Try.func12, Try.ntmps12
   go_wp2_with (first | ((with_reducible refine aC (N := 2) rfl ?_); refine dN (cs := #[.int .i64 ah, .int .i64 af, .slice aK ae.length aJ]) (t := 24) ?_; intro Md hg w4 hbox hb; refine mJ HB.1 hg hbox hb ?_; clear HB; intro HB iR ame amf; clear hb hbox hg))
   go_ret
   exact ⟨RF, BL HB.1⟩
 have c3b0 : decide (1048576 < (l1.length : Int)) = false := decide_eq_false c3
 have c3b1 : decide (1048576 < l1.length) = false := decide_eq_false (by omega)
 clear c3
 replace H := dz H; obtain ⟨ah7, A5, H⟩ := H
 replace H := pu H; rcases H with ⟨c6b0, H⟩ | ⟨c6b0, H⟩
 · first | (obtain rfl := Option.some.inj H) | clear H
   go_enter Try.func12, Try.ntmps12
   go_wp2_with (first | ((with_reducible refine aC (N := 2) rfl ?_); refine dN (cs := #[.int .i64 ah, .int .i64 af, .slice aK ae.length aJ]) (t := 24) ?_; intro Md hg w7 hbox hb; refine mJ HB.1 hg hbox hb ?_; clear HB; intro HB iR ame amf; clear hb hbox hg; obtain ⟨lZ, l5, mR, l6, l7, mU⟩ := gB iR.1) | ((with_reducible refine aA (f := 13) rfl ?_); refine cK (N := (some 17)) #[.agg #[.int .i64 ah, .int .i64 af, .slice aK ae.length aJ], .int .i64 1048576] Try.func13 ?_; (with_reducible refine (kL.calls ah af _ _ ae 1048576 ah7 _ ?side1 ?side2 A5.1).mono ?_); (case side1 => exact CB (aY bD.1 HB.1)); (case side2 => exact cO.1); rintro e w9 ⟨rfl, hb⟩; refine ⟨_, rfl, ?_⟩; refine E2 (bB iR.1 hb) (bS HB.1 hb) ?_; clear iR HB; intro iR HB; (try clear hb)))
   go_ret
   exact ⟨RF, BL HB.1⟩
 replace H := dz H; obtain ⟨⟨aqS, aqT, aqU⟩, A10, H⟩ := H
 dsimp only at H
 replace H := dz H; obtain ⟨aed, A11, H⟩ := H
 replace H := dz H; obtain ⟨⟨ah8, azh⟩, A12, H⟩ := H
 dsimp only at H
 replace H := dz H; obtain ⟨⟨Qg, Qh, Me⟩, A13, H⟩ := H
 dsimp only at H
 replace H := dz H; obtain ⟨Jm, A14, H⟩ := H
 replace H := dz H; obtain ⟨⟨ah9, azi⟩, A15, H⟩ := H
 dsimp only at H
 have Ku := aa.mk H
 clear H
 go_enter Try.func12, Try.ntmps12
 go_upto_region 11 with (first | ((with_reducible refine aC (N := 2) rfl ?_); refine dN (cs := #[.int .i64 ah, .int .i64 af, .slice aK ae.length aJ]) (t := 24) ?_; intro Md hg Vn hbox hb; refine mJ HB.1 hg hbox hb ?_; clear HB; intro HB iR ame amf; clear hb hbox hg; obtain ⟨qN, qO, rV, qP, qQ, rW⟩ := gB iR.1) | ((with_reducible refine aA (f := 13) rfl ?_); refine cK (N := (some 17)) #[.agg #[.int .i64 ah, .int .i64 af, .slice aK ae.length aJ], .int .i64 1048576] Try.func13 ?_; (with_reducible refine (kL.calls ah af _ _ ae 1048576 ah7 _ ?side1 ?side2 A5.1).mono ?_); (case side1 => exact CB (aY bD.1 HB.1)); (case side2 => exact cO.1); rintro e w19 ⟨rfl, hb⟩; refine ⟨_, rfl, ?_⟩; refine E2 (bB iR.1 hb) (bS HB.1 hb) ?_; clear iR HB; intro iR HB; (try clear hb); obtain ⟨wz, wB, zT, wC, wD, zU⟩ := gB iR.1) | ((with_reducible refine aA (f := 15) rfl ?_); refine cK (N := (some 22)) #[.agg #[.int .i64 ah, .int .i64 af, .slice aK ae.length aJ]] Try.func15 ?_; (with_reducible refine (eP.calls k ah af _ _ ae aqS aqT aqU _ ?side1 ?side2 A10.1).mono ?_); (case side1 => exact CB (aY bD.1 HB.1)); (case side2 => exact cO.1); rintro e Qo ⟨aRm, rfl, ho0, hb⟩; refine ⟨_, rfl, ?_⟩; refine E3 (bN ho0 (bZ HB.1)) (bB iR.1 hb) (bS HB.1 hb) ?_; clear iR HB; intro qo iR HB; (try clear hb); (try clear ho0)) | ((with_reducible refine aA (f := 31) rfl ?_); refine cK (N := (some 24)) #[.slice A1 l1.length c1] Try.func31 ?_; (with_reducible refine (bX.calls k _ _ l1 aed _ ?side1 ?side2 A11.1).mono ?_); (case side1 => exact CB (aY HR1.1 HB.1)); (case side2 => exact vD.1); rintro e BM ⟨aRn, rfl, ho0, hb⟩; refine ⟨_, rfl, ?_⟩; refine E4 (rB qo.1 hb) (bN ho0 (bZ HB.1)) (bB iR.1 hb) (bS HB.1 hb) ?_; clear qo iR HB; intro qo tJ iR HB; (try clear hb); (try clear ho0); obtain ⟨yN, yO, NV⟩ := bv qo.1; subst NV; obtain ⟨amA, amB, amC⟩ := bv tJ.1; subst amC) | ((with_reducible refine aA (f := 39) rfl ?_); refine cK (N := (some 25)) #[.agg #[.int .i64 aqS, .int .i64 aqT, .slice yN aqU.length yO], .slice amA aed.length amB] Try.func39 ?_; (with_reducible refine (fZ.calls k aqS aqT _ _ aqU _ _ aed ah8 azh _ ?side1 ?side2 ?side3 ?side4 A12.1).mono ?_); (case side1 => exact CB (ay qo.1).2.2); (case side2 => exact (ay qo.1).2.1); (case side3 => exact CB (ay tJ.1).2.2); (case side4 => exact (ay tJ.1).2.1); rintro e Mk ⟨rfl, hb⟩; refine ⟨_, rfl, ?_⟩; refine E4 (rB qo.1 hb) (rB tJ.1 hb) (bB iR.1 hb) (bS HB.1 hb) ?_; clear qo tJ iR HB; intro qo tJ iR HB; (try clear hb); obtain ⟨xM, xN, Ff, xO, xP, Fg⟩ := gB iR.1) | ((with_reducible refine aA (f := 15) rfl ?_); refine cK (N := (some 29)) #[.agg #[.int .i64 ah, .int .i64 af, .slice aK ae.length aJ]] Try.func15 ?_; (with_reducible refine (eP.calls k ah af _ _ ae Qg Qh Me _ ?side1 ?side2 A13.1).mono ?_); (case side1 => exact CB (aY bD.1 HB.1)); (case side2 => exact cO.1); rintro e w27 ⟨aRo, rfl, ho0, hb⟩; refine ⟨_, rfl, ?_⟩; refine E5 (eT (PR qo.1) (fe ho0) hb) (rB tJ.1 hb) (bN (iI ho0 (iL (PR qo.1))) (bZ HB.1)) (bB iR.1 hb) (bS HB.1 hb) ?_; clear qo tJ iR HB; intro qo tJ zO iR HB; (try clear hb); (try clear ho0)) | ((with_reducible refine aC (N := 8) rfl ?_); refine dN (cs := #[.int .i64 0, .int .i64 0, .slice none 0 0]) (t := 30) ?_; intro vC hg w28 hbox hb; refine E10 (rB qo.1 hb) (rB tJ.1 hb) (rB zO.1 hb) (bB iR.1 hb) (bS HB.1 hb) (hbox) (gX HB.1 hg) (gX HB.1 hg) (nB iR.1 hg) (nC iR.1 hg) ?_; clear qo tJ zO iR HB; intro qo tJ zO iR HB lw aNo aNp NM ZH; clear hb hbox hg; have arV := ZH.1; have arW := NM.1; obtain ⟨zV, zW, Fh, zX, zY, Fj⟩ := gB lw.1; obtain ⟨pq, mg, Mm⟩ := bv zO.1; subst Mm) | ((with_reducible refine aA (f := 31) rfl ?_); refine cK (N := (some 31)) #[.slice A1 l1.length c1] Try.func31 ?_; (with_reducible refine (bX.calls k _ _ l1 Jm _ ?side1 ?side2 A14.1).mono ?_); (case side1 => exact aY HR1.1 (BL HB.1)); (case side2 => exact vD.1); rintro e w32 ⟨aRp, rfl, ho0, hb⟩; refine ⟨_, rfl, ?_⟩; refine E7 (jf (by (with_reducible repeat (first | apply aV | apply aW | apply aQ)); exact (aG (RQ vC 2 (RQ vC 1 (RQ vC 0 (bz qo.1 lw.1 (by decide)) _) _) _) (fun _ h_ => h_.1))) hb) (eT (by (with_reducible repeat (first | apply aV | apply aW | apply aQ)); exact (aG (RQ vC 2 (RQ vC 1 (RQ vC 0 (bz tJ.1 lw.1 (by decide)) _) _) _) (fun _ h_ => h_.1))) (fe ho0) hb) (jf (by (with_reducible repeat (first | apply aV | apply aW | apply aQ)); exact (aG (RQ vC 2 (RQ vC 1 (RQ vC 0 (bz zO.1 lw.1 (by decide)) _) _) _) (fun _ h_ => h_.1))) hb) (bN (iI ho0 (iL (by (with_reducible repeat (first | apply aV | apply aW | apply aQ)); exact (aG (RQ vC 2 (RQ vC 1 (RQ vC 0 (bz tJ.1 lw.1 (by decide)) _) _) _) (fun _ h_ => h_.1))))) (bZ HB.1)) (dh (g := Md) (o := .cells #[.int .i64 ah, .int .i64 af, .slice aK ae.length aJ] 24 (0, 0)) (xB NM.1 iR.1) hb) (dh (g := vC) (o := .cells #[.int .i64 Qg, .int .i64 Qh, .slice pq Me.length mg] 30 (0, 0)) (BB lw.1) hb) (bS HB.1 hb) ?_; clear qo tJ zO iR lw HB; intro qo tJ zO Mf iR lw HB; (try clear hb); (try clear ho0); obtain ⟨Cu, Cv, Fp, Cw, Cx, Fq⟩ := gB lw.1; obtain ⟨qA, qw, Z7⟩ := bv Mf.1; subst Z7) | ((with_reducible refine aA (f := 40) rfl ?_); refine cK (N := (some 35)) #[.agg #[.int .i64 Qg, .int .i64 Qh, .slice pq Me.length mg], .slice qA Jm.length qw] Try.func40 ?_; (with_reducible refine (gm.calls k Qg Qh _ _ Me _ _ Jm ah9 azi _ ?side1 ?side2 ?side3 ?side4 A15.1).mono ?_); (case side1 => exact CB (ay zO.1).2.2); (case side2 => exact (ay zO.1).2.1); (case side3 => exact CB (ay Mf.1).2.2); (case side4 => exact (ay Mf.1).2.1); rintro e Qi ⟨rfl, hb⟩; refine ⟨_, rfl, ?_⟩; refine E7 (rB qo.1 hb) (rB tJ.1 hb) (rB zO.1 hb) (rB Mf.1 hb) (bB iR.1 hb) (bB lw.1 hb) (bS HB.1 hb) ?_; clear qo tJ zO Mf iR lw HB; intro qo tJ zO Mf iR lw HB; (try clear hb)))
 (try simp only [Act.put, List.setIfInBounds_toArray, List.set_cons_zero, List.set_cons_succ])
 go_cut [45] (fun v45 wc => ∃ (kq : Nat) (Vh : Bool), v45 = .bool Vh /\ aa (bg.j0 kq l1 Jm Vh ah af ae Qg Qh Me = some true) /\ aa (kq <= k) /\ aa (Kd.R (Kd.int .i64) 3 wc w.heap.size (fun _ => True) (.slice qA Jm.length qw) Jm) /\ aa (Kd.R jZ 83 wc w.heap.size (fun _ => True) (.slice pq Me.length mg) Me) /\ aa (wc.heap[Md]? = some (.cells #[.int .i64 ah, .int .i64 af, (.slice aK ae.length aJ)] 24 (0, 0))) /\ aa (wc.heap[vC]? = some (.cells #[.int .i64 Qg, .int .i64 Qh, (.slice pq Me.length mg)] 30 (0, 0))) /\ aa (Below w.heap.size w wc))
 case first =>
  have H := Ku.1
  clear Ku
  replace H := oP H; rcases H with ⟨ZM, H⟩ | ⟨ZM, H⟩
  · exact absurd H (by cases k <;> simp [bg.j0])
  have c36b0 : (ah9 != ah8) = false := by simpa using ZM
  (try (have c36b1 : decide (ah9 = ah8) = true := by simpa using ZM))
  (try (have c36b2 : (ah9 == ah8) = true := by simpa using ZM))
  clear ZM
  (first | rw [c36b0] | (simp only [cz, dF]; rw [c36b0]) | skip)
  have H' := aa.mk H
  clear H
  go_wp2
  go_meet
  case rel => exact ⟨_, ((azi != azh)), RG, H', ⟨by first | omega | exact Nat.le_refl _⟩, ⟨pm (aG Mf.1 (fun _ hk => trivial))⟩, ⟨pm (aG zO.1 (fun _ hk => trivial))⟩, ⟨PB iR.1⟩, ⟨PB lw.1⟩, ⟨BL HB.1⟩⟩
 clear Ku
 try clear c1; clear c3b0 c3b1 c6b0 qN qO rV wz wB zT xM xN Ff zV zW Fh Cu Cv Fp qP qQ rW wC wD zU xO xP Fg zX zY Fj Cw Cx Fq
 obtain ⟨kq, Vh, rfl, HA, Qp, HO_9, HO_794002, iR, lw, HB⟩ := hcut
 cases kq with
 | zero => exact absurd HA.1 (by simp [bg.j0])
 | succ yD => ?_
 have H := HA.1
 clear HA
 simp only [bg.j0] at H
 replace H := ifF H (by simp); obtain ⟨rfl, H⟩ := H
 replace H := dz H; obtain ⟨⟨aqV, aqW, aqX⟩, A38, H⟩ := H
 dsimp only at H
 replace H := dz H; obtain ⟨azf, A39, H⟩ := H
 replace H := ifT H (by simp); obtain ⟨rfl, H⟩ := H
 replace H := dz H; obtain ⟨aeb, A41, H⟩ := H
 replace H := dz H; obtain ⟨azg, A42, H⟩ := H
 replace H := ifT H (by simp); obtain ⟨rfl, H⟩ := H
 first | (obtain rfl := Option.some.inj H) | clear H
 try go_wp2
 refine E5 (aQ HO_9.1) (aQ HO_794002.1) (ag iR.1) (ag lw.1) (dm HB.1) ?_
 clear HO_9 HO_794002 iR lw HB
 intro HO_9 HO_794002 iR lw HB
 refine jN (n := 5) (S := fun w' => w'.cell? ⟨vC, 0, none⟩ = some (.int .i64 Qg) /\ w'.cell? ⟨vC, 1, none⟩ = some (.int .i64 Qh) /\ w'.cell? ⟨vC, 2, none⟩ = some (.slice pq Me.length mg) /\ w'.cell? ⟨Md, 0, none⟩ = some (.int .i64 ah) /\ w'.cell? ⟨Md, 1, none⟩ = some (.int .i64 af) /\ w'.cell? ⟨Md, 2, none⟩ = some (.slice aK ae.length aJ)) (ds := []) #[Zz,Zz,Zz,Zz,Zz] (by kernel_rfl) rfl rfl ⟨(ai lw.1 0).trans rfl, (ai lw.1 1).trans rfl, (ai lw.1 2).trans rfl, (ai iR.1 0).trans rfl, (ai iR.1 1).trans rfl, (ai iR.1 2).trans rfl⟩ (fun hHeld => ?_)
 generalize wc.drew = w44 at HO_9 HO_794002 iR lw HB hHeld ⊢
 refine xQ 0 (N := some 46) hHeld ?_
 refine xQ 1 (N := some 47) hHeld ?_
 refine mV (i := 2) (N := some 48) #[Yy,Yy,Yy,Zz,Zz] rfl rfl (by kernel_rfl) (by decide) (fun K hK => ?_)
 refine nA Try.func15 (by kernel_rfl) rfl #[.agg #[.int .i64 ah, .int .i64 af, .slice aK ae.length aJ]] (by rfl) rfl rfl (by (try simp only [List.map_toArray, List.map_cons, List.map_nil]); first | done | rfl | (simp only [List.length_drop, List.length_take]; rfl)) ?_
 with_reducible refine (eP.calls yD ah af _ _ ae aqV aqW aqX _ ?side1 ?side2 A38.1).mono ?_
 (case side1 => exact CB (aY bD.1 HB.1))
 (case side2 => exact cO.1)
 rintro e w45 ⟨aRt, rfl, ho0, hb⟩
 refine ⟨_, rfl, ?_⟩
 refine E6 (rB HO_9.1 hb) (eT (PR HO_794002.1) (fe ho0) hb) (bN (iI ho0 (iL (PR HO_794002.1))) (bZ HB.1)) (bB iR.1 hb) (bB lw.1 hb) (bS HB.1 hb) ?_
 clear HO_9 HO_794002 iR lw HB
 intro HO_9 HO_794002 Ht iR lw HB
 (try clear hb)
 (try clear hb2)
 (try clear hk)
 (try clear hi)
 (try clear ho0)
 obtain ⟨aa3, OE, aa4⟩ := bv Ht.1
 (first | subst aa4 | (injection aa4 with rY zZ rZ; have z8 := rY.symm; have Aa := rZ.symm; clear rY zZ rZ; subst z8; subst Aa))
 refine hK.out _ _ ⟨(ai lw.1 0).trans rfl, (ai lw.1 1).trans rfl, (ai lw.1 2).trans rfl, (ai iR.1 0).trans rfl, (ai iR.1 1).trans rfl, (ai iR.1 2).trans rfl⟩ (fun hHeld => ?_)
 clear hK K
 refine eX (a' := ?_) ?_ ?_
 rotate_left
 · show Act.put _ (some 48) _ = _
   simp only [Act.put, List.setIfInBounds_toArray, List.set_cons_zero, List.set_cons_succ, cz, dF]
   rfl
 refine mV (i := 3) (N := some 49) #[Yy,Yy,Yy,Yy,Zz] rfl rfl (by kernel_rfl) (by decide) (fun K hK => ?_)
 refine nA Try.func17 (by kernel_rfl) rfl #[.agg #[.int .i64 Qg, .int .i64 Qh, .slice pq Me.length mg], .agg #[.int .i64 aqV, .int .i64 aqW, .slice aa3 aqX.length OE]] (by rfl) rfl rfl (by (try simp only [List.map_toArray, List.map_cons, List.map_nil]); first | done | rfl | (simp only [List.length_drop, List.length_take]; rfl)) ?_
 with_reducible refine (iO.calls yD Qg Qh _ _ Me aqV aqW _ _ aqX true _ ?side1 ?side2 ?side3 ?side4 A39.1).mono ?_
 (case side1 => exact CB (ay HO_794002.1).2.2)
 (case side2 => exact (ay HO_794002.1).2.1)
 (case side3 => exact CB (ay Ht.1).2.2)
 (case side4 => exact (ay Ht.1).2.1)
 rintro e w47 ⟨rfl, hb⟩
 refine ⟨_, rfl, ?_⟩
 refine E6 (rB HO_9.1 hb) (rB HO_794002.1 hb) (rB Ht.1 hb) (bB iR.1 hb) (bB lw.1 hb) (bS HB.1 hb) ?_
 clear HO_9 HO_794002 Ht iR lw HB
 intro HO_9 HO_794002 Ht iR lw HB
 (try clear hb)
 (try clear hb2)
 (try clear hk)
 (try clear hi)
 refine hK.out _ _ ⟨(ai lw.1 0).trans rfl, (ai lw.1 1).trans rfl, (ai lw.1 2).trans rfl, (ai iR.1 0).trans rfl, (ai iR.1 1).trans rfl, (ai iR.1 2).trans rfl⟩ (fun hHeld => ?_)
 clear hK K
 refine eX (a' := ?_) ?_ ?_
 rotate_left
 · show Act.put _ (some 49) _ = _
   simp only [Act.put, List.setIfInBounds_toArray, List.set_cons_zero, List.set_cons_succ, cz, dF]
   rfl
 refine ll (i := 4) (N := some 50) (v := ?_) (a' := ?_) #[Yy,Yy,Yy,Yy,Yy] rfl rfl (by kernel_rfl) (fun _ _ _ h => h) (Or.inl ⟨by rfl, ?_⟩) ?_ ?_
 rotate_left
 · intro w'
   go_simp
   with_reducible rfl
 rotate_left
 · simp only [Act.put, List.setIfInBounds_toArray, List.set_cons_zero, List.set_cons_succ, cz, dF]
   rfl
 refine lI (by kernel_rfl) ?_
 try go_wp2_with (first | ((with_reducible refine aA (f := 31) rfl ?_); refine cK (N := (some 53)) #[.slice A1 l1.length c1] Try.func31 ?_; (with_reducible refine (bX.calls yD _ _ l1 aeb _ ?side1 ?side2 A41.1).mono ?_); (case side1 => exact CB (aY HR1.1 HB.1)); (case side2 => exact vD.1); rintro e w48 ⟨aRu, rfl, ho0, hb⟩; refine ⟨_, rfl, ?_⟩; refine E7 (eT (PR HO_9.1) (fe ho0) hb) (rB HO_794002.1 hb) (rB Ht.1 hb) (bN (iI ho0 (iL (PR HO_9.1))) (bZ HB.1)) (bB iR.1 hb) (bB lw.1 hb) (bS HB.1 hb) ?_; clear HO_9 HO_794002 Ht iR lw HB; intro HO_9 HO_794002 Ht aee iR lw HB; (try clear hb); (try clear ho0); obtain ⟨Y2, K5, Q0⟩ := bv aee.1; subst Q0) | ((with_reducible refine aA (f := 26) rfl ?_); refine cK (N := (some 54)) #[.slice qA Jm.length qw, .slice Y2 aeb.length K5] Try.func26 ?_; (with_reducible refine (di.calls yD _ _ Jm _ _ aeb true _ ?side1 ?side2 ?side3 ?side4 A42.1).mono ?_); (case side1 => exact CB (ay HO_9.1).2.2); (case side2 => exact (ay HO_9.1).2.1); (case side3 => exact CB (ay aee.1).2.2); (case side4 => exact (ay aee.1).2.1); rintro e w' ⟨rfl, ⟨nd, rfl⟩⟩; refine ⟨_, rfl, ?_⟩))
 go_ret
 exact ⟨RF, BL HB.1⟩
end Go.Proofs.Ytbpfdbjnnlmdjaa.P
