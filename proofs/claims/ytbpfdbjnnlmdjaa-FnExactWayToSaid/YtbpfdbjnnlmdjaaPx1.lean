--MINI
-- PRINTED by print.py (a twelfth state) out of the translation. Not trusted: Lean checks it.
import Derived.Test.YtbpfdbjnnlmdjaaPx0
namespace Go.Proofs.Ytbpfdbjnnlmdjaa.P
open Go.RowKit Go.Proofs.YtbpfdbjnnlmdjaaW.PrintWords Go.Proofs.YtbpfdbjnnlmdjaaW.PrintLast Go.Proofs.YtbpfdbjnnlmdjaaW.PrintMore
attribute [local go_sem] rQ rR vR vS pO pQ rT rU   -- for this text's walks alone
set_option linter.unusedVariables false
set_option linter.unusedSimpArgs false
set_option maxHeartbeats 8000000
set_option maxRecDepth 100000

open Kd
def mZ.f (l0 : List (Ei)) (a1 : Int) : Option (Int) := if (wrap64 (a1 - (l0.length : Int))) < 0 then (some (-1)) else (some (wrap64 (a1 - (l0.length : Int))))
theorem mZ.calls (A0 : Option Addr) (c0 : Nat) (l0 : List (Ei)) (a1 : Int) (r : Int) (w : World) (hr0 : Kd.C Vi w A0 l0.length l0) (hc0 : l0.length <= c0) (h : mZ.f l0 a1 = some r) :
 Calls Try.prog 41 #[.slice A0 l0.length c0, .int .i64 a1] w fun e w' => e = .returned (.int .i64 r) /\ lY w w' := by
 have DI := aa.mk hr0
 have ZU := aa.mk hc0
 clear hr0 hc0
 have H := h
 clear h
 unfold mZ.f at H
 replace H := pu H; rcases H with ⟨c3b0, H⟩ | ⟨c3b0, H⟩
 · obtain rfl := Option.some.inj H
   go_enter Try.func41, Try.ntmps41
   go_wp2
   go_ret
   exact ⟨RG, DR⟩
 obtain rfl := Option.some.inj H
 go_enter Try.func41, Try.ntmps41
 go_wp2
 go_ret
 exact ⟨RG, DR⟩
def kL.f (ah : Int) (af : Int) (ae : List (Ei)) (a1 : Int) : Option (Int) := (mZ.f ae a1).bind fun aaA => (if aaA < 0 then (some (-1)) else (some aaA))
theorem kL.calls (ah : Int) (af : Int) (aK : Option Addr) (aJ : Nat) (ae : List (Ei)) (a1 : Int) (r : Int) (w : World) (dH : Kd.C Vi w aK ae.length ae) (dG : ae.length <= aJ) (h : kL.f ah af ae a1 = some r) :
 Calls Try.prog 13 #[.agg #[.int .i64 ah, .int .i64 af, .slice aK ae.length aJ], .int .i64 a1] w fun e w' => e = .returned (.int .i64 r) /\ Below w.heap.size w w' := by
 have amx := Try.underlying24
 have bD := aa.mk dH
 have cO := aa.mk dG
 clear dH dG
 have HB := aa.mk (Below.refl w.heap.size w)
 have H := h
 clear h
 unfold kL.f at H
 replace H := dz H; obtain ⟨aaA, A3, H⟩ := H
 replace H := pu H; rcases H with ⟨c4b0, H⟩ | ⟨c4b0, H⟩
 · obtain rfl := Option.some.inj H
   go_enter Try.func13, Try.ntmps13
   go_wp2_with (first | ((with_reducible refine aC (N := 2) rfl ?_); refine dN (cs := #[.int .i64 ah, .int .i64 af, .slice aK ae.length aJ]) (t := 24) ?_; intro asq hg w5 hbox hb; refine mJ HB.1 hg hbox hb ?_; clear HB; intro HB aaB asr ass; clear hb hbox hg; obtain ⟨oL, oM, tZ, oN, oO, uf⟩ := gB aaB.1) | ((with_reducible refine aA (f := 41) rfl ?_); refine cK (N := (some 8)) #[.slice aK ae.length aJ, .int .i64 a1] Try.func41 ?_; (with_reducible refine (mZ.calls _ _ ae a1 aaA _ ?side1 ?side2 A3.1).mono ?_); (case side1 => exact CB (aY bD.1 HB.1)); (case side2 => exact cO.1); rintro e w' ⟨rfl, ⟨nd, rfl⟩⟩; refine ⟨_, rfl, ?_⟩))
   go_ret
   exact ⟨RF, BL HB.1⟩
 obtain rfl := Option.some.inj H
 go_enter Try.func13, Try.ntmps13
 go_wp2_with (first | ((with_reducible refine aC (N := 2) rfl ?_); refine dN (cs := #[.int .i64 ah, .int .i64 af, .slice aK ae.length aJ]) (t := 24) ?_; intro asq hg w7 hbox hb; refine mJ HB.1 hg hbox hb ?_; clear HB; intro HB aaB asr ass; clear hb hbox hg; obtain ⟨lZ, l5, mR, l6, l7, mU⟩ := gB aaB.1) | ((with_reducible refine aA (f := 41) rfl ?_); refine cK (N := (some 8)) #[.slice aK ae.length aJ, .int .i64 a1] Try.func41 ?_; (with_reducible refine (mZ.calls _ _ ae a1 aaA _ ?side1 ?side2 A3.1).mono ?_); (case side1 => exact CB (aY bD.1 HB.1)); (case side2 => exact cO.1); rintro e w' ⟨rfl, ⟨nd, rfl⟩⟩; refine ⟨_, rfl, ?_⟩))
 go_ret
 exact ⟨RF, BL HB.1⟩
def qY.f (ah : Int) (af : Int) : Option (Int × Int) := some (ah, af)
theorem qY.calls (ah : Int) (af : Int) (r1 : Int) (r2 : Int) (w : World) (h : qY.f ah af = some (r1, r2)) :
 Calls Try.prog 72 #[.agg #[.int .i64 ah, .int .i64 af]] w fun e w' => e = .returned (.agg #[.int .i64 r1, .int .i64 r2]) /\ Below w.heap.size w w' := by
 have aEf := Try.underlying85
 have xE := Try.underlying83
 have HB := aa.mk (Below.refl w.heap.size w)
 have H := h
 clear h
 unfold qY.f at H
 simp only [Option.some.injEq, Prod.mk.injEq] at H
 obtain ⟨rfl, rfl⟩ := H
 go_enter Try.func72, Try.ntmps72
 go_wp2_with (first | ((with_reducible refine aC (N := 1) rfl ?_); refine dN (cs := #[.int .i64 ah, .int .i64 af]) (t := 85) ?_; intro aIS hg w2 hbox hb; refine mJ HB.1 hg hbox hb ?_; clear HB; intro HB BZ aIT aIU; clear hb hbox hg) | ((with_reducible refine aC (N := 2) rfl ?_); refine dN (cs := #[.int .i64 0, .int .i64 0]) (t := 83) ?_; intro ast hg w3 hbox hb; refine E7 (bB BZ.1 hb) (bS HB.1 hb) (hbox) (gX HB.1 hg) (gX HB.1 hg) (nB BZ.1 hg) (nC BZ.1 hg) ?_; clear BZ HB; intro BZ HB KQ aIV aIW Yg Yh; clear hb hbox hg) | ((with_reducible refine aC (N := 3) rfl ?_); refine dN (cs := #[.int .i64 0, .int .i64 0]) (t := 83) ?_; intro aIX hg w4 hbox hb; refine E10 (bB BZ.1 hb) (bB KQ.1 hb) (bS HB.1 hb) (hbox) (gX HB.1 hg) (gX HB.1 hg) (nB BZ.1 hg) (nC BZ.1 hg) (nB KQ.1 hg) (nC KQ.1 hg) ?_; clear BZ KQ HB; intro BZ KQ HB asu aIY aIZ Yi Yj M7 Yk; clear hb hbox hg; have aOa := Yg.1; have aOb := Yh.1; have asv := Yi.1; have asw := Yj.1; obtain ⟨NN, NP, NQ, NR⟩ := nO BZ.1; have aEg := Yk.1; have aEh := M7.1; obtain ⟨Ej, El, Em, En⟩ := nO asu.1; obtain ⟨pR, pU, pV, pW⟩ := nO KQ.1))
 refine bodyPost_ret (results_cell_row rfl _ _ ast 83 #[.int .i64 ah, .int .i64 af] (0, 0) _ rfl (xB M7.1 KQ.1) Try.underlying83 rfl (by kernel_rfl)) rfl ?_
 exact ⟨RF, BL HB.1⟩

def dZ.l0 : Nat -> List (Ei) -> List (fq) -> Int -> Option ((List (fq)))
 | 0, _, _, _ => none
 | k + 1, x0, x3, x4 => if x4 < (x0.length : Int) then (if 0 <= x4 then ((qY.f ((yE x0 x4).f0) ((yE x0 x4).f1)).bind fun aiq => (if x4 < (x3.length : Int) then (dZ.l0 k x0 (x3.set (x4 : Int).toNat (⟨aiq.1, aiq.2⟩ : fq)) (wrap64 (x4 + 1))) else (none))) else (none)) else (some x3)
def dZ.f (k : Nat) (l0 : List (Ei)) : Option ((List (fq))) := if 0 <= (l0.length : Int) then (if ((l0.length : Int) : Int).toNat <= 17592186044416 then (dZ.l0 k l0 (List.replicate ((l0.length : Int) : Int).toNat z83) 0) else (none)) else (none)
theorem dZ.mono_l : ∀ k, (∀ y0 y1 y2, dO (dZ.l0 k y0 y1 y2) (dZ.l0 (k + 1) y0 y1 y2))
 | 0 => fun _ _ _ r h => by simp [dZ.l0] at h
 | k + 1 => by
  have ja := dZ.mono_l k
  intros
  first | unfold dZ.l0
  exact BA ja
theorem dZ.mono : ∀ a0 k, dO (dZ.f k a0) (dZ.f (k + 1) a0) := by
 intro a0 k
 have ja := dZ.mono_l k
 unfold dZ.f
 exact BA ja
theorem dZ.calls (k : Nat) (A0 : Option Addr) (c0 : Nat) (l0 : List (Ei)) (r : List (fq)) (w : World) (hr0 : Kd.C Vi w A0 l0.length l0) (hc0 : l0.length <= c0) (h : dZ.f k l0 = some r) :
 Calls Try.prog 45 #[.slice A0 l0.length c0] w fun e w' => ∃ rO : Value, e = .returned (rO) /\ Kd.R jZ 83 w' w.heap.size (fun _ => True) rO r /\ Below w.heap.size w w' := by
 have aEf := Try.underlying85
 have xE := Try.underlying83
 have DI := aa.mk hr0
 have ZU := aa.mk hc0
 clear hr0 hc0
 have HB := aa.mk (Below.refl w.heap.size w)
 have H := h
 clear h
 unfold dZ.f at H
 replace H := oC H; obtain ⟨c2, H⟩ := H
 have c2b0 := eq_true c2
 have c2b1 := decide_eq_true c2
 clear c2
 replace H := oC H; obtain ⟨c3, H⟩ := H
 have c3b0 := eq_true c3
 have c3b1 := decide_eq_true c3
 clear c3
 generalize air : ((List.replicate ((l0.length : Int) : Int).toNat z83) : List (fq)) = aEi at H
 have ais := aa.mk air.symm; clear air
 have H' := aa.mk H
 clear H
 go_enter Try.func45, Try.ntmps45
 go_wp2_with (first | ((with_reducible refine aC (N := 7) rfl ?_); refine yH jZ _ 83 rfl (N := 7) rfl 28 _ _ rfl (l0.length : Int) rfl rfl Try.underlying28 (.agg #[(.int .i64 0), (.int .i64 0)]) 16 Tc rfl (by decide) (by omega) z83 (ok := fun _ => True) (okp := fun _ => True) (uE _ _ _ z83 ) (fun _ hk => hk) trivial (OD) (Nat.le_trans (Nat.mul_le_mul_right _ (OD : (l0.length : Int).toNat <= 17592186044416)) (by omega)) (Below.refl _ _) (Nat.le_refl _) ?_; intro v107 w4 QG hb hg_ hnew_; clear hg_ hnew_; (first | rw [<- ais.1] at QG | (simp only [Int.reduceToNat] at QG; rw [<- ais.1] at QG)); refine E2 (bN QG (bZ HB.1)) (bS HB.1 hb) ?_; clear HB; intro asx HB; clear hb QG))
 go_loopg [4] k (fun kq v4 w' => ∃ (ky : List (fq)) (kT : Int), v4 = .int .i64 kT /\ aa (dZ.l0 kq l0 ky kT = some r) /\ aa (kq <= k) /\ aa (Kd.R jZ 83 w' w.heap.size (fun _ => True) v107 ky) /\ aa (Below w.heap.size w w'))
 case atStart => exact ⟨(aEi), (0), RG, H', ⟨Nat.le_refl _⟩, ⟨PR asx.1⟩, ⟨BL HB.1⟩⟩
 clear H'
 clear c2b0 c2b1 c3b0 c3b1
 obtain ⟨ky, kT, rfl, HA, iB, HO_3, HB⟩ := hrel
 cases gk with
 | zero => exact absurd HA.1 (by simp [dZ.l0])
 | succ k1 => ?_
 have H := HA.1
 clear HA
 simp only [dZ.l0] at H
 replace H := pu H; rcases H with ⟨c6b0, H⟩ | ⟨c6b0, H⟩
 · replace H := ji H; obtain ⟨c7b0, H⟩ := H
   replace H := dz H; obtain ⟨⟨Yl, Ym⟩, A8, H⟩ := H
   dsimp only at H
   replace H := ji H; obtain ⟨c9b0, H⟩ := H
   generalize hy112 : ((ky.set (kT : Int).toNat (⟨Yl, Ym⟩ : fq)) : List (fq)) = y112 at H
   have asy := aa.mk hy112.symm; clear hy112
   have H' := aa.mk H
   clear H
   have ana : 0 <= (kT : Int) := OD
   have anb : kT < (l0.length : Int) := OD
   obtain ⟨aI0, e109, Ov, Ow⟩ := amP DI.1 kT ana anb
   cases e109
   replace Ov := (HB.1.cell (World.block_lt_of_cell? w _ Ov)).trans Ov
   replace Ow := (HB.1.cell (World.block_lt_of_cell? w _ Ow)).trans Ow
   replace ana := eq_true ana
   replace anb := eq_true anb
   go_wp2_with (first | ((with_reducible refine aA (f := 72) rfl ?_); refine cK (N := (some 20)) #[.agg #[.int .i64 ((yE l0 kT).f0), .int .i64 ((yE l0 kT).f1)]] Try.func72 ?_; (with_reducible refine (qY.calls ((yE l0 kT).f0) ((yE l0 kT).f1) Yl Ym _ A8.1).mono ?_); rintro e qy ⟨rfl, hb⟩; refine ⟨_, rfl, ?_⟩; refine E2 (rB HO_3.1 hb) (bS HB.1 hb) ?_; clear HO_3 HB; intro HO_3 HB; (try clear hb); have p10 : 0 <= (kT : Int) := OD; have q10 : (kT : Int) < ((ky.length : Int) : Int) := OD; obtain ⟨Ox, aeI, Yn, asz, aEl, aOc, asA⟩ := mQ HO_3.1 (by omega); (first | cases Yn | (injection Yn with ea_ en_ ec_; (first | subst ea_ | (injection ea_ with ea_; subst ea_)); subst ec_; clear en_)); have asB := aa.mk asz; have aOd := aa.mk asA; clear asz aEl asA; obtain ⟨aDA, Vl, ael, Kt, MQ⟩ := nz HO_3.1 z83 (kT : Int) p10 q10; obtain rfl := jY ael; have aEm : qy.cell? ⟨Ox, (kT : Int).toNat * 2, none⟩ = some (.int .i64 ((aj ky kT).f0)) := Kt 0 _ rfl; have ZR : qy.cell? ⟨Ox, (kT : Int).toNat * 2 + 1, none⟩ = some (.int .i64 ((aj ky kT).f1)) := Kt 1 _ rfl; have aEn : qy.frozen? ⟨Ox, (kT : Int).toNat * 2, none⟩ = false := MQ 0; have ZT : qy.frozen? ⟨Ox, (kT : Int).toNat * 2 + 1, none⟩ = false := MQ 1; (try clear ael); clear Vl Kt MQ; replace p10 := eq_true p10; replace q10 := eq_true q10; have asC := aa.mk (show Kd.R jZ 83 qy w.heap.size (fun _ => True) (.slice (some ⟨Ox, 0, none⟩) ky.length aeI) ky from (PR HO_3.1)); obtain ⟨aOe, ait, aEo, VJ, aaC⟩ := nz asC.1 z83 (kT : Int) (OD) (by have h_ : (kT : Int) < ((ky.length : Int) : Int) := OD; first | exact h_ | (have e_ := (ay HO_3.1).1; omega) | simpa using h_); obtain rfl := jY aEo; have anc := DZ asC.1 (kT : Int) (OD) (by have h_ : (kT : Int) < ((ky.length : Int) : Int) := OD; first | exact h_ | (have e_ := (ay HO_3.1).1; omega) | simpa using h_) (seg := [.int .i64 Yl, .int .i64 Ym]) (j := 0) ait VJ (show 2 <= 2 from by decide) (x' := (⟨Yl, Ym⟩ : fq)) (uE _ _ _ (⟨Yl, Ym⟩ : fq) ) (fun _ hk => hk); have Ib := VJ 0 _ rfl; (try simp only [show (jZ).sz = 2 from rfl, Nat.mul_one, Nat.add_zero] at Ib); have KR := aaC 0; (try simp only [show (jZ).sz = 2 from rfl, Nat.mul_one, Nat.add_zero] at KR); have ane := VJ 1 _ rfl; (try simp only [show (jZ).sz = 2 from rfl, Nat.mul_one, Nat.add_zero] at ane); have anf := aaC 1; (try simp only [show (jZ).sz = 2 from rfl, Nat.mul_one, Nat.add_zero] at anf); clear ait VJ aaC) | ((with_reducible refine gK (t := 83) (p := 21) rfl ?_); refine lX (t := 83) (p := 21) (w1 := ((qy.setCell ⟨Ox, (kT : Int).toNat * 2, none⟩ (.int .i64 Yl)).setCell ⟨Ox, (kT : Int).toNat * 2 + 1, none⟩ (.int .i64 Ym))) ?_; intro yJ hw; have hg : qy.grownBy yJ (some Ox) := (by rw [hw]; exact anc.2); have hp_ : Kd.R jZ 83 yJ w.heap.size (fun _ => True) (.slice (some ⟨Ox, 0, none⟩) ky.length aeI) y112 := (by rw [hw, asy.1]; exact anc.1); clear anc; refine E2 (hp_) ((by rw [hw]; exact il (il (HB.1) asB.1) asB.1 : Below w.heap.size w yJ)) ?_; clear HO_3 HB; intro HO_3 HB; clear hg hw hp_))
   go_roundg k1
   case measure => have := iB.1; omega
   case rel => exact ⟨(y112), (wrap64 (kT + 1)), RG, H', ⟨by have := iB.1; omega⟩, ⟨PR HO_3.1⟩, ⟨BL HB.1⟩⟩
 obtain rfl := Option.some.inj H
 go_wp2
 go_ret
 exact ⟨_, RF, pm (HO_3.1), BL HB.1⟩
def eP.f (k : Nat) (ah : Int) (af : Int) (ae : List (Ei)) : Option (Int × Int × (List (fq))) := (dZ.f k ae).bind fun t116 => (some (ah, af, t116))
theorem eP.mono : ∀ a0 a1 a2 k, dO (eP.f k a0 a1 a2) (eP.f (k + 1) a0 a1 a2) := by
 intro a0 a1 a2 k
 unfold eP.f
 repeat' first
  | (with_reducible exact dZ.mono _ _)
  | (with_reducible exact dO.refl _)
  | (with_reducible exact dO.none _)
  | (with_reducible refine dO.ite ?_ ?_)
  | (with_reducible refine dO.bind ?_ (fun _ => ?_))
  | exact dZ.mono _ _
  | exact dO.none _
  | refine dO.ite ?_ ?_
  | refine dO.bind ?_ (fun _ => ?_)
theorem eP.calls (k : Nat) (ah : Int) (af : Int) (aK : Option Addr) (aJ : Nat) (ae : List (Ei)) (r1 : Int) (r2 : Int) (r3 : List (fq)) (w : World) (dH : Kd.C Vi w aK ae.length ae) (dG : ae.length <= aJ) (h : eP.f k ah af ae = some (r1, r2, r3)) :
 Calls Try.prog 15 #[.agg #[.int .i64 ah, .int .i64 af, .slice aK ae.length aJ]] w fun e w' => ∃ VK : Value, e = .returned (.agg #[.int .i64 r1, .int .i64 r2, VK]) /\ Kd.R jZ 83 w' w.heap.size (fun _ => True) VK r3 /\ Below w.heap.size w w' := by
 have amx := Try.underlying24
 have nH := Try.underlying30
 have bD := aa.mk dH
 have cO := aa.mk dG
 clear dH dG
 have HB := aa.mk (Below.refl w.heap.size w)
 have H := h
 clear h
 unfold eP.f at H
 replace H := dz H; obtain ⟨t116, A2, H⟩ := H
 simp only [Option.some.injEq, Prod.mk.injEq] at H
 obtain ⟨rfl, rfl, rfl⟩ := H
 go_enter Try.func15, Try.ntmps15
 go_wp2_with (first | ((with_reducible refine aC (N := 1) rfl ?_); refine dN (cs := #[.int .i64 ah, .int .i64 af, .slice aK ae.length aJ]) (t := 24) ?_; intro asD hg w3 hbox hb; refine mJ HB.1 hg hbox hb ?_; clear HB; intro HB xW aI1 aI2; clear hb hbox hg) | ((with_reducible refine aC (N := 2) rfl ?_); refine dN (cs := #[.int .i64 0, .int .i64 0, .slice none 0 0]) (t := 30) ?_; intro QH hg w4 hbox hb; refine E7 (bB xW.1 hb) (bS HB.1 hb) (hbox) (gX HB.1 hg) (gX HB.1 hg) (nB xW.1 hg) (nC xW.1 hg) ?_; clear xW HB; intro xW HB Ca aI3 aI4 Yo Yp; clear hb hbox hg) | ((with_reducible refine aC (N := 3) rfl ?_); refine dN (cs := #[.int .i64 0, .int .i64 0, .slice none 0 0]) (t := 30) ?_; intro aiu hg w5 hbox hb; refine E10 (bB xW.1 hb) (bB Ca.1 hb) (bS HB.1 hb) (hbox) (gX HB.1 hg) (gX HB.1 hg) (nB xW.1 hg) (nC xW.1 hg) (nB Ca.1 hg) (nC Ca.1 hg) ?_; clear xW Ca HB; intro xW Ca HB M8 aI5 aI6 M9 Yq Ic Yr; clear hb hbox hg; have asv := Yo.1; have asw := Yp.1; have aaD := M9.1; have aaE := Yq.1; obtain ⟨lZ, l5, mR, l6, l7, mU⟩ := gB xW.1; have aeJ := Yr.1; have aeK := Ic.1; obtain ⟨pR, pU, uN, pV, pW, uO⟩ := gB M8.1) | ((with_reducible refine aA (f := 45) rfl ?_); refine cK (N := (some 12)) #[.slice aK ae.length aJ] Try.func45 ?_; (with_reducible refine (dZ.calls k _ _ ae t116 _ ?side1 ?side2 A2.1).mono ?_); (case side1 => exact aY bD.1 (BL HB.1)); (case side2 => exact cO.1); rintro e qy ⟨v117, rfl, ho0, hb⟩; refine ⟨_, rfl, ?_⟩; refine E5 (bN ho0 (bZ HB.1)) (dh (g := asD) (o := .cells #[.int .i64 ah, .int .i64 af, .slice aK ae.length aJ] 24 (0, 0)) (xB M9.1 xW.1) hb) (dh (g := QH) (o := .cells #[.int .i64 0, .int .i64 0, .slice none 0 0] 30 (0, 0)) (xB Ic.1 Ca.1) hb) (dh (g := aiu) (o := .cells #[.int .i64 ah, .int .i64 af, .slice none 0 0] 30 (0, 0)) (BB M8.1) hb) (bS HB.1 hb) ?_; clear xW Ca M8 HB; intro aiv xW Ca M8 HB; (try clear hb); (try clear ho0); obtain ⟨DF, rM, vF⟩ := bv aiv.1; subst vF; obtain ⟨uF, uG, Cn, uH, uI, Co⟩ := gB M8.1; obtain ⟨Af, Ag, Ju, Ah, Ai, Jv⟩ := gB Ca.1))
 refine bodyPost_ret (results_cell_row rfl _ _ QH 30 #[.int .i64 ah, .int .i64 af, .slice DF t116.length rM] (0, 0) _ rfl (xB Ic.1 Ca.1) Try.underlying30 rfl (by kernel_rfl)) rfl ?_
 exact ⟨_, RF, by (with_reducible repeat (first | apply aV | apply aW | apply aQ)); exact aG (RQ QH 2 (RQ QH 1 (RQ QH 0 (mY (p := ⟨aiu, 2, none⟩) (bz (bz aiv.1 M8.1 (by decide)) Ca.1 (by decide)) (fun _ hk => hk.1.2) (.slice DF t116.length rM)) _) _) _) (fun _ hk => trivial), BL HB.1⟩

def pG.f (ah : Int) (af : Int) (DK : Int) (DL : Int) : Option (Bool) := if ah = DK then (if af = DL then (some true) else (some false)) else (some false)
theorem pG.calls (ah : Int) (af : Int) (DK : Int) (DL : Int) (r : Bool) (w : World) (h : pG.f ah af DK DL = some r) :
 Calls Try.prog 79 #[.agg #[.int .i64 ah, .int .i64 af], .agg #[.int .i64 DK, .int .i64 DL]] w fun e w' => e = .returned (.bool r) /\ Below w.heap.size w w' := by
 have xE := Try.underlying83
 have HB := aa.mk (Below.refl w.heap.size w)
 have H := h
 clear h
 unfold pG.f at H
 replace H := oP H; rcases H with ⟨c3, H⟩ | ⟨c3, H⟩
 · have c3b0 := beq_iff_eq.mpr c3
   have c3b1 := bne_eq_false_iff_eq.mpr c3
   clear c3
   replace H := oP H; rcases H with ⟨c4, H⟩ | ⟨c4, H⟩
   · have c4b0 := beq_iff_eq.mpr c4
     have c4b1 := bne_eq_false_iff_eq.mpr c4
     clear c4
     obtain rfl := Option.some.inj H
     go_enter Try.func79, Try.ntmps79
     go_wp2_with (first | ((with_reducible refine aC (N := 2) rfl ?_); refine dN (cs := #[.int .i64 ah, .int .i64 af]) (t := 83) ?_; intro aiw hg w5 hbox hb; refine mJ HB.1 hg hbox hb ?_; clear HB; intro HB qZ aix aiy; clear hb hbox hg) | ((with_reducible refine aC (N := 3) rfl ?_); refine dN (cs := #[.int .i64 DK, .int .i64 DL]) (t := 83) ?_; intro aiz hg w6 hbox hb; refine E7 (bB qZ.1 hb) (bS HB.1 hb) (hbox) (gX HB.1 hg) (gX HB.1 hg) (nB qZ.1 hg) (nC qZ.1 hg) ?_; clear qZ HB; intro qZ HB QI aiA aiB yT yU; clear hb hbox hg; have aaD := yT.1; have aaE := yU.1; obtain ⟨lZ, l5, l6, l7⟩ := nO qZ.1; obtain ⟨Ej, El, Em, En⟩ := nO QI.1))
     go_ret
     exact ⟨RF, BL HB.1⟩
   have c4b0 := beq_eq_false_iff_ne.mpr c4
   have c4b1 := bne_iff_ne.mpr c4
   obtain rfl := Option.some.inj H
   go_enter Try.func79, Try.ntmps79
   go_wp2_with (first | ((with_reducible refine aC (N := 2) rfl ?_); refine dN (cs := #[.int .i64 ah, .int .i64 af]) (t := 83) ?_; intro aiw hg Hw hbox hb; refine mJ HB.1 hg hbox hb ?_; clear HB; intro HB qZ aix aiy; clear hb hbox hg) | ((with_reducible refine aC (N := 3) rfl ?_); refine dN (cs := #[.int .i64 DK, .int .i64 DL]) (t := 83) ?_; intro aiz hg qy hbox hb; refine E7 (bB qZ.1 hb) (bS HB.1 hb) (hbox) (gX HB.1 hg) (gX HB.1 hg) (nB qZ.1 hg) (nC qZ.1 hg) ?_; clear qZ HB; intro qZ HB QI aiA aiB yT yU; clear hb hbox hg; have aaF := yT.1; have aaG := yU.1; obtain ⟨uF, uG, uH, uI⟩ := nO qZ.1; obtain ⟨Af, Ag, Ah, Ai⟩ := nO QI.1))
   go_ret
   exact ⟨RF, BL HB.1⟩
 have c3b0 := beq_eq_false_iff_ne.mpr c3
 have c3b1 := bne_iff_ne.mpr c3
 obtain rfl := Option.some.inj H
 go_enter Try.func79, Try.ntmps79
 go_wp2_with (first | ((with_reducible refine aC (N := 2) rfl ?_); refine dN (cs := #[.int .i64 ah, .int .i64 af]) (t := 83) ?_; intro aiw hg NU hbox hb; refine mJ HB.1 hg hbox hb ?_; clear HB; intro HB qZ aix aiy; clear hb hbox hg) | ((with_reducible refine aC (N := 3) rfl ?_); refine dN (cs := #[.int .i64 DK, .int .i64 DL]) (t := 83) ?_; intro aiz hg w16 hbox hb; refine E7 (bB qZ.1 hb) (bS HB.1 hb) (hbox) (gX HB.1 hg) (gX HB.1 hg) (nB qZ.1 hg) (nC qZ.1 hg) ?_; clear qZ HB; intro qZ HB QI aiA aiB yT yU; clear hb hbox hg; have aiC := yT.1; have aiD := yU.1; obtain ⟨qN, qO, qP, qQ⟩ := nO qZ.1; obtain ⟨FD, FE, FF, FH⟩ := nO QI.1))
 go_ret
 exact ⟨RF, BL HB.1⟩
def bQ.l0 : Nat -> List (fq) -> List (fq) -> Int -> Option (Bool)
 | 0, _, _, _ => none
 | k + 1, x0, x1, x5 => if x5 < (x0.length : Int) then (if 0 <= x5 then (if x5 < (x1.length : Int) then ((pG.f ((aj x0 x5).f0) ((aj x0 x5).f1) ((aj x1 x5).f0) ((aj x1 x5).f1)).bind fun asE => (if asE = true then (bQ.l0 k x0 x1 (wrap64 (x5 + 1))) else (some false))) else (none)) else (none)) else (some true)
def bQ.f (k : Nat) (l0 : List (fq)) (l1 : List (fq)) : Option (Bool) := if (l0.length : Int) = (l1.length : Int) then (bQ.l0 k l0 l1 0) else (some false)
theorem bQ.mono_l : ∀ k, (∀ y0 y1 y2, dO (bQ.l0 k y0 y1 y2) (bQ.l0 (k + 1) y0 y1 y2))
 | 0 => fun _ _ _ r h => by simp [bQ.l0] at h
 | k + 1 => by
  have ja := bQ.mono_l k
  intros
  first | unfold bQ.l0
  exact BA ja
theorem bQ.mono : ∀ a0 a1 k, dO (bQ.f k a0 a1) (bQ.f (k + 1) a0 a1) := by
 intro a0 a1 k
 have ja := bQ.mono_l k
 unfold bQ.f
 exact BA ja
def bQ.T6 : Bool × List (List Nat × List Nat) := (true, [([], []), ([], []), ([0, 1], [0, 1]), ([2], [2]), ([], []), ([], []), ([4, 5], [4, 5]), ([6], [6]), ([3, 7], [3, 7]), ([8], [8])])
def bQ.B6 : List Nat := [0, 0, 3, 7, 0, 0, 48, 112, 255, 511]
theorem bQ.asF : mX .any (opsOf Try.f51 6) = bQ.T6 := by kernel_rfl
theorem bQ.bits6 : kr bQ.T6.2 bQ.B6 = true := by kernel_rfl
theorem bQ.calls (k : Nat) (A0 : Option Addr) (c0 : Nat) (l0 : List (fq)) (A1 : Option Addr) (c1 : Nat) (l1 : List (fq)) (r : Bool) (w : World) (hr0 : Kd.C jZ w A0 l0.length l0) (hc0 : l0.length <= c0) (hr1 : Kd.C jZ w A1 l1.length l1) (hc1 : l1.length <= c1) (h : bQ.f k l0 l1 = some r) :
 Calls Try.prog 51 #[.slice A0 l0.length c0, .slice A1 l1.length c1] w fun e w' => e = .returned (.bool r) /\ Below w.heap.size w w' := by
 have xE := Try.underlying83
 have DI := aa.mk hr0
 have ZU := aa.mk hc0
 clear hr0 hc0
 have HR1 := aa.mk hr1
 have vD := aa.mk hc1
 clear hr1 hc1
 have HB := aa.mk (Below.refl w.heap.size w)
 have H := h
 clear h
 unfold bQ.f at H
 replace H := oP H; rcases H with ⟨c3, H⟩ | ⟨c3, H⟩
 · have c3b0 := beq_iff_eq.mpr c3
   have c3b1 := bne_eq_false_iff_eq.mpr c3
   have c3b2 : (l0.length == l1.length) = true := by first | simpa using c3 | (simp at c3 ⊢; omega)
   clear c3
   have H' := aa.mk H
   clear H
   go_enter Try.func51, Try.ntmps51
   go_wp2
   go_loopg [5] k (fun kq v5 w' => ∃ (bq : Int), v5 = .int .i64 bq /\ aa (bQ.l0 kq l0 l1 bq = some r) /\ aa (kq <= k) /\ aa (Below w.heap.size w w'))
   case atStart => exact ⟨(0), RG, H', ⟨Nat.le_refl _⟩, ⟨BL HB.1⟩⟩
   clear H'
   try clear c1; clear c3b0 c3b1 c3b2
   obtain ⟨bq, rfl, HA, iB, HB⟩ := hrel
   cases gk with
   | zero => exact absurd HA.1 (by simp [bQ.l0])
   | succ k1 => ?_
   have H := HA.1
   clear HA
   simp only [bQ.l0] at H
   replace H := pu H; rcases H with ⟨c4b0, H⟩ | ⟨c4b0, H⟩
   · replace H := ji H; obtain ⟨c5b0, H⟩ := H
     replace H := ji H; obtain ⟨c6b0, H⟩ := H
     replace H := dz H; obtain ⟨asE, A7, H⟩ := H
     replace H := Cm H; rcases H with ⟨rfl, H⟩ | ⟨rfl, H⟩
     · have H' := aa.mk H
       clear H
       try go_wp2
       refine E1 (dm HB.1) ?_
       clear HB
       intro HB
       have Ty : 0 <= (bq : Int) := OD
       have Tz : bq < (l0.length : Int) := OD
       obtain ⟨KS, ang, si, sj⟩ := iP DI.1 bq Ty Tz
       have wF := sj
       have wG := si
       cases ang
       replace si := (HB.1.cell (World.block_lt_of_cell? w _ si)).trans si
       replace sj := (HB.1.cell (World.block_lt_of_cell? w _ sj)).trans sj
       replace Ty := eq_true Ty
       replace Tz := eq_true Tz
       have TA : 0 <= (bq : Int) := OD
       have TB : bq < (l1.length : Int) := OD
       obtain ⟨KT, anh, su, sw⟩ := iP HR1.1 bq TA TB
       have wH := sw
       have wI := su
       cases anh
       replace su := (HB.1.cell (World.block_lt_of_cell? w _ su)).trans su
       replace sw := (HB.1.cell (World.block_lt_of_cell? w _ sw)).trans sw
       replace TA := eq_true TA
       replace TB := eq_true TB
       refine jN (n := 10) (S := fun w' => w'.cell? (KS.add ((bq).toNat * 2)) = some (.int .i64 ((aj l0 bq).f0)) /\ w'.cell? ⟨(KS.add ((bq).toNat * 2)).block, (KS.add ((bq).toNat * 2)).off + 1, none⟩ = some (.int .i64 ((aj l0 bq).f1)) /\ w'.cell? (KT.add ((bq).toNat * 2)) = some (.int .i64 ((aj l1 bq).f0)) /\ w'.cell? ⟨(KT.add ((bq).toNat * 2)).block, (KT.add ((bq).toNat * 2)).off + 1, none⟩ = some (.int .i64 ((aj l1 bq).f1))) (ds := []) #[Zz,Zz,Zz,Zz,Zz,Zz,Zz,Zz,Zz,Zz] (by kernel_rfl) rfl rfl ⟨((HB.1.cell (World.block_lt_of_cell? w _ wG)).trans wG), ((HB.1.cell (World.block_lt_of_cell? w _ wF)).trans wF), ((HB.1.cell (World.block_lt_of_cell? w _ wI)).trans wI), ((HB.1.cell (World.block_lt_of_cell? w _ wH)).trans wH)⟩ (fun hHeld => ?_); refine iq bQ.asF bQ.bits6 (fun HT_ HW_ => ?_)
       generalize wr.drew = w9 at HB si sj su sw hHeld ⊢
       refine aU 0 (N := some 17) HT_.1 ?_
       refine aU 1 (N := some 18) HT_.1 ?_
       refine aU 2 (N := some 19) HT_.1 ?_
       refine aU 4 (N := some 21) HT_.1 ?_
       refine aU 5 (N := some 22) HT_.1 ?_
       refine aU 6 (N := some 23) HT_.1 ?_
       refine gF 3 (N := some 20) HT_.1 HW_.1 hHeld ?_
       refine gF 7 (N := some 24) HT_.1 HW_.1 hHeld ?_
       refine mV (i := 8) (N := some 25) #[Yy,Yy,Yy,Yy,Yy,Yy,Yy,Yy,Yy,Zz] rfl rfl (jc HT_.1 (by kernel_rfl)) (by decide) (fun K hK => ?_)
       refine nA Try.func79 (by kernel_rfl) rfl #[.agg #[.int .i64 ((aj l0 bq).f0), .int .i64 ((aj l0 bq).f1)], .agg #[.int .i64 ((aj l1 bq).f0), .int .i64 ((aj l1 bq).f1)]] (by rfl) rfl rfl (by (try simp only [List.map_toArray, List.map_cons, List.map_nil]); first | done | rfl | (simp only [List.length_drop, List.length_take]; rfl)) ?_
       with_reducible refine (pG.calls ((aj l0 bq).f0) ((aj l0 bq).f1) ((aj l1 bq).f0) ((aj l1 bq).f1) true _ A7.1).mono ?_
       rintro e Hw ⟨rfl, hb⟩
       refine ⟨_, rfl, ?_⟩
       refine E1 (bS HB.1 hb) ?_
       clear HB
       intro HB
       (try clear hb)
       (try clear hb2)
       (try clear hk)
       (try clear hi)
       refine hK.out _ _ ⟨((HB.1.cell (World.block_lt_of_cell? w _ wG)).trans wG), ((HB.1.cell (World.block_lt_of_cell? w _ wF)).trans wF), ((HB.1.cell (World.block_lt_of_cell? w _ wI)).trans wI), ((HB.1.cell (World.block_lt_of_cell? w _ wH)).trans wH)⟩ (fun hHeld => ?_)
       clear hK K
       refine eX (a' := ?_) ?_ ?_
       rotate_left
       · show Act.put _ (some 25) _ = _
         simp only [Act.put, List.setIfInBounds_toArray, List.set_cons_zero, List.set_cons_succ, cz, dF]
         rfl
       refine aU 9 (N := some 26) HT_.1 ?_
       refine lI (jS HT_.1 (by kernel_rfl)) ?_
       try go_wp2
       go_roundg k1
       case measure => have := iB.1; omega
       case rel => exact ⟨(wrap64 (bq + 1)), RG, H', ⟨by have := iB.1; omega⟩, ⟨BL HB.1⟩⟩
     obtain rfl := Option.some.inj H
     try go_wp2
     refine E1 (dm HB.1) ?_
     clear HB
     intro HB
     have Ty : 0 <= (bq : Int) := OD
     have Tz : bq < (l0.length : Int) := OD
     obtain ⟨KS, ang, si, sj⟩ := iP DI.1 bq Ty Tz
     have wF := sj
     have wG := si
     cases ang
     replace si := (HB.1.cell (World.block_lt_of_cell? w _ si)).trans si
     replace sj := (HB.1.cell (World.block_lt_of_cell? w _ sj)).trans sj
     replace Ty := eq_true Ty
     replace Tz := eq_true Tz
     have TA : 0 <= (bq : Int) := OD
     have TB : bq < (l1.length : Int) := OD
     obtain ⟨KT, anh, su, sw⟩ := iP HR1.1 bq TA TB
     have wH := sw
     have wI := su
     cases anh
     replace su := (HB.1.cell (World.block_lt_of_cell? w _ su)).trans su
     replace sw := (HB.1.cell (World.block_lt_of_cell? w _ sw)).trans sw
     replace TA := eq_true TA
     replace TB := eq_true TB
     refine jN (n := 10) (S := fun w' => w'.cell? (KS.add ((bq).toNat * 2)) = some (.int .i64 ((aj l0 bq).f0)) /\ w'.cell? ⟨(KS.add ((bq).toNat * 2)).block, (KS.add ((bq).toNat * 2)).off + 1, none⟩ = some (.int .i64 ((aj l0 bq).f1)) /\ w'.cell? (KT.add ((bq).toNat * 2)) = some (.int .i64 ((aj l1 bq).f0)) /\ w'.cell? ⟨(KT.add ((bq).toNat * 2)).block, (KT.add ((bq).toNat * 2)).off + 1, none⟩ = some (.int .i64 ((aj l1 bq).f1))) (ds := []) #[Zz,Zz,Zz,Zz,Zz,Zz,Zz,Zz,Zz,Zz] (by kernel_rfl) rfl rfl ⟨((HB.1.cell (World.block_lt_of_cell? w _ wG)).trans wG), ((HB.1.cell (World.block_lt_of_cell? w _ wF)).trans wF), ((HB.1.cell (World.block_lt_of_cell? w _ wI)).trans wI), ((HB.1.cell (World.block_lt_of_cell? w _ wH)).trans wH)⟩ (fun hHeld => ?_); refine iq bQ.asF bQ.bits6 (fun HT_ HW_ => ?_)
     generalize wr.drew = qy at HB si sj su sw hHeld ⊢
     refine aU 0 (N := some 17) HT_.1 ?_
     refine aU 1 (N := some 18) HT_.1 ?_
     refine aU 2 (N := some 19) HT_.1 ?_
     refine aU 4 (N := some 21) HT_.1 ?_
     refine aU 5 (N := some 22) HT_.1 ?_
     refine aU 6 (N := some 23) HT_.1 ?_
     refine gF 3 (N := some 20) HT_.1 HW_.1 hHeld ?_
     refine gF 7 (N := some 24) HT_.1 HW_.1 hHeld ?_
     refine mV (i := 8) (N := some 25) #[Yy,Yy,Yy,Yy,Yy,Yy,Yy,Yy,Yy,Zz] rfl rfl (jc HT_.1 (by kernel_rfl)) (by decide) (fun K hK => ?_)
     refine nA Try.func79 (by kernel_rfl) rfl #[.agg #[.int .i64 ((aj l0 bq).f0), .int .i64 ((aj l0 bq).f1)], .agg #[.int .i64 ((aj l1 bq).f0), .int .i64 ((aj l1 bq).f1)]] (by rfl) rfl rfl (by (try simp only [List.map_toArray, List.map_cons, List.map_nil]); first | done | rfl | (simp only [List.length_drop, List.length_take]; rfl)) ?_
     with_reducible refine (pG.calls ((aj l0 bq).f0) ((aj l0 bq).f1) ((aj l1 bq).f0) ((aj l1 bq).f1) false _ A7.1).mono ?_
     rintro e yC ⟨rfl, hb⟩
     refine ⟨_, rfl, ?_⟩
     refine E1 (bS HB.1 hb) ?_
     clear HB
     intro HB
     (try clear hb)
     (try clear hb2)
     (try clear hk)
     (try clear hi)
     refine hK.out _ _ ⟨((HB.1.cell (World.block_lt_of_cell? w _ wG)).trans wG), ((HB.1.cell (World.block_lt_of_cell? w _ wF)).trans wF), ((HB.1.cell (World.block_lt_of_cell? w _ wI)).trans wI), ((HB.1.cell (World.block_lt_of_cell? w _ wH)).trans wH)⟩ (fun hHeld => ?_)
     clear hK K
     refine eX (a' := ?_) ?_ ?_
     rotate_left
     · show Act.put _ (some 25) _ = _
       simp only [Act.put, List.setIfInBounds_toArray, List.set_cons_zero, List.set_cons_succ, cz, dF]
       rfl
     refine aU 9 (N := some 26) HT_.1 ?_
     refine lI (jS HT_.1 (by kernel_rfl)) ?_
     try go_wp2
     go_ret
     exact ⟨RF, BL HB.1⟩
   obtain rfl := Option.some.inj H
   go_wp2
   go_ret
   exact ⟨RF, BL HB.1⟩
 have c3b0 := beq_eq_false_iff_ne.mpr c3
 have c3b1 := bne_iff_ne.mpr c3
 have c3b2 : (l0.length == l1.length) = false := by first | simpa using c3 | (simp at c3 ⊢; omega)
 obtain rfl := Option.some.inj H
 go_enter Try.func51, Try.ntmps51
 go_wp2
 go_ret
 exact ⟨RF, BL HB.1⟩
def iO.f (k : Nat) (ah : Int) (af : Int) (ae : List (fq)) (DK : Int) (DL : Int) (Ez : List (fq)) : Option (Bool) := if ah = DK then (if af = DL then ((bQ.f k ae Ez).bind fun asG => (if asG = true then (some true) else (some false))) else (some false)) else (some false)
theorem iO.mono : ∀ a0 a1 a2 a3 a4 a5 k, dO (iO.f k a0 a1 a2 a3 a4 a5) (iO.f (k + 1) a0 a1 a2 a3 a4 a5) := by
 intro a0 a1 a2 a3 a4 a5 k
 unfold iO.f
 repeat' first
  | (with_reducible exact bQ.mono _ _ _)
  | (with_reducible exact dO.refl _)
  | (with_reducible exact dO.none _)
  | (with_reducible refine dO.ite ?_ ?_)
  | (with_reducible refine dO.bind ?_ (fun _ => ?_))
  | exact bQ.mono _ _ _
  | exact dO.none _
  | refine dO.ite ?_ ?_
  | refine dO.bind ?_ (fun _ => ?_)
theorem iO.calls (k : Nat) (ah : Int) (af : Int) (aK : Option Addr) (aJ : Nat) (ae : List (fq)) (DK : Int) (DL : Int) (QJ : Option Addr) (QK : Nat) (Ez : List (fq)) (r : Bool) (w : World) (dH : Kd.C jZ w aK ae.length ae) (dG : ae.length <= aJ) (aiE : Kd.C jZ w QJ Ez.length Ez) (aiF : Ez.length <= QK) (h : iO.f k ah af ae DK DL Ez = some r) :
 Calls Try.prog 17 #[.agg #[.int .i64 ah, .int .i64 af, .slice aK ae.length aJ], .agg #[.int .i64 DK, .int .i64 DL, .slice QJ Ez.length QK]] w fun e w' => e = .returned (.bool r) /\ Below w.heap.size w w' := by
 have nH := Try.underlying30
 have bD := aa.mk dH
 have cO := aa.mk dG
 clear dH dG
 have aiG := aa.mk aiE
 have aiH := aa.mk aiF
 clear aiE aiF
 have HB := aa.mk (Below.refl w.heap.size w)
 have H := h
 clear h
 unfold iO.f at H
 replace H := oP H; rcases H with ⟨c3, H⟩ | ⟨c3, H⟩
 · have c3b0 := beq_iff_eq.mpr c3
   have c3b1 := bne_eq_false_iff_eq.mpr c3
   clear c3
   replace H := oP H; rcases H with ⟨c4, H⟩ | ⟨c4, H⟩
   · have c4b0 := beq_iff_eq.mpr c4
     have c4b1 := bne_eq_false_iff_eq.mpr c4
     clear c4
     replace H := dz H; obtain ⟨asG, A5, H⟩ := H
     replace H := Cm H; rcases H with ⟨rfl, H⟩ | ⟨rfl, H⟩
     · obtain rfl := Option.some.inj H
       go_enter Try.func17, Try.ntmps17
       go_wp2_with (first | ((with_reducible refine aC (N := 2) rfl ?_); refine dN (cs := #[.int .i64 ah, .int .i64 af, .slice aK ae.length aJ]) (t := 30) ?_; intro aaH hg w7 hbox hb; refine mJ HB.1 hg hbox hb ?_; clear HB; intro HB mf aaI aaJ; clear hb hbox hg) | ((with_reducible refine aC (N := 3) rfl ?_); refine dN (cs := #[.int .i64 DK, .int .i64 DL, .slice QJ Ez.length QK]) (t := 30) ?_; intro aaK hg w8 hbox hb; refine E7 (bB mf.1 hb) (bS HB.1 hb) (hbox) (gX HB.1 hg) (gX HB.1 hg) (nB mf.1 hg) (nC mf.1 hg) ?_; clear mf HB; intro mf HB yV aaL aaM ui uj; clear hb hbox hg; have aeJ := ui.1; have aeK := uj.1; obtain ⟨pR, pU, uN, pV, pW, uO⟩ := gB mf.1; obtain ⟨vX, vY, EZ, vZ, wh, Fa⟩ := gB yV.1) | ((with_reducible refine aA (f := 51) rfl ?_); refine cK (N := (some 19)) #[.slice aK ae.length aJ, .slice QJ Ez.length QK] Try.func51 ?_; (with_reducible refine (bQ.calls k _ _ ae _ _ Ez true _ ?side1 ?side2 ?side3 ?side4 A5.1).mono ?_); (case side1 => exact CB (aY bD.1 HB.1)); (case side2 => exact cO.1); (case side3 => exact CB (aY aiG.1 HB.1)); (case side4 => exact aiH.1); rintro e yC ⟨rfl, hb⟩; refine ⟨_, rfl, ?_⟩; refine E3 (bB mf.1 hb) (bB yV.1 hb) (bS HB.1 hb) ?_; clear mf yV HB; intro mf yV HB; (try clear hb)))
       go_ret
       exact ⟨RF, BL HB.1⟩
     obtain rfl := Option.some.inj H
     go_enter Try.func17, Try.ntmps17
     go_wp2_with (first | ((with_reducible refine aC (N := 2) rfl ?_); refine dN (cs := #[.int .i64 ah, .int .i64 af, .slice aK ae.length aJ]) (t := 30) ?_; intro aaH hg yJ hbox hb; refine mJ HB.1 hg hbox hb ?_; clear HB; intro HB mf aaI aaJ; clear hb hbox hg) | ((with_reducible refine aC (N := 3) rfl ?_); refine dN (cs := #[.int .i64 DK, .int .i64 DL, .slice QJ Ez.length QK]) (t := 30) ?_; intro aaK hg yM hbox hb; refine E7 (bB mf.1 hb) (bS HB.1 hb) (hbox) (gX HB.1 hg) (gX HB.1 hg) (nB mf.1 hg) (nC mf.1 hg) ?_; clear mf HB; intro mf HB yV aaL aaM ui uj; clear hb hbox hg; have asH := ui.1; have asI := uj.1; obtain ⟨wm, wo, zQ, wu, ww, zR⟩ := gB mf.1; obtain ⟨VL, VM, VN, VO, VP, VQ⟩ := gB yV.1) | ((with_reducible refine aA (f := 51) rfl ?_); refine cK (N := (some 19)) #[.slice aK ae.length aJ, .slice QJ Ez.length QK] Try.func51 ?_; (with_reducible refine (bQ.calls k _ _ ae _ _ Ez false _ ?side1 ?side2 ?side3 ?side4 A5.1).mono ?_); (case side1 => exact CB (aY bD.1 HB.1)); (case side2 => exact cO.1); (case side3 => exact CB (aY aiG.1 HB.1)); (case side4 => exact aiH.1); rintro e w18 ⟨rfl, hb⟩; refine ⟨_, rfl, ?_⟩; refine E3 (bB mf.1 hb) (bB yV.1 hb) (bS HB.1 hb) ?_; clear mf yV HB; intro mf yV HB; (try clear hb)))
     go_ret
     exact ⟨RF, BL HB.1⟩
   have c4b0 := beq_eq_false_iff_ne.mpr c4
   have c4b1 := bne_iff_ne.mpr c4
   obtain rfl := Option.some.inj H
   go_enter Try.func17, Try.ntmps17
   go_wp2_with (first | ((with_reducible refine aC (N := 2) rfl ?_); refine dN (cs := #[.int .i64 ah, .int .i64 af, .slice aK ae.length aJ]) (t := 30) ?_; intro aaH hg w19 hbox hb; refine mJ HB.1 hg hbox hb ?_; clear HB; intro HB mf aaI aaJ; clear hb hbox hg) | ((with_reducible refine aC (N := 3) rfl ?_); refine dN (cs := #[.int .i64 DK, .int .i64 DL, .slice QJ Ez.length QK]) (t := 30) ?_; intro aaK hg ZJ hbox hb; refine E7 (bB mf.1 hb) (bS HB.1 hb) (hbox) (gX HB.1 hg) (gX HB.1 hg) (nB mf.1 hg) (nC mf.1 hg) ?_; clear mf HB; intro mf HB yV aaL aaM ui uj; clear hb hbox hg; have aaO := ui.1; have aaP := uj.1; obtain ⟨wJ, wK, Jw, wL, wM, Jy⟩ := gB mf.1; obtain ⟨FI, FJ, FL, FM, FN, FO⟩ := gB yV.1))
   go_ret
   exact ⟨RF, BL HB.1⟩
 have c3b0 := beq_eq_false_iff_ne.mpr c3
 have c3b1 := bne_iff_ne.mpr c3
 obtain rfl := Option.some.inj H
 go_enter Try.func17, Try.ntmps17
 go_wp2_with (first | ((with_reducible refine aC (N := 2) rfl ?_); refine dN (cs := #[.int .i64 ah, .int .i64 af, .slice aK ae.length aJ]) (t := 30) ?_; intro aaH hg Mi hbox hb; refine mJ HB.1 hg hbox hb ?_; clear HB; intro HB mf aaI aaJ; clear hb hbox hg) | ((with_reducible refine aC (N := 3) rfl ?_); refine dN (cs := #[.int .i64 DK, .int .i64 DL, .slice QJ Ez.length QK]) (t := 30) ?_; intro aaK hg Mk hbox hb; refine E7 (bB mf.1 hb) (bS HB.1 hb) (hbox) (gX HB.1 hg) (gX HB.1 hg) (nB mf.1 hg) (nC mf.1 hg) ?_; clear mf HB; intro mf HB yV aaL aaM ui uj; clear hb hbox hg; have aI7 := ui.1; have aI8 := uj.1; obtain ⟨Aj, Ak, Jz, Al, Am, JA⟩ := gB mf.1; obtain ⟨VR, VS, VT, VU, VV, VW⟩ := gB yV.1))
 go_ret
 exact ⟨RF, BL HB.1⟩
def di.l0 : Nat -> List Int -> List Int -> Int -> Option (Bool)
 | 0, _, _, _ => none
 | k + 1, x0, x1, x5 => if x5 < (x0.length : Int) then (if 0 <= x5 then (if x5 < (x1.length : Int) then (if (rd x0 x5) = (rd x1 x5) then (di.l0 k x0 x1 (wrap64 (x5 + 1))) else (some false)) else (none)) else (none)) else (some true)
def di.f (k : Nat) (l0 : List Int) (l1 : List Int) : Option (Bool) := if (l0.length : Int) = (l1.length : Int) then (di.l0 k l0 l1 0) else (some false)
theorem di.mono_l : ∀ k, (∀ y0 y1 y2, dO (di.l0 k y0 y1 y2) (di.l0 (k + 1) y0 y1 y2))
 | 0 => fun _ _ _ r h => by simp [di.l0] at h
 | k + 1 => by
  have ja := di.mono_l k
  intros
  first | unfold di.l0
  exact BA ja
theorem di.mono : ∀ a0 a1 k, dO (di.f k a0 a1) (di.f (k + 1) a0 a1) := by
 intro a0 a1 k
 have ja := di.mono_l k
 unfold di.f
 exact BA ja
theorem di.calls (k : Nat) (A0 : Option Addr) (c0 : Nat) (l0 : List Int) (A1 : Option Addr) (c1 : Nat) (l1 : List Int) (r : Bool) (w : World) (hr0 : Kd.C (Kd.int .i64) w A0 l0.length l0) (hc0 : l0.length <= c0) (hr1 : Kd.C (Kd.int .i64) w A1 l1.length l1) (hc1 : l1.length <= c1) (h : di.f k l0 l1 = some r) :
 Calls Try.prog 26 #[.slice A0 l0.length c0, .slice A1 l1.length c1] w fun e w' => e = .returned (.bool r) /\ lY w w' := by
 have DI := aa.mk hr0
 have ZU := aa.mk hc0
 clear hr0 hc0
 have HR1 := aa.mk hr1
 have vD := aa.mk hc1
 clear hr1 hc1
 have H := h
 clear h
 unfold di.f at H
 replace H := oP H; rcases H with ⟨c3, H⟩ | ⟨c3, H⟩
 · have c3b0 := beq_iff_eq.mpr c3
   have c3b1 := bne_eq_false_iff_eq.mpr c3
   have c3b2 : (l0.length == l1.length) = true := by first | simpa using c3 | (simp at c3 ⊢; omega)
   clear c3
   have H' := aa.mk H
   clear H
   go_enter Try.func26, Try.ntmps26
   go_wp2
   repeat (go_quiet (fail); try go_wp2)
   go_loopg [5] k (fun kq v5 w' => ∃ (bq : Int), v5 = .int .i64 bq /\ aa (di.l0 kq l0 l1 bq = some r) /\ aa (kq <= k) /\ lY w w')
   case atStart => exact ⟨(0), RG, H', ⟨Nat.le_refl _⟩, DR⟩
   clear H'
   try clear c1; clear c3b0 c3b1 c3b2
   obtain ⟨bq, rfl, HA, iB, ⟨m1, rfl⟩⟩ := hrel
   cases gk with
   | zero => exact absurd HA.1 (by simp [di.l0])
   | succ k1 => ?_
   have H := HA.1
   clear HA
   simp only [di.l0] at H
   replace H := pu H; rcases H with ⟨c4b0, H⟩ | ⟨c4b0, H⟩
   · replace H := ji H; obtain ⟨c5b0, H⟩ := H
     replace H := ji H; obtain ⟨c6b0, H⟩ := H
     replace H := oP H; rcases H with ⟨c7, H⟩ | ⟨c7, H⟩
     · have c7b0 := beq_iff_eq.mpr c7
       have c7b1 := bne_eq_false_iff_eq.mpr c7
       clear c7
       have H' := aa.mk H
       clear H
       have TC : 0 <= (bq : Int) := OD
       have TD : bq < (l0.length : Int) := OD
       obtain ⟨asJ, e127, aeL⟩ := Kd.dx DI.1 bq TC TD
       cases e127
       replace TC := eq_true TC
       replace TD := eq_true TD
       have TE : 0 <= (bq : Int) := OD
       have TF : bq < (l1.length : Int) := OD
       obtain ⟨asK, e128, aeM⟩ := Kd.dx HR1.1 bq TE TF
       cases e128
       replace TE := eq_true TE
       replace TF := eq_true TF
       go_wp2
       repeat (go_quiet (fail); try go_wp2)
       go_roundg k1
       case measure => have := iB.1; omega
       case rel => exact ⟨(wrap64 (bq + 1)), RG, H', ⟨by have := iB.1; omega⟩, DR⟩
     have c7b0 := beq_eq_false_iff_ne.mpr c7
     have c7b1 := bne_iff_ne.mpr c7
     obtain rfl := Option.some.inj H
     have TC : 0 <= (bq : Int) := OD
     have TD : bq < (l0.length : Int) := OD
     obtain ⟨asJ, e127, aeL⟩ := Kd.dx DI.1 bq TC TD
     cases e127
     replace TC := eq_true TC
     replace TD := eq_true TD
     have TE : 0 <= (bq : Int) := OD
     have TF : bq < (l1.length : Int) := OD
     obtain ⟨asK, e128, aeM⟩ := Kd.dx HR1.1 bq TE TF
     cases e128
     replace TE := eq_true TE
     replace TF := eq_true TF
     go_wp2
     repeat (go_quiet (fail); try go_wp2)
     go_ret
     exact ⟨RG, DR⟩
   obtain rfl := Option.some.inj H
   go_wp2
   repeat (go_quiet (fail); try go_wp2)
   go_ret
   exact ⟨RG, DR⟩
 have c3b0 := beq_eq_false_iff_ne.mpr c3
 have c3b1 := bne_iff_ne.mpr c3
 have c3b2 : (l0.length == l1.length) = false := by first | simpa using c3 | (simp at c3 ⊢; omega)
 obtain rfl := Option.some.inj H
 go_enter Try.func26, Try.ntmps26
 go_wp2
 repeat (go_quiet (fail); try go_wp2)
 go_ret
 exact ⟨RG, DR⟩
def dE.l0 : Nat -> List (fq) -> Int -> Int -> Option (Int × (List (fq)))
 | 0, _, _, _ => none
 | k + 1, x0, x1, x5 => if x5 < (x0.length : Int) then (if 0 <= x5 then ((some (x0.set (x5 : Int).toNat (⟨x1, (aj x0 x5).f1⟩ : fq) : List (fq))).bind fun Kr => (dE.l0 k (Kr.set (x5 : Int).toNat (⟨(aj Kr x5).f0, wrap64 (x1 + 1)⟩ : fq)) (wrap64 ((wrap64 (x1 + 1)) + 1)) (wrap64 (x5 + 1)))) else (none)) else (some (x1, x0))
def dE.f (k : Nat) (l0 : List (fq)) (a1 : Int) : Option (Int × (List (fq))) := dE.l0 k l0 a1 0
theorem dE.mono_l : ∀ k, (∀ y0 y1 y2, dO (dE.l0 k y0 y1 y2) (dE.l0 (k + 1) y0 y1 y2))
 | 0 => fun _ _ _ r h => by simp [dE.l0] at h
 | k + 1 => by
  have ja := dE.mono_l k
  intros
  first | unfold dE.l0
  exact BA ja
theorem dE.mono : ∀ a0 a1 k, dO (dE.f k a0 a1) (dE.f (k + 1) a0 a1) := by
 intro a0 a1 k
 have ja := dE.mono_l k
 unfold dE.f
 exact BA ja
theorem dE.calls (k : Nat) (pg : Nat -> Prop) (iH : Value) (l0 : List (fq)) (a1 : Int) (r1 : Int) (r2 : List (fq)) (w0 w : World) (hB : Below w0.heap.size w0 w) (ho0 : Kd.R jZ 83 w w0.heap.size pg iH l0) (h : dE.f k l0 a1 = some (r1, r2)) :
 Calls Try.prog 56 #[iH, .int .i64 a1] w fun e w' => e = .returned (.int .i64 r1) /\ Kd.R jZ 83 w' w0.heap.size (fun k_ => (pg k_ ∨ w.heap.size <= k_)) iH r2 /\ Below w0.heap.size w0 w' /\ Kept w w' (fun k_ => pg k_) := by
 have HO0 := aa.mk (show Kd.R jZ 83 w w0.heap.size (fun k_ => (pg k_ ∨ w.heap.size <= k_)) iH l0 from aG ho0 (fun k_ hk => (.inl hk)))
 have HK := aa.mk (Kept.refl w (fun k_ => pg k_))
 have HW0 := aa.mk hB.size
 have HB := aa.mk hB
 clear hB
 have H := h
 clear h
 unfold dE.f at H
 have H' := aa.mk H
 clear H
 go_enter Try.func56, Try.ntmps56
 go_wp2
 go_loopg [1, 5] k (fun kq v1 v5 w' => ∃ (vE : List (fq)) (uT : Int) (bq : Int), v1 = .int .i64 uT /\ v5 = .int .i64 bq /\ aa (dE.l0 kq vE uT bq = some (r1, r2)) /\ aa (kq <= k) /\ aa (Kd.R jZ 83 w' w0.heap.size (fun k_ => (pg k_ ∨ w.heap.size <= k_)) iH vE) /\ aa (Kept w w' (fun k_ => pg k_)) /\ aa (Below w0.heap.size w0 w'))
 case atStart => exact ⟨(l0), (a1), (0), RG, RG, H', ⟨Nat.le_refl _⟩, ⟨PR HO0.1⟩, ⟨KL HK.1⟩, ⟨BL HB.1⟩⟩
 clear H'
 obtain ⟨vE, uT, bq, rfl, rfl, HA, iB, HO_0, HK, HB⟩ := hrel
 cases gk with
 | zero => exact absurd HA.1 (by simp [dE.l0])
 | succ k1 => ?_
 have H := HA.1
 clear HA
 simp only [dE.l0] at H
 replace H := pu H; rcases H with ⟨c3b0, H⟩ | ⟨c3b0, H⟩
 · replace H := ji H; obtain ⟨c4b0, H⟩ := H
   replace H := nR H; obtain ⟨Kr, arl, H⟩ := H
   generalize aia : ((Kr.set (bq : Int).toNat (⟨(aj Kr bq).f0, wrap64 (uT + 1)⟩ : fq)) : List (fq)) = arn at H
   have aro := aa.mk aia.symm; clear aia
   have H' := aa.mk H
   clear H
   obtain ⟨Ao7, SI, eo7⟩ := bv HO_0.1
   subst eo7
   have p5 : 0 <= (bq : Int) := OD
   have q5 : (bq : Int) < ((vE.length : Int) : Int) := OD
   obtain ⟨Jn, co5, eo5, gb5, gl5, cl5, HG5⟩ := mQ HO_0.1 (by omega)
   (first | cases eo5 | (injection eo5 with ea_ en_ ec_; (first | subst ea_ | (injection ea_ with ea_; subst ea_)); subst ec_; clear en_))
   have GB5 := aa.mk gb5
   have GG5 := aa.mk HG5
   clear gb5 gl5 HG5
   have HMgo5 := aa.mk (show (pg Jn ∨ w.heap.size <= Jn) from (HO_0.1.1 _ rfl))
   obtain ⟨ce5, aDx, hM5, amk, aml⟩ := nz HO_0.1 z83 (bq : Int) p5 q5
   obtain rfl := jY hM5
   have arv : wr.cell? ⟨Jn, (bq : Int).toNat * 2, none⟩ = some (.int .i64 ((aj vE bq).f0)) := amk 0 _ rfl
   have aIz : wr.cell? ⟨Jn, (bq : Int).toNat * 2 + 1, none⟩ = some (.int .i64 ((aj vE bq).f1)) := amk 1 _ rfl
   have arw : wr.frozen? ⟨Jn, (bq : Int).toNat * 2, none⟩ = false := aml 0
   have aIA : wr.frozen? ⟨Jn, (bq : Int).toNat * 2 + 1, none⟩ = false := aml 1
   (try clear hM5); clear aDx amk aml
   replace p5 := eq_true p5
   replace q5 := eq_true q5
   have HX8 := aa.mk (show Kd.R jZ 83 wr w0.heap.size (fun k_ => (pg k_ ∨ w.heap.size <= k_)) (.slice (some ⟨Jn, 0, none⟩) vE.length SI) vE from (PR HO_0.1))
   obtain ⟨ce8, aek, hM8, SK, XZ⟩ := nz HX8.1 z83 (bq : Int) (OD) (by have h_ : (bq : Int) < ((vE.length : Int) : Int) := OD; first | exact h_ | (have e_ := (ay HO_0.1).1; omega) | simpa using h_)
   obtain rfl := jY hM8
   have HP8 := DZ HX8.1 (bq : Int) (OD) (by have h_ : (bq : Int) < ((vE.length : Int) : Int) := OD; first | exact h_ | (have e_ := (ay HO_0.1).1; omega) | simpa using h_) (seg := [.int .i64 uT]) (j := 0) aek SK (show 1 <= 2 from by decide) (x' := (⟨uT, (aj vE bq).f1⟩ : fq)) (uE _ _ _ (⟨uT, (aj vE bq).f1⟩ : fq) ) (fun _ hk => hk)
   have aib := SK 0 _ rfl
   (try simp only [show (jZ).sz = 2 from rfl, Nat.mul_one, Nat.add_zero] at aib)
   have aic := XZ 0
   (try simp only [show (jZ).sz = 2 from rfl, Nat.mul_one, Nat.add_zero] at aic)
   (try clear hM8); clear aek SK XZ
   go_wp2_with (first | ((with_reducible refine gK (t := 3) (p := 16) rfl ?_); refine lX (t := 3) (p := 16) (w1 := (wr.setCell ⟨Jn, (bq : Int).toNat * 2, none⟩ (.int .i64 uT))) ?_; intro w9 hw; have hg : wr.grownBy w9 (some Jn) := (by rw [hw]; exact HP8.2); have hp_ : Kd.R jZ 83 w9 w0.heap.size (fun k_ => (pg k_ ∨ w.heap.size <= k_)) (.slice (some ⟨Jn, 0, none⟩) vE.length SI) Kr := (by rw [hw, arl.1]; exact HP8.1); clear HP8; refine E3 (hp_) ((by rw [hw]; exact il (HB.1) GB5.1 : Below w0.heap.size w0 w9)) (Kept.of_grown (S := (fun k_ => pg k_)) hg (KL HK.1) (fun k_ e_ => (HO_0.1.1 k_ e_))) ?_; clear HO_0 HB HK; intro HO_0 HB HK; clear hg hw hp_; have p6 : 0 <= (bq : Int) := OD; have q6 : (bq : Int) < ((vE.length : Int) : Int) := OD; obtain ⟨ce6, aDz, hM6, amm, amn⟩ := nz HO_0.1 z83 (bq : Int) p6 q6; obtain rfl := jY hM6; have aID : w9.cell? ⟨Jn, (bq : Int).toNat * 2, none⟩ = some (.int .i64 ((aj Kr bq).f0)) := amm 0 _ rfl; have aIE : w9.cell? ⟨Jn, (bq : Int).toNat * 2 + 1, none⟩ = some (.int .i64 ((aj Kr bq).f1)) := amm 1 _ rfl; have aIF : w9.frozen? ⟨Jn, (bq : Int).toNat * 2, none⟩ = false := amn 0; have aIG : w9.frozen? ⟨Jn, (bq : Int).toNat * 2 + 1, none⟩ = false := amn 1; (try clear hM6); clear aDz amm amn; replace p6 := eq_true p6; replace q6 := eq_true q6; have ary := aa.mk (show Kd.R jZ 83 w9 w0.heap.size (fun k_ => (pg k_ ∨ w.heap.size <= k_)) (.slice (some ⟨Jn, 0, none⟩) vE.length SI) Kr from (PR HO_0.1)); obtain ⟨aDA, Vl, ael, Kt, MQ⟩ := nz ary.1 z83 (bq : Int) (OD) (by have h_ : (bq : Int) < ((vE.length : Int) : Int) := OD; first | exact h_ | (have e_ := (ay HO_0.1).1; omega) | simpa using h_); obtain rfl := jY ael; have SL := DZ ary.1 (bq : Int) (OD) (by have h_ : (bq : Int) < ((vE.length : Int) : Int) := OD; first | exact h_ | (have e_ := (ay HO_0.1).1; omega) | simpa using h_) (seg := [.int .i64 (wrap64 (uT + 1))]) (j := 1) Vl Kt (show 2 <= 2 from by decide) (x' := (⟨(aj Kr bq).f0, wrap64 (uT + 1)⟩ : fq)) (uE _ _ _ (⟨(aj Kr bq).f0, wrap64 (uT + 1)⟩ : fq) ) (fun _ hk => hk); have ZR := Kt 1 _ rfl; (try simp only [show (jZ).sz = 2 from rfl, Nat.mul_one, Nat.add_zero] at ZR); have ZT := MQ 1; (try simp only [show (jZ).sz = 2 from rfl, Nat.mul_one, Nat.add_zero] at ZT); clear Vl Kt MQ) | ((with_reducible refine gK (t := 3) (p := 23) rfl ?_); refine lX (t := 3) (p := 23) (w1 := (w9.setCell ⟨Jn, (bq : Int).toNat * 2 + 1, none⟩ (.int .i64 (wrap64 (uT + 1))))) ?_; intro qy hw; have hg : w9.grownBy qy (some Jn) := (by rw [hw]; exact SL.2); have hp_ : Kd.R jZ 83 qy w0.heap.size (fun k_ => (pg k_ ∨ w.heap.size <= k_)) (.slice (some ⟨Jn, 0, none⟩) vE.length SI) arn := (by rw [hw, aro.1]; exact SL.1); clear SL; refine E3 (hp_) ((by rw [hw]; exact il (HB.1) GB5.1 : Below w0.heap.size w0 qy)) (Kept.of_grown (S := (fun k_ => pg k_)) hg (KL HK.1) (fun k_ e_ => (HO_0.1.1 k_ e_))) ?_; clear HO_0 HB HK; intro HO_0 HB HK; clear hg hw hp_))
   go_roundg k1
   case measure => have := iB.1; omega
   case rel => exact ⟨(arn), (wrap64 ((wrap64 (uT + 1)) + 1)), (wrap64 (bq + 1)), RG, RG, H', ⟨by have := iB.1; omega⟩, ⟨PR HO_0.1⟩, ⟨KL HK.1⟩, ⟨BL HB.1⟩⟩
 simp only [Option.some.injEq, Prod.mk.injEq] at H
 obtain ⟨rfl, rfl⟩ := H
 obtain ⟨DF, rM, vF⟩ := bv HO_0.1
 subst vF
 go_wp2
 go_ret
 exact ⟨RF, pm (HO_0.1), BL HB.1, KL HK.1⟩
def jb.f (k : Nat) (ah : Int) (af : Int) (ae : List (fq)) (a1 : Int) : Option (Int × (List (fq))) := (dE.f k ae a1).bind fun aid => (some (aid.1, aid.2))
theorem jb.mono : ∀ a0 a1 a2 a3 k, dO (jb.f k a0 a1 a2 a3) (jb.f (k + 1) a0 a1 a2 a3) := by
 intro a0 a1 a2 a3 k
 unfold jb.f
 repeat' first
  | (with_reducible exact dE.mono _ _ _)
  | (with_reducible exact dO.refl _)
  | (with_reducible exact dO.none _)
  | (with_reducible refine dO.ite ?_ ?_)
  | (with_reducible refine dO.bind ?_ (fun _ => ?_))
  | exact dE.mono _ _ _
  | exact dO.none _
  | refine dO.ite ?_ ?_
  | refine dO.bind ?_ (fun _ => ?_)
theorem jb.calls (k : Nat) (ah : Int) (af : Int) (cu : Nat -> Prop) (iH : Value) (ae : List (fq)) (a1 : Int) (r1 : Int) (r2 : List (fq)) (w0 w : World) (hB : Below w0.heap.size w0 w) (BN : Kd.R jZ 83 w w0.heap.size cu iH ae) (h : jb.f k ah af ae a1 = some (r1, r2)) :
 Calls Try.prog 27 #[.agg #[.int .i64 ah, .int .i64 af, iH], .int .i64 a1] w fun e w' => e = .returned (.int .i64 r1) /\ Kd.R jZ 83 w' w0.heap.size (fun k_ => (cu k_ ∨ w.heap.size <= k_)) iH r2 /\ Below w0.heap.size w0 w' /\ Kept w w' (fun k_ => cu k_) := by
 have nH := Try.underlying30
 have fB := aa.mk (show Kd.R jZ 83 w w0.heap.size (fun k_ => (cu k_ ∨ w.heap.size <= k_)) iH ae from aG BN (fun k_ hk => (.inl hk)))
 have HK := aa.mk (Kept.refl w (fun k_ => cu k_))
 have HW0 := aa.mk hB.size
 have HB := aa.mk hB
 clear hB
 have H := h
 clear h
 unfold jb.f at H
 replace H := dz H; obtain ⟨⟨aDB, aDC⟩, A3, H⟩ := H
 dsimp only at H
 simp only [Option.some.injEq, Prod.mk.injEq] at H
 obtain ⟨rfl, rfl⟩ := H
 obtain ⟨SB, yK, eo4⟩ := bv fB.1
 subst eo4
 go_enter Try.func27, Try.ntmps27
 go_wp2_with (first | ((with_reducible refine aC (N := 2) rfl ?_); refine dN (cs := #[.int .i64 ah, .int .i64 af, .slice SB ae.length yK]) (t := 30) ?_; intro aie hg w5 hbox hb; refine E6 (rB fB.1 hb) (Kept.below (S := (fun k_ => cu k_)) (KL HK.1) hb) (bS HB.1 hb) (hbox) ((by rw [hg]; exact (by first | exact HK.1.1 | exact (show Kept w _ (fun k_ => cu k_) from KL HK.1).1) : w.heap.size <= aie)) (Qm hg (bZ HB.1) : w0.heap.size <= aie) ?_; clear fB HK HB; intro fB HK HB Qn aIH aII; clear hb hbox hg; obtain ⟨oL, oM, tZ, oN, oO, uf⟩ := gB Qn.1) | ((with_reducible refine aA (f := 56) rfl ?_); refine cK (N := (some 8)) #[.slice SB ae.length yK, .int .i64 a1] Try.func56 ?_; (with_reducible refine (dE.calls k (fun k_ => some k_ = (.slice SB ae.length yK : Value).ownBlock) (.slice SB ae.length yK) ae a1 aDB aDC w0 _ ?side1 ?side2 A3.1).mono ?_); (case side1 => exact BL HB.1); (case side2 => exact jR rfl fB.1); rintro e w7 ⟨rfl, hy0, hb, hkp⟩; refine ⟨_, rfl, ?_⟩; refine E4 (qp rfl hy0 (fun k_ e_ => fB.1.1 k_ e_)) (eQ (PB Qn.1) hkp (fun hs_ => (fun e_ => (dK fB.1 Qn.1 (by decide)) e_) hs_)) (Kept.then_ (S := (fun k_ => cu k_)) (KL HK.1) hkp (fun k_ hs_ => (fun e_ => (fB.1.1 k_ e_.symm)) hs_)) (hb) ?_; clear fB Qn HK HB; intro fB Qn HK HB; (try clear hb); (try clear hkp); (try clear hy0)))
 go_ret
 exact ⟨RF, pm (fB.1), BL HB.1, KL HK.1⟩

def dB.l0 : Nat -> List Int -> Int -> Int -> Option (Int × List Int)
 | 0, _, _, _ => none
 | k + 1, x0, x1, x5 => if x5 < (x0.length : Int) then (if 0 <= x5 then (dB.l0 k (x0.set (x5 : Int).toNat x1) (wrap64 (x1 + 1)) (wrap64 (x5 + 1))) else (none)) else (some (x1, x0))
def dB.f (k : Nat) (l0 : List Int) (a1 : Int) : Option (Int × List Int) := dB.l0 k l0 a1 0
theorem dB.mono_l : ∀ k, (∀ y0 y1 y2, dO (dB.l0 k y0 y1 y2) (dB.l0 (k + 1) y0 y1 y2))
 | 0 => fun _ _ _ r h => by simp [dB.l0] at h
 | k + 1 => by
  have ja := dB.mono_l k
  intros
  first | unfold dB.l0
  exact BA ja
theorem dB.mono : ∀ a0 a1 k, dO (dB.f k a0 a1) (dB.f (k + 1) a0 a1) := by
 intro a0 a1 k
 have ja := dB.mono_l k
 unfold dB.f
 exact BA ja
theorem dB.calls (k : Nat) (pg : Nat -> Prop) (iH : Value) (l0 : List Int) (a1 : Int) (r1 : Int) (r2 : List Int) (w0 w : World) (hB : Below w0.heap.size w0 w) (ho0 : Kd.R (Kd.int .i64) 3 w w0.heap.size pg iH l0) (h : dB.f k l0 a1 = some (r1, r2)) :
 Calls Try.prog 28 #[iH, .int .i64 a1] w fun e w' => e = .returned (.int .i64 r1) /\ Kd.R (Kd.int .i64) 3 w' w0.heap.size (fun k_ => (pg k_ ∨ w.heap.size <= k_)) iH r2 /\ Below w0.heap.size w0 w' /\ Kept w w' (fun k_ => pg k_) := by
 have HO0 := aa.mk (show Kd.R (Kd.int .i64) 3 w w0.heap.size (fun k_ => (pg k_ ∨ w.heap.size <= k_)) iH l0 from aG ho0 (fun k_ hk => (.inl hk)))
 have HK := aa.mk (Kept.refl w (fun k_ => pg k_))
 have HW0 := aa.mk hB.size
 have HB := aa.mk hB
 clear hB
 have H := h
 clear h
 unfold dB.f at H
 have H' := aa.mk H
 clear H
 go_enter Try.func28, Try.ntmps28
 go_wp2
 go_loopg [1, 5] k (fun kq v1 v5 w' => ∃ (vE : List Int) (uT : Int) (bq : Int), v1 = .int .i64 uT /\ v5 = .int .i64 bq /\ aa (dB.l0 kq vE uT bq = some (r1, r2)) /\ aa (kq <= k) /\ aa (Kd.R (Kd.int .i64) 3 w' w0.heap.size (fun k_ => (pg k_ ∨ w.heap.size <= k_)) iH vE) /\ aa (Kept w w' (fun k_ => pg k_)) /\ aa (Below w0.heap.size w0 w'))
 case atStart => exact ⟨(l0), (a1), (0), RG, RG, H', ⟨Nat.le_refl _⟩, ⟨PR HO0.1⟩, ⟨KL HK.1⟩, ⟨BL HB.1⟩⟩
 clear H'
 obtain ⟨vE, uT, bq, rfl, rfl, HA, iB, HO_0, HK, HB⟩ := hrel
 cases gk with
 | zero => exact absurd HA.1 (by simp [dB.l0])
 | succ k1 => ?_
 have H := HA.1
 clear HA
 simp only [dB.l0] at H
 replace H := pu H; rcases H with ⟨c3b0, H⟩ | ⟨c3b0, H⟩
 · replace H := ji H; obtain ⟨c4b0, H⟩ := H
   generalize aif : ((vE.set (bq : Int).toNat uT) : List Int) = arz at H
   have arA := aa.mk aif.symm; clear aif
   have H' := aa.mk H
   clear H
   obtain ⟨Ao6, co6, eo6⟩ := bv HO_0.1
   subst eo6
   have p5 : 0 <= (bq : Int) := OD
   have q5 : (bq : Int) < ((vE.length : Int) : Int) := OD
   obtain ⟨Jn, co5, eo5, gb5, gl5, cl5, HG5⟩ := mQ HO_0.1 (by omega)
   (first | cases eo5 | (injection eo5 with ea_ en_ ec_; (first | subst ea_ | (injection ea_ with ea_; subst ea_)); subst ec_; clear en_))
   have GB5 := aa.mk gb5
   have GG5 := aa.mk HG5
   clear gb5 gl5 HG5
   have HMgo5 := aa.mk (show (pg Jn ∨ w.heap.size <= Jn) from (HO_0.1.1 _ rfl))
   obtain ⟨arv, arw⟩ := lC 0 HO_0.1 (bq : Int) p5 q5
   replace p5 := eq_true p5
   replace q5 := eq_true q5
   have HP7 := qV HO_0.1 (bq : Int) uT
   go_wp2_with (first | ((with_reducible refine gK (t := 3) (p := 15) rfl ?_); refine lX (t := 3) (p := 15) (w1 := (wr.setCell ⟨Jn, (bq : Int).toNat, none⟩ (.int .i64 uT))) ?_; intro w8 hw; have hg : wr.grownBy w8 (some Jn) := (by rw [hw]; exact HP7.2); have hp_ : Kd.R (Kd.int .i64) 3 w8 w0.heap.size (fun k_ => (pg k_ ∨ w.heap.size <= k_)) (.slice (some ⟨Jn, 0, none⟩) vE.length co6) arz := (by rw [hw, arA.1]; exact HP7.1); clear HP7; refine E3 (hp_) ((by rw [hw]; exact il (HB.1) GB5.1 : Below w0.heap.size w0 w8)) (Kept.of_grown (S := (fun k_ => pg k_)) hg (KL HK.1) (fun k_ e_ => (HO_0.1.1 k_ e_))) ?_; clear HO_0 HB HK; intro HO_0 HB HK; clear hg hw hp_))
   go_roundg k1
   case measure => have := iB.1; omega
   case rel => exact ⟨(arz), (wrap64 (uT + 1)), (wrap64 (bq + 1)), RG, RG, H', ⟨by have := iB.1; omega⟩, ⟨PR HO_0.1⟩, ⟨KL HK.1⟩, ⟨BL HB.1⟩⟩
 simp only [Option.some.injEq, Prod.mk.injEq] at H
 obtain ⟨rfl, rfl⟩ := H
 obtain ⟨Ao9, ZI, Vm⟩ := bv HO_0.1
 subst Vm
 go_wp2
 go_ret
 exact ⟨RF, pm (HO_0.1), BL HB.1, KL HK.1⟩
def dC.l0 : Nat -> List Int -> Int -> Int -> Option (Int)
 | 0, _, _, _ => none
 | k + 1, x0, x1, x5 => if x5 < (x0.length : Int) then (if 0 <= x5 then (if (rd x0 x5) = x1 then (dC.l0 k x0 (wrap64 (x1 + 1)) (wrap64 (x5 + 1))) else (some (-1))) else (none)) else (some x1)
def dC.f (k : Nat) (l0 : List Int) (a1 : Int) : Option (Int) := dC.l0 k l0 a1 0
theorem dC.mono_l : ∀ k, (∀ y0 y1 y2, dO (dC.l0 k y0 y1 y2) (dC.l0 (k + 1) y0 y1 y2))
 | 0 => fun _ _ _ r h => by simp [dC.l0] at h
 | k + 1 => by
  have ja := dC.mono_l k
  intros
  first | unfold dC.l0
  exact BA ja
theorem dC.mono : ∀ a0 a1 k, dO (dC.f k a0 a1) (dC.f (k + 1) a0 a1) := by
 intro a0 a1 k
 have ja := dC.mono_l k
 unfold dC.f
 exact BA ja
theorem dC.calls (k : Nat) (A0 : Option Addr) (c0 : Nat) (l0 : List Int) (a1 : Int) (r : Int) (w : World) (hr0 : Kd.C (Kd.int .i64) w A0 l0.length l0) (hc0 : l0.length <= c0) (h : dC.f k l0 a1 = some r) :
 Calls Try.prog 29 #[.slice A0 l0.length c0, .int .i64 a1] w fun e w' => e = .returned (.int .i64 r) /\ lY w w' := by
 have DI := aa.mk hr0
 have ZU := aa.mk hc0
 clear hr0 hc0
 have H := h
 clear h
 unfold dC.f at H
 have H' := aa.mk H
 clear H
 go_enter Try.func29, Try.ntmps29
 go_wp2
 go_loopg [1, 5] k (fun kq v1 v5 w' => ∃ (uT : Int) (bq : Int), v1 = .int .i64 uT /\ v5 = .int .i64 bq /\ aa (dC.l0 kq l0 uT bq = some r) /\ aa (kq <= k) /\ lY w w')
 case atStart => exact ⟨(a1), (0), RG, RG, H', ⟨Nat.le_refl _⟩, DR⟩
 clear H'
 obtain ⟨uT, bq, rfl, rfl, HA, iB, ⟨m1, rfl⟩⟩ := hrel
 cases gk with
 | zero => exact absurd HA.1 (by simp [dC.l0])
 | succ k1 => ?_
 have H := HA.1
 clear HA
 simp only [dC.l0] at H
 replace H := pu H; rcases H with ⟨c3b0, H⟩ | ⟨c3b0, H⟩
 · replace H := ji H; obtain ⟨c4b0, H⟩ := H
   replace H := oP H; rcases H with ⟨c5, H⟩ | ⟨c5, H⟩
   · have c5b0 := beq_iff_eq.mpr c5
     have c5b1 := bne_eq_false_iff_eq.mpr c5
     clear c5
     have H' := aa.mk H
     clear H
     have SN : 0 <= (bq : Int) := OD
     have SS : bq < (l0.length : Int) := OD
     obtain ⟨arC, amt, aem⟩ := Kd.dx DI.1 bq SN SS
     cases amt
     replace SN := eq_true SN
     replace SS := eq_true SS
     go_wp2
     go_roundg k1
     case measure => have := iB.1; omega
     case rel => exact ⟨(wrap64 (uT + 1)), (wrap64 (bq + 1)), RG, RG, H', ⟨by have := iB.1; omega⟩, DR⟩
   have c5b0 := beq_eq_false_iff_ne.mpr c5
   have c5b1 := bne_iff_ne.mpr c5
   obtain rfl := Option.some.inj H
   have SN : 0 <= (bq : Int) := OD
   have SS : bq < (l0.length : Int) := OD
   obtain ⟨arC, amt, aem⟩ := Kd.dx DI.1 bq SN SS
   cases amt
   replace SN := eq_true SN
   replace SS := eq_true SS
   go_wp2
   go_ret
   exact ⟨RG, DR⟩
 obtain rfl := Option.some.inj H
 go_wp2
 go_ret
 exact ⟨RG, DR⟩
def jX.f (ah : Int) (af : Int) : Option (Bool) := if ah = 6 then (some true) else (some (ah == 7))
theorem jX.calls (ah : Int) (af : Int) (r : Bool) (w : World) (h : jX.f ah af = some r) :
 Calls Try.prog 91 #[.agg #[.int .i64 ah, .int .i64 af]] w fun e w' => e = .returned (.bool r) /\ Below w.heap.size w w' := by
 have xE := Try.underlying83
 have HB := aa.mk (Below.refl w.heap.size w)
 have H := h
 clear h
 unfold jX.f at H
 replace H := oP H; rcases H with ⟨c2, H⟩ | ⟨c2, H⟩
 · have c2b0 := beq_iff_eq.mpr c2
   have c2b1 := bne_eq_false_iff_eq.mpr c2
   clear c2
   obtain rfl := Option.some.inj H
   go_enter Try.func91, Try.ntmps91
   go_wp2_with (first | ((with_reducible refine aC (N := 1) rfl ?_); refine dN (cs := #[.int .i64 ah, .int .i64 af]) (t := 83) ?_; intro a7E hg w3 hbox hb; refine mJ HB.1 hg hbox hb ?_; clear HB; intro HB aYH a7F a7G; clear hb hbox hg; obtain ⟨Ao, Ap, Aq, Ar⟩ := nO aYH.1))
   go_ret
   exact ⟨RF, BL HB.1⟩
 have c2b0 := beq_eq_false_iff_ne.mpr c2
 have c2b1 := bne_iff_ne.mpr c2
 obtain rfl := Option.some.inj H
 go_enter Try.func91, Try.ntmps91
 go_wp2_with (first | ((with_reducible refine aC (N := 1) rfl ?_); refine dN (cs := #[.int .i64 ah, .int .i64 af]) (t := 83) ?_; intro a7E hg w5 hbox hb; refine mJ HB.1 hg hbox hb ?_; clear HB; intro HB aYH a7F a7G; clear hb hbox hg; obtain ⟨oL, oM, oN, oO⟩ := nO aYH.1))
 go_ret
 exact ⟨RF, BL HB.1⟩
mutual
def bH.j0 : Nat -> Int -> Int -> Int -> List Int -> Int -> Int -> List (fq) -> Option (List Int)
 | 0, _, _, _, _, _, _, _ => none
 | k + 1, x1, x5, x6, x7, aRY, aQj, aUt => if x6 > 0 then (if x7.length < 17592186044416 then (bH.j1 k x1 x5 x6 (x7 ++ [wrap64 (x1 - 1)]) aRY aQj aUt) else (none)) else (bH.j1 k x1 x5 x6 x7 aRY aQj aUt)
def bH.j1 : Nat -> Int -> Int -> Int -> List Int -> Int -> Int -> List (fq) -> Option (List Int)
 | 0, _, _, _, _, _, _, _ => none
 | k + 1, x1, x5, x6, x7, aRY, aQj, aUt => if (wrap64 (x6 + 1)) < aQj then (if x7.length < 17592186044416 then ((some (x7 ++ [wrap64 (x1 + 1)] : List Int)).bind fun aVl => (if (wrap64 (x5 + 1)) < aRY then (if aVl.length < 17592186044416 then (some (aVl ++ [wrap64 (x1 + aQj)])) else (none)) else (some aVl))) else (none)) else (if (wrap64 (x5 + 1)) < aRY then (if x7.length < 17592186044416 then (some (x7 ++ [wrap64 (x1 + aQj)])) else (none)) else (some x7))
end
def bH.f (k : Nat) (ah : Int) (af : Int) (ae : List (fq)) (a1 : Int) : Option (List Int) := if af = 0 then (none) else (if (wrap64 (Int.tdiv a1 af)) > 0 then (if ([] : List Int).length < 17592186044416 then (bH.j0 k a1 (wrap64 (Int.tdiv a1 af)) (Int.tmod a1 af) (([] : List Int) ++ [wrap64 (a1 - af)]) ah af ae) else (none)) else (bH.j0 k a1 (wrap64 (Int.tdiv a1 af)) (Int.tmod a1 af) ([] : List Int) ah af ae))
theorem bH.mono_l : ∀ k, (∀ y0 y1 y2 y3 y4 y5 y6, dO (bH.j0 k y0 y1 y2 y3 y4 y5 y6) (bH.j0 (k + 1) y0 y1 y2 y3 y4 y5 y6)) /\ (∀ y0 y1 y2 y3 y4 y5 y6, dO (bH.j1 k y0 y1 y2 y3 y4 y5 y6) (bH.j1 (k + 1) y0 y1 y2 y3 y4 y5 y6))
 | 0 => by refine ⟨?_, ?_⟩ <;> (intros; intro r h; first | (simp [bH.j0] at h; done) | (simp [bH.j1] at h; done))
 | k + 1 => by
  obtain ⟨ja, ih1⟩ := bH.mono_l k
  refine ⟨?_, ?_⟩ <;> (
   intros
   first | unfold bH.j0 | unfold bH.j1
   exact Qj ja ih1)
theorem bH.mono : ∀ a0 a1 a2 a3 k, dO (bH.f k a0 a1 a2 a3) (bH.f (k + 1) a0 a1 a2 a3) := by
 intro a0 a1 a2 a3 k
 obtain ⟨ja, ih1⟩ := bH.mono_l k
 unfold bH.f
 exact Qj ja ih1
theorem bH.calls (k : Nat) (ah : Int) (af : Int) (aK : Option Addr) (aJ : Nat) (ae : List (fq)) (a1 : Int) (r : List Int) (w : World) (dH : Kd.C jZ w aK ae.length ae) (dG : ae.length <= aJ) (h : bH.f k ah af ae a1 = some r) :
 Calls Try.prog 92 #[.agg #[.int .i64 ah, .int .i64 af, .slice aK ae.length aJ], .int .i64 a1] w fun e w' => ∃ rO : Value, e = .returned (rO) /\ Kd.R (Kd.int .i64) 3 w' w.heap.size (fun _ => True) rO r /\ Below w.heap.size w w' := by
 have nH := Try.underlying30
 have bD := aa.mk dH
 have cO := aa.mk dG
 clear dH dG
 have HB := aa.mk (Below.refl w.heap.size w)
 have H := h
 clear h
 unfold bH.f at H
 replace H := oP H; rcases H with ⟨c3, H⟩ | ⟨c3, H⟩
 · exact absurd H (by simp)
 have c3b0 := beq_eq_false_iff_ne.mpr c3
 have c3b1 := bne_iff_ne.mpr c3
 have HC4 := aa.mk H
 clear H
 go_enter Try.func92, Try.ntmps92
 go_upto_if 17 with (first | ((with_reducible refine aC (N := 2) rfl ?_); refine dN (cs := #[.int .i64 ah, .int .i64 af, .slice aK ae.length aJ]) (t := 30) ?_; intro aWL hg w5 hbox hb; refine mJ HB.1 hg hbox hb ?_; clear HB; intro HB aij a1y a1z; clear hb hbox hg; obtain ⟨oL, oM, tZ, oN, oO, uf⟩ := gB aij.1))
 repeat (go_quiet (first | ((with_reducible refine aC (N := 2) rfl ?_); refine dN (cs := #[.int .i64 ah, .int .i64 af, .slice aK ae.length aJ]) (t := 30) ?_; intro aWL hg w5 hbox hb; refine mJ HB.1 hg hbox hb ?_; clear HB; intro HB aij a1y a1z; clear hb hbox hg; obtain ⟨oL, oM, tZ, oN, oO, uf⟩ := gB aij.1)); go_upto_if 17 with (first | ((with_reducible refine aC (N := 2) rfl ?_); refine dN (cs := #[.int .i64 ah, .int .i64 af, .slice aK ae.length aJ]) (t := 30) ?_; intro aWL hg w5 hbox hb; refine mJ HB.1 hg hbox hb ?_; clear HB; intro HB aij a1y a1z; clear hb hbox hg; obtain ⟨oL, oM, tZ, oN, oO, uf⟩ := gB aij.1)))
 (try simp only [Act.put, List.setIfInBounds_toArray, List.set_cons_zero, List.set_cons_succ])
 go_cut [7] (fun v7 wc => ∃ (kq : Nat) (QM : List Int), aa (bH.j0 kq a1 (wrap64 (Int.tdiv a1 af)) (Int.tmod a1 af) QM ah af ae = some r) /\ aa (kq <= k) /\ aa (Kd.R (Kd.int .i64) 3 wc w.heap.size (fun _ => True) v7 QM) /\ aa (wc.heap[aWL]? = some (.cells #[.int .i64 ah, .int .i64 af, (.slice aK ae.length aJ)] 30 (0, 0))) /\ aa (Below w.heap.size w wc))
 case first =>
  have H := HC4.1
  clear HC4
  replace H := oP H; rcases H with ⟨c7, H⟩ | ⟨c7, H⟩
  · have c7b0 : decide (0 < (wrap64 (Int.tdiv a1 af))) = true := decide_eq_true c7
    clear c7
    (first | rw [c7b0] | (simp only [cz, dF]; rw [c7b0]) | skip)
    replace H := oC H; obtain ⟨c8, H⟩ := H
    have anl := aa.mk c8
    clear c8
    generalize a1A : ((([] : List Int) ++ [wrap64 (a1 - af)]) : List Int) = bbs at H
    have aYI := aa.mk a1A.symm; clear a1A
    have H' := aa.mk H
    clear H
    obtain ⟨Ej, El, NS, Em, En, NT⟩ := gB aij.1
    go_wp2_with (first | ((with_reducible refine bf (b := .append) (xs := #[.tmp 18, .tmp 23]) rfl ?_); at_builtin; refine ek (Kd.int .i64) (w0 := w) w.heap.size rfl (.tmp 18) (.tmp 23) 38 3 (.int .i64 0) 8 rfl Try.underlying38 info3 rfl (by decide) (by omega) (.slice none 0 0) ([] : List Int) (wrap64 (a1 - af)) [.int .i64 (wrap64 (a1 - af))] (fun _ => True) (fun _ => False) rfl rfl ?aP (fun _ hk => hk.elim) ?aF ?aO ?aB ?aS ?aL ?_; (case aP => exact rfl); (case aB => exact (BL HB.1)); (case aF => exact (fun _ _ => trivial)); (case aO => exact ((tO _ _ _ _ (fun _ => True)))); (case aS => exact (bZ HB.1)); (case aL => have := anl.1; omega); intro v139 Hw ho hb hg hat; rw [<- aYI.1] at ho; refine E3 (bG aij.1 hg (by simp [Value.ownBlock])) (hb) (ho) ?_; clear aij HB; intro aij HB aYJ; clear ho hb hg hat))
    repeat (go_quiet (first | ((with_reducible refine bf (b := .append) (xs := #[.tmp 18, .tmp 23]) rfl ?_); at_builtin; refine ek (Kd.int .i64) (w0 := w) w.heap.size rfl (.tmp 18) (.tmp 23) 38 3 (.int .i64 0) 8 rfl Try.underlying38 info3 rfl (by decide) (by omega) (.slice none 0 0) ([] : List Int) (wrap64 (a1 - af)) [.int .i64 (wrap64 (a1 - af))] (fun _ => True) (fun _ => False) rfl rfl ?aP (fun _ hk => hk.elim) ?aF ?aO ?aB ?aS ?aL ?_; (case aP => exact rfl); (case aB => exact (BL HB.1)); (case aF => exact (fun _ _ => trivial)); (case aO => exact ((tO _ _ _ _ (fun _ => True)))); (case aS => exact (bZ HB.1)); (case aL => have := anl.1; omega); intro v139 Hw ho hb hg hat; rw [<- aYI.1] at ho; refine E3 (bG aij.1 hg (by simp [Value.ownBlock])) (hb) (ho) ?_; clear aij HB; intro aij HB aYJ; clear ho hb hg hat)); try go_wp2_with (first | ((with_reducible refine bf (b := .append) (xs := #[.tmp 18, .tmp 23]) rfl ?_); at_builtin; refine ek (Kd.int .i64) (w0 := w) w.heap.size rfl (.tmp 18) (.tmp 23) 38 3 (.int .i64 0) 8 rfl Try.underlying38 info3 rfl (by decide) (by omega) (.slice none 0 0) ([] : List Int) (wrap64 (a1 - af)) [.int .i64 (wrap64 (a1 - af))] (fun _ => True) (fun _ => False) rfl rfl ?aP (fun _ hk => hk.elim) ?aF ?aO ?aB ?aS ?aL ?_; (case aP => exact rfl); (case aB => exact (BL HB.1)); (case aF => exact (fun _ _ => trivial)); (case aO => exact ((tO _ _ _ _ (fun _ => True)))); (case aS => exact (bZ HB.1)); (case aL => have := anl.1; omega); intro v139 Hw ho hb hg hat; rw [<- aYI.1] at ho; refine E3 (bG aij.1 hg (by simp [Value.ownBlock])) (hb) (ho) ?_; clear aij HB; intro aij HB aYJ; clear ho hb hg hat)))
    go_meet
    case rel => exact ⟨_, (bbs), H', ⟨by first | omega | exact Nat.le_refl _⟩, ⟨PR aYJ.1⟩, ⟨PB aij.1⟩, ⟨BL HB.1⟩⟩
  have c7b0 : decide (0 < (wrap64 (Int.tdiv a1 af))) = false := decide_eq_false c7
  clear c7
  (first | rw [c7b0] | (simp only [cz, dF]; rw [c7b0]) | skip)
  have H' := aa.mk H
  clear H
  go_wp2
  repeat (go_quiet (fail); try go_wp2)
  go_meet
  case rel => exact ⟨_, (([] : List Int)), H', ⟨by first | omega | exact Nat.le_refl _⟩, ⟨by first | exact tO _ _ _ _ _ | exact ET _ _ _ _ _ | exact EU _ _ _ _ _ | exact EW _ _ _ _ _ | exact EY _ _ _ _ _⟩, ⟨PB aij.1⟩, ⟨BL HB.1⟩⟩
 clear HC4
 try clear c3; clear c3b0 c3b1 oL oM tZ oN oO uf
 obtain ⟨kq, QM, HA, HJ3, HO_7, aij, HB⟩ := hcut
 cases kq with
 | zero => exact absurd HA.1 (by simp [bH.j0])
 | succ kj3 => ?_
 have H := HA.1
 clear HA
 simp only [bH.j0] at H
 have anm := aa.mk H
 clear H
 go_upto_if 26 with (fail)
 repeat (go_quiet (fail); go_upto_if 26 with (fail))
 go_cut [7] (fun v7 wc => ∃ (kq : Nat) (yX : List Int), aa (bH.j1 kq a1 (wrap64 (Int.tdiv a1 af)) (Int.tmod a1 af) yX ah af ae = some r) /\ aa (kq <= kj3) /\ aa (Kd.R (Kd.int .i64) 3 wc w.heap.size (fun _ => True) v7 yX) /\ aa (wc.heap[aWL]? = some (.cells #[.int .i64 ah, .int .i64 af, (.slice aK ae.length aJ)] 30 (0, 0))) /\ aa (Below w.heap.size w wc))
 case first =>
  have H := anm.1
  clear anm
  replace H := oP H; rcases H with ⟨c12, H⟩ | ⟨c12, H⟩
  · have c12b0 : decide (0 < (Int.tmod a1 af)) = true := decide_eq_true c12
    clear c12
    (first | rw [c12b0] | (simp only [cz, dF]; rw [c12b0]) | skip)
    replace H := oC H; obtain ⟨c13, H⟩ := H
    have QN := aa.mk c13
    clear c13
    generalize a1B : ((QM ++ [wrap64 (a1 - 1)]) : List Int) = bbt at H
    have aYK := aa.mk a1B.symm; clear a1B
    have H' := aa.mk H
    clear H
    go_wp2_with (first | ((with_reducible refine bf (b := .append) (xs := #[.tmp 27, .tmp 30]) rfl ?_); at_builtin; refine ek (Kd.int .i64) (w0 := w) w.heap.size rfl (.tmp 27) (.tmp 30) 38 3 (.int .i64 0) 8 rfl Try.underlying38 info3 rfl (by decide) (by omega) u7 QM (wrap64 (a1 - 1)) [.int .i64 (wrap64 (a1 - 1))] (fun _ => True) (fun _ => False) rfl rfl ?aP (fun _ hk => hk.elim) ?aF ?aO ?aB ?aS ?aL ?_; (case aP => exact rfl); (case aB => exact (BL HB.1)); (case aF => exact (fun _ _ => trivial)); (case aO => exact (PR HO_7.1)); (case aS => exact (bZ HB.1)); (case aL => have := QN.1; omega); intro a7H yM ho hb hg hat; rw [<- aYK.1] at ho; refine E3 (bG aij.1 hg (dK HO_7.1 aij.1 (by decide))) (hb) (ho) ?_; clear aij HB HO_7; intro aij HB aYL; clear ho hb hg hat))
    repeat (go_quiet (first | ((with_reducible refine bf (b := .append) (xs := #[.tmp 27, .tmp 30]) rfl ?_); at_builtin; refine ek (Kd.int .i64) (w0 := w) w.heap.size rfl (.tmp 27) (.tmp 30) 38 3 (.int .i64 0) 8 rfl Try.underlying38 info3 rfl (by decide) (by omega) u7 QM (wrap64 (a1 - 1)) [.int .i64 (wrap64 (a1 - 1))] (fun _ => True) (fun _ => False) rfl rfl ?aP (fun _ hk => hk.elim) ?aF ?aO ?aB ?aS ?aL ?_; (case aP => exact rfl); (case aB => exact (BL HB.1)); (case aF => exact (fun _ _ => trivial)); (case aO => exact (PR HO_7.1)); (case aS => exact (bZ HB.1)); (case aL => have := QN.1; omega); intro a7H yM ho hb hg hat; rw [<- aYK.1] at ho; refine E3 (bG aij.1 hg (dK HO_7.1 aij.1 (by decide))) (hb) (ho) ?_; clear aij HB HO_7; intro aij HB aYL; clear ho hb hg hat)); try go_wp2_with (first | ((with_reducible refine bf (b := .append) (xs := #[.tmp 27, .tmp 30]) rfl ?_); at_builtin; refine ek (Kd.int .i64) (w0 := w) w.heap.size rfl (.tmp 27) (.tmp 30) 38 3 (.int .i64 0) 8 rfl Try.underlying38 info3 rfl (by decide) (by omega) u7 QM (wrap64 (a1 - 1)) [.int .i64 (wrap64 (a1 - 1))] (fun _ => True) (fun _ => False) rfl rfl ?aP (fun _ hk => hk.elim) ?aF ?aO ?aB ?aS ?aL ?_; (case aP => exact rfl); (case aB => exact (BL HB.1)); (case aF => exact (fun _ _ => trivial)); (case aO => exact (PR HO_7.1)); (case aS => exact (bZ HB.1)); (case aL => have := QN.1; omega); intro a7H yM ho hb hg hat; rw [<- aYK.1] at ho; refine E3 (bG aij.1 hg (dK HO_7.1 aij.1 (by decide))) (hb) (ho) ?_; clear aij HB HO_7; intro aij HB aYL; clear ho hb hg hat)))
    go_meet
    case rel => exact ⟨_, (bbt), H', ⟨by have := HJ3.1; first | omega | exact Nat.le_refl _⟩, ⟨PR aYL.1⟩, ⟨PB aij.1⟩, ⟨BL HB.1⟩⟩
  have c12b0 : decide (0 < (Int.tmod a1 af)) = false := decide_eq_false c12
  clear c12
  (first | rw [c12b0] | (simp only [cz, dF]; rw [c12b0]) | skip)
  have H' := aa.mk H
  clear H
  go_wp2
  repeat (go_quiet (fail); try go_wp2)
  go_meet
  case rel => exact ⟨_, (QM), H', ⟨by have := HJ3.1; first | omega | exact Nat.le_refl _⟩, ⟨PR HO_7.1⟩, ⟨PB aij.1⟩, ⟨BL HB.1⟩⟩
 clear anm
 obtain ⟨kq, yX, HA, aOh, HO_7, aij, HB⟩ := hcut
 cases kq with
 | zero => exact absurd HA.1 (by simp [bH.j1])
 | succ aOi => ?_
 have H := HA.1
 clear HA
 simp only [bH.j1] at H
 replace H := pu H; rcases H with ⟨c15b0, H⟩ | ⟨c15b0, H⟩
 · replace H := oC H; obtain ⟨c16, H⟩ := H
   have Na := aa.mk c16
   clear c16
   replace H := nR H; obtain ⟨aVl, aT7, H⟩ := H
   replace H := pu H; rcases H with ⟨c17b0, H⟩ | ⟨c17b0, H⟩
   · replace H := oC H; obtain ⟨c18, H⟩ := H
     have D7 := aa.mk c18
     clear c18
     generalize a1C : ((aVl ++ [wrap64 (a1 + af)]) : List Int) = bgv at H
     have aYM := aa.mk a1C.symm; clear a1C
     obtain rfl := Option.some.inj H
     obtain ⟨FD, FE, OA, FF, FH, OB⟩ := gB aij.1
     go_wp2_with (first | ((with_reducible refine bf (b := .append) (xs := #[.tmp 37, .tmp 40]) rfl ?_); at_builtin; refine ek (Kd.int .i64) (w0 := w) w.heap.size rfl (.tmp 37) (.tmp 40) 38 3 (.int .i64 0) 8 rfl Try.underlying38 info3 rfl (by decide) (by omega) u7 yX (wrap64 (a1 + 1)) [.int .i64 (wrap64 (a1 + 1))] (fun _ => True) (fun _ => False) rfl rfl ?aP (fun _ hk => hk.elim) ?aF ?aO ?aB ?aS ?aL ?_; (case aP => exact rfl); (case aB => exact (BL HB.1)); (case aF => exact (fun _ _ => trivial)); (case aO => exact (PR HO_7.1)); (case aS => exact (bZ HB.1)); (case aL => have := Na.1; omega); intro v145 ZJ ho hb hg hat; rw [<- aT7.1] at ho; refine E3 (bG aij.1 hg (dK HO_7.1 aij.1 (by decide))) (hb) (ho) ?_; clear aij HB HO_7; intro aij HB aJz; clear ho hb hg hat; obtain ⟨uJ, uK, xK, uL, uM, xL⟩ := gB aij.1) | ((with_reducible refine bf (b := .append) (xs := #[.tmp 47, .tmp 52]) rfl ?_); at_builtin; refine ek (Kd.int .i64) (w0 := w) w.heap.size rfl (.tmp 47) (.tmp 52) 38 3 (.int .i64 0) 8 rfl Try.underlying38 info3 rfl (by decide) (by omega) v145 aVl (wrap64 (a1 + af)) [.int .i64 (wrap64 (a1 + af))] (fun _ => True) (fun _ => False) rfl rfl ?aP (fun _ hk => hk.elim) ?aF ?aO ?aB ?aS ?aL ?_; (case aP => exact rfl); (case aB => exact (BL HB.1)); (case aF => exact (fun _ _ => trivial)); (case aO => exact (PR aJz.1)); (case aS => exact (bZ HB.1)); (case aL => have := D7.1; omega); intro v148 BM ho hb hg hat; rw [<- aYM.1] at ho; refine E3 (bG aij.1 hg (dK aJz.1 aij.1 (by decide))) (hb) (ho) ?_; clear aij HB aJz; intro aij HB aYN; clear ho hb hg hat))
     repeat (go_quiet (first | ((with_reducible refine bf (b := .append) (xs := #[.tmp 37, .tmp 40]) rfl ?_); at_builtin; refine ek (Kd.int .i64) (w0 := w) w.heap.size rfl (.tmp 37) (.tmp 40) 38 3 (.int .i64 0) 8 rfl Try.underlying38 info3 rfl (by decide) (by omega) u7 yX (wrap64 (a1 + 1)) [.int .i64 (wrap64 (a1 + 1))] (fun _ => True) (fun _ => False) rfl rfl ?aP (fun _ hk => hk.elim) ?aF ?aO ?aB ?aS ?aL ?_; (case aP => exact rfl); (case aB => exact (BL HB.1)); (case aF => exact (fun _ _ => trivial)); (case aO => exact (PR HO_7.1)); (case aS => exact (bZ HB.1)); (case aL => have := Na.1; omega); intro v145 ZJ ho hb hg hat; rw [<- aT7.1] at ho; refine E3 (bG aij.1 hg (dK HO_7.1 aij.1 (by decide))) (hb) (ho) ?_; clear aij HB HO_7; intro aij HB aJz; clear ho hb hg hat; obtain ⟨uJ, uK, xK, uL, uM, xL⟩ := gB aij.1) | ((with_reducible refine bf (b := .append) (xs := #[.tmp 47, .tmp 52]) rfl ?_); at_builtin; refine ek (Kd.int .i64) (w0 := w) w.heap.size rfl (.tmp 47) (.tmp 52) 38 3 (.int .i64 0) 8 rfl Try.underlying38 info3 rfl (by decide) (by omega) v145 aVl (wrap64 (a1 + af)) [.int .i64 (wrap64 (a1 + af))] (fun _ => True) (fun _ => False) rfl rfl ?aP (fun _ hk => hk.elim) ?aF ?aO ?aB ?aS ?aL ?_; (case aP => exact rfl); (case aB => exact (BL HB.1)); (case aF => exact (fun _ _ => trivial)); (case aO => exact (PR aJz.1)); (case aS => exact (bZ HB.1)); (case aL => have := D7.1; omega); intro v148 BM ho hb hg hat; rw [<- aYM.1] at ho; refine E3 (bG aij.1 hg (dK aJz.1 aij.1 (by decide))) (hb) (ho) ?_; clear aij HB aJz; intro aij HB aYN; clear ho hb hg hat)); try go_wp2_with (first | ((with_reducible refine bf (b := .append) (xs := #[.tmp 37, .tmp 40]) rfl ?_); at_builtin; refine ek (Kd.int .i64) (w0 := w) w.heap.size rfl (.tmp 37) (.tmp 40) 38 3 (.int .i64 0) 8 rfl Try.underlying38 info3 rfl (by decide) (by omega) u7 yX (wrap64 (a1 + 1)) [.int .i64 (wrap64 (a1 + 1))] (fun _ => True) (fun _ => False) rfl rfl ?aP (fun _ hk => hk.elim) ?aF ?aO ?aB ?aS ?aL ?_; (case aP => exact rfl); (case aB => exact (BL HB.1)); (case aF => exact (fun _ _ => trivial)); (case aO => exact (PR HO_7.1)); (case aS => exact (bZ HB.1)); (case aL => have := Na.1; omega); intro v145 ZJ ho hb hg hat; rw [<- aT7.1] at ho; refine E3 (bG aij.1 hg (dK HO_7.1 aij.1 (by decide))) (hb) (ho) ?_; clear aij HB HO_7; intro aij HB aJz; clear ho hb hg hat; obtain ⟨uJ, uK, xK, uL, uM, xL⟩ := gB aij.1) | ((with_reducible refine bf (b := .append) (xs := #[.tmp 47, .tmp 52]) rfl ?_); at_builtin; refine ek (Kd.int .i64) (w0 := w) w.heap.size rfl (.tmp 47) (.tmp 52) 38 3 (.int .i64 0) 8 rfl Try.underlying38 info3 rfl (by decide) (by omega) v145 aVl (wrap64 (a1 + af)) [.int .i64 (wrap64 (a1 + af))] (fun _ => True) (fun _ => False) rfl rfl ?aP (fun _ hk => hk.elim) ?aF ?aO ?aB ?aS ?aL ?_; (case aP => exact rfl); (case aB => exact (BL HB.1)); (case aF => exact (fun _ _ => trivial)); (case aO => exact (PR aJz.1)); (case aS => exact (bZ HB.1)); (case aL => have := D7.1; omega); intro v148 BM ho hb hg hat; rw [<- aYM.1] at ho; refine E3 (bG aij.1 hg (dK aJz.1 aij.1 (by decide))) (hb) (ho) ?_; clear aij HB aJz; intro aij HB aYN; clear ho hb hg hat)))
     go_ret
     exact ⟨_, RF, pm (aYN.1), BL HB.1⟩
   obtain rfl := Option.some.inj H
   obtain ⟨FI, FJ, FL, FM, FN, FO⟩ := gB aij.1
   go_wp2_with (first | ((with_reducible refine bf (b := .append) (xs := #[.tmp 37, .tmp 40]) rfl ?_); at_builtin; refine ek (Kd.int .i64) (w0 := w) w.heap.size rfl (.tmp 37) (.tmp 40) 38 3 (.int .i64 0) 8 rfl Try.underlying38 info3 rfl (by decide) (by omega) u7 yX (wrap64 (a1 + 1)) [.int .i64 (wrap64 (a1 + 1))] (fun _ => True) (fun _ => False) rfl rfl ?aP (fun _ hk => hk.elim) ?aF ?aO ?aB ?aS ?aL ?_; (case aP => exact rfl); (case aB => exact (BL HB.1)); (case aF => exact (fun _ _ => trivial)); (case aO => exact (PR HO_7.1)); (case aS => exact (bZ HB.1)); (case aL => have := Na.1; omega); intro v145 Mi ho hb hg hat; rw [<- aT7.1] at ho; refine E3 (bG aij.1 hg (dK HO_7.1 aij.1 (by decide))) (hb) (ho) ?_; clear aij HB HO_7; intro aij HB aJz; clear ho hb hg hat; obtain ⟨CQ, CR, JB, CS, CU, JC⟩ := gB aij.1))
   repeat (go_quiet (first | ((with_reducible refine bf (b := .append) (xs := #[.tmp 37, .tmp 40]) rfl ?_); at_builtin; refine ek (Kd.int .i64) (w0 := w) w.heap.size rfl (.tmp 37) (.tmp 40) 38 3 (.int .i64 0) 8 rfl Try.underlying38 info3 rfl (by decide) (by omega) u7 yX (wrap64 (a1 + 1)) [.int .i64 (wrap64 (a1 + 1))] (fun _ => True) (fun _ => False) rfl rfl ?aP (fun _ hk => hk.elim) ?aF ?aO ?aB ?aS ?aL ?_; (case aP => exact rfl); (case aB => exact (BL HB.1)); (case aF => exact (fun _ _ => trivial)); (case aO => exact (PR HO_7.1)); (case aS => exact (bZ HB.1)); (case aL => have := Na.1; omega); intro v145 Mi ho hb hg hat; rw [<- aT7.1] at ho; refine E3 (bG aij.1 hg (dK HO_7.1 aij.1 (by decide))) (hb) (ho) ?_; clear aij HB HO_7; intro aij HB aJz; clear ho hb hg hat; obtain ⟨CQ, CR, JB, CS, CU, JC⟩ := gB aij.1)); try go_wp2_with (first | ((with_reducible refine bf (b := .append) (xs := #[.tmp 37, .tmp 40]) rfl ?_); at_builtin; refine ek (Kd.int .i64) (w0 := w) w.heap.size rfl (.tmp 37) (.tmp 40) 38 3 (.int .i64 0) 8 rfl Try.underlying38 info3 rfl (by decide) (by omega) u7 yX (wrap64 (a1 + 1)) [.int .i64 (wrap64 (a1 + 1))] (fun _ => True) (fun _ => False) rfl rfl ?aP (fun _ hk => hk.elim) ?aF ?aO ?aB ?aS ?aL ?_; (case aP => exact rfl); (case aB => exact (BL HB.1)); (case aF => exact (fun _ _ => trivial)); (case aO => exact (PR HO_7.1)); (case aS => exact (bZ HB.1)); (case aL => have := Na.1; omega); intro v145 Mi ho hb hg hat; rw [<- aT7.1] at ho; refine E3 (bG aij.1 hg (dK HO_7.1 aij.1 (by decide))) (hb) (ho) ?_; clear aij HB HO_7; intro aij HB aJz; clear ho hb hg hat; obtain ⟨CQ, CR, JB, CS, CU, JC⟩ := gB aij.1)))
   go_ret
   exact ⟨_, RF, pm (aJz.1), BL HB.1⟩
 replace H := pu H; rcases H with ⟨c26b0, H⟩ | ⟨c26b0, H⟩
 · replace H := oC H; obtain ⟨SE, H⟩ := H
   have QP := aa.mk SE
   clear SE
   generalize hy150 : ((yX ++ [wrap64 (a1 + af)]) : List Int) = y150 at H
   have aYO := aa.mk hy150.symm; clear hy150
   obtain rfl := Option.some.inj H
   obtain ⟨VR, VS, VT, VU, VV, VW⟩ := gB aij.1
   go_wp2_with (first | ((with_reducible refine bf (b := .append) (xs := #[.tmp 47, .tmp 52]) rfl ?_); at_builtin; refine ek (Kd.int .i64) (w0 := w) w.heap.size rfl (.tmp 47) (.tmp 52) 38 3 (.int .i64 0) 8 rfl Try.underlying38 info3 rfl (by decide) (by omega) u7 yX (wrap64 (a1 + af)) [.int .i64 (wrap64 (a1 + af))] (fun _ => True) (fun _ => False) rfl rfl ?aP (fun _ hk => hk.elim) ?aF ?aO ?aB ?aS ?aL ?_; (case aP => exact rfl); (case aB => exact (BL HB.1)); (case aF => exact (fun _ _ => trivial)); (case aO => exact (PR HO_7.1)); (case aS => exact (bZ HB.1)); (case aL => have := QP.1; omega); intro a7I w29 ho hb hg hat; rw [<- aYO.1] at ho; refine E3 (bG aij.1 hg (dK HO_7.1 aij.1 (by decide))) (hb) (ho) ?_; clear aij HB HO_7; intro aij HB aYP; clear ho hb hg hat))
   repeat (go_quiet (first | ((with_reducible refine bf (b := .append) (xs := #[.tmp 47, .tmp 52]) rfl ?_); at_builtin; refine ek (Kd.int .i64) (w0 := w) w.heap.size rfl (.tmp 47) (.tmp 52) 38 3 (.int .i64 0) 8 rfl Try.underlying38 info3 rfl (by decide) (by omega) u7 yX (wrap64 (a1 + af)) [.int .i64 (wrap64 (a1 + af))] (fun _ => True) (fun _ => False) rfl rfl ?aP (fun _ hk => hk.elim) ?aF ?aO ?aB ?aS ?aL ?_; (case aP => exact rfl); (case aB => exact (BL HB.1)); (case aF => exact (fun _ _ => trivial)); (case aO => exact (PR HO_7.1)); (case aS => exact (bZ HB.1)); (case aL => have := QP.1; omega); intro a7I w29 ho hb hg hat; rw [<- aYO.1] at ho; refine E3 (bG aij.1 hg (dK HO_7.1 aij.1 (by decide))) (hb) (ho) ?_; clear aij HB HO_7; intro aij HB aYP; clear ho hb hg hat)); try go_wp2_with (first | ((with_reducible refine bf (b := .append) (xs := #[.tmp 47, .tmp 52]) rfl ?_); at_builtin; refine ek (Kd.int .i64) (w0 := w) w.heap.size rfl (.tmp 47) (.tmp 52) 38 3 (.int .i64 0) 8 rfl Try.underlying38 info3 rfl (by decide) (by omega) u7 yX (wrap64 (a1 + af)) [.int .i64 (wrap64 (a1 + af))] (fun _ => True) (fun _ => False) rfl rfl ?aP (fun _ hk => hk.elim) ?aF ?aO ?aB ?aS ?aL ?_; (case aP => exact rfl); (case aB => exact (BL HB.1)); (case aF => exact (fun _ _ => trivial)); (case aO => exact (PR HO_7.1)); (case aS => exact (bZ HB.1)); (case aL => have := QP.1; omega); intro a7I w29 ho hb hg hat; rw [<- aYO.1] at ho; refine E3 (bG aij.1 hg (dK HO_7.1 aij.1 (by decide))) (hb) (ho) ?_; clear aij HB HO_7; intro aij HB aYP; clear ho hb hg hat)))
   go_ret
   exact ⟨_, RF, pm (aYP.1), BL HB.1⟩
 obtain rfl := Option.some.inj H
 obtain ⟨zV, zW, Fh, zX, zY, Fj⟩ := gB aij.1
 go_wp2
 repeat (go_quiet (fail); try go_wp2)
 go_ret
 exact ⟨_, RF, pm (HO_7.1), BL HB.1⟩
end Go.Proofs.Ytbpfdbjnnlmdjaa.P
