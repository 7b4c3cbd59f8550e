--MINI
import Derived.Test.YtbpfdbjnnlmdjaaPx0
namespace Go.Proofs.Ytbpfdbjnnlmdjaa.P
open Go.RowKit Go.Proofs.YtbpfdbjnnlmdjaaW.PrintWords Go.Proofs.YtbpfdbjnnlmdjaaW.PrintLast Go.Proofs.YtbpfdbjnnlmdjaaW.PrintMore
attribute [local go_sem] rQ rR vR vS pO pQ rT rU
set_option linter.unusedVariables false
set_option linter.unusedSimpArgs false
set_option maxHeartbeats 8000000
set_option maxRecDepth 100000
open Kd
def mZ.f (l0 : List (Ei)) (a1 : Int) : Option (Int) := if (wrap64 (a1 - (l0.length : Int))) < 0 then (some (-1)) else (some (wrap64 (a1 - (l0.length : Int))))
theorem mZ.calls (A0 : Option Addr) (c0 : Nat) (l0 : List (Ei)) (a1 : Int) (r : Int) (w : World) (hr0 : Kd.C Vi w A0 l0.length l0) (hc0 : l0.length <= c0) (h : mZ.f l0 a1 = some r) :
 Calls Try.prog 41 #[.slice A0 l0.length c0, .int .i64 a1] w fun e w' => e = .returned (.int .i64 r) /\ lY w w' := by
 have DI := aa.mk hr0
 have ZU := aa.mk hc0
 clear hr0 hc0
 have H := h
 clear h
 unfold mZ.f at H
 replace H := pu H; rcases H with ⟨c3b0, H⟩ | ⟨c3b0, H⟩
 · obtain rfl := Option.some.inj H
   go_enter Try.func41, Try.ntmps41
   go_wp2
   go_ret
   exact ⟨RG, DR⟩
 obtain rfl := Option.some.inj H
 go_enter Try.func41, Try.ntmps41
 go_wp2
 go_ret
 exact ⟨RG, DR⟩
def kL.f (ah : Int) (af : Int) (ae : List (Ei)) (a1 : Int) : Option (Int) := (mZ.f ae a1).bind fun aaA => (if aaA < 0 then (some (-1)) else (some aaA))
theorem kL.calls (ah : Int) (af : Int) (aK : Option Addr) (aJ : Nat) (ae : List (Ei)) (a1 : Int) (r : Int) (w : World) (dH : Kd.C Vi w aK ae.length ae) (dG : ae.length <= aJ) (h : kL.f ah af ae a1 = some r) :
 Calls Try.prog 13 #[.agg #[.int .i64 ah, .int .i64 af, .slice aK ae.length aJ], .int .i64 a1] w fun e w' => e = .returned (.int .i64 r) /\ Below w.heap.size w w' := by
 have amx := Try.underlying24
 have bD := aa.mk dH
 have cO := aa.mk dG
 clear dH dG
 have HB := aa.mk (Below.refl w.heap.size w)
 have H := h
 clear h
 unfold kL.f at H
 replace H := dz H; obtain ⟨aaA, A3, H⟩ := H
 replace H := pu H; rcases H with ⟨c4b0, H⟩ | ⟨c4b0, H⟩
 · obtain rfl := Option.some.inj H
   go_enter Try.func13, Try.ntmps13
   go_wp2_with (first | ((with_reducible refine aC (N := 2) rfl ?_); refine dN (cs := #[.int .i64 ah, .int .i64 af, .slice aK ae.length aJ]) (t := 24) ?_; intro asq hg w5 hbox hb; refine mJ HB.1 hg hbox hb ?_; clear HB; intro HB aaB asr ass; clear hb hbox hg; obtain ⟨oL, oM, tZ, oN, oO, uf⟩ := gB aaB.1) | ((with_reducible refine aA (f := 41) rfl ?_); refine cK (N := (some 8)) #[.slice aK ae.length aJ, .int .i64 a1] Try.func41 ?_; (with_reducible refine (mZ.calls _ _ ae a1 aaA _ ?side1 ?side2 A3.1).mono ?_); (case side1 => exact CB (aY bD.1 HB.1)); (case side2 => exact cO.1); rintro e w' ⟨rfl, ⟨nd, rfl⟩⟩; refine ⟨_, rfl, ?_⟩))
   go_ret
   exact ⟨RF, BL HB.1⟩
 obtain rfl := Option.some.inj H
 go_enter Try.func13, Try.ntmps13
 go_wp2_with (first | ((with_reducible refine aC (N := 2) rfl ?_); refine dN (cs := #[.int .i64 ah, .int .i64 af, .slice aK ae.length aJ]) (t := 24) ?_; intro asq hg w7 hbox hb; refine mJ HB.1 hg hbox hb ?_; clear HB; intro HB aaB asr ass; clear hb hbox hg; obtain ⟨lZ, l5, mR, l6, l7, mU⟩ := gB aaB.1) | ((with_reducible refine aA (f := 41) rfl ?_); refine cK (N := (some 8)) #[.slice aK ae.length aJ, .int .i64 a1] Try.func41 ?_; (with_reducible refine (mZ.calls _ _ ae a1 aaA _ ?side1 ?side2 A3.1).mono ?_); (case side1 => exact CB (aY bD.1 HB.1)); (case side2 => exact cO.1); rintro e w' ⟨rfl, ⟨nd, rfl⟩⟩; refine ⟨_, rfl, ?_⟩))
 go_ret
 exact ⟨RF, BL HB.1⟩
def qY.f (ah : Int) (af : Int) : Option (Int × Int) := some (ah, af)
theorem qY.calls (ah : Int) (af : Int) (r1 : Int) (r2 : Int) (w : World) (h : qY.f ah af = some (r1, r2)) :
 Calls Try.prog 72 #[.agg #[.int .i64 ah, .int .i64 af]] w fun e w' => e = .returned (.agg #[.int .i64 r1, .int .i64 r2]) /\ Below w.heap.size w w' := by
 have aEf := Try.underlying85
 have xE := Try.underlying83
 have HB := aa.mk (Below.refl w.heap.size w)
 have H := h
 clear h
 unfold qY.f at H
 simp only [Option.some.injEq, Prod.mk.injEq] at H
 obtain ⟨rfl, rfl⟩ := H
 go_enter Try.func72, Try.ntmps72
 go_wp2_with (first | ((with_reducible refine aC (N := 1) rfl ?_); refine dN (cs := #[.int .i64 ah, .int .i64 af]) (t := 85) ?_; intro aIS hg w2 hbox hb; refine mJ HB.1 hg hbox hb ?_; clear HB; intro HB BZ aIT aIU; clear hb hbox hg) | ((with_reducible refine aC (N := 2) rfl ?_); refine dN (cs := #[.int .i64 0, .int .i64 0]) (t := 83) ?_; intro ast hg w3 hbox hb; refine E7 (bB BZ.1 hb) (bS HB.1 hb) (hbox) (gX HB.1 hg) (gX HB.1 hg) (nB BZ.1 hg) (nC BZ.1 hg) ?_; clear BZ HB; intro BZ HB KQ aIV aIW Yg Yh; clear hb hbox hg) | ((with_reducible refine aC (N := 3) rfl ?_); refine dN (cs := #[.int .i64 0, .int .i64 0]) (t := 83) ?_; intro aIX hg w4 hbox hb; refine E10 (bB BZ.1 hb) (bB KQ.1 hb) (bS HB.1 hb) (hbox) (gX HB.1 hg) (gX HB.1 hg) (nB BZ.1 hg) (nC BZ.1 hg) (nB KQ.1 hg) (nC KQ.1 hg) ?_; clear BZ KQ HB; intro BZ KQ HB asu aIY aIZ Yi Yj M7 Yk; clear hb hbox hg; have aOa := Yg.1; have aOb := Yh.1; have asv := Yi.1; have asw := Yj.1; obtain ⟨NN, NP, NQ, NR⟩ := nO BZ.1; have aEg := Yk.1; have aEh := M7.1; obtain ⟨Ej, El, Em, En⟩ := nO asu.1; obtain ⟨pR, pU, pV, pW⟩ := nO KQ.1))
 refine bodyPost_ret (results_cell_row rfl _ _ ast 83 #[.int .i64 ah, .int .i64 af] (0, 0) _ rfl (xB M7.1 KQ.1) Try.underlying83 rfl (by kernel_rfl)) rfl ?_
 exact ⟨RF, BL HB.1⟩
def dZ.l0 : Nat -> List (Ei) -> List (fq) -> Int -> Option ((List (fq)))
 | 0, _, _, _ => none
 | k + 1, x0, x3, x4 => if x4 < (x0.length : Int) then (if 0 <= x4 then ((qY.f ((yE x0 x4).f0) ((yE x0 x4).f1)).bind fun aiq => (if x4 < (x3.length : Int) then (dZ.l0 k x0 (x3.set (x4 : Int).toNat (⟨aiq.1, aiq.2⟩ : fq)) (wrap64 (x4 + 1))) else (none))) else (none)) else (some x3)
def dZ.f (k : Nat) (l0 : List (Ei)) : Option ((List (fq))) := if 0 <= (l0.length : Int) then (if ((l0.length : Int) : Int).toNat <= 17592186044416 then (dZ.l0 k l0 (List.replicate ((l0.length : Int) : Int).toNat z83) 0) else (none)) else (none)
theorem dZ.mono_l : ∀ k, (∀ y0 y1 y2, dO (dZ.l0 k y0 y1 y2) (dZ.l0 (k + 1) y0 y1 y2))
 | 0 => fun _ _ _ r h => by simp [dZ.l0] at h
 | k + 1 => by
  have ja := dZ.mono_l k
  intros
  first | unfold dZ.l0
  exact BA ja
theorem dZ.mono : ∀ a0 k, dO (dZ.f k a0) (dZ.f (k + 1) a0) := by
 intro a0 k
 have ja := dZ.mono_l k
 unfold dZ.f
 exact BA ja
theorem dZ.calls (k : Nat) (A0 : Option Addr) (c0 : Nat) (l0 : List (Ei)) (r : List (fq)) (w : World) (hr0 : Kd.C Vi w A0 l0.length l0) (hc0 : l0.length <= c0) (h : dZ.f k l0 = some r) :
 Calls Try.prog 45 #[.slice A0 l0.length c0] w fun e w' => ∃ rO : Value, e = .returned (rO) /\ Kd.R jZ 83 w' w.heap.size (fun _ => True) rO r /\ Below w.heap.size w w' := by
 have aEf := Try.underlying85
 have xE := Try.underlying83
 have DI := aa.mk hr0
 have ZU := aa.mk hc0
 clear hr0 hc0
 have HB := aa.mk (Below.refl w.heap.size w)
 have H := h
 clear h
 unfold dZ.f at H
 replace H := oC H; obtain ⟨c2, H⟩ := H
 have c2b0 := eq_true c2
 have c2b1 := decide_eq_true c2
 clear c2
 replace H := oC H; obtain ⟨c3, H⟩ := H
 have c3b0 := eq_true c3
 have c3b1 := decide_eq_true c3
 clear c3
 generalize air : ((List.replicate ((l0.length : Int) : Int).toNat z83) : List (fq)) = aEi at H
 have ais := aa.mk air.symm; clear air
 have H' := aa.mk H
 clear H
 go_enter Try.func45, Try.ntmps45
 go_wp2_with (first | ((with_reducible refine aC (N := 7) rfl ?_); refine yH jZ _ 83 rfl (N := 7) rfl 28 _ _ rfl (l0.length : Int) rfl rfl Try.underlying28 (.agg #[(.int .i64 0), (.int .i64 0)]) 16 Tc rfl (by decide) (by omega) z83 (ok := fun _ => True) (okp := fun _ => True) (uE _ _ _ z83 ) (fun _ hk => hk) trivial (OD) (Nat.le_trans (Nat.mul_le_mul_right _ (OD : (l0.length : Int).toNat <= 17592186044416)) (by omega)) (Below.refl _ _) (Nat.le_refl _) ?_; intro v107 w4 QG hb hg_ hnew_; clear hg_ hnew_; (first | rw [<- ais.1] at QG | (simp only [Int.reduceToNat] at QG; rw [<- ais.1] at QG)); refine E2 (bN QG (bZ HB.1)) (bS HB.1 hb) ?_; clear HB; intro asx HB; clear hb QG))
 go_loopg [4] k (fun kq v4 w' => ∃ (ky : List (fq)) (kT : Int), v4 = .int .i64 kT /\ aa (dZ.l0 kq l0 ky kT = some r) /\ aa (kq <= k) /\ aa (Kd.R jZ 83 w' w.heap.size (fun _ => True) v107 ky) /\ aa (Below w.heap.size w w'))
 case atStart => exact ⟨(aEi), (0), RG, H', ⟨Nat.le_refl _⟩, ⟨PR asx.1⟩, ⟨BL HB.1⟩⟩
 clear H'
 clear c2b0 c2b1 c3b0 c3b1
 obtain ⟨ky, kT, rfl, HA, iB, HO_3, HB⟩ := hrel
 cases gk with
 | zero => exact absurd HA.1 (by simp [dZ.l0])
 | succ k1 => ?_
 have H := HA.1
 clear HA
 simp only [dZ.l0] at H
 replace H := pu H; rcases H with ⟨c6b0, H⟩ | ⟨c6b0, H⟩
 · replace H := ji H; obtain ⟨c7b0, H⟩ := H
   replace H := dz H; obtain ⟨⟨Yl, Ym⟩, A8, H⟩ := H
   dsimp only at H
   replace H := ji H; obtain ⟨c9b0, H⟩ := H
   generalize hy112 : ((ky.set (kT : Int).toNat (⟨Yl, Ym⟩ : fq)) : List (fq)) = y112 at H
   have asy := aa.mk hy112.symm; clear hy112
   have H' := aa.mk H
   clear H
   have ana : 0 <= (kT : Int) := OD
   have anb : kT < (l0.length : Int) := OD
   obtain ⟨aI0, e109, Ov, Ow⟩ := amP DI.1 kT ana anb
   cases e109
   replace Ov := (HB.1.cell (World.block_lt_of_cell? w _ Ov)).trans Ov
   replace Ow := (HB.1.cell (World.block_lt_of_cell? w _ Ow)).trans Ow
   replace ana := eq_true ana
   replace anb := eq_true anb
   go_wp2_with (first | ((with_reducible refine aA (f := 72) rfl ?_); refine cK (N := (some 20)) #[.agg #[.int .i64 ((yE l0 kT).f0), .int .i64 ((yE l0 kT).f1)]] Try.func72 ?_; (with_reducible refine (qY.calls ((yE l0 kT).f0) ((yE l0 kT).f1) Yl Ym _ A8.1).mono ?_); rintro e qy ⟨rfl, hb⟩; refine ⟨_, rfl, ?_⟩; refine E2 (rB HO_3.1 hb) (bS HB.1 hb) ?_; clear HO_3 HB; intro HO_3 HB; (try clear hb); have p10 : 0 <= (kT : Int) := OD; have q10 : (kT : Int) < ((ky.length : Int) : Int) := OD; obtain ⟨Ox, aeI, Yn, asz, aEl, aOc, asA⟩ := mQ HO_3.1 (by omega); (first | cases Yn | (injection Yn with ea_ en_ ec_; (first | subst ea_ | (injection ea_ with ea_; subst ea_)); subst ec_; clear en_)); have asB := aa.mk asz; have aOd := aa.mk asA; clear asz aEl asA; obtain ⟨aDA, Vl, ael, Kt, MQ⟩ := nz HO_3.1 z83 (kT : Int) p10 q10; obtain rfl := jY ael; have aEm : qy.cell? ⟨Ox, (kT : Int).toNat * 2, none⟩ = some (.int .i64 ((aj ky kT).f0)) := Kt 0 _ rfl; have ZR : qy.cell? ⟨Ox, (kT : Int).toNat * 2 + 1, none⟩ = some (.int .i64 ((aj ky kT).f1)) := Kt 1 _ rfl; have aEn : qy.frozen? ⟨Ox, (kT : Int).toNat * 2, none⟩ = false := MQ 0; have ZT : qy.frozen? ⟨Ox, (kT : Int).toNat * 2 + 1, none⟩ = false := MQ 1; (try clear ael); clear Vl Kt MQ; replace p10 := eq_true p10; replace q10 := eq_true q10; have asC := aa.mk (show Kd.R jZ 83 qy w.heap.size (fun _ => True) (.slice (some ⟨Ox, 0, none⟩) ky.length aeI) ky from (PR HO_3.1)); obtain ⟨aOe, ait, aEo, VJ, aaC⟩ := nz asC.1 z83 (kT : Int) (OD) (by have h_ : (kT : Int) < ((ky.length : Int) : Int) := OD; first | exact h_ | (have e_ := (ay HO_3.1).1; omega) | simpa using h_); obtain rfl := jY aEo; have anc := DZ asC.1 (kT : Int) (OD) (by have h_ : (kT : Int) < ((ky.length : Int) : Int) := OD; first | exact h_ | (have e_ := (ay HO_3.1).1; omega) | simpa using h_) (seg := [.int .i64 Yl, .int .i64 Ym]) (j := 0) ait VJ (show 2 <= 2 from by decide) (x' := (⟨Yl, Ym⟩ : fq)) (uE _ _ _ (⟨Yl, Ym⟩ : fq) ) (fun _ hk => hk); have Ib := VJ 0 _ rfl; (try simp only [show (jZ).sz = 2 from rfl, Nat.mul_one, Nat.add_zero] at Ib); have KR := aaC 0; (try simp only [show (jZ).sz = 2 from rfl, Nat.mul_one, Nat.add_zero] at KR); have ane := VJ 1 _ rfl; (try simp only [show (jZ).sz = 2 from rfl, Nat.mul_one, Nat.add_zero] at ane); have anf := aaC 1; (try simp only [show (jZ).sz = 2 from rfl, Nat.mul_one, Nat.add_zero] at anf); clear ait VJ aaC) | ((with_reducible refine gK (t := 83) (p := 21) rfl ?_); refine lX (t := 83) (p := 21) (w1 := ((qy.setCell ⟨Ox, (kT : Int).toNat * 2, none⟩ (.int .i64 Yl)).setCell ⟨Ox, (kT : Int).toNat * 2 + 1, none⟩ (.int .i64 Ym))) ?_; intro yJ hw; have hg : qy.grownBy yJ (some Ox) := (by rw [hw]; exact anc.2); have hp_ : Kd.R jZ 83 yJ w.heap.size (fun _ => True) (.slice (some ⟨Ox, 0, none⟩) ky.length aeI) y112 := (by rw [hw, asy.1]; exact anc.1); clear anc; refine E2 (hp_) ((by rw [hw]; exact il (il (HB.1) asB.1) asB.1 : Below w.heap.size w yJ)) ?_; clear HO_3 HB; intro HO_3 HB; clear hg hw hp_))
   go_roundg k1
   case measure => have := iB.1; omega
   case rel => exact ⟨(y112), (wrap64 (kT + 1)), RG, H', ⟨by have := iB.1; omega⟩, ⟨PR HO_3.1⟩, ⟨BL HB.1⟩⟩
 obtain rfl := Option.some.inj H
 go_wp2
 go_ret
 exact ⟨_, RF, pm (HO_3.1), BL HB.1⟩
def eP.f (k : Nat) (ah : Int) (af : Int) (ae : List (Ei)) : Option (Int × Int × (List (fq))) := (dZ.f k ae).bind fun t116 => (some (ah, af, t116))
theorem eP.mono : ∀ a0 a1 a2 k, dO (eP.f k a0 a1 a2) (eP.f (k + 1) a0 a1 a2) := by
 intro a0 a1 a2 k
 unfold eP.f
 repeat' first
  | (with_reducible exact dZ.mono _ _)
  | (with_reducible exact dO.refl _)
  | (with_reducible exact dO.none _)
  | (with_reducible refine dO.ite ?_ ?_)
  | (with_reducible refine dO.bind ?_ (fun _ => ?_))
  | exact dZ.mono _ _
  | exact dO.none _
  | refine dO.ite ?_ ?_
  | refine dO.bind ?_ (fun _ => ?_)
theorem eP.calls (k : Nat) (ah : Int) (af : Int) (aK : Option Addr) (aJ : Nat) (ae : List (Ei)) (r1 : Int) (r2 : Int) (r3 : List (fq)) (w : World) (dH : Kd.C Vi w aK ae.length ae) (dG : ae.length <= aJ) (h : eP.f k ah af ae = some (r1, r2, r3)) :
 Calls Try.prog 15 #[.agg #[.int .i64 ah, .int .i64 af, .slice aK ae.length aJ]] w fun e w' => ∃ VK : Value, e = .returned (.agg #[.int .i64 r1, .int .i64 r2, VK]) /\ Kd.R jZ 83 w' w.heap.size (fun _ => True) VK r3 /\ Below w.heap.size w w' := by
 have amx := Try.underlying24
 have nH := Try.underlying30
 have bD := aa.mk dH
 have cO := aa.mk dG
 clear dH dG
 have HB := aa.mk (Below.refl w.heap.size w)
 have H := h
 clear h
 unfold eP.f at H
 replace H := dz H; obtain ⟨t116, A2, H⟩ := H
 simp only [Option.some.injEq, Prod.mk.injEq] at H
 obtain ⟨rfl, rfl, rfl⟩ := H
 go_enter Try.func15, Try.ntmps15
 go_wp2_with (first | ((with_reducible refine aC (N := 1) rfl ?_); refine dN (cs := #[.int .i64 ah, .int .i64 af, .slice aK ae.length aJ]) (t := 24) ?_; intro asD hg w3 hbox hb; refine mJ HB.1 hg hbox hb ?_; clear HB; intro HB xW aI1 aI2; clear hb hbox hg) | ((with_reducible refine aC (N := 2) rfl ?_); refine dN (cs := #[.int .i64 0, .int .i64 0, .slice none 0 0]) (t := 30) ?_; intro QH hg w4 hbox hb; refine E7 (bB xW.1 hb) (bS HB.1 hb) (hbox) (gX HB.1 hg) (gX HB.1 hg) (nB xW.1 hg) (nC xW.1 hg) ?_; clear xW HB; intro xW HB Ca aI3 aI4 Yo Yp; clear hb hbox hg) | ((with_reducible refine aC (N := 3) rfl ?_); refine dN (cs := #[.int .i64 0, .int .i64 0, .slice none 0 0]) (t := 30) ?_; intro aiu hg w5 hbox hb; refine E10 (bB xW.1 hb) (bB Ca.1 hb) (bS HB.1 hb) (hbox) (gX HB.1 hg) (gX HB.1 hg) (nB xW.1 hg) (nC xW.1 hg) (nB Ca.1 hg) (nC Ca.1 hg) ?_; clear xW Ca HB; intro xW Ca HB M8 aI5 aI6 M9 Yq Ic Yr; clear hb hbox hg; have asv := Yo.1; have asw := Yp.1; have aaD := M9.1; have aaE := Yq.1; obtain ⟨lZ, l5, mR, l6, l7, mU⟩ := gB xW.1; have aeJ := Yr.1; have aeK := Ic.1; obtain ⟨pR, pU, uN, pV, pW, uO⟩ := gB M8.1) | ((with_reducible refine aA (f := 45) rfl ?_); refine cK (N := (some 12)) #[.slice aK ae.length aJ] Try.func45 ?_; (with_reducible refine (dZ.calls k _ _ ae t116 _ ?side1 ?side2 A2.1).mono ?_); (case side1 => exact aY bD.1 (BL HB.1)); (case side2 => exact cO.1); rintro e qy ⟨v117, rfl, ho0, hb⟩; refine ⟨_, rfl, ?_⟩; refine E5 (bN ho0 (bZ HB.1)) (dh (g := asD) (o := .cells #[.int .i64 ah, .int .i64 af, .slice aK ae.length aJ] 24 (0, 0)) (xB M9.1 xW.1) hb) (dh (g := QH) (o := .cells #[.int .i64 0, .int .i64 0, .slice none 0 0] 30 (0, 0)) (xB Ic.1 Ca.1) hb) (dh (g := aiu) (o := .cells #[.int .i64 ah, .int .i64 af, .slice none 0 0] 30 (0, 0)) (BB M8.1) hb) (bS HB.1 hb) ?_; clear xW Ca M8 HB; intro aiv xW Ca M8 HB; (try clear hb); (try clear ho0); obtain ⟨DF, rM, vF⟩ := bv aiv.1; subst vF; obtain ⟨uF, uG, Cn, uH, uI, Co⟩ := gB M8.1; obtain ⟨Af, Ag, Ju, Ah, Ai, Jv⟩ := gB Ca.1))
 refine bodyPost_ret (results_cell_row rfl _ _ QH 30 #[.int .i64 ah, .int .i64 af, .slice DF t116.length rM] (0, 0) _ rfl (xB Ic.1 Ca.1) Try.underlying30 rfl (by kernel_rfl)) rfl ?_
 exact ⟨_, RF, by (with_reducible repeat (first | apply aV | apply aW | apply aQ)); exact aG (RQ QH 2 (RQ QH 1 (RQ QH 0 (mY (p := ⟨aiu, 2, none⟩) (bz (bz aiv.1 M8.1 (by decide)) Ca.1 (by decide)) (fun _ hk => hk.1.2) (.slice DF t116.length rM)) _) _) _) (fun _ hk => trivial), BL HB.1⟩
def pG.f (ah : Int) (af : Int) (DK : Int) (DL : Int) : Option (Bool) := if ah = DK then (if af = DL then (some true) else (some false)) else (some false)
theorem pG.calls (ah : Int) (af : Int) (DK : Int) (DL : Int) (r : Bool) (w : World) (h : pG.f ah af DK DL = some r) :
 Calls Try.prog 79 #[.agg #[.int .i64 ah, .int .i64 af], .agg #[.int .i64 DK, .int .i64 DL]] w fun e w' => e = .returned (.bool r) /\ Below w.heap.size w w' := by
 have xE := Try.underlying83
 have HB := aa.mk (Below.refl w.heap.size w)
 have H := h
 clear h
 unfold pG.f at H
 replace H := oP H; rcases H with ⟨c3, H⟩ | ⟨c3, H⟩
 · have c3b0 := beq_iff_eq.mpr c3
   have c3b1 := bne_eq_false_iff_eq.mpr c3
   clear c3
   replace H := oP H; rcases H with ⟨c4, H⟩ | ⟨c4, H⟩
   · have c4b0 := beq_iff_eq.mpr c4
     have c4b1 := bne_eq_false_iff_eq.mpr c4
     clear c4
     obtain rfl := Option.some.inj H
     go_enter Try.func79, Try.ntmps79
     go_wp2_with (first | ((with_reducible refine aC (N := 2) rfl ?_); refine dN (cs := #[.int .i64 ah, .int .i64 af]) (t := 83) ?_; intro aiw hg w5 hbox hb; refine mJ HB.1 hg hbox hb ?_; clear HB; intro HB qZ aix aiy; clear hb hbox hg) | ((with_reducible refine aC (N := 3) rfl ?_); refine dN (cs := #[.int .i64 DK, .int .i64 DL]) (t := 83) ?_; intro aiz hg w6 hbox hb; refine E7 (bB qZ.1 hb) (bS HB.1 hb) (hbox) (gX HB.1 hg) (gX HB.1 hg) (nB qZ.1 hg) (nC qZ.1 hg) ?_; clear qZ HB; intro qZ HB QI aiA aiB yT yU; clear hb hbox hg; have aaD := yT.1; have aaE := yU.1; obtain ⟨lZ, l5, l6, l7⟩ := nO qZ.1; obtain ⟨Ej, El, Em, En⟩ := nO QI.1))
     go_ret
     exact ⟨RF, BL HB.1⟩
   have c4b0 := beq_eq_false_iff_ne.mpr c4
   have c4b1 := bne_iff_ne.mpr c4
   obtain rfl := Option.some.inj H
   go_enter Try.func79, Try.ntmps79
   go_wp2_with (first | ((with_reducible refine aC (N := 2) rfl ?_); refine dN (cs := #[.int .i64 ah, .int .i64 af]) (t := 83) ?_; intro aiw hg Hw hbox hb; refine mJ HB.1 hg hbox hb ?_; clear HB; intro HB qZ aix aiy; clear hb hbox hg) | ((with_reducible refine aC (N := 3) rfl ?_); refine dN (cs := #[.int .i64 DK, .int .i64 DL]) (t := 83) ?_; intro aiz hg qy hbox hb; refine E7 (bB qZ.1 hb) (bS HB.1 hb) (hbox) (gX HB.1 hg) (gX HB.1 hg) (nB qZ.1 hg) (nC qZ.1 hg) ?_; clear qZ HB; intro qZ HB QI aiA aiB yT yU; clear hb hbox hg; have aaF := yT.1; have aaG := yU.1; obtain ⟨uF, uG, uH, uI⟩ := nO qZ.1; obtain ⟨Af, Ag, Ah, Ai⟩ := nO QI.1))
   go_ret
   exact ⟨RF, BL HB.1⟩
 have c3b0 := beq_eq_false_iff_ne.mpr c3
 have c3b1 := bne_iff_ne.mpr c3
 obtain rfl := Option.some.inj H
 go_enter Try.func79, Try.ntmps79
 go_wp2_with (first | ((with_reducible refine aC (N := 2) rfl ?_); refine dN (cs := #[.int .i64 ah, .int .i64 af]) (t := 83) ?_; intro aiw hg NU hbox hb; refine mJ HB.1 hg hbox hb ?_; clear HB; intro HB qZ aix aiy; clear hb hbox hg) | ((with_reducible refine aC (N := 3) rfl ?_); refine dN (cs := #[.int .i64 DK, .int .i64 DL]) (t := 83) ?_; intro aiz hg w16 hbox hb; refine E7 (bB qZ.1 hb) (bS HB.1 hb) (hbox) (gX HB.1 hg) (gX HB.1 hg) (nB qZ.1 hg) (nC qZ.1 hg) ?_; clear qZ HB; intro qZ HB QI aiA aiB yT yU; clear hb hbox hg; have aiC := yT.1; have aiD := yU.1; obtain ⟨qN, qO, qP, qQ⟩ := nO qZ.1; obtain ⟨FD, FE, FF, FH⟩ := nO QI.1))
 go_ret
 exact ⟨RF, BL HB.1⟩
def bQ.l0 : Nat -> List (fq) -> List (fq) -> Int -> Option (Bool)
 | 0, _, _, _ => none
 | k + 1, x0, x1, x5 => if x5 < (x0.length : Int) then (if 0 <= x5 then (if x5 < (x1.length : Int) then ((pG.f ((aj x0 x5).f0) ((aj x0 x5).f1) ((aj x1 x5).f0) ((aj x1 x5).f1)).bind fun asE => (if asE = true then (bQ.l0 k x0 x1 (wrap64 (x5 + 1))) else (some false))) else (none)) else (none)) else (some true)
def bQ.f (k : Nat) (l0 : List (fq)) (l1 : List (fq)) : Option (Bool) := if (l0.length : Int) = (l1.length : Int) then (bQ.l0 k l0 l1 0) else (some false)
theorem bQ.mono_l : ∀ k, (∀ y0 y1 y2, dO (bQ.l0 k y0 y1 y2) (bQ.l0 (k + 1) y0 y1 y2))
 | 0 => fun _ _ _ r h => by simp [bQ.l0] at h
 | k + 1 => by
  have ja := bQ.mono_l k
  intros
  first | unfold bQ.l0
  exact BA ja
theorem bQ.mono : ∀ a0 a1 k, dO (bQ.f k a0 a1) (bQ.f (k + 1) a0 a1) := by
 intro a0 a1 k
 have ja := bQ.mono_l k
 unfold bQ.f
 exact BA ja
def bQ.T6 : Bool × List (List Nat × List Nat) := (true, [([], []), ([], []), ([0, 1], [0, 1]), ([2], [2]), ([], []), ([], []), ([4, 5], [4, 5]), ([6], [6]), ([3, 7], [3, 7]), ([8], [8])])
def bQ.B6 : List Nat := [0, 0, 3, 7, 0, 0, 48, 112, 255, 511]
theorem bQ.asF : mX .any (opsOf Try.f51 6) = bQ.T6 := by kernel_rfl
theorem bQ.bits6 : kr bQ.T6.2 bQ.B6 = true := by kernel_rfl
theorem bQ.calls (k : Nat) (A0 : Option Addr) (c0 : Nat) (l0 : List (fq)) (A1 : Option Addr) (c1 : Nat) (l1 : List (fq)) (r : Bool) (w : World) (hr0 : Kd.C jZ w A0 l0.length l0) (hc0 : l0.length <= c0) (hr1 : Kd.C jZ w A1 l1.length l1) (hc1 : l1.length <= c1) (h : bQ.f k l0 l1 = some r) :
 Calls Try.prog 51 #[.slice A0 l0.length c0, .slice A1 l1.length c1] w fun e w' => e = .returned (.bool r) /\ Below w.heap.size w w' := by
 have xE := Try.underlying83
 have DI := aa.mk hr0
 have ZU := aa.mk hc0
 clear hr0 hc0
 have HR1 := aa.mk hr1
 have vD := aa.mk hc1
 clear hr1 hc1
 have HB := aa.mk (Below.refl w.heap.size w)
 have H := h
 clear h
 unfold bQ.f at H
 replace H := oP H; rcases H with ⟨c3, H⟩ | ⟨c3, H⟩
 · have c3b0 := beq_iff_eq.mpr c3
   have c3b1 := bne_eq_false_iff_eq.mpr c3
   have c3b2 : (l0.length == l1.length) = true := by first | simpa using c3 | (simp at c3 ⊢; omega)
   clear c3
   have H' := aa.mk H
   clear H
   go_enter Try.func51, Try.ntmps51
   go_wp2
   go_loopg [5] k (fun kq v5 w' => ∃ (bq : Int), v5 = .int .i64 bq /\ aa (bQ.l0 kq l0 l1 bq = some r) /\ aa (kq <= k) /\ aa (Below w.heap.size w w'))
   case atStart => exact ⟨(0), RG, H', ⟨Nat.le_refl _⟩, ⟨BL HB.1⟩⟩
   clear H'
   try clear c1; clear c3b0 c3b1 c3b2
   obtain ⟨bq, rfl, HA, iB, HB⟩ := hrel
   cases gk with
   | zero => exact absurd HA.1 (by simp [bQ.l0])
   | succ k1 => ?_
   have H := HA.1
   clear HA
   simp only [bQ.l0] at H
   replace H := pu H; rcases H with ⟨c4b0, H⟩ | ⟨c4b0, H⟩
   · replace H := ji H; obtain ⟨c5b0, H⟩ := H
     replace H := ji H; obtain ⟨c6b0, H⟩ := H
     replace H := dz H; obtain ⟨asE, A7, H⟩ := H
     replace H := Cm H; rcases H with ⟨rfl, H⟩ | ⟨rfl, H⟩
     · have H' := aa.mk H
       clear H
       try go_wp2
       refine E1 (dm HB.1) ?_
       clear HB
       intro HB
       have Ty : 0 <= (bq : Int) := OD
       have Tz : bq < (l0.length : Int) := OD
       obtain ⟨KS, ang, si, sj⟩ := iP DI.1 bq Ty Tz
       have wF := sj
       have wG := si
       cases ang
       replace si := (HB.1.cell (World.block_lt_of_cell? w _ si)).trans si
       replace sj := (HB.1.cell (World.block_lt_of_cell? w _ sj)).trans sj
       replace Ty := eq_true Ty
       replace Tz := eq_true Tz
       have TA : 0 <= (bq : Int) := OD
       have TB : bq < (l1.length : Int) := OD
       obtain ⟨KT, anh, su, sw⟩ := iP HR1.1 bq TA TB
       have wH := sw
       have wI := su
       cases anh
       replace su := (HB.1.cell (World.block_lt_of_cell? w _ su)).trans su
       replace sw := (HB.1.cell (World.block_lt_of_cell? w _ sw)).trans sw
       replace TA := eq_true TA
       replace TB := eq_true TB
       refine jN (n := 10) (S := fun w' => w'.cell? (KS.add ((bq).toNat * 2)) = some (.int .i64 ((aj l0 bq).f0)) /\ w'.cell? ⟨(KS.add ((bq).toNat * 2)).block, (KS.add ((bq).toNat * 2)).off + 1, none⟩ = some (.int .i64 ((aj l0 bq).f1)) /\ w'.cell? (KT.add ((bq).toNat * 2)) = some (.int .i64 ((aj l1 bq).f0)) /\ w'.cell? ⟨(KT.add ((bq).toNat * 2)).block, (KT.add ((bq).toNat * 2)).off + 1, none⟩ = some (.int .i64 ((aj l1 bq).f1))) (ds := []) #[Zz,Zz,Zz,Zz,Zz,Zz,Zz,Zz,Zz,Zz] (by kernel_rfl) rfl rfl ⟨((HB.1.cell (World.block_lt_of_cell? w _ wG)).trans wG), ((HB.1.cell (World.block_lt_of_cell? w _ wF)).trans wF), ((HB.1.cell (World.block_lt_of_cell? w _ wI)).trans wI), ((HB.1.cell (World.block_lt_of_cell? w _ wH)).trans wH)⟩ (fun hHeld => ?_); refine iq bQ.asF bQ.bits6 (fun HT_ HW_ => ?_)
       generalize wr.drew = w9 at HB si sj su sw hHeld ⊢
       refine aU 0 (N := some 17) HT_.1 ?_
       refine aU 1 (N := some 18) HT_.1 ?_
       refine aU 2 (N := some 19) HT_.1 ?_
       refine aU 4 (N := some 21) HT_.1 ?_
       refine aU 5 (N := some 22) HT_.1 ?_
       refine aU 6 (N := some 23) HT_.1 ?_
       refine gF 3 (N := some 20) HT_.1 HW_.1 hHeld ?_
       refine gF 7 (N := some 24) HT_.1 HW_.1 hHeld ?_
       refine mV (i := 8) (N := some 25) #[Yy,Yy,Yy,Yy,Yy,Yy,Yy,Yy,Yy,Zz] rfl rfl (jc HT_.1 (by kernel_rfl)) (by decide) (fun K hK => ?_)
       refine nA Try.func79 (by kernel_rfl) rfl #[.agg #[.int .i64 ((aj l0 bq).f0), .int .i64 ((aj l0 bq).f1)], .agg #[.int .i64 ((aj l1 bq).f0), .int .i64 ((aj l1 bq).f1)]] (by rfl) rfl rfl (by (try simp only [List.map_toArray, List.map_cons, List.map_nil]); first | done | rfl | (simp only [List.length_drop, List.length_take]; rfl)) ?_
       with_reducible refine (pG.calls ((aj l0 bq).f0) ((aj l0 bq).f1) ((aj l1 bq).f0) ((aj l1 bq).f1) true _ A7.1).mono ?_
       rintro e Hw ⟨rfl, hb⟩
       refine ⟨_, rfl, ?_⟩
       refine E1 (bS HB.1 hb) ?_
       clear HB
       intro HB
       (try clear hb)
       (try clear hb2)
       (try clear hk)
       (try clear hi)
       refine hK.out _ _ ⟨((HB.1.cell (World.block_lt_of_cell? w _ wG)).trans wG), ((HB.1.cell (World.block_lt_of_cell? w _ wF)).trans wF), ((HB.1.cell (World.block_lt_of_cell? w _ wI)).trans wI), ((HB.1.cell (World.block_lt_of_cell? w _ wH)).trans wH)⟩ (fun hHeld => ?_)
       clear hK K
       refine eX (a' := ?_) ?_ ?_
       rotate_left
       · show Act.put _ (some 25) _ = _
         simp only [Act.put, List.setIfInBounds_toArray, List.set_cons_zero, List.set_cons_succ, cz, dF]
         rfl
       refine aU 9 (N := some 26) HT_.1 ?_
       refine lI (jS HT_.1 (by kernel_rfl)) ?_
       try go_wp2
       go_roundg k1
       case measure => have := iB.1; omega
       case rel => exact ⟨(wrap64 (bq + 1)), RG, H', ⟨by have := iB.1; omega⟩, ⟨BL HB.1⟩⟩
     obtain rfl := Option.some.inj H
     try go_wp2
     refine E1 (dm HB.1) ?_
     clear HB
     intro HB
     have Ty : 0 <= (bq : Int) := OD
     have Tz : bq < (l0.length : Int) := OD
     obtain ⟨KS, ang, si, sj⟩ := iP DI.1 bq Ty Tz
     have wF := sj
     have wG := si
     cases ang
     replace si := (HB.1.cell (World.block_lt_of_cell? w _ si)).trans si
     replace sj := (HB.1.cell (World.block_lt_of_cell? w _ sj)).trans sj
     replace Ty := eq_true Ty
     replace Tz := eq_true Tz
     have TA : 0 <= (bq : Int) := OD
     have TB : bq < (l1.length : Int) := OD
     obtain ⟨KT, anh, su, sw⟩ := iP HR1.1 bq TA TB
     have wH := sw
     have wI := su
     cases anh
     replace su := (HB.1.cell (World.block_lt_of_cell? w _ su)).trans su
     replace sw := (HB.1.cell (World.block_lt_of_cell? w _ sw)).trans sw
     replace TA := eq_true TA
     replace TB := eq_true TB
     refine jN (n := 10) (S := fun w' => w'.cell? (KS.add ((bq).toNat * 2)) = some (.int .i64 ((aj l0 bq).f0)) /\ w'.cell? ⟨(KS.add ((bq).toNat * 2)).block, (KS.add ((bq).toNat * 2)).off + 1, none⟩ = some (.int .i64 ((aj l0 bq).f1)) /\ w'.cell? (KT.add ((bq).toNat * 2)) = some (.int .i64 ((aj l1 bq).f0)) /\ w'.cell? ⟨(KT.add ((bq).toNat * 2)).block, (KT.add ((bq).toNat * 2)).off + 1, none⟩ = some (.int .i64 ((aj l1 bq).f1))) (ds := []) #[Zz,Zz,Zz,Zz,Zz,Zz,Zz,Zz,Zz,Zz] (by kernel_rfl) rfl rfl ⟨((HB.1.cell (World.block_lt_of_cell? w _ wG)).trans wG), ((HB.1.cell (World.block_lt_of_cell? w _ wF)).trans wF), ((HB.1.cell (World.block_lt_of_cell? w _ wI)).trans wI), ((HB.1.cell (World.block_lt_of_cell? w _ wH)).trans wH)⟩ (fun hHeld => ?_); refine iq bQ.asF bQ.bits6 (fun HT_ HW_ => ?_)
     generalize wr.drew = qy at HB si sj su sw hHeld ⊢
     refine aU 0 (N := some 17) HT_.1 ?_
     refine aU 1 (N := some 18) HT_.1 ?_
     refine aU 2 (N := some 19) HT_.1 ?_
     refine aU 4 (N := some 21) HT_.1 ?_
     refine aU 5 (N := some 22) HT_.1 ?_
     refine aU 6 (N := some 23) HT_.1 ?_
     refine gF 3 (N := some 20) HT_.1 HW_.1 hHeld ?_
     refine gF 7 (N := some 24) HT_.1 HW_.1 hHeld ?_
     refine mV (i := 8) (N := some 25) #[Yy,Yy,Yy,Yy,Yy,Yy,Yy,Yy,Yy,Zz] rfl rfl (jc HT_.1 (by kernel_rfl)) (by decide) (fun K hK => ?_)
     refine nA Try.func79 (by kernel_rfl) rfl #[.agg #[.int .i64 ((aj l0 bq).f0), .int .i64 ((aj l0 bq).f1)], .agg #[.int .i64 ((aj l1 bq).f0), .int .i64 ((aj l1 bq).f1)]] (by rfl) rfl rfl (by (try simp only [List.map_toArray, List.map_cons, List.map_nil]); first | done | rfl | (simp only [List.length_drop, List.length_take]; rfl)) ?_
     with_reducible refine (pG.calls ((aj l0 bq).f0) ((aj l0 bq).f1) ((aj l1 bq).f0) ((aj l1 bq).f1) false _ A7.1).mono ?_
     rintro e yC ⟨rfl, hb⟩
     refine ⟨_, rfl, ?_⟩
     refine E1 (bS HB.1 hb) ?_
     clear HB
     intro HB
     (try clear hb)
     (try clear hb2)
     (try clear hk)
     (try clear hi)
     refine hK.out _ _ ⟨((HB.1.cell (World.block_lt_of_cell? w _ wG)).trans wG), ((HB.1.cell (World.block_lt_of_cell? w _ wF)).trans wF), ((HB.1.cell (World.block_lt_of_cell? w _ wI)).trans wI), ((HB.1.cell (World.block_lt_of_cell? w _ wH)).trans wH)⟩ (fun hHeld => ?_)
     clear hK K
     refine eX (a' := ?_) ?_ ?_
     rotate_left
     · show Act.put _ (some 25) _ = _
       simp only [Act.put, List.setIfInBounds_toArray, List.set_cons_zero, List.set_cons_succ, cz, dF]
       rfl
     refine aU 9 (N := some 26) HT_.1 ?_
     refine lI (jS HT_.1 (by kernel_rfl)) ?_
     try go_wp2
     go_ret
     exact ⟨RF, BL HB.1⟩
   obtain rfl := Option.some.inj H
   go_wp2
   go_ret
   exact ⟨RF, BL HB.1⟩
 have c3b0 := beq_eq_false_iff_ne.mpr c3
 have c3b1 := bne_iff_ne.mpr c3
 have c3b2 : (l0.length == l1.length) = false := by first | simpa using c3 | (simp at c3 ⊢; omega)
 obtain rfl := Option.some.inj H
 go_enter Try.func51, Try.ntmps51
 go_wp2
 go_ret
 exact ⟨RF, BL HB.1⟩
def iO.f (k : Nat) (ah : Int) (af : Int) (ae : List (fq)) (DK : Int) (DL : Int) (Ez : List (fq)) : Option (Bool) := if ah = DK then (if af = DL then ((bQ.f k ae Ez).bind fun asG => (if asG = true then (some true) else (some false))) else (some false)) else (some false)
theorem iO.mono : ∀ a0 a1 a2 a3 a4 a5 k, dO (iO.f k a0 a1 a2 a3 a4 a5) (iO.f (k + 1) a0 a1 a2 a3 a4 a5) := by
 intro a0 a1 a2 a3 a4 a5 k
 unfold iO.f
 repeat' first
  | (with_reducible exact bQ.mono _ _ _)
  | (with_reducible exact dO.refl _)
  | (with_reducible exact dO.none _)
  | (with_reducible refine dO.ite ?_ ?_)
  | (with_reducible refine dO.bind ?_ (fun _ => ?_))
  | exact bQ.mono _ _ _
  | exact dO.none _
  | refine dO.ite ?_ ?_
  | refine dO.bind ?_ (fun _ => ?_)
theorem iO.calls (k : Nat) (ah : Int) (af : Int) (aK : Option Addr) (aJ : Nat) (ae : List (fq)) (DK : Int) (DL : Int) (QJ : Option Addr) (QK : Nat) (Ez : List (fq)) (r : Bool) (w : World) (dH : Kd.C jZ w aK ae.length ae) (dG : ae.length <= aJ) (aiE : Kd.C jZ w QJ Ez.length Ez) (aiF : Ez.length <= QK) (h : iO.f k ah af ae DK DL Ez = some r) :
 Calls Try.prog 17 #[.agg #[.int .i64 ah, .int .i64 af, .slice aK ae.length aJ], .agg #[.int .i64 DK, .int .i64 DL, .slice QJ Ez.length QK]] w fun e w' => e = .returned (.bool r) /\ Below w.heap.size w w' := by
 have nH := Try.underlying30
 have bD := aa.mk dH
 have cO := aa.mk dG
 clear dH dG
 have aiG := aa.mk aiE
 have aiH := aa.mk aiF
 clear aiE aiF
 have HB := aa.mk (Below.refl w.heap.size w)
 have H := h
 clear h
 unfold iO.f at H
 replace H := oP H; rcases H with ⟨c3, H⟩ | ⟨c3, H⟩
 · have c3b0 := beq_iff_eq.mpr c3
   have c3b1 := bne_eq_false_iff_eq.mpr c3
   clear c3
   replace H := oP H; rcases H with ⟨c4, H⟩ | ⟨c4, H⟩
   · have c4b0 := beq_iff_eq.mpr c4
     have c4b1 := bne_eq_false_iff_eq.mpr c4
     clear c4
     replace H := dz H; obtain ⟨asG, A5, H⟩ := H
     replace H := Cm H; rcases H with ⟨rfl, H⟩ | ⟨rfl, H⟩
     · obtain rfl := Option.some.inj H
       go_enter Try.func17, Try.ntmps17
       go_wp2_with (first | ((with_reducible refine aC (N := 2) rfl ?_); refine dN (cs := #[.int .i64 ah, .int .i64 af, .slice aK ae.length aJ]) (t := 30) ?_; intro aaH hg w7 hbox hb; refine mJ HB.1 hg hbox hb ?_; clear HB; intro HB mf aaI aaJ; clear hb hbox hg) | ((with_reducible refine aC (N := 3) rfl ?_); refine dN (cs := #[.int .i64 DK, .int .i64 DL, .slice QJ Ez.length QK]) (t := 30) ?_; intro aaK hg w8 hbox hb; refine E7 (bB mf.1 hb) (bS HB.1 hb) (hbox) (gX HB.1 hg) (gX HB.1 hg) (nB mf.1 hg) (nC mf.1 hg) ?_; clear mf HB; intro mf HB yV aaL aaM ui uj; clear hb hbox hg; have aeJ := ui.1; have aeK := uj.1; obtain ⟨pR, pU, uN, pV, pW, uO⟩ := gB mf.1; obtain ⟨vX, vY, EZ, vZ, wh, Fa⟩ := gB yV.1) | ((with_reducible refine aA (f := 51) rfl ?_); refine cK (N := (some 19)) #[.slice aK ae.length aJ, .slice QJ Ez.length QK] Try.func51 ?_; (with_reducible refine (bQ.calls k _ _ ae _ _ Ez true _ ?side1 ?side2 ?side3 ?side4 A5.1).mono ?_); (case side1 => exact CB (aY bD.1 HB.1)); (case side2 => exact cO.1); (case side3 => exact CB (aY aiG.1 HB.1)); (case side4 => exact aiH.1); rintro e yC ⟨rfl, hb⟩; refine ⟨_, rfl, ?_⟩; refine E3 (bB mf.1 hb) (bB yV.1 hb) (bS HB.1 hb) ?_; clear mf yV HB; intro mf yV HB; (try clear hb)))
       go_ret
       exact ⟨RF, BL HB.1⟩
     obtain rfl := Option.some.inj H
     go_enter Try.func17, Try.ntmps17
     go_wp2_with (first | ((with_reducible refine aC (N := 2) rfl ?_); refine dN (cs := #[.int .i64 ah, .int .i64 af, .slice aK ae.length aJ]) (t := 30) ?_; intro aaH hg yJ hbox hb; refine mJ HB.1 hg hbox hb ?_; clear HB; intro HB mf aaI aaJ; clear hb hbox hg) | ((with_reducible refine aC (N := 3) rfl ?_); refine dN (cs := #[.int .i64 DK, .int .i64 DL, .slice QJ Ez.length QK]) (t := 30) ?_; intro aaK hg yM hbox hb; refine E7 (bB mf.1 hb) (bS HB.1 hb) (hbox) (gX HB.1 hg) (gX HB.1 hg) (nB mf.1 hg) (nC mf.1 hg) ?_; clear mf HB; intro mf HB yV aaL aaM ui uj; clear hb hbox hg; have asH := ui.1; have asI := uj.1; obtain ⟨wm, wo, zQ, wu, ww, zR⟩ := gB mf.1; obtain ⟨VL, VM, VN, VO, VP, VQ⟩ := gB yV.1) | ((with_reducible refine aA (f := 51) rfl ?_); refine cK (N := (some 19)) #[.slice aK ae.length aJ, .slice QJ Ez.length QK] Try.func51 ?_; (with_reducible refine (bQ.calls k _ _ ae _ _ Ez false _ ?side1 ?side2 ?side3 ?side4 A5.1).mono ?_); (case side1 => exact CB (aY bD.1 HB.1)); (case side2 => exact cO.1); (case side3 => exact CB (aY aiG.1 HB.1)); (case side4 => exact aiH.1); rintro e w18 ⟨rfl, hb⟩; refine ⟨_, rfl, ?_⟩; refine E3 (bB mf.1 hb) (bB yV.1 hb) (bS HB.1 hb) ?_; clear mf yV HB; intro mf yV HB; (try clear hb)))
     go_ret
     exact ⟨RF, BL HB.1⟩
   have c4b0 := beq_eq_false_iff_ne.mpr c4
   have c4b1 := bne_iff_ne.mpr c4
   obtain rfl := Option.some.inj H
   go_enter Try.func17, Try.ntmps17
   go_wp2_with (first | ((with_reducible refine aC (N := 2) rfl ?_); refine dN (cs := #[.int .i64 ah, .int .i64 af, .slice aK ae.length aJ]) (t := 30) ?_; intro aaH hg w19 hbox hb; refine mJ HB.1 hg hbox hb ?_; clear HB; intro HB mf aaI aaJ; clear hb hbox hg) | ((with_reducible refine aC (N := 3) rfl ?_); refine dN (cs := #[.int .i64 DK, .int .i64 DL, .slice QJ Ez.length QK]) (t := 30) ?_; intro aaK hg ZJ hbox hb; refine E7 (bB mf.1 hb) (bS HB.1 hb) (hbox) (gX HB.1 hg) (gX HB.1 hg) (nB mf.1 hg) (nC mf.1 hg) ?_; clear mf HB; intro mf HB yV aaL aaM ui uj; clear hb hbox hg; have aaO := ui.1; have aaP := uj.1; obtain ⟨wJ, wK, Jw, wL, wM, Jy⟩ := gB mf.1; obtain ⟨FI, FJ, FL, FM, FN, FO⟩ := gB yV.1))
   go_ret
   exact ⟨RF, BL HB.1⟩
 have c3b0 := beq_eq_false_iff_ne.mpr c3
 have c3b1 := bne_iff_ne.mpr c3
 obtain rfl := Option.some.inj H
 go_enter Try.func17, Try.ntmps17
 go_wp2_with (first | ((with_reducible refine aC (N := 2) rfl ?_); refine dN (cs := #[.int .i64 ah, .int .i64 af, .slice aK ae.length aJ]) (t := 30) ?_; intro aaH hg Mi hbox hb; refine mJ HB.1 hg hbox hb ?_; clear HB; intro HB mf aaI aaJ; clear hb hbox hg) | ((with_reducible refine aC (N := 3) rfl ?_); refine dN (cs := #[.int .i64 DK, .int .i64 DL, .slice QJ Ez.length QK]) (t := 30) ?_; intro aaK hg Mk hbox hb; refine E7 (bB mf.1 hb) (bS HB.1 hb) (hbox) (gX HB.1 hg) (gX HB.1 hg) (nB mf.1 hg) (nC mf.1 hg) ?_; clear mf HB; intro mf HB yV aaL aaM ui uj; clear hb hbox hg; have aI7 := ui.1; have aI8 := uj.1; obtain ⟨Aj, Ak, Jz, Al, Am, JA⟩ := gB mf.1; obtain ⟨VR, VS, VT, VU, VV, VW⟩ := gB yV.1))
 go_ret
 exact ⟨RF, BL HB.1⟩
def di.l0 : Nat -> List Int -> List Int -> Int -> Option (Bool)
 | 0, _, _, _ => none
 | k + 1, x0, x1, x5 => if x5 < (x0.length : Int) then (if 0 <= x5 then (if x5 < (x1.length : Int) then (if (rd x0 x5) = (rd x1 x5) then (di.l0 k x0 x1 (wrap64 (x5 + 1))) else (some false)) else (none)) else (none)) else (some true)
def di.f (k : Nat) (l0 : List Int) (l1 : List Int) : Option (Bool) := if (l0.length : Int) = (l1.length : Int) then (di.l0 k l0 l1 0) else (some false)
theorem di.mono_l : ∀ k, (∀ y0 y1 y2, dO (di.l0 k y0 y1 y2) (di.l0 (k + 1) y0 y1 y2))
 | 0 => fun _ _ _ r h => by simp [di.l0] at h
 | k + 1 => by
  have ja := di.mono_l k
  intros
  first | unfold di.l0
  exact BA ja
theorem di.mono : ∀ a0 a1 k, dO (di.f k a0 a1) (di.f (k + 1) a0 a1) := by
 intro a0 a1 k
 have ja := di.mono_l k
 unfold di.f
 exact BA ja
theorem di.calls (k : Nat) (A0 : Option Addr) (c0 : Nat) (l0 : List Int) (A1 : Option Addr) (c1 : Nat) (l1 : List Int) (r : Bool) (w : World) (hr0 : Kd.C (Kd.int .i64) w A0 l0.length l0) (hc0 : l0.length <= c0) (hr1 : Kd.C (Kd.int .i64) w A1 l1.length l1) (hc1 : l1.length <= c1) (h : di.f k l0 l1 = some r) :
 Calls Try.prog 26 #[.slice A0 l0.length c0, .slice A1 l1.length c1] w fun e w' => e = .returned (.bool r) /\ lY w w' := by
 have DI := aa.mk hr0
 have ZU := aa.mk hc0
 clear hr0 hc0
 have HR1 := aa.mk hr1
 have vD := aa.mk hc1
 clear hr1 hc1
 have H := h
 clear h
 unfold di.f at H
 replace H := oP H; rcases H with ⟨c3, H⟩ | ⟨c3, H⟩
 · have c3b0 := beq_iff_eq.mpr c3
   have c3b1 := bne_eq_false_iff_eq.mpr c3
   have c3b2 : (l0.length == l1.length) = true := by first | simpa using c3 | (simp at c3 ⊢; omega)
   clear c3
   have H' := aa.mk H
   clear H
   go_enter Try.func26, Try.ntmps26
   go_wp2
   repeat (go_quiet (fail); try go_wp2)
   go_loopg [5] k (fun kq v5 w' => ∃ (bq : Int), v5 = .int .i64 bq /\ aa (di.l0 kq l0 l1 bq = some r) /\ aa (kq <= k) /\ lY w w')
   case atStart => exact ⟨(0), RG, H', ⟨Nat.le_refl _⟩, DR⟩
   clear H'
   try clear c1; clear c3b0 c3b1 c3b2
   obtain ⟨bq, rfl, HA, iB, ⟨m1, rfl⟩⟩ := hrel
   cases gk with
   | zero => exact absurd HA.1 (by simp [di.l0])
   | succ k1 => ?_
   have H := HA.1
   clear HA
   simp only [di.l0] at H
   replace H := pu H; rcases H with ⟨c4b0, H⟩ | ⟨c4b0, H⟩
   · replace H := ji H; obtain ⟨c5b0, H⟩ := H
     replace H := ji H; obtain ⟨c6b0, H⟩ := H
     replace H := oP H; rcases H with ⟨c7, H⟩ | ⟨c7, H⟩
     · have c7b0 := beq_iff_eq.mpr c7
       have c7b1 := bne_eq_false_iff_eq.mpr c7
       clear c7
       have H' := aa.mk H
       clear H
       have TC : 0 <= (bq : Int) := OD
       have TD : bq < (l0.length : Int) := OD
       obtain ⟨asJ, e127, aeL⟩ := Kd.dx DI.1 bq TC TD
       cases e127
       replace TC := eq_true TC
       replace TD := eq_true TD
       have TE : 0 <= (bq : Int) := OD
       have TF : bq < (l1.length : Int) := OD
       obtain ⟨asK, e128, aeM⟩ := Kd.dx HR1.1 bq TE TF
       cases e128
       replace TE := eq_true TE
       replace TF := eq_true TF
       go_wp2
       repeat (go_quiet (fail); try go_wp2)
       go_roundg k1
       case measure => have := iB.1; omega
       case rel => exact ⟨(wrap64 (bq + 1)), RG, H', ⟨by have := iB.1; omega⟩, DR⟩
     have c7b0 := beq_eq_false_iff_ne.mpr c7
     have c7b1 := bne_iff_ne.mpr c7
     obtain rfl := Option.some.inj H
     have TC : 0 <= (bq : Int) := OD
     have TD : bq < (l0.length : Int) := OD
     obtain ⟨asJ, e127, aeL⟩ := Kd.dx DI.1 bq TC TD
     cases e127
     replace TC := eq_true TC
     replace TD := eq_true TD
     have TE : 0 <= (bq : Int) := OD
     have TF : bq < (l1.length : Int) := OD
     obtain ⟨asK, e128, aeM⟩ := Kd.dx HR1.1 bq TE TF
     cases e128
     replace TE := eq_true TE
     replace TF := eq_true TF
     go_wp2
     repeat (go_quiet (fail); try go_wp2)
     go_ret
     exact ⟨RG, DR⟩
   obtain rfl := Option.some.inj H
   go_wp2
   repeat (go_quiet (fail); try go_wp2)
   go_ret
   exact ⟨RG, DR⟩
 have c3b0 := beq_eq_false_iff_ne.mpr c3
 have c3b1 := bne_iff_ne.mpr c3
 have c3b2 : (l0.length == l1.length) = false := by first | simpa using c3 | (simp at c3 ⊢; omega)
 obtain rfl := Option.some.inj H
 go_enter Try.func26, Try.ntmps26
 go_wp2
 repeat (go_quiet (fail); try go_wp2)
 go_ret
 exact ⟨RG, DR⟩
def bX.l0 : Nat -> List Int -> List Int -> Int -> Option (List Int)
 | 0, _, _, _ => none
 | k + 1, x0, x3, x4 => if x4 < (x0.length : Int) then (if 0 <= x4 then (if x4 < (x3.length : Int) then (bX.l0 k x0 (x3.set (x4 : Int).toNat (rd x0 x4)) (wrap64 (x4 + 1))) else (none)) else (none)) else (some x3)
def bX.f (k : Nat) (l0 : List Int) : Option (List Int) := if 0 <= (l0.length : Int) then (if ((l0.length : Int) : Int).toNat <= 35184372088832 then (bX.l0 k l0 (List.replicate ((l0.length : Int) : Int).toNat 0) 0) else (none)) else (none)
theorem bX.mono_l : ∀ k, (∀ y0 y1 y2, dO (bX.l0 k y0 y1 y2) (bX.l0 (k + 1) y0 y1 y2))
 | 0 => fun _ _ _ r h => by simp [bX.l0] at h
 | k + 1 => by
  have ja := bX.mono_l k
  intros
  first | unfold bX.l0
  exact BA ja
theorem bX.mono : ∀ a0 k, dO (bX.f k a0) (bX.f (k + 1) a0) := by
 intro a0 k
 have ja := bX.mono_l k
 unfold bX.f
 exact BA ja
theorem bX.calls (k : Nat) (A0 : Option Addr) (c0 : Nat) (l0 : List Int) (r : List Int) (w : World) (hr0 : Kd.C (Kd.int .i64) w A0 l0.length l0) (hc0 : l0.length <= c0) (h : bX.f k l0 = some r) :
 Calls Try.prog 31 #[.slice A0 l0.length c0] w fun e w' => ∃ rO : Value, e = .returned (rO) /\ Kd.R (Kd.int .i64) 3 w' w.heap.size (fun _ => True) rO r /\ Below w.heap.size w w' := by
 have DI := aa.mk hr0
 have ZU := aa.mk hc0
 clear hr0 hc0
 have HB := aa.mk (Below.refl w.heap.size w)
 have H := h
 clear h
 unfold bX.f at H
 replace H := oC H; obtain ⟨c2, H⟩ := H
 have c2b0 := eq_true c2
 have c2b1 := decide_eq_true c2
 clear c2
 replace H := oC H; obtain ⟨c3, H⟩ := H
 have c3b0 := eq_true c3
 have c3b1 := decide_eq_true c3
 clear c3
 generalize aiI : ((List.replicate ((l0.length : Int) : Int).toNat 0) : List Int) = aEp at H
 have aiJ := aa.mk aiI.symm; clear aiI
 have H' := aa.mk H
 clear H
 go_enter Try.func31, Try.ntmps31
 go_wp2_with (first | ((with_reducible refine aC (N := 7) rfl ?_); refine yH (Kd.int .i64) _ 3 rfl (N := 7) rfl 38 _ _ rfl (l0.length : Int) rfl rfl Try.underlying38 (.int .i64 0) 8 info3 rfl (by decide) (by omega) 0 (ok := fun _ => True) (okp := fun _ => True) rfl (fun _ hk => hk) trivial (OD) (Nat.le_trans (Nat.mul_le_mul_right _ (OD : (l0.length : Int).toNat <= 35184372088832)) (by omega)) (Below.refl _ _) (Nat.le_refl _) ?_; intro aEq w4 QG hb hg_ hnew_; clear hg_ hnew_; (first | rw [<- aiJ.1] at QG | (simp only [Int.reduceToNat] at QG; rw [<- aiJ.1] at QG)); refine E2 (bN QG (bZ HB.1)) (bS HB.1 hb) ?_; clear HB; intro asL HB; clear hb QG))
 go_loopg [4] k (fun kq v4 w' => ∃ (ky : List Int) (kT : Int), v4 = .int .i64 kT /\ aa (bX.l0 kq l0 ky kT = some r) /\ aa (kq <= k) /\ aa (Kd.R (Kd.int .i64) 3 w' w.heap.size (fun _ => True) aEq ky) /\ aa (Below w.heap.size w w'))
 case atStart => exact ⟨(aEp), (0), RG, H', ⟨Nat.le_refl _⟩, ⟨PR asL.1⟩, ⟨BL HB.1⟩⟩
 clear H'
 clear c2b0 c2b1 c3b0 c3b1
 obtain ⟨ky, kT, rfl, HA, iB, HO_3, HB⟩ := hrel
 cases gk with
 | zero => exact absurd HA.1 (by simp [bX.l0])
 | succ k1 => ?_
 have H := HA.1
 clear HA
 simp only [bX.l0] at H
 replace H := pu H; rcases H with ⟨c6b0, H⟩ | ⟨c6b0, H⟩
 · replace H := ji H; obtain ⟨c7b0, H⟩ := H
   replace H := ji H; obtain ⟨c8b0, H⟩ := H
   generalize aiK : ((ky.set (kT : Int).toNat (rd l0 kT)) : List Int) = asM at H
   have asN := aa.mk aiK.symm; clear aiK
   have H' := aa.mk H
   clear H
   have ani : 0 <= (kT : Int) := OD
   have anj : kT < (l0.length : Int) := OD
   obtain ⟨aI9, aEr, Oy⟩ := Kd.dx DI.1 kT ani anj
   cases aEr
   replace Oy := (HB.1.cell (World.block_lt_of_cell? w _ Oy)).trans Oy
   replace ani := eq_true ani
   replace anj := eq_true anj
   have p9 : 0 <= (kT : Int) := OD
   have q9 : (kT : Int) < ((ky.length : Int) : Int) := OD
   obtain ⟨go9, ZI, Vm, gb9, gl9, cl9, HG9⟩ := mQ HO_3.1 (by omega)
   (first | cases Vm | (injection Vm with ea_ en_ ec_; (first | subst ea_ | (injection ea_ with ea_; subst ea_)); subst ec_; clear en_))
   have GB9 := aa.mk gb9
   have GG9 := aa.mk HG9
   clear gb9 gl9 HG9
   obtain ⟨aJc, aJd⟩ := lC 0 HO_3.1 (kT : Int) p9 q9
   replace p9 := eq_true p9
   replace q9 := eq_true q9
   have SL := qV HO_3.1 (kT : Int) (rd l0 kT)
   go_wp2_with (first | ((with_reducible refine gK (t := 3) (p := 20) rfl ?_); refine lX (t := 3) (p := 20) (w1 := (wr.setCell ⟨go9, (kT : Int).toNat, none⟩ (.int .i64 (rd l0 kT)))) ?_; intro qy hw; have hg : wr.grownBy qy (some go9) := (by rw [hw]; exact SL.2); have hp_ : Kd.R (Kd.int .i64) 3 qy w.heap.size (fun _ => True) (.slice (some ⟨go9, 0, none⟩) ky.length ZI) asM := (by rw [hw, asN.1]; exact SL.1); clear SL; refine E2 (hp_) ((by rw [hw]; exact il (HB.1) GB9.1 : Below w.heap.size w qy)) ?_; clear HO_3 HB; intro HO_3 HB; clear hg hw hp_))
   go_roundg k1
   case measure => have := iB.1; omega
   case rel => exact ⟨(asM), (wrap64 (kT + 1)), RG, H', ⟨by have := iB.1; omega⟩, ⟨PR HO_3.1⟩, ⟨BL HB.1⟩⟩
 obtain rfl := Option.some.inj H
 go_wp2
 go_ret
 exact ⟨_, RF, pm (HO_3.1), BL HB.1⟩
def jX.f (ah : Int) (af : Int) : Option (Bool) := if ah = 6 then (some true) else (some (ah == 7))
theorem jX.calls (ah : Int) (af : Int) (r : Bool) (w : World) (h : jX.f ah af = some r) :
 Calls Try.prog 91 #[.agg #[.int .i64 ah, .int .i64 af]] w fun e w' => e = .returned (.bool r) /\ Below w.heap.size w w' := by
 have xE := Try.underlying83
 have HB := aa.mk (Below.refl w.heap.size w)
 have H := h
 clear h
 unfold jX.f at H
 replace H := oP H; rcases H with ⟨c2, H⟩ | ⟨c2, H⟩
 · have c2b0 := beq_iff_eq.mpr c2
   have c2b1 := bne_eq_false_iff_eq.mpr c2
   clear c2
   obtain rfl := Option.some.inj H
   go_enter Try.func91, Try.ntmps91
   go_wp2_with (first | ((with_reducible refine aC (N := 1) rfl ?_); refine dN (cs := #[.int .i64 ah, .int .i64 af]) (t := 83) ?_; intro asO hg w3 hbox hb; refine mJ HB.1 hg hbox hb ?_; clear HB; intro HB aaQ asP asQ; clear hb hbox hg; obtain ⟨Ao, Ap, Aq, Ar⟩ := nO aaQ.1))
   go_ret
   exact ⟨RF, BL HB.1⟩
 have c2b0 := beq_eq_false_iff_ne.mpr c2
 have c2b1 := bne_iff_ne.mpr c2
 obtain rfl := Option.some.inj H
 go_enter Try.func91, Try.ntmps91
 go_wp2_with (first | ((with_reducible refine aC (N := 1) rfl ?_); refine dN (cs := #[.int .i64 ah, .int .i64 af]) (t := 83) ?_; intro asO hg w5 hbox hb; refine mJ HB.1 hg hbox hb ?_; clear HB; intro HB aaQ asP asQ; clear hb hbox hg; obtain ⟨oL, oM, oN, oO⟩ := nO aaQ.1))
 go_ret
 exact ⟨RF, BL HB.1⟩
mutual
def bH.j0 : Nat -> Int -> Int -> Int -> List Int -> Int -> Int -> List (fq) -> Option (List Int)
 | 0, _, _, _, _, _, _, _ => none
 | k + 1, x1, x5, x6, x7, FP, CP, Oz => if x6 > 0 then (if x7.length < 17592186044416 then (bH.j1 k x1 x5 x6 (x7 ++ [wrap64 (x1 - 1)]) FP CP Oz) else (none)) else (bH.j1 k x1 x5 x6 x7 FP CP Oz)
def bH.j1 : Nat -> Int -> Int -> Int -> List Int -> Int -> Int -> List (fq) -> Option (List Int)
 | 0, _, _, _, _, _, _, _ => none
 | k + 1, x1, x5, x6, x7, FP, CP, Oz => if (wrap64 (x6 + 1)) < CP then (if x7.length < 17592186044416 then ((some (x7 ++ [wrap64 (x1 + 1)] : List Int)).bind fun QL => (if (wrap64 (x5 + 1)) < FP then (if QL.length < 17592186044416 then (some (QL ++ [wrap64 (x1 + CP)])) else (none)) else (some QL))) else (none)) else (if (wrap64 (x5 + 1)) < FP then (if x7.length < 17592186044416 then (some (x7 ++ [wrap64 (x1 + CP)])) else (none)) else (some x7))
end
def bH.f (k : Nat) (ah : Int) (af : Int) (ae : List (fq)) (a1 : Int) : Option (List Int) := if af = 0 then (none) else (if (wrap64 (Int.tdiv a1 af)) > 0 then (if ([] : List Int).length < 17592186044416 then (bH.j0 k a1 (wrap64 (Int.tdiv a1 af)) (Int.tmod a1 af) (([] : List Int) ++ [wrap64 (a1 - af)]) ah af ae) else (none)) else (bH.j0 k a1 (wrap64 (Int.tdiv a1 af)) (Int.tmod a1 af) ([] : List Int) ah af ae))
theorem bH.mono_l : ∀ k, (∀ y0 y1 y2 y3 y4 y5 y6, dO (bH.j0 k y0 y1 y2 y3 y4 y5 y6) (bH.j0 (k + 1) y0 y1 y2 y3 y4 y5 y6)) /\ (∀ y0 y1 y2 y3 y4 y5 y6, dO (bH.j1 k y0 y1 y2 y3 y4 y5 y6) (bH.j1 (k + 1) y0 y1 y2 y3 y4 y5 y6))
 | 0 => by refine ⟨?_, ?_⟩ <;> (intros; intro r h; first | (simp [bH.j0] at h; done) | (simp [bH.j1] at h; done))
 | k + 1 => by
  obtain ⟨ja, ih1⟩ := bH.mono_l k
  refine ⟨?_, ?_⟩ <;> (
   intros
   first | unfold bH.j0 | unfold bH.j1
   exact Qj ja ih1)
theorem bH.mono : ∀ a0 a1 a2 a3 k, dO (bH.f k a0 a1 a2 a3) (bH.f (k + 1) a0 a1 a2 a3) := by
 intro a0 a1 a2 a3 k
 obtain ⟨ja, ih1⟩ := bH.mono_l k
 unfold bH.f
 exact Qj ja ih1
theorem bH.calls (k : Nat) (ah : Int) (af : Int) (aK : Option Addr) (aJ : Nat) (ae : List (fq)) (a1 : Int) (r : List Int) (w : World) (dH : Kd.C jZ w aK ae.length ae) (dG : ae.length <= aJ) (h : bH.f k ah af ae a1 = some r) :
 Calls Try.prog 92 #[.agg #[.int .i64 ah, .int .i64 af, .slice aK ae.length aJ], .int .i64 a1] w fun e w' => ∃ rO : Value, e = .returned (rO) /\ Kd.R (Kd.int .i64) 3 w' w.heap.size (fun _ => True) rO r /\ Below w.heap.size w w' := by
 have nH := Try.underlying30
 have bD := aa.mk dH
 have cO := aa.mk dG
 clear dH dG
 have HB := aa.mk (Below.refl w.heap.size w)
 have H := h
 clear h
 unfold bH.f at H
 replace H := oP H; rcases H with ⟨c3, H⟩ | ⟨c3, H⟩
 · exact absurd H (by simp)
 have c3b0 := beq_eq_false_iff_ne.mpr c3
 have c3b1 := bne_iff_ne.mpr c3
 have HC4 := aa.mk H
 clear H
 go_enter Try.func92, Try.ntmps92
 go_upto_if 17 with (first | ((with_reducible refine aC (N := 2) rfl ?_); refine dN (cs := #[.int .i64 ah, .int .i64 af, .slice aK ae.length aJ]) (t := 30) ?_; intro VX hg w5 hbox hb; refine mJ HB.1 hg hbox hb ?_; clear HB; intro HB eZ aiL aiM; clear hb hbox hg; obtain ⟨oL, oM, tZ, oN, oO, uf⟩ := gB eZ.1))
 repeat (go_quiet (first | ((with_reducible refine aC (N := 2) rfl ?_); refine dN (cs := #[.int .i64 ah, .int .i64 af, .slice aK ae.length aJ]) (t := 30) ?_; intro VX hg w5 hbox hb; refine mJ HB.1 hg hbox hb ?_; clear HB; intro HB eZ aiL aiM; clear hb hbox hg; obtain ⟨oL, oM, tZ, oN, oO, uf⟩ := gB eZ.1)); go_upto_if 17 with (first | ((with_reducible refine aC (N := 2) rfl ?_); refine dN (cs := #[.int .i64 ah, .int .i64 af, .slice aK ae.length aJ]) (t := 30) ?_; intro VX hg w5 hbox hb; refine mJ HB.1 hg hbox hb ?_; clear HB; intro HB eZ aiL aiM; clear hb hbox hg; obtain ⟨oL, oM, tZ, oN, oO, uf⟩ := gB eZ.1)))
 (try simp only [Act.put, List.setIfInBounds_toArray, List.set_cons_zero, List.set_cons_succ])
 go_cut [7] (fun v7 wc => ∃ (kq : Nat) (QM : List Int), aa (bH.j0 kq a1 (wrap64 (Int.tdiv a1 af)) (Int.tmod a1 af) QM ah af ae = some r) /\ aa (kq <= k) /\ aa (Kd.R (Kd.int .i64) 3 wc w.heap.size (fun _ => True) v7 QM) /\ aa (wc.heap[VX]? = some (.cells #[.int .i64 ah, .int .i64 af, (.slice aK ae.length aJ)] 30 (0, 0))) /\ aa (Below w.heap.size w wc))
 case first =>
  have H := HC4.1
  clear HC4
  replace H := oP H; rcases H with ⟨c7, H⟩ | ⟨c7, H⟩
  · have c7b0 : decide (0 < (wrap64 (Int.tdiv a1 af))) = true := decide_eq_true c7
    clear c7
    (first | rw [c7b0] | (simp only [cz, dF]; rw [c7b0]) | skip)
    replace H := oC H; obtain ⟨c8, H⟩ := H
    have anl := aa.mk c8
    clear c8
    generalize aiN : ((([] : List Int) ++ [wrap64 (a1 - af)]) : List Int) = aEt at H
    have aaR := aa.mk aiN.symm; clear aiN
    have H' := aa.mk H
    clear H
    obtain ⟨Ej, El, NS, Em, En, NT⟩ := gB eZ.1
    go_wp2_with (first | ((with_reducible refine bf (b := .append) (xs := #[.tmp 18, .tmp 23]) rfl ?_); at_builtin; refine ek (Kd.int .i64) (w0 := w) w.heap.size rfl (.tmp 18) (.tmp 23) 38 3 (.int .i64 0) 8 rfl Try.underlying38 info3 rfl (by decide) (by omega) (.slice none 0 0) ([] : List Int) (wrap64 (a1 - af)) [.int .i64 (wrap64 (a1 - af))] (fun _ => True) (fun _ => False) rfl rfl ?aP (fun _ hk => hk.elim) ?aF ?aO ?aB ?aS ?aL ?_; (case aP => exact rfl); (case aB => exact (BL HB.1)); (case aF => exact (fun _ _ => trivial)); (case aO => exact ((tO _ _ _ _ (fun _ => True)))); (case aS => exact (bZ HB.1)); (case aL => have := anl.1; omega); intro asR Hw ho hb hg hat; rw [<- aaR.1] at ho; refine E3 (bG eZ.1 hg (by simp [Value.ownBlock])) (hb) (ho) ?_; clear eZ HB; intro eZ HB aaS; clear ho hb hg hat))
    repeat (go_quiet (first | ((with_reducible refine bf (b := .append) (xs := #[.tmp 18, .tmp 23]) rfl ?_); at_builtin; refine ek (Kd.int .i64) (w0 := w) w.heap.size rfl (.tmp 18) (.tmp 23) 38 3 (.int .i64 0) 8 rfl Try.underlying38 info3 rfl (by decide) (by omega) (.slice none 0 0) ([] : List Int) (wrap64 (a1 - af)) [.int .i64 (wrap64 (a1 - af))] (fun _ => True) (fun _ => False) rfl rfl ?aP (fun _ hk => hk.elim) ?aF ?aO ?aB ?aS ?aL ?_; (case aP => exact rfl); (case aB => exact (BL HB.1)); (case aF => exact (fun _ _ => trivial)); (case aO => exact ((tO _ _ _ _ (fun _ => True)))); (case aS => exact (bZ HB.1)); (case aL => have := anl.1; omega); intro asR Hw ho hb hg hat; rw [<- aaR.1] at ho; refine E3 (bG eZ.1 hg (by simp [Value.ownBlock])) (hb) (ho) ?_; clear eZ HB; intro eZ HB aaS; clear ho hb hg hat)); try go_wp2_with (first | ((with_reducible refine bf (b := .append) (xs := #[.tmp 18, .tmp 23]) rfl ?_); at_builtin; refine ek (Kd.int .i64) (w0 := w) w.heap.size rfl (.tmp 18) (.tmp 23) 38 3 (.int .i64 0) 8 rfl Try.underlying38 info3 rfl (by decide) (by omega) (.slice none 0 0) ([] : List Int) (wrap64 (a1 - af)) [.int .i64 (wrap64 (a1 - af))] (fun _ => True) (fun _ => False) rfl rfl ?aP (fun _ hk => hk.elim) ?aF ?aO ?aB ?aS ?aL ?_; (case aP => exact rfl); (case aB => exact (BL HB.1)); (case aF => exact (fun _ _ => trivial)); (case aO => exact ((tO _ _ _ _ (fun _ => True)))); (case aS => exact (bZ HB.1)); (case aL => have := anl.1; omega); intro asR Hw ho hb hg hat; rw [<- aaR.1] at ho; refine E3 (bG eZ.1 hg (by simp [Value.ownBlock])) (hb) (ho) ?_; clear eZ HB; intro eZ HB aaS; clear ho hb hg hat)))
    go_meet
    case rel => exact ⟨_, (aEt), H', ⟨by first | omega | exact Nat.le_refl _⟩, ⟨PR aaS.1⟩, ⟨PB eZ.1⟩, ⟨BL HB.1⟩⟩
  have c7b0 : decide (0 < (wrap64 (Int.tdiv a1 af))) = false := decide_eq_false c7
  clear c7
  (first | rw [c7b0] | (simp only [cz, dF]; rw [c7b0]) | skip)
  have H' := aa.mk H
  clear H
  go_wp2
  repeat (go_quiet (fail); try go_wp2)
  go_meet
  case rel => exact ⟨_, (([] : List Int)), H', ⟨by first | omega | exact Nat.le_refl _⟩, ⟨by first | exact tO _ _ _ _ _ | exact ET _ _ _ _ _ | exact EU _ _ _ _ _ | exact EW _ _ _ _ _ | exact EY _ _ _ _ _⟩, ⟨PB eZ.1⟩, ⟨BL HB.1⟩⟩
 clear HC4
 try clear c3; clear c3b0 c3b1 oL oM tZ oN oO uf
 obtain ⟨kq, QM, HA, HJ3, HO_7, eZ, HB⟩ := hcut
 cases kq with
 | zero => exact absurd HA.1 (by simp [bH.j0])
 | succ kj3 => ?_
 have H := HA.1
 clear HA
 simp only [bH.j0] at H
 have anm := aa.mk H
 clear H
 go_upto_if 26 with (fail)
 repeat (go_quiet (fail); go_upto_if 26 with (fail))
 go_cut [7] (fun v7 wc => ∃ (kq : Nat) (yX : List Int), aa (bH.j1 kq a1 (wrap64 (Int.tdiv a1 af)) (Int.tmod a1 af) yX ah af ae = some r) /\ aa (kq <= kj3) /\ aa (Kd.R (Kd.int .i64) 3 wc w.heap.size (fun _ => True) v7 yX) /\ aa (wc.heap[VX]? = some (.cells #[.int .i64 ah, .int .i64 af, (.slice aK ae.length aJ)] 30 (0, 0))) /\ aa (Below w.heap.size w wc))
 case first =>
  have H := anm.1
  clear anm
  replace H := oP H; rcases H with ⟨c12, H⟩ | ⟨c12, H⟩
  · have c12b0 : decide (0 < (Int.tmod a1 af)) = true := decide_eq_true c12
    clear c12
    (first | rw [c12b0] | (simp only [cz, dF]; rw [c12b0]) | skip)
    replace H := oC H; obtain ⟨c13, H⟩ := H
    have QN := aa.mk c13
    clear c13
    generalize aiO : ((QM ++ [wrap64 (a1 - 1)]) : List Int) = aEv at H
    have aaT := aa.mk aiO.symm; clear aiO
    have H' := aa.mk H
    clear H
    go_wp2_with (first | ((with_reducible refine bf (b := .append) (xs := #[.tmp 27, .tmp 30]) rfl ?_); at_builtin; refine ek (Kd.int .i64) (w0 := w) w.heap.size rfl (.tmp 27) (.tmp 30) 38 3 (.int .i64 0) 8 rfl Try.underlying38 info3 rfl (by decide) (by omega) u7 QM (wrap64 (a1 - 1)) [.int .i64 (wrap64 (a1 - 1))] (fun _ => True) (fun _ => False) rfl rfl ?aP (fun _ hk => hk.elim) ?aF ?aO ?aB ?aS ?aL ?_; (case aP => exact rfl); (case aB => exact (BL HB.1)); (case aF => exact (fun _ _ => trivial)); (case aO => exact (PR HO_7.1)); (case aS => exact (bZ HB.1)); (case aL => have := QN.1; omega); intro asT yM ho hb hg hat; rw [<- aaT.1] at ho; refine E3 (bG eZ.1 hg (dK HO_7.1 eZ.1 (by decide))) (hb) (ho) ?_; clear eZ HB HO_7; intro eZ HB aaU; clear ho hb hg hat))
    repeat (go_quiet (first | ((with_reducible refine bf (b := .append) (xs := #[.tmp 27, .tmp 30]) rfl ?_); at_builtin; refine ek (Kd.int .i64) (w0 := w) w.heap.size rfl (.tmp 27) (.tmp 30) 38 3 (.int .i64 0) 8 rfl Try.underlying38 info3 rfl (by decide) (by omega) u7 QM (wrap64 (a1 - 1)) [.int .i64 (wrap64 (a1 - 1))] (fun _ => True) (fun _ => False) rfl rfl ?aP (fun _ hk => hk.elim) ?aF ?aO ?aB ?aS ?aL ?_; (case aP => exact rfl); (case aB => exact (BL HB.1)); (case aF => exact (fun _ _ => trivial)); (case aO => exact (PR HO_7.1)); (case aS => exact (bZ HB.1)); (case aL => have := QN.1; omega); intro asT yM ho hb hg hat; rw [<- aaT.1] at ho; refine E3 (bG eZ.1 hg (dK HO_7.1 eZ.1 (by decide))) (hb) (ho) ?_; clear eZ HB HO_7; intro eZ HB aaU; clear ho hb hg hat)); try go_wp2_with (first | ((with_reducible refine bf (b := .append) (xs := #[.tmp 27, .tmp 30]) rfl ?_); at_builtin; refine ek (Kd.int .i64) (w0 := w) w.heap.size rfl (.tmp 27) (.tmp 30) 38 3 (.int .i64 0) 8 rfl Try.underlying38 info3 rfl (by decide) (by omega) u7 QM (wrap64 (a1 - 1)) [.int .i64 (wrap64 (a1 - 1))] (fun _ => True) (fun _ => False) rfl rfl ?aP (fun _ hk => hk.elim) ?aF ?aO ?aB ?aS ?aL ?_; (case aP => exact rfl); (case aB => exact (BL HB.1)); (case aF => exact (fun _ _ => trivial)); (case aO => exact (PR HO_7.1)); (case aS => exact (bZ HB.1)); (case aL => have := QN.1; omega); intro asT yM ho hb hg hat; rw [<- aaT.1] at ho; refine E3 (bG eZ.1 hg (dK HO_7.1 eZ.1 (by decide))) (hb) (ho) ?_; clear eZ HB HO_7; intro eZ HB aaU; clear ho hb hg hat)))
    go_meet
    case rel => exact ⟨_, (aEv), H', ⟨by have := HJ3.1; first | omega | exact Nat.le_refl _⟩, ⟨PR aaU.1⟩, ⟨PB eZ.1⟩, ⟨BL HB.1⟩⟩
  have c12b0 : decide (0 < (Int.tmod a1 af)) = false := decide_eq_false c12
  clear c12
  (first | rw [c12b0] | (simp only [cz, dF]; rw [c12b0]) | skip)
  have H' := aa.mk H
  clear H
  go_wp2
  repeat (go_quiet (fail); try go_wp2)
  go_meet
  case rel => exact ⟨_, (QM), H', ⟨by have := HJ3.1; first | omega | exact Nat.le_refl _⟩, ⟨PR HO_7.1⟩, ⟨PB eZ.1⟩, ⟨BL HB.1⟩⟩
 clear anm
 obtain ⟨kq, yX, HA, aOh, HO_7, eZ, HB⟩ := hcut
 cases kq with
 | zero => exact absurd HA.1 (by simp [bH.j1])
 | succ aOi => ?_
 have H := HA.1
 clear HA
 simp only [bH.j1] at H
 replace H := pu H; rcases H with ⟨c15b0, H⟩ | ⟨c15b0, H⟩
 · replace H := oC H; obtain ⟨c16, H⟩ := H
   have Na := aa.mk c16
   clear c16
   replace H := nR H; obtain ⟨QL, Nb, H⟩ := H
   replace H := pu H; rcases H with ⟨c17b0, H⟩ | ⟨c17b0, H⟩
   · replace H := oC H; obtain ⟨c18, H⟩ := H
     have D7 := aa.mk c18
     clear c18
     generalize hy152 : ((QL ++ [wrap64 (a1 + af)]) : List Int) = y152 at H
     have aaV := aa.mk hy152.symm; clear hy152
     obtain rfl := Option.some.inj H
     obtain ⟨FD, FE, OA, FF, FH, OB⟩ := gB eZ.1
     go_wp2_with (first | ((with_reducible refine bf (b := .append) (xs := #[.tmp 37, .tmp 40]) rfl ?_); at_builtin; refine ek (Kd.int .i64) (w0 := w) w.heap.size rfl (.tmp 37) (.tmp 40) 38 3 (.int .i64 0) 8 rfl Try.underlying38 info3 rfl (by decide) (by omega) u7 yX (wrap64 (a1 + 1)) [.int .i64 (wrap64 (a1 + 1))] (fun _ => True) (fun _ => False) rfl rfl ?aP (fun _ hk => hk.elim) ?aF ?aO ?aB ?aS ?aL ?_; (case aP => exact rfl); (case aB => exact (BL HB.1)); (case aF => exact (fun _ _ => trivial)); (case aO => exact (PR HO_7.1)); (case aS => exact (bZ HB.1)); (case aL => have := Na.1; omega); intro QO ZJ ho hb hg hat; rw [<- Nb.1] at ho; refine E3 (bG eZ.1 hg (dK HO_7.1 eZ.1 (by decide))) (hb) (ho) ?_; clear eZ HB HO_7; intro eZ HB xf; clear ho hb hg hat; obtain ⟨uJ, uK, xK, uL, uM, xL⟩ := gB eZ.1) | ((with_reducible refine bf (b := .append) (xs := #[.tmp 47, .tmp 52]) rfl ?_); at_builtin; refine ek (Kd.int .i64) (w0 := w) w.heap.size rfl (.tmp 47) (.tmp 52) 38 3 (.int .i64 0) 8 rfl Try.underlying38 info3 rfl (by decide) (by omega) QO QL (wrap64 (a1 + af)) [.int .i64 (wrap64 (a1 + af))] (fun _ => True) (fun _ => False) rfl rfl ?aP (fun _ hk => hk.elim) ?aF ?aO ?aB ?aS ?aL ?_; (case aP => exact rfl); (case aB => exact (BL HB.1)); (case aF => exact (fun _ _ => trivial)); (case aO => exact (PR xf.1)); (case aS => exact (bZ HB.1)); (case aL => have := D7.1; omega); intro asU BM ho hb hg hat; rw [<- aaV.1] at ho; refine E3 (bG eZ.1 hg (dK xf.1 eZ.1 (by decide))) (hb) (ho) ?_; clear eZ HB xf; intro eZ HB aaW; clear ho hb hg hat))
     repeat (go_quiet (first | ((with_reducible refine bf (b := .append) (xs := #[.tmp 37, .tmp 40]) rfl ?_); at_builtin; refine ek (Kd.int .i64) (w0 := w) w.heap.size rfl (.tmp 37) (.tmp 40) 38 3 (.int .i64 0) 8 rfl Try.underlying38 info3 rfl (by decide) (by omega) u7 yX (wrap64 (a1 + 1)) [.int .i64 (wrap64 (a1 + 1))] (fun _ => True) (fun _ => False) rfl rfl ?aP (fun _ hk => hk.elim) ?aF ?aO ?aB ?aS ?aL ?_; (case aP => exact rfl); (case aB => exact (BL HB.1)); (case aF => exact (fun _ _ => trivial)); (case aO => exact (PR HO_7.1)); (case aS => exact (bZ HB.1)); (case aL => have := Na.1; omega); intro QO ZJ ho hb hg hat; rw [<- Nb.1] at ho; refine E3 (bG eZ.1 hg (dK HO_7.1 eZ.1 (by decide))) (hb) (ho) ?_; clear eZ HB HO_7; intro eZ HB xf; clear ho hb hg hat; obtain ⟨uJ, uK, xK, uL, uM, xL⟩ := gB eZ.1) | ((with_reducible refine bf (b := .append) (xs := #[.tmp 47, .tmp 52]) rfl ?_); at_builtin; refine ek (Kd.int .i64) (w0 := w) w.heap.size rfl (.tmp 47) (.tmp 52) 38 3 (.int .i64 0) 8 rfl Try.underlying38 info3 rfl (by decide) (by omega) QO QL (wrap64 (a1 + af)) [.int .i64 (wrap64 (a1 + af))] (fun _ => True) (fun _ => False) rfl rfl ?aP (fun _ hk => hk.elim) ?aF ?aO ?aB ?aS ?aL ?_; (case aP => exact rfl); (case aB => exact (BL HB.1)); (case aF => exact (fun _ _ => trivial)); (case aO => exact (PR xf.1)); (case aS => exact (bZ HB.1)); (case aL => have := D7.1; omega); intro asU BM ho hb hg hat; rw [<- aaV.1] at ho; refine E3 (bG eZ.1 hg (dK xf.1 eZ.1 (by decide))) (hb) (ho) ?_; clear eZ HB xf; intro eZ HB aaW; clear ho hb hg hat)); try go_wp2_with (first | ((with_reducible refine bf (b := .append) (xs := #[.tmp 37, .tmp 40]) rfl ?_); at_builtin; refine ek (Kd.int .i64) (w0 := w) w.heap.size rfl (.tmp 37) (.tmp 40) 38 3 (.int .i64 0) 8 rfl Try.underlying38 info3 rfl (by decide) (by omega) u7 yX (wrap64 (a1 + 1)) [.int .i64 (wrap64 (a1 + 1))] (fun _ => True) (fun _ => False) rfl rfl ?aP (fun _ hk => hk.elim) ?aF ?aO ?aB ?aS ?aL ?_; (case aP => exact rfl); (case aB => exact (BL HB.1)); (case aF => exact (fun _ _ => trivial)); (case aO => exact (PR HO_7.1)); (case aS => exact (bZ HB.1)); (case aL => have := Na.1; omega); intro QO ZJ ho hb hg hat; rw [<- Nb.1] at ho; refine E3 (bG eZ.1 hg (dK HO_7.1 eZ.1 (by decide))) (hb) (ho) ?_; clear eZ HB HO_7; intro eZ HB xf; clear ho hb hg hat; obtain ⟨uJ, uK, xK, uL, uM, xL⟩ := gB eZ.1) | ((with_reducible refine bf (b := .append) (xs := #[.tmp 47, .tmp 52]) rfl ?_); at_builtin; refine ek (Kd.int .i64) (w0 := w) w.heap.size rfl (.tmp 47) (.tmp 52) 38 3 (.int .i64 0) 8 rfl Try.underlying38 info3 rfl (by decide) (by omega) QO QL (wrap64 (a1 + af)) [.int .i64 (wrap64 (a1 + af))] (fun _ => True) (fun _ => False) rfl rfl ?aP (fun _ hk => hk.elim) ?aF ?aO ?aB ?aS ?aL ?_; (case aP => exact rfl); (case aB => exact (BL HB.1)); (case aF => exact (fun _ _ => trivial)); (case aO => exact (PR xf.1)); (case aS => exact (bZ HB.1)); (case aL => have := D7.1; omega); intro asU BM ho hb hg hat; rw [<- aaV.1] at ho; refine E3 (bG eZ.1 hg (dK xf.1 eZ.1 (by decide))) (hb) (ho) ?_; clear eZ HB xf; intro eZ HB aaW; clear ho hb hg hat)))
     go_ret
     exact ⟨_, RF, pm (aaW.1), BL HB.1⟩
   obtain rfl := Option.some.inj H
   obtain ⟨FI, FJ, FL, FM, FN, FO⟩ := gB eZ.1
   go_wp2_with (first | ((with_reducible refine bf (b := .append) (xs := #[.tmp 37, .tmp 40]) rfl ?_); at_builtin; refine ek (Kd.int .i64) (w0 := w) w.heap.size rfl (.tmp 37) (.tmp 40) 38 3 (.int .i64 0) 8 rfl Try.underlying38 info3 rfl (by decide) (by omega) u7 yX (wrap64 (a1 + 1)) [.int .i64 (wrap64 (a1 + 1))] (fun _ => True) (fun _ => False) rfl rfl ?aP (fun _ hk => hk.elim) ?aF ?aO ?aB ?aS ?aL ?_; (case aP => exact rfl); (case aB => exact (BL HB.1)); (case aF => exact (fun _ _ => trivial)); (case aO => exact (PR HO_7.1)); (case aS => exact (bZ HB.1)); (case aL => have := Na.1; omega); intro QO Mi ho hb hg hat; rw [<- Nb.1] at ho; refine E3 (bG eZ.1 hg (dK HO_7.1 eZ.1 (by decide))) (hb) (ho) ?_; clear eZ HB HO_7; intro eZ HB xf; clear ho hb hg hat; obtain ⟨CQ, CR, JB, CS, CU, JC⟩ := gB eZ.1))
   repeat (go_quiet (first | ((with_reducible refine bf (b := .append) (xs := #[.tmp 37, .tmp 40]) rfl ?_); at_builtin; refine ek (Kd.int .i64) (w0 := w) w.heap.size rfl (.tmp 37) (.tmp 40) 38 3 (.int .i64 0) 8 rfl Try.underlying38 info3 rfl (by decide) (by omega) u7 yX (wrap64 (a1 + 1)) [.int .i64 (wrap64 (a1 + 1))] (fun _ => True) (fun _ => False) rfl rfl ?aP (fun _ hk => hk.elim) ?aF ?aO ?aB ?aS ?aL ?_; (case aP => exact rfl); (case aB => exact (BL HB.1)); (case aF => exact (fun _ _ => trivial)); (case aO => exact (PR HO_7.1)); (case aS => exact (bZ HB.1)); (case aL => have := Na.1; omega); intro QO Mi ho hb hg hat; rw [<- Nb.1] at ho; refine E3 (bG eZ.1 hg (dK HO_7.1 eZ.1 (by decide))) (hb) (ho) ?_; clear eZ HB HO_7; intro eZ HB xf; clear ho hb hg hat; obtain ⟨CQ, CR, JB, CS, CU, JC⟩ := gB eZ.1)); try go_wp2_with (first | ((with_reducible refine bf (b := .append) (xs := #[.tmp 37, .tmp 40]) rfl ?_); at_builtin; refine ek (Kd.int .i64) (w0 := w) w.heap.size rfl (.tmp 37) (.tmp 40) 38 3 (.int .i64 0) 8 rfl Try.underlying38 info3 rfl (by decide) (by omega) u7 yX (wrap64 (a1 + 1)) [.int .i64 (wrap64 (a1 + 1))] (fun _ => True) (fun _ => False) rfl rfl ?aP (fun _ hk => hk.elim) ?aF ?aO ?aB ?aS ?aL ?_; (case aP => exact rfl); (case aB => exact (BL HB.1)); (case aF => exact (fun _ _ => trivial)); (case aO => exact (PR HO_7.1)); (case aS => exact (bZ HB.1)); (case aL => have := Na.1; omega); intro QO Mi ho hb hg hat; rw [<- Nb.1] at ho; refine E3 (bG eZ.1 hg (dK HO_7.1 eZ.1 (by decide))) (hb) (ho) ?_; clear eZ HB HO_7; intro eZ HB xf; clear ho hb hg hat; obtain ⟨CQ, CR, JB, CS, CU, JC⟩ := gB eZ.1)))
   go_ret
   exact ⟨_, RF, pm (xf.1), BL HB.1⟩
 replace H := pu H; rcases H with ⟨c26b0, H⟩ | ⟨c26b0, H⟩
 · replace H := oC H; obtain ⟨SE, H⟩ := H
   have QP := aa.mk SE
   clear SE
   generalize aiP : ((yX ++ [wrap64 (a1 + af)]) : List Int) = aOj at H
   have aaX := aa.mk aiP.symm; clear aiP
   obtain rfl := Option.some.inj H
   obtain ⟨VR, VS, VT, VU, VV, VW⟩ := gB eZ.1
   go_wp2_with (first | ((with_reducible refine bf (b := .append) (xs := #[.tmp 47, .tmp 52]) rfl ?_); at_builtin; refine ek (Kd.int .i64) (w0 := w) w.heap.size rfl (.tmp 47) (.tmp 52) 38 3 (.int .i64 0) 8 rfl Try.underlying38 info3 rfl (by decide) (by omega) u7 yX (wrap64 (a1 + af)) [.int .i64 (wrap64 (a1 + af))] (fun _ => True) (fun _ => False) rfl rfl ?aP (fun _ hk => hk.elim) ?aF ?aO ?aB ?aS ?aL ?_; (case aP => exact rfl); (case aB => exact (BL HB.1)); (case aF => exact (fun _ _ => trivial)); (case aO => exact (PR HO_7.1)); (case aS => exact (bZ HB.1)); (case aL => have := QP.1; omega); intro asV w29 ho hb hg hat; rw [<- aaX.1] at ho; refine E3 (bG eZ.1 hg (dK HO_7.1 eZ.1 (by decide))) (hb) (ho) ?_; clear eZ HB HO_7; intro eZ HB aaY; clear ho hb hg hat))
   repeat (go_quiet (first | ((with_reducible refine bf (b := .append) (xs := #[.tmp 47, .tmp 52]) rfl ?_); at_builtin; refine ek (Kd.int .i64) (w0 := w) w.heap.size rfl (.tmp 47) (.tmp 52) 38 3 (.int .i64 0) 8 rfl Try.underlying38 info3 rfl (by decide) (by omega) u7 yX (wrap64 (a1 + af)) [.int .i64 (wrap64 (a1 + af))] (fun _ => True) (fun _ => False) rfl rfl ?aP (fun _ hk => hk.elim) ?aF ?aO ?aB ?aS ?aL ?_; (case aP => exact rfl); (case aB => exact (BL HB.1)); (case aF => exact (fun _ _ => trivial)); (case aO => exact (PR HO_7.1)); (case aS => exact (bZ HB.1)); (case aL => have := QP.1; omega); intro asV w29 ho hb hg hat; rw [<- aaX.1] at ho; refine E3 (bG eZ.1 hg (dK HO_7.1 eZ.1 (by decide))) (hb) (ho) ?_; clear eZ HB HO_7; intro eZ HB aaY; clear ho hb hg hat)); try go_wp2_with (first | ((with_reducible refine bf (b := .append) (xs := #[.tmp 47, .tmp 52]) rfl ?_); at_builtin; refine ek (Kd.int .i64) (w0 := w) w.heap.size rfl (.tmp 47) (.tmp 52) 38 3 (.int .i64 0) 8 rfl Try.underlying38 info3 rfl (by decide) (by omega) u7 yX (wrap64 (a1 + af)) [.int .i64 (wrap64 (a1 + af))] (fun _ => True) (fun _ => False) rfl rfl ?aP (fun _ hk => hk.elim) ?aF ?aO ?aB ?aS ?aL ?_; (case aP => exact rfl); (case aB => exact (BL HB.1)); (case aF => exact (fun _ _ => trivial)); (case aO => exact (PR HO_7.1)); (case aS => exact (bZ HB.1)); (case aL => have := QP.1; omega); intro asV w29 ho hb hg hat; rw [<- aaX.1] at ho; refine E3 (bG eZ.1 hg (dK HO_7.1 eZ.1 (by decide))) (hb) (ho) ?_; clear eZ HB HO_7; intro eZ HB aaY; clear ho hb hg hat)))
   go_ret
   exact ⟨_, RF, pm (aaY.1), BL HB.1⟩
 obtain rfl := Option.some.inj H
 obtain ⟨zV, zW, Fh, zX, zY, Fj⟩ := gB eZ.1
 go_wp2
 repeat (go_quiet (fail); try go_wp2)
 go_ret
 exact ⟨_, RF, pm (HO_7.1), BL HB.1⟩
mutual
def ax.l0 : Nat -> List Int -> Int -> Int -> Int -> Int -> List (fq) -> Option (List Int)
 | 0, _, _, _, _, _, _ => none
 | k + 1, x3, xC, Qk, ng, ni, kU => if Qk < xC then (if 0 <= Qk then (if Qk < (x3.length : Int) then (ax.l0 k (x3.set (Qk : Int).toNat (-1)) xC (wrap64 (Qk + 1)) ng ni kU) else (none)) else (none)) else (ax.l1 k x3 0 kU (kU.length : Int) 0 ng ni kU)
def ax.l1 : Nat -> List Int -> Int -> List (fq) -> Int -> Int -> Int -> Int -> List (fq) -> Option (List Int)
 | 0, _, _, _, _, _, _, _, _ => none
 | k + 1, x3, x5, qx, x27, x28, ng, ni, kU => if x28 < x27 then (if 0 <= x28 then (if x28 < (qx.length : Int) then ((jX.f ((aj qx x28).f0) ((aj qx x28).f1)).bind fun asW => (if asW = true then (if x28 < (x3.length : Int) then (ax.j2 k x3 x5 x28 qx x27 x28 (decide ((rd x3 x28) ≥ 0)) ng ni kU) else (none)) else (ax.j2 k x3 x5 x28 qx x27 x28 true ng ni kU))) else (none)) else (none)) else (some x3)
def ax.j2 : Nat -> List Int -> Int -> Int -> List (fq) -> Int -> Int -> Bool -> Int -> Int -> List (fq) -> Option (List Int)
 | 0, _, _, _, _, _, _, _, _, _, _ => none
 | k + 1, x3, x5, x6, qx, x27, x28, x42, ng, ni, kU => if x42 = true then (ax.l1 k x3 x5 qx x27 (wrap64 (x28 + 1)) ng ni kU) else (if 0 <= x6 then (if x6 < (x3.length : Int) then (ax.l2 k (x3.set (x6 : Int).toNat x5) x5 (([x6] : List Int)) 0 qx x27 x28 ng ni kU) else (none)) else (none))
def ax.l2 : Nat -> List Int -> Int -> List Int -> Int -> List (fq) -> Int -> Int -> Int -> Int -> List (fq) -> Option (List Int)
 | 0, _, _, _, _, _, _, _, _, _, _ => none
 | k + 1, x3, x5, x8, x9, qx, x27, x28, ng, ni, kU => if x9 < (x8.length : Int) then (if 0 <= x9 then ((bH.f k ng ni kU (rd x8 x9)).bind fun lD => (ax.l3 k x3 x5 x8 x9 qx x27 x28 lD (lD.length : Int) 0 ng ni kU)) else (none)) else (ax.l1 k x3 (wrap64 (x5 + 1)) qx x27 (wrap64 (x28 + 1)) ng ni kU)
def ax.l3 : Nat -> List Int -> Int -> List Int -> Int -> List (fq) -> Int -> Int -> List Int -> Int -> Int -> Int -> Int -> List (fq) -> Option (List Int)
 | 0, _, _, _, _, _, _, _, _, _, _, _, _, _ => none
 | k + 1, x3, x5, x8, x9, qx, x27, x28, KU, DN, QQ, ng, ni, kU => if QQ < DN then (if 0 <= QQ then (if QQ < (KU.length : Int) then (if 0 <= (rd KU QQ) then (if (rd KU QQ) < (kU.length : Int) then ((jX.f ((aj kU (rd KU QQ)).f0) ((aj kU (rd KU QQ)).f1)).bind fun asX => (if asX = true then (if (rd KU QQ) < (x3.length : Int) then (if (rd x3 (rd KU QQ)) < 0 then (if x8.length < 17592186044416 then (ax.l3 k (x3.set ((rd KU QQ) : Int).toNat x5) x5 (x8 ++ [rd KU QQ]) x9 qx x27 x28 KU DN (wrap64 (QQ + 1)) ng ni kU) else (none)) else (ax.l3 k x3 x5 x8 x9 qx x27 x28 KU DN (wrap64 (QQ + 1)) ng ni kU)) else (none)) else (ax.l3 k x3 x5 x8 x9 qx x27 x28 KU DN (wrap64 (QQ + 1)) ng ni kU))) else (none)) else (none)) else (none)) else (none)) else (ax.l2 k x3 x5 x8 (wrap64 (x9 + 1)) qx x27 x28 ng ni kU)
end
def ax.f (k : Nat) (ah : Int) (af : Int) (ae : List (fq)) : Option (List Int) := if 0 <= (ae.length : Int) then (if ((ae.length : Int) : Int).toNat <= 35184372088832 then ((some (List.replicate ((ae.length : Int) : Int).toNat 0 : List Int)).bind fun y159 => (ax.l0 k y159 (y159.length : Int) 0 ah af ae)) else (none)) else (none)
theorem ax.mono_l : ∀ k, (∀ y0 y1 y2 y3 y4 y5, dO (ax.l0 k y0 y1 y2 y3 y4 y5) (ax.l0 (k + 1) y0 y1 y2 y3 y4 y5)) /\ (∀ y0 y1 y2 y3 y4 y5 y6 y7, dO (ax.l1 k y0 y1 y2 y3 y4 y5 y6 y7) (ax.l1 (k + 1) y0 y1 y2 y3 y4 y5 y6 y7)) /\ (∀ y0 y1 y2 y3 y4 y5 y6 y7 y8 y9, dO (ax.j2 k y0 y1 y2 y3 y4 y5 y6 y7 y8 y9) (ax.j2 (k + 1) y0 y1 y2 y3 y4 y5 y6 y7 y8 y9)) /\ (∀ y0 y1 y2 y3 y4 y5 y6 y7 y8 y9, dO (ax.l2 k y0 y1 y2 y3 y4 y5 y6 y7 y8 y9) (ax.l2 (k + 1) y0 y1 y2 y3 y4 y5 y6 y7 y8 y9)) /\ (∀ y0 y1 y2 y3 y4 y5 y6 y7 y8 y9 IG MV Vr, dO (ax.l3 k y0 y1 y2 y3 y4 y5 y6 y7 y8 y9 IG MV Vr) (ax.l3 (k + 1) y0 y1 y2 y3 y4 y5 y6 y7 y8 y9 IG MV Vr))
 | 0 => by refine ⟨?_, ?_, ?_, ?_, ?_⟩ <;> (intros; intro r h; first | (simp [ax.l0] at h; done) | (simp [ax.l1] at h; done) | (simp [ax.j2] at h; done) | (simp [ax.l2] at h; done) | (simp [ax.l3] at h; done))
 | k + 1 => by
  obtain ⟨ja, ih1, ih2, ih3, ih4⟩ := ax.mono_l k
  refine ⟨?_, ?_, ?_, ?_, ?_⟩ <;> (
   intros
   first | unfold ax.l0 | unfold ax.l1 | unfold ax.j2 | unfold ax.l2 | unfold ax.l3
   exact LM6 ja ih1 ih2 ih3 ih4 bH.mono)
theorem ax.mono : ∀ a0 a1 a2 k, dO (ax.f k a0 a1 a2) (ax.f (k + 1) a0 a1 a2) := by
 intro a0 a1 a2 k
 obtain ⟨ja, ih1, ih2, ih3, ih4⟩ := ax.mono_l k
 unfold ax.f
 exact LM6 ja ih1 ih2 ih3 ih4 bH.mono
def ax.T17 : Bool × List (List Nat × List Nat) := (true, [([], []), ([], []), ([], []), ([1, 2], [1, 2]), ([3], [3]), ([0, 4], [0, 4]), ([5], [5]), ([], [])])
def ax.B17 : List Nat := [0, 0, 0, 6, 14, 31, 63, 0]
theorem ax.aaZ : mX .any (opsOf Try.f80 17) = ax.T17 := by kernel_rfl
theorem ax.bits17 : kr ax.T17.2 ax.B17 = true := by kernel_rfl
theorem ax.calls (k : Nat) (ah : Int) (af : Int) (aK : Option Addr) (aJ : Nat) (ae : List (fq)) (r : List Int) (w : World) (dH : Kd.C jZ w aK ae.length ae) (dG : ae.length <= aJ) (h : ax.f k ah af ae = some r) :
 Calls Try.prog 80 #[.agg #[.int .i64 ah, .int .i64 af, .slice aK ae.length aJ]] w fun e w' => ∃ rO : Value, e = .returned (rO) /\ Kd.R (Kd.int .i64) 3 w' w.heap.size (fun _ => True) rO r /\ Below w.heap.size w w' := by
 have nH := Try.underlying30
 have xE := Try.underlying83
 have bD := aa.mk dH
 have cO := aa.mk dG
 clear dH dG
 have HB := aa.mk (Below.refl w.heap.size w)
 have H := h
 clear h
 unfold ax.f at H
 replace H := oC H; obtain ⟨c2, H⟩ := H
 have c2b0 := eq_true c2
 have c2b1 := decide_eq_true c2
 clear c2
 replace H := oC H; obtain ⟨c3, H⟩ := H
 have c3b0 := eq_true c3
 have c3b1 := decide_eq_true c3
 clear c3
 replace H := nR H; obtain ⟨y159, aiQ, H⟩ := H
 have H' := aa.mk H
 clear H
 go_enter Try.func80, Try.ntmps80
 go_wp2_with (first | ((with_reducible refine aC (N := 1) rfl ?_); refine dN (cs := #[.int .i64 ah, .int .i64 af, .slice aK ae.length aJ]) (t := 30) ?_; intro D8 hg w4 hbox hb; refine mJ HB.1 hg hbox hb ?_; clear HB; intro HB fD aJe aJf; clear hb hbox hg; obtain ⟨Au, Av, EA, Aw, Ay, EB⟩ := gB fD.1) | ((with_reducible refine aC (N := 15) rfl ?_); refine yH (Kd.int .i64) _ 3 rfl (N := 15) rfl 38 _ _ rfl (ae.length : Int) rfl rfl Try.underlying38 (.int .i64 0) 8 info3 rfl (by decide) (by omega) 0 (ok := fun _ => True) (okp := fun _ => True) rfl (fun _ hk => hk) trivial (OD) (Nat.le_trans (Nat.mul_le_mul_right _ (OD : (ae.length : Int).toNat <= 35184372088832)) (by omega)) (Below.refl _ _) (Nat.le_refl _) ?_; intro v160 w6 yY hb hg_ hnew_; clear hg_ hnew_; (first | rw [<- aiQ.1] at yY | (simp only [Int.reduceToNat] at yY; rw [<- aiQ.1] at yY)); refine E3 (bN yY (bZ HB.1)) (bB fD.1 hb) (bS HB.1 hb) ?_; clear fD HB; intro aiR fD HB; clear hb yY; obtain ⟨Ao8, yZ, eo8⟩ := bv aiR.1; subst eo8))
 go_loopg [18] k (fun kq v18 w' => ∃ (ky : List Int) (qF : Int), v18 = .int .i64 qF /\ aa (ax.l0 kq ky (y159.length : Int) qF ah af ae = some r) /\ aa (kq <= k) /\ aa (Kd.R (Kd.int .i64) 3 w' w.heap.size (fun _ => True) (.slice Ao8 y159.length yZ) ky) /\ aa (w'.heap[D8]? = some (.cells #[.int .i64 ah, .int .i64 af, (.slice aK ae.length aJ)] 30 (0, 0))) /\ aa (Below w.heap.size w w'))
 case atStart => exact ⟨(y159), (0), RG, H', ⟨Nat.le_refl _⟩, ⟨PR aiR.1⟩, ⟨PB fD.1⟩, ⟨BL HB.1⟩⟩
 clear H'
 clear c2b0 c2b1 c3b0 c3b1 Au Av EA Aw Ay EB
 obtain ⟨ky, qF, rfl, HA, iB, HO_3, fD, HB⟩ := hrel
 have dU := (ay HO_3.1).1
 rw [dU] at HO_3
 (try simp only [dU])
 (try simp only [dU] at fD)
 cases gk with
 | zero => exact absurd HA.1 (by simp [ax.l0])
 | succ k1 => ?_
 have H := HA.1
 clear HA
 simp only [ax.l0] at H
 replace H := pu H; rcases H with ⟨c9b0, H⟩ | ⟨c9b0, H⟩
 · replace H := ji H; obtain ⟨c10b0, H⟩ := H
   replace H := ji H; obtain ⟨c11b0, H⟩ := H
   generalize aiS : ((ky.set (qF : Int).toNat (-1)) : List Int) = asZ at H
   have as0 := aa.mk aiS.symm; clear aiS
   have H' := aa.mk H
   clear H
   have SF : 0 <= (qF : Int) := OD
   have SG : (qF : Int) < ((ky.length : Int) : Int) := OD
   obtain ⟨tL, rM, vF, KV, TG, ano, KW⟩ := mQ HO_3.1 (by omega)
   (first | cases vF | (injection vF with ea_ en_ ec_; (first | subst ea_ | (injection ea_ with ea_; subst ea_)); subst ec_; clear en_))
   have QR := aa.mk KV
   have anp := aa.mk KW
   clear KV TG KW
   obtain ⟨Ib, KR⟩ := lC 0 HO_3.1 (qF : Int) SF SG
   replace SF := eq_true SF
   replace SG := eq_true SG
   have KX := qV HO_3.1 (qF : Int) (-1)
   go_wp2_with (first | ((with_reducible refine gK (t := 3) (p := 23) rfl ?_); refine lX (t := 3) (p := 23) (w1 := (wr.setCell ⟨tL, (qF : Int).toNat, none⟩ (.int .i64 (-1)))) ?_; intro yM hw; have hg : wr.grownBy yM (some tL) := (by rw [hw]; exact KX.2); have hp_ : Kd.R (Kd.int .i64) 3 yM w.heap.size (fun _ => True) (.slice (some ⟨tL, 0, none⟩) ky.length yZ) asZ := (by rw [hw, as0.1]; exact KX.1); clear KX; refine E3 (hp_) (bG fD.1 hg (dK HO_3.1 fD.1 (by decide))) ((by rw [hw]; exact il (HB.1) QR.1 : Below w.heap.size w yM)) ?_; clear HO_3 fD HB; intro HO_3 fD HB; clear hg hw hp_))
   (try simp only [<- dU])
   go_roundg k1
   case measure => have := iB.1; omega
   case rel => exact ⟨(asZ), (wrap64 (qF + 1)), RG, H', ⟨by have := iB.1; omega⟩, ⟨ER HO_3.1 dU⟩, ⟨Er fD.1 dU⟩, ⟨BL HB.1⟩⟩
 (try simp only [dU] at c9b0)
 have H' := aa.mk H
 clear H
 obtain ⟨sD, sF, wN, sG, sH, wO⟩ := gB fD.1
 go_wp2
 go_loopg [5, 28] k1 (fun kq v5 v28 w' => ∃ (sI : List Int) (ol : Int) (dV : Int), v5 = .int .i64 ol /\ v28 = .int .i64 dV /\ aa (ax.l1 kq sI ol ae (ae.length : Int) dV ah af ae = some r) /\ aa (kq <= k1) /\ aa (Kd.R (Kd.int .i64) 3 w' w.heap.size (fun _ => True) (.slice Ao8 ky.length yZ) sI) /\ aa (w'.heap[D8]? = some (.cells #[.int .i64 ah, .int .i64 af, (.slice aK ae.length aJ)] 30 (0, 0))) /\ aa (Below w.heap.size w w'))
 case atStart => exact ⟨(ky), (0), (0), RG, RG, H', ⟨Nat.le_refl _⟩, ⟨ER HO_3.1 dU⟩, ⟨Er fD.1 dU⟩, ⟨BL HB.1⟩⟩
 clear H'
 clear c9b0 sD sF wN sG sH wO
 obtain ⟨sI, ol, dV, rfl, rfl, HA, nG, HO_3, fD, HB⟩ := hrel
 have eO := (ay HO_3.1).1
 rw [eO] at HO_3
 (try simp only [eO])
 (try simp only [eO] at fD)
 cases gk with
 | zero => exact absurd HA.1 (by simp [ax.l1])
 | succ k2 => ?_
 have H := HA.1
 clear HA
 simp only [ax.l1] at H
 replace H := pu H; rcases H with ⟨c16b0, H⟩ | ⟨c16b0, H⟩
 · replace H := ji H; obtain ⟨c17b0, H⟩ := H
   replace H := ji H; obtain ⟨c18b0, H⟩ := H
   have TH := aa.mk H
   clear H
   have aeN : 0 <= (dV : Int) := OD
   have aeO : dV < (ae.length : Int) := OD
   obtain ⟨D9, aEy, JD, JE⟩ := iP bD.1 dV aeN aeO
   cases aEy
   replace JD := (HB.1.cell (World.block_lt_of_cell? w _ JD)).trans JD
   replace JE := (HB.1.cell (World.block_lt_of_cell? w _ JE)).trans JE
   replace aeN := eq_true aeN
   replace aeO := eq_true aeO
   go_upto_region 11 with (first | ((with_reducible refine aC (N := 7) rfl ?_); refine dN (cs := #[.int .i64 0, .int .i64 0]) (t := 83) ?_; intro FQ hg ZJ hbox hb; refine E8 (rB HO_3.1 hb) (bB fD.1 hb) (bS HB.1 hb) (hbox) (gX HB.1 hg) (gX HB.1 hg) (nB fD.1 hg) (nC fD.1 hg) ?_; clear HO_3 fD HB; intro HO_3 fD HB jd aJg aJh Ie Yt; clear hb hbox hg; have aaO := Yt.1; have aaP := Ie.1; obtain ⟨wJ, wK, wL, wM⟩ := nO jd.1))
   (try simp only [Act.put, List.setIfInBounds_toArray, List.set_cons_zero, List.set_cons_succ])
   go_cut [42] (fun v42 wc => ∃ (kq : Nat) (EC : Bool), v42 = .bool EC /\ aa (ax.j2 kq sI ol dV ae (ae.length : Int) dV EC ah af ae = some r) /\ aa (kq <= k2) /\ aa (Kd.R (Kd.int .i64) 3 wc w.heap.size (fun _ => True) (.slice Ao8 sI.length yZ) sI) /\ aa (wc.heap[D8]? = some (.cells #[.int .i64 ah, .int .i64 af, (.slice (some D9) ae.length aJ)] 30 (0, 0))) /\ aa (wc.heap[FQ]? = some (.cells #[.int .i64 ((aj ae dV).f0), .int .i64 ((aj ae dV).f1)] 83 (0, 0))) /\ aa (Below w.heap.size w wc))
   case first =>
    have H := TH.1
    clear TH
    replace H := dz H; obtain ⟨asW, A23, H⟩ := H
    replace H := Cm H; rcases H with ⟨rfl, H⟩ | ⟨rfl, H⟩
    · replace H := ji H; obtain ⟨c25b0, H⟩ := H
      (first | rw [c25b0] | (simp only [cz, dF]; rw [c25b0]) | skip)
      have H' := aa.mk H
      clear H
      obtain ⟨Aj, Ak, Al, Am⟩ := nO jd.1
      go_wp2_with (first | ((with_reducible refine aA (f := 91) rfl ?_); refine cK (N := (some 34)) #[.agg #[.int .i64 ((aj ae dV).f0), .int .i64 ((aj ae dV).f1)]] Try.func91 ?_; (with_reducible refine (jX.calls ((aj ae dV).f0) ((aj ae dV).f1) true _ A23.1).mono ?_); rintro e w28 ⟨rfl, hb⟩; refine ⟨_, rfl, ?_⟩; refine E4 (jf (by (with_reducible repeat (first | apply aV | apply aW | apply aQ)); exact (aG (RQ FQ 1 (RQ FQ 0 (bz HO_3.1 jd.1 (by decide)) _) _) (fun _ h_ => h_.1))) hb) (dh (g := D8) (o := .cells #[.int .i64 ah, .int .i64 af, .slice (some D9) ae.length aJ] 30 (0, 0)) (xB Ie.1 fD.1) hb) (dh (g := FQ) (o := .cells #[.int .i64 ((aj ae dV).f0), .int .i64 ((aj ae dV).f1)] 83 (0, 0)) (BB jd.1) hb) (bS HB.1 hb) ?_; clear HO_3 fD jd HB; intro HO_3 fD jd HB; (try clear hb); have anr : 0 <= (dV : Int) := OD; have ant : dV < (sI.length : Int) := OD; obtain ⟨aJi, e166, azt⟩ := Kd.dx (ay HO_3.1).2.2 dV anr ant; cases e166; replace anr := eq_true anr; replace ant := eq_true ant))
      go_meet
      case rel => exact ⟨_, (decide ((rd sI dV) ≥ 0)), RG, H', ⟨by have := iB.1; have := nG.1; first | omega | exact Nat.le_refl _⟩, ⟨MZ HO_3.1 dU eO⟩, ⟨HY fD.1 dU eO⟩, ⟨HY jd.1 dU eO⟩, ⟨BL HB.1⟩⟩
    have H' := aa.mk H
    clear H
    obtain ⟨zV, zW, zX, zY⟩ := nO jd.1
    go_wp2_with (first | ((with_reducible refine aA (f := 91) rfl ?_); refine cK (N := (some 34)) #[.agg #[.int .i64 ((aj ae dV).f0), .int .i64 ((aj ae dV).f1)]] Try.func91 ?_; (with_reducible refine (jX.calls ((aj ae dV).f0) ((aj ae dV).f1) false _ A23.1).mono ?_); rintro e w31 ⟨rfl, hb⟩; refine ⟨_, rfl, ?_⟩; refine E4 (jf (by (with_reducible repeat (first | apply aV | apply aW | apply aQ)); exact (aG (RQ FQ 1 (RQ FQ 0 (bz HO_3.1 jd.1 (by decide)) _) _) (fun _ h_ => h_.1))) hb) (dh (g := D8) (o := .cells #[.int .i64 ah, .int .i64 af, .slice (some D9) ae.length aJ] 30 (0, 0)) (xB Ie.1 fD.1) hb) (dh (g := FQ) (o := .cells #[.int .i64 ((aj ae dV).f0), .int .i64 ((aj ae dV).f1)] 83 (0, 0)) (BB jd.1) hb) (bS HB.1 hb) ?_; clear HO_3 fD jd HB; intro HO_3 fD jd HB; (try clear hb)))
    go_meet
    case rel => exact ⟨_, (true), RG, H', ⟨by have := iB.1; have := nG.1; first | omega | exact Nat.le_refl _⟩, ⟨MZ HO_3.1 dU eO⟩, ⟨HY fD.1 dU eO⟩, ⟨HY jd.1 dU eO⟩, ⟨BL HB.1⟩⟩
   clear TH
   try clear JD; try clear JE; try clear aeN; try clear aeO; clear c16b0 c17b0 c18b0 wJ wK wL wM
   obtain ⟨kq, EC, rfl, HA, vG, HO_3, fD, jd, HB⟩ := hcut
   cases kq with
   | zero => exact absurd HA.1 (by simp [ax.j2])
   | succ TI => ?_
   have H := HA.1
   clear HA
   simp only [ax.j2] at H
   replace H := Cm H; rcases H with ⟨rfl, H⟩ | ⟨rfl, H⟩
   · have H' := aa.mk H
     clear H
     go_wp2
     (try simp only [<- eO])
     go_roundg TI
     case measure => have := iB.1; have := nG.1; have := vG.1; omega
     case rel => exact ⟨(sI), (ol), (wrap64 (dV + 1)), RG, RG, H', ⟨by have := iB.1; have := nG.1; have := vG.1; omega⟩, ⟨MZ HO_3.1 dU eO⟩, ⟨HY fD.1 dU eO⟩, ⟨BL HB.1⟩⟩
   replace H := ji H; obtain ⟨c33b0, H⟩ := H
   replace H := ji H; obtain ⟨c34b0, H⟩ := H
   generalize hy167 : ((sI.set (dV : Int).toNat ol) : List Int) = y167 at H
   have as1 := aa.mk hy167.symm; clear hy167
   generalize hy168 : ((([dV] : List Int)) : List Int) = y168 at H
   have aiU := aa.mk hy168.symm; clear hy168
   have H' := aa.mk H
   clear H
   have p35 : 0 <= (dV : Int) := OD
   have q35 : (dV : Int) < ((sI.length : Int) : Int) := OD
   obtain ⟨nP, ED, Mv, aa0, anu, aEz, aa1⟩ := mQ HO_3.1 (by omega)
   (first | cases Mv | (injection Mv with ea_ en_ ec_; (first | subst ea_ | (injection ea_ with ea_; subst ea_)); subst ec_; clear en_))
   have aa2 := aa.mk aa0
   have aEA := aa.mk aa1
   clear aa0 anu aa1
   obtain ⟨TJ, anv⟩ := lC 0 HO_3.1 (dV : Int) p35 q35
   replace p35 := eq_true p35
   replace q35 := eq_true q35
   have TK := qV HO_3.1 (dV : Int) ol
   go_wp2_with (first | ((with_reducible refine gK (t := 3) (p := 46) rfl ?_); refine lX (t := 3) (p := 46) (w1 := (wc.setCell ⟨nP, (dV : Int).toNat, none⟩ (.int .i64 ol))) ?_; intro Mw hw; have hg : wc.grownBy Mw (some nP) := (by rw [hw]; exact TK.2); have hp_ : Kd.R (Kd.int .i64) 3 Mw w.heap.size (fun _ => True) (.slice (some ⟨nP, 0, none⟩) sI.length yZ) y167 := (by rw [hw, as1.1]; exact TK.1); clear TK; refine E4 (hp_) (bG fD.1 hg (dK HO_3.1 fD.1 (by decide))) (bG jd.1 hg (dK HO_3.1 jd.1 (by decide))) ((by rw [hw]; exact il (HB.1) aa2.1 : Below w.heap.size w Mw)) ?_; clear HO_3 fD jd HB; intro HO_3 fD jd HB; clear hg hw hp_) | ((with_reducible refine aC (N := 48) rfl ?_); refine qh (Kd.int .i64) _ 3 ?hg (N := 48) ?hd (xs := ([dV] : List Int)) (inner := [.int .i64 dV]) (ok := fun _ => True) (okp := fun _ => True) ?hr ?hp (fun _ hk => hk) trivial (Below.refl _ _) (Nat.le_refl _) (by simp) ?_; (case hd => rfl); (case hg => rfl); (case hr => first | (go_simp; done) | (go_simp; rfl)); (case hp => exact (fK.one (show Kd.M (Kd.int .i64) _ _ _ dV [.int .i64 dV] from rfl) (fK.none _ _))); intro aOk Nc Ig hb hg_ hnew_; clear hg_ hnew_; (first | rw [<- aiU.1] at Ig | (simp only [Int.reduceToNat] at Ig; rw [<- aiU.1] at Ig)); refine E5 (eT (PR HO_3.1) (fe Ig) hb) (bN (iI Ig (iL (PR HO_3.1))) (bZ HB.1)) (bB fD.1 hb) (bB jd.1 hb) (bS HB.1 hb) ?_; clear HO_3 fD jd HB; intro HO_3 as2 fD jd HB; clear hb Ig))
   go_loopg [8, 9] TI (fun kq v8 v9 w' => ∃ (BK : List Int) (uW : List Int) (I5 : Int), v9 = .int .i64 I5 /\ aa (ax.l2 kq BK ol uW I5 ae (ae.length : Int) dV ah af ae = some r) /\ aa (kq <= TI) /\ aa (Kd.R (Kd.int .i64) 3 w' w.heap.size (fun k_ => some k_ ≠ (v8 : Value).ownBlock) (.slice (some ⟨nP, 0, none⟩) sI.length yZ) BK) /\ aa (Kd.R (Kd.int .i64) 3 w' w.heap.size (fun k_ => some k_ ≠ ((.slice (some ⟨nP, 0, none⟩) sI.length yZ) : Value).ownBlock) v8 uW) /\ aa (w'.heap[D8]? = some (.cells #[.int .i64 ah, .int .i64 af, (.slice (some D9) ae.length aJ)] 30 (0, 0))) /\ aa (w'.heap[FQ]? = some (.cells #[.int .i64 ((aj ae dV).f0), .int .i64 ((aj ae dV).f1)] 83 (0, 0))) /\ aa (Below w.heap.size w w'))
   case atStart => exact ⟨(y167), (y168), (0), RG, H', ⟨Nat.le_refl _⟩, ⟨by (try simp only [dU]); (try simp only [eO]); (with_reducible repeat (first | apply aV | apply aW | apply aQ)); exact aG HO_3.1 (fun _ hk => hk.2)⟩, ⟨by (try simp only [dU]); (try simp only [eO]); (with_reducible repeat (first | apply aV | apply aW | apply aQ)); exact aG as2.1 (fun _ hk => hk.2)⟩, ⟨HY fD.1 dU eO⟩, ⟨HY jd.1 dU eO⟩, ⟨BL HB.1⟩⟩
   clear H'
   try clear p35; try clear q35; try clear TJ; clear c33b0 c34b0
   obtain ⟨BK, uW, I5, rfl, HA, Mx, HO_3, HO_8, fD, jd, HB⟩ := hrel
   have gG := (ay HO_3.1).1
   rw [gG] at HO_3
   (try simp only [gG])
   (try simp only [gG] at fD)
   (try simp only [gG] at jd)
   (try simp only [gG] at HO_8)
   cases gk with
   | zero => exact absurd HA.1 (by simp [ax.l2])
   | succ k4 => ?_
   have H := HA.1
   clear HA
   simp only [ax.l2] at H
   replace H := pu H; rcases H with ⟨c40b0, H⟩ | ⟨c40b0, H⟩
   · replace H := ji H; obtain ⟨c41b0, H⟩ := H
     replace H := dz H; obtain ⟨lD, A42, H⟩ := H
     have H' := aa.mk H
     clear H
     obtain ⟨aEC, Yu, Yv⟩ := bv HO_8.1
     subst Yv
     try go_wp2
     refine E5 (aQ HO_3.1) (aQ HO_8.1) (ag fD.1) (ag jd.1) (dm HB.1) ?_
     clear HO_3 HO_8 fD jd HB
     intro HO_3 HO_8 fD jd HB
     have aeQ : 0 <= (I5 : Int) := OD
     have aeR : I5 < (uW.length : Int) := OD
     obtain ⟨as3, aED, OC⟩ := Kd.dx (ay HO_8.1).2.2 I5 aeQ aeR
     cases aED
     replace aeQ := eq_true aeQ
     replace aeR := eq_true aeR
     refine jN (n := 8) (S := fun w' => w'.cell? ⟨D8, 0, none⟩ = some (.int .i64 ah) /\ w'.cell? ⟨D8, 1, none⟩ = some (.int .i64 af) /\ w'.cell? ⟨D8, 2, none⟩ = some (.slice (some D9) ae.length aJ) /\ w'.cell? (as3.add (I5).toNat) = some (.int .i64 (rd uW I5))) (ds := []) #[Zz,Zz,Zz,Zz,Zz,Zz,Zz,Zz] (by kernel_rfl) rfl rfl ⟨(ai fD.1 0).trans rfl, (ai fD.1 1).trans rfl, (ai fD.1 2).trans rfl, OC⟩ (fun hHeld => ?_); refine iq ax.aaZ ax.bits17 (fun HT_ HW_ => ?_)
     generalize wr.drew = w44 at HO_3 HO_8 fD jd HB OC hHeld ⊢
     refine aU 1 (N := some 56) HT_.1 ?_
     refine aU 2 (N := some 57) HT_.1 ?_
     refine aU 3 (N := some 58) HT_.1 ?_
     refine aU 7 (N := some 62) HT_.1 ?_
     refine gF 0 (N := some 55) HT_.1 HW_.1 hHeld ?_
     refine gF 4 (N := some 59) HT_.1 HW_.1 hHeld ?_
     refine mV (i := 5) (N := some 60) #[Yy,Yy,Yy,Yy,Yy,Yy,Zz,Yy] rfl rfl (jc HT_.1 (by kernel_rfl)) (by decide) (fun K hK => ?_)
     refine nA Try.func92 (by kernel_rfl) rfl #[.agg #[.int .i64 ah, .int .i64 af, .slice (some D9) ae.length aJ], .int .i64 (rd uW I5)] (by rfl) rfl rfl (by (try simp only [List.map_toArray, List.map_cons, List.map_nil]); first | done | rfl | (simp only [List.length_drop, List.length_take]; rfl)) ?_
     with_reducible refine (bH.calls k4 ah af _ _ ae (rd uW I5) lD _ ?side1 ?side2 A42.1).mono ?_
     (case side1 => exact CB (aY bD.1 HB.1))
     (case side2 => exact cO.1)
     rintro e w45 ⟨v173, rfl, ho0, hb⟩
     have xF := (hb.cell (World.block_lt_of_cell? _ _ (hHeld.2.2.2))).trans (hHeld.2.2.2)
     refine ⟨_, rfl, ?_⟩
     refine E6 (eT (PR HO_3.1) (fe ho0) hb) (eT (PR HO_8.1) (fe ho0) hb) (bN (iI (iI ho0 (iL (PR HO_3.1))) (iL (PR HO_8.1))) (bZ HB.1)) (bB fD.1 hb) (bB jd.1 hb) (bS HB.1 hb) ?_
     clear HO_3 HO_8 fD jd HB
     intro HO_3 HO_8 aiV fD jd HB
     (try clear hb)
     (try clear hb2)
     (try clear hk)
     (try clear hi)
     (try clear ho0)
     obtain ⟨aa3, OE, aa4⟩ := bv aiV.1
     (first | subst aa4 | (injection aa4 with rY zZ rZ; have z8 := rY.symm; have Aa := rZ.symm; clear rY zZ rZ; subst z8; subst Aa))
     refine hK.out _ _ ⟨(ai fD.1 0).trans rfl, (ai fD.1 1).trans rfl, (ai fD.1 2).trans rfl, xF⟩ (fun hHeld => ?_)
     clear hK K
     refine eX (a' := ?_) ?_ ?_
     rotate_left
     · show Act.put _ (some 60) _ = _
       simp only [Act.put, List.setIfInBounds_toArray, List.set_cons_zero, List.set_cons_succ, cz, dF]
       rfl
     refine aU 6 (N := some 61) HT_.1 ?_
     refine lI (jS HT_.1 (by kernel_rfl)) ?_
     try go_wp2
     go_loopg [8, 62] k4 (fun kq v8 v62 w' => ∃ (pI : List Int) (Cb : List Int) (jk : Int), v62 = .int .i64 jk /\ aa (ax.l3 kq pI ol Cb I5 ae (ae.length : Int) dV lD (lD.length : Int) jk ah af ae = some r) /\ aa (kq <= k4) /\ aa (Kd.R (Kd.int .i64) 3 w' w.heap.size (fun k_ => some k_ ≠ (v8 : Value).ownBlock /\ some k_ ≠ ((.slice aa3 lD.length OE) : Value).ownBlock) (.slice (some ⟨nP, 0, none⟩) BK.length yZ) pI) /\ aa (Kd.R (Kd.int .i64) 3 w' w.heap.size (fun k_ => some k_ ≠ ((.slice (some ⟨nP, 0, none⟩) BK.length yZ) : Value).ownBlock /\ some k_ ≠ ((.slice aa3 lD.length OE) : Value).ownBlock) v8 Cb) /\ aa (Kd.R (Kd.int .i64) 3 w' w.heap.size (fun k_ => some k_ ≠ ((.slice (some ⟨nP, 0, none⟩) BK.length yZ) : Value).ownBlock /\ some k_ ≠ (v8 : Value).ownBlock) (.slice aa3 lD.length OE) lD) /\ aa (w'.heap[D8]? = some (.cells #[.int .i64 ah, .int .i64 af, (.slice (some D9) ae.length aJ)] 30 (0, 0))) /\ aa (w'.heap[FQ]? = some (.cells #[.int .i64 ((aj ae dV).f0), .int .i64 ((aj ae dV).f1)] 83 (0, 0))) /\ aa (Below w.heap.size w w'))
     case atStart => exact ⟨(BK), (uW), (0), RG, H', ⟨Nat.le_refl _⟩, ⟨PR3 HO_3.1 dU eO gG⟩, ⟨PR3 HO_8.1 dU eO gG⟩, ⟨by (try simp only [dU]); (try simp only [eO]); (try simp only [gG]); (with_reducible repeat (first | apply aV | apply aW | apply aQ)); exact aG aiV.1 (fun _ hk => ⟨hk.1.2, hk.2⟩)⟩, ⟨PB3 fD.1 dU eO gG⟩, ⟨PB3 jd.1 dU eO gG⟩, ⟨BL HB.1⟩⟩
     clear H'
     try clear OC; try clear aeQ; try clear aeR; clear c40b0 c41b0
     obtain ⟨pI, Cb, jk, rfl, HA, QS, HO_3, HO_8, HO_60, fD, jd, HB⟩ := hrel
     have iJ := (ay HO_3.1).1
     rw [iJ] at HO_3
     (try simp only [iJ])
     (try simp only [iJ] at fD)
     (try simp only [iJ] at jd)
     (try simp only [iJ] at HO_8)
     (try simp only [iJ] at HO_60)
     cases gk with
     | zero => exact absurd HA.1 (by simp [ax.l3])
     | succ k5 => ?_
     have H := HA.1
     clear HA
     simp only [ax.l3] at H
     replace H := pu H; rcases H with ⟨c47b0, H⟩ | ⟨c47b0, H⟩
     · replace H := ji H; obtain ⟨c48b0, H⟩ := H
       replace H := ji H; obtain ⟨c49b0, H⟩ := H
       replace H := ji H; obtain ⟨c50b0, H⟩ := H
       replace H := ji H; obtain ⟨c51b0, H⟩ := H
       replace H := dz H; obtain ⟨asX, A52, H⟩ := H
       replace H := Cm H; rcases H with ⟨rfl, H⟩ | ⟨rfl, H⟩
       · replace H := ji H; obtain ⟨c54b0, H⟩ := H
         replace H := pu H; rcases H with ⟨c55b0, H⟩ | ⟨c55b0, H⟩
         · generalize aiW : ((pI.set ((rd lD jk) : Int).toNat ol) : List Int) = as4 at H
           have as5 := aa.mk aiW.symm; clear aiW
           replace H := oC H; obtain ⟨c57, H⟩ := H
           have as6 := aa.mk c57
           clear c57
           generalize aiX : ((Cb ++ [rd lD jk]) : List Int) = aEF at H
           have as7 := aa.mk aiX.symm; clear aiX
           have H' := aa.mk H
           clear H
           have KY : 0 <= (jk : Int) := OD
           have KZ : jk < (lD.length : Int) := OD
           obtain ⟨Nf, aa5, VY⟩ := Kd.dx (ay HO_60.1).2.2 jk KY KZ
           cases aa5
           replace KY := eq_true KY
           replace KZ := eq_true KZ
           obtain ⟨NW, NY, NZ, N7, N8, N9⟩ := gB fD.1
           have K3 : 0 <= ((rd lD jk) : Int) := OD
           have K4 : (rd lD jk) < (ae.length : Int) := OD
           obtain ⟨QT, aa6, sJ, sK⟩ := iP bD.1 (rd lD jk) K3 K4
           obtain rfl : D9 = QT := (by injection aa6)
           replace sJ := (HB.1.cell (World.block_lt_of_cell? w _ sJ)).trans sJ
           replace sK := (HB.1.cell (World.block_lt_of_cell? w _ sK)).trans sK
           replace K3 := eq_true K3
           replace K4 := eq_true K4
           go_wp2_with (first | ((with_reducible refine aA (f := 91) rfl ?_); refine cK (N := (some 71)) #[.agg #[.int .i64 ((aj ae (rd lD jk)).f0), .int .i64 ((aj ae (rd lD jk)).f1)]] Try.func91 ?_; (with_reducible refine (jX.calls ((aj ae (rd lD jk)).f0) ((aj ae (rd lD jk)).f1) true _ A52.1).mono ?_); rintro e w60 ⟨rfl, hb⟩; refine ⟨_, rfl, ?_⟩; refine E6 (rB HO_3.1 hb) (rB HO_8.1 hb) (rB HO_60.1 hb) (bB fD.1 hb) (bB jd.1 hb) (bS HB.1 hb) ?_; clear HO_3 HO_8 HO_60 fD jd HB; intro HO_3 HO_8 HO_60 fD jd HB; (try clear hb); have TL : 0 <= ((rd lD jk) : Int) := OD; have TM : (rd lD jk) < (pI.length : Int) := OD; obtain ⟨aa7, anx, Az⟩ := Kd.dx (ay HO_3.1).2.2 (rd lD jk) TL TM; obtain rfl : (⟨nP, 0, none⟩ : Addr) = aa7 := (by injection anx); (first | simp only [add_plain] at Az | simp only [uh] at Az | simp only [Addr.add, Nat.zero_add] at Az | skip); replace TL := eq_true TL; replace TM := eq_true TM; have p56 : 0 <= ((rd lD jk) : Int) := OD; have q56 : ((rd lD jk) : Int) < ((pI.length : Int) : Int) := OD; obtain ⟨aEH, aEI⟩ := lC 0 HO_3.1 ((rd lD jk) : Int) p56 q56; replace p56 := eq_true p56; replace q56 := eq_true q56; obtain ⟨aJl, aJm⟩ := lC 0 HO_3.1 ((rd lD jk) : Int) (OD) (OD); have anz := qV HO_3.1 ((rd lD jk) : Int) ol) | ((with_reducible refine gK (t := 3) (p := 82) rfl ?_); refine lX (t := 3) (p := 82) (w1 := (w60.setCell ⟨nP, ((rd lD jk) : Int).toNat, none⟩ (.int .i64 ol))) ?_; intro w62 hw; have hg : w60.grownBy w62 (some nP) := (by rw [hw]; exact anz.2); have hp_ : Kd.R (Kd.int .i64) 3 w62 w.heap.size (fun k_ => some k_ ≠ (u8 : Value).ownBlock /\ some k_ ≠ (.slice (some Nf) lD.length OE : Value).ownBlock) (.slice (some ⟨nP, 0, none⟩) pI.length yZ) as4 := (by rw [hw, as5.1]; exact anz.1); clear anz; refine E6 (hp_) (iX (v := (.slice (some ⟨nP, 0, none⟩) pI.length yZ)) (v1 := (.slice (some ⟨nP, 0, none⟩) pI.length yZ)) (ok := (fun k_ => some k_ ≠ (.slice (some Nf) lD.length OE : Value).ownBlock)) (pm (aG HO_8.1 (fun _ hk => ⟨hk.2, hk.1⟩))) hg (.inl rfl)) (iX (v := (.slice (some ⟨nP, 0, none⟩) pI.length yZ)) (v1 := (.slice (some ⟨nP, 0, none⟩) pI.length yZ)) (ok := (fun k_ => some k_ ≠ (u8 : Value).ownBlock)) (pm (aG HO_60.1 (fun _ hk => ⟨hk.2, hk.1⟩))) hg (.inl rfl)) (bG fD.1 hg (dK HO_3.1 fD.1 (by decide))) (bG jd.1 hg (dK HO_3.1 jd.1 (by decide))) ((by rw [hw]; exact il (HB.1) aa2.1 : Below w.heap.size w w62)) ?_; clear HO_3 HO_8 HO_60 fD jd HB; intro HO_3 HO_8 HO_60 fD jd HB; clear hg hw hp_) | ((with_reducible refine bf (b := .append) (xs := #[.tmp 83, .tmp 85]) rfl ?_); at_builtin; refine ek (Kd.int .i64) (w0 := w) w.heap.size rfl (.tmp 83) (.tmp 85) 38 3 (.int .i64 0) 8 rfl Try.underlying38 info3 rfl (by decide) (by omega) u8 Cb (rd lD jk) [.int .i64 (rd lD jk)] (fun k_ => some k_ ≠ (.slice (some ⟨nP, 0, none⟩) pI.length yZ : Value).ownBlock /\ some k_ ≠ (.slice (some Nf) lD.length OE : Value).ownBlock) (fun _ => False) rfl rfl ?aP (fun _ hk => hk.elim) ?aF ?aO ?aB ?aS ?aL ?_; (case aP => exact rfl); (case aB => exact (BL HB.1)); (case aF => exact (fun k_ hk => ⟨Kd.kX (iL (PR HO_3.1)) k_ hk, Kd.kX (iL (PR HO_60.1)) k_ hk⟩)); (case aO => exact (pm (aG HO_8.1 (fun _ hk => ⟨hk.2, hk.1⟩)))); (case aS => exact (bZ HB.1)); (case aL => have := as6.1; omega); intro aOl w63 ho hb hg hat; rw [<- as7.1] at ho; refine E6 (iX (ok := (fun k_ => some k_ ≠ (.slice (some Nf) lD.length OE : Value).ownBlock)) (pm (aG HO_3.1 (fun _ hk => ⟨hk.2, hk.1⟩))) hg hat) (iX (ok := (fun k_ => some k_ ≠ (.slice (some ⟨nP, 0, none⟩) pI.length yZ : Value).ownBlock)) (pm (aG HO_60.1 (fun _ hk => ⟨hk.2, hk.1⟩))) hg hat) (bG fD.1 hg (dK HO_8.1 fD.1 (by decide))) (bG jd.1 hg (dK HO_8.1 jd.1 (by decide))) (hb) (ho) ?_; clear HO_3 HO_60 fD jd HB HO_8; intro HO_3 HO_60 fD jd HB as9; clear ho hb hg hat))
           (try simp only [<- iJ])
           go_roundg k5
           case measure => have := iB.1; have := nG.1; have := vG.1; have := Mx.1; have := QS.1; omega
           case rel => exact ⟨(as4), (aEF), (wrap64 (jk + 1)), RG, H', ⟨by have := iB.1; have := nG.1; have := vG.1; have := Mx.1; have := QS.1; omega⟩, ⟨by (try simp only [dU]); (try simp only [eO]); (try simp only [gG]); (try simp only [iJ]); (with_reducible repeat (first | apply aV | apply aW | apply aQ)); exact aG HO_3.1 (fun _ hk => ⟨hk.2, hk.1⟩)⟩, ⟨X5 as9.1 dU eO gG iJ⟩, ⟨X5 HO_60.1 dU eO gG iJ⟩, ⟨SC fD.1 dU eO gG iJ⟩, ⟨SC jd.1 dU eO gG iJ⟩, ⟨BL HB.1⟩⟩
         have H' := aa.mk H
         clear H
         have KY : 0 <= (jk : Int) := OD
         have KZ : jk < (lD.length : Int) := OD
         obtain ⟨Nf, aa5, VY⟩ := Kd.dx (ay HO_60.1).2.2 jk KY KZ
         cases aa5
         replace KY := eq_true KY
         replace KZ := eq_true KZ
         obtain ⟨aeS, aeT, azu, aeU, aeV, azv⟩ := gB fD.1
         have K3 : 0 <= ((rd lD jk) : Int) := OD
         have K4 : (rd lD jk) < (ae.length : Int) := OD
         obtain ⟨QT, aa6, sJ, sK⟩ := iP bD.1 (rd lD jk) K3 K4
         obtain rfl : D9 = QT := (by injection aa6)
         replace sJ := (HB.1.cell (World.block_lt_of_cell? w _ sJ)).trans sJ
         replace sK := (HB.1.cell (World.block_lt_of_cell? w _ sK)).trans sK
         replace K3 := eq_true K3
         replace K4 := eq_true K4
         go_wp2_with (first | ((with_reducible refine aA (f := 91) rfl ?_); refine cK (N := (some 71)) #[.agg #[.int .i64 ((aj ae (rd lD jk)).f0), .int .i64 ((aj ae (rd lD jk)).f1)]] Try.func91 ?_; (with_reducible refine (jX.calls ((aj ae (rd lD jk)).f0) ((aj ae (rd lD jk)).f1) true _ A52.1).mono ?_); rintro e w66 ⟨rfl, hb⟩; refine ⟨_, rfl, ?_⟩; refine E6 (rB HO_3.1 hb) (rB HO_8.1 hb) (rB HO_60.1 hb) (bB fD.1 hb) (bB jd.1 hb) (bS HB.1 hb) ?_; clear HO_3 HO_8 HO_60 fD jd HB; intro HO_3 HO_8 HO_60 fD jd HB; (try clear hb); have TL : 0 <= ((rd lD jk) : Int) := OD; have TM : (rd lD jk) < (pI.length : Int) := OD; obtain ⟨aa7, anx, Az⟩ := Kd.dx (ay HO_3.1).2.2 (rd lD jk) TL TM; obtain rfl : (⟨nP, 0, none⟩ : Addr) = aa7 := (by injection anx); (first | simp only [add_plain] at Az | simp only [uh] at Az | simp only [Addr.add, Nat.zero_add] at Az | skip); replace TL := eq_true TL; replace TM := eq_true TM))
         (try simp only [<- iJ])
         go_roundg k5
         case measure => have := iB.1; have := nG.1; have := vG.1; have := Mx.1; have := QS.1; omega
         case rel => exact ⟨(pI), (Cb), (wrap64 (jk + 1)), RG, H', ⟨by have := iB.1; have := nG.1; have := vG.1; have := Mx.1; have := QS.1; omega⟩, ⟨X5 HO_3.1 dU eO gG iJ⟩, ⟨X5 HO_8.1 dU eO gG iJ⟩, ⟨X5 HO_60.1 dU eO gG iJ⟩, ⟨SC fD.1 dU eO gG iJ⟩, ⟨SC jd.1 dU eO gG iJ⟩, ⟨BL HB.1⟩⟩
       have H' := aa.mk H
       clear H
       have KY : 0 <= (jk : Int) := OD
       have KZ : jk < (lD.length : Int) := OD
       obtain ⟨Nf, aa5, VY⟩ := Kd.dx (ay HO_60.1).2.2 jk KY KZ
       cases aa5
       replace KY := eq_true KY
       replace KZ := eq_true KZ
       obtain ⟨aeW, aeX, aeY, aeZ, ae0, ae1⟩ := gB fD.1
       have K3 : 0 <= ((rd lD jk) : Int) := OD
       have K4 : (rd lD jk) < (ae.length : Int) := OD
       obtain ⟨QT, aa6, sJ, sK⟩ := iP bD.1 (rd lD jk) K3 K4
       obtain rfl : D9 = QT := (by injection aa6)
       replace sJ := (HB.1.cell (World.block_lt_of_cell? w _ sJ)).trans sJ
       replace sK := (HB.1.cell (World.block_lt_of_cell? w _ sK)).trans sK
       replace K3 := eq_true K3
       replace K4 := eq_true K4
       go_wp2_with (first | ((with_reducible refine aA (f := 91) rfl ?_); refine cK (N := (some 71)) #[.agg #[.int .i64 ((aj ae (rd lD jk)).f0), .int .i64 ((aj ae (rd lD jk)).f1)]] Try.func91 ?_; (with_reducible refine (jX.calls ((aj ae (rd lD jk)).f0) ((aj ae (rd lD jk)).f1) false _ A52.1).mono ?_); rintro e w69 ⟨rfl, hb⟩; refine ⟨_, rfl, ?_⟩; refine E6 (rB HO_3.1 hb) (rB HO_8.1 hb) (rB HO_60.1 hb) (bB fD.1 hb) (bB jd.1 hb) (bS HB.1 hb) ?_; clear HO_3 HO_8 HO_60 fD jd HB; intro HO_3 HO_8 HO_60 fD jd HB; (try clear hb)))
       (try simp only [<- iJ])
       go_roundg k5
       case measure => have := iB.1; have := nG.1; have := vG.1; have := Mx.1; have := QS.1; omega
       case rel => exact ⟨(pI), (Cb), (wrap64 (jk + 1)), RG, H', ⟨by have := iB.1; have := nG.1; have := vG.1; have := Mx.1; have := QS.1; omega⟩, ⟨X5 HO_3.1 dU eO gG iJ⟩, ⟨X5 HO_8.1 dU eO gG iJ⟩, ⟨X5 HO_60.1 dU eO gG iJ⟩, ⟨SC fD.1 dU eO gG iJ⟩, ⟨SC jd.1 dU eO gG iJ⟩, ⟨BL HB.1⟩⟩
     (try simp only [dU, eO, gG, iJ] at c47b0)
     have H' := aa.mk H
     clear H
     go_wp2
     (try simp only [<- gG, <- iJ])
     go_roundg k5
     case measure => have := iB.1; have := nG.1; have := vG.1; have := Mx.1; have := QS.1; omega
     case rel => exact ⟨(pI), (Cb), (wrap64 (I5 + 1)), RG, H', ⟨by have := iB.1; have := nG.1; have := vG.1; have := Mx.1; have := QS.1; omega⟩, ⟨by (try simp only [dU]); (try simp only [eO]); (try simp only [gG]); (try simp only [iJ]); (with_reducible repeat (first | apply aV | apply aW | apply aQ)); exact aG HO_3.1 (fun _ hk => hk.1)⟩, ⟨by (try simp only [dU]); (try simp only [eO]); (try simp only [gG]); (try simp only [iJ]); (with_reducible repeat (first | apply aV | apply aW | apply aQ)); exact aG HO_8.1 (fun _ hk => hk.1)⟩, ⟨SC fD.1 dU eO gG iJ⟩, ⟨SC jd.1 dU eO gG iJ⟩, ⟨BL HB.1⟩⟩
   (try simp only [dU, eO, gG] at c40b0)
   have H' := aa.mk H
   clear H
   obtain ⟨aOm, aOn, aEK⟩ := bv HO_8.1
   subst aEK
   go_wp2
   (try simp only [<- eO, <- gG])
   go_roundg k4
   case measure => have := iB.1; have := nG.1; have := vG.1; have := Mx.1; omega
   case rel => exact ⟨(BK), (wrap64 (ol + 1)), (wrap64 (dV + 1)), RG, RG, H', ⟨by have := iB.1; have := nG.1; have := vG.1; have := Mx.1; omega⟩, ⟨by (try simp only [dU]); (try simp only [eO]); (try simp only [gG]); (with_reducible repeat (first | apply aV | apply aW | apply aQ)); exact aG HO_3.1 (fun _ hk => trivial)⟩, ⟨PB3 fD.1 dU eO gG⟩, ⟨BL HB.1⟩⟩
 (try simp only [dU, eO] at c16b0)
 obtain rfl := Option.some.inj H
 go_wp2
 go_ret
 exact ⟨_, RF, pm (HO_3.1), BL HB.1⟩
end Go.Proofs.Ytbpfdbjnnlmdjaa.P
