--MINI
-- PRINTED by print.py (a twelfth state) out of the translation. Not trusted: Lean checks it.
import Derived.Test.YtbpfdbjnnlmdjaaPx0
import Derived.Test.YtbpfdbjnnlmdjaaPx7
import Derived.Test.YtbpfdbjnnlmdjaaPx8
import Derived.Test.YtbpfdbjnnlmdjaaPx9
import Derived.Test.YtbpfdbjnnlmdjaaMapV
namespace Go.Proofs.Ytbpfdbjnnlmdjaa.P
open Go.RowKit Go.Proofs.YtbpfdbjnnlmdjaaW.PrintWords Go.Proofs.YtbpfdbjnnlmdjaaW.PrintLast Go.Proofs.YtbpfdbjnnlmdjaaW.PrintMore
attribute [local go_sem] rQ rR vR vS pO pQ rT rU   -- for this text's walks alone
set_option linter.unusedVariables false
set_option linter.unusedSimpArgs false
set_option maxHeartbeats 8000000
set_option maxRecDepth 100000

open Kd
def dw.l0 : Nat -> List Int -> List (List Int) -> Int -> Int -> Int -> Int -> List (fq) -> Option (List Int)
 | 0, _, _, _, _, _, _, _ => none
 | k + 1, x3, x8, x9, j6, a08, a09, aUZ => if j6 < x9 then (if 0 <= j6 then (if j6 < (x8.length : Int) then (if 0 < ((aT x8 j6).length : Int) then (if 0 <= (rd (aT x8 j6) 0) then (if (rd (aT x8 j6) 0) < (aUZ.length : Int) then (if x3.length < 17592186044416 then (dw.l0 k (x3 ++ [(aj aUZ (rd (aT x8 j6) 0)).f1]) x8 x9 (wrap64 (j6 + 1)) a08 a09 aUZ) else (none)) else (none)) else (none)) else (none)) else (none)) else (none)) else (some x3)
def dw.f (k : Nat) (ah : Int) (af : Int) (ae : List (fq)) : Option (List Int) := (bn.f k ah af ae).bind fun aIC => (dw.l0 k (([] : List Int)) aIC (aIC.length : Int) 0 ah af ae)
theorem dw.mono_l : ∀ k, (∀ y0 y1 y2 y3 y4 y5 y6, dO (dw.l0 k y0 y1 y2 y3 y4 y5 y6) (dw.l0 (k + 1) y0 y1 y2 y3 y4 y5 y6))
 | 0 => fun _ _ _ _ _ _ _ r h => by simp [dw.l0] at h
 | k + 1 => by
  have ja := dw.mono_l k
  intros
  first | unfold dw.l0
  exact Qj ja bn.mono
theorem dw.mono : ∀ a0 a1 a2 k, dO (dw.f k a0 a1 a2) (dw.f (k + 1) a0 a1 a2) := by
 intro a0 a1 a2 k
 have ja := dw.mono_l k
 unfold dw.f
 exact Qj ja bn.mono
def dw.T5 : Bool × List (List Nat × List Nat) := (true, [([], []), ([], []), ([1], [1]), ([], []), ([3], [3]), ([4], [4]), ([2, 5], [2, 5]), ([6], [6]), ([7], [7]), ([8], [8]), ([0, 9], [0, 9]), ([10, 10, 0, 1, 2, 3, 4, 5, 6, 7, 8, 9, 10], [0, 10])])
def dw.B5 : List Nat := [0, 0, 2, 0, 8, 24, 62, 126, 254, 510, 1023, 2047]
theorem dw.abv : mX .any (opsOf Try.f50 5) = dw.T5 := by kernel_rfl
theorem dw.bits5 : kr dw.T5.2 dw.B5 = true := by kernel_rfl
theorem dw.calls (k : Nat) (ah : Int) (af : Int) (aK : Option Addr) (aJ : Nat) (ae : List (fq)) (r : List Int) (w : World) (dH : Kd.C jZ w aK ae.length ae) (dG : ae.length <= aJ) (h : dw.f k ah af ae = some r) :
 Calls Try.prog 50 #[.agg #[.int .i64 ah, .int .i64 af, .slice aK ae.length aJ]] w fun e w' => ∃ rO : Value, e = .returned (rO) /\ Kd.R (Kd.int .i64) 3 w' w.heap.size (fun _ => True) rO r /\ Below w.heap.size w w' := by
 have nH := Try.underlying30
 have bD := aa.mk dH
 have cO := aa.mk dG
 clear dH dG
 have HB := aa.mk (Below.refl w.heap.size w)
 have H := h
 clear h
 unfold dw.f at H
 generalize a3t : ((([] : List Int)) : List Int) = bcr at H
 have a3u := aa.mk a3t.symm; clear a3t
 replace H := dz H; obtain ⟨aIC, A2, H⟩ := H
 have H' := aa.mk H
 clear H
 go_enter Try.func50, Try.ntmps50
 go_wp2_with (first | ((with_reducible refine aC (N := 1) rfl ?_); refine dN (cs := #[.int .i64 ah, .int .i64 af, .slice aK ae.length aJ]) (t := 30) ?_; intro aXr hg w3 hbox hb; refine mJ HB.1 hg hbox hb ?_; clear HB; intro HB aEj bfb bfc; clear hb hbox hg) | ((with_reducible refine aC (N := 6) rfl ?_); refine qh (Kd.int .i64) _ 3 ?hg (N := 6) ?hd (xs := ([] : List Int)) (inner := []) (ok := fun _ => True) (okp := fun _ => True) ?hr ?hp (fun _ hk => hk) trivial (Below.refl _ _) (Nat.le_refl _) (by simp) ?_; (case hd => rfl); (case hg => rfl); (case hr => first | (go_simp; done) | (go_simp; rfl)); (case hp => exact (fK.none _ _)); intro bhn w4 QG hb hg_ hnew_; clear hg_ hnew_; (first | rw [<- a3u.1] at QG | (simp only [Int.reduceToNat] at QG; rw [<- a3u.1] at QG)); refine E3 (bN QG (bZ HB.1)) (bB aEj.1 hb) (bS HB.1 hb) ?_; clear aEj HB; intro aVH aEj HB; clear hb QG; obtain ⟨oL, oM, tZ, oN, oO, uf⟩ := gB aEj.1) | ((with_reducible refine aA (f := 61) rfl ?_); refine cK (N := (some 8)) #[.agg #[.int .i64 ah, .int .i64 af, .slice aK ae.length aJ]] Try.func61 ?_; (with_reducible refine (bn.calls k ah af _ _ ae aIC _ ?side1 ?side2 A2.1).mono ?_); (case side1 => exact CB (aY bD.1 HB.1)); (case side2 => exact cO.1); rintro e w7 ⟨bho, rfl, ho0, hb⟩; refine ⟨_, rfl, ?_⟩; refine E4 (rB aVH.1 hb) (lN (BV ho0 (iL (PR aVH.1))) (bZ HB.1)) (bB aEj.1 hb) (bS HB.1 hb) ?_; clear aVH aEj HB; intro aVH a3v aEj HB; (try clear hb); (try clear ho0); obtain ⟨Ao8, yZ, eo8⟩ := mq a3v.1; subst eo8))
 go_loopg [3, 10] k (fun kq v3 v10 w' => ∃ (ky : List Int) (bE : Int), v10 = .int .i64 bE /\ aa (dw.l0 kq ky aIC (aIC.length : Int) bE ah af ae = some r) /\ aa (kq <= k) /\ aa (Kd.R (Kd.int .i64) 3 w' w.heap.size (fun _ => True) v3 ky) /\ aa (Kd.S (Kd.slice 3 (Kd.int .i64)) 38 w' w.heap.size (fun k_ => some k_ ≠ (v3 : Value).ownBlock) (.slice Ao8 aIC.length yZ) aIC) /\ aa (w'.heap[aXr]? = some (.cells #[.int .i64 ah, .int .i64 af, (.slice aK ae.length aJ)] 30 (0, 0))) /\ aa (Below w.heap.size w w'))
 case atStart => exact ⟨(bcr), (0), RG, H', ⟨Nat.le_refl _⟩, ⟨PR aVH.1⟩, ⟨ES (eY a3v.1 (fun _ hk => hk.2))⟩, ⟨PB aEj.1⟩, ⟨BL HB.1⟩⟩
 clear H'
 clear oL oM tZ oN oO uf
 obtain ⟨ky, bE, rfl, HA, iB, HO_3, HO_8, aEj, HB⟩ := hrel
 cases gk with
 | zero => exact absurd HA.1 (by simp [dw.l0])
 | succ k1 => ?_
 have H := HA.1
 clear HA
 simp only [dw.l0] at H
 replace H := pu H; rcases H with ⟨c9b0, H⟩ | ⟨c9b0, H⟩
 · replace H := ji H; obtain ⟨c10b0, H⟩ := H
   replace H := ji H; obtain ⟨c11b0, H⟩ := H
   replace H := oC H; obtain ⟨c12, H⟩ := H
   have c12b0 := decide_eq_true c12
   have c12b1 : decide (0 < (aT aIC bE).length) = true := decide_eq_true (by omega)
   clear c12
   replace H := ji H; obtain ⟨c13b0, H⟩ := H
   replace H := ji H; obtain ⟨c14b0, H⟩ := H
   replace H := oC H; obtain ⟨c15, H⟩ := H
   have Lg := aa.mk c15
   clear c15
   generalize a3w : ((ky ++ [(aj ae (rd (aT aIC bE) 0)).f1]) : List Int) = bcs at H
   have a9O := aa.mk a3w.symm; clear a3w
   have H' := aa.mk H
   clear H
   have a1a : 0 <= (bE : Int) := OD
   have a1b : bE < (aIC.length : Int) := OD
   obtain ⟨a9P, bct, bcu, bcv, a1c, aXs, aXt⟩ := tT (fJ HO_8.1).2.2 bE a1a a1b
   cases bcv
   obtain ⟨bfd, a5R, a5S, aZL⟩ := BF HO_8.1 [] bE a1a (by first | exact a1b | exact OD | (have e_ := (fJ HO_8.1).1; omega))
   obtain ⟨baB, rfl, aU0⟩ := a5S
   have aSt := aZL 0 _ rfl
   rw [Nat.add_zero, show ((Kd.slice 3 (Kd.int .i64))).sz = 1 from rfl, Nat.mul_one] at aSt
   replace aSt := Option.some.inj (aSt.symm.trans a1c)
   rw [aSt] at aU0
   have aOD := aa.mk (show Kd.R (Kd.int .i64) 3 _ _ _ _ (aT aIC bE) from aU0)
   clear aSt aU0
   clear aZL a5R
   have aRA := aa.mk aXt
   have baC := aa.mk aXs
   clear aXt aXs
   replace a1a := eq_true a1a
   replace a1b := eq_true a1b
   try go_wp2
   refine E6 (aQ HO_3.1) (iV HO_8.1) (aQ aOD.1) (ag aEj.1) (kH aRA.1) (dm HB.1) ?_
   clear HO_3 HO_8 aOD aEj aRA HB
   intro HO_3 HO_8 aOD aEj aRA HB
   have a5T : 0 <= (0 : Int) := (by omega)
   have a5U : 0 < ((aT aIC bE).length : Int) := OD
   obtain ⟨a9Q, bcw, aTv⟩ := Kd.dx (by repeat (first | (with_reducible exact aRA.1) | (with_reducible refine kg ?_ _) | (with_reducible refine ko ?_ _) | (with_reducible refine kH ?_) | exact aRA.1)) 0 a5T a5U
   cases bcw
   have bfe : (0 < (aT aIC bE).length) = True := eq_true (by omega)
   (try rw [show ((0 : Int)).toNat = 0 from rfl] at aTv)
   (try rw [Addr.add_zero'] at aTv)
   replace a5T := eq_true a5T
   replace a5U := eq_true a5U
   have a5V : 0 <= ((rd (aT aIC bE) 0) : Int) := OD
   have a5W : (rd (aT aIC bE) 0) < (ae.length : Int) := OD
   obtain ⟨aXu, bcx, aSu, aSv⟩ := iP bD.1 (rd (aT aIC bE) 0) a5V a5W
   have aXv := aSv
   have aXw := aSu
   cases bcx
   replace aSu := (HB.1.cell (World.block_lt_of_cell? w _ aSu)).trans aSu
   replace aSv := (HB.1.cell (World.block_lt_of_cell? w _ aSv)).trans aSv
   replace a5V := eq_true a5V
   replace a5W := eq_true a5W
   refine jN (n := 12) (S := fun w' => w'.cell? ⟨aXr, 0, none⟩ = some (.int .i64 ah) /\ w'.cell? ⟨aXr, 1, none⟩ = some (.int .i64 af) /\ w'.cell? ⟨aXr, 2, none⟩ = some (.slice (some aXu) ae.length aJ) /\ w'.cell? a9Q = some (.int .i64 (rd (aT aIC bE) 0)) /\ w'.cell? (aXu.add (((rd (aT aIC bE) 0)).toNat * 2)) = some (.int .i64 ((aj ae (rd (aT aIC bE) 0)).f0)) /\ w'.cell? ⟨(aXu.add (((rd (aT aIC bE) 0)).toNat * 2)).block, (aXu.add (((rd (aT aIC bE) 0)).toNat * 2)).off + 1, none⟩ = some (.int .i64 ((aj ae (rd (aT aIC bE) 0)).f1))) (ds := [9, 10]) #[Zz,Zz,Zz,Zz,Zz,Zz,Zz,Zz,Zz,Zz,Zz,Zz] (by kernel_rfl) rfl rfl ⟨(ai aEj.1 0).trans rfl, (ai aEj.1 1).trans rfl, (ai aEj.1 2).trans rfl, aTv, ((HB.1.cell (World.block_lt_of_cell? w _ aXw)).trans aXw), ((HB.1.cell (World.block_lt_of_cell? w _ aXv)).trans aXv)⟩ (fun hHeld => ?_); refine iq dw.abv dw.bits5 (fun HT_ HW_ => ?_)
   generalize wr.drew = w16 at HO_3 HO_8 aOD aEj aRA HB aTv aSu aSv hHeld ⊢
   refine aU 0 (N := some 14) HT_.1 ?_
   refine aU 1 (N := some 15) HT_.1 ?_
   refine aU 3 (N := some 17) HT_.1 ?_
   refine aU 4 (N := some 18) HT_.1 ?_
   refine gF 2 (N := some 16) HT_.1 HW_.1 hHeld ?_
   refine gF 5 (N := some 19) HT_.1 HW_.1 hHeld ?_
   refine aU 6 (N := some 20) HT_.1 ?_
   refine aU 7 (N := some 21) HT_.1 ?_
   refine gF 8 (N := some 22) HT_.1 HW_.1 hHeld ?_
   refine BD (i := 9) (N := some 23) #[Yy,Yy,Yy,Yy,Yy,Yy,Yy,Yy,Yy,Yy,Zz,Zz] rfl rfl (jc HT_.1 (by kernel_rfl)) (by decide) (fun K hK => ?_)
   refine Tp (w1 := ?_) (v := ?_) (by rfl) rfl ?_ ?_
   rotate_left 2
   · go_simp
     constructor
     · rfl
     rfl
   refine hK.out _ _ ?_
   clear hK K
   refine eX (a' := ?_) ?_ ?_
   rotate_left
   · show Act.put _ (some 23) _ = _
     simp only [Act.put, List.setIfInBounds_toArray, List.set_cons_zero, List.set_cons_succ, cz, dF]
     rfl
   refine BD (i := 10) (N := some 24) #[Yy,Yy,Yy,Yy,Yy,Yy,Yy,Yy,Yy,Yy,Yy,Zz] rfl rfl (jc HT_.1 (by kernel_rfl)) (by decide) (fun K hK => ?_)
   refine yG (Kd.int .i64) (w0 := w) w.heap.size (by rfl) (.tmp 14) (.tmp 23) 38 3 (.int .i64 0) 8 rfl Try.underlying38 info3 rfl (by decide) (by omega) u3 ky ((aj ae (rd (aT aIC bE) 0)).f1) [.int .i64 ((aj ae (rd (aT aIC bE) 0)).f1)] (fun _ => True) (fun _ => False) rfl rfl ?aP (fun _ hk => hk.elim) ?aF ?aO ?aB ?aS ?aL ?_
   (case aP => exact rfl)
   (case aB => exact (BL HB.1))
   (case aF => exact (fun _ _ => trivial))
   (case aO => exact (PR HO_3.1))
   (case aS => exact (bZ HB.1))
   (case aL => have := Lg.1; omega)
   intro bhp Vn ho hb hg hat
   rw [<- a9O.1] at ho
   refine E5 (CK (ok := (fun _ => True)) (ES (eY HO_8.1 (fun _ hk => ⟨trivial, hk⟩))) hg hat) (bG aEj.1 hg (dK HO_3.1 aEj.1 (by decide))) (iX (ok := (fun k_ => some k_ ≠ (.slice (some a9P) aIC.length yZ : Value).ownBlock)) (pm (aG aOD.1 (fun _ hk => ⟨hk.2, hk.1⟩))) hg hat) (hb) (ho) ?_
   clear HO_8 aEj aOD HB HO_3
   intro HO_8 aEj aOD HB a9R
   clear ho hb hg hat
   refine hK.out _ _ ?_
   clear hK K
   refine eX (a' := ?_) ?_ ?_
   rotate_left
   · show Act.put _ (some 24) _ = _
     simp only [Act.put, List.setIfInBounds_toArray, List.set_cons_zero, List.set_cons_succ, cz, dF]
     rfl
   refine aU 11 (N := some 3) HT_.1 ?_
   refine lI (jS HT_.1 (by kernel_rfl)) ?_
   try go_wp2
   go_roundg k1
   case measure => have := iB.1; omega
   case rel => exact ⟨(bcs), (wrap64 (bE + 1)), RG, H', ⟨by have := iB.1; omega⟩, ⟨PR a9R.1⟩, ⟨ES (eY HO_8.1 (fun _ hk => hk.2))⟩, ⟨PB aEj.1⟩, ⟨BL HB.1⟩⟩
 obtain rfl := Option.some.inj H
 go_wp2
 go_ret
 exact ⟨_, RF, pm (HO_3.1), BL HB.1⟩
def aN.l0 : Nat -> List Int -> List Int -> Int -> Int -> Int -> Int -> List (fq) -> Option (Bool)
 | 0, _, _, _, _, _, _, _ => none
 | k + 1, x1, j6, qR, pz, aXx, aU1, aXy => if pz < qR then (if 0 <= pz then (if pz < (j6.length : Int) then (if (rd j6 pz) < 0 then (some false) else (if (rd j6 pz) ≥ aU1 then (some false) else (if pz > 0 then (if 0 <= (wrap64 (pz - 1)) then (if (wrap64 (pz - 1)) < (x1.length : Int) then (if (rd j6 pz) <= (rd x1 (wrap64 (pz - 1))) then (some false) else (aN.l0 k x1 j6 qR (wrap64 (pz + 1)) aXx aU1 aXy)) else (none)) else (none)) else (aN.l0 k x1 j6 qR (wrap64 (pz + 1)) aXx aU1 aXy)))) else (none)) else (none)) else (some true)
def aN.f (k : Nat) (ah : Int) (af : Int) (ae : List (fq)) (l1 : List Int) : Option (Bool) := if (l1.length : Int) < 1 then (some false) else (aN.l0 k l1 l1 (l1.length : Int) 0 ah af ae)
theorem aN.mono_l : ∀ k, (∀ y0 y1 y2 y3 y4 y5 y6, dO (aN.l0 k y0 y1 y2 y3 y4 y5 y6) (aN.l0 (k + 1) y0 y1 y2 y3 y4 y5 y6))
 | 0 => fun _ _ _ _ _ _ _ r h => by simp [aN.l0] at h
 | k + 1 => by
  have ja := aN.mono_l k
  intros
  first | unfold aN.l0
  exact BA ja
theorem aN.mono : ∀ a0 a1 a2 a3 k, dO (aN.f k a0 a1 a2 a3) (aN.f (k + 1) a0 a1 a2 a3) := by
 intro a0 a1 a2 a3 k
 have ja := aN.mono_l k
 unfold aN.f
 exact BA ja
theorem aN.calls (k : Nat) (ah : Int) (af : Int) (aK : Option Addr) (aJ : Nat) (ae : List (fq)) (A1 : Option Addr) (c1 : Nat) (l1 : List Int) (r : Bool) (w : World) (dH : Kd.C jZ w aK ae.length ae) (dG : ae.length <= aJ) (hr1 : Kd.C (Kd.int .i64) w A1 l1.length l1) (hc1 : l1.length <= c1) (h : aN.f k ah af ae l1 = some r) :
 Calls Try.prog 60 #[.agg #[.int .i64 ah, .int .i64 af, .slice aK ae.length aJ], .slice A1 l1.length c1] w fun e w' => e = .returned (.bool r) /\ Below w.heap.size w w' := by
 have nH := Try.underlying30
 have bD := aa.mk dH
 have cO := aa.mk dG
 clear dH dG
 have HR1 := aa.mk hr1
 have vD := aa.mk hc1
 clear hr1 hc1
 have HB := aa.mk (Below.refl w.heap.size w)
 have H := h
 clear h
 unfold aN.f at H
 replace H := oP H; rcases H with ⟨c3, H⟩ | ⟨c3, H⟩
 · have c3b0 := decide_eq_true c3
   have c3b1 : decide (l1.length < 1) = true := decide_eq_true (by omega)
   clear c3
   obtain rfl := Option.some.inj H
   go_enter Try.func60, Try.ntmps60
   go_wp2_with (first | ((with_reducible refine aC (N := 2) rfl ?_); refine dN (cs := #[.int .i64 ah, .int .i64 af, .slice aK ae.length aJ]) (t := 30) ?_; intro a3x hg w4 hbox hb; refine mJ HB.1 hg hbox hb ?_; clear HB; intro HB aSw a9S a9T; clear hb hbox hg))
   go_ret
   exact ⟨RF, BL HB.1⟩
 have c3b0 := decide_eq_false c3
 have c3b1 : decide (l1.length < 1) = false := decide_eq_false (by omega)
 clear c3
 have H' := aa.mk H
 clear H
 go_enter Try.func60, Try.ntmps60
 go_wp2_with (first | ((with_reducible refine aC (N := 2) rfl ?_); refine dN (cs := #[.int .i64 ah, .int .i64 af, .slice aK ae.length aJ]) (t := 30) ?_; intro a3x hg w5 hbox hb; refine mJ HB.1 hg hbox hb ?_; clear HB; intro HB aSw a9S a9T; clear hb hbox hg))
 go_loopg [12] k (fun kq v12 w' => ∃ (bK : Int), v12 = .int .i64 bK /\ aa (aN.l0 kq l1 l1 (l1.length : Int) bK ah af ae = some r) /\ aa (kq <= k) /\ aa (w'.heap[a3x]? = some (.cells #[.int .i64 ah, .int .i64 af, (.slice aK ae.length aJ)] 30 (0, 0))) /\ aa (Below w.heap.size w w'))
 case atStart => exact ⟨(0), RG, H', ⟨Nat.le_refl _⟩, ⟨PB aSw.1⟩, ⟨BL HB.1⟩⟩
 clear H'
 try clear c1; clear c3b0 c3b1
 obtain ⟨bK, rfl, HA, iB, aSw, HB⟩ := hrel
 cases gk with
 | zero => exact absurd HA.1 (by simp [aN.l0])
 | succ k1 => ?_
 have H := HA.1
 clear HA
 simp only [aN.l0] at H
 replace H := pu H; rcases H with ⟨c6b0, H⟩ | ⟨c6b0, H⟩
 · replace H := ji H; obtain ⟨c7b0, H⟩ := H
   replace H := ji H; obtain ⟨c8b0, H⟩ := H
   replace H := pu H; rcases H with ⟨c9b0, H⟩ | ⟨c9b0, H⟩
   · obtain rfl := Option.some.inj H
     have aOV : 0 <= (bK : Int) := OD
     have aPr : bK < (l1.length : Int) := OD
     obtain ⟨aUo, aU2, ata⟩ := Kd.dx HR1.1 bK aOV aPr
     cases aU2
     replace ata := (HB.1.cell (World.block_lt_of_cell? w _ ata)).trans ata
     replace aOV := eq_true aOV
     replace aPr := eq_true aPr
     go_wp2
     go_ret
     exact ⟨RF, BL HB.1⟩
   replace H := oP H; rcases H with ⟨c10, H⟩ | ⟨c10, H⟩
   · have c10b0 : decide (af <= (rd l1 bK)) = true := decide_eq_true c10
     clear c10
     obtain rfl := Option.some.inj H
     have aOV : 0 <= (bK : Int) := OD
     have aPr : bK < (l1.length : Int) := OD
     obtain ⟨aUo, aU2, ata⟩ := Kd.dx HR1.1 bK aOV aPr
     cases aU2
     replace ata := (HB.1.cell (World.block_lt_of_cell? w _ ata)).trans ata
     replace aOV := eq_true aOV
     replace aPr := eq_true aPr
     obtain ⟨vX, vY, EZ, vZ, wh, Fa⟩ := gB aSw.1
     go_wp2
     go_ret
     exact ⟨RF, BL HB.1⟩
   have c10b0 : decide (af <= (rd l1 bK)) = false := decide_eq_false c10
   clear c10
   replace H := oP H; rcases H with ⟨c12, H⟩ | ⟨c12, H⟩
   · have c12b0 : decide (0 < bK) = true := decide_eq_true c12
     clear c12
     obtain ⟨pY, yc⟩ : ∃ j_ : Int, (wrap64 (bK - 1)) = j_ := ⟨_, rfl⟩
     replace H : (if 0 <= (pY) then (if (pY) < (l1.length : Int) then (if (rd l1 bK) <= (rd l1 (pY)) then (some false) else (aN.l0 k1 l1 l1 (l1.length : Int) (wrap64 (bK + 1)) ah af ae)) else (none)) else (none)) = some r := by first | (rw [yc] at H; exact H) | (simp only [yc] at H ⊢; exact H)
     have hji13w : (IntKind.i64.wrap (bK - 1)) = pY := (cz _).trans yc
     replace H := ji H; obtain ⟨c14b0, H⟩ := H
     replace H := ji H; obtain ⟨c15b0, H⟩ := H
     replace H := pu H; rcases H with ⟨c16b0, H⟩ | ⟨c16b0, H⟩
     · obtain rfl := Option.some.inj H
       have aOV : 0 <= (bK : Int) := OD
       have aPr : bK < (l1.length : Int) := OD
       obtain ⟨aUo, aU2, ata⟩ := Kd.dx HR1.1 bK aOV aPr
       cases aU2
       replace ata := (HB.1.cell (World.block_lt_of_cell? w _ ata)).trans ata
       replace aOV := eq_true aOV
       replace aPr := eq_true aPr
       obtain ⟨VL, VM, VN, VO, VP, VQ⟩ := gB aSw.1
       have ahf : 0 <= ((pY) : Int) := OD
       have ahg : (pY) < (l1.length : Int) := OD
       obtain ⟨aMO, aHn, Km⟩ := Kd.dx HR1.1 (pY) ahf ahg
       obtain rfl : aUo = aMO := (by injection aHn)
       replace Km := (HB.1.cell (World.block_lt_of_cell? w _ Km)).trans Km
       replace ahf := eq_true ahf
       replace ahg := eq_true ahg
       go_wp2
       go_ret
       exact ⟨by first | rfl | (simp [iC, iD] <;> rfl) | (simp only [<- yc]; first | rfl | (simp [iC, iD] <;> rfl)) | (simp [*, iC, iD] <;> rfl), BL HB.1⟩
     have H' := aa.mk H
     clear H
     have aOV : 0 <= (bK : Int) := OD
     have aPr : bK < (l1.length : Int) := OD
     obtain ⟨aUo, aU2, ata⟩ := Kd.dx HR1.1 bK aOV aPr
     cases aU2
     replace ata := (HB.1.cell (World.block_lt_of_cell? w _ ata)).trans ata
     replace aOV := eq_true aOV
     replace aPr := eq_true aPr
     obtain ⟨qN, qO, rV, qP, qQ, rW⟩ := gB aSw.1
     have ahf : 0 <= ((pY) : Int) := OD
     have ahg : (pY) < (l1.length : Int) := OD
     obtain ⟨aMO, aHn, Km⟩ := Kd.dx HR1.1 (pY) ahf ahg
     obtain rfl : aUo = aMO := (by injection aHn)
     replace Km := (HB.1.cell (World.block_lt_of_cell? w _ Km)).trans Km
     replace ahf := eq_true ahf
     replace ahg := eq_true ahg
     go_wp2
     go_roundg k1
     case measure => have := iB.1; omega
     case rel => exact ⟨(wrap64 (bK + 1)), RG, H', ⟨by have := iB.1; omega⟩, ⟨PB aSw.1⟩, ⟨BL HB.1⟩⟩
   have c12b0 : decide (0 < bK) = false := decide_eq_false c12
   clear c12
   have H' := aa.mk H
   clear H
   have aOV : 0 <= (bK : Int) := OD
   have aPr : bK < (l1.length : Int) := OD
   obtain ⟨aUo, aU2, ata⟩ := Kd.dx HR1.1 bK aOV aPr
   cases aU2
   replace ata := (HB.1.cell (World.block_lt_of_cell? w _ ata)).trans ata
   replace aOV := eq_true aOV
   replace aPr := eq_true aPr
   obtain ⟨FD, FE, OA, FF, FH, OB⟩ := gB aSw.1
   go_wp2
   go_roundg k1
   case measure => have := iB.1; omega
   case rel => exact ⟨(wrap64 (bK + 1)), RG, H', ⟨by have := iB.1; omega⟩, ⟨PB aSw.1⟩, ⟨BL HB.1⟩⟩
 obtain rfl := Option.some.inj H
 go_wp2
 go_ret
 exact ⟨RF, BL HB.1⟩
/-- The rows that a map holds: keys and rows, side by side. -/
def WR (w : World) (base : Nat) (ok : Nat -> Prop) : List (Int × Value) -> List (Int × List Int) -> Prop
 | [], [] => True
 | p :: mm, q :: m => p.1 = q.1 /\ Kd.R (Kd.int .i64) 3 w base ok p.2 q.2 /\ WR w base ok mm m
 | _, _ => False
def aPv (m : List (Int × List Int)) (x : Int) : List Int := (m.lookup x).getD []
def aVI (m : List (Int × List Int)) (x : Int) : Bool := (m.lookup x).isSome
theorem WR.map {w w1 : World} {base : Nat} {ok ok' : Nat -> Prop} (f : ∀ {v xs}, Kd.R (Kd.int .i64) 3 w base ok v xs -> Kd.R (Kd.int .i64) 3 w1 base ok' v xs) : ∀ {mm m}, WR w base ok mm m -> WR w1 base ok' mm m
 | [], [], _ => trivial
 | _ :: _, _ :: _, ⟨e, hR, h⟩ => ⟨e, f hR, WR.map f h⟩
 | [], _ :: _, h => h.elim
 | _ :: _, [], h => h.elim
theorem WR.len {w : World} {base : Nat} {ok : Nat -> Prop} : ∀ {mm m}, WR w base ok mm m -> mm.length = m.length
 | [], [], _ => rfl
 | _ :: _, _ :: _, ⟨_, _, h⟩ => by simp [WR.len h]
 | [], _ :: _, h => h.elim
 | _ :: _, [], h => h.elim
theorem WR.at_ {w : World} {base : Nat} {ok : Nat -> Prop} (x : Int) : ∀ {mm m}, WR w base ok mm m -> aS5 mm x = aVI m x /\ Kd.R (Kd.int .i64) 3 w base ok (aSS (.slice none 0 0) mm x) (aPv m x)
 | [], [], _ => ⟨rfl, tO _ _ _ _ _⟩
 | p :: mm, q :: m, ⟨e, hR, h⟩ => by
  obtain ⟨p1, p2⟩ := p
  obtain ⟨q1, q2⟩ := q
  simp only at e hR
  subst e
  obtain ⟨h1, h2⟩ := WR.at_ x h
  by_cases hx : x = p1
  · subst hx
    simp only [aS5, aSS, aVI, aPv, List.lookup_cons, beq_self_eq_true, Option.isSome_some, Option.getD_some, true_and]
    exact hR
  · have hb : (x == p1) = false := by simpa using hx
    simp only [aS5, aSS, aVI, aPv, List.lookup_cons, hb] at h1 h2 ⊢
    exact ⟨h1, h2⟩
 | [], _ :: _, h => h.elim
 | _ :: _, [], h => h.elim
/-- A map of the call's own that holds rows of the call's own. -/
def WM (w : World) (base gm : Nat) (ok : Nat -> Prop) (m : List (Int × List Int)) : Prop := ∃ om mm, w.heap[gm]? = some om /\ aSx Try.prog 3 (.slice none 0 0) om mm /\ base <= gm /\ WR w base ok mm m
theorem WM.zero {w : World} {base gm : Nat} {ok : Nat -> Prop} (hb : base <= gm) (h : w.heap[gm]? = some (.map #[] 0)) : WM w base gm ok [] := ⟨_, [], h, aYs _ _ _, hb, trivial⟩
theorem WM.frame {w w1 : World} {base gm : Nat} {ok : Nat -> Prop} {m : List (Int × List Int)} (h : WM w base gm ok m) (hm : ∀ k, k = gm ∨ ok k -> k < w.heap.size -> w1.heap[k]? = w.heap[k]?) : WM w1 base gm ok m := by
 obtain ⟨om, mm, hb, hM, hg, hW⟩ := h
 exact ⟨om, mm, (hm gm (.inl rfl) (Array.getElem?_eq_some_iff.1 hb).1).trans hb, hM, hg, hW.map (fun hR => KA hR (fun k hk => hm k (.inr hk)))⟩
theorem WM.below {w w1 : World} {base gm : Nat} {ok : Nat -> Prop} {m : List (Int × List Int)} (h : WM w base gm ok m) (hb : Below w.heap.size w w1) : WM w1 base gm ok m := h.frame (fun k _ hk => hb.block k hk)
theorem WM.mono {w : World} {base gm : Nat} {ok ok' : Nat -> Prop} {m : List (Int × List Int)} (h : WM w base gm ok m) (hk : ∀ k, ok k -> ok' k) : WM w base gm ok' m := by
 obtain ⟨om, mm, hb, hM, hg, hW⟩ := h
 exact ⟨om, mm, hb, hM, hg, hW.map (fun hR => aG hR hk)⟩
theorem WM.isMap {w : World} {base gm : Nat} {ok : Nat -> Prop} {m : List (Int × List Int)} (h : WM w base gm ok m) : ∃ es clock, w.heap[gm]? = some (.map es clock) := by
 obtain ⟨om, mm, hb, ⟨⟨es, clock, rfl⟩, _⟩, _⟩ := h
 exact ⟨es, clock, hb⟩
theorem WM.elder {w w1 : World} {base gm : Nat} {ok : Nat -> Prop} {m : List (Int × List Int)} {u : Value} (h : WM w base gm ok m) (hbase : ∀ k, u.ownBlock = some k -> w.heap.size <= k) (hb : Below w.heap.size w w1) : WM w1 base gm (fun k => ok k /\ some k ≠ u.ownBlock) m := by
 obtain ⟨om, mm, hbk, hM, hg, hW⟩ := h
 exact ⟨om, mm, (hb.block gm (Array.getElem?_eq_some_iff.1 hbk).1).trans hbk, hM, hg, hW.map (fun hR => eT hR hbase hb)⟩
theorem xty {w : World} {v : Value} {e : Nat} (h : ∀ k, v.ownBlock = some k -> ∃ cells, w.heap[k]? = some (.cells cells e (0, 0))) : ∀ k, v.ownBlock = some k -> ∃ cells q, w.heap[k]? = some (.cells cells q (0, 0)) := fun k hk => (h k hk).elim fun c hc => ⟨c, e, hc⟩
theorem WM.after {w w1 : World} {base gm : Nat} {ok : Nat -> Prop} {m : List (Int × List Int)} {v v1 : Value} (h : WM w base gm (fun k => ok k /\ some k ≠ v.ownBlock) m) (hg : w.grownBy w1 v.ownBlock) (hat : v1.ownBlock = v.ownBlock ∨ ∃ b, v1.ownBlock = some b /\ w.heap.size <= b) (hty : ∀ k, v.ownBlock = some k -> ∃ cells q, w.heap[k]? = some (.cells cells q (0, 0))) : WM w1 base gm (fun k => ok k /\ some k ≠ v1.ownBlock) m := by
 obtain ⟨es, clock, hmp⟩ := h.isMap
 obtain ⟨om, mm, hbk, hM, hgm, hW⟩ := h
 refine ⟨om, mm, (hg.block gm (Array.getElem?_eq_some_iff.1 hbk).1 (fun e_ => ?_)).trans hbk, hM, hgm, hW.map (fun hR => iX hR hg hat)⟩
 obtain ⟨c, q, hc⟩ := hty gm e_.symm
 rw [hmp] at hc
 cases hc
theorem aUp {α : Type} {d : Kd α} {e base g : Nat} {w w1 : World} {ok : Nat -> Prop} {v : Value} {xs : List α} (h : d.R e w base ok v xs) (hg : w.grownBy w1 (some g)) (hm : ∃ es clock, w.heap[g]? = some (.map es clock)) : d.R e w1 base ok v xs := by
 refine aG (VD (nY h) hg (fun k hk e_ => ?_)) (fun _ hk => hk.1)
 obtain ⟨_, _, _, q, _, cells, hc⟩ := hk
 obtain ⟨es, clock, hm⟩ := hm
 injection e_ with e_
 subst e_
 rw [hm] at hc
 cases hc
theorem a3y {α : Type} {d : Kd α} {e base g : Nat} {w w1 : World} {ok : Nat -> Prop} {v : Value} {xs : List α} (h : Kd.S d e w base ok v xs) (hg : w.grownBy w1 (some g)) (hm : ∃ es clock, w.heap[g]? = some (.map es clock)) : Kd.S d e w1 base ok v xs := by
 obtain ⟨f, hf⟩ := h
 exact ⟨f, aUp hf hg hm⟩
theorem a9U {α : Type} {d : Kd α} {e base g : Nat} {w w1 : World} {ok : Nat -> Prop} {v : Value} {xs : List α} (h : d.Q e w base ok v xs) (hg : w.grownBy w1 (some g)) (hm : ∃ es clock, w.heap[g]? = some (.map es clock)) : d.Q e w1 base ok v xs := by
 refine Ew (amY (Jp h) (fun k hk hlt => hg.block k hlt (fun e_ => ?_))) (fun _ hk => hk.1)
 obtain ⟨_, _, _, q, _, cells, hc⟩ := hk
 obtain ⟨es, clock, hm⟩ := hm
 injection e_ with e_
 subst e_
 rw [hm] at hc
 cases hc
theorem a3z {w w1 : World} {g b : Nat} {cs : Array Value} {t : TypeId} (h : w.heap[b]? = some (.cells cs t (0, 0))) (hg : w.grownBy w1 (some g)) (hm : ∃ es clock, w.heap[g]? = some (.map es clock)) : w1.heap[b]? = some (.cells cs t (0, 0)) := by
 refine (hg.block b (Array.getElem?_eq_some_iff.1 h).1 (fun e_ => ?_)).trans h
 obtain ⟨es, clock, hm⟩ := hm
 injection e_ with e_
 subst e_
 rw [hm] at h
 cases h
theorem aVJ (w : World) : (zeroValue 38).run Try.prog w = .ok (.slice none 0 0) w := by kernel_rfl
section
variable {ops : Array Oper} {rest : List Oper} {o : Oper} {a : Act} {Q : Exit -> Act -> World -> Prop} {W : World} {base gm : Nat} {ok : Nat -> Prop} {m : List (Int × List Int)}
theorem WM.look_ok (h : WM W base gm ok m) (hg : o.guard = none) (mt x : Operand) (hop : o.op = Op.lookup 75 mt x true) (hm : a.eval mt = .map (some gm)) (key : Int) (hx : a.eval x = .int .i64 key) (hw : wrap64 key = key)
 (hK : ∀ v, wpList Try.prog ops Q rest (a.put o.dst (.tuple #[v, .bool (aVI m key)])) W) : wpList Try.prog ops Q (o :: rest) a W := by
 obtain ⟨om, mm, hb, hM, _, hW⟩ := h
 refine aZM hg mt x 75 3 38 hop Try.underlying75 Try.underlying3 (aVJ _) hb hM hm key hx hw (fun v hh _ e => ?_)
 rw [e, (hW.at_ key).1]
 exact hK v
theorem WM.look (h : WM W base gm ok m) (hg : o.guard = none) (mt x : Operand) (hop : o.op = Op.lookup 75 mt x false) (hm : a.eval mt = .map (some gm)) (key : Int) (hx : a.eval x = .int .i64 key) (hw : wrap64 key = key)
 (hK : ∀ v, Kd.R (Kd.int .i64) 3 W base ok v (aPv m key) -> wpList Try.prog ops Q rest (a.put o.dst v) W) : wpList Try.prog ops Q (o :: rest) a W := by
 obtain ⟨om, mm, hb, hM, _, hW⟩ := h
 exact a9V hg mt x 75 3 38 hop Try.underlying75 Try.underlying3 (aVJ _) hb hM hm key hx hw (fun v e => hK v (e ▸ (hW.at_ key).2))
theorem aYt {T : TypeId} {m x v : Operand} (_ho : o.op = Op.insert T m x v) (h : wpList Try.prog ops Q (o :: rest) a W) : wpList Try.prog ops Q (o :: rest) a W := h
theorem WM.put (h : WM W base gm ok m) (hg : o.guard = none) (mt x v : Operand) (hop : o.op = Op.insert 75 mt x v ∨ o.op = Op.mapUpdate 75 mt x v) (hN : o.dst = none) (hm : a.eval mt = .map (some gm)) (key : Int) (val : Value) (row : List Int)
 (hx : a.eval x = .int .i64 key) (hv : a.eval v = val) (hw : wrap64 key = key) (hR : Kd.R (Kd.int .i64) 3 W base ok val row) (hn : m.length < 17592186044416)
 (hK : ∀ w', WM w' base gm ok ((key, row) :: m) -> W.grownBy w' (some gm) -> (∃ es clock, W.heap[gm]? = some (.map es clock)) -> wpList Try.prog ops Q rest a w') : wpList Try.prog ops Q (o :: rest) a W := by
 have hmp := h.isMap
 obtain ⟨om, mm, hb, hM, hgm, hW⟩ := h
 have hl := hW.len
 have fin : ∀ w' o', w'.heap[gm]? = some o' -> aSx Try.prog 3 (.slice none 0 0) o' ((key, val) :: mm) -> W.grownBy w' (some gm) -> wpList Try.prog ops Q rest a w' := fun w' o' hb' hM' hgr =>
  hK w' ⟨o', _, hb', hM', hgm, rfl, aUp hR hgr hmp, hW.map (fun hR' => aUp hR' hgr hmp)⟩ hgr hmp
 rcases hop with hop | hop
 · exact aWB hg mt x v 75 3 38 hop hN Try.underlying75 Try.underlying3 hb hM (by omega) hm key val hx hv hw fin
 · exact aWC hg mt x v 75 3 38 hop hN Try.underlying75 Try.underlying3 hb hM (by omega) hm key val hx hv hw fin
end
mutual
def aad.j0 : Nat -> List Int -> Int -> Bool -> Int -> Int -> List (fq) -> Option (List Int × Bool)
 | 0, _, _, _, _, _, _ => none
 | k + 1, x1, x2, x38, aIQ, aIR, aJa => if x38 = true then (some (([] : List Int), false)) else ((az.f k aIQ aIR aJa x1).bind fun Iw => ((dw.f k aIQ aIR aJa).bind fun aVK => ((bC.f k aVK).bind fun aST => (if wrap64 aST = aST then (aad.l0 k x1 x2 Iw ([(aST, ([] : List Int))] : List (Int × List Int)) (([aST] : List Int))) else (none)))))
def aad.l0 : Nat -> List Int -> Int -> List (List Int) -> List (Int × List Int) -> List Int -> Option (List Int × Bool)
 | 0, _, _, _, _, _ => none
 | k + 1, x1, x2, x8, j6, qR => if (qR.length : Int) > 0 then (if 0 < (qR.length : Int) then (if 1 <= (qR.length : Int) then (if wrap64 (rd qR 0) = rd qR 0 then (if (rd qR 0) = x2 then (some (aPv j6 (rd qR 0), true)) else (aad.l1 k x1 x2 x8 j6 (qR.drop (1 : Int).toNat) (rd qR 0) x1 (x1.length : Int) 0)) else (none)) else (none)) else (none)) else (some (([] : List Int), false))
def aad.l1 : Nat -> List Int -> Int -> List (List Int) -> List (Int × List Int) -> List Int -> Int -> List Int -> Int -> Int -> Option (List Int × Bool)
 | 0, _, _, _, _, _, _, _, _, _ => none
 | k + 1, x1, x2, x8, j6, qR, pz, x65, x66, x67 => if x67 < x66 then (if 0 <= x67 then (if x67 < (x65.length : Int) then (if x67 < (x8.length : Int) then (if 0 <= pz then (if pz < ((aT x8 x67).length : Int) then (if 0 <= (rd (aT x8 x67) pz) then (if wrap64 (rd (aT x8 x67) pz) = (rd (aT x8 x67) pz) then (if (aVI j6 (rd (aT x8 x67) pz) = true) then (aad.l1 k x1 x2 x8 j6 qR pz x65 x66 (wrap64 (x67 + 1))) else ((some (([] : List Int) : List Int)).bind fun ayi => (if ayi.length + (aPv j6 pz).length < 17592186044416 then (if (ayi ++ (aPv j6 pz)).length < 17592186044416 then (if j6.length < 17592186044416 then (if qR.length < 17592186044416 then (aad.l1 k x1 x2 x8 (((rd (aT x8 x67) pz), (ayi ++ (aPv j6 pz)) ++ [rd x65 x67]) :: j6) (qR ++ [rd (aT x8 x67) pz]) pz x65 x66 (wrap64 (x67 + 1))) else (none)) else (none)) else (none)) else (none)))) else (none)) else (none)) else (none)) else (none)) else (none)) else (none)) else (none)) else (aad.l0 k x1 x2 x8 j6 qR)
end
def aad.f (k : Nat) (ah : Int) (af : Int) (ae : List (fq)) (l1 : List Int) (a2 : Int) : Option (List Int × Bool) := (dP.f k ah af ae).bind fun aVU => (if aVU = true then ((aN.f k ah af ae l1).bind fun aXZ => (if aXZ = true then (if a2 < 0 then (aad.j0 k l1 a2 true ah af ae) else ((bn.f k ah af ae).bind fun aJv => (aad.j0 k l1 a2 (decide (a2 ≥ (shl .i64 1 (aJv.length : Int)))) ah af ae))) else (aad.j0 k l1 a2 true ah af ae))) else (aad.j0 k l1 a2 true ah af ae))
theorem aad.mono_l : ∀ k, (∀ y0 y1 y2 y3 y4 y5, dO (aad.j0 k y0 y1 y2 y3 y4 y5) (aad.j0 (k + 1) y0 y1 y2 y3 y4 y5)) /\ (∀ y0 y1 y2 y3 y4, dO (aad.l0 k y0 y1 y2 y3 y4) (aad.l0 (k + 1) y0 y1 y2 y3 y4)) /\ (∀ y0 y1 y2 y3 y4 y5 y6 y7 y8, dO (aad.l1 k y0 y1 y2 y3 y4 y5 y6 y7 y8) (aad.l1 (k + 1) y0 y1 y2 y3 y4 y5 y6 y7 y8))
 | 0 => by refine ⟨?_, ?_, ?_⟩ <;> (intros; intro r h; first | (simp [aad.j0] at h; done) | (simp [aad.l0] at h; done) | (simp [aad.l1] at h; done))
 | k + 1 => by
  obtain ⟨ja, ih1, ih2⟩ := aad.mono_l k
  refine ⟨?_, ?_, ?_⟩ <;> (
   intros
   first | unfold aad.j0 | unfold aad.l0 | unfold aad.l1
   repeat' first | (with_reducible first | apply ja | apply ih1 | apply ih2 | apply dw.mono | apply dP.mono | apply bC.mono | apply az.mono | apply bn.mono | apply aN.mono | exact dO.refl _ | exact dO.none _ | refine dO.ite ?_ ?_ | refine dO.bind ?_ (fun _ => ?_)) | exact dO.none _ | refine dO.ite ?_ ?_ | refine dO.bind ?_ (fun _ => ?_))
theorem aad.mono : ∀ a0 a1 a2 a3 a4 k, dO (aad.f k a0 a1 a2 a3 a4) (aad.f (k + 1) a0 a1 a2 a3 a4) := by
 intro a0 a1 a2 a3 a4 k
 obtain ⟨ja, ih1, ih2⟩ := aad.mono_l k
 unfold aad.f
 repeat' first | (with_reducible first | apply ja | apply ih1 | apply ih2 | apply dw.mono | apply dP.mono | apply bC.mono | apply az.mono | apply bn.mono | apply aN.mono | exact dO.refl _ | exact dO.none _ | refine dO.ite ?_ ?_ | refine dO.bind ?_ (fun _ => ?_)) | exact dO.none _ | refine dO.ite ?_ ?_ | refine dO.bind ?_ (fun _ => ?_)
theorem aad.calls (k : Nat) (ah : Int) (af : Int) (aK : Option Addr) (aJ : Nat) (ae : List (fq)) (A1 : Option Addr) (c1 : Nat) (l1 : List Int) (a2 : Int) (r1 : List Int) (r2 : Bool) (w : World) (dH : Kd.C jZ w aK ae.length ae) (dG : ae.length <= aJ) (hr1 : Kd.C (Kd.int .i64) w A1 l1.length l1) (hc1 : l1.length <= c1) (h : aad.f k ah af ae l1 a2 = some (r1, r2)) :
 Calls Try.prog 32 #[.agg #[.int .i64 ah, .int .i64 af, .slice aK ae.length aJ], .slice A1 l1.length c1, .int .i64 a2] w fun e w' => ∃ rO : Value, e = .returned (.tuple #[rO, .bool r2]) /\ Kd.R (Kd.int .i64) 3 w' w.heap.size (fun _ => True) rO r1 /\ Below w.heap.size w w' := by
 have nH := Try.underlying30
 have bhq := Try.underlying75
 have bD := aa.mk dH
 have cO := aa.mk dG
 clear dH dG
 have HR1 := aa.mk hr1
 have vD := aa.mk hc1
 clear hr1 hc1
 have HB := aa.mk (Below.refl w.heap.size w)
 have H := h
 clear h
 unfold aad.f at H
 have HC4 := aa.mk H
 clear H
 go_enter Try.func32, Try.ntmps32
 go_upto_region 1 with (first | ((with_reducible refine aC (N := 3) rfl ?_); (try (refine jT (by rfl) ?_; dsimp only)); refine dN (cs := #[.int .i64 ah, .int .i64 af, .slice aK ae.length aJ]) (t := 30) ?_; intro aKL hg w5 hbox hb; refine mJ HB.1 hg hbox hb ?_; clear HB; intro HB aae aYC aYD; clear hb hbox hg))
 (try simp only [Act.put, List.setIfInBounds_toArray, List.set_cons_zero, List.set_cons_succ])
 go_cut [38] (fun v38 wc => ∃ (kq : Nat) (aZN : Bool), v38 = .bool aZN /\ aa (aad.j0 kq l1 a2 aZN ah af ae = some (r1, r2)) /\ aa (kq <= k) /\ aa (wc.heap[aKL]? = some (.cells #[.int .i64 ah, .int .i64 af, (.slice aK ae.length aJ)] 30 (0, 0))) /\ aa (Below w.heap.size w wc))
 case first =>
  have H := HC4.1
  clear HC4
  replace H := dz H; obtain ⟨aVU, A6, H⟩ := H
  replace H := Cm H; rcases H with ⟨rfl, H⟩ | ⟨rfl, H⟩
  · replace H := dz H; obtain ⟨aXZ, A8, H⟩ := H
    replace H := Cm H; rcases H with ⟨rfl, H⟩ | ⟨rfl, H⟩
    · replace H := pu H; rcases H with ⟨c10b0, H⟩ | ⟨c10b0, H⟩
      · (first | rw [c10b0] | (simp only [cz, dF]; rw [c10b0]) | skip)
        have H' := aa.mk H
        clear H
        obtain ⟨vX, vY, EZ, vZ, wh, Fa⟩ := gB aae.1
        go_wp2_with (first | ((with_reducible refine aA (f := 46) rfl ?_); refine cK (N := (some 19)) #[.agg #[.int .i64 ah, .int .i64 af, .slice aK ae.length aJ]] Try.func46 ?_; (with_reducible refine (dP.calls k ah af _ _ ae true _ ?side1 ?side2 A6.1).mono ?_); (case side1 => exact CB (aY bD.1 HB.1)); (case side2 => exact cO.1); rintro e yC ⟨rfl, hb⟩; refine ⟨_, rfl, ?_⟩; refine E2 (bB aae.1 hb) (bS HB.1 hb) ?_; clear aae HB; intro aae HB; (try clear hb); obtain ⟨uF, uG, Cn, uH, uI, Co⟩ := gB aae.1) | (go_at_call 60; (with_reducible refine (aN.calls k ah af _ _ ae _ _ l1 true _ ?side1 ?side2 ?side3 ?side4 A8.1).mono ?_); (case side1 => exact CB (aY bD.1 HB.1)); (case side2 => exact cO.1); (case side3 => exact CB (aY HR1.1 HB.1)); (case side4 => exact vD.1); rintro e yM ⟨rfl, hb⟩; refine E2 (bB aae.1 hb) (bS HB.1 hb) ?_; clear aae HB; intro aae HB; (try clear hb)))
        go_meet
        case rel => exact ⟨_, (true), RG, H', ⟨by first | omega | exact Nat.le_refl _⟩, ⟨PB aae.1⟩, ⟨BL HB.1⟩⟩
      (first | rw [c10b0] | (simp only [cz, dF]; rw [c10b0]) | skip)
      replace H := dz H; obtain ⟨aJv, A15, H⟩ := H
      obtain ⟨aS6, aS2⟩ : ∃ j_ : Int, (shl .i64 1 (aJv.length : Int)) = j_ := ⟨_, rfl⟩
      replace H : (aad.j0 k l1 a2 (decide (a2 ≥ (aS6))) ah af ae) = some (r1, r2) := by first | (rw [aS2] at H; exact H) | (simp only [aS2] at H ⊢; exact H)
      (try rw [aS2] at A6)
      (try rw [aS2] at A8)
      (try rw [aS2] at A15)
      have aWD : (IntKind.i64.wrap (1 * 2 ^ min (aJv.length : Int).toNat 64)) = aS6 := aS2
      have hji16z : (aJv.length : Int) <= 64 -> (IntKind.i64.wrap (1 * 2 ^ (aJv.length : Int).toNat)) = aS6 := CO aS2
      have hji16p : (IntKind.i64.wrap (1 * 2 ^ min aJv.length 64)) = aS6 := aWD
      have hji16q : (aJv.length : Int) <= 64 -> (IntKind.i64.wrap (1 * 2 ^ aJv.length)) = aS6 := hji16z
      have hji16r : (IntKind.i64.wrap (2 ^ min aJv.length 64)) = aS6 := by have h_ := hji16p; rw [Int.one_mul] at h_; exact h_
      have hji16s : (aJv.length : Int) <= 64 -> (IntKind.i64.wrap (2 ^ aJv.length)) = aS6 := fun hle_ => by have h_ := hji16q hle_; rw [Int.one_mul] at h_; exact h_
      have hji16u : (IntKind.i64.wrap (2 ^ min (aJv.length : Int).toNat 64)) = aS6 := by have h_ := aWD; rw [Int.one_mul] at h_; exact h_
      have hji16v : (aJv.length : Int) <= 64 -> (IntKind.i64.wrap (2 ^ (aJv.length : Int).toNat)) = aS6 := fun hle_ => by have h_ := hji16z hle_; rw [Int.one_mul] at h_; exact h_
      have hji16y : (wrap64 (1 * 2 ^ min (aJv.length : Int).toNat 64)) = aS6 := (cz _).symm.trans aWD
      have hji16x : (aJv.length : Int) <= 64 -> (wrap64 (1 * 2 ^ (aJv.length : Int).toNat)) = aS6 := fun h_ => (cz _).symm.trans (hji16z h_)
      have H' := aa.mk H
      clear H
      obtain ⟨VL, VM, VN, VO, VP, VQ⟩ := gB aae.1
      go_wp2_with (first | ((with_reducible refine aA (f := 46) rfl ?_); refine cK (N := (some 19)) #[.agg #[.int .i64 ah, .int .i64 af, .slice aK ae.length aJ]] Try.func46 ?_; (with_reducible refine (dP.calls k ah af _ _ ae true _ ?side1 ?side2 A6.1).mono ?_); (case side1 => exact CB (aY bD.1 HB.1)); (case side2 => exact cO.1); rintro e w18 ⟨rfl, hb⟩; refine ⟨_, rfl, ?_⟩; refine E2 (bB aae.1 hb) (bS HB.1 hb) ?_; clear aae HB; intro aae HB; (try clear hb); obtain ⟨FD, FE, OA, FF, FH, OB⟩ := gB aae.1) | (go_at_call 60; (with_reducible refine (aN.calls k ah af _ _ ae _ _ l1 true _ ?side1 ?side2 ?side3 ?side4 A8.1).mono ?_); (case side1 => exact CB (aY bD.1 HB.1)); (case side2 => exact cO.1); (case side3 => exact CB (aY HR1.1 HB.1)); (case side4 => exact vD.1); rintro e ZJ ⟨rfl, hb⟩; refine E2 (bB aae.1 hb) (bS HB.1 hb) ?_; clear aae HB; intro aae HB; (try clear hb); obtain ⟨uJ, uK, xK, uL, uM, xL⟩ := gB aae.1) | (go_at_call 61; (with_reducible refine (bn.calls k ah af _ _ ae aJv _ ?side1 ?side2 A15.1).mono ?_); (case side1 => exact CB (aY bD.1 HB.1)); (case side2 => exact cO.1); rintro e BM ⟨bhr, rfl, ho0, hb⟩; refine E3 (lN ho0 (bZ HB.1)) (bB aae.1 hb) (bS HB.1 hb) ?_; clear aae HB; intro a9W aae HB; (try clear hb); (try clear ho0); obtain ⟨yN, yO, NV⟩ := mq a9W.1; subst NV))
      go_meet
      case rel => exact ⟨_, (decide (a2 ≥ (aS6))), (by first | rfl | (simp; done) | (simp only [<- aS2] <;> (first | rfl | simp)) | (simp [*]; done)), H', ⟨by first | omega | exact Nat.le_refl _⟩, ⟨PB aae.1⟩, ⟨BL HB.1⟩⟩
    have H' := aa.mk H
    clear H
    obtain ⟨JP, JQ, baE, JR, JS, baF⟩ := gB aae.1
    go_wp2_with (first | ((with_reducible refine aA (f := 46) rfl ?_); refine cK (N := (some 19)) #[.agg #[.int .i64 ah, .int .i64 af, .slice aK ae.length aJ]] Try.func46 ?_; (with_reducible refine (dP.calls k ah af _ _ ae true _ ?side1 ?side2 A6.1).mono ?_); (case side1 => exact CB (aY bD.1 HB.1)); (case side2 => exact cO.1); rintro e Mk ⟨rfl, hb⟩; refine ⟨_, rfl, ?_⟩; refine E2 (bB aae.1 hb) (bS HB.1 hb) ?_; clear aae HB; intro aae HB; (try clear hb); obtain ⟨xM, xN, Ff, xO, xP, Fg⟩ := gB aae.1) | (go_at_call 60; (with_reducible refine (aN.calls k ah af _ _ ae _ _ l1 false _ ?side1 ?side2 ?side3 ?side4 A8.1).mono ?_); (case side1 => exact CB (aY bD.1 HB.1)); (case side2 => exact cO.1); (case side3 => exact CB (aY HR1.1 HB.1)); (case side4 => exact vD.1); rintro e w27 ⟨rfl, hb⟩; refine E2 (bB aae.1 hb) (bS HB.1 hb) ?_; clear aae HB; intro aae HB; (try clear hb)))
    go_meet
    case rel => exact ⟨_, (true), RG, H', ⟨by first | omega | exact Nat.le_refl _⟩, ⟨PB aae.1⟩, ⟨BL HB.1⟩⟩
  have H' := aa.mk H
  clear H
  obtain ⟨VR, VS, VT, VU, VV, VW⟩ := gB aae.1
  go_wp2_with (first | ((with_reducible refine aA (f := 46) rfl ?_); refine cK (N := (some 19)) #[.agg #[.int .i64 ah, .int .i64 af, .slice aK ae.length aJ]] Try.func46 ?_; (with_reducible refine (dP.calls k ah af _ _ ae false _ ?side1 ?side2 A6.1).mono ?_); (case side1 => exact CB (aY bD.1 HB.1)); (case side2 => exact cO.1); rintro e w29 ⟨rfl, hb⟩; refine ⟨_, rfl, ?_⟩; refine E2 (bB aae.1 hb) (bS HB.1 hb) ?_; clear aae HB; intro aae HB; (try clear hb)))
  go_meet
  case rel => exact ⟨_, (true), RG, H', ⟨by first | omega | exact Nat.le_refl _⟩, ⟨PB aae.1⟩, ⟨BL HB.1⟩⟩
 clear HC4
 try clear c1
 obtain ⟨kq, aZN, rfl, HA, HJ3, aae, HB⟩ := hcut
 cases kq with
 | zero => exact absurd HA.1 (by simp [aad.j0])
 | succ kj3 => ?_
 have H := HA.1
 clear HA
 simp only [aad.j0] at H
 replace H := Cm H; rcases H with ⟨rfl, H⟩ | ⟨rfl, H⟩
 · simp only [Option.some.injEq, Prod.mk.injEq] at H
   obtain ⟨rfl, rfl⟩ := H
   go_wp2
   go_ret2
   exact ⟨_, RF, by first | exact tO _ _ _ _ _ | exact ET _ _ _ _ _ | exact EU _ _ _ _ _ | exact EW _ _ _ _ _ | exact EY _ _ _ _ _, BL HB.1⟩
 replace H := dz H; obtain ⟨Iw, A31, H⟩ := H
 replace H := dz H; obtain ⟨aVK, A32, H⟩ := H
 replace H := dz H; obtain ⟨aST, A33, H⟩ := H
 replace H := oC H; obtain ⟨c34, H⟩ := H
 have bcA := aa.mk c34
 clear c34
 generalize a3A : ([(aST, ([] : List Int))] : List (Int × List Int)) = bcB at H
 have a9X := aa.mk a3A.symm; clear a3A
 generalize a3B : ((([aST] : List Int)) : List Int) = bcC at H
 have a3C := aa.mk a3B.symm; clear a3B
 have H' := aa.mk H
 clear H
 obtain ⟨aBk, aBl, baG, aBm, aBn, baH⟩ := gB aae.1
 go_wp2_with (first | ((with_reducible refine aA (f := 48) rfl ?_); refine cK (N := (some 41)) #[.agg #[.int .i64 ah, .int .i64 af, .slice aK ae.length aJ], .slice A1 l1.length c1] Try.func48 ?_; (with_reducible refine (az.calls kj3 ah af _ _ ae _ _ l1 Iw _ ?side1 ?side2 ?side3 ?side4 A31.1).mono ?_); (case side1 => exact CB (aY bD.1 HB.1)); (case side2 => exact cO.1); (case side3 => exact CB (aY HR1.1 HB.1)); (case side4 => exact vD.1); rintro e w39 ⟨a5X, rfl, ho0, hb⟩; refine ⟨_, rfl, ?_⟩; refine E3 (lN ho0 (bZ HB.1)) (bB aae.1 hb) (bS HB.1 hb) ?_; clear aae HB; intro aF1 aae HB; (try clear hb); (try clear ho0); obtain ⟨JF, JG, ahi, JH, JI, ahj⟩ := gB aae.1) | ((with_reducible refine aA (f := 50) rfl ?_); refine cK (N := (some 43)) #[.agg #[.int .i64 ah, .int .i64 af, .slice aK ae.length aJ]] Try.func50 ?_; (with_reducible refine (dw.calls kj3 ah af _ _ ae aVK _ ?side1 ?side2 A32.1).mono ?_); (case side1 => exact CB (aY bD.1 HB.1)); (case side2 => exact cO.1); rintro e MG ⟨bhv, rfl, ho0, hb⟩; refine ⟨_, rfl, ?_⟩; refine E4 (kW (PS aF1.1) (fe ho0) hb) (bN ho0 (bZ HB.1)) (bB aae.1 hb) (bS HB.1 hb) ?_; clear aF1 aae HB; intro aF1 aF5 aae HB; (try clear hb); (try clear ho0); obtain ⟨F6, DV, Ra⟩ := bv aF5.1; subst Ra) | ((with_reducible refine aA (f := 49) rfl ?_); refine cK (N := (some 44)) #[.slice F6 aVK.length DV] Try.func49 ?_; (with_reducible refine (bC.calls kj3 _ _ aVK aST _ ?side1 ?side2 A33.1).mono ?_); (case side1 => exact CB (ay aF5.1).2.2); (case side2 => exact (ay aF5.1).2.1); rintro e w' ⟨rfl, ⟨nd, rfl⟩⟩; refine ⟨_, rfl, ?_⟩; (try (rw [KP MG]; generalize hq_ : World.drewN MG _ = MG; have AV : aa (Kd.S (Kd.slice 3 (Kd.int .i64)) 38 MG w.heap.size (fun k_ => some k_ ≠ (.slice F6 aVK.length DV : Value).ownBlock) a5X Iw) := ⟨by rw [<- hq_]; exact (ES (eY aF1.1 (fun _ hk => hk.2)))⟩; have AX : aa (Kd.R (Kd.int .i64) 3 MG w.heap.size (fun _ => True) (.slice F6 aVK.length DV) aVK) := ⟨by rw [<- hq_]; exact (PR aF5.1)⟩; have AY : aa (MG.heap[aKL]? = some (.cells #[.int .i64 ah, .int .i64 af, .slice aK ae.length aJ] 30 (0, 0))) := ⟨by rw [<- hq_]; exact (PB aae.1)⟩; have AZ : aa (Below w.heap.size w MG) := ⟨by rw [<- hq_]; exact (BL HB.1)⟩; clear aF1 aF5 aae HB hq_; have aF1 := AV; have aF5 := AX; have aae := AY; have HB := AZ; clear AV AX AY AZ))) | ((with_reducible refine aC (N := 45) rfl ?_); (try (refine jT (by rfl) ?_; dsimp only)); refine aWE ?hg (N := 45) ?hd ?hr ?_; (case hd => rfl); (case hg => rfl); (case hr => first | (go_simp; done) | (go_simp; rfl) | rfl); intro gm hg w43 hbox hb; have GM := aa.mk (hg ▸ HB.1.size : w.heap.size <= gm); have aRO := aa.mk (WM.zero (ok := fun _ => True) GM.1 hbox); refine E4 (sB aF1.1 hb) (rB aF5.1 hb) (bB aae.1 hb) (bS HB.1 hb) ?_; clear aF1 aF5 aae HB; intro aF1 aF5 aae HB; clear hg hbox hb) | ((with_reducible refine aC (N := 47) rfl ?_); (try (refine jT (by rfl) ?_; dsimp only)); refine qh (Kd.int .i64) _ 3 ?hg (N := 47) ?hd (xs := ([] : List Int)) (inner := []) (ok := fun _ => True) (okp := fun _ => True) ?hr ?hp (fun _ hk => hk) trivial (Below.refl _ _) (Nat.le_refl _) (by simp) ?_; (case hd => rfl); (case hg => rfl); (case hr => first | (go_simp; done) | (go_simp; rfl)); (case hp => exact (fK.none _ _)); intro LP w44 a9Y hb hg_ hnew_; clear hg_ hnew_; refine E6 (sB aF1.1 hb) (rB aF5.1 hb) (WM.below aRO.1 hb) (bN a9Y (bZ HB.1)) (bB aae.1 hb) (bS HB.1 hb) ?_; clear aF1 aF5 aRO aae HB; intro aF1 aF5 aRO a9Z aae HB; clear hb a9Y) | ((with_reducible refine aYt (T := 75) (m := .tmp 45) (x := .tmp 46) (v := .tmp 47) rfl ?_); (try (refine jT (by rfl) ?_; dsimp only)); refine WM.put aRO.1 ?hg (.tmp 45) (.tmp 46) (.tmp 47) ?hop ?hN ?hm aST LP ([] : List Int) ?hx ?hv bcA.1 a9Z.1 (by simp) ?_; (case hg => rfl); (case hop => first | exact .inl rfl | exact .inr rfl); (case hN => rfl); (case hm => rfl); (case hx => first | rfl | (go_simp; done) | (go_simp; rfl)); (case hv => first | rfl | (go_simp; done) | (go_simp; rfl)); intro w46 hm_ hg hmp; rw [<- a9X.1] at hm_; refine E5 (a3z aae.1 hg hmp) (a3y aF1.1 hg hmp) (aUp aF5.1 hg hmp) (hm_) (Kw HB.1 _ HB.1.size hg (fun k_ e_ => by cases e_; exact GM.1)) ?_; clear aae aF1 aF5 aRO HB; intro aae aF1 aF5 aRO HB; clear hg hm_ hmp) | ((with_reducible refine aC (N := 50) rfl ?_); (try (refine jT (by rfl) ?_; dsimp only)); refine qh (Kd.int .i64) _ 3 ?hg (N := 50) ?hd (xs := ([aST] : List Int)) (inner := [.int .i64 aST]) (ok := fun _ => True) (okp := fun _ => True) ?hr ?hp (fun _ hk => hk) trivial (Below.refl _ _) (Nat.le_refl _) (by simp) ?_; (case hd => rfl); (case hg => rfl); (case hr => first | (go_simp; done) | (go_simp; rfl)); (case hp => exact (fK.one (show Kd.M (Kd.int .i64) _ _ _ aST [.int .i64 aST] from rfl) (fK.none _ _))); intro bhw w47 aVL hb hg_ hnew_; clear hg_ hnew_; (first | rw [<- a3C.1] at aVL | (simp only [Int.reduceToNat] at aVL; rw [<- a3C.1] at aVL)); refine E6 (kW (PS aF1.1) (fe aVL) hb) (eT (PR aF5.1) (fe aVL) hb) (WM.elder aRO.1 (fe aVL) hb) (bN (iI aVL (iL (PR aF5.1))) (bZ HB.1)) (bB aae.1 hb) (bS HB.1 hb) ?_; clear aF1 aF5 aRO aae HB; intro aF1 aF5 aRO a90 aae HB; clear hb aVL))
 go_loopg [11] kj3 (fun kq v11 w' => ∃ (aXA : List (Int × List Int)) (aq4 : List Int), aa (aad.l0 kq l1 a2 Iw aXA aq4 = some (r1, r2)) /\ aa (kq <= kj3) /\ aa (Kd.S (Kd.slice 3 (Kd.int .i64)) 38 w' w.heap.size (fun k_ => some k_ ≠ (v11 : Value).ownBlock) a5X Iw) /\ aa (WM w' w.heap.size gm (fun k_ => some k_ ≠ (v11 : Value).ownBlock) aXA) /\ aa (Kd.Q (Kd.int .i64) 3 w' w.heap.size (fun _ => True) v11 aq4) /\ aa (w'.heap[aKL]? = some (.cells #[.int .i64 ah, .int .i64 af, (.slice aK ae.length aJ)] 30 (0, 0))) /\ aa (Below w.heap.size w w'))
 case atStart => exact ⟨(bcB), (bcC), H', ⟨Nat.le_refl _⟩, ⟨ES (eY aF1.1 (fun _ hk => hk.2))⟩, ⟨WM.mono aRO.1 (fun _ h_ => h_.2)⟩, ⟨Tj (pm (aG a90.1 (fun _ hk => trivial)))⟩, ⟨PB aae.1⟩, ⟨BL HB.1⟩⟩
 clear H'
 try clear c1
 obtain ⟨aXA, aq4, HA, nG, HO_8, HO_10, HO_11, aae, HB⟩ := hrel
 have aDG : (0 : Nat) = 0 := rfl
 (try simp only [aDG])
 (try simp only [aDG] at aae)
 (try simp only [aDG] at HO_8)
 (try simp only [aDG] at HO_11)
 cases gk with
 | zero => exact absurd HA.1 (by simp [aad.l0])
 | succ k2 => ?_
 have H := HA.1
 clear HA
 simp only [aad.l0] at H
 replace H := oP H; rcases H with ⟨c49, H⟩ | ⟨c49, H⟩
 · have c49b0 : decide (0 < (aq4.length : Int)) = true := decide_eq_true c49
   have c49b1 : decide (0 < aq4.length) = true := decide_eq_true (by omega)
   clear c49
   replace H := oC H; obtain ⟨c50, H⟩ := H
   have c50b0 := decide_eq_true c50
   have c50b1 : decide (0 < aq4.length) = true := decide_eq_true (by omega)
   clear c50
   replace H := oC H; obtain ⟨c51, H⟩ := H
   have c51b0 := eq_true c51
   have c51b1 := decide_eq_true c51
   clear c51
   replace H := oC H; obtain ⟨cW, H⟩ := H
   have HWK := aa.mk cW
   clear cW
   generalize a3D : ((aq4.drop (1 : Int).toNat) : List Int) = aSU at H
   have aXB := aa.mk a3D.symm; clear a3D
   replace H := oP H; rcases H with ⟨c52, H⟩ | ⟨c52, H⟩
   · have c52b0 := beq_iff_eq.mpr c52
     have c52b1 := bne_eq_false_iff_eq.mpr c52
     clear c52
     simp only [Option.some.injEq, Prod.mk.injEq] at H
     obtain ⟨rfl, rfl⟩ := H
     obtain ⟨bhx, a1d, bcD, _⟩ := Jq HO_11.1
     subst bcD
     have aVM : 0 <= (0 : Int) := (by omega)
     have aVN : 0 < (aq4.length : Int) := OD
     obtain ⟨aPO, a5Z, aRB⟩ := Kd.dx (KF HO_11.1).2.2 0 aVM aVN
     cases a5Z
     have a92 : (0 < aq4.length) = True := eq_true (by omega)
     (try rw [show ((0 : Int)).toNat = 0 from rfl] at aRB)
     (try rw [Addr.add_zero'] at aRB)
     replace aVM := eq_true aVM
     replace aVN := eq_true aVN
     have q54 : (1 : Int) <= ((aq4.length : Int) : Int) := OD
     obtain ⟨bhy, a3E, _, a3F, _⟩ := info_parts info3
     have hcut54 := Fy (P := Try.prog) 38 3 .i64 Try.underlying38 a3E 1 a3F (some aPO) aq4.length a1d 1 (by omega) q54
     have aZO := aam (k := (1 : Int).toNat) HO_11.1 (by omega)
     obtain ⟨A54, a1e⟩ : ∃ A1, A1 = (if a1d = (1 : Int).toNat then (some aPO) else ((some aPO) : Option Addr).map (·.add ((1 : Int).toNat * 1))) := ⟨_, rfl⟩
     obtain ⟨c54, a6a⟩ : ∃ c1, c1 = a1d - (1 : Int).toNat := ⟨_, rfl⟩
     have a6b : aSU.length = aq4.length - (1 : Int).toNat := (by rw [aXB.1, List.length_drop])
     rw [<- aXB.1] at aZO
     rw [<- a6b, <- a1e, <- a6a] at hcut54
     replace aZO : Kd.Q (Kd.int .i64) 3 wr w.heap.size (fun _ => True) (.slice A54 aSU.length c54) aSU := (by rw [a1e, a6a, a6b]; exact aZO)
     have a94 : aa ((Value.slice A54 aSU.length c54).ownBlock = (.slice (some aPO) aq4.length a1d : Value).ownBlock) := ⟨by rw [a1e]; split <;> (cases ((some aPO) : Option Addr) <;> rfl)⟩
     clear a6b a3E a3F HO_11 a1e a6a
     have a3G := aa.mk aZO
     clear aZO
     replace q54 := eq_true q54
     have n_ := aa.mk (eY (ok' := fun k_ => some k_ ≠ (.slice A54 aSU.length c54 : Value).ownBlock) HO_8.1 (fun k_ hk => (by rw [a94.1]; exact hk)))
     clear HO_8
     have HO_8 := n_
     clear n_
     have n_ := aa.mk (WM.mono (ok' := fun k_ => some k_ ≠ (.slice A54 aSU.length c54 : Value).ownBlock) HO_10.1 (fun k_ hk => (by rw [a94.1]; exact hk)))
     clear HO_10
     have HO_10 := n_
     clear n_
     go_wp2_with (first | ((with_reducible refine aC (N := 64) rfl ?_); (try (refine jT (by rfl) ?_; dsimp only)); refine WM.look HO_10.1 ?hg (.tmp 62) (.tmp 63) ?hop ?hm (rd aq4 0) ?hx HWK.1 ?_; (case hg => rfl); (case hop => rfl); (case hm => rfl); (case hx => first | rfl | (go_simp; done) | (go_simp; rfl)); intro bhz DU; have a95 := aa.mk DU; clear DU))
     go_ret2
     exact ⟨_, RF, pm (aG a95.1 (fun _ hk => trivial)), BL HB.1⟩
   have c52b0 := beq_eq_false_iff_ne.mpr c52
   have c52b1 := bne_iff_ne.mpr c52
   have H' := aa.mk H
   clear H
   obtain ⟨SX, Mq, amJ, _⟩ := Jq HO_11.1
   subst amJ
   have aVM : 0 <= (0 : Int) := (by omega)
   have aVN : 0 < (aq4.length : Int) := OD
   obtain ⟨aPO, a5Z, aRB⟩ := Kd.dx (KF HO_11.1).2.2 0 aVM aVN
   cases a5Z
   have a92 : (0 < aq4.length) = True := eq_true (by omega)
   (try rw [show ((0 : Int)).toNat = 0 from rfl] at aRB)
   (try rw [Addr.add_zero'] at aRB)
   replace aVM := eq_true aVM
   replace aVN := eq_true aVN
   have q58 : (1 : Int) <= ((aq4.length : Int) : Int) := OD
   obtain ⟨bhA, a3H, _, a3I, _⟩ := info_parts info3
   have hcut58 := Fy (P := Try.prog) 38 3 .i64 Try.underlying38 a3H 1 a3I (some aPO) aq4.length Mq 1 (by omega) q58
   have aZP := aam (k := (1 : Int).toNat) HO_11.1 (by omega)
   obtain ⟨A58, a1f⟩ : ∃ A1, A1 = (if Mq = (1 : Int).toNat then (some aPO) else ((some aPO) : Option Addr).map (·.add ((1 : Int).toNat * 1))) := ⟨_, rfl⟩
   obtain ⟨c58, a6c⟩ : ∃ c1, c1 = Mq - (1 : Int).toNat := ⟨_, rfl⟩
   have a6d : aSU.length = aq4.length - (1 : Int).toNat := (by rw [aXB.1, List.length_drop])
   rw [<- aXB.1] at aZP
   rw [<- a6d, <- a1f, <- a6c] at hcut58
   replace aZP : Kd.Q (Kd.int .i64) 3 wr w.heap.size (fun _ => True) (.slice A58 aSU.length c58) aSU := (by rw [a1f, a6c, a6d]; exact aZP)
   have a97 : aa ((Value.slice A58 aSU.length c58).ownBlock = (.slice (some aPO) aq4.length Mq : Value).ownBlock) := ⟨by rw [a1f]; split <;> (cases ((some aPO) : Option Addr) <;> rfl)⟩
   clear a6d a3H a3I HO_11 a1f a6c
   have a3G := aa.mk aZP
   clear aZP
   replace q58 := eq_true q58
   have n_ := aa.mk (eY (ok' := fun k_ => some k_ ≠ (.slice A58 aSU.length c58 : Value).ownBlock) HO_8.1 (fun k_ hk => (by rw [a97.1]; exact hk)))
   clear HO_8
   have HO_8 := n_
   clear n_
   have n_ := aa.mk (WM.mono (ok' := fun k_ => some k_ ≠ (.slice A58 aSU.length c58 : Value).ownBlock) HO_10.1 (fun k_ hk => (by rw [a97.1]; exact hk)))
   clear HO_10
   have HO_10 := n_
   clear n_
   go_wp2
   go_loopg [11, 67] k2 (fun kq v11 v67 w' => ∃ (aEk : List (Int × List Int)) (aNH : List Int) (arf : Int), v67 = .int .i64 arf /\ aa (aad.l1 kq l1 a2 Iw aEk aNH (rd aq4 0) l1 (l1.length : Int) arf = some (r1, r2)) /\ aa (kq <= k2) /\ aa (Kd.S (Kd.slice 3 (Kd.int .i64)) 38 w' w.heap.size (fun k_ => some k_ ≠ (v11 : Value).ownBlock) a5X Iw) /\ aa (WM w' w.heap.size gm (fun k_ => some k_ ≠ (v11 : Value).ownBlock) aEk) /\ aa (Kd.Q (Kd.int .i64) 3 w' w.heap.size (fun _ => True) v11 aNH) /\ aa (w'.heap[aKL]? = some (.cells #[.int .i64 ah, .int .i64 af, (.slice aK ae.length aJ)] 30 (0, 0))) /\ aa (Below w.heap.size w w'))
   case atStart => exact ⟨(aXA), (aSU), (0), RG, H', ⟨Nat.le_refl _⟩, ⟨PS1 HO_8.1 aDG⟩, ⟨HO_10.1⟩, ⟨by (try simp only [aDG]); (with_reducible repeat (first | apply mi | apply mo | apply nZ)); exact a3G.1⟩, ⟨Er aae.1 aDG⟩, ⟨BL HB.1⟩⟩
   clear H'
   try clear c1; try clear c52; try clear c58; try clear q58; try clear aRB; try clear aVM; try clear aVN
   obtain ⟨aEk, aNH, arf, rfl, HA, HK3, HO_8, HO_10, HO_11, aae, HB⟩ := hrel
   have aEa : (0 : Nat) = 0 := rfl
   (try simp only [aEa])
   (try simp only [aEa] at aae)
   (try simp only [aEa] at HO_8)
   (try simp only [aEa] at HO_11)
   cases gk with
   | zero => exact absurd HA.1 (by simp [aad.l1])
   | succ k3 => ?_
   have H := HA.1
   clear HA
   simp only [aad.l1] at H
   replace H := pu H; rcases H with ⟨c59b0, H⟩ | ⟨c59b0, H⟩
   · replace H := ji H; obtain ⟨c60b0, H⟩ := H
     replace H := ji H; obtain ⟨c61b0, H⟩ := H
     replace H := ji H; obtain ⟨c62b0, H⟩ := H
     replace H := ji H; obtain ⟨c63b0, H⟩ := H
     replace H := ji H; obtain ⟨c64b0, H⟩ := H
     replace H := ji H; obtain ⟨c65b0, H⟩ := H
     replace H := oC H; obtain ⟨c66, H⟩ := H
     have a6e := aa.mk c66
     clear c66
     obtain ⟨a98, aZR⟩ : ∃ b_ : Bool, b_ = (aVI aEk (rd (aT Iw arf) (rd aq4 0))) := ⟨_, rfl⟩
     replace H : (if (a98 = true) then (aad.l1 k3 l1 a2 Iw aEk aNH (rd aq4 0) l1 (l1.length : Int) (wrap64 (arf + 1))) else ((some (([] : List Int) : List Int)).bind fun ayi => (if ayi.length + (aPv aEk (rd aq4 0)).length < 17592186044416 then (if (ayi ++ (aPv aEk (rd aq4 0))).length < 17592186044416 then (if aEk.length < 17592186044416 then (if aNH.length < 17592186044416 then (aad.l1 k3 l1 a2 Iw (((rd (aT Iw arf) (rd aq4 0)), (ayi ++ (aPv aEk (rd aq4 0))) ++ [rd l1 arf]) :: aEk) (aNH ++ [rd (aT Iw arf) (rd aq4 0)]) (rd aq4 0) l1 (l1.length : Int) (wrap64 (arf + 1))) else (none)) else (none)) else (none)) else (none)))) = some (r1, r2) := by rw [<- aZR] at H; exact H
     have a3J := aa.mk aZR
     clear aZR
     by_cases c68 : (a98 = true)
     · subst c68
       have H1 : (aad.l1 k3 l1 a2 Iw aEk aNH (rd aq4 0) l1 (l1.length : Int) (wrap64 (arf + 1))) = some (r1, r2) := by rw [if_pos rfl] at H; exact H
       clear H
       have H := H1
       clear H1
       have H' := aa.mk H
       clear H
       have ap9 : 0 <= (arf : Int) := OD
       have aqa : arf < (l1.length : Int) := OD
       obtain ⟨XB, aHK, XC⟩ := Kd.dx HR1.1 arf ap9 aqa
       cases aHK
       replace XC := (HB.1.cell (World.block_lt_of_cell? w _ XC)).trans XC
       replace ap9 := eq_true ap9
       replace aqa := eq_true aqa
       obtain ⟨bhB, bhC, bcF⟩ := mq HO_8.1
       subst bcF
       have aU3 : 0 <= (arf : Int) := OD
       have aU4 : arf < (Iw.length : Int) := OD
       obtain ⟨aXC, a6f, aU5, a6g, aU6, aSy, aSz⟩ := tT (fJ HO_8.1).2.2 arf aU3 aU4
       cases a6g
       obtain ⟨a99, aWF, aWG, aTN⟩ := BF HO_8.1 [] arf aU3 (by first | exact aU4 | exact OD | (have e_ := (fJ HO_8.1).1; omega))
       obtain ⟨a1g, rfl, aPu⟩ := aWG
       have aGc := aTN 0 _ rfl
       rw [Nat.add_zero, show ((Kd.slice 3 (Kd.int .i64))).sz = 1 from rfl, Nat.mul_one] at aGc
       replace aGc := Option.some.inj (aGc.symm.trans aU6)
       rw [aGc] at aPu
       have auF := aa.mk (show Kd.R (Kd.int .i64) 3 _ _ _ _ (aT Iw arf) from aPu)
       clear aGc aPu
       clear aTN aWF
       have aJk := aa.mk aSz
       have a1h := aa.mk aSy
       clear aSz aSy
       replace aU3 := eq_true aU3
       replace aU4 := eq_true aU4
       have ahk : 0 <= ((rd aq4 0) : Int) := OD
       have ahl : (rd aq4 0) < ((aT Iw arf).length : Int) := OD
       obtain ⟨ayl, aHO, Bo⟩ := Kd.dx (by repeat (first | (with_reducible exact aJk.1) | (with_reducible refine kg ?_ _) | (with_reducible refine ko ?_ _) | (with_reducible refine kH ?_) | exact aJk.1)) (rd aq4 0) ahk ahl
       cases aHO
       replace ahk := eq_true ahk
       replace ahl := eq_true ahl
       go_wp2_with (first | ((with_reducible refine aC (N := 82) rfl ?_); (try (refine jT (by rfl) ?_; dsimp only)); refine WM.look_ok HO_10.1 ?hg (.tmp 80) (.tmp 81) ?hop ?hm (rd (aT Iw arf) (rd aq4 0)) ?hx a6e.1 ?_; (case hg => rfl); (case hop => rfl); (case hm => rfl); (case hx => first | rfl | (go_simp; done) | (go_simp; rfl)); intro vl_; rw [<- a3J.1]))
       (try simp only [<- aEa])
       go_roundg k3
       case measure => have := HJ3.1; have := nG.1; have := HK3.1; omega
       case rel => exact ⟨(aEk), (aNH), (wrap64 (arf + 1)), RG, H', ⟨by have := HJ3.1; have := nG.1; have := HK3.1; omega⟩, ⟨PS2 HO_8.1 aDG aEa⟩, ⟨HO_10.1⟩, ⟨by (try simp only [aDG]); (try simp only [aEa]); (with_reducible repeat (first | apply mi | apply mo | apply nZ)); exact HO_11.1⟩, ⟨HY aae.1 aDG aEa⟩, ⟨BL HB.1⟩⟩
     replace c68 := Bool.eq_false_iff.mpr c68
     subst c68
     have H1 : ((some (([] : List Int) : List Int)).bind fun ayi => (if ayi.length + (aPv aEk (rd aq4 0)).length < 17592186044416 then (if (ayi ++ (aPv aEk (rd aq4 0))).length < 17592186044416 then (if aEk.length < 17592186044416 then (if aNH.length < 17592186044416 then (aad.l1 k3 l1 a2 Iw (((rd (aT Iw arf) (rd aq4 0)), (ayi ++ (aPv aEk (rd aq4 0))) ++ [rd l1 arf]) :: aEk) (aNH ++ [rd (aT Iw arf) (rd aq4 0)]) (rd aq4 0) l1 (l1.length : Int) (wrap64 (arf + 1))) else (none)) else (none)) else (none)) else (none))) = some (r1, r2) := by rw [if_neg (show ¬ (false = true) by decide)] at H; exact H
     clear H
     have H := H1
     clear H1
     replace H := nR H; obtain ⟨ayi, ayj, H⟩ := H
     replace H := oC H; obtain ⟨c70, H⟩ := H
     have a_a := aa.mk c70
     clear c70
     generalize a3K : ((ayi ++ (aPv aEk (rd aq4 0))) : List Int) = a_b at H
     have a_c := aa.mk a3K.symm; clear a3K
     replace H := oC H; obtain ⟨c71, H⟩ := H
     have a_d := aa.mk c71
     clear c71
     generalize a3L : ((a_b ++ [rd l1 arf]) : List Int) = a_e at H
     have a_f := aa.mk a3L.symm; clear a3L
     generalize a3M : ((((rd (aT Iw arf) (rd aq4 0)), a_e) :: aEk) : List (Int × List Int)) = bcG at H
     have a_g := aa.mk a3M.symm; clear a3M
     replace H := oC H; obtain ⟨c72, H⟩ := H
     have a_h := aa.mk c72
     clear c72
     replace H := oC H; obtain ⟨c73, H⟩ := H
     have a_i := aa.mk c73
     clear c73
     generalize a3N : ((aNH ++ [rd (aT Iw arf) (rd aq4 0)]) : List Int) = bcH at H
     have a_j := aa.mk a3N.symm; clear a3N
     have H' := aa.mk H
     clear H
     have ap9 : 0 <= (arf : Int) := OD
     have aqa : arf < (l1.length : Int) := OD
     obtain ⟨XB, aHK, XC⟩ := Kd.dx HR1.1 arf ap9 aqa
     cases aHK
     replace XC := (HB.1.cell (World.block_lt_of_cell? w _ XC)).trans XC
     replace ap9 := eq_true ap9
     replace aqa := eq_true aqa
     obtain ⟨bhD, a6h, bcI⟩ := mq HO_8.1
     subst bcI
     have aU3 : 0 <= (arf : Int) := OD
     have aU4 : arf < (Iw.length : Int) := OD
     obtain ⟨aXC, a6f, aU5, a6g, aU6, aSy, aSz⟩ := tT (fJ HO_8.1).2.2 arf aU3 aU4
     cases a6g
     obtain ⟨a99, aWF, aWG, aTN⟩ := BF HO_8.1 [] arf aU3 (by first | exact aU4 | exact OD | (have e_ := (fJ HO_8.1).1; omega))
     obtain ⟨a1g, rfl, aPu⟩ := aWG
     have aGc := aTN 0 _ rfl
     rw [Nat.add_zero, show ((Kd.slice 3 (Kd.int .i64))).sz = 1 from rfl, Nat.mul_one] at aGc
     replace aGc := Option.some.inj (aGc.symm.trans aU6)
     rw [aGc] at aPu
     have auF := aa.mk (show Kd.R (Kd.int .i64) 3 _ _ _ _ (aT Iw arf) from aPu)
     clear aGc aPu
     clear aTN aWF
     have aJk := aa.mk aSz
     have a1h := aa.mk aSy
     clear aSz aSy
     replace aU3 := eq_true aU3
     replace aU4 := eq_true aU4
     have ahk : 0 <= ((rd aq4 0) : Int) := OD
     have ahl : (rd aq4 0) < ((aT Iw arf).length : Int) := OD
     obtain ⟨ayl, aHO, Bo⟩ := Kd.dx (by repeat (first | (with_reducible exact aJk.1) | (with_reducible refine kg ?_ _) | (with_reducible refine ko ?_ _) | (with_reducible refine kH ?_) | exact aJk.1)) (rd aq4 0) ahk ahl
     cases aHO
     replace ahk := eq_true ahk
     replace ahl := eq_true ahl
     go_wp2_with (first | ((with_reducible refine aC (N := 82) rfl ?_); (try (refine jT (by rfl) ?_; dsimp only)); refine WM.look_ok HO_10.1 ?hg (.tmp 80) (.tmp 81) ?hop ?hm (rd (aT Iw arf) (rd aq4 0)) ?hx a6e.1 ?_; (case hg => rfl); (case hop => rfl); (case hm => rfl); (case hx => first | rfl | (go_simp; done) | (go_simp; rfl)); intro vl_; rw [<- a3J.1]) | ((with_reducible refine aC (N := 89) rfl ?_); (try (refine jT (by rfl) ?_; dsimp only)); refine qh (Kd.int .i64) _ 3 ?hg (N := 89) ?hd (xs := ([] : List Int)) (inner := []) (ok := fun _ => True) (okp := fun _ => True) ?hr ?hp (fun _ hk => hk) trivial (Below.refl _ _) (Nat.le_refl _) (by simp) ?_; (case hd => rfl); (case hg => rfl); (case hr => first | (go_simp; done) | (go_simp; rfl)); (case hp => exact (fK.none _ _)); intro bcJ w75 aU7 hb hg_ hnew_; clear hg_ hnew_; (first | rw [<- ayj.1] at aU7 | (simp only [Int.reduceToNat] at aU7; rw [<- ayj.1] at aU7)); refine E8 (kW (PS HO_8.1) (fe aU7) hb) (WM.elder HO_10.1 (fe aU7) hb) (aan (by (with_reducible repeat (first | apply mi | apply mo | apply nZ)); exact HO_11.1) (fe aU7) hb) (eT (PR auF.1) (fe aU7) hb) (bN (iI (iI aU7 (aEe (by (with_reducible repeat (first | apply mi | apply mo | apply nZ)); exact HO_11.1))) (iL (PR auF.1))) (bZ HB.1)) (bB aae.1 hb) (aY (by repeat (first | (with_reducible exact aJk.1) | (with_reducible refine kg ?_ _) | (with_reducible refine ko ?_ _) | (with_reducible refine kH ?_) | exact aJk.1)) hb) (bS HB.1 hb) ?_; clear HO_8 HO_10 HO_11 auF aae aJk HB; intro HO_8 HO_10 HO_11 auF aXD aae aJk HB; clear hb aU7) | ((with_reducible refine aC (N := 92) rfl ?_); (try (refine jT (by rfl) ?_; dsimp only)); refine WM.look HO_10.1 ?hg (.tmp 90) (.tmp 91) ?hop ?hm (rd aq4 0) ?hx HWK.1 ?_; (case hg => rfl); (case hop => rfl); (case hm => rfl); (case hx => first | rfl | (go_simp; done) | (go_simp; rfl)); intro bhE ho_; obtain ⟨A92, c92, e92⟩ := bv ho_; subst e92; have bcK := aa.mk ho_; clear ho_) | ((with_reducible refine bf (b := .append) (xs := #[.tmp 89, .tmp 92]) rfl ?_); (try (refine jT (by rfl) ?_; dsimp only)); at_builtin; refine qB (Kd.int .i64) (w0 := w) w.heap.size rfl (.tmp 89) (.tmp 92) 38 3 (.int .i64 0) 8 rfl Try.underlying38 info3 rfl (by decide) (by omega) bcJ ayi (aPv aEk (rd aq4 0)) _ _ _ (fun k_ => some k_ ≠ (u11 : Value).ownBlock /\ some k_ ≠ (.slice (some ayl) (aT Iw arf).length aU5 : Value).ownBlock) (fun _ => False) rfl rfl ?aO ?aR (fun _ _ h => h) (fun _ h => h.elim) ?aF ?aB ?aS ?aL ?_; (case aR => exact (ay bcK.1).2.2); (case aB => exact (BL HB.1)); (case aF => exact (fun k_ hk => ⟨Kd.kX (aEe (by (with_reducible repeat (first | apply mi | apply mo | apply nZ)); exact HO_11.1)) k_ hk, Kd.kX (iL (PR auF.1)) k_ hk⟩)); (case aO => exact (pm (aG aXD.1 (fun _ hk => ⟨hk.1.2, hk.2⟩)))); (case aS => exact (bZ HB.1)); (case aL => have := a_a.1; omega); intro a7u w77 ho hb hg hat; rw [<- a_c.1] at ho; refine E7 (CK (ok := (fun k_ => some k_ ≠ (u11 : Value).ownBlock)) (PS HO_8.1) hg hat) (WM.after (ok := (fun k_ => some k_ ≠ (u11 : Value).ownBlock)) HO_10.1 hg hat (xty (dY (PR aXD.1)))) (aez (ok := (fun _ => True)) (by (with_reducible repeat (first | apply mi | apply mo | apply nZ)); exact HO_11.1) hg hat) (bG aae.1 hg (dK aXD.1 aae.1 (by decide))) (iX (ok := (fun k_ => some k_ ≠ (.slice (some aXC) Iw.length a6h : Value).ownBlock /\ some k_ ≠ (u11 : Value).ownBlock)) (pm (aG auF.1 (fun _ hk => ⟨⟨hk.1.2, hk.1.1⟩, hk.2⟩))) hg hat) (hb) (ho) ?_; clear HO_8 HO_10 HO_11 aae auF HB aXD; intro HO_8 HO_10 HO_11 aae auF HB aKU; clear ho hb hg hat) | ((with_reducible refine bf (b := .append) (xs := #[.tmp 93, .tmp 95]) rfl ?_); (try (refine jT (by rfl) ?_; dsimp only)); at_builtin; refine ek (Kd.int .i64) (w0 := w) w.heap.size rfl (.tmp 93) (.tmp 95) 38 3 (.int .i64 0) 8 rfl Try.underlying38 info3 rfl (by decide) (by omega) a7u a_b (rd l1 arf) [.int .i64 (rd l1 arf)] (fun k_ => some k_ ≠ (u11 : Value).ownBlock /\ some k_ ≠ (.slice (some ayl) (aT Iw arf).length aU5 : Value).ownBlock) (fun _ => False) rfl rfl ?aP (fun _ hk => hk.elim) ?aF ?aO ?aB ?aS ?aL ?_; (case aP => exact rfl); (case aB => exact (BL HB.1)); (case aF => exact (fun k_ hk => ⟨Kd.kX (aEe (by (with_reducible repeat (first | apply mi | apply mo | apply nZ)); exact HO_11.1)) k_ hk, Kd.kX (iL (PR auF.1)) k_ hk⟩)); (case aO => exact (PR aKU.1)); (case aS => exact (bZ HB.1)); (case aL => have := a_d.1; omega); intro a1i w78 ho hb hg hat; rw [<- a_f.1] at ho; refine E7 (CK (ok := (fun k_ => some k_ ≠ (u11 : Value).ownBlock)) (PS HO_8.1) hg hat) (WM.after (ok := (fun k_ => some k_ ≠ (u11 : Value).ownBlock)) HO_10.1 hg hat (xty (dY (PR aKU.1)))) (aez (ok := (fun _ => True)) (by (with_reducible repeat (first | apply mi | apply mo | apply nZ)); exact HO_11.1) hg hat) (bG aae.1 hg (dK aKU.1 aae.1 (by decide))) (iX (ok := (fun k_ => some k_ ≠ (.slice (some aXC) Iw.length a6h : Value).ownBlock /\ some k_ ≠ (u11 : Value).ownBlock)) (PR auF.1) hg hat) (hb) (ho) ?_; clear HO_8 HO_10 HO_11 aae auF HB aKU; intro HO_8 HO_10 HO_11 aae auF HB aS3; clear ho hb hg hat) | ((with_reducible refine aYu (T := 75) (m := .tmp 87) (x := .tmp 88) (v := .tmp 96) rfl ?_); (try (refine jT (by rfl) ?_; dsimp only)); refine WM.put (WM.mono HO_10.1 (fun _ h_ => h_.1)) ?hg (.tmp 87) (.tmp 88) (.tmp 96) ?hop ?hN ?hm (rd (aT Iw arf) (rd aq4 0)) a1i a_e ?hx ?hv a6e.1 (pm (aG aS3.1 (fun _ h_ => h_.1))) a_h.1 ?_; (case hg => rfl); (case hop => first | exact .inl rfl | exact .inr rfl); (case hN => rfl); (case hm => rfl); (case hx => first | rfl | (go_simp; done) | (go_simp; rfl)); (case hv => first | rfl | (go_simp; done) | (go_simp; rfl)); intro w80 hm_ hg hmp; rw [<- a_g.1] at hm_; refine E7 (a3y HO_8.1 hg hmp) (hm_) (a9U HO_11.1 hg hmp) (a3z aae.1 hg hmp) (aUp auF.1 hg hmp) (aUp aS3.1 hg hmp) (Kw HB.1 _ HB.1.size hg (fun k_ e_ => by cases e_; exact GM.1)) ?_; clear HO_8 HO_10 HO_11 aae auF aS3 HB; intro HO_8 HO_10 HO_11 aae auF aS3 HB; clear hg hm_ hmp) | ((with_reducible refine bf (b := .append) (xs := #[.tmp 97, .tmp 99]) rfl ?_); (try (refine jT (by rfl) ?_; dsimp only)); at_builtin; refine QB (Kd.int .i64) (w0 := w) w.heap.size rfl (.tmp 97) (.tmp 99) 38 3 (.int .i64 0) 8 rfl Try.underlying38 info3 rfl (by decide) (by omega) u11 aNH (rd (aT Iw arf) (rd aq4 0)) [.int .i64 (rd (aT Iw arf) (rd aq4 0))] (fun k_ => some k_ ≠ (a1i : Value).ownBlock) (fun _ => False) rfl rfl ?aP (fun _ hk => hk.elim) ?aF ?aO ?aB ?aS ?aL ?_; (case aP => exact rfl); (case aB => exact (BL HB.1)); (case aF => exact (fun k_ hk => Kd.kX (iL (PR aS3.1)) k_ hk)); (case aO => exact (by (with_reducible repeat (first | apply mi | apply mo | apply nZ)); exact Ew HO_11.1 (fun _ hk => hk.2))); (case aS => exact (bZ HB.1)); (case aL => have := a_i.1; omega); intro bhG w81 ho hb hg hat; rw [<- a_j.1] at ho; refine E7 (CK (ok := (fun k_ => some k_ ≠ (a1i : Value).ownBlock)) (ES (eY HO_8.1 (fun _ hk => ⟨hk.2, hk.1⟩))) hg hat) (WM.after (ok := fun _ => True) (WM.mono HO_10.1 (fun _ h_ => ⟨trivial, h_⟩)) hg hat (xty (aeA (by (with_reducible repeat (first | apply mi | apply mo | apply nZ)); exact HO_11.1)))) (bG aae.1 hg (amZ HO_11.1 aae.1 (by decide))) (iX (ok := (fun k_ => some k_ ≠ (.slice (some aXC) Iw.length a6h : Value).ownBlock /\ some k_ ≠ (a1i : Value).ownBlock)) (pm (aG auF.1 (fun _ hk => ⟨⟨hk.1.1, hk.2⟩, hk.1.2⟩))) hg hat) (iX (ok := (fun k_ => some k_ ≠ (.slice (some ayl) (aT Iw arf).length aU5 : Value).ownBlock)) (pm (aG aS3.1 (fun _ hk => ⟨hk.2, hk.1⟩))) hg hat) (hb) (ho) ?_; clear HO_8 HO_10 aae auF aS3 HB HO_11; intro HO_8 HO_10 aae auF aS3 HB a_k; clear ho hb hg hat))
     (try simp only [<- aEa])
     go_roundg k3
     case measure => have := HJ3.1; have := nG.1; have := HK3.1; omega
     case rel => exact ⟨(bcG), (bcH), (wrap64 (arf + 1)), RG, H', ⟨by have := HJ3.1; have := nG.1; have := HK3.1; omega⟩, ⟨by (try simp only [aDG]); (try simp only [aEa]); (with_reducible repeat (first | apply jF | apply jG | apply iV)); exact eY HO_8.1 (fun _ hk => hk.2)⟩, ⟨WM.mono HO_10.1 (fun _ h_ => h_.2)⟩, ⟨by (try simp only [aDG]); (try simp only [aEa]); (with_reducible repeat (first | apply mi | apply mo | apply nZ)); exact Ew a_k.1 (fun _ hk => trivial)⟩, ⟨HY aae.1 aDG aEa⟩, ⟨BL HB.1⟩⟩
   have H' := aa.mk H
   clear H
   go_wp2
   (try simp only [<- aDG, <- aEa])
   go_roundg k3
   case measure => have := HJ3.1; have := nG.1; have := HK3.1; omega
   case rel => exact ⟨(aEk), (aNH), H', ⟨by have := HJ3.1; have := nG.1; have := HK3.1; omega⟩, ⟨PS2 HO_8.1 aDG aEa⟩, ⟨HO_10.1⟩, ⟨by (try simp only [aDG]); (try simp only [aEa]); (with_reducible repeat (first | apply mi | apply mo | apply nZ)); exact HO_11.1⟩, ⟨HY aae.1 aDG aEa⟩, ⟨BL HB.1⟩⟩
 have c49b0 : decide (0 < (aq4.length : Int)) = false := decide_eq_false c49
 have c49b1 : decide (0 < aq4.length) = false := decide_eq_false (by omega)
 clear c49
 simp only [Option.some.injEq, Prod.mk.injEq] at H
 obtain ⟨rfl, rfl⟩ := H
 obtain ⟨bhH, bhI, bcL, _⟩ := Jq HO_11.1
 subst bcL
 go_wp2
 go_ret2
 exact ⟨_, RF, by first | exact tO _ _ _ _ _ | exact ET _ _ _ _ _ | exact EU _ _ _ _ _ | exact EW _ _ _ _ _ | exact EY _ _ _ _ _, BL HB.1⟩

end Go.Proofs.Ytbpfdbjnnlmdjaa.P
