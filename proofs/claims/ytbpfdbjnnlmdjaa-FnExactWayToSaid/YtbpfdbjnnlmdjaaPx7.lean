--MINI
-- PRINTED by print.py (a twelfth state) out of the translation. Not trusted: Lean checks it.
import Derived.Test.YtbpfdbjnnlmdjaaPx0
import Derived.Test.YtbpfdbjnnlmdjaaMapW
namespace Go.Proofs.Ytbpfdbjnnlmdjaa.P
open Go.RowKit Go.Proofs.YtbpfdbjnnlmdjaaW.PrintWords Go.Proofs.YtbpfdbjnnlmdjaaW.PrintLast Go.Proofs.YtbpfdbjnnlmdjaaW.PrintMore
attribute [local go_sem] rQ rR vR vS pO pQ rT rU   -- for this text's walks alone
set_option linter.unusedVariables false
set_option linter.unusedSimpArgs false
set_option maxHeartbeats 8000000
set_option maxRecDepth 100000

open Kd
def bX.l0 : Nat -> List Int -> List Int -> Int -> Option (List Int)
 | 0, _, _, _ => none
 | k + 1, x0, x3, x4 => if x4 < (x0.length : Int) then (if 0 <= x4 then (if x4 < (x3.length : Int) then (bX.l0 k x0 (x3.set (x4 : Int).toNat (rd x0 x4)) (wrap64 (x4 + 1))) else (none)) else (none)) else (some x3)
def bX.f (k : Nat) (l0 : List Int) : Option (List Int) := if 0 <= (l0.length : Int) then (if ((l0.length : Int) : Int).toNat <= 35184372088832 then (bX.l0 k l0 (List.replicate ((l0.length : Int) : Int).toNat 0) 0) else (none)) else (none)
theorem bX.mono_l : ∀ k, (∀ y0 y1 y2, dO (bX.l0 k y0 y1 y2) (bX.l0 (k + 1) y0 y1 y2))
 | 0 => fun _ _ _ r h => by simp [bX.l0] at h
 | k + 1 => by
  have ja := bX.mono_l k
  intros
  first | unfold bX.l0
  exact BA ja
theorem bX.mono : ∀ a0 k, dO (bX.f k a0) (bX.f (k + 1) a0) := by
 intro a0 k
 have ja := bX.mono_l k
 unfold bX.f
 exact BA ja
theorem bX.calls (k : Nat) (A0 : Option Addr) (c0 : Nat) (l0 : List Int) (r : List Int) (w : World) (hr0 : Kd.C (Kd.int .i64) w A0 l0.length l0) (hc0 : l0.length <= c0) (h : bX.f k l0 = some r) :
 Calls Try.prog 31 #[.slice A0 l0.length c0] w fun e w' => ∃ rO : Value, e = .returned (rO) /\ Kd.R (Kd.int .i64) 3 w' w.heap.size (fun _ => True) rO r /\ Below w.heap.size w w' := by
 have DI := aa.mk hr0
 have ZU := aa.mk hc0
 clear hr0 hc0
 have HB := aa.mk (Below.refl w.heap.size w)
 have H := h
 clear h
 unfold bX.f at H
 replace H := oC H; obtain ⟨c2, H⟩ := H
 have c2b0 := eq_true c2
 have c2b1 := decide_eq_true c2
 clear c2
 replace H := oC H; obtain ⟨c3, H⟩ := H
 have c3b0 := eq_true c3
 have c3b1 := decide_eq_true c3
 clear c3
 generalize a2U : ((List.replicate ((l0.length : Int) : Int).toNat 0) : List Int) = abM at H
 have auV := aa.mk a2U.symm; clear a2U
 have H' := aa.mk H
 clear H
 go_enter Try.func31, Try.ntmps31
 go_wp2_with (first | ((with_reducible refine aC (N := 7) rfl ?_); refine yH (Kd.int .i64) _ 3 rfl (N := 7) rfl 38 _ _ rfl (l0.length : Int) rfl rfl Try.underlying38 (.int .i64 0) 8 info3 rfl (by decide) (by omega) 0 (ok := fun _ => True) (okp := fun _ => True) rfl (fun _ hk => hk) trivial (OD) (Nat.le_trans (Nat.mul_le_mul_right _ (OD : (l0.length : Int).toNat <= 35184372088832)) (by omega)) (Below.refl _ _) (Nat.le_refl _) ?_; intro aFA w4 QG hb hg_ hnew_; clear hg_ hnew_; (first | rw [<- auV.1] at QG | (simp only [Int.reduceToNat] at QG; rw [<- auV.1] at QG)); refine E2 (bN QG (bZ HB.1)) (bS HB.1 hb) ?_; clear HB; intro abT HB; clear hb QG))
 go_loopg [4] k (fun kq v4 w' => ∃ (ky : List Int) (kT : Int), v4 = .int .i64 kT /\ aa (bX.l0 kq l0 ky kT = some r) /\ aa (kq <= k) /\ aa (Kd.R (Kd.int .i64) 3 w' w.heap.size (fun _ => True) aFA ky) /\ aa (Below w.heap.size w w'))
 case atStart => exact ⟨(abM), (0), RG, H', ⟨Nat.le_refl _⟩, ⟨PR abT.1⟩, ⟨BL HB.1⟩⟩
 clear H'
 clear c2b0 c2b1 c3b0 c3b1
 obtain ⟨ky, kT, rfl, HA, iB, HO_3, HB⟩ := hrel
 cases gk with
 | zero => exact absurd HA.1 (by simp [bX.l0])
 | succ k1 => ?_
 have H := HA.1
 clear HA
 simp only [bX.l0] at H
 replace H := pu H; rcases H with ⟨c6b0, H⟩ | ⟨c6b0, H⟩
 · replace H := ji H; obtain ⟨c7b0, H⟩ := H
   replace H := ji H; obtain ⟨c8b0, H⟩ := H
   generalize a2V : ((ky.set (kT : Int).toNat (rd l0 kT)) : List Int) = a9i at H
   have a9j := aa.mk a2V.symm; clear a2V
   have H' := aa.mk H
   clear H
   have a5C : 0 <= (kT : Int) := OD
   have a5D : kT < (l0.length : Int) := OD
   obtain ⟨beT, bcf, aUU⟩ := Kd.dx DI.1 kT a5C a5D
   cases bcf
   replace aUU := (HB.1.cell (World.block_lt_of_cell? w _ aUU)).trans aUU
   replace a5C := eq_true a5C
   replace a5D := eq_true a5D
   have p9 : 0 <= (kT : Int) := OD
   have q9 : (kT : Int) < ((ky.length : Int) : Int) := OD
   obtain ⟨go9, ZI, Vm, gb9, gl9, cl9, HG9⟩ := mQ HO_3.1 (by omega)
   (first | cases Vm | (injection Vm with ea_ en_ ec_; (first | subst ea_ | (injection ea_ with ea_; subst ea_)); subst ec_; clear en_))
   have GB9 := aa.mk gb9
   have GG9 := aa.mk HG9
   clear gb9 gl9 HG9
   obtain ⟨aJc, aJd⟩ := lC 0 HO_3.1 (kT : Int) p9 q9
   replace p9 := eq_true p9
   replace q9 := eq_true q9
   have SL := qV HO_3.1 (kT : Int) (rd l0 kT)
   go_wp2_with (first | ((with_reducible refine gK (t := 3) (p := 20) rfl ?_); refine lX (t := 3) (p := 20) (w1 := (wr.setCell ⟨go9, (kT : Int).toNat, none⟩ (.int .i64 (rd l0 kT)))) ?_; intro qy hw; have hg : wr.grownBy qy (some go9) := (by rw [hw]; exact SL.2); have hp_ : Kd.R (Kd.int .i64) 3 qy w.heap.size (fun _ => True) (.slice (some ⟨go9, 0, none⟩) ky.length ZI) a9i := (by rw [hw, a9j.1]; exact SL.1); clear SL; refine E2 (hp_) ((by rw [hw]; exact il (HB.1) GB9.1 : Below w.heap.size w qy)) ?_; clear HO_3 HB; intro HO_3 HB; clear hg hw hp_))
   go_roundg k1
   case measure => have := iB.1; omega
   case rel => exact ⟨(a9i), (wrap64 (kT + 1)), RG, H', ⟨by have := iB.1; omega⟩, ⟨PR HO_3.1⟩, ⟨BL HB.1⟩⟩
 obtain rfl := Option.some.inj H
 go_wp2
 go_ret
 exact ⟨_, RF, pm (HO_3.1), BL HB.1⟩
def jO.f (ah : Int) (af : Int) : Option (Bool) := if ah = 6 then (some true) else (some (ah == 7))
theorem jO.calls (ah : Int) (af : Int) (r : Bool) (w : World) (h : jO.f ah af = some r) :
 Calls Try.prog 87 #[.agg #[.int .i64 ah, .int .i64 af]] w fun e w' => e = .returned (.bool r) /\ Below w.heap.size w w' := by
 have xE := Try.underlying83
 have HB := aa.mk (Below.refl w.heap.size w)
 have H := h
 clear h
 unfold jO.f at H
 replace H := oP H; rcases H with ⟨c2, H⟩ | ⟨c2, H⟩
 · have c2b0 := beq_iff_eq.mpr c2
   have c2b1 := bne_eq_false_iff_eq.mpr c2
   clear c2
   obtain rfl := Option.some.inj H
   go_enter Try.func87, Try.ntmps87
   go_wp2_with (first | ((with_reducible refine aC (N := 1) rfl ?_); refine dN (cs := #[.int .i64 ah, .int .i64 af]) (t := 83) ?_; intro a9k hg w3 hbox hb; refine mJ HB.1 hg hbox hb ?_; clear HB; intro HB aZr a9l a9m; clear hb hbox hg; obtain ⟨Ao, Ap, Aq, Ar⟩ := nO aZr.1))
   go_ret
   exact ⟨RF, BL HB.1⟩
 have c2b0 := beq_eq_false_iff_ne.mpr c2
 have c2b1 := bne_iff_ne.mpr c2
 obtain rfl := Option.some.inj H
 go_enter Try.func87, Try.ntmps87
 go_wp2_with (first | ((with_reducible refine aC (N := 1) rfl ?_); refine dN (cs := #[.int .i64 ah, .int .i64 af]) (t := 83) ?_; intro a9k hg w5 hbox hb; refine mJ HB.1 hg hbox hb ?_; clear HB; intro HB aZr a9l a9m; clear hb hbox hg; obtain ⟨oL, oM, oN, oO⟩ := nO aZr.1))
 go_ret
 exact ⟨RF, BL HB.1⟩
mutual
def bF.j0 : Nat -> Int -> List Int -> Int -> Int -> Int -> Int -> List (fq) -> Option (List Int)
 | 0, _, _, _, _, _, _, _ => none
 | k + 1, x1, x5, x6, x7, aSk, aRy, aUV => if x7 > 0 then (if x5.length < 17592186044416 then (bF.j1 k x1 (x5 ++ [wrap64 (x1 - 1)]) x6 x7 aSk aRy aUV) else (none)) else (bF.j1 k x1 x5 x6 x7 aSk aRy aUV)
def bF.j1 : Nat -> Int -> List Int -> Int -> Int -> Int -> Int -> List (fq) -> Option (List Int)
 | 0, _, _, _, _, _, _, _ => none
 | k + 1, x1, x5, x6, x7, aSk, aRy, aUV => if (wrap64 (x7 + 1)) < aRy then (if x5.length < 17592186044416 then ((some (x5 ++ [wrap64 (x1 + 1)] : List Int)).bind fun aVA => (if (wrap64 (x6 + 1)) < aSk then (if aVA.length < 17592186044416 then (some (aVA ++ [wrap64 (x1 + aRy)])) else (none)) else (some aVA))) else (none)) else (if (wrap64 (x6 + 1)) < aSk then (if x5.length < 17592186044416 then (some (x5 ++ [wrap64 (x1 + aRy)])) else (none)) else (some x5))
end
def bF.f (k : Nat) (ah : Int) (af : Int) (ae : List (fq)) (a1 : Int) : Option (List Int) := (some (([] : List Int) : List Int)).bind fun aO3 => (if af = 0 then (none) else (if (wrap64 (Int.tdiv a1 af)) > 0 then (if aO3.length < 17592186044416 then (bF.j0 k a1 (aO3 ++ [wrap64 (a1 - af)]) (wrap64 (Int.tdiv a1 af)) (Int.tmod a1 af) ah af ae) else (none)) else (bF.j0 k a1 aO3 (wrap64 (Int.tdiv a1 af)) (Int.tmod a1 af) ah af ae)))
theorem bF.mono_l : ∀ k, (∀ y0 y1 y2 y3 y4 y5 y6, dO (bF.j0 k y0 y1 y2 y3 y4 y5 y6) (bF.j0 (k + 1) y0 y1 y2 y3 y4 y5 y6)) /\ (∀ y0 y1 y2 y3 y4 y5 y6, dO (bF.j1 k y0 y1 y2 y3 y4 y5 y6) (bF.j1 (k + 1) y0 y1 y2 y3 y4 y5 y6))
 | 0 => by refine ⟨?_, ?_⟩ <;> (intros; intro r h; first | (simp [bF.j0] at h; done) | (simp [bF.j1] at h; done))
 | k + 1 => by
  obtain ⟨ja, ih1⟩ := bF.mono_l k
  refine ⟨?_, ?_⟩ <;> (
   intros
   first | unfold bF.j0 | unfold bF.j1
   exact Qj ja ih1)
theorem bF.mono : ∀ a0 a1 a2 a3 k, dO (bF.f k a0 a1 a2 a3) (bF.f (k + 1) a0 a1 a2 a3) := by
 intro a0 a1 a2 a3 k
 obtain ⟨ja, ih1⟩ := bF.mono_l k
 unfold bF.f
 exact Qj ja ih1
theorem bF.calls (k : Nat) (ah : Int) (af : Int) (aK : Option Addr) (aJ : Nat) (ae : List (fq)) (a1 : Int) (r : List Int) (w : World) (dH : Kd.C jZ w aK ae.length ae) (dG : ae.length <= aJ) (h : bF.f k ah af ae a1 = some r) :
 Calls Try.prog 88 #[.agg #[.int .i64 ah, .int .i64 af, .slice aK ae.length aJ], .int .i64 a1] w fun e w' => ∃ rO : Value, e = .returned (rO) /\ Kd.R (Kd.int .i64) 3 w' w.heap.size (fun _ => True) rO r /\ Below w.heap.size w w' := by
 have nH := Try.underlying30
 have bD := aa.mk dH
 have cO := aa.mk dG
 clear dH dG
 have HB := aa.mk (Below.refl w.heap.size w)
 have H := h
 clear h
 unfold bF.f at H
 replace H := nR H; obtain ⟨aO3, auW, H⟩ := H
 replace H := oP H; rcases H with ⟨c3, H⟩ | ⟨c3, H⟩
 · exact absurd H (by simp)
 have c3b0 := beq_eq_false_iff_ne.mpr c3
 have c3b1 := bne_iff_ne.mpr c3
 have HC4 := aa.mk H
 clear H
 go_enter Try.func88, Try.ntmps88
 go_upto_if 18 with (first | ((with_reducible refine aC (N := 2) rfl ?_); refine dN (cs := #[.int .i64 ah, .int .i64 af, .slice aK ae.length aJ]) (t := 30) ?_; intro aXl hg w5 hbox hb; refine mJ HB.1 hg hbox hb ?_; clear HB; intro HB aev a2W a2X; clear hb hbox hg) | ((with_reducible refine aC (N := 8) rfl ?_); refine qh (Kd.int .i64) _ 3 ?hg (N := 8) ?hd (xs := ([] : List Int)) (inner := []) (ok := fun _ => True) (okp := fun _ => True) ?hr ?hp (fun _ hk => hk) trivial (Below.refl _ _) (Nat.le_refl _) (by simp) ?_; (case hd => rfl); (case hg => rfl); (case hr => first | (go_simp; done) | (go_simp; rfl)); (case hp => exact (fK.none _ _)); intro aO8 w6 yY hb hg_ hnew_; clear hg_ hnew_; (first | rw [<- auW.1] at yY | (simp only [Int.reduceToNat] at yY; rw [<- auW.1] at yY)); refine E3 (bN yY (bZ HB.1)) (bB aev.1 hb) (bS HB.1 hb) ?_; clear aev HB; intro au0 aev HB; clear hb yY; obtain ⟨lZ, l5, mR, l6, l7, mU⟩ := gB aev.1))
 repeat (go_quiet (first | ((with_reducible refine aC (N := 2) rfl ?_); refine dN (cs := #[.int .i64 ah, .int .i64 af, .slice aK ae.length aJ]) (t := 30) ?_; intro aXl hg w5 hbox hb; refine mJ HB.1 hg hbox hb ?_; clear HB; intro HB aev a2W a2X; clear hb hbox hg) | ((with_reducible refine aC (N := 8) rfl ?_); refine qh (Kd.int .i64) _ 3 ?hg (N := 8) ?hd (xs := ([] : List Int)) (inner := []) (ok := fun _ => True) (okp := fun _ => True) ?hr ?hp (fun _ hk => hk) trivial (Below.refl _ _) (Nat.le_refl _) (by simp) ?_; (case hd => rfl); (case hg => rfl); (case hr => first | (go_simp; done) | (go_simp; rfl)); (case hp => exact (fK.none _ _)); intro aO8 w6 yY hb hg_ hnew_; clear hg_ hnew_; (first | rw [<- auW.1] at yY | (simp only [Int.reduceToNat] at yY; rw [<- auW.1] at yY)); refine E3 (bN yY (bZ HB.1)) (bB aev.1 hb) (bS HB.1 hb) ?_; clear aev HB; intro au0 aev HB; clear hb yY; obtain ⟨lZ, l5, mR, l6, l7, mU⟩ := gB aev.1)); go_upto_if 18 with (first | ((with_reducible refine aC (N := 2) rfl ?_); refine dN (cs := #[.int .i64 ah, .int .i64 af, .slice aK ae.length aJ]) (t := 30) ?_; intro aXl hg w5 hbox hb; refine mJ HB.1 hg hbox hb ?_; clear HB; intro HB aev a2W a2X; clear hb hbox hg) | ((with_reducible refine aC (N := 8) rfl ?_); refine qh (Kd.int .i64) _ 3 ?hg (N := 8) ?hd (xs := ([] : List Int)) (inner := []) (ok := fun _ => True) (okp := fun _ => True) ?hr ?hp (fun _ hk => hk) trivial (Below.refl _ _) (Nat.le_refl _) (by simp) ?_; (case hd => rfl); (case hg => rfl); (case hr => first | (go_simp; done) | (go_simp; rfl)); (case hp => exact (fK.none _ _)); intro aO8 w6 yY hb hg_ hnew_; clear hg_ hnew_; (first | rw [<- auW.1] at yY | (simp only [Int.reduceToNat] at yY; rw [<- auW.1] at yY)); refine E3 (bN yY (bZ HB.1)) (bB aev.1 hb) (bS HB.1 hb) ?_; clear aev HB; intro au0 aev HB; clear hb yY; obtain ⟨lZ, l5, mR, l6, l7, mU⟩ := gB aev.1)))
 (try simp only [Act.put, List.setIfInBounds_toArray, List.set_cons_zero, List.set_cons_succ])
 go_cut [5] (fun v5 wc => ∃ (kq : Nat) (Rn : List Int), aa (bF.j0 kq a1 Rn (wrap64 (Int.tdiv a1 af)) (Int.tmod a1 af) ah af ae = some r) /\ aa (kq <= k) /\ aa (Kd.R (Kd.int .i64) 3 wc w.heap.size (fun _ => True) v5 Rn) /\ aa (wc.heap[aXl]? = some (.cells #[.int .i64 ah, .int .i64 af, (.slice aK ae.length aJ)] 30 (0, 0))) /\ aa (Below w.heap.size w wc))
 case first =>
  have H := HC4.1
  clear HC4
  replace H := oP H; rcases H with ⟨c9, H⟩ | ⟨c9, H⟩
  · have c9b0 : decide (0 < (wrap64 (Int.tdiv a1 af))) = true := decide_eq_true c9
    clear c9
    (first | rw [c9b0] | (simp only [cz, dF]; rw [c9b0]) | skip)
    replace H := oC H; obtain ⟨c10, H⟩ := H
    have Ns := aa.mk c10
    clear c10
    generalize a2Y : ((aO3 ++ [wrap64 (a1 - af)]) : List Int) = afN at H
    have aj4 := aa.mk a2Y.symm; clear a2Y
    have H' := aa.mk H
    clear H
    obtain ⟨vX, vY, EZ, vZ, wh, Fa⟩ := gB aev.1
    go_wp2_with (first | ((with_reducible refine bf (b := .append) (xs := #[.tmp 19, .tmp 24]) rfl ?_); at_builtin; refine ek (Kd.int .i64) (w0 := w) w.heap.size rfl (.tmp 19) (.tmp 24) 38 3 (.int .i64 0) 8 rfl Try.underlying38 info3 rfl (by decide) (by omega) aO8 aO3 (wrap64 (a1 - af)) [.int .i64 (wrap64 (a1 - af))] (fun _ => True) (fun _ => False) rfl rfl ?aP (fun _ hk => hk.elim) ?aF ?aO ?aB ?aS ?aL ?_; (case aP => exact rfl); (case aB => exact (BL HB.1)); (case aF => exact (fun _ _ => trivial)); (case aO => exact (PR au0.1)); (case aS => exact (bZ HB.1)); (case aL => have := Ns.1; omega); intro aFE yC ho hb hg hat; rw [<- aj4.1] at ho; refine E3 (bG aev.1 hg (dK au0.1 aev.1 (by decide))) (hb) (ho) ?_; clear aev HB au0; intro aev HB abW; clear ho hb hg hat))
    repeat (go_quiet (first | ((with_reducible refine bf (b := .append) (xs := #[.tmp 19, .tmp 24]) rfl ?_); at_builtin; refine ek (Kd.int .i64) (w0 := w) w.heap.size rfl (.tmp 19) (.tmp 24) 38 3 (.int .i64 0) 8 rfl Try.underlying38 info3 rfl (by decide) (by omega) aO8 aO3 (wrap64 (a1 - af)) [.int .i64 (wrap64 (a1 - af))] (fun _ => True) (fun _ => False) rfl rfl ?aP (fun _ hk => hk.elim) ?aF ?aO ?aB ?aS ?aL ?_; (case aP => exact rfl); (case aB => exact (BL HB.1)); (case aF => exact (fun _ _ => trivial)); (case aO => exact (PR au0.1)); (case aS => exact (bZ HB.1)); (case aL => have := Ns.1; omega); intro aFE yC ho hb hg hat; rw [<- aj4.1] at ho; refine E3 (bG aev.1 hg (dK au0.1 aev.1 (by decide))) (hb) (ho) ?_; clear aev HB au0; intro aev HB abW; clear ho hb hg hat)); try go_wp2_with (first | ((with_reducible refine bf (b := .append) (xs := #[.tmp 19, .tmp 24]) rfl ?_); at_builtin; refine ek (Kd.int .i64) (w0 := w) w.heap.size rfl (.tmp 19) (.tmp 24) 38 3 (.int .i64 0) 8 rfl Try.underlying38 info3 rfl (by decide) (by omega) aO8 aO3 (wrap64 (a1 - af)) [.int .i64 (wrap64 (a1 - af))] (fun _ => True) (fun _ => False) rfl rfl ?aP (fun _ hk => hk.elim) ?aF ?aO ?aB ?aS ?aL ?_; (case aP => exact rfl); (case aB => exact (BL HB.1)); (case aF => exact (fun _ _ => trivial)); (case aO => exact (PR au0.1)); (case aS => exact (bZ HB.1)); (case aL => have := Ns.1; omega); intro aFE yC ho hb hg hat; rw [<- aj4.1] at ho; refine E3 (bG aev.1 hg (dK au0.1 aev.1 (by decide))) (hb) (ho) ?_; clear aev HB au0; intro aev HB abW; clear ho hb hg hat)))
    go_meet
    case rel => exact ⟨_, (afN), H', ⟨by first | omega | exact Nat.le_refl _⟩, ⟨PR abW.1⟩, ⟨PB aev.1⟩, ⟨BL HB.1⟩⟩
  have c9b0 : decide (0 < (wrap64 (Int.tdiv a1 af))) = false := decide_eq_false c9
  clear c9
  (first | rw [c9b0] | (simp only [cz, dF]; rw [c9b0]) | skip)
  have H' := aa.mk H
  clear H
  go_wp2
  repeat (go_quiet (fail); try go_wp2)
  go_meet
  case rel => exact ⟨_, (aO3), H', ⟨by first | omega | exact Nat.le_refl _⟩, ⟨PR au0.1⟩, ⟨PB aev.1⟩, ⟨BL HB.1⟩⟩
 clear HC4
 try clear c3; clear c3b0 c3b1 lZ l5 mR l6 l7 mU
 obtain ⟨kq, Rn, HA, HJ3, HO_5, aev, HB⟩ := hcut
 cases kq with
 | zero => exact absurd HA.1 (by simp [bF.j0])
 | succ kj3 => ?_
 have H := HA.1
 clear HA
 simp only [bF.j0] at H
 have aoQ := aa.mk H
 clear H
 go_upto_if 27 with (fail)
 repeat (go_quiet (fail); go_upto_if 27 with (fail))
 go_cut [5] (fun v5 wc => ∃ (kq : Nat) (zm : List Int), aa (bF.j1 kq a1 zm (wrap64 (Int.tdiv a1 af)) (Int.tmod a1 af) ah af ae = some r) /\ aa (kq <= kj3) /\ aa (Kd.R (Kd.int .i64) 3 wc w.heap.size (fun _ => True) v5 zm) /\ aa (wc.heap[aXl]? = some (.cells #[.int .i64 ah, .int .i64 af, (.slice aK ae.length aJ)] 30 (0, 0))) /\ aa (Below w.heap.size w wc))
 case first =>
  have H := aoQ.1
  clear aoQ
  replace H := oP H; rcases H with ⟨c14, H⟩ | ⟨c14, H⟩
  · have c14b0 : decide (0 < (Int.tmod a1 af)) = true := decide_eq_true c14
    clear c14
    (first | rw [c14b0] | (simp only [cz, dF]; rw [c14b0]) | skip)
    replace H := oC H; obtain ⟨c15, H⟩ := H
    have Lg := aa.mk c15
    clear c15
    generalize a2Z : ((Rn ++ [wrap64 (a1 - 1)]) : List Int) = Je at H
    have Rk := aa.mk a2Z.symm; clear a2Z
    have H' := aa.mk H
    clear H
    go_wp2_with (first | ((with_reducible refine bf (b := .append) (xs := #[.tmp 28, .tmp 31]) rfl ?_); at_builtin; refine ek (Kd.int .i64) (w0 := w) w.heap.size rfl (.tmp 28) (.tmp 31) 38 3 (.int .i64 0) 8 rfl Try.underlying38 info3 rfl (by decide) (by omega) u5 Rn (wrap64 (a1 - 1)) [.int .i64 (wrap64 (a1 - 1))] (fun _ => True) (fun _ => False) rfl rfl ?aP (fun _ hk => hk.elim) ?aF ?aO ?aB ?aS ?aL ?_; (case aP => exact rfl); (case aB => exact (BL HB.1)); (case aF => exact (fun _ _ => trivial)); (case aO => exact (PR HO_5.1)); (case aS => exact (bZ HB.1)); (case aL => have := Lg.1; omega); intro a9n w16 ho hb hg hat; rw [<- Rk.1] at ho; refine E3 (bG aev.1 hg (dK HO_5.1 aev.1 (by decide))) (hb) (ho) ?_; clear aev HB HO_5; intro aev HB aZs; clear ho hb hg hat))
    repeat (go_quiet (first | ((with_reducible refine bf (b := .append) (xs := #[.tmp 28, .tmp 31]) rfl ?_); at_builtin; refine ek (Kd.int .i64) (w0 := w) w.heap.size rfl (.tmp 28) (.tmp 31) 38 3 (.int .i64 0) 8 rfl Try.underlying38 info3 rfl (by decide) (by omega) u5 Rn (wrap64 (a1 - 1)) [.int .i64 (wrap64 (a1 - 1))] (fun _ => True) (fun _ => False) rfl rfl ?aP (fun _ hk => hk.elim) ?aF ?aO ?aB ?aS ?aL ?_; (case aP => exact rfl); (case aB => exact (BL HB.1)); (case aF => exact (fun _ _ => trivial)); (case aO => exact (PR HO_5.1)); (case aS => exact (bZ HB.1)); (case aL => have := Lg.1; omega); intro a9n w16 ho hb hg hat; rw [<- Rk.1] at ho; refine E3 (bG aev.1 hg (dK HO_5.1 aev.1 (by decide))) (hb) (ho) ?_; clear aev HB HO_5; intro aev HB aZs; clear ho hb hg hat)); try go_wp2_with (first | ((with_reducible refine bf (b := .append) (xs := #[.tmp 28, .tmp 31]) rfl ?_); at_builtin; refine ek (Kd.int .i64) (w0 := w) w.heap.size rfl (.tmp 28) (.tmp 31) 38 3 (.int .i64 0) 8 rfl Try.underlying38 info3 rfl (by decide) (by omega) u5 Rn (wrap64 (a1 - 1)) [.int .i64 (wrap64 (a1 - 1))] (fun _ => True) (fun _ => False) rfl rfl ?aP (fun _ hk => hk.elim) ?aF ?aO ?aB ?aS ?aL ?_; (case aP => exact rfl); (case aB => exact (BL HB.1)); (case aF => exact (fun _ _ => trivial)); (case aO => exact (PR HO_5.1)); (case aS => exact (bZ HB.1)); (case aL => have := Lg.1; omega); intro a9n w16 ho hb hg hat; rw [<- Rk.1] at ho; refine E3 (bG aev.1 hg (dK HO_5.1 aev.1 (by decide))) (hb) (ho) ?_; clear aev HB HO_5; intro aev HB aZs; clear ho hb hg hat)))
    go_meet
    case rel => exact ⟨_, (Je), H', ⟨by have := HJ3.1; first | omega | exact Nat.le_refl _⟩, ⟨PR aZs.1⟩, ⟨PB aev.1⟩, ⟨BL HB.1⟩⟩
  have c14b0 : decide (0 < (Int.tmod a1 af)) = false := decide_eq_false c14
  clear c14
  (first | rw [c14b0] | (simp only [cz, dF]; rw [c14b0]) | skip)
  have H' := aa.mk H
  clear H
  go_wp2
  repeat (go_quiet (fail); try go_wp2)
  go_meet
  case rel => exact ⟨_, (Rn), H', ⟨by have := HJ3.1; first | omega | exact Nat.le_refl _⟩, ⟨PR HO_5.1⟩, ⟨PB aev.1⟩, ⟨BL HB.1⟩⟩
 clear aoQ
 obtain ⟨kq, zm, HA, aPh, HO_5, aev, HB⟩ := hcut
 cases kq with
 | zero => exact absurd HA.1 (by simp [bF.j1])
 | succ aPi => ?_
 have H := HA.1
 clear HA
 simp only [bF.j1] at H
 replace H := pu H; rcases H with ⟨c17b0, H⟩ | ⟨c17b0, H⟩
 · replace H := oC H; obtain ⟨c18, H⟩ := H
   have D7 := aa.mk c18
   clear c18
   replace H := nR H; obtain ⟨aVA, aUi, H⟩ := H
   replace H := pu H; rcases H with ⟨c19b0, H⟩ | ⟨c19b0, H⟩
   · replace H := oC H; obtain ⟨c20, H⟩ := H
     have ab8 := aa.mk c20
     clear c20
     generalize a3a : ((aVA ++ [wrap64 (a1 + af)]) : List Int) = bhc at H
     have aZt := aa.mk a3a.symm; clear a3a
     obtain rfl := Option.some.inj H
     obtain ⟨uJ, uK, xK, uL, uM, xL⟩ := gB aev.1
     go_wp2_with (first | ((with_reducible refine bf (b := .append) (xs := #[.tmp 38, .tmp 41]) rfl ?_); at_builtin; refine ek (Kd.int .i64) (w0 := w) w.heap.size rfl (.tmp 38) (.tmp 41) 38 3 (.int .i64 0) 8 rfl Try.underlying38 info3 rfl (by decide) (by omega) u5 zm (wrap64 (a1 + 1)) [.int .i64 (wrap64 (a1 + 1))] (fun _ => True) (fun _ => False) rfl rfl ?aP (fun _ hk => hk.elim) ?aF ?aO ?aB ?aS ?aL ?_; (case aP => exact rfl); (case aB => exact (BL HB.1)); (case aF => exact (fun _ _ => trivial)); (case aO => exact (PR HO_5.1)); (case aS => exact (bZ HB.1)); (case aL => have := D7.1; omega); intro aVB BM ho hb hg hat; rw [<- aUi.1] at ho; refine E3 (bG aev.1 hg (dK HO_5.1 aev.1 (by decide))) (hb) (ho) ?_; clear aev HB HO_5; intro aev HB aKj; clear ho hb hg hat; obtain ⟨FI, FJ, FL, FM, FN, FO⟩ := gB aev.1) | ((with_reducible refine bf (b := .append) (xs := #[.tmp 48, .tmp 53]) rfl ?_); at_builtin; refine ek (Kd.int .i64) (w0 := w) w.heap.size rfl (.tmp 48) (.tmp 53) 38 3 (.int .i64 0) 8 rfl Try.underlying38 info3 rfl (by decide) (by omega) aVB aVA (wrap64 (a1 + af)) [.int .i64 (wrap64 (a1 + af))] (fun _ => True) (fun _ => False) rfl rfl ?aP (fun _ hk => hk.elim) ?aF ?aO ?aB ?aS ?aL ?_; (case aP => exact rfl); (case aB => exact (BL HB.1)); (case aF => exact (fun _ _ => trivial)); (case aO => exact (PR aKj.1)); (case aS => exact (bZ HB.1)); (case aL => have := ab8.1; omega); intro a9o Mi ho hb hg hat; rw [<- aZt.1] at ho; refine E3 (bG aev.1 hg (dK aKj.1 aev.1 (by decide))) (hb) (ho) ?_; clear aev HB aKj; intro aev HB aZu; clear ho hb hg hat))
     repeat (go_quiet (first | ((with_reducible refine bf (b := .append) (xs := #[.tmp 38, .tmp 41]) rfl ?_); at_builtin; refine ek (Kd.int .i64) (w0 := w) w.heap.size rfl (.tmp 38) (.tmp 41) 38 3 (.int .i64 0) 8 rfl Try.underlying38 info3 rfl (by decide) (by omega) u5 zm (wrap64 (a1 + 1)) [.int .i64 (wrap64 (a1 + 1))] (fun _ => True) (fun _ => False) rfl rfl ?aP (fun _ hk => hk.elim) ?aF ?aO ?aB ?aS ?aL ?_; (case aP => exact rfl); (case aB => exact (BL HB.1)); (case aF => exact (fun _ _ => trivial)); (case aO => exact (PR HO_5.1)); (case aS => exact (bZ HB.1)); (case aL => have := D7.1; omega); intro aVB BM ho hb hg hat; rw [<- aUi.1] at ho; refine E3 (bG aev.1 hg (dK HO_5.1 aev.1 (by decide))) (hb) (ho) ?_; clear aev HB HO_5; intro aev HB aKj; clear ho hb hg hat; obtain ⟨FI, FJ, FL, FM, FN, FO⟩ := gB aev.1) | ((with_reducible refine bf (b := .append) (xs := #[.tmp 48, .tmp 53]) rfl ?_); at_builtin; refine ek (Kd.int .i64) (w0 := w) w.heap.size rfl (.tmp 48) (.tmp 53) 38 3 (.int .i64 0) 8 rfl Try.underlying38 info3 rfl (by decide) (by omega) aVB aVA (wrap64 (a1 + af)) [.int .i64 (wrap64 (a1 + af))] (fun _ => True) (fun _ => False) rfl rfl ?aP (fun _ hk => hk.elim) ?aF ?aO ?aB ?aS ?aL ?_; (case aP => exact rfl); (case aB => exact (BL HB.1)); (case aF => exact (fun _ _ => trivial)); (case aO => exact (PR aKj.1)); (case aS => exact (bZ HB.1)); (case aL => have := ab8.1; omega); intro a9o Mi ho hb hg hat; rw [<- aZt.1] at ho; refine E3 (bG aev.1 hg (dK aKj.1 aev.1 (by decide))) (hb) (ho) ?_; clear aev HB aKj; intro aev HB aZu; clear ho hb hg hat)); try go_wp2_with (first | ((with_reducible refine bf (b := .append) (xs := #[.tmp 38, .tmp 41]) rfl ?_); at_builtin; refine ek (Kd.int .i64) (w0 := w) w.heap.size rfl (.tmp 38) (.tmp 41) 38 3 (.int .i64 0) 8 rfl Try.underlying38 info3 rfl (by decide) (by omega) u5 zm (wrap64 (a1 + 1)) [.int .i64 (wrap64 (a1 + 1))] (fun _ => True) (fun _ => False) rfl rfl ?aP (fun _ hk => hk.elim) ?aF ?aO ?aB ?aS ?aL ?_; (case aP => exact rfl); (case aB => exact (BL HB.1)); (case aF => exact (fun _ _ => trivial)); (case aO => exact (PR HO_5.1)); (case aS => exact (bZ HB.1)); (case aL => have := D7.1; omega); intro aVB BM ho hb hg hat; rw [<- aUi.1] at ho; refine E3 (bG aev.1 hg (dK HO_5.1 aev.1 (by decide))) (hb) (ho) ?_; clear aev HB HO_5; intro aev HB aKj; clear ho hb hg hat; obtain ⟨FI, FJ, FL, FM, FN, FO⟩ := gB aev.1) | ((with_reducible refine bf (b := .append) (xs := #[.tmp 48, .tmp 53]) rfl ?_); at_builtin; refine ek (Kd.int .i64) (w0 := w) w.heap.size rfl (.tmp 48) (.tmp 53) 38 3 (.int .i64 0) 8 rfl Try.underlying38 info3 rfl (by decide) (by omega) aVB aVA (wrap64 (a1 + af)) [.int .i64 (wrap64 (a1 + af))] (fun _ => True) (fun _ => False) rfl rfl ?aP (fun _ hk => hk.elim) ?aF ?aO ?aB ?aS ?aL ?_; (case aP => exact rfl); (case aB => exact (BL HB.1)); (case aF => exact (fun _ _ => trivial)); (case aO => exact (PR aKj.1)); (case aS => exact (bZ HB.1)); (case aL => have := ab8.1; omega); intro a9o Mi ho hb hg hat; rw [<- aZt.1] at ho; refine E3 (bG aev.1 hg (dK aKj.1 aev.1 (by decide))) (hb) (ho) ?_; clear aev HB aKj; intro aev HB aZu; clear ho hb hg hat)))
     go_ret
     exact ⟨_, RF, pm (aZu.1), BL HB.1⟩
   obtain rfl := Option.some.inj H
   obtain ⟨CQ, CR, JB, CS, CU, JC⟩ := gB aev.1
   go_wp2_with (first | ((with_reducible refine bf (b := .append) (xs := #[.tmp 38, .tmp 41]) rfl ?_); at_builtin; refine ek (Kd.int .i64) (w0 := w) w.heap.size rfl (.tmp 38) (.tmp 41) 38 3 (.int .i64 0) 8 rfl Try.underlying38 info3 rfl (by decide) (by omega) u5 zm (wrap64 (a1 + 1)) [.int .i64 (wrap64 (a1 + 1))] (fun _ => True) (fun _ => False) rfl rfl ?aP (fun _ hk => hk.elim) ?aF ?aO ?aB ?aS ?aL ?_; (case aP => exact rfl); (case aB => exact (BL HB.1)); (case aF => exact (fun _ _ => trivial)); (case aO => exact (PR HO_5.1)); (case aS => exact (bZ HB.1)); (case aL => have := D7.1; omega); intro aVB w26 ho hb hg hat; rw [<- aUi.1] at ho; refine E3 (bG aev.1 hg (dK HO_5.1 aev.1 (by decide))) (hb) (ho) ?_; clear aev HB HO_5; intro aev HB aKj; clear ho hb hg hat; obtain ⟨Aj, Ak, Jz, Al, Am, JA⟩ := gB aev.1))
   repeat (go_quiet (first | ((with_reducible refine bf (b := .append) (xs := #[.tmp 38, .tmp 41]) rfl ?_); at_builtin; refine ek (Kd.int .i64) (w0 := w) w.heap.size rfl (.tmp 38) (.tmp 41) 38 3 (.int .i64 0) 8 rfl Try.underlying38 info3 rfl (by decide) (by omega) u5 zm (wrap64 (a1 + 1)) [.int .i64 (wrap64 (a1 + 1))] (fun _ => True) (fun _ => False) rfl rfl ?aP (fun _ hk => hk.elim) ?aF ?aO ?aB ?aS ?aL ?_; (case aP => exact rfl); (case aB => exact (BL HB.1)); (case aF => exact (fun _ _ => trivial)); (case aO => exact (PR HO_5.1)); (case aS => exact (bZ HB.1)); (case aL => have := D7.1; omega); intro aVB w26 ho hb hg hat; rw [<- aUi.1] at ho; refine E3 (bG aev.1 hg (dK HO_5.1 aev.1 (by decide))) (hb) (ho) ?_; clear aev HB HO_5; intro aev HB aKj; clear ho hb hg hat; obtain ⟨Aj, Ak, Jz, Al, Am, JA⟩ := gB aev.1)); try go_wp2_with (first | ((with_reducible refine bf (b := .append) (xs := #[.tmp 38, .tmp 41]) rfl ?_); at_builtin; refine ek (Kd.int .i64) (w0 := w) w.heap.size rfl (.tmp 38) (.tmp 41) 38 3 (.int .i64 0) 8 rfl Try.underlying38 info3 rfl (by decide) (by omega) u5 zm (wrap64 (a1 + 1)) [.int .i64 (wrap64 (a1 + 1))] (fun _ => True) (fun _ => False) rfl rfl ?aP (fun _ hk => hk.elim) ?aF ?aO ?aB ?aS ?aL ?_; (case aP => exact rfl); (case aB => exact (BL HB.1)); (case aF => exact (fun _ _ => trivial)); (case aO => exact (PR HO_5.1)); (case aS => exact (bZ HB.1)); (case aL => have := D7.1; omega); intro aVB w26 ho hb hg hat; rw [<- aUi.1] at ho; refine E3 (bG aev.1 hg (dK HO_5.1 aev.1 (by decide))) (hb) (ho) ?_; clear aev HB HO_5; intro aev HB aKj; clear ho hb hg hat; obtain ⟨Aj, Ak, Jz, Al, Am, JA⟩ := gB aev.1)))
   go_ret
   exact ⟨_, RF, pm (aKj.1), BL HB.1⟩
 replace H := pu H; rcases H with ⟨c28b0, H⟩ | ⟨c28b0, H⟩
 · replace H := oC H; obtain ⟨c29, H⟩ := H
   have Ri := aa.mk c29
   clear c29
   generalize a3b : ((zm ++ [wrap64 (a1 + af)]) : List Int) = bhd at H
   have aZv := aa.mk a3b.symm; clear a3b
   obtain rfl := Option.some.inj H
   obtain ⟨zV, zW, Fh, zX, zY, Fj⟩ := gB aev.1
   go_wp2_with (first | ((with_reducible refine bf (b := .append) (xs := #[.tmp 48, .tmp 53]) rfl ?_); at_builtin; refine ek (Kd.int .i64) (w0 := w) w.heap.size rfl (.tmp 48) (.tmp 53) 38 3 (.int .i64 0) 8 rfl Try.underlying38 info3 rfl (by decide) (by omega) u5 zm (wrap64 (a1 + af)) [.int .i64 (wrap64 (a1 + af))] (fun _ => True) (fun _ => False) rfl rfl ?aP (fun _ hk => hk.elim) ?aF ?aO ?aB ?aS ?aL ?_; (case aP => exact rfl); (case aB => exact (BL HB.1)); (case aF => exact (fun _ _ => trivial)); (case aO => exact (PR HO_5.1)); (case aS => exact (bZ HB.1)); (case aL => have := Ri.1; omega); intro a9p w31 ho hb hg hat; rw [<- aZv.1] at ho; refine E3 (bG aev.1 hg (dK HO_5.1 aev.1 (by decide))) (hb) (ho) ?_; clear aev HB HO_5; intro aev HB aZw; clear ho hb hg hat))
   repeat (go_quiet (first | ((with_reducible refine bf (b := .append) (xs := #[.tmp 48, .tmp 53]) rfl ?_); at_builtin; refine ek (Kd.int .i64) (w0 := w) w.heap.size rfl (.tmp 48) (.tmp 53) 38 3 (.int .i64 0) 8 rfl Try.underlying38 info3 rfl (by decide) (by omega) u5 zm (wrap64 (a1 + af)) [.int .i64 (wrap64 (a1 + af))] (fun _ => True) (fun _ => False) rfl rfl ?aP (fun _ hk => hk.elim) ?aF ?aO ?aB ?aS ?aL ?_; (case aP => exact rfl); (case aB => exact (BL HB.1)); (case aF => exact (fun _ _ => trivial)); (case aO => exact (PR HO_5.1)); (case aS => exact (bZ HB.1)); (case aL => have := Ri.1; omega); intro a9p w31 ho hb hg hat; rw [<- aZv.1] at ho; refine E3 (bG aev.1 hg (dK HO_5.1 aev.1 (by decide))) (hb) (ho) ?_; clear aev HB HO_5; intro aev HB aZw; clear ho hb hg hat)); try go_wp2_with (first | ((with_reducible refine bf (b := .append) (xs := #[.tmp 48, .tmp 53]) rfl ?_); at_builtin; refine ek (Kd.int .i64) (w0 := w) w.heap.size rfl (.tmp 48) (.tmp 53) 38 3 (.int .i64 0) 8 rfl Try.underlying38 info3 rfl (by decide) (by omega) u5 zm (wrap64 (a1 + af)) [.int .i64 (wrap64 (a1 + af))] (fun _ => True) (fun _ => False) rfl rfl ?aP (fun _ hk => hk.elim) ?aF ?aO ?aB ?aS ?aL ?_; (case aP => exact rfl); (case aB => exact (BL HB.1)); (case aF => exact (fun _ _ => trivial)); (case aO => exact (PR HO_5.1)); (case aS => exact (bZ HB.1)); (case aL => have := Ri.1; omega); intro a9p w31 ho hb hg hat; rw [<- aZv.1] at ho; refine E3 (bG aev.1 hg (dK HO_5.1 aev.1 (by decide))) (hb) (ho) ?_; clear aev HB HO_5; intro aev HB aZw; clear ho hb hg hat)))
   go_ret
   exact ⟨_, RF, pm (aZw.1), BL HB.1⟩
 obtain rfl := Option.some.inj H
 obtain ⟨J2, J3, J4, J5, J6, J7⟩ := gB aev.1
 go_wp2
 repeat (go_quiet (fail); try go_wp2)
 go_ret
 exact ⟨_, RF, pm (HO_5.1), BL HB.1⟩
mutual
def av.l0 : Nat -> List Int -> Int -> Int -> Int -> Int -> List (fq) -> Option (List Int)
 | 0, _, _, _, _, _, _ => none
 | k + 1, x3, xC, Qk, azq, azr, arR => if Qk < xC then (if 0 <= Qk then (if Qk < (x3.length : Int) then (av.l0 k (x3.set (Qk : Int).toNat (-1)) xC (wrap64 (Qk + 1)) azq azr arR) else (none)) else (none)) else (av.l1 k x3 0 arR (arR.length : Int) 0 azq azr arR)
def av.l1 : Nat -> List Int -> Int -> List (fq) -> Int -> Int -> Int -> Int -> List (fq) -> Option (List Int)
 | 0, _, _, _, _, _, _, _, _ => none
 | k + 1, x3, x5, qx, x27, x28, azq, azr, arR => if x28 < x27 then (if 0 <= x28 then (if x28 < (qx.length : Int) then ((jO.f ((aj qx x28).f0) ((aj qx x28).f1)).bind fun a9q => (if a9q = true then (if x28 < (x3.length : Int) then (av.j2 k x3 x5 x28 qx x27 x28 (decide ((rd x3 x28) ≥ 0)) azq azr arR) else (none)) else (av.j2 k x3 x5 x28 qx x27 x28 true azq azr arR))) else (none)) else (none)) else (some x3)
def av.j2 : Nat -> List Int -> Int -> Int -> List (fq) -> Int -> Int -> Bool -> Int -> Int -> List (fq) -> Option (List Int)
 | 0, _, _, _, _, _, _, _, _, _, _ => none
 | k + 1, x3, x5, x6, qx, x27, x28, x42, azq, azr, arR => if x42 = true then (av.l1 k x3 x5 qx x27 (wrap64 (x28 + 1)) azq azr arR) else (if 0 <= x6 then (if x6 < (x3.length : Int) then (av.l2 k (x3.set (x6 : Int).toNat x5) x5 (([x6] : List Int)) qx x27 x28 azq azr arR) else (none)) else (none))
def av.l2 : Nat -> List Int -> Int -> List Int -> List (fq) -> Int -> Int -> Int -> Int -> List (fq) -> Option (List Int)
 | 0, _, _, _, _, _, _, _, _, _ => none
 | k + 1, x3, x5, x8, qx, x27, x28, azq, azr, arR => if (x8.length : Int) > 0 then (if 0 < (x8.length : Int) then (if 1 <= (x8.length : Int) then ((bF.f k azq azr arR (rd x8 0)).bind fun aoN => (av.l3 k x3 x5 (x8.drop (1 : Int).toNat) qx x27 x28 aoN (aoN.length : Int) 0 azq azr arR)) else (none)) else (none)) else (av.l1 k x3 (wrap64 (x5 + 1)) qx x27 (wrap64 (x28 + 1)) azq azr arR)
def av.l3 : Nat -> List Int -> Int -> List Int -> List (fq) -> Int -> Int -> List Int -> Int -> Int -> Int -> Int -> List (fq) -> Option (List Int)
 | 0, _, _, _, _, _, _, _, _, _, _, _, _ => none
 | k + 1, x3, x5, x8, qx, x27, x28, ZK, KU, DN, azq, azr, arR => if DN < KU then (if 0 <= DN then (if DN < (ZK.length : Int) then (if 0 <= (rd ZK DN) then (if (rd ZK DN) < (arR.length : Int) then ((jO.f ((aj arR (rd ZK DN)).f0) ((aj arR (rd ZK DN)).f1)).bind fun a9r => (if a9r = true then (if (rd ZK DN) < (x3.length : Int) then (if (rd x3 (rd ZK DN)) < 0 then (if x8.length < 17592186044416 then (av.l3 k (x3.set ((rd ZK DN) : Int).toNat x5) x5 (x8 ++ [rd ZK DN]) qx x27 x28 ZK KU (wrap64 (DN + 1)) azq azr arR) else (none)) else (av.l3 k x3 x5 x8 qx x27 x28 ZK KU (wrap64 (DN + 1)) azq azr arR)) else (none)) else (av.l3 k x3 x5 x8 qx x27 x28 ZK KU (wrap64 (DN + 1)) azq azr arR))) else (none)) else (none)) else (none)) else (none)) else (av.l2 k x3 x5 x8 qx x27 x28 azq azr arR)
end
def av.f (k : Nat) (ah : Int) (af : Int) (ae : List (fq)) : Option (List Int) := if 0 <= (ae.length : Int) then (if ((ae.length : Int) : Int).toNat <= 35184372088832 then ((some (List.replicate ((ae.length : Int) : Int).toNat 0 : List Int)).bind fun aYp => (av.l0 k aYp (aYp.length : Int) 0 ah af ae)) else (none)) else (none)
theorem av.mono_l : ∀ k, (∀ y0 y1 y2 y3 y4 y5, dO (av.l0 k y0 y1 y2 y3 y4 y5) (av.l0 (k + 1) y0 y1 y2 y3 y4 y5)) /\ (∀ y0 y1 y2 y3 y4 y5 y6 y7, dO (av.l1 k y0 y1 y2 y3 y4 y5 y6 y7) (av.l1 (k + 1) y0 y1 y2 y3 y4 y5 y6 y7)) /\ (∀ y0 y1 y2 y3 y4 y5 y6 y7 y8 y9, dO (av.j2 k y0 y1 y2 y3 y4 y5 y6 y7 y8 y9) (av.j2 (k + 1) y0 y1 y2 y3 y4 y5 y6 y7 y8 y9)) /\ (∀ y0 y1 y2 y3 y4 y5 y6 y7 y8, dO (av.l2 k y0 y1 y2 y3 y4 y5 y6 y7 y8) (av.l2 (k + 1) y0 y1 y2 y3 y4 y5 y6 y7 y8)) /\ (∀ y0 y1 y2 y3 y4 y5 y6 y7 y8 y9 IG MV, dO (av.l3 k y0 y1 y2 y3 y4 y5 y6 y7 y8 y9 IG MV) (av.l3 (k + 1) y0 y1 y2 y3 y4 y5 y6 y7 y8 y9 IG MV))
 | 0 => by refine ⟨?_, ?_, ?_, ?_, ?_⟩ <;> (intros; intro r h; first | (simp [av.l0] at h; done) | (simp [av.l1] at h; done) | (simp [av.j2] at h; done) | (simp [av.l2] at h; done) | (simp [av.l3] at h; done))
 | k + 1 => by
  obtain ⟨ja, ih1, ih2, ih3, ih4⟩ := av.mono_l k
  refine ⟨?_, ?_, ?_, ?_, ?_⟩ <;> (
   intros
   first | unfold av.l0 | unfold av.l1 | unfold av.j2 | unfold av.l2 | unfold av.l3
   exact LM6 ja ih1 ih2 ih3 ih4 bF.mono)
theorem av.mono : ∀ a0 a1 a2 k, dO (av.f k a0 a1 a2) (av.f (k + 1) a0 a1 a2) := by
 intro a0 a1 a2 k
 obtain ⟨ja, ih1, ih2, ih3, ih4⟩ := av.mono_l k
 unfold av.f
 exact LM6 ja ih1 ih2 ih3 ih4 bF.mono
theorem av.calls (k : Nat) (ah : Int) (af : Int) (aK : Option Addr) (aJ : Nat) (ae : List (fq)) (r : List Int) (w : World) (dH : Kd.C jZ w aK ae.length ae) (dG : ae.length <= aJ) (h : av.f k ah af ae = some r) :
 Calls Try.prog 74 #[.agg #[.int .i64 ah, .int .i64 af, .slice aK ae.length aJ]] w fun e w' => ∃ rO : Value, e = .returned (rO) /\ Kd.R (Kd.int .i64) 3 w' w.heap.size (fun _ => True) rO r /\ Below w.heap.size w w' := by
 have nH := Try.underlying30
 have xE := Try.underlying83
 have bD := aa.mk dH
 have cO := aa.mk dG
 clear dH dG
 have HB := aa.mk (Below.refl w.heap.size w)
 have H := h
 clear h
 unfold av.f at H
 replace H := oC H; obtain ⟨c2, H⟩ := H
 have c2b0 := eq_true c2
 have c2b1 := decide_eq_true c2
 clear c2
 replace H := oC H; obtain ⟨c3, H⟩ := H
 have c3b0 := eq_true c3
 have c3b1 := decide_eq_true c3
 clear c3
 replace H := nR H; obtain ⟨aYp, a3c, H⟩ := H
 have H' := aa.mk H
 clear H
 go_enter Try.func74, Try.ntmps74
 go_wp2_with (first | ((with_reducible refine aC (N := 1) rfl ?_); refine dN (cs := #[.int .i64 ah, .int .i64 af, .slice aK ae.length aJ]) (t := 30) ?_; intro aTI hg w4 hbox hb; refine mJ HB.1 hg hbox hb ?_; clear HB; intro HB akM beW beX; clear hb hbox hg; obtain ⟨Au, Av, EA, Aw, Ay, EB⟩ := gB akM.1) | ((with_reducible refine aC (N := 15) rfl ?_); refine yH (Kd.int .i64) _ 3 rfl (N := 15) rfl 38 _ _ rfl (ae.length : Int) rfl rfl Try.underlying38 (.int .i64 0) 8 info3 rfl (by decide) (by omega) 0 (ok := fun _ => True) (okp := fun _ => True) rfl (fun _ hk => hk) trivial (OD) (Nat.le_trans (Nat.mul_le_mul_right _ (OD : (ae.length : Int).toNat <= 35184372088832)) (by omega)) (Below.refl _ _) (Nat.le_refl _) ?_; intro bhe w6 yY hb hg_ hnew_; clear hg_ hnew_; (first | rw [<- a3c.1] at yY | (simp only [Int.reduceToNat] at yY; rw [<- a3c.1] at yY)); refine E3 (bN yY (bZ HB.1)) (bB akM.1 hb) (bS HB.1 hb) ?_; clear akM HB; intro a3d akM HB; clear hb yY; obtain ⟨Ao8, yZ, eo8⟩ := bv a3d.1; subst eo8))
 go_loopg [18] k (fun kq v18 w' => ∃ (ky : List Int) (qF : Int), v18 = .int .i64 qF /\ aa (av.l0 kq ky (aYp.length : Int) qF ah af ae = some r) /\ aa (kq <= k) /\ aa (Kd.R (Kd.int .i64) 3 w' w.heap.size (fun _ => True) (.slice Ao8 aYp.length yZ) ky) /\ aa (w'.heap[aTI]? = some (.cells #[.int .i64 ah, .int .i64 af, (.slice aK ae.length aJ)] 30 (0, 0))) /\ aa (Below w.heap.size w w'))
 case atStart => exact ⟨(aYp), (0), RG, H', ⟨Nat.le_refl _⟩, ⟨PR a3d.1⟩, ⟨PB akM.1⟩, ⟨BL HB.1⟩⟩
 clear H'
 clear c2b0 c2b1 c3b0 c3b1 Au Av EA Aw Ay EB
 obtain ⟨ky, qF, rfl, HA, iB, HO_3, akM, HB⟩ := hrel
 have dU := (ay HO_3.1).1
 rw [dU] at HO_3
 (try simp only [dU])
 (try simp only [dU] at akM)
 cases gk with
 | zero => exact absurd HA.1 (by simp [av.l0])
 | succ k1 => ?_
 have H := HA.1
 clear HA
 simp only [av.l0] at H
 replace H := pu H; rcases H with ⟨c9b0, H⟩ | ⟨c9b0, H⟩
 · replace H := ji H; obtain ⟨c10b0, H⟩ := H
   replace H := ji H; obtain ⟨c11b0, H⟩ := H
   generalize a3e : ((ky.set (qF : Int).toNat (-1)) : List Int) = a9s at H
   have a9t := aa.mk a3e.symm; clear a3e
   have H' := aa.mk H
   clear H
   have SF : 0 <= (qF : Int) := OD
   have SG : (qF : Int) < ((ky.length : Int) : Int) := OD
   obtain ⟨tL, rM, vF, KV, TG, ano, KW⟩ := mQ HO_3.1 (by omega)
   (first | cases vF | (injection vF with ea_ en_ ec_; (first | subst ea_ | (injection ea_ with ea_; subst ea_)); subst ec_; clear en_))
   have QR := aa.mk KV
   have anp := aa.mk KW
   clear KV TG KW
   obtain ⟨Ib, KR⟩ := lC 0 HO_3.1 (qF : Int) SF SG
   replace SF := eq_true SF
   replace SG := eq_true SG
   have KX := qV HO_3.1 (qF : Int) (-1)
   go_wp2_with (first | ((with_reducible refine gK (t := 3) (p := 23) rfl ?_); refine lX (t := 3) (p := 23) (w1 := (wr.setCell ⟨tL, (qF : Int).toNat, none⟩ (.int .i64 (-1)))) ?_; intro yM hw; have hg : wr.grownBy yM (some tL) := (by rw [hw]; exact KX.2); have hp_ : Kd.R (Kd.int .i64) 3 yM w.heap.size (fun _ => True) (.slice (some ⟨tL, 0, none⟩) ky.length yZ) a9s := (by rw [hw, a9t.1]; exact KX.1); clear KX; refine E3 (hp_) (bG akM.1 hg (dK HO_3.1 akM.1 (by decide))) ((by rw [hw]; exact il (HB.1) QR.1 : Below w.heap.size w yM)) ?_; clear HO_3 akM HB; intro HO_3 akM HB; clear hg hw hp_))
   (try simp only [<- dU])
   go_roundg k1
   case measure => have := iB.1; omega
   case rel => exact ⟨(a9s), (wrap64 (qF + 1)), RG, H', ⟨by have := iB.1; omega⟩, ⟨ER HO_3.1 dU⟩, ⟨Er akM.1 dU⟩, ⟨BL HB.1⟩⟩
 (try simp only [dU] at c9b0)
 have H' := aa.mk H
 clear H
 obtain ⟨sD, sF, wN, sG, sH, wO⟩ := gB akM.1
 go_wp2
 go_loopg [5, 28] k1 (fun kq v5 v28 w' => ∃ (sI : List Int) (ol : Int) (dV : Int), v5 = .int .i64 ol /\ v28 = .int .i64 dV /\ aa (av.l1 kq sI ol ae (ae.length : Int) dV ah af ae = some r) /\ aa (kq <= k1) /\ aa (Kd.R (Kd.int .i64) 3 w' w.heap.size (fun _ => True) (.slice Ao8 ky.length yZ) sI) /\ aa (w'.heap[aTI]? = some (.cells #[.int .i64 ah, .int .i64 af, (.slice aK ae.length aJ)] 30 (0, 0))) /\ aa (Below w.heap.size w w'))
 case atStart => exact ⟨(ky), (0), (0), RG, RG, H', ⟨Nat.le_refl _⟩, ⟨ER HO_3.1 dU⟩, ⟨Er akM.1 dU⟩, ⟨BL HB.1⟩⟩
 clear H'
 clear c9b0 sD sF wN sG sH wO
 obtain ⟨sI, ol, dV, rfl, rfl, HA, nG, HO_3, akM, HB⟩ := hrel
 have eO := (ay HO_3.1).1
 rw [eO] at HO_3
 (try simp only [eO])
 (try simp only [eO] at akM)
 cases gk with
 | zero => exact absurd HA.1 (by simp [av.l1])
 | succ k2 => ?_
 have H := HA.1
 clear HA
 simp only [av.l1] at H
 replace H := pu H; rcases H with ⟨c16b0, H⟩ | ⟨c16b0, H⟩
 · replace H := ji H; obtain ⟨c17b0, H⟩ := H
   replace H := ji H; obtain ⟨c18b0, H⟩ := H
   have TH := aa.mk H
   clear H
   have a01 : 0 <= (dV : Int) := OD
   have a02 : dV < (ae.length : Int) := OD
   obtain ⟨aSl, bch, aTo, aTp⟩ := iP bD.1 dV a01 a02
   cases bch
   replace aTo := (HB.1.cell (World.block_lt_of_cell? w _ aTo)).trans aTo
   replace aTp := (HB.1.cell (World.block_lt_of_cell? w _ aTp)).trans aTp
   replace a01 := eq_true a01
   replace a02 := eq_true a02
   go_upto_region 11 with (first | ((with_reducible refine aC (N := 7) rfl ?_); refine dN (cs := #[.int .i64 0, .int .i64 0]) (t := 83) ?_; intro aSm hg ZJ hbox hb; refine E8 (rB HO_3.1 hb) (bB akM.1 hb) (bS HB.1 hb) (hbox) (gX HB.1 hg) (gX HB.1 hg) (nB akM.1 hg) (nC akM.1 hg) ?_; clear HO_3 akM HB; intro HO_3 akM HB aq6 beY be0 aSQ aYq; clear hb hbox hg; have aaO := aYq.1; have aaP := aSQ.1; obtain ⟨wJ, wK, wL, wM⟩ := nO aq6.1))
   (try simp only [Act.put, List.setIfInBounds_toArray, List.set_cons_zero, List.set_cons_succ])
   go_cut [42] (fun v42 wc => ∃ (kq : Nat) (EC : Bool), v42 = .bool EC /\ aa (av.j2 kq sI ol dV ae (ae.length : Int) dV EC ah af ae = some r) /\ aa (kq <= k2) /\ aa (Kd.R (Kd.int .i64) 3 wc w.heap.size (fun _ => True) (.slice Ao8 sI.length yZ) sI) /\ aa (wc.heap[aTI]? = some (.cells #[.int .i64 ah, .int .i64 af, (.slice (some aSl) ae.length aJ)] 30 (0, 0))) /\ aa (wc.heap[aSm]? = some (.cells #[.int .i64 ((aj ae dV).f0), .int .i64 ((aj ae dV).f1)] 83 (0, 0))) /\ aa (Below w.heap.size w wc))
   case first =>
    have H := TH.1
    clear TH
    replace H := dz H; obtain ⟨a9q, A23, H⟩ := H
    replace H := Cm H; rcases H with ⟨rfl, H⟩ | ⟨rfl, H⟩
    · replace H := ji H; obtain ⟨c25b0, H⟩ := H
      (first | rw [c25b0] | (simp only [cz, dF]; rw [c25b0]) | skip)
      have H' := aa.mk H
      clear H
      obtain ⟨Aj, Ak, Al, Am⟩ := nO aq6.1
      go_wp2_with (first | ((with_reducible refine aA (f := 87) rfl ?_); refine cK (N := (some 34)) #[.agg #[.int .i64 ((aj ae dV).f0), .int .i64 ((aj ae dV).f1)]] Try.func87 ?_; (with_reducible refine (jO.calls ((aj ae dV).f0) ((aj ae dV).f1) true _ A23.1).mono ?_); rintro e w28 ⟨rfl, hb⟩; refine ⟨_, rfl, ?_⟩; refine E4 (jf (by (with_reducible repeat (first | apply aV | apply aW | apply aQ)); exact (aG (RQ aSm 1 (RQ aSm 0 (bz HO_3.1 aq6.1 (by decide)) _) _) (fun _ h_ => h_.1))) hb) (dh (g := aTI) (o := .cells #[.int .i64 ah, .int .i64 af, .slice (some aSl) ae.length aJ] 30 (0, 0)) (xB aSQ.1 akM.1) hb) (dh (g := aSm) (o := .cells #[.int .i64 ((aj ae dV).f0), .int .i64 ((aj ae dV).f1)] 83 (0, 0)) (BB aq6.1) hb) (bS HB.1 hb) ?_; clear HO_3 akM aq6 HB; intro HO_3 akM aq6 HB; (try clear hb); have a5E : 0 <= (dV : Int) := OD; have a5F : dV < (sI.length : Int) := OD; obtain ⟨be1, bci, bas⟩ := Kd.dx (ay HO_3.1).2.2 dV a5E a5F; cases bci; replace a5E := eq_true a5E; replace a5F := eq_true a5F))
      go_meet
      case rel => exact ⟨_, (decide ((rd sI dV) ≥ 0)), RG, H', ⟨by have := iB.1; have := nG.1; first | omega | exact Nat.le_refl _⟩, ⟨MZ HO_3.1 dU eO⟩, ⟨HY akM.1 dU eO⟩, ⟨HY aq6.1 dU eO⟩, ⟨BL HB.1⟩⟩
    have H' := aa.mk H
    clear H
    obtain ⟨zV, zW, zX, zY⟩ := nO aq6.1
    go_wp2_with (first | ((with_reducible refine aA (f := 87) rfl ?_); refine cK (N := (some 34)) #[.agg #[.int .i64 ((aj ae dV).f0), .int .i64 ((aj ae dV).f1)]] Try.func87 ?_; (with_reducible refine (jO.calls ((aj ae dV).f0) ((aj ae dV).f1) false _ A23.1).mono ?_); rintro e w31 ⟨rfl, hb⟩; refine ⟨_, rfl, ?_⟩; refine E4 (jf (by (with_reducible repeat (first | apply aV | apply aW | apply aQ)); exact (aG (RQ aSm 1 (RQ aSm 0 (bz HO_3.1 aq6.1 (by decide)) _) _) (fun _ h_ => h_.1))) hb) (dh (g := aTI) (o := .cells #[.int .i64 ah, .int .i64 af, .slice (some aSl) ae.length aJ] 30 (0, 0)) (xB aSQ.1 akM.1) hb) (dh (g := aSm) (o := .cells #[.int .i64 ((aj ae dV).f0), .int .i64 ((aj ae dV).f1)] 83 (0, 0)) (BB aq6.1) hb) (bS HB.1 hb) ?_; clear HO_3 akM aq6 HB; intro HO_3 akM aq6 HB; (try clear hb)))
    go_meet
    case rel => exact ⟨_, (true), RG, H', ⟨by have := iB.1; have := nG.1; first | omega | exact Nat.le_refl _⟩, ⟨MZ HO_3.1 dU eO⟩, ⟨HY akM.1 dU eO⟩, ⟨HY aq6.1 dU eO⟩, ⟨BL HB.1⟩⟩
   clear TH
   try clear aTo; try clear aTp; try clear a01; try clear a02; clear c16b0 c17b0 c18b0 wJ wK wL wM
   obtain ⟨kq, EC, rfl, HA, vG, HO_3, akM, aq6, HB⟩ := hcut
   cases kq with
   | zero => exact absurd HA.1 (by simp [av.j2])
   | succ TI => ?_
   have H := HA.1
   clear HA
   simp only [av.j2] at H
   replace H := Cm H; rcases H with ⟨rfl, H⟩ | ⟨rfl, H⟩
   · have H' := aa.mk H
     clear H
     go_wp2
     (try simp only [<- eO])
     go_roundg TI
     case measure => have := iB.1; have := nG.1; have := vG.1; omega
     case rel => exact ⟨(sI), (ol), (wrap64 (dV + 1)), RG, RG, H', ⟨by have := iB.1; have := nG.1; have := vG.1; omega⟩, ⟨MZ HO_3.1 dU eO⟩, ⟨HY akM.1 dU eO⟩, ⟨BL HB.1⟩⟩
   replace H := ji H; obtain ⟨c33b0, H⟩ := H
   replace H := ji H; obtain ⟨c34b0, H⟩ := H
   generalize a3f : ((sI.set (dV : Int).toNat ol) : List Int) = a9u at H
   have a9v := aa.mk a3f.symm; clear a3f
   generalize a3g : ((([dV] : List Int)) : List Int) = bcj at H
   have a3h := aa.mk a3g.symm; clear a3g
   have H' := aa.mk H
   clear H
   have p35 : 0 <= (dV : Int) := OD
   have q35 : (dV : Int) < ((sI.length : Int) : Int) := OD
   obtain ⟨nP, ED, Mv, aa0, anu, aEz, aa1⟩ := mQ HO_3.1 (by omega)
   (first | cases Mv | (injection Mv with ea_ en_ ec_; (first | subst ea_ | (injection ea_ with ea_; subst ea_)); subst ec_; clear en_))
   have aa2 := aa.mk aa0
   have aEA := aa.mk aa1
   clear aa0 anu aa1
   obtain ⟨TJ, anv⟩ := lC 0 HO_3.1 (dV : Int) p35 q35
   replace p35 := eq_true p35
   replace q35 := eq_true q35
   have TK := qV HO_3.1 (dV : Int) ol
   go_wp2_with (first | ((with_reducible refine gK (t := 3) (p := 46) rfl ?_); refine lX (t := 3) (p := 46) (w1 := (wc.setCell ⟨nP, (dV : Int).toNat, none⟩ (.int .i64 ol))) ?_; intro Mw hw; have hg : wc.grownBy Mw (some nP) := (by rw [hw]; exact TK.2); have hp_ : Kd.R (Kd.int .i64) 3 Mw w.heap.size (fun _ => True) (.slice (some ⟨nP, 0, none⟩) sI.length yZ) a9u := (by rw [hw, a9v.1]; exact TK.1); clear TK; refine E4 (hp_) (bG akM.1 hg (dK HO_3.1 akM.1 (by decide))) (bG aq6.1 hg (dK HO_3.1 aq6.1 (by decide))) ((by rw [hw]; exact il (HB.1) aa2.1 : Below w.heap.size w Mw)) ?_; clear HO_3 akM aq6 HB; intro HO_3 akM aq6 HB; clear hg hw hp_) | ((with_reducible refine aC (N := 48) rfl ?_); refine qh (Kd.int .i64) _ 3 ?hg (N := 48) ?hd (xs := ([dV] : List Int)) (inner := [.int .i64 dV]) (ok := fun _ => True) (okp := fun _ => True) ?hr ?hp (fun _ hk => hk) trivial (Below.refl _ _) (Nat.le_refl _) (by simp) ?_; (case hd => rfl); (case hg => rfl); (case hr => first | (go_simp; done) | (go_simp; rfl)); (case hp => exact (fK.one (show Kd.M (Kd.int .i64) _ _ _ dV [.int .i64 dV] from rfl) (fK.none _ _))); intro bhf Nc Ig hb hg_ hnew_; clear hg_ hnew_; (first | rw [<- a3h.1] at Ig | (simp only [Int.reduceToNat] at Ig; rw [<- a3h.1] at Ig)); refine E5 (eT (PR HO_3.1) (fe Ig) hb) (bN (iI Ig (iL (PR HO_3.1))) (bZ HB.1)) (bB akM.1 hb) (bB aq6.1 hb) (bS HB.1 hb) ?_; clear HO_3 akM aq6 HB; intro HO_3 a9w akM aq6 HB; clear hb Ig))
   go_loopg [8] TI (fun kq v8 w' => ∃ (BK : List Int) (uW : List Int), aa (av.l2 kq BK ol uW ae (ae.length : Int) dV ah af ae = some r) /\ aa (kq <= TI) /\ aa (Kd.R (Kd.int .i64) 3 w' w.heap.size (fun k_ => some k_ ≠ (v8 : Value).ownBlock) (.slice (some ⟨nP, 0, none⟩) sI.length yZ) BK) /\ aa (Kd.Q (Kd.int .i64) 3 w' w.heap.size (fun k_ => some k_ ≠ ((.slice (some ⟨nP, 0, none⟩) sI.length yZ) : Value).ownBlock) v8 uW) /\ aa (w'.heap[aTI]? = some (.cells #[.int .i64 ah, .int .i64 af, (.slice (some aSl) ae.length aJ)] 30 (0, 0))) /\ aa (w'.heap[aSm]? = some (.cells #[.int .i64 ((aj ae dV).f0), .int .i64 ((aj ae dV).f1)] 83 (0, 0))) /\ aa (Below w.heap.size w w'))
   case atStart => exact ⟨(a9u), (bcj), H', ⟨Nat.le_refl _⟩, ⟨by (try simp only [dU]); (try simp only [eO]); (with_reducible repeat (first | apply aV | apply aW | apply aQ)); exact aG HO_3.1 (fun _ hk => hk.2)⟩, ⟨Tj (by (try simp only [dU]); (try simp only [eO]); (with_reducible repeat (first | apply aV | apply aW | apply aQ)); exact aG a9w.1 (fun _ hk => hk.2))⟩, ⟨HY akM.1 dU eO⟩, ⟨HY aq6.1 dU eO⟩, ⟨BL HB.1⟩⟩
   clear H'
   try clear p35; try clear q35; try clear TJ; clear c33b0 c34b0
   obtain ⟨BK, uW, HA, Mx, HO_3, HO_8, akM, aq6, HB⟩ := hrel
   have gG := (ay HO_3.1).1
   rw [gG] at HO_3
   (try simp only [gG])
   (try simp only [gG] at akM)
   (try simp only [gG] at aq6)
   (try simp only [gG] at HO_8)
   cases gk with
   | zero => exact absurd HA.1 (by simp [av.l2])
   | succ k4 => ?_
   have H := HA.1
   clear HA
   simp only [av.l2] at H
   replace H := oP H; rcases H with ⟨c40, H⟩ | ⟨c40, H⟩
   · have c40b0 : decide (0 < (uW.length : Int)) = true := decide_eq_true c40
     have c40b1 : decide (0 < uW.length) = true := decide_eq_true (by omega)
     clear c40
     replace H := oC H; obtain ⟨c41, H⟩ := H
     have c41b0 := decide_eq_true c41
     have c41b1 : decide (0 < uW.length) = true := decide_eq_true (by omega)
     clear c41
     replace H := oC H; obtain ⟨c42, H⟩ := H
     have c42b0 := eq_true c42
     have c42b1 := decide_eq_true c42
     clear c42
     generalize a3i : ((uW.drop (1 : Int).toNat) : List Int) = aYr at H
     have a3j := aa.mk a3i.symm; clear a3i
     replace H := dz H; obtain ⟨aoN, A43, H⟩ := H
     have H' := aa.mk H
     clear H
     obtain ⟨aPn, af1, aFX, _⟩ := Jq HO_8.1
     subst aFX
     have aoO : 0 <= (0 : Int) := (by omega)
     have aoP : 0 < (uW.length : Int) := OD
     obtain ⟨aKx, aFP, OZ⟩ := Kd.dx (KF HO_8.1).2.2 0 aoO aoP
     cases aFP
     have be3 : (0 < uW.length) = True := eq_true (by omega)
     (try rw [show ((0 : Int)).toNat = 0 from rfl] at OZ)
     (try rw [Addr.add_zero'] at OZ)
     replace aoO := eq_true aoO
     replace aoP := eq_true aoP
     have q45 : (1 : Int) <= ((uW.length : Int) : Int) := OD
     obtain ⟨aPo, akp, _, akq, _⟩ := info_parts info3
     have hcut45 := Fy (P := Try.prog) 38 3 .i64 Try.underlying38 akp 1 akq (some aKx) uW.length af1 1 (by omega) q45
     have ace := aam (k := (1 : Int).toNat) HO_8.1 (by omega)
     obtain ⟨A45, af4⟩ : ∃ A1, A1 = (if af1 = (1 : Int).toNat then (some aKx) else ((some aKx) : Option Addr).map (·.add ((1 : Int).toNat * 1))) := ⟨_, rfl⟩
     obtain ⟨c45, aoU⟩ : ∃ c1, c1 = af1 - (1 : Int).toNat := ⟨_, rfl⟩
     have aoV : aYr.length = uW.length - (1 : Int).toNat := (by rw [a3j.1, List.length_drop])
     rw [<- a3j.1] at ace
     rw [<- aoV, <- af4, <- aoU] at hcut45
     replace ace : Kd.Q (Kd.int .i64) 3 wr w.heap.size (fun k_ => some k_ ≠ (.slice (some ⟨nP, 0, none⟩) BK.length yZ : Value).ownBlock) (.slice A45 aYr.length c45) aYr := (by rw [af4, aoU, aoV]; exact ace)
     have aF0 : aa ((Value.slice A45 aYr.length c45).ownBlock = (.slice (some aKx) uW.length af1 : Value).ownBlock) := ⟨by rw [af4]; split <;> (cases ((some aKx) : Option Addr) <;> rfl)⟩
     clear aoV akp akq HO_8 af4 aoU
     have aVC := aa.mk ace
     clear ace
     replace q45 := eq_true q45
     have n_ := aa.mk (aG (ok' := fun k_ => some k_ ≠ (.slice A45 aYr.length c45 : Value).ownBlock) HO_3.1 (fun k_ hk => (by rw [aF0.1]; exact hk)))
     clear HO_3
     have HO_3 := n_
     clear n_
     obtain ⟨af5, af6, af7, af8, af9, aga⟩ := gB akM.1
     go_wp2_with (first | ((with_reducible refine aA (f := 88) rfl ?_); refine cK (N := (some 59)) #[.agg #[.int .i64 ah, .int .i64 af, .slice (some aSl) ae.length aJ], .int .i64 (rd uW 0)] Try.func88 ?_; (with_reducible refine (bF.calls k4 ah af _ _ ae (rd uW 0) aoN _ ?side1 ?side2 A43.1).mono ?_); (case side1 => exact CB (aY bD.1 HB.1)); (case side2 => exact cO.1); rintro e w48 ⟨bhh, rfl, ho0, hb⟩; refine ⟨_, rfl, ?_⟩; refine E6 (eT (PR HO_3.1) (fe ho0) hb) (aan (by (with_reducible repeat (first | apply mi | apply mo | apply nZ)); exact aVC.1) (fe ho0) hb) (bN (iI (iI ho0 (iL (PR HO_3.1))) (aEe (by (with_reducible repeat (first | apply mi | apply mo | apply nZ)); exact aVC.1))) (bZ HB.1)) (bB akM.1 hb) (bB aq6.1 hb) (bS HB.1 hb) ?_; clear HO_3 aVC akM aq6 HB; intro HO_3 aVC a3k akM aq6 HB; (try clear hb); (try clear ho0); obtain ⟨Y2, K5, Q0⟩ := bv a3k.1; subst Q0))
     go_loopg [8, 61] k4 (fun kq v8 v61 w' => ∃ (pI : List Int) (Cb : List Int) (jo : Int), v61 = .int .i64 jo /\ aa (av.l3 kq pI ol Cb ae (ae.length : Int) dV aoN (aoN.length : Int) jo ah af ae = some r) /\ aa (kq <= k4) /\ aa (Kd.R (Kd.int .i64) 3 w' w.heap.size (fun k_ => some k_ ≠ (v8 : Value).ownBlock /\ some k_ ≠ ((.slice Y2 aoN.length K5) : Value).ownBlock) (.slice (some ⟨nP, 0, none⟩) BK.length yZ) pI) /\ aa (Kd.Q (Kd.int .i64) 3 w' w.heap.size (fun k_ => some k_ ≠ ((.slice (some ⟨nP, 0, none⟩) BK.length yZ) : Value).ownBlock /\ some k_ ≠ ((.slice Y2 aoN.length K5) : Value).ownBlock) v8 Cb) /\ aa (Kd.R (Kd.int .i64) 3 w' w.heap.size (fun k_ => some k_ ≠ ((.slice (some ⟨nP, 0, none⟩) BK.length yZ) : Value).ownBlock /\ some k_ ≠ (v8 : Value).ownBlock) (.slice Y2 aoN.length K5) aoN) /\ aa (w'.heap[aTI]? = some (.cells #[.int .i64 ah, .int .i64 af, (.slice (some aSl) ae.length aJ)] 30 (0, 0))) /\ aa (w'.heap[aSm]? = some (.cells #[.int .i64 ((aj ae dV).f0), .int .i64 ((aj ae dV).f1)] 83 (0, 0))) /\ aa (Below w.heap.size w w'))
     case atStart => exact ⟨(BK), (aYr), (0), RG, H', ⟨Nat.le_refl _⟩, ⟨PR3 HO_3.1 dU eO gG⟩, ⟨by (try simp only [dU]); (try simp only [eO]); (try simp only [gG]); (with_reducible repeat (first | apply mi | apply mo | apply nZ)); exact aVC.1⟩, ⟨by (try simp only [dU]); (try simp only [eO]); (try simp only [gG]); (with_reducible repeat (first | apply aV | apply aW | apply aQ)); exact aG a3k.1 (fun _ hk => ⟨hk.1.2, hk.2⟩)⟩, ⟨PB3 akM.1 dU eO gG⟩, ⟨PB3 aq6.1 dU eO gG⟩, ⟨BL HB.1⟩⟩
     clear H'
     try clear c1; try clear c45; try clear q45; try clear OZ; try clear aoO; try clear aoP; clear c40b0 c40b1 c41b0 c41b1 c42b0 c42b1 af5 af6 af7 af8 af9 aga
     obtain ⟨pI, Cb, jo, rfl, HA, QS, HO_3, HO_8, HO_59, akM, aq6, HB⟩ := hrel
     have iJ := (ay HO_3.1).1
     rw [iJ] at HO_3
     (try simp only [iJ])
     (try simp only [iJ] at akM)
     (try simp only [iJ] at aq6)
     (try simp only [iJ] at HO_8)
     (try simp only [iJ] at HO_59)
     cases gk with
     | zero => exact absurd HA.1 (by simp [av.l3])
     | succ k5 => ?_
     have H := HA.1
     clear HA
     simp only [av.l3] at H
     replace H := pu H; rcases H with ⟨c50b0, H⟩ | ⟨c50b0, H⟩
     · replace H := ji H; obtain ⟨c51b0, H⟩ := H
       replace H := ji H; obtain ⟨c52b0, H⟩ := H
       replace H := ji H; obtain ⟨c53b0, H⟩ := H
       replace H := ji H; obtain ⟨c54b0, H⟩ := H
       replace H := dz H; obtain ⟨a9r, A55, H⟩ := H
       replace H := Cm H; rcases H with ⟨rfl, H⟩ | ⟨rfl, H⟩
       · replace H := ji H; obtain ⟨c57b0, H⟩ := H
         replace H := pu H; rcases H with ⟨c58b0, H⟩ | ⟨c58b0, H⟩
         · generalize a3l : ((pI.set ((rd aoN jo) : Int).toNat ol) : List Int) = a9x at H
           have a9y := aa.mk a3l.symm; clear a3l
           replace H := oC H; obtain ⟨c60, H⟩ := H
           have avs := aa.mk c60
           clear c60
           generalize a3m : ((Cb ++ [rd aoN jo]) : List Int) = bcm at H
           have a9z := aa.mk a3m.symm; clear a3m
           have H' := aa.mk H
           clear H
           have aTJ : 0 <= (jo : Int) := OD
           have aTK : jo < (aoN.length : Int) := OD
           obtain ⟨aUj, aZx, aXm⟩ := Kd.dx (ay HO_59.1).2.2 jo aTJ aTK
           cases aZx
           replace aTJ := eq_true aTJ
           replace aTK := eq_true aTK
           obtain ⟨az6, az7, az8, az9, aAa, aAb⟩ := gB akM.1
           have aTL : 0 <= ((rd aoN jo) : Int) := OD
           have aTM : (rd aoN jo) < (ae.length : Int) := OD
           obtain ⟨aVD, aZy, aFW, aFZ⟩ := iP bD.1 (rd aoN jo) aTL aTM
           obtain rfl : aSl = aVD := (by injection aZy)
           replace aFW := (HB.1.cell (World.block_lt_of_cell? w _ aFW)).trans aFW
           replace aFZ := (HB.1.cell (World.block_lt_of_cell? w _ aFZ)).trans aFZ
           replace aTL := eq_true aTL
           replace aTM := eq_true aTM
           go_wp2_with (first | ((with_reducible refine aA (f := 87) rfl ?_); refine cK (N := (some 70)) #[.agg #[.int .i64 ((aj ae (rd aoN jo)).f0), .int .i64 ((aj ae (rd aoN jo)).f1)]] Try.func87 ?_; (with_reducible refine (jO.calls ((aj ae (rd aoN jo)).f0) ((aj ae (rd aoN jo)).f1) true _ A55.1).mono ?_); rintro e w63 ⟨rfl, hb⟩; refine ⟨_, rfl, ?_⟩; refine E6 (rB HO_3.1 hb) (CE (by (with_reducible repeat (first | apply mi | apply mo | apply nZ)); exact HO_8.1) hb) (rB HO_59.1 hb) (bB akM.1 hb) (bB aq6.1 hb) (bS HB.1 hb) ?_; clear HO_3 HO_8 HO_59 akM aq6 HB; intro HO_3 HO_8 HO_59 akM aq6 HB; (try clear hb); have aWu : 0 <= ((rd aoN jo) : Int) := OD; have aWv : (rd aoN jo) < (pI.length : Int) := OD; obtain ⟨aZz, a5G, aN9⟩ := Kd.dx (ay HO_3.1).2.2 (rd aoN jo) aWu aWv; obtain rfl : (⟨nP, 0, none⟩ : Addr) = aZz := (by injection a5G); (first | simp only [add_plain] at aN9 | simp only [uh] at aN9 | simp only [Addr.add, Nat.zero_add] at aN9 | skip); replace aWu := eq_true aWu; replace aWv := eq_true aWv; have p59 : 0 <= ((rd aoN jo) : Int) := OD; have q59 : ((rd aoN jo) : Int) < ((pI.length : Int) : Int) := OD; obtain ⟨aoY, aoZ⟩ := lC 0 HO_3.1 ((rd aoN jo) : Int) p59 q59; replace p59 := eq_true p59; replace q59 := eq_true q59; obtain ⟨aKI, aKJ⟩ := lC 0 HO_3.1 ((rd aoN jo) : Int) (OD) (OD); have ao0 := qV HO_3.1 ((rd aoN jo) : Int) ol) | ((with_reducible refine gK (t := 3) (p := 81) rfl ?_); refine lX (t := 3) (p := 81) (w1 := (w63.setCell ⟨nP, ((rd aoN jo) : Int).toNat, none⟩ (.int .i64 ol))) ?_; intro w65 hw; have hg : w63.grownBy w65 (some nP) := (by rw [hw]; exact ao0.2); have hp_ : Kd.R (Kd.int .i64) 3 w65 w.heap.size (fun k_ => some k_ ≠ (u8 : Value).ownBlock /\ some k_ ≠ (.slice (some aUj) aoN.length K5 : Value).ownBlock) (.slice (some ⟨nP, 0, none⟩) pI.length yZ) a9x := (by rw [hw, a9y.1]; exact ao0.1); clear ao0; refine E6 (hp_) (aez (v := (.slice (some ⟨nP, 0, none⟩) pI.length yZ)) (v1 := (.slice (some ⟨nP, 0, none⟩) pI.length yZ)) (ok := (fun k_ => some k_ ≠ (.slice (some aUj) aoN.length K5 : Value).ownBlock)) (by (with_reducible repeat (first | apply mi | apply mo | apply nZ)); exact Ew HO_8.1 (fun _ hk => ⟨hk.2, hk.1⟩)) hg (.inl rfl)) (iX (v := (.slice (some ⟨nP, 0, none⟩) pI.length yZ)) (v1 := (.slice (some ⟨nP, 0, none⟩) pI.length yZ)) (ok := (fun k_ => some k_ ≠ (u8 : Value).ownBlock)) (pm (aG HO_59.1 (fun _ hk => ⟨hk.2, hk.1⟩))) hg (.inl rfl)) (bG akM.1 hg (dK HO_3.1 akM.1 (by decide))) (bG aq6.1 hg (dK HO_3.1 aq6.1 (by decide))) ((by rw [hw]; exact il (HB.1) aa2.1 : Below w.heap.size w w65)) ?_; clear HO_3 HO_8 HO_59 akM aq6 HB; intro HO_3 HO_8 HO_59 akM aq6 HB; clear hg hw hp_) | ((with_reducible refine bf (b := .append) (xs := #[.tmp 82, .tmp 84]) rfl ?_); at_builtin; refine QB (Kd.int .i64) (w0 := w) w.heap.size rfl (.tmp 82) (.tmp 84) 38 3 (.int .i64 0) 8 rfl Try.underlying38 info3 rfl (by decide) (by omega) u8 Cb (rd aoN jo) [.int .i64 (rd aoN jo)] (fun k_ => some k_ ≠ (.slice (some ⟨nP, 0, none⟩) pI.length yZ : Value).ownBlock /\ some k_ ≠ (.slice (some aUj) aoN.length K5 : Value).ownBlock) (fun _ => False) rfl rfl ?aP (fun _ hk => hk.elim) ?aF ?aO ?aB ?aS ?aL ?_; (case aP => exact rfl); (case aB => exact (BL HB.1)); (case aF => exact (fun k_ hk => ⟨Kd.kX (iL (PR HO_3.1)) k_ hk, Kd.kX (iL (PR HO_59.1)) k_ hk⟩)); (case aO => exact (by (with_reducible repeat (first | apply mi | apply mo | apply nZ)); exact Ew HO_8.1 (fun _ hk => ⟨hk.2, hk.1⟩))); (case aS => exact (bZ HB.1)); (case aL => have := avs.1; omega); intro bhi w66 ho hb hg hat; rw [<- a9z.1] at ho; refine E6 (iX (ok := (fun k_ => some k_ ≠ (.slice (some aUj) aoN.length K5 : Value).ownBlock)) (pm (aG HO_3.1 (fun _ hk => ⟨hk.2, hk.1⟩))) hg hat) (iX (ok := (fun k_ => some k_ ≠ (.slice (some ⟨nP, 0, none⟩) pI.length yZ : Value).ownBlock)) (pm (aG HO_59.1 (fun _ hk => ⟨hk.2, hk.1⟩))) hg hat) (bG akM.1 hg (amZ HO_8.1 akM.1 (by decide))) (bG aq6.1 hg (amZ HO_8.1 aq6.1 (by decide))) (hb) (ho) ?_; clear HO_3 HO_59 akM aq6 HB HO_8; intro HO_3 HO_59 akM aq6 HB a9A; clear ho hb hg hat))
           (try simp only [<- iJ])
           go_roundg k5
           case measure => have := iB.1; have := nG.1; have := vG.1; have := Mx.1; have := QS.1; omega
           case rel => exact ⟨(a9x), (bcm), (wrap64 (jo + 1)), RG, H', ⟨by have := iB.1; have := nG.1; have := vG.1; have := Mx.1; have := QS.1; omega⟩, ⟨by (try simp only [dU]); (try simp only [eO]); (try simp only [gG]); (try simp only [iJ]); (with_reducible repeat (first | apply aV | apply aW | apply aQ)); exact aG HO_3.1 (fun _ hk => ⟨hk.2, hk.1⟩)⟩, ⟨by (try simp only [dU]); (try simp only [eO]); (try simp only [gG]); (try simp only [iJ]); (with_reducible repeat (first | apply mi | apply mo | apply nZ)); exact a9A.1⟩, ⟨X5 HO_59.1 dU eO gG iJ⟩, ⟨SC akM.1 dU eO gG iJ⟩, ⟨SC aq6.1 dU eO gG iJ⟩, ⟨BL HB.1⟩⟩
         have H' := aa.mk H
         clear H
         have aTJ : 0 <= (jo : Int) := OD
         have aTK : jo < (aoN.length : Int) := OD
         obtain ⟨aUj, aZx, aXm⟩ := Kd.dx (ay HO_59.1).2.2 jo aTJ aTK
         cases aZx
         replace aTJ := eq_true aTJ
         replace aTK := eq_true aTK
         obtain ⟨aeW, aeX, aeY, aeZ, ae0, ae1⟩ := gB akM.1
         have aTL : 0 <= ((rd aoN jo) : Int) := OD
         have aTM : (rd aoN jo) < (ae.length : Int) := OD
         obtain ⟨aVD, aZy, aFW, aFZ⟩ := iP bD.1 (rd aoN jo) aTL aTM
         obtain rfl : aSl = aVD := (by injection aZy)
         replace aFW := (HB.1.cell (World.block_lt_of_cell? w _ aFW)).trans aFW
         replace aFZ := (HB.1.cell (World.block_lt_of_cell? w _ aFZ)).trans aFZ
         replace aTL := eq_true aTL
         replace aTM := eq_true aTM
         go_wp2_with (first | ((with_reducible refine aA (f := 87) rfl ?_); refine cK (N := (some 70)) #[.agg #[.int .i64 ((aj ae (rd aoN jo)).f0), .int .i64 ((aj ae (rd aoN jo)).f1)]] Try.func87 ?_; (with_reducible refine (jO.calls ((aj ae (rd aoN jo)).f0) ((aj ae (rd aoN jo)).f1) true _ A55.1).mono ?_); rintro e w69 ⟨rfl, hb⟩; refine ⟨_, rfl, ?_⟩; refine E6 (rB HO_3.1 hb) (CE (by (with_reducible repeat (first | apply mi | apply mo | apply nZ)); exact HO_8.1) hb) (rB HO_59.1 hb) (bB akM.1 hb) (bB aq6.1 hb) (bS HB.1 hb) ?_; clear HO_3 HO_8 HO_59 akM aq6 HB; intro HO_3 HO_8 HO_59 akM aq6 HB; (try clear hb); have aWu : 0 <= ((rd aoN jo) : Int) := OD; have aWv : (rd aoN jo) < (pI.length : Int) := OD; obtain ⟨aZz, a5G, aN9⟩ := Kd.dx (ay HO_3.1).2.2 (rd aoN jo) aWu aWv; obtain rfl : (⟨nP, 0, none⟩ : Addr) = aZz := (by injection a5G); (first | simp only [add_plain] at aN9 | simp only [uh] at aN9 | simp only [Addr.add, Nat.zero_add] at aN9 | skip); replace aWu := eq_true aWu; replace aWv := eq_true aWv))
         (try simp only [<- iJ])
         go_roundg k5
         case measure => have := iB.1; have := nG.1; have := vG.1; have := Mx.1; have := QS.1; omega
         case rel => exact ⟨(pI), (Cb), (wrap64 (jo + 1)), RG, H', ⟨by have := iB.1; have := nG.1; have := vG.1; have := Mx.1; have := QS.1; omega⟩, ⟨X5 HO_3.1 dU eO gG iJ⟩, ⟨by (try simp only [dU]); (try simp only [eO]); (try simp only [gG]); (try simp only [iJ]); (with_reducible repeat (first | apply mi | apply mo | apply nZ)); exact HO_8.1⟩, ⟨X5 HO_59.1 dU eO gG iJ⟩, ⟨SC akM.1 dU eO gG iJ⟩, ⟨SC aq6.1 dU eO gG iJ⟩, ⟨BL HB.1⟩⟩
       have H' := aa.mk H
       clear H
       have aTJ : 0 <= (jo : Int) := OD
       have aTK : jo < (aoN.length : Int) := OD
       obtain ⟨aUj, aZx, aXm⟩ := Kd.dx (ay HO_59.1).2.2 jo aTJ aTK
       cases aZx
       replace aTJ := eq_true aTJ
       replace aTK := eq_true aTK
       obtain ⟨WO, WP, aAc, WQ, WR, aAd⟩ := gB akM.1
       have aTL : 0 <= ((rd aoN jo) : Int) := OD
       have aTM : (rd aoN jo) < (ae.length : Int) := OD
       obtain ⟨aVD, aZy, aFW, aFZ⟩ := iP bD.1 (rd aoN jo) aTL aTM
       obtain rfl : aSl = aVD := (by injection aZy)
       replace aFW := (HB.1.cell (World.block_lt_of_cell? w _ aFW)).trans aFW
       replace aFZ := (HB.1.cell (World.block_lt_of_cell? w _ aFZ)).trans aFZ
       replace aTL := eq_true aTL
       replace aTM := eq_true aTM
       go_wp2_with (first | ((with_reducible refine aA (f := 87) rfl ?_); refine cK (N := (some 70)) #[.agg #[.int .i64 ((aj ae (rd aoN jo)).f0), .int .i64 ((aj ae (rd aoN jo)).f1)]] Try.func87 ?_; (with_reducible refine (jO.calls ((aj ae (rd aoN jo)).f0) ((aj ae (rd aoN jo)).f1) false _ A55.1).mono ?_); rintro e w72 ⟨rfl, hb⟩; refine ⟨_, rfl, ?_⟩; refine E6 (rB HO_3.1 hb) (CE (by (with_reducible repeat (first | apply mi | apply mo | apply nZ)); exact HO_8.1) hb) (rB HO_59.1 hb) (bB akM.1 hb) (bB aq6.1 hb) (bS HB.1 hb) ?_; clear HO_3 HO_8 HO_59 akM aq6 HB; intro HO_3 HO_8 HO_59 akM aq6 HB; (try clear hb)))
       (try simp only [<- iJ])
       go_roundg k5
       case measure => have := iB.1; have := nG.1; have := vG.1; have := Mx.1; have := QS.1; omega
       case rel => exact ⟨(pI), (Cb), (wrap64 (jo + 1)), RG, H', ⟨by have := iB.1; have := nG.1; have := vG.1; have := Mx.1; have := QS.1; omega⟩, ⟨X5 HO_3.1 dU eO gG iJ⟩, ⟨by (try simp only [dU]); (try simp only [eO]); (try simp only [gG]); (try simp only [iJ]); (with_reducible repeat (first | apply mi | apply mo | apply nZ)); exact HO_8.1⟩, ⟨X5 HO_59.1 dU eO gG iJ⟩, ⟨SC akM.1 dU eO gG iJ⟩, ⟨SC aq6.1 dU eO gG iJ⟩, ⟨BL HB.1⟩⟩
     (try simp only [dU, eO, gG, iJ] at c50b0)
     have H' := aa.mk H
     clear H
     go_wp2
     (try simp only [<- gG, <- iJ])
     go_roundg k5
     case measure => have := iB.1; have := nG.1; have := vG.1; have := Mx.1; have := QS.1; omega
     case rel => exact ⟨(pI), (Cb), H', ⟨by have := iB.1; have := nG.1; have := vG.1; have := Mx.1; have := QS.1; omega⟩, ⟨by (try simp only [dU]); (try simp only [eO]); (try simp only [gG]); (try simp only [iJ]); (with_reducible repeat (first | apply aV | apply aW | apply aQ)); exact aG HO_3.1 (fun _ hk => hk.1)⟩, ⟨by (try simp only [dU]); (try simp only [eO]); (try simp only [gG]); (try simp only [iJ]); (with_reducible repeat (first | apply mi | apply mo | apply nZ)); exact Ew HO_8.1 (fun _ hk => hk.1)⟩, ⟨SC akM.1 dU eO gG iJ⟩, ⟨SC aq6.1 dU eO gG iJ⟩, ⟨BL HB.1⟩⟩
   have c40b0 : decide (0 < (uW.length : Int)) = false := decide_eq_false c40
   have c40b1 : decide (0 < uW.length) = false := decide_eq_false (by omega)
   clear c40
   (try simp only [dU, eO, gG] at c40b1)
   have H' := aa.mk H
   clear H
   obtain ⟨aPs, aE1, afi, _⟩ := Jq HO_8.1
   subst afi
   go_wp2
   (try simp only [<- eO, <- gG])
   go_roundg k4
   case measure => have := iB.1; have := nG.1; have := vG.1; have := Mx.1; omega
   case rel => exact ⟨(BK), (wrap64 (ol + 1)), (wrap64 (dV + 1)), RG, RG, H', ⟨by have := iB.1; have := nG.1; have := vG.1; have := Mx.1; omega⟩, ⟨by (try simp only [dU]); (try simp only [eO]); (try simp only [gG]); (with_reducible repeat (first | apply aV | apply aW | apply aQ)); exact aG HO_3.1 (fun _ hk => trivial)⟩, ⟨PB3 akM.1 dU eO gG⟩, ⟨BL HB.1⟩⟩
 (try simp only [dU, eO] at c16b0)
 obtain rfl := Option.some.inj H
 go_wp2
 go_ret
 exact ⟨_, RF, pm (HO_3.1), BL HB.1⟩
def bn.l0 : Nat -> List Int -> List (List Int) -> List (fq) -> Int -> Int -> List (Int × Int) -> Option ((List (List Int)))
 | 0, _, _, _, _, _, _ => none
 | k + 1, x3, x5, Mg, HZ, xC, xm => if xC < HZ then (if 0 <= xC then (if xC < (Mg.length : Int) then (if ((aj Mg xC).f0) = 3 then (if x5.length < 5864062014805 then (bn.l0 k x3 (x5 ++ [(([xC] : List Int))]) Mg HZ (wrap64 (xC + 1)) xm) else (none)) else (if ((aj Mg xC).f0) = 6 then (if xC < (x3.length : Int) then (if wrap64 (rd x3 xC) = (rd x3 xC) then (if Gx xm (rd x3 xC) = true then (if 0 <= (pK xm (rd x3 xC)) then (if (pK xm (rd x3 xC)) < (x5.length : Int) then (if (aT x5 (pK xm (rd x3 xC))).length < 17592186044416 then (bn.l0 k x3 (x5.set ((pK xm (rd x3 xC)) : Int).toNat ((aT x5 (pK xm (rd x3 xC))) ++ [xC])) Mg HZ (wrap64 (xC + 1)) xm) else (none)) else (none)) else (none)) else (if xm.length < 17592186044416 then (if x5.length < 5864062014805 then ((some (x5 ++ [[]] : List (List Int))).bind fun aKK => (if 0 <= (x5.length : Int) then (if (x5.length : Int) < (aKK.length : Int) then (if (aT aKK (x5.length : Int)).length < 17592186044416 then (bn.l0 k x3 (aKK.set ((x5.length : Int) : Int).toNat ((aT aKK (x5.length : Int)) ++ [xC])) Mg HZ (wrap64 (xC + 1)) (((rd x3 xC), (x5.length : Int)) :: xm)) else (none)) else (none)) else (none))) else (none)) else (none))) else (none)) else (none)) else (bn.l0 k x3 x5 Mg HZ (wrap64 (xC + 1)) xm))) else (none)) else (none)) else (some x5)
def bn.f (k : Nat) (ah : Int) (af : Int) (ae : List (fq)) : Option ((List (List Int))) := (av.f k ah af ae).bind fun ayL => (bn.l0 k ayL (([] : List (List Int))) ae (ae.length : Int) 0 ([] : List (Int × Int)))
theorem bn.mono_l : ∀ k, (∀ y0 y1 y2 y3 y4 y5, dO (bn.l0 k y0 y1 y2 y3 y4 y5) (bn.l0 (k + 1) y0 y1 y2 y3 y4 y5))
 | 0 => fun _ _ _ _ _ _ r h => by simp [bn.l0] at h
 | k + 1 => by
  have ja := bn.mono_l k
  intros
  first | unfold bn.l0
  exact Qj ja av.mono
theorem bn.mono : ∀ a0 a1 a2 k, dO (bn.f k a0 a1 a2) (bn.f (k + 1) a0 a1 a2) := by
 intro a0 a1 a2 k
 have ja := bn.mono_l k
 unfold bn.f
 exact Qj ja av.mono
theorem bn.zero3 (w : World) : (zeroValue 3).run Try.prog w = .ok (.int .i64 0) w := by kernel_rfl
theorem bn.calls (k : Nat) (ah : Int) (af : Int) (aK : Option Addr) (aJ : Nat) (ae : List (fq)) (r : List (List Int)) (w : World) (dH : Kd.C jZ w aK ae.length ae) (dG : ae.length <= aJ) (h : bn.f k ah af ae = some r) :
 Calls Try.prog 61 #[.agg #[.int .i64 ah, .int .i64 af, .slice aK ae.length aJ]] w fun e w' => ∃ rO : Value, e = .returned (rO) /\ Kd.S (Kd.slice 3 (Kd.int .i64)) 38 w' w.heap.size (fun _ => True) rO r /\ Below w.heap.size w w' := by
 have nH := Try.underlying30
 have xE := Try.underlying83
 have bD := aa.mk dH
 have cO := aa.mk dG
 clear dH dG
 have HB := aa.mk (Below.refl w.heap.size w)
 have H := h
 clear h
 unfold bn.f at H
 replace H := dz H; obtain ⟨ayL, A2, H⟩ := H
 generalize a3n : ((([] : List (List Int))) : List (List Int)) = bcn at H
 have a3o := aa.mk a3n.symm; clear a3n
 have H' := aa.mk H
 clear H
 go_enter Try.func61, Try.ntmps61
 go_wp2_with (first | ((with_reducible refine aC (N := 1) rfl ?_); refine dN (cs := #[.int .i64 ah, .int .i64 af, .slice aK ae.length aJ]) (t := 30) ?_; intro WM hg w3 hbox hb; refine mJ HB.1 hg hbox hb ?_; clear HB; intro HB dS akb akc; clear hb hbox hg; obtain ⟨Ao, Ap, K7, Aq, Ar, K8⟩ := gB dS.1) | ((with_reducible refine aA (f := 74) rfl ?_); refine cK (N := (some 11)) #[.agg #[.int .i64 ah, .int .i64 af, .slice aK ae.length aJ]] Try.func74 ?_; (with_reducible refine (av.calls k ah af _ _ ae ayL _ ?side1 ?side2 A2.1).mono ?_); (case side1 => exact CB (aY bD.1 HB.1)); (case side2 => exact cO.1); rintro e w5 ⟨ab3, rfl, ho0, hb⟩; refine ⟨_, rfl, ?_⟩; refine E3 (bN ho0 (bZ HB.1)) (bB dS.1 hb) (bS HB.1 hb) ?_; clear dS HB; intro BG dS HB; (try clear hb); (try clear ho0)) | ((with_reducible refine aC (N := 12) rfl ?_); refine Zf ?hg (N := 12) ?hd ?hr ?_; (case hd => rfl); (case hg => rfl); (case hr => first | (go_simp; done) | (go_simp; rfl) | rfl); intro aRN hg w6 hbox hb; have AV := aa.mk (rB BG.1 hb); have AX := aa.mk (bB dS.1 hb); have AY := aa.mk (bS HB.1 hb); have AZ := aa.mk (hbox); have Ed := aa.mk (gX HB.1 hg); have Ee := aa.mk (gX HB.1 hg); have Lt := aa.mk (nB dS.1 hg); have RA := aa.mk (nC dS.1 hg); clear BG; clear dS; clear HB; have BG := AV; have dS := AX; have HB := AY; have aEc : aa (Lv Try.prog 3 (.map #[] 0) []) := ⟨Zg _ _⟩; have al9 := AZ; have be5 := Ed; have a9B := Ee; have aRz := Lt; have aSR := RA; clear AV AX AY AZ Ed Ee Lt RA; clear hb hbox hg; have aaD := aRz.1; have aaE := aSR.1; obtain ⟨lZ, l5, mR, l6, l7, mU⟩ := gB dS.1) | ((with_reducible refine aC (N := 13) rfl ?_); refine aio (Kd.slice 3 (Kd.int .i64)) _ 38 ?hg (N := 13) ?hd (xs := ([] : List (List Int))) (inner := []) (ok := fun _ => True) (okp := fun _ => True) ?hr ?hp (fun _ hk => hk) trivial (Below.refl _ _) (Nat.le_refl _) (by simp) ?_; (case hd => rfl); (case hg => rfl); (case hr => first | (go_simp; done) | (go_simp; rfl)); (case hp => exact (fK.none _ _)); intro bhj Hw acV hb hg_ hnew_; clear hg_ hnew_; (first | rw [<- a3o.1] at acV | (simp only [Int.reduceToNat] at acV; rw [<- a3o.1] at acV)); refine E5 (rB BG.1 hb) (lN (BV acV (iL (PR BG.1))) (bZ HB.1)) (bB dS.1 hb) (bB al9.1 hb) (bS HB.1 hb) ?_; clear BG dS al9 HB; intro BG a9C dS al9 HB; clear hb acV; obtain ⟨vT, vU, xI, vV, vW, xJ⟩ := gB dS.1))
 go_loopg [5, 17] k (fun kq v5 v17 w' => ∃ (bq : List (List Int)) (eB : Int) (xm_1 : List (Int × Int)) (om_1 : Obj), v17 = .int .i64 eB /\ aa (bn.l0 kq ayL bq ae (ae.length : Int) eB xm_1 = some r) /\ aa (kq <= k) /\ aa (Kd.R (Kd.int .i64) 3 w' w.heap.size (fun _ => True) ab3 ayL) /\ aa (Kd.S (Kd.slice 3 (Kd.int .i64)) 38 w' w.heap.size (fun k_ => some k_ ≠ (ab3 : Value).ownBlock) v5 bq) /\ aa (w'.heap[WM]? = some (.cells #[.int .i64 ah, .int .i64 af, (.slice aK ae.length aJ)] 30 (0, 0))) /\ aa (w'.heap[aRN]? = some om_1) /\ aa (Lv Try.prog 3 om_1 xm_1) /\ aa (Below w.heap.size w w'))
 case atStart => exact ⟨(bcn), (0), ([]), (.map #[] 0), RG, H', ⟨Nat.le_refl _⟩, ⟨PR BG.1⟩, ⟨ES (eY a9C.1 (fun _ hk => hk.2))⟩, ⟨PB dS.1⟩, ⟨PB al9.1⟩, aEc, ⟨BL HB.1⟩⟩
 clear H'
 clear vT vU xI Ao Ap K7 lZ l5 mR vV vW xJ Aq Ar K8 l6 l7 mU
 obtain ⟨bq, eB, xm_1, om_1, rfl, HA, iB, HO_3, HO_5, dS, al9, aEc, HB⟩ := hrel
 cases gk with
 | zero => exact absurd HA.1 (by simp [bn.l0])
 | succ k1 => ?_
 have H := HA.1
 clear HA
 simp only [bn.l0] at H
 replace H := pu H; rcases H with ⟨c13b0, H⟩ | ⟨c13b0, H⟩
 · replace H := ji H; obtain ⟨c14b0, H⟩ := H
   replace H := ji H; obtain ⟨c15b0, H⟩ := H
   replace H := oP H; rcases H with ⟨c16, H⟩ | ⟨c16, H⟩
   · have c16b0 := beq_iff_eq.mpr c16
     have c16b1 := bne_eq_false_iff_eq.mpr c16
     clear c16
     generalize a3p : ((([eB] : List Int)) : List Int) = Rm at H
     have Nt := aa.mk a3p.symm; clear a3p
     replace H := oC H; obtain ⟨c17, H⟩ := H
     have awG := aa.mk c17
     clear c17
     generalize akf : ((bq ++ [Rm]) : List (List Int)) = aPj at H
     have ab9 := aa.mk akf.symm; clear akf
     have H' := aa.mk H
     clear H
     have aRT : 0 <= (eB : Int) := OD
     have aRU : eB < (ae.length : Int) := OD
     obtain ⟨aUk, aWw, aCS, aCY⟩ := iP bD.1 eB aRT aRU
     cases aWw
     replace aCS := (HB.1.cell (World.block_lt_of_cell? w _ aCS)).trans aCS
     replace aCY := (HB.1.cell (World.block_lt_of_cell? w _ aCY)).trans aCY
     replace aRT := eq_true aRT
     replace aRU := eq_true aRU
     go_wp2_with (first | ((with_reducible refine aC (N := 7) rfl ?_); refine dN (cs := #[.int .i64 0, .int .i64 0]) (t := 83) ?_; intro as8 hg w18 hbox hb; refine E12 (rB HO_3.1 hb) (sB HO_5.1 hb) (bB dS.1 hb) (bB al9.1 hb) (bS HB.1 hb) (hbox) (gX HB.1 hg) (gX HB.1 hg) (nB dS.1 hg) (nC dS.1 hg) (nB al9.1 hg) (nC al9.1 hg) ?_; clear HO_3 HO_5 dS al9 HB; intro HO_3 HO_5 dS al9 HB aq3 aZA aZB azm aHz aot aEJ; clear hb hbox hg; have ajk := aHz.1; have ajl := azm.1; have auz := aEJ.1; have auA := aot.1; obtain ⟨uJ, uK, uL, uM⟩ := nO aq3.1) | ((with_reducible refine aC (N := 39) rfl ?_); refine Bd (b := aRN) (om := om_1) (mm := xm_1) rfl (.tmp 34) (.tmp 38) 92 3 rfl Try.underlying92 Try.underlying3 ?hz (by first | exact al9.1 | (refine lW ?_ aot.1 _; refine lW ?_ aot.1 _; exact al9.1)) aEc.1 ?hm (rd ayL eB) ?hx HKY.1 ?_; (case hz => exact bn.zero3 _); (case hm => rfl); (case hx => first | rfl | (go_simp; done) | (go_simp; rfl))) | ((with_reducible refine aC (N := 28) rfl ?_); refine qh (Kd.int .i64) _ 3 ?hg (N := 28) ?hd (xs := ([eB] : List Int)) (inner := [.int .i64 eB]) (ok := fun _ => True) (okp := fun _ => True) ?hr ?hp (fun _ hk => hk) trivial (Below.refl _ _) (Nat.le_refl _) (by simp) ?_; (case hd => rfl); (case hg => rfl); (case hr => first | (go_simp; done) | (go_simp; rfl)); (case hp => exact (fK.one (show Kd.M (Kd.int .i64) _ _ _ eB [.int .i64 eB] from rfl) (fK.none _ _))); intro Ro BM UC hb hg_ hnew_; clear hg_ hnew_; (first | rw [<- Nt.1] at UC | (simp only [Int.reduceToNat] at UC; rw [<- Nt.1] at UC)); refine E7 (eT (by (with_reducible repeat (first | apply aV | apply aW | apply aQ)); exact (aG (RQ as8 1 (RQ as8 0 (bz HO_3.1 aq3.1 (by decide)) _) _) (fun _ h_ => h_.1))) (fe UC) hb) (kW (by (with_reducible repeat (first | apply jF | apply jG | apply iV)); exact (eY (SQ as8 1 (SQ as8 0 (kG HO_5.1 aq3.1 (by decide)) _) _) (fun _ h_ => h_.1))) (fe UC) hb) (bN (iI UC (iL (by (with_reducible repeat (first | apply aV | apply aW | apply aQ)); exact (aG (RQ as8 1 (RQ as8 0 (bz HO_3.1 aq3.1 (by decide)) _) _) (fun _ h_ => h_.1))))) (bZ HB.1)) (dh (g := WM) (o := .cells #[.int .i64 ah, .int .i64 af, .slice (some aUk) ae.length aJ] 30 (0, 0)) (xB azm.1 dS.1) hb) (dh (g := aRN) (o := om_1) (by (with_reducible repeat (first | refine ak ?_ _ | refine ag ?_ | refine au ?_ _)); refine lW ?_ aot.1 _; (with_reducible repeat (first | refine ak ?_ _ | refine ag ?_ | refine au ?_ _)); refine lW ?_ aot.1 _; (with_reducible repeat (first | refine ak ?_ _ | refine ag ?_ | refine au ?_ _)); exact al9.1) hb) (dh (g := as8) (o := .cells #[.int .i64 ((aj ae eB).f0), .int .i64 ((aj ae eB).f1)] 83 (0, 0)) (BB aq3.1) hb) (bS HB.1 hb) ?_; clear HO_3 HO_5 dS al9 aq3 HB; intro HO_3 HO_5 xn dS al9 aq3 HB; clear hb UC; obtain ⟨apc, apd, ape⟩ := bv xn.1; subst ape) | ((with_reducible refine bf (b := .append) (xs := #[.tmp 26, .tmp 29]) rfl ?_); at_builtin; refine uV (Kd.slice 3 (Kd.int .i64)) (w0 := w) w.heap.size rfl (.tmp 26) (.tmp 29) 60 38 (.slice none 0 0) 24 rfl Try.underlying60 Ab rfl (by decide) (by omega) u5 bq Rm [.slice apc Rm.length apd] (fun k_ => some k_ ≠ (ab3 : Value).ownBlock) (fun k_ => some k_ = (.slice apc Rm.length apd : Value).ownBlock) rfl rfl ?aP (fun k_ hk_ => ((aG (ok' := fun k_ => ((fun k_ => some k_ ≠ (ab3 : Value).ownBlock)) k_ /\ some k_ ≠ (u5 : Value).ownBlock) (eH (xn.1) (jW HO_5.1) (by decide)) (fun k_ hk => ⟨hk.1.2, hk.2⟩))).1 k_ hk_.symm) ?aF ?aO ?aB ?aS ?aL ?_; (case aP => exact BC (aG (jR rfl (aG (ok' := fun k_ => ((fun k_ => some k_ ≠ (ab3 : Value).ownBlock)) k_ /\ some k_ ≠ (u5 : Value).ownBlock) (eH (xn.1) (jW HO_5.1) (by decide)) (fun k_ hk => ⟨hk.1.2, hk.2⟩))) (fun _ h_ => h_))); (case aB => exact (BL HB.1)); (case aF => exact (fun k_ hk => Kd.kX (iL (PR HO_3.1)) k_ hk)); (case aO => exact (ES (eY HO_5.1 (fun k_ hk => ⟨hk.1, fun e_ => hk.2 e_⟩)))); (case aS => exact (bZ HB.1)); (case aL => have := awG.1; omega); intro avh Mi ho hb hg hat; rw [<- ab9.1] at ho; refine E6 (kF (PR HO_3.1) (jW (PS HO_5.1)) (by decide) hg) (bG dS.1 hg (xe HO_5.1 dS.1 (by decide))) (bG al9.1 hg (Io (Yd HO_5.1) al9.1 aEc.1)) (bG aq3.1 hg (xe HO_5.1 aq3.1 (by decide))) (hb) (ho) ?_; clear HO_3 dS al9 aq3 HB HO_5 xn; intro HO_3 dS al9 aq3 HB aca; clear ho hb hg hat))
     go_roundg k1
     case measure => have := iB.1; omega
     case rel => exact ⟨(aPj), (wrap64 (eB + 1)), (xm_1), (om_1), RG, H', ⟨by have := iB.1; omega⟩, ⟨pm (aG HO_3.1 (fun _ hk => trivial))⟩, ⟨PS aca.1⟩, ⟨PB dS.1⟩, ⟨PB al9.1⟩, aEc, ⟨BL HB.1⟩⟩
   have c16b0 := beq_eq_false_iff_ne.mpr c16
   have c16b1 := bne_iff_ne.mpr c16
   replace H := oP H; rcases H with ⟨c26, H⟩ | ⟨c26, H⟩
   · have c26b0 := beq_iff_eq.mpr c26
     have c26b1 := bne_eq_false_iff_eq.mpr c26
     clear c26
     replace H := ji H; obtain ⟨c27b0, H⟩ := H
     have c_k : wrap64 (rd ayL eB) = (rd ayL eB) := by
      apply Classical.byContradiction; intro h_; rw [if_neg h_] at H; exact absurd H (by simp)
     rw [if_pos c_k] at H
     have HKY := aa.mk c_k
     clear c_k
     replace H := oP H; rcases H with ⟨c28, H⟩ | ⟨c28, H⟩
     · have c28b0 : Gx xm_1 (rd ayL eB) = true := c28
       have c28b1 : (!Gx xm_1 (rd ayL eB)) = false := by rw [c28]; rfl
       clear c28
       replace H := ji H; obtain ⟨c29b0, H⟩ := H
       replace H := ji H; obtain ⟨c30b0, H⟩ := H
       replace H := oC H; obtain ⟨c31, H⟩ := H
       have awJ := aa.mk c31
       clear c31
       generalize a3q : (((aT bq (pK xm_1 (rd ayL eB))) ++ [eB]) : List Int) = a03 at H
       have a9D := aa.mk a3q.symm; clear a3q
       generalize a3r : ((bq.set ((pK xm_1 (rd ayL eB)) : Int).toNat a03) : List (List Int)) = a9E at H
       have a9F := aa.mk a3r.symm; clear a3r
       have H' := aa.mk H
       clear H
       have aRT : 0 <= (eB : Int) := OD
       have aRU : eB < (ae.length : Int) := OD
       obtain ⟨aUk, aWw, aCS, aCY⟩ := iP bD.1 eB aRT aRU
       cases aWw
       replace aCS := (HB.1.cell (World.block_lt_of_cell? w _ aCS)).trans aCS
       replace aCY := (HB.1.cell (World.block_lt_of_cell? w _ aCY)).trans aCY
       replace aRT := eq_true aRT
       replace aRU := eq_true aRU
       go_wp2_with (first | ((with_reducible refine aC (N := 7) rfl ?_); refine dN (cs := #[.int .i64 0, .int .i64 0]) (t := 83) ?_; intro as8 hg w33 hbox hb; refine E12 (rB HO_3.1 hb) (sB HO_5.1 hb) (bB dS.1 hb) (bB al9.1 hb) (bS HB.1 hb) (hbox) (gX HB.1 hg) (gX HB.1 hg) (nB dS.1 hg) (nC dS.1 hg) (nB al9.1 hg) (nC al9.1 hg) ?_; clear HO_3 HO_5 dS al9 HB; intro HO_3 HO_5 dS al9 HB aq3 aZA aZB azm aHz aot aEJ; clear hb hbox hg; have aL7 := aHz.1; have aL8 := azm.1; have awN := aEJ.1; have awO := aot.1; obtain ⟨agS, agT, agU, agV⟩ := nO aq3.1) | ((with_reducible refine aC (N := 39) rfl ?_); refine Bd (b := aRN) (om := om_1) (mm := xm_1) rfl (.tmp 34) (.tmp 38) 92 3 rfl Try.underlying92 Try.underlying3 ?hz (by first | exact al9.1 | (refine lW ?_ aot.1 _; refine lW ?_ aot.1 _; exact al9.1)) aEc.1 ?hm (rd ayL eB) ?hx HKY.1 ?_; (case hz => exact bn.zero3 _); (case hm => rfl); (case hx => first | rfl | (go_simp; done) | (go_simp; rfl))) | ((with_reducible refine gK (t := 83) (p := 7) rfl ?_); refine lX (t := 83) (p := 7) (w1 := ((w33.setCell ⟨as8, 0, none⟩ (.int .i64 ((aj ae eB).f0))).setCell ⟨as8, 1, none⟩ (.int .i64 ((aj ae eB).f1)))) ?_; intro Mw hw; have AV : aa (Kd.R (Kd.int .i64) 3 Mw w.heap.size (fun _ => True) ab3 ayL) := ⟨(by rw [hw]; exact (by (with_reducible repeat (first | apply aV | apply aW | apply aQ)); exact aG (RQ as8 1 (RQ as8 0 (bz HO_3.1 aq3.1 (by decide)) _) _) (fun _ hk => trivial)))⟩; have AX : aa (Kd.S (Kd.slice 3 (Kd.int .i64)) 38 Mw w.heap.size (fun k_ => some k_ ≠ (ab3 : Value).ownBlock) u5 bq) := ⟨(by rw [hw]; exact (by (with_reducible repeat (first | apply jF | apply jG | apply iV)); exact eY (SQ as8 1 (SQ as8 0 (kG HO_5.1 aq3.1 (by decide)) _) _) (fun _ hk => hk.1)))⟩; have AY : aa (Mw.heap[WM]? = some (.cells #[.int .i64 ah, .int .i64 af, .slice (some aUk) ae.length aJ] 30 (0, 0))) := ⟨(by rw [hw]; exact (xB azm.1 dS.1))⟩; have AZ : aa (Mw.heap[aRN]? = some om_1) := ⟨(by rw [hw]; exact (by (with_reducible repeat (first | refine ak ?_ _ | refine ag ?_ | refine au ?_ _)); refine lW ?_ aot.1 _; (with_reducible repeat (first | refine ak ?_ _ | refine ag ?_ | refine au ?_ _)); refine lW ?_ aot.1 _; (with_reducible repeat (first | refine ak ?_ _ | refine ag ?_ | refine au ?_ _)); exact al9.1))⟩; have Ed : aa (Mw.heap[as8]? = some (.cells #[.int .i64 ((aj ae eB).f0), .int .i64 ((aj ae eB).f1)] 83 (0, 0))) := ⟨(by rw [hw]; exact (BB aq3.1))⟩; have Ee : aa (Below w.heap.size w Mw) := ⟨(by rw [hw]; exact (BL HB.1))⟩; clear hw; clear HO_3; clear HO_5; clear dS; clear al9; clear aq3; clear HB; have HO_3 := AV; have HO_5 := AX; have dS := AY; have al9 := AZ; have aq3 := Ed; have HB := Ee; clear AV AX AY AZ Ed Ee; obtain ⟨aBk, aBl, aBm, aBn⟩ := nO aq3.1; obtain ⟨arX, aes, amE⟩ := bv HO_3.1; subst amE; have aWx : 0 <= (eB : Int) := OD; have aWy : eB < (ayL.length : Int) := OD; obtain ⟨aPD, a5I, aSn⟩ := Kd.dx (ay HO_3.1).2.2 eB aWx aWy; cases a5I; replace aWx := eq_true aWx; replace aWy := eq_true aWy; have aL9 := aSR.1; have aMa := aRz.1; obtain ⟨F6, DV, Ra⟩ := mq HO_5.1; subst Ra; have a04 : 0 <= ((pK xm_1 (rd ayL eB)) : Int) := OD; have a05 : (pK xm_1 (rd ayL eB)) < (bq.length : Int) := OD; obtain ⟨be6, aZC, aZD, bco, aUW, aXn, aXo⟩ := tT (fJ HO_5.1).2.2 (pK xm_1 (rd ayL eB)) a04 a05; cases bco; obtain ⟨be7, a5J, a5K, aZE⟩ := BF HO_5.1 [] (pK xm_1 (rd ayL eB)) a04 (by first | exact a05 | exact OD | (have e_ := (fJ HO_5.1).1; omega)); obtain ⟨bav, rfl, aUX⟩ := a5K; have aSo := aZE 0 _ rfl; rw [Nat.add_zero, show ((Kd.slice 3 (Kd.int .i64))).sz = 1 from rfl, Nat.mul_one] at aSo; replace aSo := Option.some.inj (aSo.symm.trans aUW); rw [aSo] at aUX; have aSp := aa.mk (show Kd.R (Kd.int .i64) 3 _ _ _ _ (aT bq (pK xm_1 (rd ayL eB))) from aUX); clear aSo aUX; have a06 := aa.mk aUW; clear aZE a5J; have baw := aa.mk aXo; have bax := aa.mk aXn; clear aXo aXn; replace a04 := eq_true a04; replace a05 := eq_true a05; obtain ⟨agZ, Yu, Yv, awP, aGJ, aP6, awQ⟩ := Ol HO_5.1 (by have h_ : ((pK xm_1 (rd ayL eB)) : Int) < ((bq.length : Int) : Int) := OD; have qi : 0 <= ((pK xm_1 (rd ayL eB)) : Int) := (OD); omega); (first | cases Yv | (injection Yv with ea_ en_ ec_; (first | subst ea_ | (injection ea_ with ea_; subst ea_)); subst ec_; clear en_)); have aGK := aa.mk awP; have aP7 := aa.mk awQ; clear awP aGJ awQ; (first | simp only [add_plain] at aUW | skip); obtain ⟨akY, aP8, awR, aGL, akZ, _, _, awS⟩ := KN HO_5.1 [] ((pK xm_1 (rd ayL eB)) : Int) (OD) (by have h_ : ((pK xm_1 (rd ayL eB)) : Int) < ((bq.length : Int) : Int) := OD; first | exact h_ | (have e_ := (fJ HO_5.1).1; omega) | simpa using h_); obtain ⟨aGM, rfl, ac1⟩ := aGL; have ac2 := akZ 0 _ rfl; have api := a06.1; (try simp only [add_plain] at api); (try simp only [Nat.add_zero] at ac2); (try rw [show ((Kd.slice 3 (Kd.int .i64))).sz = 1 from rfl, Nat.mul_one] at ac2); replace ac2 := Option.some.inj (ac2.symm.trans api); subst ac2; clear api akZ awR; have apj := aa.mk (show Kd.R (Kd.int .i64) 3 _ w.heap.size akY (.slice aZC (aT bq (pK xm_1 (rd ayL eB))).length aZD) (aT bq (pK xm_1 (rd ayL eB))) from ac1); have UF := aa.mk awS; have apk := aa.mk (fJ HO_5.1).1; clear awS ac1) | ((with_reducible refine bf (b := .append) (xs := #[.tmp 60, .tmp 62]) rfl ?_); at_builtin; refine ek (Kd.int .i64) (w0 := w) w.heap.size rfl (.tmp 60) (.tmp 62) 38 3 (.int .i64 0) 8 rfl Try.underlying38 info3 rfl (by decide) (by omega) (.slice aZC (aT bq (pK xm_1 (rd ayL eB))).length aZD) (aT bq (pK xm_1 (rd ayL eB))) eB [.int .i64 eB] (fun k_ => akY k_ ∨ ((fun k_ => some k_ ≠ (.slice (some aPD) ayL.length aes : Value).ownBlock)) k_ /\ Mw.heap.size <= k_) (fun _ => False) rfl rfl ?aP (fun _ hk => hk.elim) ?aF ?aO ?aB ?aS ?aL ?_; (case aP => exact rfl); (case aB => exact (BL HB.1)); (case aF => exact (fun k_ hk => .inr ⟨Kd.kX (iL (PR HO_3.1)) k_ hk, hk⟩)); (case aO => exact (pm (aG apj.1 (fun _ hk => .inl hk)))); (case aS => exact (bZ HB.1)); (case aL => have := awJ.1; omega); intro bhk w44 ho hb hg hat; rw [<- a9D.1] at ho; refine E7 (FC (PR HO_3.1) rfl hg (fun k_ e_ => (aSp.1.1 k_ e_).1)) (bG dS.1 hg (dK aSp.1 dS.1 (by decide))) (bG al9.1 hg (Io aSp.1 al9.1 aEc.1)) (bG aq3.1 hg (dK aSp.1 aq3.1 (by decide))) (hb) (Jt (Om (by repeat (first | exact UF.1 | refine Oq ?_ _ | refine Ot ?_ _ | refine Tu ?_))) hg (fun k_ e_ => .inl (apj.1.1 k_ e_))) (ho) ?_; clear HO_3 dS al9 aq3 HB UF HO_5 apj aSp; intro HO_3 dS al9 aq3 HB UF aZF; clear ho hb hg hat; have p32 : 0 <= ((pK xm_1 (rd ayL eB)) : Int) := OD; have q32 : ((pK xm_1 (rd ayL eB)) : Int) < ((bq.length : Int) : Int) := OD; replace p32 := eq_true p32; replace q32 := eq_true q32; obtain ⟨YT, YU, aoC⟩ := bv aZF.1; subst aoC; obtain ⟨_, _, hraw45, _, _, Rx, _⟩ := QF UF.1 (OD) (by have h_ : ((pK xm_1 (rd ayL eB)) : Int) < ((bq.length : Int) : Int) := OD; first | exact h_ | (have e_ := (apk.1); omega) | simpa using h_); obtain ⟨_, WU⟩ := am9 UF.1 (OD) (by have h_ : ((pK xm_1 (rd ayL eB)) : Int) < ((bq.length : Int) : Int) := OD; first | exact h_ | (have e_ := (apk.1); omega) | simpa using h_); have UG := Rx 0 _ rfl; have UH := WU 0; (try simp only [Nat.add_zero] at UG UH); (try rw [show ((Kd.slice 3 (Kd.int .i64))).sz = 1 from rfl, Nat.mul_one] at UG); (try rw [show ((Kd.slice 3 (Kd.int .i64))).sz = 1 from rfl, Nat.mul_one] at UH); (try simp only [Go.IntWalk.toNatUp] at UG UH); have Ry := Tw UF.1 (OD) (by have h_ : ((pK xm_1 (rd ayL eB)) : Int) < ((bq.length : Int) : Int) := OD; first | exact h_ | (have e_ := (apk.1); omega) | simpa using h_) (seg := [.slice YT a03.length YU]) (j := 0) (show 1 <= 1 from by decide) (x' := a03) (BC aZF.1) (fun _ hk => hk); (try simp only [show ((Kd.slice 3 (Kd.int .i64))).sz = 1 from rfl, Nat.mul_one, Nat.add_zero] at Ry); clear Rx WU) | ((with_reducible refine gK (t := 38) (p := 64) rfl ?_); refine lX (t := 38) (p := 64) (w1 := (w44.setCell ⟨agZ, ((pK xm_1 (rd ayL eB)) : Int).toNat, none⟩ (.slice YT a03.length YU))) ?_; intro w46 hw; have hg : w44.grownBy w46 (some agZ) := (by rw [hw]; exact Ry.2); have hp_ : Kd.S (Kd.slice 3 (Kd.int .i64)) 38 w46 w.heap.size (fun k_ => some k_ ≠ (.slice (some aPD) ayL.length aes : Value).ownBlock) (.slice (some ⟨agZ, 0, none⟩) bq.length DV) a9E := (by rw [hw, a9F.1]; exact Ry.1); clear Ry; refine E6 (kF (v := (.slice (some ⟨agZ, 0, none⟩) bq.length DV)) (PR HO_3.1) (dY hraw45) (by decide) hg) (bG dS.1 hg (dK hraw45 dS.1 (by decide))) (bG al9.1 hg (Io hraw45 al9.1 aEc.1)) (bG aq3.1 hg (dK hraw45 aq3.1 (by decide))) ((by rw [hw]; exact il HB.1 aGK.1 : Below w.heap.size w w46)) (hp_) ?_; clear HO_3 dS al9 aq3 HB aZF UF; intro HO_3 dS al9 aq3 HB HO_5; clear hg hw hp_ hraw45))
       go_roundg k1
       case measure => have := iB.1; omega
       case rel => exact ⟨(a9E), (wrap64 (eB + 1)), (xm_1), (om_1), RG, H', ⟨by have := iB.1; omega⟩, ⟨PR HO_3.1⟩, ⟨PS HO_5.1⟩, ⟨PB dS.1⟩, ⟨PB al9.1⟩, aEc, ⟨BL HB.1⟩⟩
     have c28b0 : Gx xm_1 (rd ayL eB) = false := by simpa using c28
     have c28b1 : (!Gx xm_1 (rd ayL eB)) = true := by rw [c28b0]; rfl
     have c_m : xm_1.length < 17592186044416 := by
      apply Classical.byContradiction; intro h_; rw [if_neg h_] at H; exact absurd H (by simp)
     rw [if_pos c_m] at H
     have HML := aa.mk c_m
     clear c_m
     replace H := oC H; obtain ⟨c48, H⟩ := H
     have ak0 := aa.mk c48
     clear c48
     replace H := nR H; obtain ⟨aKK, a9G, H⟩ := H
     replace H := oC H; obtain ⟨c49, H⟩ := H
     have c49b0 := decide_eq_true c49
     have c49b1 : decide (0 <= bq.length) = true := decide_eq_true (by omega)
     clear c49
     replace H := oC H; obtain ⟨c50, H⟩ := H
     have c50b0 := decide_eq_true c50
     have c50b1 : decide (bq.length < aKK.length) = true := decide_eq_true (Int.ofNat_lt.mp c50)
     clear c50
     replace H := oC H; obtain ⟨c51, H⟩ := H
     have awU := aa.mk c51
     clear c51
     generalize akk : (((aT aKK (bq.length : Int)) ++ [eB]) : List Int) = avn at H
     have avo := aa.mk akk.symm; clear akk
     generalize a3s : ((aKK.set ((bq.length : Int) : Int).toNat avn) : List (List Int)) = a9H at H
     have a9I := aa.mk a3s.symm; clear a3s
     have H' := aa.mk H
     clear H
     have aRT : 0 <= (eB : Int) := OD
     have aRU : eB < (ae.length : Int) := OD
     obtain ⟨aUk, aWw, aCS, aCY⟩ := iP bD.1 eB aRT aRU
     cases aWw
     replace aCS := (HB.1.cell (World.block_lt_of_cell? w _ aCS)).trans aCS
     replace aCY := (HB.1.cell (World.block_lt_of_cell? w _ aCY)).trans aCY
     replace aRT := eq_true aRT
     replace aRU := eq_true aRU
     go_wp2_with (first | ((with_reducible refine aC (N := 7) rfl ?_); refine dN (cs := #[.int .i64 0, .int .i64 0]) (t := 83) ?_; intro as8 hg w53 hbox hb; refine E12 (rB HO_3.1 hb) (sB HO_5.1 hb) (bB dS.1 hb) (bB al9.1 hb) (bS HB.1 hb) (hbox) (gX HB.1 hg) (gX HB.1 hg) (nB dS.1 hg) (nC dS.1 hg) (nB al9.1 hg) (nC al9.1 hg) ?_; clear HO_3 HO_5 dS al9 HB; intro HO_3 HO_5 dS al9 HB aq3 aZA aZB azm aHz aot aEJ; clear hb hbox hg; have avL := aHz.1; have avM := azm.1; have aMe := aEJ.1; have aMf := aot.1; obtain ⟨agr, ags, agt, agu⟩ := nO aq3.1; obtain ⟨SX, Mq, amJ⟩ := bv HO_3.1; subst amJ; have aWx : 0 <= (eB : Int) := OD; have aWy : eB < (ayL.length : Int) := OD; obtain ⟨aPD, a5I, aSn⟩ := Kd.dx (ay HO_3.1).2.2 eB aWx aWy; cases a5I; have aTq : aPD.block ≠ as8 := Kd.iY (dK HO_3.1 aq3.1 (by decide)); have aTr : aPD.block ≠ as8 := Kd.iY (dK HO_3.1 aq3.1 (by decide)); replace aSn := (cell_far (p := ⟨as8, 0, none⟩) (by first | (rw [add_block]; exact aTq) | (show (Addr.add _ _).block ≠ _; rw [add_block]; exact aTq) | exact aTq) (.int .i64 ((aj ae eB).f0))).trans aSn; replace aSn := (cell_far (p := ⟨as8, 1, none⟩) (by first | (rw [add_block]; exact aTr) | (show (Addr.add _ _).block ≠ _; rw [add_block]; exact aTr) | exact aTr) (.int .i64 ((aj ae eB).f1))).trans aSn; clear aTq; clear aTr; replace aWx := eq_true aWx; replace aWy := eq_true aWy; have ar2 := aSR.1; have ar3 := aRz.1; obtain ⟨agv, agw, ao6⟩ := mq HO_5.1; subst ao6; have a5L : 0 <= (eB : Int) := OD; have a5M : eB < (ayL.length : Int) := OD; obtain ⟨a9J, bcp, aTs⟩ := Kd.dx (ay HO_3.1).2.2 eB a5L a5M; obtain rfl : aPD = a9J := (by injection bcp); have aTt : aPD.block ≠ as8 := Kd.iY (dK HO_3.1 aq3.1 (by decide)); have aTu : aPD.block ≠ as8 := Kd.iY (dK HO_3.1 aq3.1 (by decide)); replace aTs := (cell_far (p := ⟨as8, 0, none⟩) (by first | (rw [add_block]; exact aTt) | (show (Addr.add _ _).block ≠ _; rw [add_block]; exact aTt) | exact aTt) (.int .i64 ((aj ae eB).f0))).trans aTs; replace aTs := (cell_far (p := ⟨as8, 1, none⟩) (by first | (rw [add_block]; exact aTu) | (show (Addr.add _ _).block ≠ _; rw [add_block]; exact aTu) | exact aTu) (.int .i64 ((aj ae eB).f1))).trans aTs; clear aTt; clear aTu; replace a5L := eq_true a5L; replace a5M := eq_true a5M) | ((with_reducible refine aC (N := 39) rfl ?_); refine Bd (b := aRN) (om := om_1) (mm := xm_1) rfl (.tmp 34) (.tmp 38) 92 3 rfl Try.underlying92 Try.underlying3 ?hz (by first | exact al9.1 | (refine lW ?_ aot.1 _; refine lW ?_ aot.1 _; exact al9.1)) aEc.1 ?hm (rd ayL eB) ?hx HKY.1 ?_; (case hz => exact bn.zero3 _); (case hm => rfl); (case hx => first | rfl | (go_simp; done) | (go_simp; rfl))) | ((with_reducible refine ac4 (T := 92) (m := .tmp 46) (x := .tmp 50) (v := .tmp 51) rfl ?_); refine Zh (b := aRN) (om := om_1) (mm := xm_1) rfl (.tmp 46) (.tmp 50) (.tmp 51) 92 3 rfl rfl Try.underlying92 Try.underlying3 (by (with_reducible repeat (first | refine ak ?_ _ | refine ag ?_ | refine au ?_ _)); refine lW ?_ aot.1 _; (with_reducible repeat (first | refine ak ?_ _ | refine ag ?_ | refine au ?_ _)); refine lW ?_ aot.1 _; (with_reducible repeat (first | refine ak ?_ _ | refine ag ?_ | refine au ?_ _)); exact al9.1) aEc.1 HML.1 ?hm (rd ayL eB) (bq.length : Int) ?hx ?hv HKY.1 ?hw ?_; (case hm => rfl); (case hx => first | rfl | (go_simp; done) | (go_simp; rfl)); (case hv => first | rfl | (go_simp; done) | (go_simp; rfl)); (case hw => (have := ak0.1; exact UI (by omega))); intro w61 aQa hbm awZ hg; have AV := aa.mk (QA (g := aRN) (om := om_1) (by (with_reducible repeat (first | apply aV | apply aW | apply aQ)); exact (aG (RQ as8 1 (RQ as8 0 (bz HO_3.1 aq3.1 (by decide)) _) _) (fun _ h_ => h_.1))) (by (with_reducible repeat (first | refine ak ?_ _ | refine ag ?_ | refine au ?_ _)); refine lW ?_ aot.1 _; (with_reducible repeat (first | refine ak ?_ _ | refine ag ?_ | refine au ?_ _)); refine lW ?_ aot.1 _; (with_reducible repeat (first | refine ak ?_ _ | refine ag ?_ | refine au ?_ _)); exact al9.1) aEc.1 hg); have AX := aa.mk (aw0 (g := aRN) (om := om_1) (by (with_reducible repeat (first | apply jF | apply jG | apply iV)); exact (eY (SQ as8 1 (SQ as8 0 (kG HO_5.1 aq3.1 (by decide)) _) _) (fun _ h_ => h_.1))) (by (with_reducible repeat (first | refine ak ?_ _ | refine ag ?_ | refine au ?_ _)); refine lW ?_ aot.1 _; (with_reducible repeat (first | refine ak ?_ _ | refine ag ?_ | refine au ?_ _)); refine lW ?_ aot.1 _; (with_reducible repeat (first | refine ak ?_ _ | refine ag ?_ | refine au ?_ _)); exact al9.1) aEc.1 hg); have AY := aa.mk (yQ (g := WM) (o := .cells #[.int .i64 ah, .int .i64 af, .slice (some aUk) ae.length aJ] 30 (0, 0)) (xB azm.1 dS.1) hg (fun e_ => aRz.1 (Option.some.inj e_))); have AZ := aa.mk (hbm); have Ed := aa.mk (yQ (g := as8) (o := .cells #[.int .i64 ((aj ae eB).f0), .int .i64 ((aj ae eB).f1)] 83 (0, 0)) (BB aq3.1) hg (fun e_ => aEJ.1 (Option.some.inj e_))); have Ee := aa.mk (Kw (BL HB.1) _ (bZ HB.1) hg (fun k_ e_ => by cases e_; exact a9B.1)); clear HO_3; clear HO_5; clear dS; clear al9; clear aq3; clear HB; clear aEc; have HO_3 := AV; have HO_5 := AX; have dS := AY; have al9 := AZ; have aq3 := Ed; have HB := Ee; have aEc := aa.mk awZ; clear AV AX AY AZ Ed Ee; clear hbm awZ hg) | ((with_reducible refine bf (b := .append) (xs := #[.tmp 52, .tmp 53]) rfl ?_); at_builtin; refine uV (Kd.slice 3 (Kd.int .i64)) (w0 := w) w.heap.size rfl (.tmp 52) (.tmp 53) 60 38 (.slice none 0 0) 24 rfl Try.underlying60 Ab rfl (by decide) (by omega) (.slice agv bq.length agw) bq [] [.slice none 0 0] (fun k_ => some k_ ≠ (.slice (some aPD) ayL.length Mq : Value).ownBlock) (fun _ => False) rfl rfl ?aP (fun _ hk => hk.elim) ?aF ?aO ?aB ?aS ?aL ?_; (case aP => exact ⟨_, rfl, tO _ _ _ _ _⟩); (case aB => exact (BL HB.1)); (case aF => exact (fun k_ hk => Kd.kX (iL (PR HO_3.1)) k_ hk)); (case aO => exact (ES (eY HO_5.1 (fun k_ hk => ⟨hk, fun e_ => e_⟩)))); (case aS => exact (bZ HB.1)); (case aL => have := ak0.1; omega); intro bhl w62 ho hb hg hat; rw [<- a9G.1] at ho; have AV := aa.mk (kF (PR HO_3.1) (jW (PS HO_5.1)) (by decide) hg); have AX := aa.mk (bG dS.1 hg (xe HO_5.1 dS.1 (by decide))); have AY := aa.mk (bG al9.1 hg (Io (Yd HO_5.1) al9.1 aEc.1)); have AZ := aa.mk (bG aq3.1 hg (xe HO_5.1 aq3.1 (by decide))); have Ee := aa.mk (hb); have Lt := aa.mk (ho); clear HO_3; clear dS; clear al9; clear aq3; clear HB; clear HO_5; have HO_3 := AV; have dS := AX; have al9 := AY; have aq3 := AZ; have HB := Ee; have aPE := Lt; clear AV AX AY AZ Ee Lt; clear ho hb hg hat; obtain ⟨aQc, aw1, aGO⟩ := mq aPE.1; subst aGO; have aoR : 0 <= ((bq.length : Int) : Int) := OD; have aoS : (bq.length : Int) < (aKK.length : Int) := OD; obtain ⟨aKE, aZG, aZH, aFU, az3, aXp, aXq⟩ := tT (fJ aPE.1).2.2 (bq.length : Int) aoR aoS; cases aFU; obtain ⟨be9, a5N, a5O, aZI⟩ := BF aPE.1 [] (bq.length : Int) aoR (by first | exact aoS | exact OD | (have e_ := (fJ aPE.1).1; omega)); obtain ⟨bay, rfl, aUY⟩ := a5O; have aSq := aZI 0 _ rfl; rw [Nat.add_zero, show ((Kd.slice 3 (Kd.int .i64))).sz = 1 from rfl, Nat.mul_one] at aSq; replace aSq := Option.some.inj (aSq.symm.trans az3); rw [aSq] at aUY; have aSr := aa.mk (show Kd.R (Kd.int .i64) 3 _ _ _ _ (aT aKK (bq.length : Int)) from aUY); clear aSq aUY; have a07 := aa.mk az3; clear aZI a5N; have baz := aa.mk aXq; have baA := aa.mk aXp; clear aXq aXp; (try simp only [Go.IntWalk.toNatUp] at az3); replace aoR := eq_true aoR; replace aoS := eq_true aoS; obtain ⟨ag4, Uz, agx, aw2, aGQ, aQd, aw3⟩ := Ol aPE.1 (by have h_ : ((bq.length : Int) : Int) < ((aKK.length : Int) : Int) := OD; have qi : 0 <= ((bq.length : Int) : Int) := (OD); omega); (first | cases agx | (injection agx with ea_ en_ ec_; (first | subst ea_ | (injection ea_ with ea_; subst ea_)); subst ec_; clear en_)); have aGR := aa.mk aw2; have aQe := aa.mk aw3; clear aw2 aGQ aw3; (first | simp only [add_plain] at az3 | skip); obtain ⟨ak3, aQf, aw4, aGS, ak4, _, _, aw5⟩ := KN aPE.1 [] ((bq.length : Int) : Int) (OD) (by have h_ : ((bq.length : Int) : Int) < ((aKK.length : Int) : Int) := OD; first | exact h_ | (have e_ := (fJ aPE.1).1; omega) | simpa using h_); obtain ⟨aGT, rfl, ac8⟩ := aGS; have hv64 := ak4 0 _ rfl; have apq := a07.1; (try simp only [add_plain] at apq); (try simp only [Nat.add_zero] at hv64); (try rw [show ((Kd.slice 3 (Kd.int .i64))).sz = 1 from rfl, Nat.mul_one] at hv64); replace hv64 := Option.some.inj (hv64.symm.trans apq); subst hv64; clear apq ak4 aw4; have apr := aa.mk (show Kd.R (Kd.int .i64) 3 _ w.heap.size ak3 (.slice aZG (aT aKK (bq.length : Int)).length aZH) (aT aKK (bq.length : Int)) from ac8); have UJ := aa.mk aw5; have aps := aa.mk (fJ aPE.1).1; clear aw5 ac8) | ((with_reducible refine bf (b := .append) (xs := #[.tmp 60, .tmp 62]) rfl ?_); at_builtin; refine ek (Kd.int .i64) (w0 := w) w.heap.size rfl (.tmp 60) (.tmp 62) 38 3 (.int .i64 0) 8 rfl Try.underlying38 info3 rfl (by decide) (by omega) (.slice aZG (aT aKK (bq.length : Int)).length aZH) (aT aKK (bq.length : Int)) eB [.int .i64 eB] (fun k_ => ak3 k_ ∨ ((fun k_ => some k_ ≠ (.slice (some aPD) ayL.length Mq : Value).ownBlock)) k_ /\ w62.heap.size <= k_) (fun _ => False) rfl rfl ?aP (fun _ hk => hk.elim) ?aF ?aO ?aB ?aS ?aL ?_; (case aP => exact rfl); (case aB => exact (BL HB.1)); (case aF => exact (fun k_ hk => .inr ⟨Kd.kX (iL (PR HO_3.1)) k_ hk, hk⟩)); (case aO => exact (pm (aG apr.1 (fun _ hk => .inl hk)))); (case aS => exact (bZ HB.1)); (case aL => have := awU.1; omega); intro bhm w65 ho hb hg hat; rw [<- avo.1] at ho; have AV := aa.mk (FC (PR HO_3.1) rfl hg (fun k_ e_ => (aSr.1.1 k_ e_).1)); have AX := aa.mk (bG dS.1 hg (dK aSr.1 dS.1 (by decide))); have AY := aa.mk (bG al9.1 hg (Io aSr.1 al9.1 aEc.1)); have AZ := aa.mk (bG aq3.1 hg (dK aSr.1 aq3.1 (by decide))); have Ee := aa.mk (hb); have Lt := aa.mk (Jt (Om (by repeat (first | exact UJ.1 | refine Oq ?_ _ | refine Ot ?_ _ | refine Tu ?_))) hg (fun k_ e_ => .inl (apr.1.1 k_ e_))); have RA := aa.mk (ho); clear HO_3; clear dS; clear al9; clear aq3; clear HB; clear UJ; clear aPE; clear apr; clear aSr; have HO_3 := AV; have dS := AX; have al9 := AY; have aq3 := AZ; have HB := Ee; have UJ := Lt; have aZJ := RA; clear AV AX AY AZ Ee Lt RA; clear ho hb hg hat; have p52 : 0 <= ((bq.length : Int) : Int) := OD; have q52 : ((bq.length : Int) : Int) < ((aKK.length : Int) : Int) := OD; replace p52 := eq_true p52; replace q52 := eq_true q52; obtain ⟨aw6, aw7, aGU⟩ := bv aZJ.1; subst aGU; obtain ⟨_, _, hraw66, _, _, ak5, _⟩ := QF UJ.1 (OD) (by have h_ : ((bq.length : Int) : Int) < ((aKK.length : Int) : Int) := OD; first | exact h_ | (have e_ := (aps.1); omega) | simpa using h_); obtain ⟨_, ak6⟩ := am9 UJ.1 (OD) (by have h_ : ((bq.length : Int) : Int) < ((aKK.length : Int) : Int) := OD; first | exact h_ | (have e_ := (aps.1); omega) | simpa using h_); have UK := ak5 0 _ rfl; have UL := ak6 0; (try simp only [Nat.add_zero] at UK UL); (try rw [show ((Kd.slice 3 (Kd.int .i64))).sz = 1 from rfl, Nat.mul_one] at UK); (try rw [show ((Kd.slice 3 (Kd.int .i64))).sz = 1 from rfl, Nat.mul_one] at UL); (try simp only [Go.IntWalk.toNatUp] at UK UL); have ag5 := Tw UJ.1 (OD) (by have h_ : ((bq.length : Int) : Int) < ((aKK.length : Int) : Int) := OD; first | exact h_ | (have e_ := (aps.1); omega) | simpa using h_) (seg := [.slice aw6 avn.length aw7]) (j := 0) (show 1 <= 1 from by decide) (x' := avn) (BC aZJ.1) (fun _ hk => hk); (try simp only [show ((Kd.slice 3 (Kd.int .i64))).sz = 1 from rfl, Nat.mul_one, Nat.add_zero] at ag5); clear ak5 ak6) | ((with_reducible refine gK (t := 38) (p := 64) rfl ?_); refine lX (t := 38) (p := 64) (w1 := (w65.setCell ⟨ag4, ((bq.length : Int) : Int).toNat, none⟩ (.slice aw6 avn.length aw7))) ?_; intro w67 hw; have hg : w65.grownBy w67 (some ag4) := (by rw [hw]; exact ag5.2); have hp_ : Kd.S (Kd.slice 3 (Kd.int .i64)) 38 w67 w.heap.size (fun k_ => some k_ ≠ (.slice (some aPD) ayL.length Mq : Value).ownBlock) (.slice (some ⟨ag4, 0, none⟩) aKK.length aw1) a9H := (by rw [hw, a9I.1]; exact ag5.1); clear ag5; have AV := aa.mk (kF (v := (.slice (some ⟨ag4, 0, none⟩) aKK.length aw1)) (PR HO_3.1) (dY hraw66) (by decide) hg); have AX := aa.mk (bG dS.1 hg (dK hraw66 dS.1 (by decide))); have AY := aa.mk (bG al9.1 hg (Io hraw66 al9.1 aEc.1)); have AZ := aa.mk (bG aq3.1 hg (dK hraw66 aq3.1 (by decide))); have Ee := aa.mk ((by rw [hw]; exact il HB.1 aGR.1 : Below w.heap.size w w67)); have Lt := aa.mk (hp_); clear HO_3; clear dS; clear al9; clear aq3; clear HB; clear aZJ; clear UJ; have HO_3 := AV; have dS := AX; have al9 := AY; have aq3 := AZ; have HB := Ee; have aPE := Lt; clear AV AX AY AZ Ee Lt; clear hg hw hp_ hraw66))
     go_roundg k1
     case measure => have := iB.1; omega
     case rel => exact ⟨(a9H), (wrap64 (eB + 1)), (((rd ayL eB), (bq.length : Int)) :: xm_1), (_), RG, H', ⟨by have := iB.1; omega⟩, ⟨PR HO_3.1⟩, ⟨PS aPE.1⟩, ⟨PB dS.1⟩, ⟨PB al9.1⟩, aEc, ⟨BL HB.1⟩⟩
   have c26b0 := beq_eq_false_iff_ne.mpr c26
   have c26b1 := bne_iff_ne.mpr c26
   have H' := aa.mk H
   clear H
   have aRT : 0 <= (eB : Int) := OD
   have aRU : eB < (ae.length : Int) := OD
   obtain ⟨aUk, aWw, aCS, aCY⟩ := iP bD.1 eB aRT aRU
   cases aWw
   replace aCS := (HB.1.cell (World.block_lt_of_cell? w _ aCS)).trans aCS
   replace aCY := (HB.1.cell (World.block_lt_of_cell? w _ aCY)).trans aCY
   replace aRT := eq_true aRT
   replace aRU := eq_true aRU
   go_wp2_with (first | ((with_reducible refine aC (N := 7) rfl ?_); refine dN (cs := #[.int .i64 0, .int .i64 0]) (t := 83) ?_; intro as8 hg w69 hbox hb; refine E12 (rB HO_3.1 hb) (sB HO_5.1 hb) (bB dS.1 hb) (bB al9.1 hb) (bS HB.1 hb) (hbox) (gX HB.1 hg) (gX HB.1 hg) (nB dS.1 hg) (nC dS.1 hg) (nB al9.1 hg) (nC al9.1 hg) ?_; clear HO_3 HO_5 dS al9 HB; intro HO_3 HO_5 dS al9 HB aq3 aZA aZB azm aHz aot aEJ; clear hb hbox hg; have avW := aHz.1; have avX := azm.1; have aMj := aEJ.1; have aMk := aot.1; obtain ⟨aBu, aBv, aBw, aBx⟩ := nO aq3.1) | ((with_reducible refine aC (N := 39) rfl ?_); refine Bd (b := aRN) (om := om_1) (mm := xm_1) rfl (.tmp 34) (.tmp 38) 92 3 rfl Try.underlying92 Try.underlying3 ?hz (by first | exact al9.1 | (refine lW ?_ aot.1 _; refine lW ?_ aot.1 _; exact al9.1)) aEc.1 ?hm (rd ayL eB) ?hx HKY.1 ?_; (case hz => exact bn.zero3 _); (case hm => rfl); (case hx => first | rfl | (go_simp; done) | (go_simp; rfl))))
   go_roundg k1
   case measure => have := iB.1; omega
   case rel => exact ⟨(bq), (wrap64 (eB + 1)), (xm_1), (om_1), RG, H', ⟨by have := iB.1; omega⟩, ⟨by (with_reducible repeat (first | apply aV | apply aW | apply aQ)); exact aG (RQ as8 1 (RQ as8 0 (bz HO_3.1 aq3.1 (by decide)) _) _) (fun _ hk => trivial)⟩, ⟨by (with_reducible repeat (first | apply jF | apply jG | apply iV)); exact eY (SQ as8 1 (SQ as8 0 (kG HO_5.1 aq3.1 (by decide)) _) _) (fun _ hk => hk.1)⟩, ⟨by (with_reducible repeat (first | refine ak ?_ _ | refine ag ?_ | refine au ?_ _)); refine bu ?_ azm.1 _; (with_reducible repeat (first | refine ak ?_ _ | refine ag ?_ | refine au ?_ _)); refine bu ?_ azm.1 _; (with_reducible repeat (first | refine ak ?_ _ | refine ag ?_ | refine au ?_ _)); exact dS.1⟩, ⟨by (with_reducible repeat (first | refine ak ?_ _ | refine ag ?_ | refine au ?_ _)); refine lW ?_ aot.1 _; (with_reducible repeat (first | refine ak ?_ _ | refine ag ?_ | refine au ?_ _)); refine lW ?_ aot.1 _; (with_reducible repeat (first | refine ak ?_ _ | refine ag ?_ | refine au ?_ _)); exact al9.1⟩, aEc, ⟨BL HB.1⟩⟩
 obtain rfl := Option.some.inj H
 go_wp2
 go_ret
 exact ⟨_, RF, ES (eY HO_5.1 (fun _ hk => trivial)), BL HB.1⟩
def kD.f (ah : Int) (af : Int) : Option (Bool) := if ah < 0 then (some false) else (if ah > 7 then (some false) else (if af < 0 then (some false) else (if af > 1 then (some false) else (if af = 0 then (some true) else (if ah = 3 then (some true) else (some (ah == 6)))))))
theorem kD.calls (ah : Int) (af : Int) (r : Bool) (w : World) (h : kD.f ah af = some r) :
 Calls Try.prog 99 #[.agg #[.int .i64 ah, .int .i64 af]] w fun e w' => e = .returned (.bool r) /\ Below w.heap.size w w' := by
 have xE := Try.underlying83
 have HB := aa.mk (Below.refl w.heap.size w)
 have H := h
 clear h
 unfold kD.f at H
 replace H := pu H; rcases H with ⟨c2b0, H⟩ | ⟨c2b0, H⟩
 · obtain rfl := Option.some.inj H
   go_enter Try.func99, Try.ntmps99
   go_wp2_with (first | ((with_reducible refine aC (N := 1) rfl ?_); refine dN (cs := #[.int .i64 ah, .int .i64 af]) (t := 83) ?_; intro aUl hg w3 hbox hb; refine mJ HB.1 hg hbox hb ?_; clear HB; intro HB aNG aUm aUn; clear hb hbox hg; obtain ⟨Ao, Ap, Aq, Ar⟩ := nO aNG.1))
   go_ret
   exact ⟨RF, BL HB.1⟩
 replace H := oP H; rcases H with ⟨c5, H⟩ | ⟨c5, H⟩
 · have c5b0 : decide (7 < ah) = true := decide_eq_true c5
   clear c5
   obtain rfl := Option.some.inj H
   go_enter Try.func99, Try.ntmps99
   go_wp2_with (first | ((with_reducible refine aC (N := 1) rfl ?_); refine dN (cs := #[.int .i64 ah, .int .i64 af]) (t := 83) ?_; intro aUl hg w6 hbox hb; refine mJ HB.1 hg hbox hb ?_; clear HB; intro HB aNG aUm aUn; clear hb hbox hg; obtain ⟨NN, NP, NQ, NR⟩ := nO aNG.1))
   go_ret
   exact ⟨RF, BL HB.1⟩
 have c5b0 : decide (7 < ah) = false := decide_eq_false c5
 clear c5
 replace H := pu H; rcases H with ⟨c8b0, H⟩ | ⟨c8b0, H⟩
 · obtain rfl := Option.some.inj H
   go_enter Try.func99, Try.ntmps99
   go_wp2_with (first | ((with_reducible refine aC (N := 1) rfl ?_); refine dN (cs := #[.int .i64 ah, .int .i64 af]) (t := 83) ?_; intro aUl hg w9 hbox hb; refine mJ HB.1 hg hbox hb ?_; clear HB; intro HB aNG aUm aUn; clear hb hbox hg; obtain ⟨pR, pU, pV, pW⟩ := nO aNG.1))
   go_ret
   exact ⟨RF, BL HB.1⟩
 replace H := oP H; rcases H with ⟨c11, H⟩ | ⟨c11, H⟩
 · have c11b0 : decide (1 < af) = true := decide_eq_true c11
   clear c11
   obtain rfl := Option.some.inj H
   go_enter Try.func99, Try.ntmps99
   go_wp2_with (first | ((with_reducible refine aC (N := 1) rfl ?_); refine dN (cs := #[.int .i64 ah, .int .i64 af]) (t := 83) ?_; intro aUl hg yC hbox hb; refine mJ HB.1 hg hbox hb ?_; clear HB; intro HB aNG aUm aUn; clear hb hbox hg; obtain ⟨uF, uG, uH, uI⟩ := nO aNG.1))
   go_ret
   exact ⟨RF, BL HB.1⟩
 have c11b0 : decide (1 < af) = false := decide_eq_false c11
 clear c11
 replace H := oP H; rcases H with ⟨c14, H⟩ | ⟨c14, H⟩
 · have c14b0 := beq_iff_eq.mpr c14
   have c14b1 := bne_eq_false_iff_eq.mpr c14
   clear c14
   obtain rfl := Option.some.inj H
   go_enter Try.func99, Try.ntmps99
   go_wp2_with (first | ((with_reducible refine aC (N := 1) rfl ?_); refine dN (cs := #[.int .i64 ah, .int .i64 af]) (t := 83) ?_; intro aUl hg NU hbox hb; refine mJ HB.1 hg hbox hb ?_; clear HB; intro HB aNG aUm aUn; clear hb hbox hg; obtain ⟨wm, wo, wu, ww⟩ := nO aNG.1))
   go_ret
   exact ⟨RF, BL HB.1⟩
 have c14b0 := beq_eq_false_iff_ne.mpr c14
 have c14b1 := bne_iff_ne.mpr c14
 replace H := oP H; rcases H with ⟨c17, H⟩ | ⟨c17, H⟩
 · have c17b0 := beq_iff_eq.mpr c17
   have c17b1 := bne_eq_false_iff_eq.mpr c17
   clear c17
   obtain rfl := Option.some.inj H
   go_enter Try.func99, Try.ntmps99
   go_wp2_with (first | ((with_reducible refine aC (N := 1) rfl ?_); refine dN (cs := #[.int .i64 ah, .int .i64 af]) (t := 83) ?_; intro aUl hg w18 hbox hb; refine mJ HB.1 hg hbox hb ?_; clear HB; intro HB aNG aUm aUn; clear hb hbox hg; obtain ⟨FD, FE, FF, FH⟩ := nO aNG.1))
   go_ret
   exact ⟨RF, BL HB.1⟩
 have c17b0 := beq_eq_false_iff_ne.mpr c17
 have c17b1 := bne_iff_ne.mpr c17
 obtain rfl := Option.some.inj H
 go_enter Try.func99, Try.ntmps99
 go_wp2_with (first | ((with_reducible refine aC (N := 1) rfl ?_); refine dN (cs := #[.int .i64 ah, .int .i64 af]) (t := 83) ?_; intro aUl hg ZJ hbox hb; refine mJ HB.1 hg hbox hb ?_; clear HB; intro HB aNG aUm aUn; clear hb hbox hg; obtain ⟨uJ, uK, uL, uM⟩ := nO aNG.1))
 go_ret
 exact ⟨RF, BL HB.1⟩
def df.l0 : Nat -> List (fq) -> Int -> Int -> Option (Bool)
 | 0, _, _, _ => none
 | k + 1, x8, x9, j6 => if j6 < x9 then (if 0 <= j6 then (if j6 < (x8.length : Int) then ((kD.f ((aj x8 j6).f0) ((aj x8 j6).f1)).bind fun a9K => (if a9K = true then (df.l0 k x8 x9 (wrap64 (j6 + 1))) else (some false))) else (none)) else (none)) else (some true)
def df.f (k : Nat) (l0 : List (fq)) : Option (Bool) := if (l0.length : Int) > 90 then (some false) else (df.l0 k l0 (l0.length : Int) 0)
theorem df.mono_l : ∀ k, (∀ y0 y1 y2, dO (df.l0 k y0 y1 y2) (df.l0 (k + 1) y0 y1 y2))
 | 0 => fun _ _ _ r h => by simp [df.l0] at h
 | k + 1 => by
  have ja := df.mono_l k
  intros
  first | unfold df.l0
  exact BA ja
theorem df.mono : ∀ a0 k, dO (df.f k a0) (df.f (k + 1) a0) := by
 intro a0 k
 have ja := df.mono_l k
 unfold df.f
 exact BA ja
theorem df.calls (k : Nat) (A0 : Option Addr) (c0 : Nat) (l0 : List (fq)) (r : Bool) (w : World) (hr0 : Kd.C jZ w A0 l0.length l0) (hc0 : l0.length <= c0) (h : df.f k l0 = some r) :
 Calls Try.prog 86 #[.slice A0 l0.length c0] w fun e w' => e = .returned (.bool r) /\ Below w.heap.size w w' := by
 have xE := Try.underlying83
 have DI := aa.mk hr0
 have ZU := aa.mk hc0
 clear hr0 hc0
 have HB := aa.mk (Below.refl w.heap.size w)
 have H := h
 clear h
 unfold df.f at H
 replace H := oP H; rcases H with ⟨c2, H⟩ | ⟨c2, H⟩
 · have c2b0 : decide (90 < (l0.length : Int)) = true := decide_eq_true c2
   have c2b1 : decide (90 < l0.length) = true := decide_eq_true (by omega)
   clear c2
   obtain rfl := Option.some.inj H
   go_enter Try.func86, Try.ntmps86
   go_wp2
   go_ret
   exact ⟨RF, BL HB.1⟩
 have c2b0 : decide (90 < (l0.length : Int)) = false := decide_eq_false c2
 have c2b1 : decide (90 < l0.length) = false := decide_eq_false (by omega)
 clear c2
 have H' := aa.mk H
 clear H
 go_enter Try.func86, Try.ntmps86
 go_wp2
 go_loopg [10] k (fun kq v10 w' => ∃ (bE : Int), v10 = .int .i64 bE /\ aa (df.l0 kq l0 (l0.length : Int) bE = some r) /\ aa (kq <= k) /\ aa (Below w.heap.size w w'))
 case atStart => exact ⟨(0), RG, H', ⟨Nat.le_refl _⟩, ⟨BL HB.1⟩⟩
 clear H'
 clear c2b0 c2b1
 obtain ⟨bE, rfl, HA, iB, HB⟩ := hrel
 cases gk with
 | zero => exact absurd HA.1 (by simp [df.l0])
 | succ k1 => ?_
 have H := HA.1
 clear HA
 simp only [df.l0] at H
 replace H := pu H; rcases H with ⟨c3b0, H⟩ | ⟨c3b0, H⟩
 · replace H := ji H; obtain ⟨c4b0, H⟩ := H
   replace H := ji H; obtain ⟨c5b0, H⟩ := H
   replace H := dz H; obtain ⟨a9K, A6, H⟩ := H
   replace H := Cm H; rcases H with ⟨rfl, H⟩ | ⟨rfl, H⟩
   · have H' := aa.mk H
     clear H
     have aWz : 0 <= (bE : Int) := OD
     have aWA : bE < (l0.length : Int) := OD
     obtain ⟨a9L, a5P, aOf, aOg⟩ := iP DI.1 bE aWz aWA
     cases a5P
     replace aOf := (HB.1.cell (World.block_lt_of_cell? w _ aOf)).trans aOf
     replace aOg := (HB.1.cell (World.block_lt_of_cell? w _ aOg)).trans aOg
     replace aWz := eq_true aWz
     replace aWA := eq_true aWA
     go_wp2_with (first | ((with_reducible refine aC (N := 4) rfl ?_); refine dN (cs := #[.int .i64 0, .int .i64 0]) (t := 83) ?_; intro aZK hg w8 hbox hb; refine mJ HB.1 hg hbox hb ?_; clear HB; intro HB aSs a9M a9N; clear hb hbox hg; obtain ⟨Ej, El, Em, En⟩ := nO aSs.1) | ((with_reducible refine aA (f := 99) rfl ?_); refine cK (N := (some 15)) #[.agg #[.int .i64 ((aj l0 bE).f0), .int .i64 ((aj l0 bE).f1)]] Try.func99 ?_; (with_reducible refine (kD.calls ((aj l0 bE).f0) ((aj l0 bE).f1) true _ A6.1).mono ?_); rintro e Hw ⟨rfl, hb⟩; refine ⟨_, rfl, ?_⟩; refine E2 (dh (g := aZK) (o := .cells #[.int .i64 ((aj l0 bE).f0), .int .i64 ((aj l0 bE).f1)] 83 (0, 0)) (BB aSs.1) hb) (bS HB.1 hb) ?_; clear aSs HB; intro aSs HB; (try clear hb)))
     go_roundg k1
     case measure => have := iB.1; omega
     case rel => exact ⟨(wrap64 (bE + 1)), RG, H', ⟨by have := iB.1; omega⟩, ⟨BL HB.1⟩⟩
   obtain rfl := Option.some.inj H
   have aWz : 0 <= (bE : Int) := OD
   have aWA : bE < (l0.length : Int) := OD
   obtain ⟨a9L, a5P, aOf, aOg⟩ := iP DI.1 bE aWz aWA
   cases a5P
   replace aOf := (HB.1.cell (World.block_lt_of_cell? w _ aOf)).trans aOf
   replace aOg := (HB.1.cell (World.block_lt_of_cell? w _ aOg)).trans aOg
   replace aWz := eq_true aWz
   replace aWA := eq_true aWA
   go_wp2_with (first | ((with_reducible refine aC (N := 4) rfl ?_); refine dN (cs := #[.int .i64 0, .int .i64 0]) (t := 83) ?_; intro aZK hg qy hbox hb; refine mJ HB.1 hg hbox hb ?_; clear HB; intro HB aSs a9M a9N; clear hb hbox hg; obtain ⟨vT, vU, vV, vW⟩ := nO aSs.1) | ((with_reducible refine aA (f := 99) rfl ?_); refine cK (N := (some 15)) #[.agg #[.int .i64 ((aj l0 bE).f0), .int .i64 ((aj l0 bE).f1)]] Try.func99 ?_; (with_reducible refine (kD.calls ((aj l0 bE).f0) ((aj l0 bE).f1) false _ A6.1).mono ?_); rintro e yJ ⟨rfl, hb⟩; refine ⟨_, rfl, ?_⟩; refine E2 (dh (g := aZK) (o := .cells #[.int .i64 ((aj l0 bE).f0), .int .i64 ((aj l0 bE).f1)] 83 (0, 0)) (BB aSs.1) hb) (bS HB.1 hb) ?_; clear aSs HB; intro aSs HB; (try clear hb)))
   go_ret
   exact ⟨RF, BL HB.1⟩
 obtain rfl := Option.some.inj H
 go_wp2
 go_ret
 exact ⟨RF, BL HB.1⟩
def iZ.f (k : Nat) (ah : Int) (af : Int) (ae : List (fq)) : Option (Bool) := if ah ≥ 1 then (if ah <= 10 then (if af ≥ 1 then (if af <= 9 then (if (ae.length : Int) = (wrap64 (ah * af)) then ((df.f k ae).bind fun a5Q => (some a5Q)) else (some false)) else (some false)) else (some false)) else (some false)) else (some false)
theorem iZ.mono : ∀ a0 a1 a2 k, dO (iZ.f k a0 a1 a2) (iZ.f (k + 1) a0 a1 a2) := by
 intro a0 a1 a2 k
 unfold iZ.f
 repeat' first
  | (with_reducible exact df.mono _ _)
  | (with_reducible exact dO.refl _)
  | (with_reducible exact dO.none _)
  | (with_reducible refine dO.ite ?_ ?_)
  | (with_reducible refine dO.bind ?_ (fun _ => ?_))
  | exact df.mono _ _
  | exact dO.none _
  | refine dO.ite ?_ ?_
  | refine dO.bind ?_ (fun _ => ?_)
theorem iZ.calls (k : Nat) (ah : Int) (af : Int) (aK : Option Addr) (aJ : Nat) (ae : List (fq)) (r : Bool) (w : World) (dH : Kd.C jZ w aK ae.length ae) (dG : ae.length <= aJ) (h : iZ.f k ah af ae = some r) :
 Calls Try.prog 73 #[.agg #[.int .i64 ah, .int .i64 af, .slice aK ae.length aJ]] w fun e w' => e = .returned (.bool r) /\ Below w.heap.size w w' := by
 have nH := Try.underlying30
 have bD := aa.mk dH
 have cO := aa.mk dG
 clear dH dG
 have HB := aa.mk (Below.refl w.heap.size w)
 have H := h
 clear h
 unfold iZ.f at H
 replace H := oP H; rcases H with ⟨c2, H⟩ | ⟨c2, H⟩
 · have c2b0 : decide (1 <= ah) = true := decide_eq_true c2
   clear c2
   replace H := pu H; rcases H with ⟨c3b0, H⟩ | ⟨c3b0, H⟩
   · replace H := oP H; rcases H with ⟨c4, H⟩ | ⟨c4, H⟩
     · have c4b0 : decide (1 <= af) = true := decide_eq_true c4
       clear c4
       replace H := pu H; rcases H with ⟨c5b0, H⟩ | ⟨c5b0, H⟩
       · replace H := oP H; rcases H with ⟨c6, H⟩ | ⟨c6, H⟩
         · have c6b0 := beq_iff_eq.mpr c6
           have c6b1 := bne_eq_false_iff_eq.mpr c6
           clear c6
           replace H := dz H; obtain ⟨a5Q, A7, H⟩ := H
           obtain rfl := Option.some.inj H
           go_enter Try.func73, Try.ntmps73
           go_wp2_with (first | ((with_reducible refine aC (N := 1) rfl ?_); (try (refine jT (by rfl) ?_; dsimp only)); refine dN (cs := #[.int .i64 ah, .int .i64 af, .slice aK ae.length aJ]) (t := 30) ?_; intro aVE hg w8 hbox hb; refine mJ HB.1 hg hbox hb ?_; clear HB; intro HB aMF aVF aVG; clear hb hbox hg; obtain ⟨Ej, El, NS, Em, En, NT⟩ := gB aMF.1) | (go_at_call 86; (with_reducible refine (df.calls k _ _ ae a5Q _ ?side1 ?side2 A7.1).mono ?_); (case side1 => exact CB (aY bD.1 HB.1)); (case side2 => exact cO.1); rintro e Hw ⟨rfl, hb⟩; refine E2 (bB aMF.1 hb) (bS HB.1 hb) ?_; clear aMF HB; intro aMF HB; (try clear hb)))
           go_ret
           exact ⟨RF, BL HB.1⟩
         have c6b0 := beq_eq_false_iff_ne.mpr c6
         have c6b1 := bne_iff_ne.mpr c6
         obtain rfl := Option.some.inj H
         go_enter Try.func73, Try.ntmps73
         go_wp2_with (first | ((with_reducible refine aC (N := 1) rfl ?_); (try (refine jT (by rfl) ?_; dsimp only)); refine dN (cs := #[.int .i64 ah, .int .i64 af, .slice aK ae.length aJ]) (t := 30) ?_; intro aVE hg qy hbox hb; refine mJ HB.1 hg hbox hb ?_; clear HB; intro HB aMF aVF aVG; clear hb hbox hg; obtain ⟨vT, vU, xI, vV, vW, xJ⟩ := gB aMF.1))
         go_ret
         exact ⟨RF, BL HB.1⟩
       obtain rfl := Option.some.inj H
       go_enter Try.func73, Try.ntmps73
       go_wp2_with (first | ((with_reducible refine aC (N := 1) rfl ?_); (try (refine jT (by rfl) ?_; dsimp only)); refine dN (cs := #[.int .i64 ah, .int .i64 af, .slice aK ae.length aJ]) (t := 30) ?_; intro aVE hg yJ hbox hb; refine mJ HB.1 hg hbox hb ?_; clear HB; intro HB aMF aVF aVG; clear hb hbox hg; obtain ⟨Af, Ag, Ju, Ah, Ai, Jv⟩ := gB aMF.1))
       go_ret
       exact ⟨RF, BL HB.1⟩
     have c4b0 : decide (1 <= af) = false := decide_eq_false c4
     clear c4
     obtain rfl := Option.some.inj H
     go_enter Try.func73, Try.ntmps73
     go_wp2_with (first | ((with_reducible refine aC (N := 1) rfl ?_); (try (refine jT (by rfl) ?_; dsimp only)); refine dN (cs := #[.int .i64 ah, .int .i64 af, .slice aK ae.length aJ]) (t := 30) ?_; intro aVE hg NU hbox hb; refine mJ HB.1 hg hbox hb ?_; clear HB; intro HB aMF aVF aVG; clear hb hbox hg; obtain ⟨wm, wo, zQ, wu, ww, zR⟩ := gB aMF.1))
     go_ret
     exact ⟨RF, BL HB.1⟩
   obtain rfl := Option.some.inj H
   go_enter Try.func73, Try.ntmps73
   go_wp2_with (first | ((with_reducible refine aC (N := 1) rfl ?_); (try (refine jT (by rfl) ?_; dsimp only)); refine dN (cs := #[.int .i64 ah, .int .i64 af, .slice aK ae.length aJ]) (t := 30) ?_; intro aVE hg Vn hbox hb; refine mJ HB.1 hg hbox hb ?_; clear HB; intro HB aMF aVF aVG; clear hb hbox hg; obtain ⟨qN, qO, rV, qP, qQ, rW⟩ := gB aMF.1))
   go_ret
   exact ⟨RF, BL HB.1⟩
 have c2b0 : decide (1 <= ah) = false := decide_eq_false c2
 clear c2
 obtain rfl := Option.some.inj H
 go_enter Try.func73, Try.ntmps73
 go_wp2_with (first | ((with_reducible refine aC (N := 1) rfl ?_); (try (refine jT (by rfl) ?_; dsimp only)); refine dN (cs := #[.int .i64 ah, .int .i64 af, .slice aK ae.length aJ]) (t := 30) ?_; intro aVE hg w19 hbox hb; refine mJ HB.1 hg hbox hb ?_; clear HB; intro HB aMF aVF aVG; clear hb hbox hg; obtain ⟨wz, wB, zT, wC, wD, zU⟩ := gB aMF.1))
 go_ret
 exact ⟨RF, BL HB.1⟩
end Go.Proofs.Ytbpfdbjnnlmdjaa.P
