--MINI
import Derived.Test.YtbpfdbjnnlmdjaaPx0
import Derived.Test.YtbpfdbjnnlmdjaaPx1
import Derived.Test.YtbpfdbjnnlmdjaaPx2
import Derived.Test.YtbpfdbjnnlmdjaaPx4
import Derived.Test.YtbpfdbjnnlmdjaaPx5
import Derived.Test.YtbpfdbjnnlmdjaaPx6
namespace Go.Proofs.Ytbpfdbjnnlmdjaa.P
open Go.RowKit Go.Proofs.YtbpfdbjnnlmdjaaW.PrintWords Go.Proofs.YtbpfdbjnnlmdjaaW.PrintLast Go.Proofs.YtbpfdbjnnlmdjaaW.PrintMore
attribute [local go_sem] rQ rR vR vS pO pQ rT rU
set_option linter.unusedVariables false
set_option linter.unusedSimpArgs false
set_option maxHeartbeats 8000000
set_option maxRecDepth 100000
open Kd
def dE.l0 : Nat -> List (fq) -> Int -> Int -> Option (Int × (List (fq)))
 | 0, _, _, _ => none
 | k + 1, x0, x1, x5 => if x5 < (x0.length : Int) then (if 0 <= x5 then ((some (x0.set (x5 : Int).toNat (⟨x1, (aj x0 x5).f1⟩ : fq) : List (fq))).bind fun Kr => (dE.l0 k (Kr.set (x5 : Int).toNat (⟨(aj Kr x5).f0, wrap64 (x1 + 1)⟩ : fq)) (wrap64 ((wrap64 (x1 + 1)) + 1)) (wrap64 (x5 + 1)))) else (none)) else (some (x1, x0))
def dE.f (k : Nat) (l0 : List (fq)) (a1 : Int) : Option (Int × (List (fq))) := dE.l0 k l0 a1 0
theorem dE.mono_l : ∀ k, (∀ y0 y1 y2, dO (dE.l0 k y0 y1 y2) (dE.l0 (k + 1) y0 y1 y2))
 | 0 => fun _ _ _ r h => by simp [dE.l0] at h
 | k + 1 => by
  have ja := dE.mono_l k
  intros
  first | unfold dE.l0
  exact BA ja
theorem dE.mono : ∀ a0 a1 k, dO (dE.f k a0 a1) (dE.f (k + 1) a0 a1) := by
 intro a0 a1 k
 have ja := dE.mono_l k
 unfold dE.f
 exact BA ja
theorem dE.calls (k : Nat) (pg : Nat -> Prop) (iH : Value) (l0 : List (fq)) (a1 : Int) (r1 : Int) (r2 : List (fq)) (w0 w : World) (hB : Below w0.heap.size w0 w) (ho0 : Kd.R jZ 83 w w0.heap.size pg iH l0) (h : dE.f k l0 a1 = some (r1, r2)) :
 Calls Try.prog 56 #[iH, .int .i64 a1] w fun e w' => e = .returned (.int .i64 r1) /\ Kd.R jZ 83 w' w0.heap.size (fun k_ => (pg k_ ∨ w.heap.size <= k_)) iH r2 /\ Below w0.heap.size w0 w' /\ Kept w w' (fun k_ => pg k_) := by
 have HO0 := aa.mk (show Kd.R jZ 83 w w0.heap.size (fun k_ => (pg k_ ∨ w.heap.size <= k_)) iH l0 from aG ho0 (fun k_ hk => (.inl hk)))
 have HK := aa.mk (Kept.refl w (fun k_ => pg k_))
 have HW0 := aa.mk hB.size
 have HB := aa.mk hB
 clear hB
 have H := h
 clear h
 unfold dE.f at H
 have H' := aa.mk H
 clear H
 go_enter Try.func56, Try.ntmps56
 go_wp2
 go_loopg [1, 5] k (fun kq v1 v5 w' => ∃ (vE : List (fq)) (uT : Int) (bq : Int), v1 = .int .i64 uT /\ v5 = .int .i64 bq /\ aa (dE.l0 kq vE uT bq = some (r1, r2)) /\ aa (kq <= k) /\ aa (Kd.R jZ 83 w' w0.heap.size (fun k_ => (pg k_ ∨ w.heap.size <= k_)) iH vE) /\ aa (Kept w w' (fun k_ => pg k_)) /\ aa (Below w0.heap.size w0 w'))
 case atStart => exact ⟨(l0), (a1), (0), RG, RG, H', ⟨Nat.le_refl _⟩, ⟨PR HO0.1⟩, ⟨KL HK.1⟩, ⟨BL HB.1⟩⟩
 clear H'
 obtain ⟨vE, uT, bq, rfl, rfl, HA, iB, HO_0, HK, HB⟩ := hrel
 cases gk with
 | zero => exact absurd HA.1 (by simp [dE.l0])
 | succ k1 => ?_
 have H := HA.1
 clear HA
 simp only [dE.l0] at H
 replace H := pu H; rcases H with ⟨c3b0, H⟩ | ⟨c3b0, H⟩
 · replace H := ji H; obtain ⟨c4b0, H⟩ := H
   replace H := nR H; obtain ⟨Kr, arl, H⟩ := H
   generalize aia : ((Kr.set (bq : Int).toNat (⟨(aj Kr bq).f0, wrap64 (uT + 1)⟩ : fq)) : List (fq)) = arn at H
   have aro := aa.mk aia.symm; clear aia
   have H' := aa.mk H
   clear H
   obtain ⟨Ao7, SI, eo7⟩ := bv HO_0.1
   subst eo7
   have p5 : 0 <= (bq : Int) := OD
   have q5 : (bq : Int) < ((vE.length : Int) : Int) := OD
   obtain ⟨Jn, co5, eo5, gb5, gl5, cl5, HG5⟩ := mQ HO_0.1 (by omega)
   (first | cases eo5 | (injection eo5 with ea_ en_ ec_; (first | subst ea_ | (injection ea_ with ea_; subst ea_)); subst ec_; clear en_))
   have GB5 := aa.mk gb5
   have GG5 := aa.mk HG5
   clear gb5 gl5 HG5
   have HMgo5 := aa.mk (show (pg Jn ∨ w.heap.size <= Jn) from (HO_0.1.1 _ rfl))
   obtain ⟨ce5, aDx, hM5, amk, aml⟩ := nz HO_0.1 z83 (bq : Int) p5 q5
   obtain rfl := jY hM5
   have arv : wr.cell? ⟨Jn, (bq : Int).toNat * 2, none⟩ = some (.int .i64 ((aj vE bq).f0)) := amk 0 _ rfl
   have aIz : wr.cell? ⟨Jn, (bq : Int).toNat * 2 + 1, none⟩ = some (.int .i64 ((aj vE bq).f1)) := amk 1 _ rfl
   have arw : wr.frozen? ⟨Jn, (bq : Int).toNat * 2, none⟩ = false := aml 0
   have aIA : wr.frozen? ⟨Jn, (bq : Int).toNat * 2 + 1, none⟩ = false := aml 1
   (try clear hM5); clear aDx amk aml
   replace p5 := eq_true p5
   replace q5 := eq_true q5
   have HX8 := aa.mk (show Kd.R jZ 83 wr w0.heap.size (fun k_ => (pg k_ ∨ w.heap.size <= k_)) (.slice (some ⟨Jn, 0, none⟩) vE.length SI) vE from (PR HO_0.1))
   obtain ⟨ce8, aek, hM8, SK, XZ⟩ := nz HX8.1 z83 (bq : Int) (OD) (by have h_ : (bq : Int) < ((vE.length : Int) : Int) := OD; first | exact h_ | (have e_ := (ay HO_0.1).1; omega) | simpa using h_)
   obtain rfl := jY hM8
   have HP8 := DZ HX8.1 (bq : Int) (OD) (by have h_ : (bq : Int) < ((vE.length : Int) : Int) := OD; first | exact h_ | (have e_ := (ay HO_0.1).1; omega) | simpa using h_) (seg := [.int .i64 uT]) (j := 0) aek SK (show 1 <= 2 from by decide) (x' := (⟨uT, (aj vE bq).f1⟩ : fq)) (uE _ _ _ (⟨uT, (aj vE bq).f1⟩ : fq) ) (fun _ hk => hk)
   have aib := SK 0 _ rfl
   (try simp only [show (jZ).sz = 2 from rfl, Nat.mul_one, Nat.add_zero] at aib)
   have aic := XZ 0
   (try simp only [show (jZ).sz = 2 from rfl, Nat.mul_one, Nat.add_zero] at aic)
   (try clear hM8); clear aek SK XZ
   go_wp2_with (first | ((with_reducible refine gK (t := 3) (p := 16) rfl ?_); refine lX (t := 3) (p := 16) (w1 := (wr.setCell ⟨Jn, (bq : Int).toNat * 2, none⟩ (.int .i64 uT))) ?_; intro w9 hw; have hg : wr.grownBy w9 (some Jn) := (by rw [hw]; exact HP8.2); have hp_ : Kd.R jZ 83 w9 w0.heap.size (fun k_ => (pg k_ ∨ w.heap.size <= k_)) (.slice (some ⟨Jn, 0, none⟩) vE.length SI) Kr := (by rw [hw, arl.1]; exact HP8.1); clear HP8; refine E3 (hp_) ((by rw [hw]; exact il (HB.1) GB5.1 : Below w0.heap.size w0 w9)) (Kept.of_grown (S := (fun k_ => pg k_)) hg (KL HK.1) (fun k_ e_ => (HO_0.1.1 k_ e_))) ?_; clear HO_0 HB HK; intro HO_0 HB HK; clear hg hw hp_; have p6 : 0 <= (bq : Int) := OD; have q6 : (bq : Int) < ((vE.length : Int) : Int) := OD; obtain ⟨ce6, aDz, hM6, amm, amn⟩ := nz HO_0.1 z83 (bq : Int) p6 q6; obtain rfl := jY hM6; have aID : w9.cell? ⟨Jn, (bq : Int).toNat * 2, none⟩ = some (.int .i64 ((aj Kr bq).f0)) := amm 0 _ rfl; have aIE : w9.cell? ⟨Jn, (bq : Int).toNat * 2 + 1, none⟩ = some (.int .i64 ((aj Kr bq).f1)) := amm 1 _ rfl; have aIF : w9.frozen? ⟨Jn, (bq : Int).toNat * 2, none⟩ = false := amn 0; have aIG : w9.frozen? ⟨Jn, (bq : Int).toNat * 2 + 1, none⟩ = false := amn 1; (try clear hM6); clear aDz amm amn; replace p6 := eq_true p6; replace q6 := eq_true q6; have ary := aa.mk (show Kd.R jZ 83 w9 w0.heap.size (fun k_ => (pg k_ ∨ w.heap.size <= k_)) (.slice (some ⟨Jn, 0, none⟩) vE.length SI) Kr from (PR HO_0.1)); obtain ⟨aDA, Vl, ael, Kt, MQ⟩ := nz ary.1 z83 (bq : Int) (OD) (by have h_ : (bq : Int) < ((vE.length : Int) : Int) := OD; first | exact h_ | (have e_ := (ay HO_0.1).1; omega) | simpa using h_); obtain rfl := jY ael; have SL := DZ ary.1 (bq : Int) (OD) (by have h_ : (bq : Int) < ((vE.length : Int) : Int) := OD; first | exact h_ | (have e_ := (ay HO_0.1).1; omega) | simpa using h_) (seg := [.int .i64 (wrap64 (uT + 1))]) (j := 1) Vl Kt (show 2 <= 2 from by decide) (x' := (⟨(aj Kr bq).f0, wrap64 (uT + 1)⟩ : fq)) (uE _ _ _ (⟨(aj Kr bq).f0, wrap64 (uT + 1)⟩ : fq) ) (fun _ hk => hk); have ZR := Kt 1 _ rfl; (try simp only [show (jZ).sz = 2 from rfl, Nat.mul_one, Nat.add_zero] at ZR); have ZT := MQ 1; (try simp only [show (jZ).sz = 2 from rfl, Nat.mul_one, Nat.add_zero] at ZT); clear Vl Kt MQ) | ((with_reducible refine gK (t := 3) (p := 23) rfl ?_); refine lX (t := 3) (p := 23) (w1 := (w9.setCell ⟨Jn, (bq : Int).toNat * 2 + 1, none⟩ (.int .i64 (wrap64 (uT + 1))))) ?_; intro qy hw; have hg : w9.grownBy qy (some Jn) := (by rw [hw]; exact SL.2); have hp_ : Kd.R jZ 83 qy w0.heap.size (fun k_ => (pg k_ ∨ w.heap.size <= k_)) (.slice (some ⟨Jn, 0, none⟩) vE.length SI) arn := (by rw [hw, aro.1]; exact SL.1); clear SL; refine E3 (hp_) ((by rw [hw]; exact il (HB.1) GB5.1 : Below w0.heap.size w0 qy)) (Kept.of_grown (S := (fun k_ => pg k_)) hg (KL HK.1) (fun k_ e_ => (HO_0.1.1 k_ e_))) ?_; clear HO_0 HB HK; intro HO_0 HB HK; clear hg hw hp_))
   go_roundg k1
   case measure => have := iB.1; omega
   case rel => exact ⟨(arn), (wrap64 ((wrap64 (uT + 1)) + 1)), (wrap64 (bq + 1)), RG, RG, H', ⟨by have := iB.1; omega⟩, ⟨PR HO_0.1⟩, ⟨KL HK.1⟩, ⟨BL HB.1⟩⟩
 simp only [Option.some.injEq, Prod.mk.injEq] at H
 obtain ⟨rfl, rfl⟩ := H
 obtain ⟨DF, rM, vF⟩ := bv HO_0.1
 subst vF
 go_wp2
 go_ret
 exact ⟨RF, pm (HO_0.1), BL HB.1, KL HK.1⟩
def jb.f (k : Nat) (ah : Int) (af : Int) (ae : List (fq)) (a1 : Int) : Option (Int × (List (fq))) := (dE.f k ae a1).bind fun aid => (some (aid.1, aid.2))
theorem jb.mono : ∀ a0 a1 a2 a3 k, dO (jb.f k a0 a1 a2 a3) (jb.f (k + 1) a0 a1 a2 a3) := by
 intro a0 a1 a2 a3 k
 unfold jb.f
 repeat' first
  | (with_reducible exact dE.mono _ _ _)
  | (with_reducible exact dO.refl _)
  | (with_reducible exact dO.none _)
  | (with_reducible refine dO.ite ?_ ?_)
  | (with_reducible refine dO.bind ?_ (fun _ => ?_))
  | exact dE.mono _ _ _
  | exact dO.none _
  | refine dO.ite ?_ ?_
  | refine dO.bind ?_ (fun _ => ?_)
theorem jb.calls (k : Nat) (ah : Int) (af : Int) (cu : Nat -> Prop) (iH : Value) (ae : List (fq)) (a1 : Int) (r1 : Int) (r2 : List (fq)) (w0 w : World) (hB : Below w0.heap.size w0 w) (BN : Kd.R jZ 83 w w0.heap.size cu iH ae) (h : jb.f k ah af ae a1 = some (r1, r2)) :
 Calls Try.prog 27 #[.agg #[.int .i64 ah, .int .i64 af, iH], .int .i64 a1] w fun e w' => e = .returned (.int .i64 r1) /\ Kd.R jZ 83 w' w0.heap.size (fun k_ => (cu k_ ∨ w.heap.size <= k_)) iH r2 /\ Below w0.heap.size w0 w' /\ Kept w w' (fun k_ => cu k_) := by
 have nH := Try.underlying30
 have fB := aa.mk (show Kd.R jZ 83 w w0.heap.size (fun k_ => (cu k_ ∨ w.heap.size <= k_)) iH ae from aG BN (fun k_ hk => (.inl hk)))
 have HK := aa.mk (Kept.refl w (fun k_ => cu k_))
 have HW0 := aa.mk hB.size
 have HB := aa.mk hB
 clear hB
 have H := h
 clear h
 unfold jb.f at H
 replace H := dz H; obtain ⟨⟨aDB, aDC⟩, A3, H⟩ := H
 dsimp only at H
 simp only [Option.some.injEq, Prod.mk.injEq] at H
 obtain ⟨rfl, rfl⟩ := H
 obtain ⟨SB, yK, eo4⟩ := bv fB.1
 subst eo4
 go_enter Try.func27, Try.ntmps27
 go_wp2_with (first | ((with_reducible refine aC (N := 2) rfl ?_); refine dN (cs := #[.int .i64 ah, .int .i64 af, .slice SB ae.length yK]) (t := 30) ?_; intro aie hg w5 hbox hb; refine E6 (rB fB.1 hb) (Kept.below (S := (fun k_ => cu k_)) (KL HK.1) hb) (bS HB.1 hb) (hbox) ((by rw [hg]; exact (by first | exact HK.1.1 | exact (show Kept w _ (fun k_ => cu k_) from KL HK.1).1) : w.heap.size <= aie)) (Qm hg (bZ HB.1) : w0.heap.size <= aie) ?_; clear fB HK HB; intro fB HK HB Qn aIH aII; clear hb hbox hg; obtain ⟨oL, oM, tZ, oN, oO, uf⟩ := gB Qn.1) | ((with_reducible refine aA (f := 56) rfl ?_); refine cK (N := (some 8)) #[.slice SB ae.length yK, .int .i64 a1] Try.func56 ?_; (with_reducible refine (dE.calls k (fun k_ => some k_ = (.slice SB ae.length yK : Value).ownBlock) (.slice SB ae.length yK) ae a1 aDB aDC w0 _ ?side1 ?side2 A3.1).mono ?_); (case side1 => exact BL HB.1); (case side2 => exact jR rfl fB.1); rintro e w7 ⟨rfl, hy0, hb, hkp⟩; refine ⟨_, rfl, ?_⟩; refine E4 (qp rfl hy0 (fun k_ e_ => fB.1.1 k_ e_)) (eQ (PB Qn.1) hkp (fun hs_ => (fun e_ => (dK fB.1 Qn.1 (by decide)) e_) hs_)) (Kept.then_ (S := (fun k_ => cu k_)) (KL HK.1) hkp (fun k_ hs_ => (fun e_ => (fB.1.1 k_ e_.symm)) hs_)) (hb) ?_; clear fB Qn HK HB; intro fB Qn HK HB; (try clear hb); (try clear hkp); (try clear hy0)))
 go_ret
 exact ⟨RF, pm (fB.1), BL HB.1, KL HK.1⟩
def dB.l0 : Nat -> List Int -> Int -> Int -> Option (Int × List Int)
 | 0, _, _, _ => none
 | k + 1, x0, x1, x5 => if x5 < (x0.length : Int) then (if 0 <= x5 then (dB.l0 k (x0.set (x5 : Int).toNat x1) (wrap64 (x1 + 1)) (wrap64 (x5 + 1))) else (none)) else (some (x1, x0))
def dB.f (k : Nat) (l0 : List Int) (a1 : Int) : Option (Int × List Int) := dB.l0 k l0 a1 0
theorem dB.mono_l : ∀ k, (∀ y0 y1 y2, dO (dB.l0 k y0 y1 y2) (dB.l0 (k + 1) y0 y1 y2))
 | 0 => fun _ _ _ r h => by simp [dB.l0] at h
 | k + 1 => by
  have ja := dB.mono_l k
  intros
  first | unfold dB.l0
  exact BA ja
theorem dB.mono : ∀ a0 a1 k, dO (dB.f k a0 a1) (dB.f (k + 1) a0 a1) := by
 intro a0 a1 k
 have ja := dB.mono_l k
 unfold dB.f
 exact BA ja
theorem dB.calls (k : Nat) (pg : Nat -> Prop) (iH : Value) (l0 : List Int) (a1 : Int) (r1 : Int) (r2 : List Int) (w0 w : World) (hB : Below w0.heap.size w0 w) (ho0 : Kd.R (Kd.int .i64) 3 w w0.heap.size pg iH l0) (h : dB.f k l0 a1 = some (r1, r2)) :
 Calls Try.prog 28 #[iH, .int .i64 a1] w fun e w' => e = .returned (.int .i64 r1) /\ Kd.R (Kd.int .i64) 3 w' w0.heap.size (fun k_ => (pg k_ ∨ w.heap.size <= k_)) iH r2 /\ Below w0.heap.size w0 w' /\ Kept w w' (fun k_ => pg k_) := by
 have HO0 := aa.mk (show Kd.R (Kd.int .i64) 3 w w0.heap.size (fun k_ => (pg k_ ∨ w.heap.size <= k_)) iH l0 from aG ho0 (fun k_ hk => (.inl hk)))
 have HK := aa.mk (Kept.refl w (fun k_ => pg k_))
 have HW0 := aa.mk hB.size
 have HB := aa.mk hB
 clear hB
 have H := h
 clear h
 unfold dB.f at H
 have H' := aa.mk H
 clear H
 go_enter Try.func28, Try.ntmps28
 go_wp2
 go_loopg [1, 5] k (fun kq v1 v5 w' => ∃ (vE : List Int) (uT : Int) (bq : Int), v1 = .int .i64 uT /\ v5 = .int .i64 bq /\ aa (dB.l0 kq vE uT bq = some (r1, r2)) /\ aa (kq <= k) /\ aa (Kd.R (Kd.int .i64) 3 w' w0.heap.size (fun k_ => (pg k_ ∨ w.heap.size <= k_)) iH vE) /\ aa (Kept w w' (fun k_ => pg k_)) /\ aa (Below w0.heap.size w0 w'))
 case atStart => exact ⟨(l0), (a1), (0), RG, RG, H', ⟨Nat.le_refl _⟩, ⟨PR HO0.1⟩, ⟨KL HK.1⟩, ⟨BL HB.1⟩⟩
 clear H'
 obtain ⟨vE, uT, bq, rfl, rfl, HA, iB, HO_0, HK, HB⟩ := hrel
 cases gk with
 | zero => exact absurd HA.1 (by simp [dB.l0])
 | succ k1 => ?_
 have H := HA.1
 clear HA
 simp only [dB.l0] at H
 replace H := pu H; rcases H with ⟨c3b0, H⟩ | ⟨c3b0, H⟩
 · replace H := ji H; obtain ⟨c4b0, H⟩ := H
   generalize aif : ((vE.set (bq : Int).toNat uT) : List Int) = arz at H
   have arA := aa.mk aif.symm; clear aif
   have H' := aa.mk H
   clear H
   obtain ⟨Ao6, co6, eo6⟩ := bv HO_0.1
   subst eo6
   have p5 : 0 <= (bq : Int) := OD
   have q5 : (bq : Int) < ((vE.length : Int) : Int) := OD
   obtain ⟨Jn, co5, eo5, gb5, gl5, cl5, HG5⟩ := mQ HO_0.1 (by omega)
   (first | cases eo5 | (injection eo5 with ea_ en_ ec_; (first | subst ea_ | (injection ea_ with ea_; subst ea_)); subst ec_; clear en_))
   have GB5 := aa.mk gb5
   have GG5 := aa.mk HG5
   clear gb5 gl5 HG5
   have HMgo5 := aa.mk (show (pg Jn ∨ w.heap.size <= Jn) from (HO_0.1.1 _ rfl))
   obtain ⟨arv, arw⟩ := lC 0 HO_0.1 (bq : Int) p5 q5
   replace p5 := eq_true p5
   replace q5 := eq_true q5
   have HP7 := qV HO_0.1 (bq : Int) uT
   go_wp2_with (first | ((with_reducible refine gK (t := 3) (p := 15) rfl ?_); refine lX (t := 3) (p := 15) (w1 := (wr.setCell ⟨Jn, (bq : Int).toNat, none⟩ (.int .i64 uT))) ?_; intro w8 hw; have hg : wr.grownBy w8 (some Jn) := (by rw [hw]; exact HP7.2); have hp_ : Kd.R (Kd.int .i64) 3 w8 w0.heap.size (fun k_ => (pg k_ ∨ w.heap.size <= k_)) (.slice (some ⟨Jn, 0, none⟩) vE.length co6) arz := (by rw [hw, arA.1]; exact HP7.1); clear HP7; refine E3 (hp_) ((by rw [hw]; exact il (HB.1) GB5.1 : Below w0.heap.size w0 w8)) (Kept.of_grown (S := (fun k_ => pg k_)) hg (KL HK.1) (fun k_ e_ => (HO_0.1.1 k_ e_))) ?_; clear HO_0 HB HK; intro HO_0 HB HK; clear hg hw hp_))
   go_roundg k1
   case measure => have := iB.1; omega
   case rel => exact ⟨(arz), (wrap64 (uT + 1)), (wrap64 (bq + 1)), RG, RG, H', ⟨by have := iB.1; omega⟩, ⟨PR HO_0.1⟩, ⟨KL HK.1⟩, ⟨BL HB.1⟩⟩
 simp only [Option.some.injEq, Prod.mk.injEq] at H
 obtain ⟨rfl, rfl⟩ := H
 obtain ⟨Ao9, ZI, Vm⟩ := bv HO_0.1
 subst Vm
 go_wp2
 go_ret
 exact ⟨RF, pm (HO_0.1), BL HB.1, KL HK.1⟩
def dC.l0 : Nat -> List Int -> Int -> Int -> Option (Int)
 | 0, _, _, _ => none
 | k + 1, x0, x1, x5 => if x5 < (x0.length : Int) then (if 0 <= x5 then (if (rd x0 x5) = x1 then (dC.l0 k x0 (wrap64 (x1 + 1)) (wrap64 (x5 + 1))) else (some (-1))) else (none)) else (some x1)
def dC.f (k : Nat) (l0 : List Int) (a1 : Int) : Option (Int) := dC.l0 k l0 a1 0
theorem dC.mono_l : ∀ k, (∀ y0 y1 y2, dO (dC.l0 k y0 y1 y2) (dC.l0 (k + 1) y0 y1 y2))
 | 0 => fun _ _ _ r h => by simp [dC.l0] at h
 | k + 1 => by
  have ja := dC.mono_l k
  intros
  first | unfold dC.l0
  exact BA ja
theorem dC.mono : ∀ a0 a1 k, dO (dC.f k a0 a1) (dC.f (k + 1) a0 a1) := by
 intro a0 a1 k
 have ja := dC.mono_l k
 unfold dC.f
 exact BA ja
theorem dC.calls (k : Nat) (A0 : Option Addr) (c0 : Nat) (l0 : List Int) (a1 : Int) (r : Int) (w : World) (hr0 : Kd.C (Kd.int .i64) w A0 l0.length l0) (hc0 : l0.length <= c0) (h : dC.f k l0 a1 = some r) :
 Calls Try.prog 29 #[.slice A0 l0.length c0, .int .i64 a1] w fun e w' => e = .returned (.int .i64 r) /\ lY w w' := by
 have DI := aa.mk hr0
 have ZU := aa.mk hc0
 clear hr0 hc0
 have H := h
 clear h
 unfold dC.f at H
 have H' := aa.mk H
 clear H
 go_enter Try.func29, Try.ntmps29
 go_wp2
 go_loopg [1, 5] k (fun kq v1 v5 w' => ∃ (uT : Int) (bq : Int), v1 = .int .i64 uT /\ v5 = .int .i64 bq /\ aa (dC.l0 kq l0 uT bq = some r) /\ aa (kq <= k) /\ lY w w')
 case atStart => exact ⟨(a1), (0), RG, RG, H', ⟨Nat.le_refl _⟩, DR⟩
 clear H'
 obtain ⟨uT, bq, rfl, rfl, HA, iB, ⟨m1, rfl⟩⟩ := hrel
 cases gk with
 | zero => exact absurd HA.1 (by simp [dC.l0])
 | succ k1 => ?_
 have H := HA.1
 clear HA
 simp only [dC.l0] at H
 replace H := pu H; rcases H with ⟨c3b0, H⟩ | ⟨c3b0, H⟩
 · replace H := ji H; obtain ⟨c4b0, H⟩ := H
   replace H := oP H; rcases H with ⟨c5, H⟩ | ⟨c5, H⟩
   · have c5b0 := beq_iff_eq.mpr c5
     have c5b1 := bne_eq_false_iff_eq.mpr c5
     clear c5
     have H' := aa.mk H
     clear H
     have SN : 0 <= (bq : Int) := OD
     have SS : bq < (l0.length : Int) := OD
     obtain ⟨arC, amt, aem⟩ := Kd.dx DI.1 bq SN SS
     cases amt
     replace SN := eq_true SN
     replace SS := eq_true SS
     go_wp2
     go_roundg k1
     case measure => have := iB.1; omega
     case rel => exact ⟨(wrap64 (uT + 1)), (wrap64 (bq + 1)), RG, RG, H', ⟨by have := iB.1; omega⟩, DR⟩
   have c5b0 := beq_eq_false_iff_ne.mpr c5
   have c5b1 := bne_iff_ne.mpr c5
   obtain rfl := Option.some.inj H
   have SN : 0 <= (bq : Int) := OD
   have SS : bq < (l0.length : Int) := OD
   obtain ⟨arC, amt, aem⟩ := Kd.dx DI.1 bq SN SS
   cases amt
   replace SN := eq_true SN
   replace SS := eq_true SS
   go_wp2
   go_ret
   exact ⟨RG, DR⟩
 obtain rfl := Option.some.inj H
 go_wp2
 go_ret
 exact ⟨RG, DR⟩
def kw.f (k : Nat) (ah : Int) (af : Int) (ae : List (fq)) (l1 : List Int) : Option (List Int × Bool) := (fH.f k ah af ae l1).bind fun arD => (if arD = true then ((bM.f k ah af ae l1).bind fun amu => (some (amu, true))) else (some (([] : List Int), false)))
theorem kw.mono : ∀ a0 a1 a2 a3 k, dO (kw.f k a0 a1 a2 a3) (kw.f (k + 1) a0 a1 a2 a3) := by
 intro a0 a1 a2 a3 k
 unfold kw.f
 repeat' first
  | (with_reducible exact fH.mono _ _ _ _ _)
  | (with_reducible exact bM.mono _ _ _ _ _)
  | (with_reducible exact dO.refl _)
  | (with_reducible exact dO.none _)
  | (with_reducible refine dO.ite ?_ ?_)
  | (with_reducible refine dO.bind ?_ (fun _ => ?_))
  | exact fH.mono _ _ _ _ _
  | exact bM.mono _ _ _ _ _
  | exact dO.none _
  | refine dO.ite ?_ ?_
  | refine dO.bind ?_ (fun _ => ?_)
theorem kw.calls (k : Nat) (ah : Int) (af : Int) (aK : Option Addr) (aJ : Nat) (ae : List (fq)) (A1 : Option Addr) (c1 : Nat) (l1 : List Int) (r1 : List Int) (r2 : Bool) (w : World) (dH : Kd.C jZ w aK ae.length ae) (dG : ae.length <= aJ) (hr1 : Kd.C (Kd.int .i64) w A1 l1.length l1) (hc1 : l1.length <= c1) (h : kw.f k ah af ae l1 = some (r1, r2)) :
 Calls Try.prog 37 #[.agg #[.int .i64 ah, .int .i64 af, .slice aK ae.length aJ], .slice A1 l1.length c1] w fun e w' => ∃ rO : Value, e = .returned (.tuple #[rO, .bool r2]) /\ Kd.R (Kd.int .i64) 3 w' w.heap.size (fun _ => True) rO r1 /\ Below w.heap.size w w' := by
 have nH := Try.underlying30
 have bD := aa.mk dH
 have cO := aa.mk dG
 clear dH dG
 have HR1 := aa.mk hr1
 have vD := aa.mk hc1
 clear hr1 hc1
 have HB := aa.mk (Below.refl w.heap.size w)
 have H := h
 clear h
 unfold kw.f at H
 replace H := dz H; obtain ⟨arD, A3, H⟩ := H
 replace H := Cm H; rcases H with ⟨rfl, H⟩ | ⟨rfl, H⟩
 · replace H := dz H; obtain ⟨amu, A5, H⟩ := H
   simp only [Option.some.injEq, Prod.mk.injEq] at H
   obtain ⟨rfl, rfl⟩ := H
   go_enter Try.func37, Try.ntmps37
   go_wp2_with (first | ((with_reducible refine aC (N := 2) rfl ?_); refine dN (cs := #[.int .i64 ah, .int .i64 af, .slice aK ae.length aJ]) (t := 30) ?_; intro arE hg w6 hbox hb; refine mJ HB.1 hg hbox hb ?_; clear HB; intro HB yL arF arG; clear hb hbox hg; obtain ⟨NN, NP, ZV, NQ, NR, ZW⟩ := gB yL.1) | ((with_reducible refine aA (f := 57) rfl ?_); refine cK (N := (some 8)) #[.agg #[.int .i64 ah, .int .i64 af, .slice aK ae.length aJ], .slice A1 l1.length c1] Try.func57 ?_; (with_reducible refine (fH.calls k ah af _ _ ae _ _ l1 true _ ?side1 ?side2 ?side3 ?side4 A3.1).mono ?_); (case side1 => exact CB (aY bD.1 HB.1)); (case side2 => exact cO.1); (case side3 => exact CB (aY HR1.1 HB.1)); (case side4 => exact vD.1); rintro e w8 ⟨rfl, hb⟩; refine ⟨_, rfl, ?_⟩; refine E2 (bB yL.1 hb) (bS HB.1 hb) ?_; clear yL HB; intro yL HB; (try clear hb); obtain ⟨Ej, El, NS, Em, En, NT⟩ := gB yL.1) | ((with_reducible refine aA (f := 65) rfl ?_); refine cK (N := (some 12)) #[.agg #[.int .i64 ah, .int .i64 af, .slice aK ae.length aJ], .slice A1 l1.length c1] Try.func65 ?_; (with_reducible refine (bM.calls k ah af _ _ ae _ _ l1 amu _ ?side1 ?side2 ?side3 ?side4 A5.1).mono ?_); (case side1 => exact CB (aY bD.1 HB.1)); (case side2 => exact cO.1); (case side3 => exact CB (aY HR1.1 HB.1)); (case side4 => exact vD.1); rintro e Hw ⟨aNw, rfl, ho0, hb⟩; refine ⟨_, rfl, ?_⟩; refine E3 (bN ho0 (bZ HB.1)) (bB yL.1 hb) (bS HB.1 hb) ?_; clear yL HB; intro arH yL HB; (try clear hb); (try clear ho0)))
   go_ret2
   exact ⟨_, RF, pm (arH.1), BL HB.1⟩
 simp only [Option.some.injEq, Prod.mk.injEq] at H
 obtain ⟨rfl, rfl⟩ := H
 go_enter Try.func37, Try.ntmps37
 go_wp2_with (first | ((with_reducible refine aC (N := 2) rfl ?_); refine dN (cs := #[.int .i64 ah, .int .i64 af, .slice aK ae.length aJ]) (t := 30) ?_; intro arE hg qy hbox hb; refine mJ HB.1 hg hbox hb ?_; clear HB; intro HB yL arF arG; clear hb hbox hg; obtain ⟨vT, vU, xI, vV, vW, xJ⟩ := gB yL.1) | ((with_reducible refine aA (f := 57) rfl ?_); refine cK (N := (some 8)) #[.agg #[.int .i64 ah, .int .i64 af, .slice aK ae.length aJ], .slice A1 l1.length c1] Try.func57 ?_; (with_reducible refine (fH.calls k ah af _ _ ae _ _ l1 false _ ?side1 ?side2 ?side3 ?side4 A3.1).mono ?_); (case side1 => exact CB (aY bD.1 HB.1)); (case side2 => exact cO.1); (case side3 => exact CB (aY HR1.1 HB.1)); (case side4 => exact vD.1); rintro e yJ ⟨rfl, hb⟩; refine ⟨_, rfl, ?_⟩; refine E2 (bB yL.1 hb) (bS HB.1 hb) ?_; clear yL HB; intro yL HB; (try clear hb)))
 go_ret2
 exact ⟨_, RF, by first | exact tO _ _ _ _ _ | exact ET _ _ _ _ _ | exact EU _ _ _ _ _ | exact EW _ _ _ _ _ | exact EY _ _ _ _ _, BL HB.1⟩
def jM.f (k : Nat) (ah : Int) (af : Int) (ae : List (fq)) (l1 : List Int) : Option (List Int × Bool) := (dP.f k ah af ae).bind fun zP => (if zP = true then ((aN.f k ah af ae l1).bind fun arI => (if arI = true then ((bi.f k ah af ae l1).bind fun amv => (some (amv, true))) else (some (([] : List Int), false)))) else (some (([] : List Int), false)))
theorem jM.mono : ∀ a0 a1 a2 a3 k, dO (jM.f k a0 a1 a2 a3) (jM.f (k + 1) a0 a1 a2 a3) := by
 intro a0 a1 a2 a3 k
 unfold jM.f
 repeat' first
  | (with_reducible exact bi.mono _ _ _ _ _)
  | (with_reducible exact dP.mono _ _ _ _)
  | (with_reducible exact aN.mono _ _ _ _ _)
  | (with_reducible exact dO.refl _)
  | (with_reducible exact dO.none _)
  | (with_reducible refine dO.ite ?_ ?_)
  | (with_reducible refine dO.bind ?_ (fun _ => ?_))
  | exact bi.mono _ _ _ _ _
  | exact dP.mono _ _ _ _
  | exact aN.mono _ _ _ _ _
  | exact dO.none _
  | refine dO.ite ?_ ?_
  | refine dO.bind ?_ (fun _ => ?_)
theorem jM.calls (k : Nat) (ah : Int) (af : Int) (aK : Option Addr) (aJ : Nat) (ae : List (fq)) (A1 : Option Addr) (c1 : Nat) (l1 : List Int) (r1 : List Int) (r2 : Bool) (w : World) (dH : Kd.C jZ w aK ae.length ae) (dG : ae.length <= aJ) (hr1 : Kd.C (Kd.int .i64) w A1 l1.length l1) (hc1 : l1.length <= c1) (h : jM.f k ah af ae l1 = some (r1, r2)) :
 Calls Try.prog 38 #[.agg #[.int .i64 ah, .int .i64 af, .slice aK ae.length aJ], .slice A1 l1.length c1] w fun e w' => ∃ rO : Value, e = .returned (.tuple #[rO, .bool r2]) /\ Kd.R (Kd.int .i64) 3 w' w.heap.size (fun _ => True) rO r1 /\ Below w.heap.size w w' := by
 have nH := Try.underlying30
 have bD := aa.mk dH
 have cO := aa.mk dG
 clear dH dG
 have HR1 := aa.mk hr1
 have vD := aa.mk hc1
 clear hr1 hc1
 have HB := aa.mk (Below.refl w.heap.size w)
 have H := h
 clear h
 unfold jM.f at H
 replace H := dz H; obtain ⟨zP, A3, H⟩ := H
 replace H := Cm H; rcases H with ⟨rfl, H⟩ | ⟨rfl, H⟩
 · replace H := dz H; obtain ⟨arI, A5, H⟩ := H
   replace H := Cm H; rcases H with ⟨rfl, H⟩ | ⟨rfl, H⟩
   · replace H := dz H; obtain ⟨amv, A7, H⟩ := H
     simp only [Option.some.injEq, Prod.mk.injEq] at H
     obtain ⟨rfl, rfl⟩ := H
     go_enter Try.func38, Try.ntmps38
     go_wp2_with (first | ((with_reducible refine aC (N := 2) rfl ?_); refine dN (cs := #[.int .i64 ah, .int .i64 af, .slice aK ae.length aJ]) (t := 30) ?_; intro IE hg w8 hbox hb; refine mJ HB.1 hg hbox hb ?_; clear HB; intro HB dQ ZX ZY; clear hb hbox hg; obtain ⟨Ej, El, NS, Em, En, NT⟩ := gB dQ.1) | ((with_reducible refine aA (f := 46) rfl ?_); refine cK (N := (some 7)) #[.agg #[.int .i64 ah, .int .i64 af, .slice aK ae.length aJ]] Try.func46 ?_; (with_reducible refine (dP.calls k ah af _ _ ae true _ ?side1 ?side2 A3.1).mono ?_); (case side1 => exact CB (aY bD.1 HB.1)); (case side2 => exact cO.1); rintro e Hw ⟨rfl, hb⟩; refine ⟨_, rfl, ?_⟩; refine E2 (bB dQ.1 hb) (bS HB.1 hb) ?_; clear dQ HB; intro dQ HB; (try clear hb); obtain ⟨vX, vY, EZ, vZ, wh, Fa⟩ := gB dQ.1) | (go_at_call 60; (with_reducible refine (aN.calls k ah af _ _ ae _ _ l1 true _ ?side1 ?side2 ?side3 ?side4 A5.1).mono ?_); (case side1 => exact CB (aY bD.1 HB.1)); (case side2 => exact cO.1); (case side3 => exact CB (aY HR1.1 HB.1)); (case side4 => exact vD.1); rintro e yC ⟨rfl, hb⟩; refine E2 (bB dQ.1 hb) (bS HB.1 hb) ?_; clear dQ HB; intro dQ HB; (try clear hb); obtain ⟨uF, uG, Cn, uH, uI, Co⟩ := gB dQ.1) | ((with_reducible refine aA (f := 66) rfl ?_); refine cK (N := (some 17)) #[.agg #[.int .i64 ah, .int .i64 af, .slice aK ae.length aJ], .slice A1 l1.length c1] Try.func66 ?_; (with_reducible refine (bi.calls k ah af _ _ ae _ _ l1 amv _ ?side1 ?side2 ?side3 ?side4 A7.1).mono ?_); (case side1 => exact CB (aY bD.1 HB.1)); (case side2 => exact cO.1); (case side3 => exact CB (aY HR1.1 HB.1)); (case side4 => exact vD.1); rintro e yM ⟨aNx, rfl, ho0, hb⟩; refine ⟨_, rfl, ?_⟩; refine E3 (bN ho0 (bZ HB.1)) (bB dQ.1 hb) (bS HB.1 hb) ?_; clear dQ HB; intro arJ dQ HB; (try clear hb); (try clear ho0)))
     go_ret2
     exact ⟨_, RF, pm (arJ.1), BL HB.1⟩
   simp only [Option.some.injEq, Prod.mk.injEq] at H
   obtain ⟨rfl, rfl⟩ := H
   go_enter Try.func38, Try.ntmps38
   go_wp2_with (first | ((with_reducible refine aC (N := 2) rfl ?_); refine dN (cs := #[.int .i64 ah, .int .i64 af, .slice aK ae.length aJ]) (t := 30) ?_; intro IE hg NU hbox hb; refine mJ HB.1 hg hbox hb ?_; clear HB; intro HB dQ ZX ZY; clear hb hbox hg; obtain ⟨wm, wo, zQ, wu, ww, zR⟩ := gB dQ.1) | ((with_reducible refine aA (f := 46) rfl ?_); refine cK (N := (some 7)) #[.agg #[.int .i64 ah, .int .i64 af, .slice aK ae.length aJ]] Try.func46 ?_; (with_reducible refine (dP.calls k ah af _ _ ae true _ ?side1 ?side2 A3.1).mono ?_); (case side1 => exact CB (aY bD.1 HB.1)); (case side2 => exact cO.1); rintro e Vn ⟨rfl, hb⟩; refine ⟨_, rfl, ?_⟩; refine E2 (bB dQ.1 hb) (bS HB.1 hb) ?_; clear dQ HB; intro dQ HB; (try clear hb); obtain ⟨qN, qO, rV, qP, qQ, rW⟩ := gB dQ.1) | (go_at_call 60; (with_reducible refine (aN.calls k ah af _ _ ae _ _ l1 false _ ?side1 ?side2 ?side3 ?side4 A5.1).mono ?_); (case side1 => exact CB (aY bD.1 HB.1)); (case side2 => exact cO.1); (case side3 => exact CB (aY HR1.1 HB.1)); (case side4 => exact vD.1); rintro e w19 ⟨rfl, hb⟩; refine E2 (bB dQ.1 hb) (bS HB.1 hb) ?_; clear dQ HB; intro dQ HB; (try clear hb)))
   go_ret2
   exact ⟨_, RF, by first | exact tO _ _ _ _ _ | exact ET _ _ _ _ _ | exact EU _ _ _ _ _ | exact EW _ _ _ _ _ | exact EY _ _ _ _ _, BL HB.1⟩
 simp only [Option.some.injEq, Prod.mk.injEq] at H
 obtain ⟨rfl, rfl⟩ := H
 go_enter Try.func38, Try.ntmps38
 go_wp2_with (first | ((with_reducible refine aC (N := 2) rfl ?_); refine dN (cs := #[.int .i64 ah, .int .i64 af, .slice aK ae.length aJ]) (t := 30) ?_; intro IE hg ZJ hbox hb; refine mJ HB.1 hg hbox hb ?_; clear HB; intro HB dQ ZX ZY; clear hb hbox hg; obtain ⟨uJ, uK, xK, uL, uM, xL⟩ := gB dQ.1) | ((with_reducible refine aA (f := 46) rfl ?_); refine cK (N := (some 7)) #[.agg #[.int .i64 ah, .int .i64 af, .slice aK ae.length aJ]] Try.func46 ?_; (with_reducible refine (dP.calls k ah af _ _ ae false _ ?side1 ?side2 A3.1).mono ?_); (case side1 => exact CB (aY bD.1 HB.1)); (case side2 => exact cO.1); rintro e BM ⟨rfl, hb⟩; refine ⟨_, rfl, ?_⟩; refine E2 (bB dQ.1 hb) (bS HB.1 hb) ?_; clear dQ HB; intro dQ HB; (try clear hb)))
 go_ret2
 exact ⟨_, RF, by first | exact tO _ _ _ _ _ | exact ET _ _ _ _ _ | exact EU _ _ _ _ _ | exact EW _ _ _ _ _ | exact EY _ _ _ _ _, BL HB.1⟩
mutual
def aH.j0 : Nat -> List Int -> List Int -> Bool -> List Int -> List Int -> Bool -> Bool -> Int -> Int -> List (Ei) -> Int -> Int -> List (fq) -> Option (Bool)
 | 0, _, _, _, _, _, _, _, _, _, _, _, _, _ => none
 | k + 1, x1, x6, x7, x9, j6, qR, x51, Cq, Cr, Cs, Vo, Vp, Vq => if x51 = true then (some false) else ((eP.f k Cq Cr Cs).bind fun ZZ => ((iO.f k Vo Vp Vq ZZ.1 ZZ.2.1 ZZ.2.2).bind fun arK => (if arK = true then ((bX.f k x1).bind fun Mj => ((di.f k x9 Mj).bind fun arL => (if arL = true then ((jb.f k Vo Vp Vq 1).bind fun arM => ((dB.f k x9 arM.1).bind fun arN => (if arN.1 < 0 then (aH.j1 k x1 x6 x7 j6 true Cq Cr Cs) else ((di.f k j6 x6).bind fun arO => (if arO = true then (aH.j1 k x1 x6 x7 j6 (qR != x7) Cq Cr Cs) else (aH.j1 k x1 x6 x7 j6 true Cq Cr Cs)))))) else (some false)))) else (some false))))
def aH.j1 : Nat -> List Int -> List Int -> Bool -> List Int -> Bool -> Int -> Int -> List (Ei) -> Option (Bool)
 | 0, _, _, _, _, _, _, _, _ => none
 | k + 1, x1, x6, x7, j6, x80, Cq, Cr, Cs => if x80 = true then (some false) else ((dB.f k j6 1).bind fun MR => ((dC.f k MR.2 1).bind fun aen => (if aen < 0 then (some false) else (if aen = MR.1 then ((eP.f k Cq Cr Cs).bind fun Z0 => ((bX.f k x1).bind fun Z4 => ((jM.f k Z0.1 Z0.2.1 Z0.2.2 Z4).bind fun aig => ((di.f k aig.1 x6).bind fun arP => (if arP = true then (aH.j2 k MR.2 MR.1 (aig.2 != x7)) else (aH.j2 k MR.2 MR.1 true)))))) else (some false)))))
def aH.j2 : Nat -> List Int -> Int -> Bool -> Option (Bool)
 | 0, _, _, _ => none
 | k + 1, j6, wy, aDE => if aDE = true then (some false) else ((dC.f k j6 1).bind fun aeo => (if aeo < 0 then (some false) else (if aeo = wy then (some true) else (some false))))
end
def aH.f (k : Nat) (ah : Int) (af : Int) (ae : List (Ei)) (l1 : List Int) : Option (Bool) := if (l1.length : Int) > 1048576 then (some true) else ((kL.f ah af ae 1048576).bind fun aep => (if aep < 0 then (some true) else ((eP.f k ah af ae).bind fun Z5 => ((bX.f k l1).bind fun Z6 => ((kw.f k Z5.1 Z5.2.1 Z5.2.2 Z6).bind fun MS => ((eP.f k ah af ae).bind fun Fb => ((bX.f k l1).bind fun tK => ((jM.f k Fb.1 Fb.2.1 Fb.2.2 tK).bind fun MU => ((di.f k MU.1 MS.1).bind fun arQ => (if arQ = true then (aH.j0 k l1 MS.1 MS.2 tK MU.1 MU.2 (MU.2 != MS.2) ah af ae Fb.1 Fb.2.1 Fb.2.2) else (aH.j0 k l1 MS.1 MS.2 tK MU.1 MU.2 true ah af ae Fb.1 Fb.2.1 Fb.2.2)))))))))))
theorem aH.mono_l : ∀ k, (∀ y0 y1 y2 y3 y4 y5 y6 y7 y8 y9 IG MV Vr, dO (aH.j0 k y0 y1 y2 y3 y4 y5 y6 y7 y8 y9 IG MV Vr) (aH.j0 (k + 1) y0 y1 y2 y3 y4 y5 y6 y7 y8 y9 IG MV Vr)) /\ (∀ y0 y1 y2 y3 y4 y5 y6 y7, dO (aH.j1 k y0 y1 y2 y3 y4 y5 y6 y7) (aH.j1 (k + 1) y0 y1 y2 y3 y4 y5 y6 y7)) /\ (∀ y0 y1 y2, dO (aH.j2 k y0 y1 y2) (aH.j2 (k + 1) y0 y1 y2))
 | 0 => by refine ⟨?_, ?_, ?_⟩ <;> (intros; intro r h; first | (simp [aH.j0] at h; done) | (simp [aH.j1] at h; done) | (simp [aH.j2] at h; done))
 | k + 1 => by
  obtain ⟨ja, ih1, ih2⟩ := aH.mono_l k
  refine ⟨?_, ?_, ?_⟩ <;> (
   intros
   first | unfold aH.j0 | unfold aH.j1 | unfold aH.j2
   repeat' first | (with_reducible first | apply ja | apply ih1 | apply ih2 | apply jM.mono | apply iO.mono | apply di.mono | apply dC.mono | apply jb.mono | apply dB.mono | apply eP.mono | apply bX.mono | apply kw.mono | exact dO.refl _ | exact dO.none _ | refine dO.ite ?_ ?_ | refine dO.bind ?_ (fun _ => ?_)) | exact dO.none _ | refine dO.ite ?_ ?_ | refine dO.bind ?_ (fun _ => ?_))
theorem aH.mono : ∀ a0 a1 a2 a3 k, dO (aH.f k a0 a1 a2 a3) (aH.f (k + 1) a0 a1 a2 a3) := by
 intro a0 a1 a2 a3 k
 obtain ⟨ja, ih1, ih2⟩ := aH.mono_l k
 unfold aH.f
 repeat' first | (with_reducible first | apply ja | apply ih1 | apply ih2 | apply jM.mono | apply iO.mono | apply di.mono | apply dC.mono | apply jb.mono | apply dB.mono | apply eP.mono | apply bX.mono | apply kw.mono | exact dO.refl _ | exact dO.none _ | refine dO.ite ?_ ?_ | refine dO.bind ?_ (fun _ => ?_)) | exact dO.none _ | refine dO.ite ?_ ?_ | refine dO.bind ?_ (fun _ => ?_)
theorem aH.calls (k : Nat) (ah : Int) (af : Int) (aK : Option Addr) (aJ : Nat) (ae : List (Ei)) (A1 : Option Addr) (c1 : Nat) (l1 : List Int) (w : World) (dH : Kd.C Vi w aK ae.length ae) (dG : ae.length <= aJ) (hr1 : Kd.C (Kd.int .i64) w A1 l1.length l1) (hc1 : l1.length <= c1) (h : aH.f k ah af ae l1 = some true) :
 Calls Try.prog 11 #[.agg #[.int .i64 ah, .int .i64 af, .slice aK ae.length aJ], .slice A1 l1.length c1] w fun e w' => e = .returned (.bool true) /\ Below w.heap.size w w' := by
 have amx := Try.underlying24
 have nH := Try.underlying30
 have bD := aa.mk dH
 have cO := aa.mk dG
 clear dH dG
 have HR1 := aa.mk hr1
 have vD := aa.mk hc1
 clear hr1 hc1
 have HB := aa.mk (Below.refl w.heap.size w)
 have H := h
 clear h
 unfold aH.f at H
 replace H := oP H; rcases H with ⟨c3, H⟩ | ⟨c3, H⟩
 · have c3b0 : decide (1048576 < (l1.length : Int)) = true := decide_eq_true c3
   have c3b1 : decide (1048576 < l1.length) = true := decide_eq_true (by omega)
   clear c3
   first | (obtain rfl := Option.some.inj H) | clear H
   go_enter Try.func11, Try.ntmps11
   go_wp2_with (first | ((with_reducible refine aC (N := 2) rfl ?_); refine dN (cs := #[.int .i64 ah, .int .i64 af, .slice aK ae.length aJ]) (t := 24) ?_; intro Fe hg w4 hbox hb; refine mJ HB.1 hg hbox hb ?_; clear HB; intro HB fu aih aii; clear hb hbox hg))
   go_ret
   exact ⟨RF, BL HB.1⟩
 have c3b0 : decide (1048576 < (l1.length : Int)) = false := decide_eq_false c3
 have c3b1 : decide (1048576 < l1.length) = false := decide_eq_false (by omega)
 clear c3
 replace H := dz H; obtain ⟨aep, A5, H⟩ := H
 replace H := pu H; rcases H with ⟨c6b0, H⟩ | ⟨c6b0, H⟩
 · first | (obtain rfl := Option.some.inj H) | clear H
   go_enter Try.func11, Try.ntmps11
   go_wp2_with (first | ((with_reducible refine aC (N := 2) rfl ?_); refine dN (cs := #[.int .i64 ah, .int .i64 af, .slice aK ae.length aJ]) (t := 24) ?_; intro Fe hg w7 hbox hb; refine mJ HB.1 hg hbox hb ?_; clear HB; intro HB fu aih aii; clear hb hbox hg; obtain ⟨lZ, l5, mR, l6, l7, mU⟩ := gB fu.1) | ((with_reducible refine aA (f := 13) rfl ?_); refine cK (N := (some 22)) #[.agg #[.int .i64 ah, .int .i64 af, .slice aK ae.length aJ], .int .i64 1048576] Try.func13 ?_; (with_reducible refine (kL.calls ah af _ _ ae 1048576 aep _ ?side1 ?side2 A5.1).mono ?_); (case side1 => exact CB (aY bD.1 HB.1)); (case side2 => exact cO.1); rintro e w9 ⟨rfl, hb⟩; refine ⟨_, rfl, ?_⟩; refine E2 (bB fu.1 hb) (bS HB.1 hb) ?_; clear fu HB; intro fu HB; (try clear hb)))
   go_ret
   exact ⟨RF, BL HB.1⟩
 replace H := dz H; obtain ⟨⟨amy, amz, Eo⟩, A10, H⟩ := H
 dsimp only at H
 replace H := dz H; obtain ⟨Z6, A11, H⟩ := H
 replace H := dz H; obtain ⟨⟨xD, X0⟩, A12, H⟩ := H
 dsimp only at H
 replace H := dz H; obtain ⟨⟨Hy, rX, zS⟩, A13, H⟩ := H
 dsimp only at H
 replace H := dz H; obtain ⟨tK, A14, H⟩ := H
 replace H := dz H; obtain ⟨⟨DJ, aeq⟩, A15, H⟩ := H
 dsimp only at H
 have Ku := aa.mk H
 clear H
 go_enter Try.func11, Try.ntmps11
 go_upto_region 11 with (first | ((with_reducible refine aC (N := 2) rfl ?_); refine dN (cs := #[.int .i64 ah, .int .i64 af, .slice aK ae.length aJ]) (t := 24) ?_; intro Fe hg Vn hbox hb; refine mJ HB.1 hg hbox hb ?_; clear HB; intro HB fu aih aii; clear hb hbox hg; obtain ⟨qN, qO, rV, qP, qQ, rW⟩ := gB fu.1) | ((with_reducible refine aA (f := 13) rfl ?_); refine cK (N := (some 22)) #[.agg #[.int .i64 ah, .int .i64 af, .slice aK ae.length aJ], .int .i64 1048576] Try.func13 ?_; (with_reducible refine (kL.calls ah af _ _ ae 1048576 aep _ ?side1 ?side2 A5.1).mono ?_); (case side1 => exact CB (aY bD.1 HB.1)); (case side2 => exact cO.1); rintro e w19 ⟨rfl, hb⟩; refine ⟨_, rfl, ?_⟩; refine E2 (bB fu.1 hb) (bS HB.1 hb) ?_; clear fu HB; intro fu HB; (try clear hb); obtain ⟨wz, wB, zT, wC, wD, zU⟩ := gB fu.1) | ((with_reducible refine aA (f := 15) rfl ?_); refine cK (N := (some 27)) #[.agg #[.int .i64 ah, .int .i64 af, .slice aK ae.length aJ]] Try.func15 ?_; (with_reducible refine (eP.calls k ah af _ _ ae amy amz Eo _ ?side1 ?side2 A10.1).mono ?_); (case side1 => exact CB (aY bD.1 HB.1)); (case side2 => exact cO.1); rintro e Qo ⟨aDI, rfl, ho0, hb⟩; refine ⟨_, rfl, ?_⟩; refine E3 (bN ho0 (bZ HB.1)) (bB fu.1 hb) (bS HB.1 hb) ?_; clear fu HB; intro oD fu HB; (try clear hb); (try clear ho0)) | ((with_reducible refine aA (f := 31) rfl ?_); refine cK (N := (some 29)) #[.slice A1 l1.length c1] Try.func31 ?_; (with_reducible refine (bX.calls k _ _ l1 Z6 _ ?side1 ?side2 A11.1).mono ?_); (case side1 => exact CB (aY HR1.1 HB.1)); (case side2 => exact vD.1); rintro e BM ⟨aNA, rfl, ho0, hb⟩; refine ⟨_, rfl, ?_⟩; refine E4 (rB oD.1 hb) (bN ho0 (bZ HB.1)) (bB fu.1 hb) (bS HB.1 hb) ?_; clear oD fu HB; intro oD qz fu HB; (try clear hb); (try clear ho0); obtain ⟨yN, yO, NV⟩ := bv oD.1; subst NV; obtain ⟨amA, amB, amC⟩ := bv qz.1; subst amC) | ((with_reducible refine aA (f := 37) rfl ?_); refine cK (N := (some 30)) #[.agg #[.int .i64 amy, .int .i64 amz, .slice yN Eo.length yO], .slice amA Z6.length amB] Try.func37 ?_; (with_reducible refine (kw.calls k amy amz _ _ Eo _ _ Z6 xD X0 _ ?side1 ?side2 ?side3 ?side4 A12.1).mono ?_); (case side1 => exact CB (ay oD.1).2.2); (case side2 => exact (ay oD.1).2.1); (case side3 => exact CB (ay qz.1).2.2); (case side4 => exact (ay qz.1).2.1); rintro e Mk ⟨Ml, rfl, ho0, hb⟩; refine ⟨_, rfl, ?_⟩; refine E5 (rB oD.1 hb) (eT (PR qz.1) (fe ho0) hb) (bN (iI ho0 (iL (PR qz.1))) (bZ HB.1)) (bB fu.1 hb) (bS HB.1 hb) ?_; clear oD qz fu HB; intro oD qz tQ fu HB; (try clear hb); (try clear ho0); obtain ⟨xM, xN, Ff, xO, xP, Fg⟩ := gB fu.1) | ((with_reducible refine aA (f := 15) rfl ?_); refine cK (N := (some 34)) #[.agg #[.int .i64 ah, .int .i64 af, .slice aK ae.length aJ]] Try.func15 ?_; (with_reducible refine (eP.calls k ah af _ _ ae Hy rX zS _ ?side1 ?side2 A13.1).mono ?_); (case side1 => exact CB (aY bD.1 HB.1)); (case side2 => exact cO.1); rintro e w27 ⟨aNB, rfl, ho0, hb⟩; refine ⟨_, rfl, ?_⟩; refine E6 (eT (PR oD.1) (fe ho0) hb) (rB qz.1 hb) (rB tQ.1 hb) (bN (iI ho0 (iL (PR oD.1))) (bZ HB.1)) (bB fu.1 hb) (bS HB.1 hb) ?_; clear oD qz tQ fu HB; intro oD qz tQ yP fu HB; (try clear hb); (try clear ho0)) | ((with_reducible refine aC (N := 8) rfl ?_); refine dN (cs := #[.int .i64 0, .int .i64 0, .slice none 0 0]) (t := 30) ?_; intro oF hg w28 hbox hb; refine E11 (rB oD.1 hb) (rB qz.1 hb) (rB tQ.1 hb) (rB yP.1 hb) (bB fu.1 hb) (bS HB.1 hb) (hbox) (gX HB.1 hg) (gX HB.1 hg) (nB fu.1 hg) (nC fu.1 hg) ?_; clear oD qz tQ yP fu HB; intro oD qz tQ yP fu HB ib aIK aIL Ct Hz; clear hb hbox hg; have arV := Hz.1; have arW := Ct.1; obtain ⟨zV, zW, Fh, zX, zY, Fj⟩ := gB ib.1; obtain ⟨pq, mg, Mm⟩ := bv yP.1; subst Mm) | ((with_reducible refine aA (f := 31) rfl ?_); refine cK (N := (some 36)) #[.slice A1 l1.length c1] Try.func31 ?_; (with_reducible refine (bX.calls k _ _ l1 tK _ ?side1 ?side2 A14.1).mono ?_); (case side1 => exact aY HR1.1 (BL HB.1)); (case side2 => exact vD.1); rintro e w32 ⟨aNC, rfl, ho0, hb⟩; refine ⟨_, rfl, ?_⟩; refine E8 (jf (by (with_reducible repeat (first | apply aV | apply aW | apply aQ)); exact (aG (RQ oF 2 (RQ oF 1 (RQ oF 0 (bz oD.1 ib.1 (by decide)) _) _) _) (fun _ h_ => h_.1))) hb) (eT (by (with_reducible repeat (first | apply aV | apply aW | apply aQ)); exact (aG (RQ oF 2 (RQ oF 1 (RQ oF 0 (bz qz.1 ib.1 (by decide)) _) _) _) (fun _ h_ => h_.1))) (fe ho0) hb) (eT (by (with_reducible repeat (first | apply aV | apply aW | apply aQ)); exact (aG (RQ oF 2 (RQ oF 1 (RQ oF 0 (bz tQ.1 ib.1 (by decide)) _) _) _) (fun _ h_ => h_.1))) (fe ho0) hb) (jf (by (with_reducible repeat (first | apply aV | apply aW | apply aQ)); exact (aG (RQ oF 2 (RQ oF 1 (RQ oF 0 (bz yP.1 ib.1 (by decide)) _) _) _) (fun _ h_ => h_.1))) hb) (bN (iI (iI ho0 (iL (by (with_reducible repeat (first | apply aV | apply aW | apply aQ)); exact (aG (RQ oF 2 (RQ oF 1 (RQ oF 0 (bz qz.1 ib.1 (by decide)) _) _) _) (fun _ h_ => h_.1))))) (iL (by (with_reducible repeat (first | apply aV | apply aW | apply aQ)); exact (aG (RQ oF 2 (RQ oF 1 (RQ oF 0 (bz tQ.1 ib.1 (by decide)) _) _) _) (fun _ h_ => h_.1))))) (bZ HB.1)) (dh (g := Fe) (o := .cells #[.int .i64 ah, .int .i64 af, .slice aK ae.length aJ] 24 (0, 0)) (xB Ct.1 fu.1) hb) (dh (g := oF) (o := .cells #[.int .i64 Hy, .int .i64 rX, .slice pq zS.length mg] 30 (0, 0)) (BB ib.1) hb) (bS HB.1 hb) ?_; clear oD qz tQ yP fu ib HB; intro oD qz tQ yP II fu ib HB; (try clear hb); (try clear ho0); obtain ⟨Cu, Cv, Fp, Cw, Cx, Fq⟩ := gB ib.1; obtain ⟨qA, qw, Z7⟩ := bv II.1; subst Z7) | ((with_reducible refine aA (f := 38) rfl ?_); refine cK (N := (some 40)) #[.agg #[.int .i64 Hy, .int .i64 rX, .slice pq zS.length mg], .slice qA tK.length qw] Try.func38 ?_; (with_reducible refine (jM.calls k Hy rX _ _ zS _ _ tK DJ aeq _ ?side1 ?side2 ?side3 ?side4 A15.1).mono ?_); (case side1 => exact CB (ay yP.1).2.2); (case side2 => exact (ay yP.1).2.1); (case side3 => exact CB (ay II.1).2.2); (case side4 => exact (ay II.1).2.1); rintro e Qi ⟨Mo, rfl, ho0, hb⟩; refine ⟨_, rfl, ?_⟩; refine E9 (rB oD.1 hb) (eT (PR qz.1) (fe ho0) hb) (eT (PR tQ.1) (fe ho0) hb) (rB yP.1 hb) (eT (PR II.1) (fe ho0) hb) (bN (iI (iI (iI ho0 (iL (PR qz.1))) (iL (PR tQ.1))) (iL (PR II.1))) (bZ HB.1)) (bB fu.1 hb) (bB ib.1 hb) (bS HB.1 hb) ?_; clear oD qz tQ yP II fu ib HB; intro oD qz tQ yP II Vs fu ib HB; (try clear hb); (try clear ho0)))
 (try simp only [Act.put, List.setIfInBounds_toArray, List.set_cons_zero, List.set_cons_succ])
 go_cut [51] (fun v51 wc => ∃ (kq : Nat) (SV : Bool), v51 = .bool SV /\ aa (aH.j0 kq l1 xD X0 tK DJ aeq SV ah af ae Hy rX zS = some true) /\ aa (kq <= k) /\ aa (Kd.R (Kd.int .i64) 3 wc w.heap.size (fun k_ => some k_ ≠ ((.slice qA tK.length qw) : Value).ownBlock /\ some k_ ≠ (Mo : Value).ownBlock) Ml xD) /\ aa (Kd.R (Kd.int .i64) 3 wc w.heap.size (fun k_ => some k_ ≠ (Ml : Value).ownBlock /\ some k_ ≠ (Mo : Value).ownBlock) (.slice qA tK.length qw) tK) /\ aa (Kd.R (Kd.int .i64) 3 wc w.heap.size (fun k_ => some k_ ≠ (Ml : Value).ownBlock /\ some k_ ≠ ((.slice qA tK.length qw) : Value).ownBlock) Mo DJ) /\ aa (Kd.R jZ 83 wc w.heap.size (fun _ => True) (.slice pq zS.length mg) zS) /\ aa (wc.heap[Fe]? = some (.cells #[.int .i64 ah, .int .i64 af, (.slice aK ae.length aJ)] 24 (0, 0))) /\ aa (wc.heap[oF]? = some (.cells #[.int .i64 Hy, .int .i64 rX, (.slice pq zS.length mg)] 30 (0, 0))) /\ aa (Below w.heap.size w wc))
 case first =>
  have H := Ku.1
  clear Ku
  replace H := dz H; obtain ⟨arQ, A36, H⟩ := H
  replace H := ifT H (by cases k <;> simp [aH.j0]); obtain ⟨rfl, H⟩ := H
  have H' := aa.mk H
  clear H
  obtain ⟨X3, X4, aer⟩ := bv Vs.1
  subst aer
  obtain ⟨arX, aes, amE⟩ := bv tQ.1
  subst amE
  go_wp2_with (first | ((with_reducible refine aA (f := 26) rfl ?_); refine cK (N := (some 45)) #[.slice X3 DJ.length X4, .slice arX xD.length aes] Try.func26 ?_; (with_reducible refine (di.calls k _ _ DJ _ _ xD true _ ?side1 ?side2 ?side3 ?side4 A36.1).mono ?_); (case side1 => exact CB (ay Vs.1).2.2); (case side2 => exact (ay Vs.1).2.1); (case side3 => exact CB (ay tQ.1).2.2); (case side4 => exact (ay tQ.1).2.1); rintro e w' ⟨rfl, ⟨nd, rfl⟩⟩; refine ⟨_, rfl, ?_⟩))
  go_meet
  case rel => exact ⟨_, ((aeq != X0)), RG, H', ⟨by first | omega | exact Nat.le_refl _⟩, ⟨pm (aG tQ.1 (fun _ hk => ⟨hk.1.2, hk.2⟩))⟩, ⟨pm (aG II.1 (fun _ hk => ⟨hk.1.2, hk.2⟩))⟩, ⟨pm (aG Vs.1 (fun _ hk => ⟨hk.1.2, hk.2⟩))⟩, ⟨pm (aG yP.1 (fun _ hk => trivial))⟩, ⟨PB fu.1⟩, ⟨PB ib.1⟩, ⟨BL HB.1⟩⟩
 clear Ku
 try clear c1; clear c3b0 c3b1 c6b0 qN qO rV wz wB zT xM xN Ff zV zW Fh Cu Cv Fp qP qQ rW wC wD zU xO xP Fg zX zY Fj Cw Cx Fq
 obtain ⟨kq, SV, rfl, HA, Qp, HO_6, HO_9, HO_10, HO_718002, fu, ib, HB⟩ := hcut
 cases kq with
 | zero => exact absurd HA.1 (by simp [aH.j0])
 | succ yD => ?_
 have H := HA.1
 clear HA
 simp only [aH.j0] at H
 replace H := ifF H (by simp); obtain ⟨rfl, H⟩ := H
 replace H := dz H; obtain ⟨⟨amF, amG, aet⟩, A43, H⟩ := H
 dsimp only at H
 replace H := dz H; obtain ⟨arK, A44, H⟩ := H
 replace H := ifT H (by simp); obtain ⟨rfl, H⟩ := H
 replace H := dz H; obtain ⟨Mj, A46, H⟩ := H
 replace H := dz H; obtain ⟨arL, A47, H⟩ := H
 replace H := ifT H (by simp); obtain ⟨rfl, H⟩ := H
 replace H := dz H; obtain ⟨⟨amH, Z8⟩, A49, H⟩ := H
 dsimp only at H
 replace H := dz H; obtain ⟨⟨aDK, aDL⟩, A50, H⟩ := H
 dsimp only at H
 have amI := aa.mk H
 clear H
 try go_wp2
 refine E7 (aQ HO_6.1) (aQ HO_9.1) (aQ HO_10.1) (aQ HO_718002.1) (ag fu.1) (ag ib.1) (dm HB.1) ?_
 clear HO_6 HO_9 HO_10 HO_718002 fu ib HB
 intro HO_6 HO_9 HO_10 HO_718002 fu ib HB
 refine jN (n := 5) (S := fun w' => w'.cell? ⟨oF, 0, none⟩ = some (.int .i64 Hy) /\ w'.cell? ⟨oF, 1, none⟩ = some (.int .i64 rX) /\ w'.cell? ⟨oF, 2, none⟩ = some (.slice pq zS.length mg) /\ w'.cell? ⟨Fe, 0, none⟩ = some (.int .i64 ah) /\ w'.cell? ⟨Fe, 1, none⟩ = some (.int .i64 af) /\ w'.cell? ⟨Fe, 2, none⟩ = some (.slice aK ae.length aJ)) (ds := []) #[Zz,Zz,Zz,Zz,Zz] (by kernel_rfl) rfl rfl ⟨(ai ib.1 0).trans rfl, (ai ib.1 1).trans rfl, (ai ib.1 2).trans rfl, (ai fu.1 0).trans rfl, (ai fu.1 1).trans rfl, (ai fu.1 2).trans rfl⟩ (fun hHeld => ?_)
 generalize wc.drew = w52 at HO_6 HO_9 HO_10 HO_718002 fu ib HB hHeld ⊢
 refine xQ 0 (N := some 52) hHeld ?_
 refine xQ 1 (N := some 53) hHeld ?_
 refine mV (i := 2) (N := some 54) #[Yy,Yy,Yy,Zz,Zz] rfl rfl (by kernel_rfl) (by decide) (fun K hK => ?_)
 refine nA Try.func15 (by kernel_rfl) rfl #[.agg #[.int .i64 ah, .int .i64 af, .slice aK ae.length aJ]] (by rfl) rfl rfl (by (try simp only [List.map_toArray, List.map_cons, List.map_nil]); first | done | rfl | (simp only [List.length_drop, List.length_take]; rfl)) ?_
 with_reducible refine (eP.calls yD ah af _ _ ae amF amG aet _ ?side1 ?side2 A43.1).mono ?_
 (case side1 => exact CB (aY bD.1 HB.1))
 (case side2 => exact cO.1)
 rintro e w53 ⟨aNI, rfl, ho0, hb⟩
 refine ⟨_, rfl, ?_⟩
 refine E8 (rB HO_6.1 hb) (rB HO_9.1 hb) (rB HO_10.1 hb) (eT (PR HO_718002.1) (fe ho0) hb) (bN (iI ho0 (iL (PR HO_718002.1))) (bZ HB.1)) (bB fu.1 hb) (bB ib.1 hb) (bS HB.1 hb) ?_
 clear HO_6 HO_9 HO_10 HO_718002 fu ib HB
 intro HO_6 HO_9 HO_10 HO_718002 wW fu ib HB
 (try clear hb)
 (try clear hb2)
 (try clear hk)
 (try clear hi)
 (try clear ho0)
 obtain ⟨arZ, ar0, ar1⟩ := bv wW.1
 (first | subst ar1 | (injection ar1 with rY zZ rZ; have z8 := rY.symm; have Aa := rZ.symm; clear rY zZ rZ; subst z8; subst Aa))
 refine hK.out _ _ ⟨(ai ib.1 0).trans rfl, (ai ib.1 1).trans rfl, (ai ib.1 2).trans rfl, (ai fu.1 0).trans rfl, (ai fu.1 1).trans rfl, (ai fu.1 2).trans rfl⟩ (fun hHeld => ?_)
 clear hK K
 refine eX (a' := ?_) ?_ ?_
 rotate_left
 · show Act.put _ (some 54) _ = _
   simp only [Act.put, List.setIfInBounds_toArray, List.set_cons_zero, List.set_cons_succ, cz, dF]
   rfl
 refine mV (i := 3) (N := some 55) #[Yy,Yy,Yy,Yy,Zz] rfl rfl (by kernel_rfl) (by decide) (fun K hK => ?_)
 refine nA Try.func17 (by kernel_rfl) rfl #[.agg #[.int .i64 Hy, .int .i64 rX, .slice pq zS.length mg], .agg #[.int .i64 amF, .int .i64 amG, .slice arZ aet.length ar0]] (by rfl) rfl rfl (by (try simp only [List.map_toArray, List.map_cons, List.map_nil]); first | done | rfl | (simp only [List.length_drop, List.length_take]; rfl)) ?_
 with_reducible refine (iO.calls yD Hy rX _ _ zS amF amG _ _ aet true _ ?side1 ?side2 ?side3 ?side4 A44.1).mono ?_
 (case side1 => exact CB (ay HO_718002.1).2.2)
 (case side2 => exact (ay HO_718002.1).2.1)
 (case side3 => exact CB (ay wW.1).2.2)
 (case side4 => exact (ay wW.1).2.1)
 rintro e w55 ⟨rfl, hb⟩
 refine ⟨_, rfl, ?_⟩
 refine E8 (rB HO_6.1 hb) (rB HO_9.1 hb) (rB HO_10.1 hb) (rB HO_718002.1 hb) (rB wW.1 hb) (bB fu.1 hb) (bB ib.1 hb) (bS HB.1 hb) ?_
 clear HO_6 HO_9 HO_10 HO_718002 wW fu ib HB
 intro HO_6 HO_9 HO_10 HO_718002 wW fu ib HB
 (try clear hb)
 (try clear hb2)
 (try clear hk)
 (try clear hi)
 refine hK.out _ _ ⟨(ai ib.1 0).trans rfl, (ai ib.1 1).trans rfl, (ai ib.1 2).trans rfl, (ai fu.1 0).trans rfl, (ai fu.1 1).trans rfl, (ai fu.1 2).trans rfl⟩ (fun hHeld => ?_)
 clear hK K
 refine eX (a' := ?_) ?_ ?_
 rotate_left
 · show Act.put _ (some 55) _ = _
   simp only [Act.put, List.setIfInBounds_toArray, List.set_cons_zero, List.set_cons_succ, cz, dF]
   rfl
 refine ll (i := 4) (N := some 56) (v := ?_) (a' := ?_) #[Yy,Yy,Yy,Yy,Yy] rfl rfl (by kernel_rfl) (fun _ _ _ h => h) (Or.inl ⟨by rfl, ?_⟩) ?_ ?_
 rotate_left
 · intro w'
   go_simp
   with_reducible rfl
 rotate_left
 · simp only [Act.put, List.setIfInBounds_toArray, List.set_cons_zero, List.set_cons_succ, cz, dF]
   rfl
 refine lI (by kernel_rfl) ?_
 go_upto_region 20 with (first | ((with_reducible refine aA (f := 31) rfl ?_); refine cK (N := (some 59)) #[.slice A1 l1.length c1] Try.func31 ?_; (with_reducible refine (bX.calls yD _ _ l1 Mj _ ?side1 ?side2 A46.1).mono ?_); (case side1 => exact CB (aY HR1.1 HB.1)); (case side2 => exact vD.1); rintro e w56 ⟨aNJ, rfl, ho0, hb⟩; refine ⟨_, rfl, ?_⟩; refine E9 (eT (PR HO_6.1) (fe ho0) hb) (eT (PR HO_9.1) (fe ho0) hb) (eT (PR HO_10.1) (fe ho0) hb) (rB HO_718002.1 hb) (rB wW.1 hb) (bN (iI (iI (iI ho0 (iL (PR HO_6.1))) (iL (PR HO_9.1))) (iL (PR HO_10.1))) (bZ HB.1)) (bB fu.1 hb) (bB ib.1 hb) (bS HB.1 hb) ?_; clear HO_6 HO_9 HO_10 HO_718002 wW fu ib HB; intro HO_6 HO_9 HO_10 HO_718002 wW Fs fu ib HB; (try clear hb); (try clear ho0); obtain ⟨SX, Mq, amJ⟩ := bv Fs.1; subst amJ) | ((with_reducible refine aA (f := 26) rfl ?_); refine cK (N := (some 60)) #[.slice qA tK.length qw, .slice SX Mj.length Mq] Try.func26 ?_; (with_reducible refine (di.calls yD _ _ tK _ _ Mj true _ ?side1 ?side2 ?side3 ?side4 A47.1).mono ?_); (case side1 => exact CB (ay HO_9.1).2.2); (case side2 => exact (ay HO_9.1).2.1); (case side3 => exact CB (ay Fs.1).2.2); (case side4 => exact (ay Fs.1).2.1); rintro e w' ⟨rfl, ⟨nd, rfl⟩⟩; refine ⟨_, rfl, ?_⟩; have ar2 := Hz.1; have ar3 := Ct.1; obtain ⟨NW, NY, NZ, N7, N8, N9⟩ := gB ib.1) | ((with_reducible refine aA (f := 27) rfl ?_); refine cK (N := (some 64)) #[.agg #[.int .i64 Hy, .int .i64 rX, .slice pq zS.length mg], .int .i64 1] Try.func27 ?_; (with_reducible refine (jb.calls yD Hy rX (fun k_ => some k_ = (.slice pq zS.length mg : Value).ownBlock) (.slice pq zS.length mg) zS 1 amH Z8 w _ ?side1 ?side2 A49.1).mono ?_); (case side1 => exact BL HB.1); (case side2 => exact jR rfl HO_718002.1); rintro e w60 ⟨rfl, hy0, hb, hkp⟩; refine ⟨_, rfl, ?_⟩; refine E9 (aG (ok' := fun k_ => some k_ ≠ (.slice qA tK.length qw : Value).ownBlock /\ some k_ ≠ (Mo : Value).ownBlock /\ some k_ ≠ (.slice SX Mj.length Mq : Value).ownBlock) (jV ((eH HO_6.1 (dY HO_718002.1) (by decide))) hkp (fun k_ hk_ hs_ => (hk_.2) hs_)) (fun k_ hk_ => ⟨hk_.1.1.1.1, hk_.1.1.1.2, hk_.1.1.2⟩)) (aG (ok' := fun k_ => some k_ ≠ (Ml : Value).ownBlock /\ some k_ ≠ (Mo : Value).ownBlock /\ some k_ ≠ (.slice SX Mj.length Mq : Value).ownBlock) (jV ((eH HO_9.1 (dY HO_718002.1) (by decide))) hkp (fun k_ hk_ hs_ => (hk_.2) hs_)) (fun k_ hk_ => ⟨hk_.1.1.1.1, hk_.1.1.1.2, hk_.1.1.2⟩)) (aG (ok' := fun k_ => some k_ ≠ (Ml : Value).ownBlock /\ some k_ ≠ (.slice qA tK.length qw : Value).ownBlock /\ some k_ ≠ (.slice SX Mj.length Mq : Value).ownBlock) (jV ((eH HO_10.1 (dY HO_718002.1) (by decide))) hkp (fun k_ hk_ hs_ => (hk_.2) hs_)) (fun k_ hk_ => ⟨hk_.1.1.1.1, hk_.1.1.1.2, hk_.1.1.2⟩)) (qp rfl hy0 (fun k_ e_ => HO_718002.1.1 k_ e_)) (eQ (PB fu.1) hkp (fun hs_ => (fun e_ => (dK HO_718002.1 fu.1 (by decide)) e_) hs_)) (eQ (PB ib.1) hkp (fun hs_ => (fun e_ => (dK HO_718002.1 ib.1 (by decide)) e_) hs_)) (aG (ok' := fun k_ => some k_ ≠ (.slice pq zS.length mg : Value).ownBlock) (jV (wW.1) hkp (fun k_ hk_ hs_ => (hk_.2) hs_)) (fun k_ hk_ => hk_.1.2)) (aG (ok' := fun k_ => some k_ ≠ (Ml : Value).ownBlock /\ some k_ ≠ (.slice qA tK.length qw : Value).ownBlock /\ some k_ ≠ (Mo : Value).ownBlock) (jV ((eH Fs.1 (dY HO_718002.1) (by decide))) hkp (fun k_ hk_ hs_ => (hk_.2) hs_)) (fun k_ hk_ => ⟨hk_.1.1.1.1.2, hk_.1.1.1.2, hk_.1.1.2⟩)) (hb) ?_; clear HO_6 HO_9 HO_10 HO_718002 fu ib wW Fs HB; intro HO_6 HO_9 HO_10 HO_718002 fu ib wW Fs HB; (try clear hb); (try clear hkp); (try clear hy0)) | ((with_reducible refine aA (f := 28) rfl ?_); refine cK (N := (some 67)) #[.slice qA tK.length qw, .int .i64 amH] Try.func28 ?_; (with_reducible refine (dB.calls yD (fun k_ => some k_ = (.slice qA tK.length qw : Value).ownBlock) (.slice qA tK.length qw) tK amH aDK aDL w _ ?side1 ?side2 A50.1).mono ?_); (case side1 => exact BL HB.1); (case side2 => exact jR rfl HO_9.1); rintro e w61 ⟨rfl, hy0, hb, hkp⟩; refine ⟨_, rfl, ?_⟩; refine E9 (aG (ok' := fun k_ => some k_ ≠ (.slice qA tK.length qw : Value).ownBlock /\ some k_ ≠ (Mo : Value).ownBlock /\ some k_ ≠ (.slice SX Mj.length Mq : Value).ownBlock) (jV (HO_6.1) hkp (fun k_ hk_ hs_ => (hk_.1) hs_)) (fun k_ hk_ => ⟨hk_.1.1, hk_.1.2.1, hk_.1.2.2⟩)) (qp rfl hy0 (fun k_ e_ => HO_9.1.1 k_ e_)) (aG (ok' := fun k_ => some k_ ≠ (Ml : Value).ownBlock /\ some k_ ≠ (.slice qA tK.length qw : Value).ownBlock /\ some k_ ≠ (.slice SX Mj.length Mq : Value).ownBlock) (jV (HO_10.1) hkp (fun k_ hk_ hs_ => (hk_.2.1) hs_)) (fun k_ hk_ => ⟨hk_.1.1, hk_.1.2.1, hk_.1.2.2⟩)) (aG (ok' := fun k_ => some k_ ≠ (.slice arZ aet.length ar0 : Value).ownBlock) (jV ((eH HO_718002.1 (dY HO_9.1) (by decide))) hkp (fun k_ hk_ hs_ => (hk_.2) hs_)) (fun k_ hk_ => hk_.1.1.2)) (eQ (PB fu.1) hkp (fun hs_ => (fun e_ => (dK HO_9.1 fu.1 (by decide)) e_) hs_)) (eQ (PB ib.1) hkp (fun hs_ => (fun e_ => (dK HO_9.1 ib.1 (by decide)) e_) hs_)) (aG (ok' := fun k_ => some k_ ≠ (.slice pq zS.length mg : Value).ownBlock) (jV ((eH wW.1 (dY HO_9.1) (by decide))) hkp (fun k_ hk_ hs_ => (hk_.2) hs_)) (fun k_ hk_ => hk_.1.1)) (aG (ok' := fun k_ => some k_ ≠ (Ml : Value).ownBlock /\ some k_ ≠ (.slice qA tK.length qw : Value).ownBlock /\ some k_ ≠ (Mo : Value).ownBlock) (jV (Fs.1) hkp (fun k_ hk_ hs_ => (hk_.2.1) hs_)) (fun k_ hk_ => ⟨hk_.1.1, hk_.1.2.1, hk_.1.2.2⟩)) (hb) ?_; clear HO_6 HO_9 HO_10 HO_718002 fu ib wW Fs HB; intro HO_6 HO_9 HO_10 HO_718002 fu ib wW Fs HB; (try clear hb); (try clear hkp); (try clear hy0)))
 (try simp only [Act.put, List.setIfInBounds_toArray, List.set_cons_zero, List.set_cons_succ])
 go_cut [80] (fun v80 wc => ∃ (kq : Nat) (SY : Bool), v80 = .bool SY /\ aa (aH.j1 kq l1 xD X0 DJ SY ah af ae = some true) /\ aa (kq <= yD) /\ aa (Kd.R (Kd.int .i64) 3 wc w.heap.size (fun k_ => some k_ ≠ (Mo : Value).ownBlock) Ml xD) /\ aa (Kd.R (Kd.int .i64) 3 wc w.heap.size (fun k_ => some k_ ≠ (Ml : Value).ownBlock) Mo DJ) /\ aa (Kd.R jZ 83 wc w.heap.size (fun _ => True) (.slice pq zS.length mg) Z8) /\ aa (wc.heap[Fe]? = some (.cells #[.int .i64 ah, .int .i64 af, (.slice aK ae.length aJ)] 24 (0, 0))) /\ aa (wc.heap[oF]? = some (.cells #[.int .i64 Hy, .int .i64 rX, (.slice pq zS.length mg)] 30 (0, 0))) /\ aa (Below w.heap.size w wc))
 case first =>
  have H := amI.1
  clear amI
  replace H := oP H; rcases H with ⟨c62, H⟩ | ⟨c62, H⟩
  · exact absurd H (by cases yD <;> simp [aH.j1])
  have c62b0 := decide_eq_false c62
  clear c62
  (first | rw [c62b0] | (simp only [cz, dF]; rw [c62b0]) | skip)
  replace H := dz H; obtain ⟨arO, A63, H⟩ := H
  replace H := ifT H (by cases yD <;> simp [aH.j1]); obtain ⟨rfl, H⟩ := H
  have H' := aa.mk H
  clear H
  obtain ⟨aNL, aNM, aDM⟩ := bv HO_10.1
  subst aDM
  obtain ⟨aNN, aNO, aDN⟩ := bv HO_6.1
  subst aDN
  go_wp2_with (first | (go_at_call 26; (with_reducible refine (di.calls yD _ _ DJ _ _ xD true _ ?side1 ?side2 ?side3 ?side4 A63.1).mono ?_); (case side1 => exact CB (ay HO_10.1).2.2); (case side2 => exact (ay HO_10.1).2.1); (case side3 => exact CB (ay HO_6.1).2.2); (case side4 => exact (ay HO_6.1).2.1); rintro e w' ⟨rfl, ⟨nd, rfl⟩⟩))
  go_meet
  case rel => exact ⟨_, ((aeq != X0)), RG, H', ⟨by have := Qp.1; first | omega | exact Nat.le_refl _⟩, ⟨pm (aG HO_6.1 (fun _ hk => hk.2.1))⟩, ⟨pm (aG HO_10.1 (fun _ hk => hk.1))⟩, ⟨pm (aG HO_718002.1 (fun _ hk => trivial))⟩, ⟨PB fu.1⟩, ⟨PB ib.1⟩, ⟨BL HB.1⟩⟩
 clear amI
 try clear c1; clear NW NY NZ N7 N8 N9
 obtain ⟨kq, SY, rfl, HA, aDO, HO_6, HO_10, HO_718002, fu, ib, HB⟩ := hcut
 have mE := (ay HO_718002.1).1
 rw [mE] at HO_718002
 (try simp only [mE])
 (try simp only [mE] at fu)
 (try simp only [mE] at ib)
 (try simp only [mE] at HO_6)
 (try simp only [mE] at HO_10)
 cases kq with
 | zero => exact absurd HA.1 (by simp [aH.j1])
 | succ Qq => ?_
 have H := HA.1
 clear HA
 simp only [aH.j1] at H
 replace H := ifF H (by simp); obtain ⟨rfl, H⟩ := H
 replace H := dz H; obtain ⟨⟨ar5, Oa⟩, A70, H⟩ := H
 dsimp only at H
 replace H := dz H; obtain ⟨aen, A71, H⟩ := H
 replace H := oP H; rcases H with ⟨c72, H⟩ | ⟨c72, H⟩
 · exact absurd H (by simp)
 have c72b0 := decide_eq_false c72
 clear c72
 first | replace H := oC H | replace H := ar6 H
 obtain ⟨c75, H⟩ := H
 have c75b0 := beq_iff_eq.mpr c75
 have c75b1 := bne_eq_false_iff_eq.mpr c75
 clear c75
 replace H := dz H; obtain ⟨⟨amK, amL, amM⟩, A76, H⟩ := H
 dsimp only at H
 replace H := dz H; obtain ⟨Z4, A77, H⟩ := H
 replace H := dz H; obtain ⟨⟨amN, ar7⟩, A78, H⟩ := H
 dsimp only at H
 have amO := aa.mk H
 clear H
 obtain ⟨S9, Ta, aDP⟩ := bv HO_10.1
 subst aDP
 go_upto_region 31 with (first | ((with_reducible refine aA (f := 28) rfl ?_); refine cK (N := (some 83)) #[.slice S9 DJ.length Ta, .int .i64 1] Try.func28 ?_; (with_reducible refine (dB.calls Qq (fun k_ => some k_ = (.slice S9 DJ.length Ta : Value).ownBlock) (.slice S9 DJ.length Ta) DJ 1 ar5 Oa w _ ?side1 ?side2 A70.1).mono ?_); (case side1 => exact BL HB.1); (case side2 => exact jR rfl HO_10.1); rintro e w81 ⟨rfl, hy0, hb, hkp⟩; refine ⟨_, rfl, ?_⟩; refine E6 (aG (ok' := fun k_ => some k_ ≠ (.slice S9 DJ.length Ta : Value).ownBlock) (jV (HO_6.1) hkp (fun k_ hk_ hs_ => (hk_) hs_)) (fun k_ hk_ => hk_.1)) (qp rfl hy0 (fun k_ e_ => HO_10.1.1 k_ e_)) (aG (ok' := fun k_ => True) (jV ((eH HO_718002.1 (dY HO_10.1) (by decide))) hkp (fun k_ hk_ hs_ => (hk_.2) hs_)) (fun k_ hk_ => trivial)) (eQ (PB fu.1) hkp (fun hs_ => (fun e_ => (dK HO_10.1 fu.1 (by decide)) e_) hs_)) (eQ (PB ib.1) hkp (fun hs_ => (fun e_ => (dK HO_10.1 ib.1 (by decide)) e_) hs_)) (hb) ?_; clear HO_6 HO_10 HO_718002 fu ib HB; intro HO_6 HO_10 HO_718002 fu ib HB; (try clear hb); (try clear hkp); (try clear hy0)) | ((with_reducible refine aA (f := 29) rfl ?_); refine Ep (some 86) rfl rfl Try.func29 (by kernel_rfl) rfl #[.slice S9 Oa.length Ta, .int .i64 1] rfl (by (try simp only [List.map_toArray, List.map_cons, List.map_nil]); first | done | (rw [show Oa.length = DJ.length from (ay HO_10.1).1.symm] <;> rfl) | rfl | (simp only [List.length_drop, List.length_take]; rfl)) ?_; (with_reducible refine (dC.calls Qq _ _ Oa 1 aen _ ?side1 ?side2 A71.1).mono ?_); (case side1 => exact CB (ay HO_10.1).2.2); (case side2 => rw [show Oa.length = DJ.length from (ay HO_10.1).1.symm]; exact (ay HO_10.1).2.1); rintro e w' ⟨rfl, ⟨nd, rfl⟩⟩; refine ⟨_, rfl, ?_⟩; have aIO := Ct.1; have aIP := Hz.1; obtain ⟨Vt, Vu, Vv, Vw, Vx, Vy⟩ := gB fu.1) | ((with_reducible refine aA (f := 15) rfl ?_); refine cK (N := (some 94)) #[.agg #[.int .i64 ah, .int .i64 af, .slice aK ae.length aJ]] Try.func15 ?_; (with_reducible refine (eP.calls Qq ah af _ _ ae amK amL amM _ ?side1 ?side2 A76.1).mono ?_); (case side1 => repeat (first | exact (aY bD.1 (BL HB.1)) | (with_reducible refine kg ?_ _) | (with_reducible refine ko ?_ _) | (with_reducible refine kH ?_))); (case side2 => exact cO.1); rintro e w84 ⟨aNW, rfl, ho0, hb⟩; refine ⟨_, rfl, ?_⟩; refine E7 (rB HO_6.1 hb) (rB HO_10.1 hb) (eT (PR HO_718002.1) (fe ho0) hb) (bN (iI ho0 (iL (PR HO_718002.1))) (bZ HB.1)) (bB fu.1 hb) (bB ib.1 hb) (bS HB.1 hb) ?_; clear HO_6 HO_10 HO_718002 fu ib HB; intro HO_6 HO_10 HO_718002 Fu fu ib HB; (try clear hb); (try clear ho0)) | ((with_reducible refine aA (f := 31) rfl ?_); refine cK (N := (some 96)) #[.slice A1 l1.length c1] Try.func31 ?_; (with_reducible refine (bX.calls Qq _ _ l1 Z4 _ ?side1 ?side2 A77.1).mono ?_); (case side1 => exact CB (aY HR1.1 HB.1)); (case side2 => exact vD.1); rintro e w85 ⟨aNX, rfl, ho0, hb⟩; refine ⟨_, rfl, ?_⟩; refine E8 (eT (PR HO_6.1) (fe ho0) hb) (eT (PR HO_10.1) (fe ho0) hb) (rB HO_718002.1 hb) (rB Fu.1 hb) (bN (iI (iI ho0 (iL (PR HO_6.1))) (iL (PR HO_10.1))) (bZ HB.1)) (bB fu.1 hb) (bB ib.1 hb) (bS HB.1 hb) ?_; clear HO_6 HO_10 HO_718002 Fu fu ib HB; intro HO_6 HO_10 HO_718002 Fu Kv fu ib HB; (try clear hb); (try clear ho0); obtain ⟨aDQ, aDR, aDS⟩ := bv Fu.1; subst aDS; obtain ⟨aDT, aDU, aDV⟩ := bv Kv.1; subst aDV) | ((with_reducible refine aA (f := 38) rfl ?_); refine cK (N := (some 97)) #[.agg #[.int .i64 amK, .int .i64 amL, .slice aDQ amM.length aDR], .slice aDT Z4.length aDU] Try.func38 ?_; (with_reducible refine (jM.calls Qq amK amL _ _ amM _ _ Z4 amN ar7 _ ?side1 ?side2 ?side3 ?side4 A78.1).mono ?_); (case side1 => exact CB (ay Fu.1).2.2); (case side2 => exact (ay Fu.1).2.1); (case side3 => exact CB (ay Kv.1).2.2); (case side4 => exact (ay Kv.1).2.1); rintro e w88 ⟨aNZ, rfl, ho0, hb⟩; refine ⟨_, rfl, ?_⟩; refine E9 (eT (PR HO_6.1) (fe ho0) hb) (eT (PR HO_10.1) (fe ho0) hb) (rB HO_718002.1 hb) (rB Fu.1 hb) (eT (PR Kv.1) (fe ho0) hb) (bN (iI (iI (iI ho0 (iL (PR HO_6.1))) (iL (PR HO_10.1))) (iL (PR Kv.1))) (bZ HB.1)) (bB fu.1 hb) (bB ib.1 hb) (bS HB.1 hb) ?_; clear HO_6 HO_10 HO_718002 Fu Kv fu ib HB; intro HO_6 HO_10 HO_718002 Fu Kv Z9 fu ib HB; (try clear hb); (try clear ho0)))
 (try simp only [Act.put, List.setIfInBounds_toArray, List.set_cons_zero, List.set_cons_succ])
 go_cut [108] (fun aDW wc => ∃ (kq : Nat) (Ob : Bool), aDW = .bool Ob /\ aa (aH.j2 kq Oa ar5 Ob = some true) /\ aa (kq <= Qq) /\ aa (Kd.R (Kd.int .i64) 3 wc w.heap.size (fun _ => True) (.slice S9 DJ.length Ta) Oa) /\ aa (Kd.R jZ 83 wc w.heap.size (fun _ => True) (.slice pq Z8.length mg) Z8) /\ aa (wc.heap[Fe]? = some (.cells #[.int .i64 ah, .int .i64 af, (.slice aK ae.length aJ)] 24 (0, 0))) /\ aa (wc.heap[oF]? = some (.cells #[.int .i64 Hy, .int .i64 rX, (.slice pq Z8.length mg)] 30 (0, 0))) /\ aa (Below w.heap.size w wc))
 case first =>
  have H := amO.1
  clear amO
  replace H := dz H; obtain ⟨arP, A89, H⟩ := H
  replace H := ifT H (by cases Qq <;> simp [aH.j2]); obtain ⟨rfl, H⟩ := H
  have H' := aa.mk H
  clear H
  obtain ⟨aDX, aDY, aDZ⟩ := bv Z9.1
  subst aDZ
  obtain ⟨aD0, aD1, aD2⟩ := bv HO_6.1
  subst aD2
  go_wp2_with (first | ((with_reducible refine aA (f := 26) rfl ?_); refine cK (N := (some 102)) #[.slice aDX amN.length aDY, .slice aD0 xD.length aD1] Try.func26 ?_; (with_reducible refine (di.calls Qq _ _ amN _ _ xD true _ ?side1 ?side2 ?side3 ?side4 A89.1).mono ?_); (case side1 => exact CB (ay Z9.1).2.2); (case side2 => exact (ay Z9.1).2.1); (case side3 => exact CB (ay HO_6.1).2.2); (case side4 => exact (ay HO_6.1).2.1); rintro e w' ⟨rfl, ⟨nd, rfl⟩⟩; refine ⟨_, rfl, ?_⟩))
  go_meet
  case rel => exact ⟨_, ((ar7 != X0)), RG, H', ⟨by have := Qp.1; have := aDO.1; first | omega | exact Nat.le_refl _⟩, ⟨by (try simp only [mE]); (with_reducible repeat (first | apply aV | apply aW | apply aQ)); exact aG HO_10.1 (fun _ hk => trivial)⟩, ⟨by (try simp only [mE]); (with_reducible repeat (first | apply aV | apply aW | apply aQ)); exact aG HO_718002.1 (fun _ hk => trivial)⟩, ⟨Er fu.1 mE⟩, ⟨Er ib.1 mE⟩, ⟨BL HB.1⟩⟩
 clear amO
 try clear c1; clear c72b0 c75b0 c75b1 Vt Vu Vv Vw Vx Vy
 obtain ⟨kq, Ob, rfl, HA, aN1, HO_10, HO_718002, fu, ib, HB⟩ := hcut
 have Fv := (ay HO_10.1).1
 rw [Fv] at HO_10
 (try simp only [Fv])
 (try simp only [Fv] at fu)
 (try simp only [Fv] at ib)
 (try simp only [Fv] at HO_718002)
 cases kq with
 | zero => exact absurd HA.1 (by simp [aH.j2])
 | succ aD3 => ?_
 have H := HA.1
 clear HA
 simp only [aH.j2] at H
 replace H := ifF H (by simp); obtain ⟨rfl, H⟩ := H
 replace H := dz H; obtain ⟨aeo, A96, H⟩ := H
 replace H := oP H; rcases H with ⟨c97, H⟩ | ⟨c97, H⟩
 · exact absurd H (by simp)
 have c97b0 := decide_eq_false c97
 clear c97
 first | replace H := oC H | replace H := ar6 H
 obtain ⟨c98, H⟩ := H
 have c98b0 := beq_iff_eq.mpr c98
 have c98b1 := bne_eq_false_iff_eq.mpr c98
 clear c98
 first | (obtain rfl := Option.some.inj H) | clear H
 go_wp2_with (first | ((with_reducible refine aA (f := 29) rfl ?_); refine cK (N := (some 111)) #[.slice S9 Oa.length Ta, .int .i64 1] Try.func29 ?_; (with_reducible refine (dC.calls aD3 _ _ Oa 1 aeo _ ?side1 ?side2 A96.1).mono ?_); (case side1 => exact CB (ay HO_10.1).2.2); (case side2 => exact (ay HO_10.1).2.1); rintro e w' ⟨rfl, ⟨nd, rfl⟩⟩; refine ⟨_, rfl, ?_⟩))
 go_ret
 exact ⟨RF, BL HB.1⟩
end Go.Proofs.Ytbpfdbjnnlmdjaa.P
