--MINI
-- PRINTED by print.py (a twelfth state) out of the translation. Not trusted: Lean checks it.
import Derived.Test.YtbpfdbjnnlmdjaaPx0
import Derived.Test.YtbpfdbjnnlmdjaaPx1
namespace Go.Proofs.Ytbpfdbjnnlmdjaa.P
open Go.RowKit Go.Proofs.YtbpfdbjnnlmdjaaW.PrintWords Go.Proofs.YtbpfdbjnnlmdjaaW.PrintLast Go.Proofs.YtbpfdbjnnlmdjaaW.PrintMore
attribute [local go_sem] rQ rR vR vS pO pQ rT rU   -- for this text's walks alone
set_option linter.unusedVariables false
set_option linter.unusedSimpArgs false
set_option maxHeartbeats 8000000
set_option maxRecDepth 100000

open Kd
mutual
def ax.l0 : Nat -> List Int -> Int -> Int -> Int -> Int -> List (fq) -> Option (List Int)
 | 0, _, _, _, _, _, _ => none
 | k + 1, x3, xC, Qk, azn, azo, arB => if Qk < xC then (if 0 <= Qk then (if Qk < (x3.length : Int) then (ax.l0 k (x3.set (Qk : Int).toNat (-1)) xC (wrap64 (Qk + 1)) azn azo arB) else (none)) else (none)) else (ax.l1 k x3 0 arB (arB.length : Int) 0 azn azo arB)
def ax.l1 : Nat -> List Int -> Int -> List (fq) -> Int -> Int -> Int -> Int -> List (fq) -> Option (List Int)
 | 0, _, _, _, _, _, _, _, _ => none
 | k + 1, x3, x5, qx, x27, x28, azn, azo, arB => if x28 < x27 then (if 0 <= x28 then (if x28 < (qx.length : Int) then ((jX.f ((aj qx x28).f0) ((aj qx x28).f1)).bind fun t160 => (if t160 = true then (if x28 < (x3.length : Int) then (ax.j2 k x3 x5 x28 qx x27 x28 (decide ((rd x3 x28) ≥ 0)) azn azo arB) else (none)) else (ax.j2 k x3 x5 x28 qx x27 x28 true azn azo arB))) else (none)) else (none)) else (some x3)
def ax.j2 : Nat -> List Int -> Int -> Int -> List (fq) -> Int -> Int -> Bool -> Int -> Int -> List (fq) -> Option (List Int)
 | 0, _, _, _, _, _, _, _, _, _, _ => none
 | k + 1, x3, x5, x6, qx, x27, x28, x42, azn, azo, arB => if x42 = true then (ax.l1 k x3 x5 qx x27 (wrap64 (x28 + 1)) azn azo arB) else (if 0 <= x6 then (if x6 < (x3.length : Int) then (ax.l2 k (x3.set (x6 : Int).toNat x5) x5 (([x6] : List Int)) 0 qx x27 x28 azn azo arB) else (none)) else (none))
def ax.l2 : Nat -> List Int -> Int -> List Int -> Int -> List (fq) -> Int -> Int -> Int -> Int -> List (fq) -> Option (List Int)
 | 0, _, _, _, _, _, _, _, _, _, _ => none
 | k + 1, x3, x5, x8, x9, qx, x27, x28, azn, azo, arB => if x9 < (x8.length : Int) then (if 0 <= x9 then ((bH.f k azn azo arB (rd x8 x9)).bind fun t167 => (ax.l3 k x3 x5 x8 x9 qx x27 x28 t167 (t167.length : Int) 0 azn azo arB)) else (none)) else (ax.l1 k x3 (wrap64 (x5 + 1)) qx x27 (wrap64 (x28 + 1)) azn azo arB)
def ax.l3 : Nat -> List Int -> Int -> List Int -> Int -> List (fq) -> Int -> Int -> List Int -> Int -> Int -> Int -> Int -> List (fq) -> Option (List Int)
 | 0, _, _, _, _, _, _, _, _, _, _, _, _, _ => none
 | k + 1, x3, x5, x8, x9, qx, x27, x28, KU, DN, QQ, azn, azo, arB => if QQ < DN then (if 0 <= QQ then (if QQ < (KU.length : Int) then (if 0 <= (rd KU QQ) then (if (rd KU QQ) < (arB.length : Int) then ((jX.f ((aj arB (rd KU QQ)).f0) ((aj arB (rd KU QQ)).f1)).bind fun lD => (if lD = true then (if (rd KU QQ) < (x3.length : Int) then (if (rd x3 (rd KU QQ)) < 0 then (if x8.length < 17592186044416 then (ax.l3 k (x3.set ((rd KU QQ) : Int).toNat x5) x5 (x8 ++ [rd KU QQ]) x9 qx x27 x28 KU DN (wrap64 (QQ + 1)) azn azo arB) else (none)) else (ax.l3 k x3 x5 x8 x9 qx x27 x28 KU DN (wrap64 (QQ + 1)) azn azo arB)) else (none)) else (ax.l3 k x3 x5 x8 x9 qx x27 x28 KU DN (wrap64 (QQ + 1)) azn azo arB))) else (none)) else (none)) else (none)) else (none)) else (ax.l2 k x3 x5 x8 (wrap64 (x9 + 1)) qx x27 x28 azn azo arB)
end
def ax.f (k : Nat) (ah : Int) (af : Int) (ae : List (fq)) : Option (List Int) := if 0 <= (ae.length : Int) then (if ((ae.length : Int) : Int).toNat <= 35184372088832 then ((some (List.replicate ((ae.length : Int) : Int).toNat 0 : List Int)).bind fun aYb => (ax.l0 k aYb (aYb.length : Int) 0 ah af ae)) else (none)) else (none)
theorem ax.mono_l : ∀ k, (∀ y0 y1 y2 y3 y4 y5, dO (ax.l0 k y0 y1 y2 y3 y4 y5) (ax.l0 (k + 1) y0 y1 y2 y3 y4 y5)) /\ (∀ y0 y1 y2 y3 y4 y5 y6 y7, dO (ax.l1 k y0 y1 y2 y3 y4 y5 y6 y7) (ax.l1 (k + 1) y0 y1 y2 y3 y4 y5 y6 y7)) /\ (∀ y0 y1 y2 y3 y4 y5 y6 y7 y8 y9, dO (ax.j2 k y0 y1 y2 y3 y4 y5 y6 y7 y8 y9) (ax.j2 (k + 1) y0 y1 y2 y3 y4 y5 y6 y7 y8 y9)) /\ (∀ y0 y1 y2 y3 y4 y5 y6 y7 y8 y9, dO (ax.l2 k y0 y1 y2 y3 y4 y5 y6 y7 y8 y9) (ax.l2 (k + 1) y0 y1 y2 y3 y4 y5 y6 y7 y8 y9)) /\ (∀ y0 y1 y2 y3 y4 y5 y6 y7 y8 y9 IG MV Vr, dO (ax.l3 k y0 y1 y2 y3 y4 y5 y6 y7 y8 y9 IG MV Vr) (ax.l3 (k + 1) y0 y1 y2 y3 y4 y5 y6 y7 y8 y9 IG MV Vr))
 | 0 => by refine ⟨?_, ?_, ?_, ?_, ?_⟩ <;> (intros; intro r h; first | (simp [ax.l0] at h; done) | (simp [ax.l1] at h; done) | (simp [ax.j2] at h; done) | (simp [ax.l2] at h; done) | (simp [ax.l3] at h; done))
 | k + 1 => by
  obtain ⟨ja, ih1, ih2, ih3, ih4⟩ := ax.mono_l k
  refine ⟨?_, ?_, ?_, ?_, ?_⟩ <;> (
   intros
   first | unfold ax.l0 | unfold ax.l1 | unfold ax.j2 | unfold ax.l2 | unfold ax.l3
   exact LM6 ja ih1 ih2 ih3 ih4 bH.mono)
theorem ax.mono : ∀ a0 a1 a2 k, dO (ax.f k a0 a1 a2) (ax.f (k + 1) a0 a1 a2) := by
 intro a0 a1 a2 k
 obtain ⟨ja, ih1, ih2, ih3, ih4⟩ := ax.mono_l k
 unfold ax.f
 exact LM6 ja ih1 ih2 ih3 ih4 bH.mono
def ax.T17 : Bool × List (List Nat × List Nat) := (true, [([], []), ([], []), ([], []), ([1, 2], [1, 2]), ([3], [3]), ([0, 4], [0, 4]), ([5], [5]), ([], [])])
def ax.B17 : List Nat := [0, 0, 0, 6, 14, 31, 63, 0]
theorem ax.aaZ : mX .any (opsOf Try.f80 17) = ax.T17 := by kernel_rfl
theorem ax.bits17 : kr ax.T17.2 ax.B17 = true := by kernel_rfl
theorem ax.calls (k : Nat) (ah : Int) (af : Int) (aK : Option Addr) (aJ : Nat) (ae : List (fq)) (r : List Int) (w : World) (dH : Kd.C jZ w aK ae.length ae) (dG : ae.length <= aJ) (h : ax.f k ah af ae = some r) :
 Calls Try.prog 80 #[.agg #[.int .i64 ah, .int .i64 af, .slice aK ae.length aJ]] w fun e w' => ∃ rO : Value, e = .returned (rO) /\ Kd.R (Kd.int .i64) 3 w' w.heap.size (fun _ => True) rO r /\ Below w.heap.size w w' := by
 have nH := Try.underlying30
 have xE := Try.underlying83
 have bD := aa.mk dH
 have cO := aa.mk dG
 clear dH dG
 have HB := aa.mk (Below.refl w.heap.size w)
 have H := h
 clear h
 unfold ax.f at H
 replace H := oC H; obtain ⟨c2, H⟩ := H
 have c2b0 := eq_true c2
 have c2b1 := decide_eq_true c2
 clear c2
 replace H := oC H; obtain ⟨c3, H⟩ := H
 have c3b0 := eq_true c3
 have c3b1 := decide_eq_true c3
 clear c3
 replace H := nR H; obtain ⟨aYb, a1Z, H⟩ := H
 have H' := aa.mk H
 clear H
 go_enter Try.func80, Try.ntmps80
 go_wp2_with (first | ((with_reducible refine aC (N := 1) rfl ?_); refine dN (cs := #[.int .i64 ah, .int .i64 af, .slice aK ae.length aJ]) (t := 30) ?_; intro aRK hg w4 hbox hb; refine mJ HB.1 hg hbox hb ?_; clear HB; intro HB aiT bdY bdZ; clear hb hbox hg; obtain ⟨Au, Av, EA, Aw, Ay, EB⟩ := gB aiT.1) | ((with_reducible refine aC (N := 15) rfl ?_); refine yH (Kd.int .i64) _ 3 rfl (N := 15) rfl 38 _ _ rfl (ae.length : Int) rfl rfl Try.underlying38 (.int .i64 0) 8 info3 rfl (by decide) (by omega) 0 (ok := fun _ => True) (okp := fun _ => True) rfl (fun _ hk => hk) trivial (OD) (Nat.le_trans (Nat.mul_le_mul_right _ (OD : (ae.length : Int).toNat <= 35184372088832)) (by omega)) (Below.refl _ _) (Nat.le_refl _) ?_; intro bgL w6 yY hb hg_ hnew_; clear hg_ hnew_; (first | rw [<- a1Z.1] at yY | (simp only [Int.reduceToNat] at yY; rw [<- a1Z.1] at yY)); refine E3 (bN yY (bZ HB.1)) (bB aiT.1 hb) (bS HB.1 hb) ?_; clear aiT HB; intro a2a aiT HB; clear hb yY; obtain ⟨Ao8, yZ, eo8⟩ := bv a2a.1; subst eo8))
 go_loopg [18] k (fun kq v18 w' => ∃ (ky : List Int) (qF : Int), v18 = .int .i64 qF /\ aa (ax.l0 kq ky (aYb.length : Int) qF ah af ae = some r) /\ aa (kq <= k) /\ aa (Kd.R (Kd.int .i64) 3 w' w.heap.size (fun _ => True) (.slice Ao8 aYb.length yZ) ky) /\ aa (w'.heap[aRK]? = some (.cells #[.int .i64 ah, .int .i64 af, (.slice aK ae.length aJ)] 30 (0, 0))) /\ aa (Below w.heap.size w w'))
 case atStart => exact ⟨(aYb), (0), RG, H', ⟨Nat.le_refl _⟩, ⟨PR a2a.1⟩, ⟨PB aiT.1⟩, ⟨BL HB.1⟩⟩
 clear H'
 clear c2b0 c2b1 c3b0 c3b1 Au Av EA Aw Ay EB
 obtain ⟨ky, qF, rfl, HA, iB, HO_3, aiT, HB⟩ := hrel
 have dU := (ay HO_3.1).1
 rw [dU] at HO_3
 (try simp only [dU])
 (try simp only [dU] at aiT)
 cases gk with
 | zero => exact absurd HA.1 (by simp [ax.l0])
 | succ k1 => ?_
 have H := HA.1
 clear HA
 simp only [ax.l0] at H
 replace H := pu H; rcases H with ⟨c9b0, H⟩ | ⟨c9b0, H⟩
 · replace H := ji H; obtain ⟨c10b0, H⟩ := H
   replace H := ji H; obtain ⟨c11b0, H⟩ := H
   generalize hy157 : ((ky.set (qF : Int).toNat (-1)) : List Int) = y157 at H
   have a8o := aa.mk hy157.symm; clear hy157
   have H' := aa.mk H
   clear H
   have SF : 0 <= (qF : Int) := OD
   have SG : (qF : Int) < ((ky.length : Int) : Int) := OD
   obtain ⟨tL, rM, vF, KV, TG, ano, KW⟩ := mQ HO_3.1 (by omega)
   (first | cases vF | (injection vF with ea_ en_ ec_; (first | subst ea_ | (injection ea_ with ea_; subst ea_)); subst ec_; clear en_))
   have QR := aa.mk KV
   have anp := aa.mk KW
   clear KV TG KW
   obtain ⟨Ib, KR⟩ := lC 0 HO_3.1 (qF : Int) SF SG
   replace SF := eq_true SF
   replace SG := eq_true SG
   have KX := qV HO_3.1 (qF : Int) (-1)
   go_wp2_with (first | ((with_reducible refine gK (t := 3) (p := 23) rfl ?_); refine lX (t := 3) (p := 23) (w1 := (wr.setCell ⟨tL, (qF : Int).toNat, none⟩ (.int .i64 (-1)))) ?_; intro yM hw; have hg : wr.grownBy yM (some tL) := (by rw [hw]; exact KX.2); have hp_ : Kd.R (Kd.int .i64) 3 yM w.heap.size (fun _ => True) (.slice (some ⟨tL, 0, none⟩) ky.length yZ) y157 := (by rw [hw, a8o.1]; exact KX.1); clear KX; refine E3 (hp_) (bG aiT.1 hg (dK HO_3.1 aiT.1 (by decide))) ((by rw [hw]; exact il (HB.1) QR.1 : Below w.heap.size w yM)) ?_; clear HO_3 aiT HB; intro HO_3 aiT HB; clear hg hw hp_))
   (try simp only [<- dU])
   go_roundg k1
   case measure => have := iB.1; omega
   case rel => exact ⟨(y157), (wrap64 (qF + 1)), RG, H', ⟨by have := iB.1; omega⟩, ⟨ER HO_3.1 dU⟩, ⟨Er aiT.1 dU⟩, ⟨BL HB.1⟩⟩
 (try simp only [dU] at c9b0)
 have H' := aa.mk H
 clear H
 obtain ⟨sD, sF, wN, sG, sH, wO⟩ := gB aiT.1
 go_wp2
 go_loopg [5, 28] k1 (fun kq v5 v28 w' => ∃ (sI : List Int) (ol : Int) (dV : Int), v5 = .int .i64 ol /\ v28 = .int .i64 dV /\ aa (ax.l1 kq sI ol ae (ae.length : Int) dV ah af ae = some r) /\ aa (kq <= k1) /\ aa (Kd.R (Kd.int .i64) 3 w' w.heap.size (fun _ => True) (.slice Ao8 ky.length yZ) sI) /\ aa (w'.heap[aRK]? = some (.cells #[.int .i64 ah, .int .i64 af, (.slice aK ae.length aJ)] 30 (0, 0))) /\ aa (Below w.heap.size w w'))
 case atStart => exact ⟨(ky), (0), (0), RG, RG, H', ⟨Nat.le_refl _⟩, ⟨ER HO_3.1 dU⟩, ⟨Er aiT.1 dU⟩, ⟨BL HB.1⟩⟩
 clear H'
 clear c9b0 sD sF wN sG sH wO
 obtain ⟨sI, ol, dV, rfl, rfl, HA, nG, HO_3, aiT, HB⟩ := hrel
 have eO := (ay HO_3.1).1
 rw [eO] at HO_3
 (try simp only [eO])
 (try simp only [eO] at aiT)
 cases gk with
 | zero => exact absurd HA.1 (by simp [ax.l1])
 | succ k2 => ?_
 have H := HA.1
 clear HA
 simp only [ax.l1] at H
 replace H := pu H; rcases H with ⟨c16b0, H⟩ | ⟨c16b0, H⟩
 · replace H := ji H; obtain ⟨c17b0, H⟩ := H
   replace H := ji H; obtain ⟨c18b0, H⟩ := H
   have TH := aa.mk H
   clear H
   have a0C : 0 <= (dV : Int) := OD
   have a0D : dV < (ae.length : Int) := OD
   obtain ⟨aRL, bbI, aTe, aTf⟩ := iP bD.1 dV a0C a0D
   cases bbI
   replace aTe := (HB.1.cell (World.block_lt_of_cell? w _ aTe)).trans aTe
   replace aTf := (HB.1.cell (World.block_lt_of_cell? w _ aTf)).trans aTf
   replace a0C := eq_true a0C
   replace a0D := eq_true a0D
   go_upto_region 11 with (first | ((with_reducible refine aC (N := 7) rfl ?_); refine dN (cs := #[.int .i64 0, .int .i64 0]) (t := 83) ?_; intro aR8 hg ZJ hbox hb; refine E8 (rB HO_3.1 hb) (bB aiT.1 hb) (bS HB.1 hb) (hbox) (gX HB.1 hg) (gX HB.1 hg) (nB aiT.1 hg) (nC aiT.1 hg) ?_; clear HO_3 aiT HB; intro HO_3 aiT HB aq1 bd0 bd1 aSM aYc; clear hb hbox hg; have aaO := aYc.1; have aaP := aSM.1; obtain ⟨wJ, wK, wL, wM⟩ := nO aq1.1))
   (try simp only [Act.put, List.setIfInBounds_toArray, List.set_cons_zero, List.set_cons_succ])
   go_cut [42] (fun v42 wc => ∃ (kq : Nat) (EC : Bool), v42 = .bool EC /\ aa (ax.j2 kq sI ol dV ae (ae.length : Int) dV EC ah af ae = some r) /\ aa (kq <= k2) /\ aa (Kd.R (Kd.int .i64) 3 wc w.heap.size (fun _ => True) (.slice Ao8 sI.length yZ) sI) /\ aa (wc.heap[aRK]? = some (.cells #[.int .i64 ah, .int .i64 af, (.slice (some aRL) ae.length aJ)] 30 (0, 0))) /\ aa (wc.heap[aR8]? = some (.cells #[.int .i64 ((aj ae dV).f0), .int .i64 ((aj ae dV).f1)] 83 (0, 0))) /\ aa (Below w.heap.size w wc))
   case first =>
    have H := TH.1
    clear TH
    replace H := dz H; obtain ⟨t160, A23, H⟩ := H
    replace H := Cm H; rcases H with ⟨rfl, H⟩ | ⟨rfl, H⟩
    · replace H := ji H; obtain ⟨c25b0, H⟩ := H
      (first | rw [c25b0] | (simp only [cz, dF]; rw [c25b0]) | skip)
      have H' := aa.mk H
      clear H
      obtain ⟨Aj, Ak, Al, Am⟩ := nO aq1.1
      go_wp2_with (first | ((with_reducible refine aA (f := 91) rfl ?_); refine cK (N := (some 34)) #[.agg #[.int .i64 ((aj ae dV).f0), .int .i64 ((aj ae dV).f1)]] Try.func91 ?_; (with_reducible refine (jX.calls ((aj ae dV).f0) ((aj ae dV).f1) true _ A23.1).mono ?_); rintro e w28 ⟨rfl, hb⟩; refine ⟨_, rfl, ?_⟩; refine E4 (jf (by (with_reducible repeat (first | apply aV | apply aW | apply aQ)); exact (aG (RQ aR8 1 (RQ aR8 0 (bz HO_3.1 aq1.1 (by decide)) _) _) (fun _ h_ => h_.1))) hb) (dh (g := aRK) (o := .cells #[.int .i64 ah, .int .i64 af, .slice (some aRL) ae.length aJ] 30 (0, 0)) (xB aSM.1 aiT.1) hb) (dh (g := aR8) (o := .cells #[.int .i64 ((aj ae dV).f0), .int .i64 ((aj ae dV).f1)] 83 (0, 0)) (BB aq1.1) hb) (bS HB.1 hb) ?_; clear HO_3 aiT aq1 HB; intro HO_3 aiT aq1 HB; (try clear hb); have a4M : 0 <= (dV : Int) := OD; have a4N : dV < (sI.length : Int) := OD; obtain ⟨bd2, bbJ, baa⟩ := Kd.dx (ay HO_3.1).2.2 dV a4M a4N; cases bbJ; replace a4M := eq_true a4M; replace a4N := eq_true a4N))
      go_meet
      case rel => exact ⟨_, (decide ((rd sI dV) ≥ 0)), RG, H', ⟨by have := iB.1; have := nG.1; first | omega | exact Nat.le_refl _⟩, ⟨MZ HO_3.1 dU eO⟩, ⟨HY aiT.1 dU eO⟩, ⟨HY aq1.1 dU eO⟩, ⟨BL HB.1⟩⟩
    have H' := aa.mk H
    clear H
    obtain ⟨zV, zW, zX, zY⟩ := nO aq1.1
    go_wp2_with (first | ((with_reducible refine aA (f := 91) rfl ?_); refine cK (N := (some 34)) #[.agg #[.int .i64 ((aj ae dV).f0), .int .i64 ((aj ae dV).f1)]] Try.func91 ?_; (with_reducible refine (jX.calls ((aj ae dV).f0) ((aj ae dV).f1) false _ A23.1).mono ?_); rintro e w31 ⟨rfl, hb⟩; refine ⟨_, rfl, ?_⟩; refine E4 (jf (by (with_reducible repeat (first | apply aV | apply aW | apply aQ)); exact (aG (RQ aR8 1 (RQ aR8 0 (bz HO_3.1 aq1.1 (by decide)) _) _) (fun _ h_ => h_.1))) hb) (dh (g := aRK) (o := .cells #[.int .i64 ah, .int .i64 af, .slice (some aRL) ae.length aJ] 30 (0, 0)) (xB aSM.1 aiT.1) hb) (dh (g := aR8) (o := .cells #[.int .i64 ((aj ae dV).f0), .int .i64 ((aj ae dV).f1)] 83 (0, 0)) (BB aq1.1) hb) (bS HB.1 hb) ?_; clear HO_3 aiT aq1 HB; intro HO_3 aiT aq1 HB; (try clear hb)))
    go_meet
    case rel => exact ⟨_, (true), RG, H', ⟨by have := iB.1; have := nG.1; first | omega | exact Nat.le_refl _⟩, ⟨MZ HO_3.1 dU eO⟩, ⟨HY aiT.1 dU eO⟩, ⟨HY aq1.1 dU eO⟩, ⟨BL HB.1⟩⟩
   clear TH
   try clear aTe; try clear aTf; try clear a0C; try clear a0D; clear c16b0 c17b0 c18b0 wJ wK wL wM
   obtain ⟨kq, EC, rfl, HA, vG, HO_3, aiT, aq1, HB⟩ := hcut
   cases kq with
   | zero => exact absurd HA.1 (by simp [ax.j2])
   | succ TI => ?_
   have H := HA.1
   clear HA
   simp only [ax.j2] at H
   replace H := Cm H; rcases H with ⟨rfl, H⟩ | ⟨rfl, H⟩
   · have H' := aa.mk H
     clear H
     go_wp2
     (try simp only [<- eO])
     go_roundg TI
     case measure => have := iB.1; have := nG.1; have := vG.1; omega
     case rel => exact ⟨(sI), (ol), (wrap64 (dV + 1)), RG, RG, H', ⟨by have := iB.1; have := nG.1; have := vG.1; omega⟩, ⟨MZ HO_3.1 dU eO⟩, ⟨HY aiT.1 dU eO⟩, ⟨BL HB.1⟩⟩
   replace H := ji H; obtain ⟨c33b0, H⟩ := H
   replace H := ji H; obtain ⟨c34b0, H⟩ := H
   generalize aiS : ((sI.set (dV : Int).toNat ol) : List Int) = asZ at H
   have as0 := aa.mk aiS.symm; clear aiS
   generalize a2c : ((([dV] : List Int)) : List Int) = bbK at H
   have a2d := aa.mk a2c.symm; clear a2c
   have H' := aa.mk H
   clear H
   have p35 : 0 <= (dV : Int) := OD
   have q35 : (dV : Int) < ((sI.length : Int) : Int) := OD
   obtain ⟨nP, ED, Mv, aa0, anu, aEz, aa1⟩ := mQ HO_3.1 (by omega)
   (first | cases Mv | (injection Mv with ea_ en_ ec_; (first | subst ea_ | (injection ea_ with ea_; subst ea_)); subst ec_; clear en_))
   have aa2 := aa.mk aa0
   have aEA := aa.mk aa1
   clear aa0 anu aa1
   obtain ⟨TJ, anv⟩ := lC 0 HO_3.1 (dV : Int) p35 q35
   replace p35 := eq_true p35
   replace q35 := eq_true q35
   have TK := qV HO_3.1 (dV : Int) ol
   go_wp2_with (first | ((with_reducible refine gK (t := 3) (p := 46) rfl ?_); refine lX (t := 3) (p := 46) (w1 := (wc.setCell ⟨nP, (dV : Int).toNat, none⟩ (.int .i64 ol))) ?_; intro Mw hw; have hg : wc.grownBy Mw (some nP) := (by rw [hw]; exact TK.2); have hp_ : Kd.R (Kd.int .i64) 3 Mw w.heap.size (fun _ => True) (.slice (some ⟨nP, 0, none⟩) sI.length yZ) asZ := (by rw [hw, as0.1]; exact TK.1); clear TK; refine E4 (hp_) (bG aiT.1 hg (dK HO_3.1 aiT.1 (by decide))) (bG aq1.1 hg (dK HO_3.1 aq1.1 (by decide))) ((by rw [hw]; exact il (HB.1) aa2.1 : Below w.heap.size w Mw)) ?_; clear HO_3 aiT aq1 HB; intro HO_3 aiT aq1 HB; clear hg hw hp_) | ((with_reducible refine aC (N := 48) rfl ?_); refine qh (Kd.int .i64) _ 3 ?hg (N := 48) ?hd (xs := ([dV] : List Int)) (inner := [.int .i64 dV]) (ok := fun _ => True) (okp := fun _ => True) ?hr ?hp (fun _ hk => hk) trivial (Below.refl _ _) (Nat.le_refl _) (by simp) ?_; (case hd => rfl); (case hg => rfl); (case hr => first | (go_simp; done) | (go_simp; rfl)); (case hp => exact (fK.one (show Kd.M (Kd.int .i64) _ _ _ dV [.int .i64 dV] from rfl) (fK.none _ _))); intro v164 Nc Ig hb hg_ hnew_; clear hg_ hnew_; (first | rw [<- a2d.1] at Ig | (simp only [Int.reduceToNat] at Ig; rw [<- a2d.1] at Ig)); refine E5 (eT (PR HO_3.1) (fe Ig) hb) (bN (iI Ig (iL (PR HO_3.1))) (bZ HB.1)) (bB aiT.1 hb) (bB aq1.1 hb) (bS HB.1 hb) ?_; clear HO_3 aiT aq1 HB; intro HO_3 a8p aiT aq1 HB; clear hb Ig))
   go_loopg [8, 9] TI (fun kq v8 v9 w' => ∃ (BK : List Int) (uW : List Int) (I5 : Int), v9 = .int .i64 I5 /\ aa (ax.l2 kq BK ol uW I5 ae (ae.length : Int) dV ah af ae = some r) /\ aa (kq <= TI) /\ aa (Kd.R (Kd.int .i64) 3 w' w.heap.size (fun k_ => some k_ ≠ (v8 : Value).ownBlock) (.slice (some ⟨nP, 0, none⟩) sI.length yZ) BK) /\ aa (Kd.R (Kd.int .i64) 3 w' w.heap.size (fun k_ => some k_ ≠ ((.slice (some ⟨nP, 0, none⟩) sI.length yZ) : Value).ownBlock) v8 uW) /\ aa (w'.heap[aRK]? = some (.cells #[.int .i64 ah, .int .i64 af, (.slice (some aRL) ae.length aJ)] 30 (0, 0))) /\ aa (w'.heap[aR8]? = some (.cells #[.int .i64 ((aj ae dV).f0), .int .i64 ((aj ae dV).f1)] 83 (0, 0))) /\ aa (Below w.heap.size w w'))
   case atStart => exact ⟨(asZ), (bbK), (0), RG, H', ⟨Nat.le_refl _⟩, ⟨by (try simp only [dU]); (try simp only [eO]); (with_reducible repeat (first | apply aV | apply aW | apply aQ)); exact aG HO_3.1 (fun _ hk => hk.2)⟩, ⟨by (try simp only [dU]); (try simp only [eO]); (with_reducible repeat (first | apply aV | apply aW | apply aQ)); exact aG a8p.1 (fun _ hk => hk.2)⟩, ⟨HY aiT.1 dU eO⟩, ⟨HY aq1.1 dU eO⟩, ⟨BL HB.1⟩⟩
   clear H'
   try clear p35; try clear q35; try clear TJ; clear c33b0 c34b0
   obtain ⟨BK, uW, I5, rfl, HA, Mx, HO_3, HO_8, aiT, aq1, HB⟩ := hrel
   have gG := (ay HO_3.1).1
   rw [gG] at HO_3
   (try simp only [gG])
   (try simp only [gG] at aiT)
   (try simp only [gG] at aq1)
   (try simp only [gG] at HO_8)
   cases gk with
   | zero => exact absurd HA.1 (by simp [ax.l2])
   | succ k4 => ?_
   have H := HA.1
   clear HA
   simp only [ax.l2] at H
   replace H := pu H; rcases H with ⟨c40b0, H⟩ | ⟨c40b0, H⟩
   · replace H := ji H; obtain ⟨c41b0, H⟩ := H
     replace H := dz H; obtain ⟨t167, A42, H⟩ := H
     have H' := aa.mk H
     clear H
     obtain ⟨aEC, Yu, Yv⟩ := bv HO_8.1
     subst Yv
     try go_wp2
     refine E5 (aQ HO_3.1) (aQ HO_8.1) (ag aiT.1) (ag aq1.1) (dm HB.1) ?_
     clear HO_3 HO_8 aiT aq1 HB
     intro HO_3 HO_8 aiT aq1 HB
     have anr : 0 <= (I5 : Int) := OD
     have ant : I5 < (uW.length : Int) := OD
     obtain ⟨aJi, e166, azt⟩ := Kd.dx (ay HO_8.1).2.2 I5 anr ant
     cases e166
     replace anr := eq_true anr
     replace ant := eq_true ant
     refine jN (n := 8) (S := fun w' => w'.cell? ⟨aRK, 0, none⟩ = some (.int .i64 ah) /\ w'.cell? ⟨aRK, 1, none⟩ = some (.int .i64 af) /\ w'.cell? ⟨aRK, 2, none⟩ = some (.slice (some aRL) ae.length aJ) /\ w'.cell? (aJi.add (I5).toNat) = some (.int .i64 (rd uW I5))) (ds := []) #[Zz,Zz,Zz,Zz,Zz,Zz,Zz,Zz] (by kernel_rfl) rfl rfl ⟨(ai aiT.1 0).trans rfl, (ai aiT.1 1).trans rfl, (ai aiT.1 2).trans rfl, azt⟩ (fun hHeld => ?_); refine iq ax.aaZ ax.bits17 (fun HT_ HW_ => ?_)
     generalize wr.drew = w44 at HO_3 HO_8 aiT aq1 HB azt hHeld ⊢
     refine aU 1 (N := some 56) HT_.1 ?_
     refine aU 2 (N := some 57) HT_.1 ?_
     refine aU 3 (N := some 58) HT_.1 ?_
     refine aU 7 (N := some 62) HT_.1 ?_
     refine gF 0 (N := some 55) HT_.1 HW_.1 hHeld ?_
     refine gF 4 (N := some 59) HT_.1 HW_.1 hHeld ?_
     refine mV (i := 5) (N := some 60) #[Yy,Yy,Yy,Yy,Yy,Yy,Zz,Yy] rfl rfl (jc HT_.1 (by kernel_rfl)) (by decide) (fun K hK => ?_)
     refine nA Try.func92 (by kernel_rfl) rfl #[.agg #[.int .i64 ah, .int .i64 af, .slice (some aRL) ae.length aJ], .int .i64 (rd uW I5)] (by rfl) rfl rfl (by (try simp only [List.map_toArray, List.map_cons, List.map_nil]); first | done | rfl | (simp only [List.length_drop, List.length_take]; rfl)) ?_
     with_reducible refine (bH.calls k4 ah af _ _ ae (rd uW I5) t167 _ ?side1 ?side2 A42.1).mono ?_
     (case side1 => exact CB (aY bD.1 HB.1))
     (case side2 => exact cO.1)
     rintro e w45 ⟨v168, rfl, ho0, hb⟩
     have xF := (hb.cell (World.block_lt_of_cell? _ _ (hHeld.2.2.2))).trans (hHeld.2.2.2)
     refine ⟨_, rfl, ?_⟩
     refine E6 (eT (PR HO_3.1) (fe ho0) hb) (eT (PR HO_8.1) (fe ho0) hb) (bN (iI (iI ho0 (iL (PR HO_3.1))) (iL (PR HO_8.1))) (bZ HB.1)) (bB aiT.1 hb) (bB aq1.1 hb) (bS HB.1 hb) ?_
     clear HO_3 HO_8 aiT aq1 HB
     intro HO_3 HO_8 a2e aiT aq1 HB
     (try clear hb)
     (try clear hb2)
     (try clear hk)
     (try clear hi)
     (try clear ho0)
     obtain ⟨aa3, OE, aa4⟩ := bv a2e.1
     (first | subst aa4 | (injection aa4 with rY zZ rZ; have z8 := rY.symm; have Aa := rZ.symm; clear rY zZ rZ; subst z8; subst Aa))
     refine hK.out _ _ ⟨(ai aiT.1 0).trans rfl, (ai aiT.1 1).trans rfl, (ai aiT.1 2).trans rfl, xF⟩ (fun hHeld => ?_)
     clear hK K
     refine eX (a' := ?_) ?_ ?_
     rotate_left
     · show Act.put _ (some 60) _ = _
       simp only [Act.put, List.setIfInBounds_toArray, List.set_cons_zero, List.set_cons_succ, cz, dF]
       rfl
     refine aU 6 (N := some 61) HT_.1 ?_
     refine lI (jS HT_.1 (by kernel_rfl)) ?_
     try go_wp2
     go_loopg [8, 62] k4 (fun kq v8 v62 w' => ∃ (pI : List Int) (Cb : List Int) (jk : Int), v62 = .int .i64 jk /\ aa (ax.l3 kq pI ol Cb I5 ae (ae.length : Int) dV t167 (t167.length : Int) jk ah af ae = some r) /\ aa (kq <= k4) /\ aa (Kd.R (Kd.int .i64) 3 w' w.heap.size (fun k_ => some k_ ≠ (v8 : Value).ownBlock /\ some k_ ≠ ((.slice aa3 t167.length OE) : Value).ownBlock) (.slice (some ⟨nP, 0, none⟩) BK.length yZ) pI) /\ aa (Kd.R (Kd.int .i64) 3 w' w.heap.size (fun k_ => some k_ ≠ ((.slice (some ⟨nP, 0, none⟩) BK.length yZ) : Value).ownBlock /\ some k_ ≠ ((.slice aa3 t167.length OE) : Value).ownBlock) v8 Cb) /\ aa (Kd.R (Kd.int .i64) 3 w' w.heap.size (fun k_ => some k_ ≠ ((.slice (some ⟨nP, 0, none⟩) BK.length yZ) : Value).ownBlock /\ some k_ ≠ (v8 : Value).ownBlock) (.slice aa3 t167.length OE) t167) /\ aa (w'.heap[aRK]? = some (.cells #[.int .i64 ah, .int .i64 af, (.slice (some aRL) ae.length aJ)] 30 (0, 0))) /\ aa (w'.heap[aR8]? = some (.cells #[.int .i64 ((aj ae dV).f0), .int .i64 ((aj ae dV).f1)] 83 (0, 0))) /\ aa (Below w.heap.size w w'))
     case atStart => exact ⟨(BK), (uW), (0), RG, H', ⟨Nat.le_refl _⟩, ⟨PR3 HO_3.1 dU eO gG⟩, ⟨PR3 HO_8.1 dU eO gG⟩, ⟨by (try simp only [dU]); (try simp only [eO]); (try simp only [gG]); (with_reducible repeat (first | apply aV | apply aW | apply aQ)); exact aG a2e.1 (fun _ hk => ⟨hk.1.2, hk.2⟩)⟩, ⟨PB3 aiT.1 dU eO gG⟩, ⟨PB3 aq1.1 dU eO gG⟩, ⟨BL HB.1⟩⟩
     clear H'
     try clear azt; try clear anr; try clear ant; clear c40b0 c41b0
     obtain ⟨pI, Cb, jk, rfl, HA, QS, HO_3, HO_8, HO_60, aiT, aq1, HB⟩ := hrel
     have iJ := (ay HO_3.1).1
     rw [iJ] at HO_3
     (try simp only [iJ])
     (try simp only [iJ] at aiT)
     (try simp only [iJ] at aq1)
     (try simp only [iJ] at HO_8)
     (try simp only [iJ] at HO_60)
     cases gk with
     | zero => exact absurd HA.1 (by simp [ax.l3])
     | succ k5 => ?_
     have H := HA.1
     clear HA
     simp only [ax.l3] at H
     replace H := pu H; rcases H with ⟨c47b0, H⟩ | ⟨c47b0, H⟩
     · replace H := ji H; obtain ⟨c48b0, H⟩ := H
       replace H := ji H; obtain ⟨c49b0, H⟩ := H
       replace H := ji H; obtain ⟨c50b0, H⟩ := H
       replace H := ji H; obtain ⟨c51b0, H⟩ := H
       replace H := dz H; obtain ⟨lD, A52, H⟩ := H
       replace H := Cm H; rcases H with ⟨rfl, H⟩ | ⟨rfl, H⟩
       · replace H := ji H; obtain ⟨c54b0, H⟩ := H
         replace H := pu H; rcases H with ⟨c55b0, H⟩ | ⟨c55b0, H⟩
         · generalize a2f : ((pI.set ((rd t167 jk) : Int).toNat ol) : List Int) = a8q at H
           have a8r := aa.mk a2f.symm; clear a2f
           replace H := oC H; obtain ⟨c57, H⟩ := H
           have as6 := aa.mk c57
           clear c57
           generalize a2g : ((Cb ++ [rd t167 jk]) : List Int) = bbM at H
           have a8s := aa.mk a2g.symm; clear a2g
           have H' := aa.mk H
           clear H
           have aTE : 0 <= (jk : Int) := OD
           have aTF : jk < (t167.length : Int) := OD
           obtain ⟨aUa, e170, aWY⟩ := Kd.dx (ay HO_60.1).2.2 jk aTE aTF
           cases e170
           replace aTE := eq_true aTE
           replace aTF := eq_true aTF
           obtain ⟨NW, NY, NZ, N7, N8, N9⟩ := gB aiT.1
           have aeQ : 0 <= ((rd t167 jk) : Int) := OD
           have aeR : (rd t167 jk) < (ae.length : Int) := OD
           obtain ⟨as3, aED, OC, aFF⟩ := iP bD.1 (rd t167 jk) aeQ aeR
           obtain rfl : aRL = as3 := (by injection aED)
           replace OC := (HB.1.cell (World.block_lt_of_cell? w _ OC)).trans OC
           replace aFF := (HB.1.cell (World.block_lt_of_cell? w _ aFF)).trans aFF
           replace aeQ := eq_true aeQ
           replace aeR := eq_true aeR
           go_wp2_with (first | ((with_reducible refine aA (f := 91) rfl ?_); refine cK (N := (some 71)) #[.agg #[.int .i64 ((aj ae (rd t167 jk)).f0), .int .i64 ((aj ae (rd t167 jk)).f1)]] Try.func91 ?_; (with_reducible refine (jX.calls ((aj ae (rd t167 jk)).f0) ((aj ae (rd t167 jk)).f1) true _ A52.1).mono ?_); rintro e w60 ⟨rfl, hb⟩; refine ⟨_, rfl, ?_⟩; refine E6 (rB HO_3.1 hb) (rB HO_8.1 hb) (rB HO_60.1 hb) (bB aiT.1 hb) (bB aq1.1 hb) (bS HB.1 hb) ?_; clear HO_3 HO_8 HO_60 aiT aq1 HB; intro HO_3 HO_8 HO_60 aiT aq1 HB; (try clear hb); have aWj : 0 <= ((rd t167 jk) : Int) := OD; have aWk : (rd t167 jk) < (pI.length : Int) := OD; obtain ⟨aY3, a4P, aN2⟩ := Kd.dx (ay HO_3.1).2.2 (rd t167 jk) aWj aWk; obtain rfl : (⟨nP, 0, none⟩ : Addr) = aY3 := (by injection a4P); (first | simp only [add_plain] at aN2 | simp only [uh] at aN2 | simp only [Addr.add, Nat.zero_add] at aN2 | skip); replace aWj := eq_true aWj; replace aWk := eq_true aWk; have p56 : 0 <= ((rd t167 jk) : Int) := OD; have q56 : ((rd t167 jk) : Int) < ((pI.length : Int) : Int) := OD; obtain ⟨aEH, aEI⟩ := lC 0 HO_3.1 ((rd t167 jk) : Int) p56 q56; replace p56 := eq_true p56; replace q56 := eq_true q56; obtain ⟨aJl, aJm⟩ := lC 0 HO_3.1 ((rd t167 jk) : Int) (OD) (OD); have anz := qV HO_3.1 ((rd t167 jk) : Int) ol) | ((with_reducible refine gK (t := 3) (p := 82) rfl ?_); refine lX (t := 3) (p := 82) (w1 := (w60.setCell ⟨nP, ((rd t167 jk) : Int).toNat, none⟩ (.int .i64 ol))) ?_; intro w62 hw; have hg : w60.grownBy w62 (some nP) := (by rw [hw]; exact anz.2); have hp_ : Kd.R (Kd.int .i64) 3 w62 w.heap.size (fun k_ => some k_ ≠ (u8 : Value).ownBlock /\ some k_ ≠ (.slice (some aUa) t167.length OE : Value).ownBlock) (.slice (some ⟨nP, 0, none⟩) pI.length yZ) a8q := (by rw [hw, a8r.1]; exact anz.1); clear anz; refine E6 (hp_) (iX (v := (.slice (some ⟨nP, 0, none⟩) pI.length yZ)) (v1 := (.slice (some ⟨nP, 0, none⟩) pI.length yZ)) (ok := (fun k_ => some k_ ≠ (.slice (some aUa) t167.length OE : Value).ownBlock)) (pm (aG HO_8.1 (fun _ hk => ⟨hk.2, hk.1⟩))) hg (.inl rfl)) (iX (v := (.slice (some ⟨nP, 0, none⟩) pI.length yZ)) (v1 := (.slice (some ⟨nP, 0, none⟩) pI.length yZ)) (ok := (fun k_ => some k_ ≠ (u8 : Value).ownBlock)) (pm (aG HO_60.1 (fun _ hk => ⟨hk.2, hk.1⟩))) hg (.inl rfl)) (bG aiT.1 hg (dK HO_3.1 aiT.1 (by decide))) (bG aq1.1 hg (dK HO_3.1 aq1.1 (by decide))) ((by rw [hw]; exact il (HB.1) aa2.1 : Below w.heap.size w w62)) ?_; clear HO_3 HO_8 HO_60 aiT aq1 HB; intro HO_3 HO_8 HO_60 aiT aq1 HB; clear hg hw hp_) | ((with_reducible refine bf (b := .append) (xs := #[.tmp 83, .tmp 85]) rfl ?_); at_builtin; refine ek (Kd.int .i64) (w0 := w) w.heap.size rfl (.tmp 83) (.tmp 85) 38 3 (.int .i64 0) 8 rfl Try.underlying38 info3 rfl (by decide) (by omega) u8 Cb (rd t167 jk) [.int .i64 (rd t167 jk)] (fun k_ => some k_ ≠ (.slice (some ⟨nP, 0, none⟩) pI.length yZ : Value).ownBlock /\ some k_ ≠ (.slice (some aUa) t167.length OE : Value).ownBlock) (fun _ => False) rfl rfl ?aP (fun _ hk => hk.elim) ?aF ?aO ?aB ?aS ?aL ?_; (case aP => exact rfl); (case aB => exact (BL HB.1)); (case aF => exact (fun k_ hk => ⟨Kd.kX (iL (PR HO_3.1)) k_ hk, Kd.kX (iL (PR HO_60.1)) k_ hk⟩)); (case aO => exact (pm (aG HO_8.1 (fun _ hk => ⟨hk.2, hk.1⟩)))); (case aS => exact (bZ HB.1)); (case aL => have := as6.1; omega); intro bgN w63 ho hb hg hat; rw [<- a8s.1] at ho; refine E6 (iX (ok := (fun k_ => some k_ ≠ (.slice (some aUa) t167.length OE : Value).ownBlock)) (pm (aG HO_3.1 (fun _ hk => ⟨hk.2, hk.1⟩))) hg hat) (iX (ok := (fun k_ => some k_ ≠ (.slice (some ⟨nP, 0, none⟩) pI.length yZ : Value).ownBlock)) (pm (aG HO_60.1 (fun _ hk => ⟨hk.2, hk.1⟩))) hg hat) (bG aiT.1 hg (dK HO_8.1 aiT.1 (by decide))) (bG aq1.1 hg (dK HO_8.1 aq1.1 (by decide))) (hb) (ho) ?_; clear HO_3 HO_60 aiT aq1 HB HO_8; intro HO_3 HO_60 aiT aq1 HB a8t; clear ho hb hg hat))
           (try simp only [<- iJ])
           go_roundg k5
           case measure => have := iB.1; have := nG.1; have := vG.1; have := Mx.1; have := QS.1; omega
           case rel => exact ⟨(a8q), (bbM), (wrap64 (jk + 1)), RG, H', ⟨by have := iB.1; have := nG.1; have := vG.1; have := Mx.1; have := QS.1; omega⟩, ⟨by (try simp only [dU]); (try simp only [eO]); (try simp only [gG]); (try simp only [iJ]); (with_reducible repeat (first | apply aV | apply aW | apply aQ)); exact aG HO_3.1 (fun _ hk => ⟨hk.2, hk.1⟩)⟩, ⟨X5 a8t.1 dU eO gG iJ⟩, ⟨X5 HO_60.1 dU eO gG iJ⟩, ⟨SC aiT.1 dU eO gG iJ⟩, ⟨SC aq1.1 dU eO gG iJ⟩, ⟨BL HB.1⟩⟩
         have H' := aa.mk H
         clear H
         have aTE : 0 <= (jk : Int) := OD
         have aTF : jk < (t167.length : Int) := OD
         obtain ⟨aUa, e170, aWY⟩ := Kd.dx (ay HO_60.1).2.2 jk aTE aTF
         cases e170
         replace aTE := eq_true aTE
         replace aTF := eq_true aTF
         obtain ⟨aeS, aeT, azu, aeU, aeV, azv⟩ := gB aiT.1
         have aeQ : 0 <= ((rd t167 jk) : Int) := OD
         have aeR : (rd t167 jk) < (ae.length : Int) := OD
         obtain ⟨as3, aED, OC, aFF⟩ := iP bD.1 (rd t167 jk) aeQ aeR
         obtain rfl : aRL = as3 := (by injection aED)
         replace OC := (HB.1.cell (World.block_lt_of_cell? w _ OC)).trans OC
         replace aFF := (HB.1.cell (World.block_lt_of_cell? w _ aFF)).trans aFF
         replace aeQ := eq_true aeQ
         replace aeR := eq_true aeR
         go_wp2_with (first | ((with_reducible refine aA (f := 91) rfl ?_); refine cK (N := (some 71)) #[.agg #[.int .i64 ((aj ae (rd t167 jk)).f0), .int .i64 ((aj ae (rd t167 jk)).f1)]] Try.func91 ?_; (with_reducible refine (jX.calls ((aj ae (rd t167 jk)).f0) ((aj ae (rd t167 jk)).f1) true _ A52.1).mono ?_); rintro e w66 ⟨rfl, hb⟩; refine ⟨_, rfl, ?_⟩; refine E6 (rB HO_3.1 hb) (rB HO_8.1 hb) (rB HO_60.1 hb) (bB aiT.1 hb) (bB aq1.1 hb) (bS HB.1 hb) ?_; clear HO_3 HO_8 HO_60 aiT aq1 HB; intro HO_3 HO_8 HO_60 aiT aq1 HB; (try clear hb); have aWj : 0 <= ((rd t167 jk) : Int) := OD; have aWk : (rd t167 jk) < (pI.length : Int) := OD; obtain ⟨aY3, a4P, aN2⟩ := Kd.dx (ay HO_3.1).2.2 (rd t167 jk) aWj aWk; obtain rfl : (⟨nP, 0, none⟩ : Addr) = aY3 := (by injection a4P); (first | simp only [add_plain] at aN2 | simp only [uh] at aN2 | simp only [Addr.add, Nat.zero_add] at aN2 | skip); replace aWj := eq_true aWj; replace aWk := eq_true aWk))
         (try simp only [<- iJ])
         go_roundg k5
         case measure => have := iB.1; have := nG.1; have := vG.1; have := Mx.1; have := QS.1; omega
         case rel => exact ⟨(pI), (Cb), (wrap64 (jk + 1)), RG, H', ⟨by have := iB.1; have := nG.1; have := vG.1; have := Mx.1; have := QS.1; omega⟩, ⟨X5 HO_3.1 dU eO gG iJ⟩, ⟨X5 HO_8.1 dU eO gG iJ⟩, ⟨X5 HO_60.1 dU eO gG iJ⟩, ⟨SC aiT.1 dU eO gG iJ⟩, ⟨SC aq1.1 dU eO gG iJ⟩, ⟨BL HB.1⟩⟩
       have H' := aa.mk H
       clear H
       have aTE : 0 <= (jk : Int) := OD
       have aTF : jk < (t167.length : Int) := OD
       obtain ⟨aUa, e170, aWY⟩ := Kd.dx (ay HO_60.1).2.2 jk aTE aTF
       cases e170
       replace aTE := eq_true aTE
       replace aTF := eq_true aTF
       obtain ⟨aeW, aeX, aeY, aeZ, ae0, ae1⟩ := gB aiT.1
       have aeQ : 0 <= ((rd t167 jk) : Int) := OD
       have aeR : (rd t167 jk) < (ae.length : Int) := OD
       obtain ⟨as3, aED, OC, aFF⟩ := iP bD.1 (rd t167 jk) aeQ aeR
       obtain rfl : aRL = as3 := (by injection aED)
       replace OC := (HB.1.cell (World.block_lt_of_cell? w _ OC)).trans OC
       replace aFF := (HB.1.cell (World.block_lt_of_cell? w _ aFF)).trans aFF
       replace aeQ := eq_true aeQ
       replace aeR := eq_true aeR
       go_wp2_with (first | ((with_reducible refine aA (f := 91) rfl ?_); refine cK (N := (some 71)) #[.agg #[.int .i64 ((aj ae (rd t167 jk)).f0), .int .i64 ((aj ae (rd t167 jk)).f1)]] Try.func91 ?_; (with_reducible refine (jX.calls ((aj ae (rd t167 jk)).f0) ((aj ae (rd t167 jk)).f1) false _ A52.1).mono ?_); rintro e w69 ⟨rfl, hb⟩; refine ⟨_, rfl, ?_⟩; refine E6 (rB HO_3.1 hb) (rB HO_8.1 hb) (rB HO_60.1 hb) (bB aiT.1 hb) (bB aq1.1 hb) (bS HB.1 hb) ?_; clear HO_3 HO_8 HO_60 aiT aq1 HB; intro HO_3 HO_8 HO_60 aiT aq1 HB; (try clear hb)))
       (try simp only [<- iJ])
       go_roundg k5
       case measure => have := iB.1; have := nG.1; have := vG.1; have := Mx.1; have := QS.1; omega
       case rel => exact ⟨(pI), (Cb), (wrap64 (jk + 1)), RG, H', ⟨by have := iB.1; have := nG.1; have := vG.1; have := Mx.1; have := QS.1; omega⟩, ⟨X5 HO_3.1 dU eO gG iJ⟩, ⟨X5 HO_8.1 dU eO gG iJ⟩, ⟨X5 HO_60.1 dU eO gG iJ⟩, ⟨SC aiT.1 dU eO gG iJ⟩, ⟨SC aq1.1 dU eO gG iJ⟩, ⟨BL HB.1⟩⟩
     (try simp only [dU, eO, gG, iJ] at c47b0)
     have H' := aa.mk H
     clear H
     go_wp2
     (try simp only [<- gG, <- iJ])
     go_roundg k5
     case measure => have := iB.1; have := nG.1; have := vG.1; have := Mx.1; have := QS.1; omega
     case rel => exact ⟨(pI), (Cb), (wrap64 (I5 + 1)), RG, H', ⟨by have := iB.1; have := nG.1; have := vG.1; have := Mx.1; have := QS.1; omega⟩, ⟨by (try simp only [dU]); (try simp only [eO]); (try simp only [gG]); (try simp only [iJ]); (with_reducible repeat (first | apply aV | apply aW | apply aQ)); exact aG HO_3.1 (fun _ hk => hk.1)⟩, ⟨by (try simp only [dU]); (try simp only [eO]); (try simp only [gG]); (try simp only [iJ]); (with_reducible repeat (first | apply aV | apply aW | apply aQ)); exact aG HO_8.1 (fun _ hk => hk.1)⟩, ⟨SC aiT.1 dU eO gG iJ⟩, ⟨SC aq1.1 dU eO gG iJ⟩, ⟨BL HB.1⟩⟩
   (try simp only [dU, eO, gG] at c40b0)
   have H' := aa.mk H
   clear H
   obtain ⟨aOm, aOn, aEK⟩ := bv HO_8.1
   subst aEK
   go_wp2
   (try simp only [<- eO, <- gG])
   go_roundg k4
   case measure => have := iB.1; have := nG.1; have := vG.1; have := Mx.1; omega
   case rel => exact ⟨(BK), (wrap64 (ol + 1)), (wrap64 (dV + 1)), RG, RG, H', ⟨by have := iB.1; have := nG.1; have := vG.1; have := Mx.1; omega⟩, ⟨by (try simp only [dU]); (try simp only [eO]); (try simp only [gG]); (with_reducible repeat (first | apply aV | apply aW | apply aQ)); exact aG HO_3.1 (fun _ hk => trivial)⟩, ⟨PB3 aiT.1 dU eO gG⟩, ⟨BL HB.1⟩⟩
 (try simp only [dU, eO] at c16b0)
 obtain rfl := Option.some.inj H
 go_wp2
 go_ret
 exact ⟨_, RF, pm (HO_3.1), BL HB.1⟩
mutual
def aD.l0 : Nat -> List Int -> List Int -> Int -> Int -> Int -> Int -> List (fq) -> Option ((List (List Int)))
 | 0, _, _, _, _, _, _, _ => none
 | k + 1, x3, x4, HZ, xC, a0F, a0G, aUB => if xC < HZ then (if 0 <= xC then (if xC < (x4.length : Int) then (aD.l0 k x3 (x4.set (xC : Int).toNat (-1)) HZ (wrap64 (xC + 1)) a0F a0G aUB) else (none)) else (none)) else (aD.l1 k x3 x4 ([] : List (List Int)) aUB (aUB.length : Int) 0)
def aD.l1 : Nat -> List Int -> List Int -> List (List Int) -> List (fq) -> Int -> Int -> Option ((List (List Int)))
 | 0, _, _, _, _, _, _ => none
 | k + 1, x3, x4, x6, x25, qx, x27 => if x27 < qx then (if 0 <= x27 then (if x27 < (x25.length : Int) then (if ((aj x25 x27).f0) = 3 then (if x6.length < 5864062014805 then (aD.l1 k x3 x4 (x6 ++ [(([x27] : List Int))]) x25 qx (wrap64 (x27 + 1))) else (none)) else (if ((aj x25 x27).f0) = 6 then (if x27 < (x3.length : Int) then (if 0 <= (rd x3 x27) then (if (rd x3 x27) < (x4.length : Int) then (aD.j2 k x3 x4 x6 x27 x25 qx x27 (decide ((rd x4 (rd x3 x27)) < 0)) ((aj x25 x27).f0) ((aj x25 x27).f1)) else (none)) else (none)) else (none)) else (aD.j2 k x3 x4 x6 x27 x25 qx x27 false ((aj x25 x27).f0) ((aj x25 x27).f1)))) else (none)) else (none)) else (some x6)
def aD.j2 : Nat -> List Int -> List Int -> List (List Int) -> Int -> List (fq) -> Int -> Int -> Bool -> Int -> Int -> Option ((List (List Int)))
 | 0, _, _, _, _, _, _, _, _, _, _ => none
 | k + 1, x3, x4, x6, x7, x25, qx, x27, x41, a0H, bac => if x41 = true then (if 0 <= x7 then (if x7 < (x3.length : Int) then (if 0 <= (rd x3 x7) then (if (rd x3 x7) < (x4.length : Int) then (if x6.length < 5864062014805 then (aD.l1 k x3 (x4.set ((rd x3 x7) : Int).toNat (x6.length : Int)) (x6 ++ [(([x7] : List Int))]) x25 qx (wrap64 (x27 + 1))) else (none)) else (none)) else (none)) else (none)) else (none)) else (if a0H = 6 then (if 0 <= x7 then (if x7 < (x3.length : Int) then (if 0 <= (rd x3 x7) then (if (rd x3 x7) < (x4.length : Int) then (if 0 <= (rd x4 (rd x3 x7)) then (if (rd x4 (rd x3 x7)) < (x6.length : Int) then (if (aT x6 (rd x4 (rd x3 x7))).length < 17592186044416 then (aD.l1 k x3 x4 (x6.set ((rd x4 (rd x3 x7)) : Int).toNat ((aT x6 (rd x4 (rd x3 x7))) ++ [x7])) x25 qx (wrap64 (x27 + 1))) else (none)) else (none)) else (none)) else (none)) else (none)) else (none)) else (none)) else (aD.l1 k x3 x4 x6 x25 qx (wrap64 (x27 + 1))))
end
def aD.f (k : Nat) (ah : Int) (af : Int) (ae : List (fq)) : Option ((List (List Int))) := (ax.f k ah af ae).bind fun ark => (if 0 <= (ae.length : Int) then (if ((ae.length : Int) : Int).toNat <= 35184372088832 then ((some (List.replicate ((ae.length : Int) : Int).toNat 0 : List Int)).bind fun aWl => (aD.l0 k ark aWl (aWl.length : Int) 0 ah af ae)) else (none)) else (none))
theorem aD.mono_l : ∀ k, (∀ y0 y1 y2 y3 y4 y5 y6, dO (aD.l0 k y0 y1 y2 y3 y4 y5 y6) (aD.l0 (k + 1) y0 y1 y2 y3 y4 y5 y6)) /\ (∀ y0 y1 y2 y3 y4 y5, dO (aD.l1 k y0 y1 y2 y3 y4 y5) (aD.l1 (k + 1) y0 y1 y2 y3 y4 y5)) /\ (∀ y0 y1 y2 y3 y4 y5 y6 y7 y8 y9, dO (aD.j2 k y0 y1 y2 y3 y4 y5 y6 y7 y8 y9) (aD.j2 (k + 1) y0 y1 y2 y3 y4 y5 y6 y7 y8 y9))
 | 0 => by refine ⟨?_, ?_, ?_⟩ <;> (intros; intro r h; first | (simp [aD.l0] at h; done) | (simp [aD.l1] at h; done) | (simp [aD.j2] at h; done))
 | k + 1 => by
  obtain ⟨ja, ih1, ih2⟩ := aD.mono_l k
  refine ⟨?_, ?_, ?_⟩ <;> (
   intros
   first | unfold aD.l0 | unfold aD.l1 | unfold aD.j2
   exact LM4 ja ih1 ih2 ax.mono)
theorem aD.mono : ∀ a0 a1 a2 k, dO (aD.f k a0 a1 a2) (aD.f (k + 1) a0 a1 a2) := by
 intro a0 a1 a2 k
 obtain ⟨ja, ih1, ih2⟩ := aD.mono_l k
 unfold aD.f
 exact LM4 ja ih1 ih2 ax.mono
def aD.T18 : Bool × List (List Nat × List Nat) := (true, [([], []), ([], []), ([], []), ([], []), ([2, 3], [2, 3]), ([4], [4]), ([1, 5], [1, 5]), ([6], [6]), ([], []), ([], []), ([], []), ([], []), ([10, 11], [10, 11]), ([12], [12]), ([9, 13], [9, 13]), ([14], [14]), ([8, 15], [8, 15]), ([16], [16]), ([], []), ([18], [18]), ([17, 19], [17, 19]), ([0, 7, 0, 1, 2, 3, 4, 5, 6, 7, 8, 9, 10, 11, 12, 13, 14, 15, 16, 17, 18, 19, 20], [0, 7]), ([21, 20, 20, 0, 1, 2, 3, 4, 5, 6, 7, 8, 9, 10, 11, 12, 13, 14, 15, 16, 17, 18, 19, 20], [20, 21])])
def aD.B18 : List Nat := [0, 0, 0, 0, 12, 28, 62, 126, 0, 0, 0, 0, 3072, 7168, 15872, 32256, 65280, 130816, 0, 262144, 1048320, 2097151, 4194303]
theorem aD.aa8 : mX .any (opsOf Try.f52 18) = aD.T18 := by kernel_rfl
theorem aD.bits18 : kr aD.T18.2 aD.B18 = true := by kernel_rfl
theorem aD.calls (k : Nat) (ah : Int) (af : Int) (aK : Option Addr) (aJ : Nat) (ae : List (fq)) (r : List (List Int)) (w : World) (dH : Kd.C jZ w aK ae.length ae) (dG : ae.length <= aJ) (h : aD.f k ah af ae = some r) :
 Calls Try.prog 52 #[.agg #[.int .i64 ah, .int .i64 af, .slice aK ae.length aJ]] w fun e w' => ∃ rO : Value, e = .returned (rO) /\ Kd.S (Kd.slice 3 (Kd.int .i64)) 38 w' w.heap.size (fun _ => True) rO r /\ Below w.heap.size w w' := by
 have nH := Try.underlying30
 have xE := Try.underlying83
 have bD := aa.mk dH
 have cO := aa.mk dG
 clear dH dG
 have HB := aa.mk (Below.refl w.heap.size w)
 have H := h
 clear h
 unfold aD.f at H
 replace H := dz H; obtain ⟨ark, A2, H⟩ := H
 replace H := oC H; obtain ⟨c3, H⟩ := H
 have c3b0 := eq_true c3
 have c3b1 := decide_eq_true c3
 clear c3
 replace H := oC H; obtain ⟨c4, H⟩ := H
 have c4b0 := eq_true c4
 have c4b1 := decide_eq_true c4
 clear c4
 replace H := nR H; obtain ⟨aWl, a2i, H⟩ := H
 have H' := aa.mk H
 clear H
 go_enter Try.func52, Try.ntmps52
 go_wp2_with (first | ((with_reducible refine aC (N := 1) rfl ?_); refine dN (cs := #[.int .i64 ah, .int .i64 af, .slice aK ae.length aJ]) (t := 30) ?_; intro aVt hg w5 hbox hb; refine mJ HB.1 hg hbox hb ?_; clear HB; intro HB aoT bd6 bd7; clear hb hbox hg; obtain ⟨oL, oM, tZ, oN, oO, uf⟩ := gB aoT.1) | ((with_reducible refine aA (f := 80) rfl ?_); refine cK (N := (some 10)) #[.agg #[.int .i64 ah, .int .i64 af, .slice aK ae.length aJ]] Try.func80 ?_; (with_reducible refine (ax.calls k ah af _ _ ae ark _ ?side1 ?side2 A2.1).mono ?_); (case side1 => exact CB (aY bD.1 HB.1)); (case side2 => exact cO.1); rintro e w7 ⟨aS4, rfl, ho0, hb⟩; refine ⟨_, rfl, ?_⟩; refine E3 (bN ho0 (bZ HB.1)) (bB aoT.1 hb) (bS HB.1 hb) ?_; clear aoT HB; intro aVu aoT HB; (try clear hb); (try clear ho0); obtain ⟨lZ, l5, mR, l6, l7, mU⟩ := gB aoT.1) | ((with_reducible refine aC (N := 14) rfl ?_); refine yH (Kd.int .i64) _ 3 rfl (N := 14) rfl 38 _ _ rfl (ae.length : Int) rfl rfl Try.underlying38 (.int .i64 0) 8 info3 rfl (by decide) (by omega) 0 (ok := fun _ => True) (okp := fun _ => True) rfl (fun _ hk => hk) trivial (OD) (Nat.le_trans (Nat.mul_le_mul_right _ (OD : (ae.length : Int).toNat <= 35184372088832)) (by omega)) (Below.refl _ _) (Nat.le_refl _) ?_; intro v183 w9 I7 hb hg_ hnew_; clear hg_ hnew_; (first | rw [<- a2i.1] at I7 | (simp only [Int.reduceToNat] at I7; rw [<- a2i.1] at I7)); refine E4 (eT (PR aVu.1) (fe I7) hb) (bN (iI I7 (iL (PR aVu.1))) (bZ HB.1)) (bB aoT.1 hb) (bS HB.1 hb) ?_; clear aVu aoT HB; intro aVu a2j aoT HB; clear hb I7; obtain ⟨DT, sM, TP⟩ := bv a2j.1; subst TP))
 go_loopg [17] k (fun kq v17 w' => ∃ (kT : List Int) (eB : Int), v17 = .int .i64 eB /\ aa (aD.l0 kq ark kT (aWl.length : Int) eB ah af ae = some r) /\ aa (kq <= k) /\ aa (Kd.R (Kd.int .i64) 3 w' w.heap.size (fun k_ => some k_ ≠ ((.slice DT aWl.length sM) : Value).ownBlock) aS4 ark) /\ aa (Kd.R (Kd.int .i64) 3 w' w.heap.size (fun k_ => some k_ ≠ (aS4 : Value).ownBlock) (.slice DT aWl.length sM) kT) /\ aa (w'.heap[aVt]? = some (.cells #[.int .i64 ah, .int .i64 af, (.slice aK ae.length aJ)] 30 (0, 0))) /\ aa (Below w.heap.size w w'))
 case atStart => exact ⟨(aWl), (0), RG, H', ⟨Nat.le_refl _⟩, ⟨pm (aG aVu.1 (fun _ hk => hk.2))⟩, ⟨pm (aG a2j.1 (fun _ hk => hk.2))⟩, ⟨PB aoT.1⟩, ⟨BL HB.1⟩⟩
 clear H'
 clear c3b0 c3b1 c4b0 c4b1 oL oM tZ lZ l5 mR oN oO uf l6 l7 mU
 obtain ⟨kT, eB, rfl, HA, iB, HO_3, HO_4, aoT, HB⟩ := hrel
 have kK := (ay HO_4.1).1
 rw [kK] at HO_4
 (try simp only [kK])
 (try simp only [kK] at aoT)
 (try simp only [kK] at HO_3)
 cases gk with
 | zero => exact absurd HA.1 (by simp [aD.l0])
 | succ k1 => ?_
 have H := HA.1
 clear HA
 simp only [aD.l0] at H
 replace H := pu H; rcases H with ⟨c12b0, H⟩ | ⟨c12b0, H⟩
 · replace H := ji H; obtain ⟨c13b0, H⟩ := H
   replace H := ji H; obtain ⟨c14b0, H⟩ := H
   generalize a2k : ((kT.set (eB : Int).toNat (-1)) : List Int) = a8v at H
   have a8w := aa.mk a2k.symm; clear a2k
   have H' := aa.mk H
   clear H
   have p15 : 0 <= (eB : Int) := OD
   have q15 : (eB : Int) < ((kT.length : Int) : Int) := OD
   obtain ⟨EE, anC, TQ, aa9, anD, aEM, aba⟩ := mQ HO_4.1 (by omega)
   (first | cases TQ | (injection TQ with ea_ en_ ec_; (first | subst ea_ | (injection ea_ with ea_; subst ea_)); subst ec_; clear en_))
   have atd := aa.mk aa9
   have ate := aa.mk aba
   clear aa9 anD aba
   obtain ⟨abb, abd⟩ := lC 0 HO_4.1 (eB : Int) p15 q15
   replace p15 := eq_true p15
   replace q15 := eq_true q15
   have anE := qV HO_4.1 (eB : Int) (-1)
   go_wp2_with (first | ((with_reducible refine gK (t := 3) (p := 22) rfl ?_); refine lX (t := 3) (p := 22) (w1 := (wr.setCell ⟨EE, (eB : Int).toNat, none⟩ (.int .i64 (-1)))) ?_; intro Vn hw; have hg : wr.grownBy Vn (some EE) := (by rw [hw]; exact anE.2); have hp_ : Kd.R (Kd.int .i64) 3 Vn w.heap.size (fun k_ => some k_ ≠ (aS4 : Value).ownBlock) (.slice (some ⟨EE, 0, none⟩) kT.length sM) a8v := (by rw [hw, a8w.1]; exact anE.1); clear anE; refine E4 (iX (v := (.slice (some ⟨EE, 0, none⟩) kT.length sM)) (v1 := (.slice (some ⟨EE, 0, none⟩) kT.length sM)) (ok := (fun _ => True)) (pm (aG HO_3.1 (fun _ hk => ⟨trivial, hk⟩))) hg (.inl rfl)) (hp_) (bG aoT.1 hg (dK HO_4.1 aoT.1 (by decide))) ((by rw [hw]; exact il (HB.1) atd.1 : Below w.heap.size w Vn)) ?_; clear HO_3 HO_4 aoT HB; intro HO_3 HO_4 aoT HB; clear hg hw hp_))
   (try simp only [<- kK])
   go_roundg k1
   case measure => have := iB.1; omega
   case rel => exact ⟨(a8v), (wrap64 (eB + 1)), RG, H', ⟨by have := iB.1; omega⟩, ⟨by (try simp only [kK]); (with_reducible repeat (first | apply aV | apply aW | apply aQ)); exact aG HO_3.1 (fun _ hk => hk.2)⟩, ⟨ER HO_4.1 kK⟩, ⟨Er aoT.1 kK⟩, ⟨BL HB.1⟩⟩
 (try simp only [kK] at c12b0)
 have H' := aa.mk H
 clear H
 obtain ⟨qN, qO, rV, qP, qQ, rW⟩ := gB aoT.1
 go_wp2
 go_loopg [6, 27] k1 (fun kq v6 v27 w' => ∃ (kZ : List Int) (iT : List (List Int)) (dW : Int), v27 = .int .i64 dW /\ aa (aD.l1 kq ark kZ iT ae (ae.length : Int) dW = some r) /\ aa (kq <= k1) /\ aa (Kd.R (Kd.int .i64) 3 w' w.heap.size (fun k_ => some k_ ≠ ((.slice DT kT.length sM) : Value).ownBlock) aS4 ark) /\ aa (Kd.R (Kd.int .i64) 3 w' w.heap.size (fun k_ => some k_ ≠ (aS4 : Value).ownBlock) (.slice DT kT.length sM) kZ) /\ aa (Kd.S (Kd.slice 3 (Kd.int .i64)) 38 w' w.heap.size (fun k_ => some k_ ≠ (aS4 : Value).ownBlock /\ some k_ ≠ ((.slice DT kT.length sM) : Value).ownBlock) v6 iT) /\ aa (w'.heap[aVt]? = some (.cells #[.int .i64 ah, .int .i64 af, (.slice aK ae.length aJ)] 30 (0, 0))) /\ aa (Below w.heap.size w w'))
 case atStart => exact ⟨(kT), (([] : List (List Int))), (0), RG, H', ⟨Nat.le_refl _⟩, ⟨ER HO_3.1 kK⟩, ⟨ER HO_4.1 kK⟩, ⟨by (try simp only [kK]); first | exact EY _ _ _ _ _ | exact ET _ _ _ _ _ | exact EU _ _ _ _ _ | exact EW _ _ _ _ _ | exact tO _ _ _ _ _⟩, ⟨Er aoT.1 kK⟩, ⟨BL HB.1⟩⟩
 clear H'
 clear c12b0 qN qO rV qP qQ rW
 obtain ⟨kZ, iT, dW, rfl, HA, nG, HO_3, HO_4, HO_6, aoT, HB⟩ := hrel
 have lm := (ay HO_4.1).1
 rw [lm] at HO_4
 (try simp only [lm])
 (try simp only [lm] at aoT)
 (try simp only [lm] at HO_3)
 (try simp only [lm] at HO_6)
 cases gk with
 | zero => exact absurd HA.1 (by simp [aD.l1])
 | succ k2 => ?_
 have H := HA.1
 clear HA
 simp only [aD.l1] at H
 replace H := pu H; rcases H with ⟨c19b0, H⟩ | ⟨c19b0, H⟩
 · replace H := ji H; obtain ⟨c20b0, H⟩ := H
   replace H := ji H; obtain ⟨c21b0, H⟩ := H
   replace H := oP H; rcases H with ⟨c22, H⟩ | ⟨c22, H⟩
   · have c22b0 := beq_iff_eq.mpr c22
     have c22b1 := bne_eq_false_iff_eq.mpr c22
     clear c22
     generalize a2l : ((([dW] : List Int)) : List Int) = a0I at H
     have a2m := aa.mk a2l.symm; clear a2l
     replace H := oC H; obtain ⟨c23, H⟩ := H
     have atf := aa.mk c23
     clear c23
     generalize a2n : ((iT ++ [a0I]) : List (List Int)) = bbQ at H
     have a8x := aa.mk a2n.symm; clear a2n
     have H' := aa.mk H
     clear H
     have aVv : 0 <= (dW : Int) := OD
     have aVw : dW < (ae.length : Int) := OD
     obtain ⟨aY4, a4T, aKW, aLl⟩ := iP bD.1 dW aVv aVw
     cases a4T
     replace aKW := (HB.1.cell (World.block_lt_of_cell? w _ aKW)).trans aKW
     replace aLl := (HB.1.cell (World.block_lt_of_cell? w _ aLl)).trans aLl
     replace aVv := eq_true aVv
     replace aVw := eq_true aVw
     go_wp2_with (first | ((with_reducible refine aC (N := 8) rfl ?_); refine dN (cs := #[.int .i64 0, .int .i64 0]) (t := 83) ?_; intro asf hg Mi hbox hb; refine E10 (rB HO_3.1 hb) (rB HO_4.1 hb) (sB HO_6.1 hb) (bB aoT.1 hb) (bS HB.1 hb) (hbox) (gX HB.1 hg) (gX HB.1 hg) (nB aoT.1 hg) (nC aoT.1 hg) ?_; clear HO_3 HO_4 HO_6 aoT HB; intro HO_3 HO_4 HO_6 aoT HB aq5 a8y a8z aEB aSN; clear hb hbox hg; have aJr := aSN.1; have aJs := aEB.1; obtain ⟨xM, xN, xO, xP⟩ := nO aq5.1) | ((with_reducible refine aC (N := 38) rfl ?_); refine qh (Kd.int .i64) _ 3 ?hg (N := 38) ?hd (xs := ([dW] : List Int)) (inner := [.int .i64 dW]) (ok := fun _ => True) (okp := fun _ => True) ?hr ?hp (fun _ hk => hk) trivial (Below.refl _ _) (Nat.le_refl _) (by simp) ?_; (case hd => rfl); (case hg => rfl); (case hr => first | (go_simp; done) | (go_simp; rfl)); (case hp => exact (fK.one (show Kd.M (Kd.int .i64) _ _ _ dW [.int .i64 dW] from rfl) (fK.none _ _))); intro bgO w27 QY hb hg_ hnew_; clear hg_ hnew_; (first | rw [<- a2m.1] at QY | (simp only [Int.reduceToNat] at QY; rw [<- a2m.1] at QY)); refine E7 (eT (by (with_reducible repeat (first | apply aV | apply aW | apply aQ)); exact (aG (RQ asf 1 (RQ asf 0 (bz HO_3.1 aq5.1 (by decide)) _) _) (fun _ h_ => h_.1))) (fe QY) hb) (eT (by (with_reducible repeat (first | apply aV | apply aW | apply aQ)); exact (aG (RQ asf 1 (RQ asf 0 (bz HO_4.1 aq5.1 (by decide)) _) _) (fun _ h_ => h_.1))) (fe QY) hb) (kW (by (with_reducible repeat (first | apply jF | apply jG | apply iV)); exact (eY (SQ asf 1 (SQ asf 0 (kG HO_6.1 aq5.1 (by decide)) _) _) (fun _ h_ => h_.1))) (fe QY) hb) (bN (iI (iI QY (iL (by (with_reducible repeat (first | apply aV | apply aW | apply aQ)); exact (aG (RQ asf 1 (RQ asf 0 (bz HO_3.1 aq5.1 (by decide)) _) _) (fun _ h_ => h_.1))))) (iL (by (with_reducible repeat (first | apply aV | apply aW | apply aQ)); exact (aG (RQ asf 1 (RQ asf 0 (bz HO_4.1 aq5.1 (by decide)) _) _) (fun _ h_ => h_.1))))) (bZ HB.1)) (dh (g := aVt) (o := .cells #[.int .i64 ah, .int .i64 af, .slice (some aY4) ae.length aJ] 30 (0, 0)) (xB aEB.1 aoT.1) hb) (dh (g := asf) (o := .cells #[.int .i64 ((aj ae dW).f0), .int .i64 ((aj ae dW).f1)] 83 (0, 0)) (BB aq5.1) hb) (bS HB.1 hb) ?_; clear HO_3 HO_4 HO_6 aoT aq5 HB; intro HO_3 HO_4 HO_6 aWZ aoT aq5 HB; clear hb QY; obtain ⟨atj, atl, aEO⟩ := bv aWZ.1; subst aEO) | ((with_reducible refine bf (b := .append) (xs := #[.tmp 36, .tmp 39]) rfl ?_); at_builtin; refine uV (Kd.slice 3 (Kd.int .i64)) (w0 := w) w.heap.size rfl (.tmp 36) (.tmp 39) 60 38 (.slice none 0 0) 24 rfl Try.underlying60 Ab rfl (by decide) (by omega) u6 iT a0I [.slice atj a0I.length atl] (fun k_ => some k_ ≠ (aS4 : Value).ownBlock /\ some k_ ≠ (.slice DT kZ.length sM : Value).ownBlock) (fun k_ => some k_ = (.slice atj a0I.length atl : Value).ownBlock) rfl rfl ?aP (fun k_ hk_ => ((aG (ok' := fun k_ => ((fun k_ => some k_ ≠ (aS4 : Value).ownBlock /\ some k_ ≠ (.slice DT kZ.length sM : Value).ownBlock)) k_ /\ some k_ ≠ (u6 : Value).ownBlock) (eH (aWZ.1) (jW HO_6.1) (by decide)) (fun k_ hk => ⟨⟨hk.1.1.2, hk.1.2⟩, hk.2⟩))).1 k_ hk_.symm) ?aF ?aO ?aB ?aS ?aL ?_; (case aP => exact BC (aG (jR rfl (aG (ok' := fun k_ => ((fun k_ => some k_ ≠ (aS4 : Value).ownBlock /\ some k_ ≠ (.slice DT kZ.length sM : Value).ownBlock)) k_ /\ some k_ ≠ (u6 : Value).ownBlock) (eH (aWZ.1) (jW HO_6.1) (by decide)) (fun k_ hk => ⟨⟨hk.1.1.2, hk.1.2⟩, hk.2⟩))) (fun _ h_ => h_))); (case aB => exact (BL HB.1)); (case aF => exact (fun k_ hk => ⟨Kd.kX (iL (PR HO_3.1)) k_ hk, Kd.kX (iL (PR HO_4.1)) k_ hk⟩)); (case aO => exact (ES (eY HO_6.1 (fun k_ hk => ⟨⟨hk.1.1, hk.1.2⟩, fun e_ => hk.2 e_⟩)))); (case aS => exact (bZ HB.1)); (case aL => have := atf.1; omega); intro bgQ w29 ho hb hg hat; rw [<- a8x.1] at ho; refine E6 (kF (PR HO_3.1) (jW (PS HO_6.1)) (by decide) hg) (kF (PR HO_4.1) (jW (PS HO_6.1)) (by decide) hg) (bG aoT.1 hg (xe HO_6.1 aoT.1 (by decide))) (bG aq5.1 hg (xe HO_6.1 aq5.1 (by decide))) (hb) (ho) ?_; clear HO_3 HO_4 aoT aq5 HB HO_6 aWZ; intro HO_3 HO_4 aoT aq5 HB a8A; clear ho hb hg hat))
     (try simp only [<- lm])
     go_roundg k2
     case measure => have := iB.1; have := nG.1; omega
     case rel => exact ⟨(kZ), (bbQ), (wrap64 (dW + 1)), RG, H', ⟨by have := iB.1; have := nG.1; omega⟩, ⟨by (try simp only [kK]); (try simp only [lm]); (with_reducible repeat (first | apply aV | apply aW | apply aQ)); exact aG HO_3.1 (fun _ hk => hk.1)⟩, ⟨by (try simp only [kK]); (try simp only [lm]); (with_reducible repeat (first | apply aV | apply aW | apply aQ)); exact aG HO_4.1 (fun _ hk => hk.1)⟩, ⟨PS2 a8A.1 kK lm⟩, ⟨HY aoT.1 kK lm⟩, ⟨BL HB.1⟩⟩
   have c22b0 := beq_eq_false_iff_ne.mpr c22
   have c22b1 := bne_iff_ne.mpr c22
   have anG := aa.mk H
   clear H
   have aVv : 0 <= (dW : Int) := OD
   have aVw : dW < (ae.length : Int) := OD
   obtain ⟨aY4, a4T, aKW, aLl⟩ := iP bD.1 dW aVv aVw
   cases a4T
   replace aKW := (HB.1.cell (World.block_lt_of_cell? w _ aKW)).trans aKW
   replace aLl := (HB.1.cell (World.block_lt_of_cell? w _ aLl)).trans aLl
   replace aVv := eq_true aVv
   replace aVw := eq_true aVw
   go_upto_region 14 with (first | ((with_reducible refine aC (N := 8) rfl ?_); refine dN (cs := #[.int .i64 0, .int .i64 0]) (t := 83) ?_; intro asf hg w32 hbox hb; refine E10 (rB HO_3.1 hb) (rB HO_4.1 hb) (sB HO_6.1 hb) (bB aoT.1 hb) (bS HB.1 hb) (hbox) (gX HB.1 hg) (gX HB.1 hg) (nB aoT.1 hg) (nC aoT.1 hg) ?_; clear HO_3 HO_4 HO_6 aoT HB; intro HO_3 HO_4 HO_6 aoT HB aq5 a8y a8z aEB aSN; clear hb hbox hg; have aJt := aSN.1; have aJu := aEB.1; obtain ⟨V3, V4, V5, V6⟩ := nO aq5.1))
   (try simp only [Act.put, List.setIfInBounds_toArray, List.set_cons_zero, List.set_cons_succ])
   go_cut [41] (fun v41 wc => ∃ (kq : Nat) (TR : Bool), v41 = .bool TR /\ aa (aD.j2 kq ark kZ iT dW ae (ae.length : Int) dW TR ((aj ae dW).f0) ((aj ae dW).f1) = some r) /\ aa (kq <= k2) /\ aa (Kd.R (Kd.int .i64) 3 wc w.heap.size (fun k_ => some k_ ≠ ((.slice DT kZ.length sM) : Value).ownBlock) aS4 ark) /\ aa (Kd.R (Kd.int .i64) 3 wc w.heap.size (fun k_ => some k_ ≠ (aS4 : Value).ownBlock) (.slice DT kZ.length sM) kZ) /\ aa (Kd.S (Kd.slice 3 (Kd.int .i64)) 38 wc w.heap.size (fun k_ => some k_ ≠ (aS4 : Value).ownBlock /\ some k_ ≠ ((.slice DT kZ.length sM) : Value).ownBlock) u6 iT) /\ aa (wc.heap[aVt]? = some (.cells #[.int .i64 ah, .int .i64 af, (.slice (some aY4) ae.length aJ)] 30 (0, 0))) /\ aa (wc.heap[asf]? = some (.cells #[.int .i64 ((aj ae dW).f0), .int .i64 ((aj ae dW).f1)] 83 (0, 0))) /\ aa (Below w.heap.size w wc))
   case first =>
    have H := anG.1
    clear anG
    replace H := oP H; rcases H with ⟨c35, H⟩ | ⟨c35, H⟩
    · have c35b0 := beq_iff_eq.mpr c35
      have c35b1 := bne_eq_false_iff_eq.mpr c35
      clear c35
      (first | rw [c35b0] | (simp only [cz, dF]; rw [c35b0]) | skip)
      replace H := ji H; obtain ⟨c36b0, H⟩ := H
      replace H := ji H; obtain ⟨c37b0, H⟩ := H
      replace H := ji H; obtain ⟨c38b0, H⟩ := H
      have H' := aa.mk H
      clear H
      obtain ⟨JF, JG, JH, JI⟩ := nO aq5.1
      obtain ⟨aOq, aOr, aEP⟩ := bv HO_3.1
      subst aEP
      have a4U : 0 <= (dW : Int) := OD
      have a4V : dW < (ark.length : Int) := OD
      obtain ⟨a2o, bbR, aTg⟩ := Kd.dx (ay HO_3.1).2.2 dW a4U a4V
      cases bbR
      have aTh : a2o.block ≠ asf := Kd.iY (dK HO_3.1 aq5.1 (by decide))
      have aTi : a2o.block ≠ asf := Kd.iY (dK HO_3.1 aq5.1 (by decide))
      replace aTg := (cell_far (p := ⟨asf, 0, none⟩) (by first | (rw [add_block]; exact aTh) | (show (Addr.add _ _).block ≠ _; rw [add_block]; exact aTh) | exact aTh) (.int .i64 ((aj ae dW).f0))).trans aTg
      replace aTg := (cell_far (p := ⟨asf, 1, none⟩) (by first | (rw [add_block]; exact aTi) | (show (Addr.add _ _).block ≠ _; rw [add_block]; exact aTi) | exact aTi) (.int .i64 ((aj ae dW).f1))).trans aTg
      clear aTh
      clear aTi
      replace a4U := eq_true a4U
      replace a4V := eq_true a4V
      have a4W : 0 <= ((rd ark dW) : Int) := OD
      have a4X : (rd ark dW) < (kZ.length : Int) := OD
      obtain ⟨a2p, e195, aTj⟩ := Kd.dx (ay HO_4.1).2.2 (rd ark dW) a4W a4X
      cases e195
      have aTk : a2p.block ≠ asf := Kd.iY (dK HO_4.1 aq5.1 (by decide))
      have aTl : a2p.block ≠ asf := Kd.iY (dK HO_4.1 aq5.1 (by decide))
      replace aTj := (cell_far (p := ⟨asf, 0, none⟩) (by first | (rw [add_block]; exact aTk) | (show (Addr.add _ _).block ≠ _; rw [add_block]; exact aTk) | exact aTk) (.int .i64 ((aj ae dW).f0))).trans aTj
      replace aTj := (cell_far (p := ⟨asf, 1, none⟩) (by first | (rw [add_block]; exact aTl) | (show (Addr.add _ _).block ≠ _; rw [add_block]; exact aTl) | exact aTl) (.int .i64 ((aj ae dW).f1))).trans aTj
      clear aTk
      clear aTl
      replace a4W := eq_true a4W
      replace a4X := eq_true a4X
      go_wp2
      go_meet
      case rel => exact ⟨_, (decide ((rd kZ (rd ark dW)) < 0)), RG, H', ⟨by have := iB.1; have := nG.1; first | omega | exact Nat.le_refl _⟩, ⟨by (try simp only [kK]); (try simp only [lm]); (with_reducible repeat (first | apply aV | apply aW | apply aQ)); exact aG (RQ asf 1 (RQ asf 0 (bz HO_3.1 aq5.1 (by decide)) _) _) (fun _ hk => hk.1)⟩, ⟨by (try simp only [kK]); (try simp only [lm]); (with_reducible repeat (first | apply aV | apply aW | apply aQ)); exact aG (RQ asf 1 (RQ asf 0 (bz HO_4.1 aq5.1 (by decide)) _) _) (fun _ hk => hk.1)⟩, ⟨by (try simp only [kK]); (try simp only [lm]); (with_reducible repeat (first | apply jF | apply jG | apply iV)); exact eY (SQ asf 1 (SQ asf 0 (kG HO_6.1 aq5.1 (by decide)) _) _) (fun _ hk => ⟨hk.1.1, hk.1.2⟩)⟩, ⟨by (try simp only [kK]); (try simp only [lm]); (with_reducible repeat (first | refine ak ?_ _ | refine ag ?_ | refine au ?_ _)); refine bu ?_ aEB.1 _; (with_reducible repeat (first | refine ak ?_ _ | refine ag ?_ | refine au ?_ _)); refine bu ?_ aEB.1 _; (with_reducible repeat (first | refine ak ?_ _ | refine ag ?_ | refine au ?_ _)); exact aoT.1⟩, ⟨by (try simp only [kK]); (try simp only [lm]); (with_reducible repeat (first | refine ak ?_ _ | refine ag ?_ | refine au ?_ _)); refine gy (cs := #[.int .i64 ((aj ae dW).f0), .int .i64 0]) ?_ 1 _ rfl; (with_reducible repeat (first | refine ak ?_ _ | refine ag ?_ | refine au ?_ _)); refine gy (cs := #[.int .i64 0, .int .i64 0]) ?_ 0 _ rfl; (with_reducible repeat (first | refine ak ?_ _ | refine ag ?_ | refine au ?_ _)); exact aq5.1⟩, ⟨BL HB.1⟩⟩
    have c35b0 := beq_eq_false_iff_ne.mpr c35
    have c35b1 := bne_iff_ne.mpr c35
    (first | rw [c35b0] | (simp only [cz, dF]; rw [c35b0]) | skip)
    have H' := aa.mk H
    clear H
    obtain ⟨ae7, ae8, ae9, afa⟩ := nO aq5.1
    go_wp2
    go_meet
    case rel => exact ⟨_, (false), RG, H', ⟨by have := iB.1; have := nG.1; first | omega | exact Nat.le_refl _⟩, ⟨by (try simp only [kK]); (try simp only [lm]); (with_reducible repeat (first | apply aV | apply aW | apply aQ)); exact aG (RQ asf 1 (RQ asf 0 (bz HO_3.1 aq5.1 (by decide)) _) _) (fun _ hk => hk.1)⟩, ⟨by (try simp only [kK]); (try simp only [lm]); (with_reducible repeat (first | apply aV | apply aW | apply aQ)); exact aG (RQ asf 1 (RQ asf 0 (bz HO_4.1 aq5.1 (by decide)) _) _) (fun _ hk => hk.1)⟩, ⟨by (try simp only [kK]); (try simp only [lm]); (with_reducible repeat (first | apply jF | apply jG | apply iV)); exact eY (SQ asf 1 (SQ asf 0 (kG HO_6.1 aq5.1 (by decide)) _) _) (fun _ hk => ⟨hk.1.1, hk.1.2⟩)⟩, ⟨by (try simp only [kK]); (try simp only [lm]); (with_reducible repeat (first | refine ak ?_ _ | refine ag ?_ | refine au ?_ _)); refine bu ?_ aEB.1 _; (with_reducible repeat (first | refine ak ?_ _ | refine ag ?_ | refine au ?_ _)); refine bu ?_ aEB.1 _; (with_reducible repeat (first | refine ak ?_ _ | refine ag ?_ | refine au ?_ _)); exact aoT.1⟩, ⟨by (try simp only [kK]); (try simp only [lm]); (with_reducible repeat (first | refine ak ?_ _ | refine ag ?_ | refine au ?_ _)); refine gy (cs := #[.int .i64 ((aj ae dW).f0), .int .i64 0]) ?_ 1 _ rfl; (with_reducible repeat (first | refine ak ?_ _ | refine ag ?_ | refine au ?_ _)); refine gy (cs := #[.int .i64 0, .int .i64 0]) ?_ 0 _ rfl; (with_reducible repeat (first | refine ak ?_ _ | refine ag ?_ | refine au ?_ _)); exact aq5.1⟩, ⟨BL HB.1⟩⟩
   clear anG
   try clear c22; try clear aKW; try clear aLl; try clear aVv; try clear aVw; clear c19b0 c20b0 c21b0 c22b0 c22b1 V3 V4 V5 V6
   obtain ⟨kq, TR, rfl, HA, Yw, HO_3, HO_4, HO_6, aoT, aq5, HB⟩ := hcut
   cases kq with
   | zero => exact absurd HA.1 (by simp [aD.j2])
   | succ anL => ?_
   have H := HA.1
   clear HA
   simp only [aD.j2] at H
   replace H := Cm H; rcases H with ⟨rfl, H⟩ | ⟨rfl, H⟩
   · replace H := ji H; obtain ⟨c45b0, H⟩ := H
     replace H := ji H; obtain ⟨c46b0, H⟩ := H
     replace H := ji H; obtain ⟨c47b0, H⟩ := H
     replace H := ji H; obtain ⟨c48b0, H⟩ := H
     generalize a2q : ((kZ.set ((rd ark dW) : Int).toNat (iT.length : Int)) : List Int) = a8B at H
     have a8C := aa.mk a2q.symm; clear a2q
     generalize a2r : ((([dW] : List Int)) : List Int) = a0J at H
     have a2s := aa.mk a2r.symm; clear a2r
     replace H := oC H; obtain ⟨c50, H⟩ := H
     have atp := aa.mk c50
     clear c50
     generalize a2t : ((iT ++ [a0J]) : List (List Int)) = bbS at H
     have a8D := aa.mk a2t.symm; clear a2t
     have H' := aa.mk H
     clear H
     obtain ⟨aOs, Yx, afc⟩ := bv HO_3.1
     subst afc
     have a4Y : 0 <= (dW : Int) := OD
     have a4Z : dW < (ark.length : Int) := OD
     obtain ⟨aVx, bbT, bae⟩ := Kd.dx (ay HO_3.1).2.2 dW a4Y a4Z
     cases bbT
     replace a4Y := eq_true a4Y
     replace a4Z := eq_true a4Z
     obtain ⟨anO, anP, aET⟩ := mq HO_6.1
     subst aET
     have p49 : 0 <= ((rd ark dW) : Int) := OD
     have q49 : ((rd ark dW) : Int) < ((kZ.length : Int) : Int) := OD
     obtain ⟨MB, K5, Q0, atr, aEV, aOt, att⟩ := mQ HO_4.1 (by omega)
     (first | cases Q0 | (injection Q0 with ea_ en_ ec_; (first | subst ea_ | (injection ea_ with ea_; subst ea_)); subst ec_; clear en_))
     have aEW := aa.mk atr
     have aOu := aa.mk att
     clear atr aEV att
     obtain ⟨aEX, aEY⟩ := lC 0 HO_4.1 ((rd ark dW) : Int) p49 q49
     replace p49 := eq_true p49
     replace q49 := eq_true q49
     have K6 := qV HO_4.1 ((rd ark dW) : Int) (iT.length : Int)
     go_wp2_with (first | ((with_reducible refine gK (t := 3) (p := 62) rfl ?_); refine lX (t := 3) (p := 62) (w1 := (wc.setCell ⟨MB, ((rd ark dW) : Int).toNat, none⟩ (.int .i64 (iT.length : Int)))) ?_; intro w54 hw; have hg : wc.grownBy w54 (some MB) := (by rw [hw]; exact K6.2); have hp_ : Kd.R (Kd.int .i64) 3 w54 w.heap.size (fun k_ => some k_ ≠ (.slice (some aVx) ark.length Yx : Value).ownBlock) (.slice (some ⟨MB, 0, none⟩) kZ.length sM) a8B := (by rw [hw, a8C.1]; exact K6.1); clear K6; refine E6 (iX (v := (.slice (some ⟨MB, 0, none⟩) kZ.length sM)) (v1 := (.slice (some ⟨MB, 0, none⟩) kZ.length sM)) (ok := (fun _ => True)) (pm (aG HO_3.1 (fun _ hk => ⟨trivial, hk⟩))) hg (.inl rfl)) (hp_) (CK (v := (.slice (some ⟨MB, 0, none⟩) kZ.length sM)) (v1 := (.slice (some ⟨MB, 0, none⟩) kZ.length sM)) (ok := (fun k_ => some k_ ≠ (.slice (some aVx) ark.length Yx : Value).ownBlock)) (PS HO_6.1) hg (.inl rfl)) (bG aoT.1 hg (dK HO_4.1 aoT.1 (by decide))) (bG aq5.1 hg (dK HO_4.1 aq5.1 (by decide))) ((by rw [hw]; exact il (HB.1) aEW.1 : Below w.heap.size w w54)) ?_; clear HO_3 HO_4 HO_6 aoT aq5 HB; intro HO_3 HO_4 HO_6 aoT aq5 HB; clear hg hw hp_) | ((with_reducible refine aC (N := 65) rfl ?_); refine qh (Kd.int .i64) _ 3 ?hg (N := 65) ?hd (xs := ([dW] : List Int)) (inner := [.int .i64 dW]) (ok := fun _ => True) (okp := fun _ => True) ?hr ?hp (fun _ hk => hk) trivial (Below.refl _ _) (Nat.le_refl _) (by simp) ?_; (case hd => rfl); (case hg => rfl); (case hr => first | (go_simp; done) | (go_simp; rfl)); (case hp => exact (fK.one (show Kd.M (Kd.int .i64) _ _ _ dW [.int .i64 dW] from rfl) (fK.none _ _))); intro bgR w55 DU hb hg_ hnew_; clear hg_ hnew_; (first | rw [<- a2s.1] at DU | (simp only [Int.reduceToNat] at DU; rw [<- a2s.1] at DU)); refine E7 (eT (PR HO_3.1) (fe DU) hb) (eT (PR HO_4.1) (fe DU) hb) (kW (PS HO_6.1) (fe DU) hb) (bN (iI (iI DU (iL (PR HO_3.1))) (iL (PR HO_4.1))) (bZ HB.1)) (bB aoT.1 hb) (bB aq5.1 hb) (bS HB.1 hb) ?_; clear HO_3 HO_4 HO_6 aoT aq5 HB; intro HO_3 HO_4 HO_6 aW0 aoT aq5 HB; clear hb DU; obtain ⟨afd, afe, anR⟩ := bv aW0.1; subst anR) | ((with_reducible refine bf (b := .append) (xs := #[.tmp 63, .tmp 66]) rfl ?_); at_builtin; refine uV (Kd.slice 3 (Kd.int .i64)) (w0 := w) w.heap.size rfl (.tmp 63) (.tmp 66) 60 38 (.slice none 0 0) 24 rfl Try.underlying60 Ab rfl (by decide) (by omega) (.slice anO iT.length anP) iT a0J [.slice afd a0J.length afe] (fun k_ => some k_ ≠ (.slice (some aVx) ark.length Yx : Value).ownBlock /\ some k_ ≠ (.slice (some ⟨MB, 0, none⟩) kZ.length sM : Value).ownBlock) (fun k_ => some k_ = (.slice afd a0J.length afe : Value).ownBlock) rfl rfl ?aP (fun k_ hk_ => ((aG (ok' := fun k_ => ((fun k_ => some k_ ≠ (.slice (some aVx) ark.length Yx : Value).ownBlock /\ some k_ ≠ (.slice (some ⟨MB, 0, none⟩) kZ.length sM : Value).ownBlock)) k_ /\ some k_ ≠ (.slice anO iT.length anP : Value).ownBlock) (eH (aW0.1) (jW HO_6.1) (by decide)) (fun k_ hk => ⟨⟨hk.1.1.2, hk.1.2⟩, hk.2⟩))).1 k_ hk_.symm) ?aF ?aO ?aB ?aS ?aL ?_; (case aP => exact BC (aG (jR rfl (aG (ok' := fun k_ => ((fun k_ => some k_ ≠ (.slice (some aVx) ark.length Yx : Value).ownBlock /\ some k_ ≠ (.slice (some ⟨MB, 0, none⟩) kZ.length sM : Value).ownBlock)) k_ /\ some k_ ≠ (.slice anO iT.length anP : Value).ownBlock) (eH (aW0.1) (jW HO_6.1) (by decide)) (fun k_ hk => ⟨⟨hk.1.1.2, hk.1.2⟩, hk.2⟩))) (fun _ h_ => h_))); (case aB => exact (BL HB.1)); (case aF => exact (fun k_ hk => ⟨Kd.kX (iL (PR HO_3.1)) k_ hk, Kd.kX (iL (PR HO_4.1)) k_ hk⟩)); (case aO => exact (ES (eY HO_6.1 (fun k_ hk => ⟨⟨hk.1.1, hk.1.2⟩, fun e_ => hk.2 e_⟩)))); (case aS => exact (bZ HB.1)); (case aL => have := atp.1; omega); intro bgS w57 ho hb hg hat; rw [<- a8D.1] at ho; refine E6 (kF (PR HO_3.1) (jW (PS HO_6.1)) (by decide) hg) (kF (PR HO_4.1) (jW (PS HO_6.1)) (by decide) hg) (bG aoT.1 hg (xe HO_6.1 aoT.1 (by decide))) (bG aq5.1 hg (xe HO_6.1 aq5.1 (by decide))) (hb) (ho) ?_; clear HO_3 HO_4 aoT aq5 HB HO_6 aW0; intro HO_3 HO_4 aoT aq5 HB a8E; clear ho hb hg hat))
     (try simp only [<- lm])
     go_roundg anL
     case measure => have := iB.1; have := nG.1; have := Yw.1; omega
     case rel => exact ⟨(a8B), (bbS), (wrap64 (dW + 1)), RG, H', ⟨by have := iB.1; have := nG.1; have := Yw.1; omega⟩, ⟨by (try simp only [kK]); (try simp only [lm]); (with_reducible repeat (first | apply aV | apply aW | apply aQ)); exact aG HO_3.1 (fun _ hk => hk.1.2)⟩, ⟨by (try simp only [kK]); (try simp only [lm]); (with_reducible repeat (first | apply aV | apply aW | apply aQ)); exact aG HO_4.1 (fun _ hk => hk.1)⟩, ⟨PS2 a8E.1 kK lm⟩, ⟨HY aoT.1 kK lm⟩, ⟨BL HB.1⟩⟩
   replace H := oP H; rcases H with ⟨c59, H⟩ | ⟨c59, H⟩
   · have c59b0 := beq_iff_eq.mpr c59
     have c59b1 := bne_eq_false_iff_eq.mpr c59
     clear c59
     replace H := ji H; obtain ⟨c60b0, H⟩ := H
     replace H := ji H; obtain ⟨c61b0, H⟩ := H
     replace H := ji H; obtain ⟨c62b0, H⟩ := H
     replace H := ji H; obtain ⟨c63b0, H⟩ := H
     replace H := ji H; obtain ⟨c64b0, H⟩ := H
     replace H := ji H; obtain ⟨c65b0, H⟩ := H
     replace H := oC H; obtain ⟨c66, H⟩ := H
     have atv := aa.mk c66
     clear c66
     generalize a2u : (((aT iT (rd kZ (rd ark dW))) ++ [dW]) : List Int) = aY5 at H
     have a8G := aa.mk a2u.symm; clear a2u
     generalize a2v : ((iT.set ((rd kZ (rd ark dW)) : Int).toNat aY5) : List (List Int)) = bbV at H
     have a8H := aa.mk a2v.symm; clear a2v
     have H' := aa.mk H
     clear H
     obtain ⟨azy, azz, azA, azB⟩ := nO aq5.1
     try go_wp2
     refine E6 (aQ HO_3.1) (aQ HO_4.1) (iV HO_6.1) (ag aoT.1) (ag aq5.1) (dm HB.1) ?_
     clear HO_3 HO_4 HO_6 aoT aq5 HB
     intro HO_3 HO_4 HO_6 aoT aq5 HB
     obtain ⟨aOx, aE0, aty⟩ := bv HO_3.1
     (first | subst aty | (injection aty with rY zZ rZ; have z8 := rY.symm; have Aa := rZ.symm; clear rY zZ rZ; subst z8; subst Aa))
     have a5a : 0 <= (dW : Int) := OD
     have a5b : dW < (ark.length : Int) := OD
     obtain ⟨aW1, e204, aW2⟩ := Kd.dx (ay HO_3.1).2.2 dW a5a a5b
     cases e204
     replace a5a := eq_true a5a
     replace a5b := eq_true a5b
     have a5c : 0 <= ((rd ark dW) : Int) := OD
     have a5d : (rd ark dW) < (kZ.length : Int) := OD
     obtain ⟨aW3, bbW, aW4⟩ := Kd.dx (ay HO_4.1).2.2 (rd ark dW) a5c a5d
     cases bbW
     replace a5c := eq_true a5c
     replace a5d := eq_true a5d
     have a5e : 0 <= (dW : Int) := OD
     have a5f : dW < (ark.length : Int) := OD
     obtain ⟨a8I, e206, aW5⟩ := Kd.dx (ay HO_3.1).2.2 dW a5e a5f
     obtain rfl : aW1 = a8I := (by injection e206)
     replace a5e := eq_true a5e
     replace a5f := eq_true a5f
     have a5g : 0 <= ((rd ark dW) : Int) := OD
     have a5h : (rd ark dW) < (kZ.length : Int) := OD
     obtain ⟨a8J, e207, aW6⟩ := Kd.dx (ay HO_4.1).2.2 (rd ark dW) a5g a5h
     obtain rfl : aW3 = a8J := (by injection e207)
     replace a5g := eq_true a5g
     replace a5h := eq_true a5h
     obtain ⟨aOy, aOz, atB⟩ := mq HO_6.1
     (first | subst atB | (injection atB with rY zZ rZ; have z8 := rY.symm; have Aa := rZ.symm; clear rY zZ rZ; subst z8; subst Aa))
     have a0L : 0 <= ((rd kZ (rd ark dW)) : Int) := OD
     have a0M : (rd kZ (rd ark dW)) < (iT.length : Int) := OD
     obtain ⟨bd8, aWm, aWn, e208, aR9, aW7, aW8⟩ := tT (fJ HO_6.1).2.2 (rd kZ (rd ark dW)) a0L a0M
     cases e208
     obtain ⟨bd9, a5i, a5j, aY6⟩ := BF HO_6.1 [] (rd kZ (rd ark dW)) a0L (by first | exact a0M | exact OD | (have e_ := (fJ HO_6.1).1; omega))
     obtain ⟨baf, rfl, aUC⟩ := a5j
     have aSa := aY6 0 _ rfl
     rw [Nat.add_zero, show ((Kd.slice 3 (Kd.int .i64))).sz = 1 from rfl, Nat.mul_one] at aSa
     replace aSa := Option.some.inj (aSa.symm.trans aR9)
     rw [aSa] at aUC
     have apz := aa.mk (show Kd.R (Kd.int .i64) 3 _ _ _ _ (aT iT (rd kZ (rd ark dW))) from aUC)
     clear aSa aUC
     have aW9 := aa.mk aR9
     clear aY6 a5i
     have a0N := aa.mk aW8
     have bag := aa.mk aW7
     clear aW8 aW7
     replace a0L := eq_true a0L
     replace a0M := eq_true a0M
     obtain ⟨Yz, aE1, afi, atC, aE2, aOA, atD⟩ := Ol HO_6.1 (by have h_ : ((rd kZ (rd ark dW)) : Int) < ((iT.length : Int) : Int) := OD; have qi : 0 <= ((rd kZ (rd ark dW)) : Int) := (OD); omega)
     (first | cases afi | (injection afi with ea_ en_ ec_; (first | subst ea_ | (injection ea_ with ea_; subst ea_)); subst ec_; clear en_))
     have aOB := aa.mk atC
     have aE3 := aa.mk atD
     clear atC aE2 atD
     (first | simp only [add_plain] at aR9 | skip)
     obtain ⟨ajd, aOC, atE, aE4, aje, _, _, atF⟩ := KN HO_6.1 [] ((rd kZ (rd ark dW)) : Int) (OD) (by have h_ : ((rd kZ (rd ark dW)) : Int) < ((iT.length : Int) : Int) := OD; first | exact h_ | (have e_ := (fJ HO_6.1).1; omega) | simpa using h_)
     obtain ⟨aE5, rfl, abh⟩ := aE4
     have abj := aje 0 _ rfl
     have an2 := aW9.1
     (try simp only [add_plain] at an2)
     (try simp only [Nat.add_zero] at abj)
     (try rw [show ((Kd.slice 3 (Kd.int .i64))).sz = 1 from rfl, Nat.mul_one] at abj)
     replace abj := Option.some.inj (abj.symm.trans an2)
     subst abj
     clear an2 aje atE
     have afj := aa.mk (show Kd.R (Kd.int .i64) 3 _ w.heap.size ajd (.slice aWm (aT iT (rd kZ (rd ark dW))).length aWn) (aT iT (rd kZ (rd ark dW))) from abh)
     have TU := aa.mk atF
     have an3 := aa.mk (fJ HO_6.1).1
     clear atF abh
     refine jN (n := 23) (S := fun w' => w'.cell? (aW1.add (dW).toNat) = some (.int .i64 (rd ark dW)) /\ w'.cell? (aW3.add ((rd ark dW)).toNat) = some (.int .i64 (rd kZ (rd ark dW))) /\ w'.cell? (aW1.add (dW).toNat) = some (.int .i64 (rd ark dW)) /\ w'.cell? (aW3.add ((rd ark dW)).toNat) = some (.int .i64 (rd kZ (rd ark dW))) /\ w'.cell? ⟨Yz, ((rd kZ (rd ark dW))).toNat, none⟩ = some (.slice aWm (aT iT (rd kZ (rd ark dW))).length aWn)) (ds := [22]) #[Zz,Zz,Zz,Zz,Zz,Zz,Zz,Zz,Zz,Zz,Zz,Zz,Zz,Zz,Zz,Zz,Zz,Zz,Zz,Zz,Zz,Zz,Zz] (by kernel_rfl) rfl rfl ⟨aW2, aW4, aW5, aW6, aR9⟩ (fun hHeld => ?_); refine iq aD.aa8 aD.bits18 (fun HT_ HW_ => ?_)
     generalize wc.drew = w70 at HO_3 HO_4 HO_6 aoT aq5 HB aE3 TU apz a0N aW9 afj aW2 aW4 aW5 aW6 aR9 hHeld ⊢
     refine aU 0 (N := some 72) HT_.1 ?_
     refine aU 1 (N := some 73) HT_.1 ?_
     refine aU 2 (N := some 74) HT_.1 ?_
     refine aU 3 (N := some 75) HT_.1 ?_
     refine aU 4 (N := some 76) HT_.1 ?_
     refine aU 8 (N := some 80) HT_.1 ?_
     refine aU 9 (N := some 81) HT_.1 ?_
     refine aU 10 (N := some 82) HT_.1 ?_
     refine aU 11 (N := some 83) HT_.1 ?_
     refine aU 12 (N := some 84) HT_.1 ?_
     refine aU 18 (N := some 90) HT_.1 ?_
     refine gF 5 (N := some 77) HT_.1 HW_.1 hHeld ?_
     refine aU 6 (N := some 78) HT_.1 ?_
     refine gF 7 (N := some 79) HT_.1 HW_.1 hHeld ?_
     refine gF 13 (N := some 85) HT_.1 HW_.1 hHeld ?_
     refine aU 14 (N := some 86) HT_.1 ?_
     refine gF 15 (N := some 87) HT_.1 HW_.1 hHeld ?_
     refine aU 16 (N := some 88) HT_.1 ?_
     refine gF 17 (N := some 89) HT_.1 HW_.1 hHeld ?_
     refine mV (i := 19) (N := some 91) #[Yy,Yy,Yy,Yy,Yy,Yy,Yy,Yy,Yy,Yy,Yy,Yy,Yy,Yy,Yy,Yy,Yy,Yy,Yy,Yy,Zz,Zz,Zz] rfl rfl (jc HT_.1 (by kernel_rfl)) (by decide) (fun K hK => ?_)
     refine Tp (w1 := ?_) (v := ?_) (by rfl) rfl ?_ ?_
     rotate_left 2
     · go_simp
       constructor
       · rfl
       rfl
     refine hK.out _ _ ⟨(World.cell?_alloc_lt _ _ _ (World.block_lt_of_cell? _ _ (hHeld.1))).trans (hHeld.1), (World.cell?_alloc_lt _ _ _ (World.block_lt_of_cell? _ _ (hHeld.2.1))).trans (hHeld.2.1), (World.cell?_alloc_lt _ _ _ (World.block_lt_of_cell? _ _ (hHeld.2.2.1))).trans (hHeld.2.2.1), (World.cell?_alloc_lt _ _ _ (World.block_lt_of_cell? _ _ (hHeld.2.2.2.1))).trans (hHeld.2.2.2.1), (World.cell?_alloc_lt _ _ _ (World.block_lt_of_cell? _ _ (hHeld.2.2.2.2))).trans (hHeld.2.2.2.2)⟩ (fun hHeld => ?_)
     clear hK K
     refine eX (a' := ?_) ?_ ?_
     rotate_left
     · show Act.put _ (some 91) _ = _
       simp only [Act.put, List.setIfInBounds_toArray, List.set_cons_zero, List.set_cons_succ, cz, dF]
       rfl
     refine mV (i := 20) (N := some 92) #[Yy,Yy,Yy,Yy,Yy,Yy,Yy,Yy,Yy,Yy,Yy,Yy,Yy,Yy,Yy,Yy,Yy,Yy,Yy,Yy,Yy,Zz,Zz] rfl rfl (jc HT_.1 (by kernel_rfl)) (by decide) (fun K hK => ?_)
     refine yG (Kd.int .i64) (w0 := w) w.heap.size (by rfl) (.tmp 89) (.tmp 91) 38 3 (.int .i64 0) 8 rfl Try.underlying38 info3 rfl (by decide) (by omega) (.slice aWm (aT iT (rd kZ (rd ark dW))).length aWn) (aT iT (rd kZ (rd ark dW))) dW [.int .i64 dW] (fun k_ => ajd k_ ∨ ((fun k_ => some k_ ≠ (.slice (some aW1) ark.length aE0 : Value).ownBlock /\ some k_ ≠ (.slice (some aW3) kZ.length sM : Value).ownBlock)) k_ /\ w70.heap.size <= k_) (fun _ => False) rfl rfl ?aP (fun _ hk => hk.elim) ?aF ?aO ?aB ?aS ?aL ?_
     (case aP => exact rfl)
     (case aB => exact (BL HB.1))
     (case aF => exact (fun k_ hk => .inr ⟨⟨Kd.kX (iL (PR HO_3.1)) k_ hk, Kd.kX (iL (PR HO_4.1)) k_ hk⟩, hk⟩))
     (case aO => exact (pm (aG afj.1 (fun _ hk => .inl hk))))
     (case aS => exact (bZ HB.1))
     (case aL => have := atv.1; omega)
     intro v210 w74 ho hb hg hat
     (first | have atG := cell_grown hg (hHeld.1) (by first | (rw [add_block]; exact (fun e_ => ((apz.1.1 _ e_.symm).1.1) rfl)) | (show some (Addr.add _ _).block ≠ _; rw [add_block]; exact (fun e_ => ((apz.1.1 _ e_.symm).1.1) rfl)) | exact (fun e_ => ((apz.1.1 _ e_.symm).1.1) rfl)) | have atG := cell_grown hg (r9 (hHeld.1) (by first | (rw [add_block]; exact iL HO_3.1 _ rfl) | (show (Addr.add _ _).block < _; rw [add_block]; exact iL HO_3.1 _ rfl) | exact iL HO_3.1 _ rfl)) (by first | (rw [add_block]; exact (fun e_ => ((apz.1.1 _ e_.symm).1.1) rfl)) | (show some (Addr.add _ _).block ≠ _; rw [add_block]; exact (fun e_ => ((apz.1.1 _ e_.symm).1.1) rfl)) | exact (fun e_ => ((apz.1.1 _ e_.symm).1.1) rfl)))
     (first | have atH := cell_grown hg (hHeld.2.1) (by first | (rw [add_block]; exact (fun e_ => ((apz.1.1 _ e_.symm).1.2) rfl)) | (show some (Addr.add _ _).block ≠ _; rw [add_block]; exact (fun e_ => ((apz.1.1 _ e_.symm).1.2) rfl)) | exact (fun e_ => ((apz.1.1 _ e_.symm).1.2) rfl)) | have atH := cell_grown hg (r9 (hHeld.2.1) (by first | (rw [add_block]; exact iL HO_4.1 _ rfl) | (show (Addr.add _ _).block < _; rw [add_block]; exact iL HO_4.1 _ rfl) | exact iL HO_4.1 _ rfl)) (by first | (rw [add_block]; exact (fun e_ => ((apz.1.1 _ e_.symm).1.2) rfl)) | (show some (Addr.add _ _).block ≠ _; rw [add_block]; exact (fun e_ => ((apz.1.1 _ e_.symm).1.2) rfl)) | exact (fun e_ => ((apz.1.1 _ e_.symm).1.2) rfl)))
     (first | have atI := cell_grown hg (hHeld.2.2.1) (by first | (rw [add_block]; exact (fun e_ => ((apz.1.1 _ e_.symm).1.1) rfl)) | (show some (Addr.add _ _).block ≠ _; rw [add_block]; exact (fun e_ => ((apz.1.1 _ e_.symm).1.1) rfl)) | exact (fun e_ => ((apz.1.1 _ e_.symm).1.1) rfl)) | have atI := cell_grown hg (r9 (hHeld.2.2.1) (by first | (rw [add_block]; exact iL HO_3.1 _ rfl) | (show (Addr.add _ _).block < _; rw [add_block]; exact iL HO_3.1 _ rfl) | exact iL HO_3.1 _ rfl)) (by first | (rw [add_block]; exact (fun e_ => ((apz.1.1 _ e_.symm).1.1) rfl)) | (show some (Addr.add _ _).block ≠ _; rw [add_block]; exact (fun e_ => ((apz.1.1 _ e_.symm).1.1) rfl)) | exact (fun e_ => ((apz.1.1 _ e_.symm).1.1) rfl)))
     (first | have xF := cell_grown hg (hHeld.2.2.2.1) (by first | (rw [add_block]; exact (fun e_ => ((apz.1.1 _ e_.symm).1.2) rfl)) | (show some (Addr.add _ _).block ≠ _; rw [add_block]; exact (fun e_ => ((apz.1.1 _ e_.symm).1.2) rfl)) | exact (fun e_ => ((apz.1.1 _ e_.symm).1.2) rfl)) | have xF := cell_grown hg (r9 (hHeld.2.2.2.1) (by first | (rw [add_block]; exact iL HO_4.1 _ rfl) | (show (Addr.add _ _).block < _; rw [add_block]; exact iL HO_4.1 _ rfl) | exact iL HO_4.1 _ rfl)) (by first | (rw [add_block]; exact (fun e_ => ((apz.1.1 _ e_.symm).1.2) rfl)) | (show some (Addr.add _ _).block ≠ _; rw [add_block]; exact (fun e_ => ((apz.1.1 _ e_.symm).1.2) rfl)) | exact (fun e_ => ((apz.1.1 _ e_.symm).1.2) rfl)))
     (first | have afk := cell_grown hg (hHeld.2.2.2.2) (by first | (rw [add_block]; exact (fun e_ => ((apz.1.1 _ e_.symm).2) rfl)) | (show some (Addr.add _ _).block ≠ _; rw [add_block]; exact (fun e_ => ((apz.1.1 _ e_.symm).2) rfl)) | exact (fun e_ => ((apz.1.1 _ e_.symm).2) rfl)) | have afk := cell_grown hg (r9 (hHeld.2.2.2.2) (by first | (rw [add_block]; exact aeF HO_6.1 _ rfl) | (show (Addr.add _ _).block < _; rw [add_block]; exact aeF HO_6.1 _ rfl) | exact aeF HO_6.1 _ rfl)) (by first | (rw [add_block]; exact (fun e_ => ((apz.1.1 _ e_.symm).2) rfl)) | (show some (Addr.add _ _).block ≠ _; rw [add_block]; exact (fun e_ => ((apz.1.1 _ e_.symm).2) rfl)) | exact (fun e_ => ((apz.1.1 _ e_.symm).2) rfl)))
     rw [<- a8G.1] at ho
     refine E7 (FC (PR HO_3.1) rfl hg (fun k_ e_ => (apz.1.1 k_ e_).1.1)) (FC (PR HO_4.1) rfl hg (fun k_ e_ => (apz.1.1 k_ e_).1.2)) (bG aoT.1 hg (dK apz.1 aoT.1 (by decide))) (bG aq5.1 hg (dK apz.1 aq5.1 (by decide))) (hb) (Jt (Om (by repeat (first | exact TU.1 | refine Oq ?_ _ | refine Ot ?_ _ | refine Tu ?_))) hg (fun k_ e_ => .inl (afj.1.1 k_ e_))) (ho) ?_
     clear HO_3 HO_4 aoT aq5 HB TU HO_6 afj apz
     intro HO_3 HO_4 aoT aq5 HB TU a2w
     clear ho hb hg hat
     have p67 : 0 <= ((rd kZ (rd ark dW)) : Int) := OD
     have q67 : ((rd kZ (rd ark dW)) : Int) < ((iT.length : Int) : Int) := OD
     replace p67 := eq_true p67
     replace q67 := eq_true q67
     obtain ⟨an4, an5, atJ⟩ := bv a2w.1
     (first | subst atJ | (injection atJ with rY zZ rZ; have z8 := rY.symm; have Aa := rZ.symm; clear rY zZ rZ; subst z8; subst Aa))
     obtain ⟨_, _, hraw75, _, _, ajg, _⟩ := QF TU.1 (OD) (by have h_ : ((rd kZ (rd ark dW)) : Int) < ((iT.length : Int) : Int) := OD; first | exact h_ | (have e_ := (an3.1); omega) | simpa using h_)
     obtain ⟨_, ajh⟩ := am9 TU.1 (OD) (by have h_ : ((rd kZ (rd ark dW)) : Int) < ((iT.length : Int) : Int) := OD; first | exact h_ | (have e_ := (an3.1); omega) | simpa using h_)
     have abk := ajg 0 _ rfl
     have abl := ajh 0
     (try simp only [Nat.add_zero] at abk abl)
     (try rw [show ((Kd.slice 3 (Kd.int .i64))).sz = 1 from rfl, Nat.mul_one] at abk)
     (try rw [show ((Kd.slice 3 (Kd.int .i64))).sz = 1 from rfl, Nat.mul_one] at abl)
     have an6 := Tw TU.1 (OD) (by have h_ : ((rd kZ (rd ark dW)) : Int) < ((iT.length : Int) : Int) := OD; first | exact h_ | (have e_ := (an3.1); omega) | simpa using h_) (seg := [.slice an4 aY5.length an5]) (j := 0) (show 1 <= 1 from by decide) (x' := aY5) (BC a2w.1) (fun _ hk => hk)
     (try simp only [show ((Kd.slice 3 (Kd.int .i64))).sz = 1 from rfl, Nat.mul_one, Nat.add_zero] at an6)
     clear ajg ajh
     have HNB178_go73 := aa.mk (show aVt ≠ Yz from by have h_ := dK hraw75 aoT.1 (by decide); intro e_; exact h_ (by rw [e_]; rfl))
     have HNB187_go73 := aa.mk (show asf ≠ Yz from by have h_ := dK hraw75 aq5.1 (by decide); intro e_; exact h_ (by rw [e_]; rfl))
     have an7 := an6.1
     rw [<- a8H.1] at an7
     have aE6 := aa.mk an7
     obtain ⟨_, aji⟩ := dY hraw75 Yz rfl
     have ajj := aa.mk aji
     clear an6 an7 aji
     refine hK.out _ _ ⟨atG, atH, atI, xF, afk⟩ (fun hHeld => ?_)
     clear hK K
     refine eX (a' := ?_) ?_ ?_
     rotate_left
     · show Act.put _ (some 92) _ = _
       simp only [Act.put, List.setIfInBounds_toArray, List.set_cons_zero, List.set_cons_succ, cz, dF]
       rfl
     refine aU 21 (N := some 93) HT_.1 ?_
     refine BD (i := 22) (N := none) #[Yy,Yy,Yy,Yy,Yy,Yy,Yy,Yy,Yy,Yy,Yy,Yy,Yy,Yy,Yy,Yy,Yy,Yy,Yy,Yy,Yy,Yy,Yy] rfl rfl (jc HT_.1 (by kernel_rfl)) (by decide) (fun K hK => ?_)
     refine pF (w1 := ?_) (by rfl) rfl ?_ ?_
     rotate_left
     · go_simp
       rfl
     refine hK.out _ _ ?_
     clear hK K
     refine lI (jS HT_.1 (by kernel_rfl)) ?_
     try go_wp2
     (try simp only [<- lm])
     go_roundg anL
     case measure => have := iB.1; have := nG.1; have := Yw.1; omega
     case rel => exact ⟨(kZ), (bbV), (wrap64 (dW + 1)), RG, H', ⟨by have := iB.1; have := nG.1; have := Yw.1; omega⟩, ⟨by (try simp only [kK]); (try simp only [lm]); (with_reducible repeat (first | apply aV | apply aW | apply aQ)); exact aG (mY (p := ⟨Yz, ((rd kZ (rd ark dW)) : Int).toNat, none⟩) (bz HO_3.1 ajj.1 (by decide)) (fun _ hk => hk.2) (.slice an4 aY5.length an5)) (fun _ hk => hk.1)⟩, ⟨by (try simp only [kK]); (try simp only [lm]); (with_reducible repeat (first | apply aV | apply aW | apply aQ)); exact aG (mY (p := ⟨Yz, ((rd kZ (rd ark dW)) : Int).toNat, none⟩) (bz HO_4.1 ajj.1 (by decide)) (fun _ hk => hk.2) (.slice an4 aY5.length an5)) (fun _ hk => hk.1)⟩, ⟨PS2 aE6.1 kK lm⟩, ⟨by (try simp only [kK]); (try simp only [lm]); (with_reducible repeat (first | refine ak ?_ _ | refine ag ?_ | refine au ?_ _)); refine bu ?_ HNB178_go73.1 _; (with_reducible repeat (first | refine ak ?_ _ | refine ag ?_ | refine au ?_ _)); exact aoT.1⟩, ⟨BL HB.1⟩⟩
   have c59b0 := beq_eq_false_iff_ne.mpr c59
   have c59b1 := bne_iff_ne.mpr c59
   have H' := aa.mk H
   clear H
   obtain ⟨afl, afm, afn, afo⟩ := nO aq5.1
   go_wp2
   (try simp only [<- lm])
   go_roundg anL
   case measure => have := iB.1; have := nG.1; have := Yw.1; omega
   case rel => exact ⟨(kZ), (iT), (wrap64 (dW + 1)), RG, H', ⟨by have := iB.1; have := nG.1; have := Yw.1; omega⟩, ⟨MZ HO_3.1 kK lm⟩, ⟨MZ HO_4.1 kK lm⟩, ⟨PS2 HO_6.1 kK lm⟩, ⟨HY aoT.1 kK lm⟩, ⟨BL HB.1⟩⟩
 (try simp only [kK, lm] at c19b0)
 obtain rfl := Option.some.inj H
 go_wp2
 go_ret
 exact ⟨_, RF, ES (eY HO_6.1 (fun _ hk => trivial)), BL HB.1⟩
def iw.f (a0 : Int) (a1 : Int) (a2 : Int) : Option (Bool) := if a0 ≥ a1 then (some (decide (a0 <= a2))) else (some false)
theorem iw.calls (a0 : Int) (a1 : Int) (a2 : Int) (r : Bool) (w : World) (h : iw.f a0 a1 a2 = some r) :
 Calls Try.prog 55 #[.int .i64 a0, .int .i64 a1, .int .i64 a2] w fun e w' => e = .returned (.bool r) /\ lY w w' := by
 have H := h
 clear h
 unfold iw.f at H
 replace H := oP H; rcases H with ⟨c4, H⟩ | ⟨c4, H⟩
 · have c4b0 : decide (a1 <= a0) = true := decide_eq_true c4
   clear c4
   obtain rfl := Option.some.inj H
   go_enter Try.func55, Try.ntmps55
   go_wp2
   go_ret
   exact ⟨RG, DR⟩
 have c4b0 : decide (a1 <= a0) = false := decide_eq_false c4
 clear c4
 obtain rfl := Option.some.inj H
 go_enter Try.func55, Try.ntmps55
 go_wp2
 go_ret
 exact ⟨RG, DR⟩
def nI.f (ah : Int) (af : Int) : Option (Bool) := if ah = 3 then (some true) else (some (ah == 6))
theorem nI.calls (ah : Int) (af : Int) (r : Bool) (w : World) (h : nI.f ah af = some r) :
 Calls Try.prog 100 #[.agg #[.int .i64 ah, .int .i64 af]] w fun e w' => e = .returned (.bool r) /\ Below w.heap.size w w' := by
 have xE := Try.underlying83
 have HB := aa.mk (Below.refl w.heap.size w)
 have H := h
 clear h
 unfold nI.f at H
 replace H := oP H; rcases H with ⟨c2, H⟩ | ⟨c2, H⟩
 · have c2b0 := beq_iff_eq.mpr c2
   have c2b1 := bne_eq_false_iff_eq.mpr c2
   clear c2
   obtain rfl := Option.some.inj H
   go_enter Try.func100, Try.ntmps100
   go_wp2_with (first | ((with_reducible refine aC (N := 1) rfl ?_); refine dN (cs := #[.int .i64 ah, .int .i64 af]) (t := 83) ?_; intro a8K hg w3 hbox hb; refine mJ HB.1 hg hbox hb ?_; clear HB; intro HB aY7 a8L a8M; clear hb hbox hg; obtain ⟨Ao, Ap, Aq, Ar⟩ := nO aY7.1))
   go_ret
   exact ⟨RF, BL HB.1⟩
 have c2b0 := beq_eq_false_iff_ne.mpr c2
 have c2b1 := bne_iff_ne.mpr c2
 obtain rfl := Option.some.inj H
 go_enter Try.func100, Try.ntmps100
 go_wp2_with (first | ((with_reducible refine aC (N := 1) rfl ?_); refine dN (cs := #[.int .i64 ah, .int .i64 af]) (t := 83) ?_; intro a8K hg w5 hbox hb; refine mJ HB.1 hg hbox hb ?_; clear HB; intro HB aY7 a8L a8M; clear hb hbox hg; obtain ⟨oL, oM, oN, oO⟩ := nO aY7.1))
 go_ret
 exact ⟨RF, BL HB.1⟩
def nS.f (ah : Int) (af : Int) : Option (Bool) := (iw.f ah 0 7).bind fun a8N => (if a8N = true then (if af = 0 then (some true) else (if af = 1 then ((nI.f ah af).bind fun a5k => (some a5k)) else (some false))) else (some false))
theorem nS.calls (ah : Int) (af : Int) (r : Bool) (w : World) (h : nS.f ah af = some r) :
 Calls Try.prog 93 #[.agg #[.int .i64 ah, .int .i64 af]] w fun e w' => e = .returned (.bool r) /\ Below w.heap.size w w' := by
 have xE := Try.underlying83
 have HB := aa.mk (Below.refl w.heap.size w)
 have H := h
 clear h
 unfold nS.f at H
 replace H := dz H; obtain ⟨a8N, A2, H⟩ := H
 replace H := Cm H; rcases H with ⟨rfl, H⟩ | ⟨rfl, H⟩
 · replace H := oP H; rcases H with ⟨c4, H⟩ | ⟨c4, H⟩
   · have c4b0 := beq_iff_eq.mpr c4
     have c4b1 := bne_eq_false_iff_eq.mpr c4
     clear c4
     obtain rfl := Option.some.inj H
     go_enter Try.func93, Try.ntmps93
     go_wp2_with (first | ((with_reducible refine aC (N := 1) rfl ?_); refine dN (cs := #[.int .i64 ah, .int .i64 af]) (t := 83) ?_; intro aY8 hg w5 hbox hb; refine mJ HB.1 hg hbox hb ?_; clear HB; intro HB aRM aY9 aZa; clear hb hbox hg; obtain ⟨oL, oM, oN, oO⟩ := nO aRM.1) | ((with_reducible refine aA (f := 55) rfl ?_); refine cK (N := (some 5)) #[.int .i64 ah, .int .i64 0, .int .i64 7] Try.func55 ?_; (with_reducible refine (iw.calls ah 0 7 true _ A2.1).mono ?_); rintro e w' ⟨rfl, ⟨nd, rfl⟩⟩; refine ⟨_, rfl, ?_⟩))
     go_ret
     exact ⟨RF, BL HB.1⟩
   have c4b0 := beq_eq_false_iff_ne.mpr c4
   have c4b1 := bne_iff_ne.mpr c4
   replace H := oP H; rcases H with ⟨c7, H⟩ | ⟨c7, H⟩
   · have c7b0 := beq_iff_eq.mpr c7
     have c7b1 := bne_eq_false_iff_eq.mpr c7
     clear c7
     replace H := dz H; obtain ⟨a5k, A8, H⟩ := H
     obtain rfl := Option.some.inj H
     go_enter Try.func93, Try.ntmps93
     go_wp2_with (first | ((with_reducible refine aC (N := 1) rfl ?_); refine dN (cs := #[.int .i64 ah, .int .i64 af]) (t := 83) ?_; intro aY8 hg w9 hbox hb; refine mJ HB.1 hg hbox hb ?_; clear HB; intro HB aRM aY9 aZa; clear hb hbox hg; obtain ⟨pR, pU, pV, pW⟩ := nO aRM.1) | ((with_reducible refine aA (f := 55) rfl ?_); refine cK (N := (some 5)) #[.int .i64 ah, .int .i64 0, .int .i64 7] Try.func55 ?_; (with_reducible refine (iw.calls ah 0 7 true _ A2.1).mono ?_); rintro e w' ⟨rfl, ⟨nd, rfl⟩⟩; refine ⟨_, rfl, ?_⟩) | (go_at_call 100; (with_reducible refine (nI.calls ah af a5k _ A8.1).mono ?_); rintro e qy ⟨rfl, hb⟩; refine E2 (bB aRM.1 hb) (bS HB.1 hb) ?_; clear aRM HB; intro aRM HB; (try clear hb)))
     go_ret
     exact ⟨RF, BL HB.1⟩
   have c7b0 := beq_eq_false_iff_ne.mpr c7
   have c7b1 := bne_iff_ne.mpr c7
   obtain rfl := Option.some.inj H
   go_enter Try.func93, Try.ntmps93
   go_wp2_with (first | ((with_reducible refine aC (N := 1) rfl ?_); refine dN (cs := #[.int .i64 ah, .int .i64 af]) (t := 83) ?_; intro aY8 hg yC hbox hb; refine mJ HB.1 hg hbox hb ?_; clear HB; intro HB aRM aY9 aZa; clear hb hbox hg; obtain ⟨uF, uG, uH, uI⟩ := nO aRM.1) | ((with_reducible refine aA (f := 55) rfl ?_); refine cK (N := (some 5)) #[.int .i64 ah, .int .i64 0, .int .i64 7] Try.func55 ?_; (with_reducible refine (iw.calls ah 0 7 true _ A2.1).mono ?_); rintro e w' ⟨rfl, ⟨nd, rfl⟩⟩; refine ⟨_, rfl, ?_⟩))
   go_ret
   exact ⟨RF, BL HB.1⟩
 obtain rfl := Option.some.inj H
 go_enter Try.func93, Try.ntmps93
 go_wp2_with (first | ((with_reducible refine aC (N := 1) rfl ?_); refine dN (cs := #[.int .i64 ah, .int .i64 af]) (t := 83) ?_; intro aY8 hg yM hbox hb; refine mJ HB.1 hg hbox hb ?_; clear HB; intro HB aRM aY9 aZa; clear hb hbox hg; obtain ⟨sD, sF, sG, sH⟩ := nO aRM.1) | ((with_reducible refine aA (f := 55) rfl ?_); refine cK (N := (some 5)) #[.int .i64 ah, .int .i64 0, .int .i64 7] Try.func55 ?_; (with_reducible refine (iw.calls ah 0 7 false _ A2.1).mono ?_); rintro e w' ⟨rfl, ⟨nd, rfl⟩⟩; refine ⟨_, rfl, ?_⟩))
 go_ret
 exact ⟨RF, BL HB.1⟩

mutual
def bO.j0 : Nat -> Bool -> Int -> Int -> List (fq) -> Option (Bool)
 | 0, _, _, _, _ => none
 | k + 1, x25, bah, bai, aXa => if x25 = true then (some false) else (bO.l0 k aXa (aXa.length : Int) 0)
def bO.l0 : Nat -> List (fq) -> Int -> Int -> Option (Bool)
 | 0, _, _, _ => none
 | k + 1, x27, x28, x29 => if x29 < x28 then (if 0 <= x29 then (if x29 < (x27.length : Int) then ((nS.f ((aj x27 x29).f0) ((aj x27 x29).f1)).bind fun t222 => (if t222 = true then (bO.l0 k x27 x28 (wrap64 (x29 + 1))) else (some false))) else (none)) else (none)) else (some true)
end
def bO.f (k : Nat) (ah : Int) (af : Int) (ae : List (fq)) : Option (Bool) := (iw.f ah 1 10).bind fun t218 => (if t218 = true then ((iw.f af 1 9).bind fun a8O => (if a8O = true then (bO.j0 k ((ae.length : Int) != (wrap64 (ah * af))) ah af ae) else (bO.j0 k true ah af ae))) else (bO.j0 k true ah af ae))
theorem bO.mono_l : ∀ k, (∀ y0 y1 y2 y3, dO (bO.j0 k y0 y1 y2 y3) (bO.j0 (k + 1) y0 y1 y2 y3)) /\ (∀ y0 y1 y2, dO (bO.l0 k y0 y1 y2) (bO.l0 (k + 1) y0 y1 y2))
 | 0 => by refine ⟨?_, ?_⟩ <;> (intros; intro r h; first | (simp [bO.j0] at h; done) | (simp [bO.l0] at h; done))
 | k + 1 => by
  obtain ⟨ja, ih1⟩ := bO.mono_l k
  refine ⟨?_, ?_⟩ <;> (
   intros
   first | unfold bO.j0 | unfold bO.l0
   exact Qj ja ih1)
theorem bO.mono : ∀ a0 a1 a2 k, dO (bO.f k a0 a1 a2) (bO.f (k + 1) a0 a1 a2) := by
 intro a0 a1 a2 k
 obtain ⟨ja, ih1⟩ := bO.mono_l k
 unfold bO.f
 exact Qj ja ih1
theorem bO.calls (k : Nat) (ah : Int) (af : Int) (aK : Option Addr) (aJ : Nat) (ae : List (fq)) (r : Bool) (w : World) (dH : Kd.C jZ w aK ae.length ae) (dG : ae.length <= aJ) (h : bO.f k ah af ae = some r) :
 Calls Try.prog 83 #[.agg #[.int .i64 ah, .int .i64 af, .slice aK ae.length aJ]] w fun e w' => e = .returned (.bool r) /\ Below w.heap.size w w' := by
 have nH := Try.underlying30
 have xE := Try.underlying83
 have bD := aa.mk dH
 have cO := aa.mk dG
 clear dH dG
 have HB := aa.mk (Below.refl w.heap.size w)
 have H := h
 clear h
 unfold bO.f at H
 have HC2 := aa.mk H
 clear H
 go_enter Try.func83, Try.ntmps83
 go_upto_region 1 with (first | ((with_reducible refine aC (N := 1) rfl ?_); (try (refine jT (by rfl) ?_; dsimp only)); refine dN (cs := #[.int .i64 ah, .int .i64 af, .slice aK ae.length aJ]) (t := 30) ?_; intro aXb hg w3 hbox hb; refine mJ HB.1 hg hbox hb ?_; clear HB; intro HB az1 beb bec; clear hb hbox hg))
 (try simp only [Act.put, List.setIfInBounds_toArray, List.set_cons_zero, List.set_cons_succ])
 go_cut [25] (fun v25 wc => ∃ (kq : Nat) (abq : Bool), v25 = .bool abq /\ aa (bO.j0 kq abq ah af ae = some r) /\ aa (kq <= k) /\ aa (wc.heap[aXb]? = some (.cells #[.int .i64 ah, .int .i64 af, (.slice aK ae.length aJ)] 30 (0, 0))) /\ aa (Below w.heap.size w wc))
 case first =>
  have H := HC2.1
  clear HC2
  replace H := dz H; obtain ⟨t218, A4, H⟩ := H
  replace H := Cm H; rcases H with ⟨rfl, H⟩ | ⟨rfl, H⟩
  · replace H := dz H; obtain ⟨a8O, A6, H⟩ := H
    replace H := Cm H; rcases H with ⟨rfl, H⟩ | ⟨rfl, H⟩
    · have H' := aa.mk H
      clear H
      obtain ⟨lZ, l5, mR, l6, l7, mU⟩ := gB az1.1
      go_wp2_with (first | ((with_reducible refine aA (f := 55) rfl ?_); refine cK (N := (some 7)) #[.int .i64 ah, .int .i64 1, .int .i64 10] Try.func55 ?_; (with_reducible refine (iw.calls ah 1 10 true _ A4.1).mono ?_); rintro e w' ⟨rfl, ⟨nd, rfl⟩⟩; refine ⟨_, rfl, ?_⟩) | (go_at_call 55; (with_reducible refine (iw.calls af 1 9 true _ A6.1).mono ?_); rintro e w' ⟨rfl, ⟨nd, rfl⟩⟩))
      go_meet
      case rel => exact ⟨_, (((ae.length : Int) != (wrap64 (ah * af)))), RG, H', ⟨by first | omega | exact Nat.le_refl _⟩, ⟨PB az1.1⟩, ⟨BL HB.1⟩⟩
    have H' := aa.mk H
    clear H
    obtain ⟨Ej, El, NS, Em, En, NT⟩ := gB az1.1
    go_wp2_with (first | ((with_reducible refine aA (f := 55) rfl ?_); refine cK (N := (some 7)) #[.int .i64 ah, .int .i64 1, .int .i64 10] Try.func55 ?_; (with_reducible refine (iw.calls ah 1 10 true _ A4.1).mono ?_); rintro e w' ⟨rfl, ⟨nd, rfl⟩⟩; refine ⟨_, rfl, ?_⟩) | (go_at_call 55; (with_reducible refine (iw.calls af 1 9 false _ A6.1).mono ?_); rintro e w' ⟨rfl, ⟨nd, rfl⟩⟩))
    go_meet
    case rel => exact ⟨_, (true), RG, H', ⟨by first | omega | exact Nat.le_refl _⟩, ⟨PB az1.1⟩, ⟨BL HB.1⟩⟩
  have H' := aa.mk H
  clear H
  obtain ⟨pR, pU, uN, pV, pW, uO⟩ := gB az1.1
  go_wp2_with (first | ((with_reducible refine aA (f := 55) rfl ?_); refine cK (N := (some 7)) #[.int .i64 ah, .int .i64 1, .int .i64 10] Try.func55 ?_; (with_reducible refine (iw.calls ah 1 10 false _ A4.1).mono ?_); rintro e w' ⟨rfl, ⟨nd, rfl⟩⟩; refine ⟨_, rfl, ?_⟩))
  go_meet
  case rel => exact ⟨_, (true), RG, H', ⟨by first | omega | exact Nat.le_refl _⟩, ⟨PB az1.1⟩, ⟨BL HB.1⟩⟩
 clear HC2
 obtain ⟨kq, abq, rfl, HA, HJ1, az1, HB⟩ := hcut
 cases kq with
 | zero => exact absurd HA.1 (by simp [bO.j0])
 | succ kj1 => ?_
 have H := HA.1
 clear HA
 simp only [bO.j0] at H
 replace H := Cm H; rcases H with ⟨rfl, H⟩ | ⟨rfl, H⟩
 · obtain rfl := Option.some.inj H
   go_wp2
   go_ret
   exact ⟨RF, BL HB.1⟩
 have H' := aa.mk H
 clear H
 obtain ⟨vT, vU, xI, vV, vW, xJ⟩ := gB az1.1
 go_wp2
 go_loopg [29] kj1 (fun kq v29 w' => ∃ (qj : Int), v29 = .int .i64 qj /\ aa (bO.l0 kq ae (ae.length : Int) qj = some r) /\ aa (kq <= kj1) /\ aa (w'.heap[aXb]? = some (.cells #[.int .i64 ah, .int .i64 af, (.slice aK ae.length aJ)] 30 (0, 0))) /\ aa (Below w.heap.size w w'))
 case atStart => exact ⟨(0), RG, H', ⟨Nat.le_refl _⟩, ⟨PB az1.1⟩, ⟨BL HB.1⟩⟩
 clear H'
 clear vT vU xI vV vW xJ
 obtain ⟨qj, rfl, HA, nG, az1, HB⟩ := hrel
 cases gk with
 | zero => exact absurd HA.1 (by simp [bO.l0])
 | succ k2 => ?_
 have H := HA.1
 clear HA
 simp only [bO.l0] at H
 replace H := pu H; rcases H with ⟨c13b0, H⟩ | ⟨c13b0, H⟩
 · replace H := ji H; obtain ⟨c14b0, H⟩ := H
   replace H := ji H; obtain ⟨c15b0, H⟩ := H
   replace H := dz H; obtain ⟨t222, A16, H⟩ := H
   replace H := Cm H; rcases H with ⟨rfl, H⟩ | ⟨rfl, H⟩
   · have H' := aa.mk H
     clear H
     have aWo : 0 <= (qj : Int) := OD
     have aWp : qj < (ae.length : Int) := OD
     obtain ⟨aZb, e220, aN3, aN4⟩ := iP bD.1 qj aWo aWp
     cases e220
     replace aN3 := (HB.1.cell (World.block_lt_of_cell? w _ aN3)).trans aN3
     replace aN4 := (HB.1.cell (World.block_lt_of_cell? w _ aN4)).trans aN4
     replace aWo := eq_true aWo
     replace aWp := eq_true aWp
     go_wp2_with (first | ((with_reducible refine aC (N := 4) rfl ?_); (try (refine jT (by rfl) ?_; dsimp only)); refine dN (cs := #[.int .i64 0, .int .i64 0]) (t := 83) ?_; intro aZc hg w18 hbox hb; refine E7 (bB az1.1 hb) (bS HB.1 hb) (hbox) (gX HB.1 hg) (gX HB.1 hg) (nB az1.1 hg) (nC az1.1 hg) ?_; clear az1 HB; intro az1 HB aSb a8P a8Q aNr aSO; clear hb hbox hg; have ajk := aSO.1; have ajl := aNr.1; obtain ⟨wz, wB, wC, wD⟩ := nO aSb.1) | ((with_reducible refine aA (f := 93) rfl ?_); refine cK (N := (some 34)) #[.agg #[.int .i64 ((aj ae qj).f0), .int .i64 ((aj ae qj).f1)]] Try.func93 ?_; (with_reducible refine (nS.calls ((aj ae qj).f0) ((aj ae qj).f1) true _ A16.1).mono ?_); rintro e Qo ⟨rfl, hb⟩; refine ⟨_, rfl, ?_⟩; refine E3 (dh (g := aXb) (o := .cells #[.int .i64 ah, .int .i64 af, .slice (some aZb) ae.length aJ] 30 (0, 0)) (xB aNr.1 az1.1) hb) (dh (g := aZc) (o := .cells #[.int .i64 ((aj ae qj).f0), .int .i64 ((aj ae qj).f1)] 83 (0, 0)) (BB aSb.1) hb) (bS HB.1 hb) ?_; clear az1 aSb HB; intro az1 aSb HB; (try clear hb)))
     go_roundg k2
     case measure => have := HJ1.1; have := nG.1; omega
     case rel => exact ⟨(wrap64 (qj + 1)), RG, H', ⟨by have := HJ1.1; have := nG.1; omega⟩, ⟨PB az1.1⟩, ⟨BL HB.1⟩⟩
   obtain rfl := Option.some.inj H
   have aWo : 0 <= (qj : Int) := OD
   have aWp : qj < (ae.length : Int) := OD
   obtain ⟨aZb, e220, aN3, aN4⟩ := iP bD.1 qj aWo aWp
   cases e220
   replace aN3 := (HB.1.cell (World.block_lt_of_cell? w _ aN3)).trans aN3
   replace aN4 := (HB.1.cell (World.block_lt_of_cell? w _ aN4)).trans aN4
   replace aWo := eq_true aWo
   replace aWp := eq_true aWp
   go_wp2_with (first | ((with_reducible refine aC (N := 4) rfl ?_); (try (refine jT (by rfl) ?_; dsimp only)); refine dN (cs := #[.int .i64 0, .int .i64 0]) (t := 83) ?_; intro aZc hg BM hbox hb; refine E7 (bB az1.1 hb) (bS HB.1 hb) (hbox) (gX HB.1 hg) (gX HB.1 hg) (nB az1.1 hg) (nC az1.1 hg) ?_; clear az1 HB; intro az1 HB aSb a8P a8Q aNr aSO; clear hb hbox hg; have atU := aSO.1; have atV := aNr.1; obtain ⟨JP, JQ, JR, JS⟩ := nO aSb.1) | ((with_reducible refine aA (f := 93) rfl ?_); refine cK (N := (some 34)) #[.agg #[.int .i64 ((aj ae qj).f0), .int .i64 ((aj ae qj).f1)]] Try.func93 ?_; (with_reducible refine (nS.calls ((aj ae qj).f0) ((aj ae qj).f1) false _ A16.1).mono ?_); rintro e Mk ⟨rfl, hb⟩; refine ⟨_, rfl, ?_⟩; refine E3 (dh (g := aXb) (o := .cells #[.int .i64 ah, .int .i64 af, .slice (some aZb) ae.length aJ] 30 (0, 0)) (xB aNr.1 az1.1) hb) (dh (g := aZc) (o := .cells #[.int .i64 ((aj ae qj).f0), .int .i64 ((aj ae qj).f1)] 83 (0, 0)) (BB aSb.1) hb) (bS HB.1 hb) ?_; clear az1 aSb HB; intro az1 aSb HB; (try clear hb)))
   go_ret
   exact ⟨RF, BL HB.1⟩
 obtain rfl := Option.some.inj H
 go_wp2
 go_ret
 exact ⟨RF, BL HB.1⟩
end Go.Proofs.Ytbpfdbjnnlmdjaa.P
