--MINI
import Derived.Test.YtbpfdbjnnlmdjaaPx0
import Derived.Test.YtbpfdbjnnlmdjaaPx1
namespace Go.Proofs.Ytbpfdbjnnlmdjaa.P
open Go.RowKit Go.Proofs.YtbpfdbjnnlmdjaaW.PrintWords Go.Proofs.YtbpfdbjnnlmdjaaW.PrintLast Go.Proofs.YtbpfdbjnnlmdjaaW.PrintMore
attribute [local go_sem] rQ rR vR vS pO pQ rT rU
set_option linter.unusedVariables false
set_option linter.unusedSimpArgs false
set_option maxHeartbeats 8000000
set_option maxRecDepth 100000
open Kd
mutual
def aD.l0 : Nat -> List Int -> List Int -> Int -> Int -> Int -> Int -> List (fq) -> Option ((List (List Int)))
 | 0, _, _, _, _, _, _, _ => none
 | k + 1, x3, x4, HZ, xC, ae2, ae3, OG => if xC < HZ then (if 0 <= xC then (if xC < (x4.length : Int) then (aD.l0 k x3 (x4.set (xC : Int).toNat (-1)) HZ (wrap64 (xC + 1)) ae2 ae3 OG) else (none)) else (none)) else (aD.l1 k x3 x4 ([] : List (List Int)) OG (OG.length : Int) 0)
def aD.l1 : Nat -> List Int -> List Int -> List (List Int) -> List (fq) -> Int -> Int -> Option ((List (List Int)))
 | 0, _, _, _, _, _, _ => none
 | k + 1, x3, x4, x6, x25, qx, x27 => if x27 < qx then (if 0 <= x27 then (if x27 < (x25.length : Int) then (if ((aj x25 x27).f0) = 3 then (if x6.length < 5864062014805 then (aD.l1 k x3 x4 (x6 ++ [(([x27] : List Int))]) x25 qx (wrap64 (x27 + 1))) else (none)) else (if ((aj x25 x27).f0) = 6 then (if x27 < (x3.length : Int) then (if 0 <= (rd x3 x27) then (if (rd x3 x27) < (x4.length : Int) then (aD.j2 k x3 x4 x6 x27 x25 qx x27 (decide ((rd x4 (rd x3 x27)) < 0)) ((aj x25 x27).f0) ((aj x25 x27).f1)) else (none)) else (none)) else (none)) else (aD.j2 k x3 x4 x6 x27 x25 qx x27 false ((aj x25 x27).f0) ((aj x25 x27).f1)))) else (none)) else (none)) else (some x6)
def aD.j2 : Nat -> List Int -> List Int -> List (List Int) -> Int -> List (fq) -> Int -> Int -> Bool -> Int -> Int -> Option ((List (List Int)))
 | 0, _, _, _, _, _, _, _, _, _, _ => none
 | k + 1, x3, x4, x6, x7, x25, qx, x27, x41, ae4, azw => if x41 = true then (if 0 <= x7 then (if x7 < (x3.length : Int) then (if 0 <= (rd x3 x7) then (if (rd x3 x7) < (x4.length : Int) then (if x6.length < 5864062014805 then (aD.l1 k x3 (x4.set ((rd x3 x7) : Int).toNat (x6.length : Int)) (x6 ++ [(([x7] : List Int))]) x25 qx (wrap64 (x27 + 1))) else (none)) else (none)) else (none)) else (none)) else (none)) else (if ae4 = 6 then (if 0 <= x7 then (if x7 < (x3.length : Int) then (if 0 <= (rd x3 x7) then (if (rd x3 x7) < (x4.length : Int) then (if 0 <= (rd x4 (rd x3 x7)) then (if (rd x4 (rd x3 x7)) < (x6.length : Int) then (if (aT x6 (rd x4 (rd x3 x7))).length < 17592186044416 then (aD.l1 k x3 x4 (x6.set ((rd x4 (rd x3 x7)) : Int).toNat ((aT x6 (rd x4 (rd x3 x7))) ++ [x7])) x25 qx (wrap64 (x27 + 1))) else (none)) else (none)) else (none)) else (none)) else (none)) else (none)) else (none)) else (aD.l1 k x3 x4 x6 x25 qx (wrap64 (x27 + 1))))
end
def aD.f (k : Nat) (ah : Int) (af : Int) (ae : List (fq)) : Option ((List (List Int))) := (ax.f k ah af ae).bind fun j4 => (if 0 <= (ae.length : Int) then (if ((ae.length : Int) : Int).toNat <= 35184372088832 then ((some (List.replicate ((ae.length : Int) : Int).toNat 0 : List Int)).bind fun TN => (aD.l0 k j4 TN (TN.length : Int) 0 ah af ae)) else (none)) else (none))
theorem aD.mono_l : ∀ k, (∀ y0 y1 y2 y3 y4 y5 y6, dO (aD.l0 k y0 y1 y2 y3 y4 y5 y6) (aD.l0 (k + 1) y0 y1 y2 y3 y4 y5 y6)) /\ (∀ y0 y1 y2 y3 y4 y5, dO (aD.l1 k y0 y1 y2 y3 y4 y5) (aD.l1 (k + 1) y0 y1 y2 y3 y4 y5)) /\ (∀ y0 y1 y2 y3 y4 y5 y6 y7 y8 y9, dO (aD.j2 k y0 y1 y2 y3 y4 y5 y6 y7 y8 y9) (aD.j2 (k + 1) y0 y1 y2 y3 y4 y5 y6 y7 y8 y9))
 | 0 => by refine ⟨?_, ?_, ?_⟩ <;> (intros; intro r h; first | (simp [aD.l0] at h; done) | (simp [aD.l1] at h; done) | (simp [aD.j2] at h; done))
 | k + 1 => by
  obtain ⟨ja, ih1, ih2⟩ := aD.mono_l k
  refine ⟨?_, ?_, ?_⟩ <;> (
   intros
   first | unfold aD.l0 | unfold aD.l1 | unfold aD.j2
   exact LM4 ja ih1 ih2 ax.mono)
theorem aD.mono : ∀ a0 a1 a2 k, dO (aD.f k a0 a1 a2) (aD.f (k + 1) a0 a1 a2) := by
 intro a0 a1 a2 k
 obtain ⟨ja, ih1, ih2⟩ := aD.mono_l k
 unfold aD.f
 exact LM4 ja ih1 ih2 ax.mono
def aD.T18 : Bool × List (List Nat × List Nat) := (true, [([], []), ([], []), ([], []), ([], []), ([2, 3], [2, 3]), ([4], [4]), ([1, 5], [1, 5]), ([6], [6]), ([], []), ([], []), ([], []), ([], []), ([10, 11], [10, 11]), ([12], [12]), ([9, 13], [9, 13]), ([14], [14]), ([8, 15], [8, 15]), ([16], [16]), ([], []), ([18], [18]), ([17, 19], [17, 19]), ([0, 7, 0, 1, 2, 3, 4, 5, 6, 7, 8, 9, 10, 11, 12, 13, 14, 15, 16, 17, 18, 19, 20], [0, 7]), ([21, 20, 20, 0, 1, 2, 3, 4, 5, 6, 7, 8, 9, 10, 11, 12, 13, 14, 15, 16, 17, 18, 19, 20], [20, 21])])
def aD.B18 : List Nat := [0, 0, 0, 0, 12, 28, 62, 126, 0, 0, 0, 0, 3072, 7168, 15872, 32256, 65280, 130816, 0, 262144, 1048320, 2097151, 4194303]
theorem aD.aa8 : mX .any (opsOf Try.f52 18) = aD.T18 := by kernel_rfl
theorem aD.bits18 : kr aD.T18.2 aD.B18 = true := by kernel_rfl
theorem aD.calls (k : Nat) (ah : Int) (af : Int) (aK : Option Addr) (aJ : Nat) (ae : List (fq)) (r : List (List Int)) (w : World) (dH : Kd.C jZ w aK ae.length ae) (dG : ae.length <= aJ) (h : aD.f k ah af ae = some r) :
 Calls Try.prog 52 #[.agg #[.int .i64 ah, .int .i64 af, .slice aK ae.length aJ]] w fun e w' => ∃ rO : Value, e = .returned (rO) /\ Kd.S (Kd.slice 3 (Kd.int .i64)) 38 w' w.heap.size (fun _ => True) rO r /\ Below w.heap.size w w' := by
 have nH := Try.underlying30
 have xE := Try.underlying83
 have bD := aa.mk dH
 have cO := aa.mk dG
 clear dH dG
 have HB := aa.mk (Below.refl w.heap.size w)
 have H := h
 clear h
 unfold aD.f at H
 replace H := dz H; obtain ⟨j4, A2, H⟩ := H
 replace H := oC H; obtain ⟨c3, H⟩ := H
 have c3b0 := eq_true c3
 have c3b1 := decide_eq_true c3
 clear c3
 replace H := oC H; obtain ⟨c4, H⟩ := H
 have c4b0 := eq_true c4
 have c4b1 := decide_eq_true c4
 clear c4
 replace H := nR H; obtain ⟨TN, aiZ, H⟩ := H
 have H' := aa.mk H
 clear H
 go_enter Try.func52, Try.ntmps52
 go_wp2_with (first | ((with_reducible refine aC (N := 1) rfl ?_); refine dN (cs := #[.int .i64 ah, .int .i64 af, .slice aK ae.length aJ]) (t := 30) ?_; intro QU hg w5 hbox hb; refine mJ HB.1 hg hbox hb ?_; clear HB; intro HB iA aJp aJq; clear hb hbox hg; obtain ⟨oL, oM, tZ, oN, oO, uf⟩ := gB iA.1) | ((with_reducible refine aA (f := 80) rfl ?_); refine cK (N := (some 10)) #[.agg #[.int .i64 ah, .int .i64 af, .slice aK ae.length aJ]] Try.func80 ?_; (with_reducible refine (ax.calls k ah af _ _ ae j4 _ ?side1 ?side2 A2.1).mono ?_); (case side1 => exact CB (aY bD.1 HB.1)); (case side2 => exact cO.1); rintro e w7 ⟨I6, rfl, ho0, hb⟩; refine ⟨_, rfl, ?_⟩; refine E3 (bN ho0 (bZ HB.1)) (bB iA.1 hb) (bS HB.1 hb) ?_; clear iA HB; intro QV iA HB; (try clear hb); (try clear ho0); obtain ⟨lZ, l5, mR, l6, l7, mU⟩ := gB iA.1) | ((with_reducible refine aC (N := 14) rfl ?_); refine yH (Kd.int .i64) _ 3 rfl (N := 14) rfl 38 _ _ rfl (ae.length : Int) rfl rfl Try.underlying38 (.int .i64 0) 8 info3 rfl (by decide) (by omega) 0 (ok := fun _ => True) (okp := fun _ => True) rfl (fun _ hk => hk) trivial (OD) (Nat.le_trans (Nat.mul_le_mul_right _ (OD : (ae.length : Int).toNat <= 35184372088832)) (by omega)) (Below.refl _ _) (Nat.le_refl _) ?_; intro aOo w9 I7 hb hg_ hnew_; clear hg_ hnew_; (first | rw [<- aiZ.1] at I7 | (simp only [Int.reduceToNat] at I7; rw [<- aiZ.1] at I7)); refine E4 (eT (PR QV.1) (fe I7) hb) (bN (iI I7 (iL (PR QV.1))) (bZ HB.1)) (bB iA.1 hb) (bS HB.1 hb) ?_; clear QV iA HB; intro QV ai0 iA HB; clear hb I7; obtain ⟨DT, sM, TP⟩ := bv ai0.1; subst TP))
 go_loopg [17] k (fun kq v17 w' => ∃ (kT : List Int) (eB : Int), v17 = .int .i64 eB /\ aa (aD.l0 kq j4 kT (TN.length : Int) eB ah af ae = some r) /\ aa (kq <= k) /\ aa (Kd.R (Kd.int .i64) 3 w' w.heap.size (fun k_ => some k_ ≠ ((.slice DT TN.length sM) : Value).ownBlock) I6 j4) /\ aa (Kd.R (Kd.int .i64) 3 w' w.heap.size (fun k_ => some k_ ≠ (I6 : Value).ownBlock) (.slice DT TN.length sM) kT) /\ aa (w'.heap[QU]? = some (.cells #[.int .i64 ah, .int .i64 af, (.slice aK ae.length aJ)] 30 (0, 0))) /\ aa (Below w.heap.size w w'))
 case atStart => exact ⟨(TN), (0), RG, H', ⟨Nat.le_refl _⟩, ⟨pm (aG QV.1 (fun _ hk => hk.2))⟩, ⟨pm (aG ai0.1 (fun _ hk => hk.2))⟩, ⟨PB iA.1⟩, ⟨BL HB.1⟩⟩
 clear H'
 clear c3b0 c3b1 c4b0 c4b1 oL oM tZ lZ l5 mR oN oO uf l6 l7 mU
 obtain ⟨kT, eB, rfl, HA, iB, HO_3, HO_4, iA, HB⟩ := hrel
 have kK := (ay HO_4.1).1
 rw [kK] at HO_4
 (try simp only [kK])
 (try simp only [kK] at iA)
 (try simp only [kK] at HO_3)
 cases gk with
 | zero => exact absurd HA.1 (by simp [aD.l0])
 | succ k1 => ?_
 have H := HA.1
 clear HA
 simp only [aD.l0] at H
 replace H := pu H; rcases H with ⟨c12b0, H⟩ | ⟨c12b0, H⟩
 · replace H := ji H; obtain ⟨c13b0, H⟩ := H
   replace H := ji H; obtain ⟨c14b0, H⟩ := H
   generalize ai1 : ((kT.set (eB : Int).toNat (-1)) : List Int) = atb at H
   have atc := aa.mk ai1.symm; clear ai1
   have H' := aa.mk H
   clear H
   have p15 : 0 <= (eB : Int) := OD
   have q15 : (eB : Int) < ((kT.length : Int) : Int) := OD
   obtain ⟨EE, anC, TQ, aa9, anD, aEM, aba⟩ := mQ HO_4.1 (by omega)
   (first | cases TQ | (injection TQ with ea_ en_ ec_; (first | subst ea_ | (injection ea_ with ea_; subst ea_)); subst ec_; clear en_))
   have atd := aa.mk aa9
   have ate := aa.mk aba
   clear aa9 anD aba
   obtain ⟨abb, abd⟩ := lC 0 HO_4.1 (eB : Int) p15 q15
   replace p15 := eq_true p15
   replace q15 := eq_true q15
   have anE := qV HO_4.1 (eB : Int) (-1)
   go_wp2_with (first | ((with_reducible refine gK (t := 3) (p := 22) rfl ?_); refine lX (t := 3) (p := 22) (w1 := (wr.setCell ⟨EE, (eB : Int).toNat, none⟩ (.int .i64 (-1)))) ?_; intro Vn hw; have hg : wr.grownBy Vn (some EE) := (by rw [hw]; exact anE.2); have hp_ : Kd.R (Kd.int .i64) 3 Vn w.heap.size (fun k_ => some k_ ≠ (I6 : Value).ownBlock) (.slice (some ⟨EE, 0, none⟩) kT.length sM) atb := (by rw [hw, atc.1]; exact anE.1); clear anE; refine E4 (iX (v := (.slice (some ⟨EE, 0, none⟩) kT.length sM)) (v1 := (.slice (some ⟨EE, 0, none⟩) kT.length sM)) (ok := (fun _ => True)) (pm (aG HO_3.1 (fun _ hk => ⟨trivial, hk⟩))) hg (.inl rfl)) (hp_) (bG iA.1 hg (dK HO_4.1 iA.1 (by decide))) ((by rw [hw]; exact il (HB.1) atd.1 : Below w.heap.size w Vn)) ?_; clear HO_3 HO_4 iA HB; intro HO_3 HO_4 iA HB; clear hg hw hp_))
   (try simp only [<- kK])
   go_roundg k1
   case measure => have := iB.1; omega
   case rel => exact ⟨(atb), (wrap64 (eB + 1)), RG, H', ⟨by have := iB.1; omega⟩, ⟨by (try simp only [kK]); (with_reducible repeat (first | apply aV | apply aW | apply aQ)); exact aG HO_3.1 (fun _ hk => hk.2)⟩, ⟨ER HO_4.1 kK⟩, ⟨Er iA.1 kK⟩, ⟨BL HB.1⟩⟩
 (try simp only [kK] at c12b0)
 have H' := aa.mk H
 clear H
 obtain ⟨qN, qO, rV, qP, qQ, rW⟩ := gB iA.1
 go_wp2
 go_loopg [6, 27] k1 (fun kq v6 v27 w' => ∃ (kZ : List Int) (iT : List (List Int)) (dW : Int), v27 = .int .i64 dW /\ aa (aD.l1 kq j4 kZ iT ae (ae.length : Int) dW = some r) /\ aa (kq <= k1) /\ aa (Kd.R (Kd.int .i64) 3 w' w.heap.size (fun k_ => some k_ ≠ ((.slice DT kT.length sM) : Value).ownBlock) I6 j4) /\ aa (Kd.R (Kd.int .i64) 3 w' w.heap.size (fun k_ => some k_ ≠ (I6 : Value).ownBlock) (.slice DT kT.length sM) kZ) /\ aa (Kd.S (Kd.slice 3 (Kd.int .i64)) 38 w' w.heap.size (fun k_ => some k_ ≠ (I6 : Value).ownBlock /\ some k_ ≠ ((.slice DT kT.length sM) : Value).ownBlock) v6 iT) /\ aa (w'.heap[QU]? = some (.cells #[.int .i64 ah, .int .i64 af, (.slice aK ae.length aJ)] 30 (0, 0))) /\ aa (Below w.heap.size w w'))
 case atStart => exact ⟨(kT), (([] : List (List Int))), (0), RG, H', ⟨Nat.le_refl _⟩, ⟨ER HO_3.1 kK⟩, ⟨ER HO_4.1 kK⟩, ⟨by (try simp only [kK]); first | exact EY _ _ _ _ _ | exact ET _ _ _ _ _ | exact EU _ _ _ _ _ | exact EW _ _ _ _ _ | exact tO _ _ _ _ _⟩, ⟨Er iA.1 kK⟩, ⟨BL HB.1⟩⟩
 clear H'
 clear c12b0 qN qO rV qP qQ rW
 obtain ⟨kZ, iT, dW, rfl, HA, nG, HO_3, HO_4, HO_6, iA, HB⟩ := hrel
 have lm := (ay HO_4.1).1
 rw [lm] at HO_4
 (try simp only [lm])
 (try simp only [lm] at iA)
 (try simp only [lm] at HO_3)
 (try simp only [lm] at HO_6)
 cases gk with
 | zero => exact absurd HA.1 (by simp [aD.l1])
 | succ k2 => ?_
 have H := HA.1
 clear HA
 simp only [aD.l1] at H
 replace H := pu H; rcases H with ⟨c19b0, H⟩ | ⟨c19b0, H⟩
 · replace H := ji H; obtain ⟨c20b0, H⟩ := H
   replace H := ji H; obtain ⟨c21b0, H⟩ := H
   replace H := oP H; rcases H with ⟨c22, H⟩ | ⟨c22, H⟩
   · have c22b0 := beq_iff_eq.mpr c22
     have c22b1 := bne_eq_false_iff_eq.mpr c22
     clear c22
     generalize ai2 : ((([dW] : List Int)) : List Int) = ae6 at H
     have ai3 := aa.mk ai2.symm; clear ai2
     replace H := oC H; obtain ⟨c23, H⟩ := H
     have atf := aa.mk c23
     clear c23
     generalize ai4 : ((iT ++ [ae6]) : List (List Int)) = aEN at H
     have atg := aa.mk ai4.symm; clear ai4
     have H' := aa.mk H
     clear H
     have QW : 0 <= (dW : Int) := OD
     have QX : dW < (ae.length : Int) := OD
     obtain ⟨abe, anF, xX, xY⟩ := iP bD.1 dW QW QX
     cases anF
     replace xX := (HB.1.cell (World.block_lt_of_cell? w _ xX)).trans xX
     replace xY := (HB.1.cell (World.block_lt_of_cell? w _ xY)).trans xY
     replace QW := eq_true QW
     replace QX := eq_true QX
     go_wp2_with (first | ((with_reducible refine aC (N := 8) rfl ?_); refine dN (cs := #[.int .i64 0, .int .i64 0]) (t := 83) ?_; intro lQ hg Mi hbox hb; refine E10 (rB HO_3.1 hb) (rB HO_4.1 hb) (sB HO_6.1 hb) (bB iA.1 hb) (bS HB.1 hb) (hbox) (gX HB.1 hg) (gX HB.1 hg) (nB iA.1 hg) (nC iA.1 hg) ?_; clear HO_3 HO_4 HO_6 iA HB; intro HO_3 HO_4 HO_6 iA HB jl ath ati rf Ih; clear hb hbox hg; have aJr := Ih.1; have aJs := rf.1; obtain ⟨xM, xN, xO, xP⟩ := nO jl.1) | ((with_reducible refine aC (N := 38) rfl ?_); refine qh (Kd.int .i64) _ 3 ?hg (N := 38) ?hd (xs := ([dW] : List Int)) (inner := [.int .i64 dW]) (ok := fun _ => True) (okp := fun _ => True) ?hr ?hp (fun _ hk => hk) trivial (Below.refl _ _) (Nat.le_refl _) (by simp) ?_; (case hd => rfl); (case hg => rfl); (case hr => first | (go_simp; done) | (go_simp; rfl)); (case hp => exact (fK.one (show Kd.M (Kd.int .i64) _ _ _ dW [.int .i64 dW] from rfl) (fK.none _ _))); intro v194 w27 QY hb hg_ hnew_; clear hg_ hnew_; (first | rw [<- ai3.1] at QY | (simp only [Int.reduceToNat] at QY; rw [<- ai3.1] at QY)); refine E7 (eT (by (with_reducible repeat (first | apply aV | apply aW | apply aQ)); exact (aG (RQ lQ 1 (RQ lQ 0 (bz HO_3.1 jl.1 (by decide)) _) _) (fun _ h_ => h_.1))) (fe QY) hb) (eT (by (with_reducible repeat (first | apply aV | apply aW | apply aQ)); exact (aG (RQ lQ 1 (RQ lQ 0 (bz HO_4.1 jl.1 (by decide)) _) _) (fun _ h_ => h_.1))) (fe QY) hb) (kW (by (with_reducible repeat (first | apply jF | apply jG | apply iV)); exact (eY (SQ lQ 1 (SQ lQ 0 (kG HO_6.1 jl.1 (by decide)) _) _) (fun _ h_ => h_.1))) (fe QY) hb) (bN (iI (iI QY (iL (by (with_reducible repeat (first | apply aV | apply aW | apply aQ)); exact (aG (RQ lQ 1 (RQ lQ 0 (bz HO_3.1 jl.1 (by decide)) _) _) (fun _ h_ => h_.1))))) (iL (by (with_reducible repeat (first | apply aV | apply aW | apply aQ)); exact (aG (RQ lQ 1 (RQ lQ 0 (bz HO_4.1 jl.1 (by decide)) _) _) (fun _ h_ => h_.1))))) (bZ HB.1)) (dh (g := QU) (o := .cells #[.int .i64 ah, .int .i64 af, .slice (some abe) ae.length aJ] 30 (0, 0)) (xB rf.1 iA.1) hb) (dh (g := lQ) (o := .cells #[.int .i64 ((aj ae dW).f0), .int .i64 ((aj ae dW).f1)] 83 (0, 0)) (BB jl.1) hb) (bS HB.1 hb) ?_; clear HO_3 HO_4 HO_6 iA jl HB; intro HO_3 HO_4 HO_6 VZ iA jl HB; clear hb QY; obtain ⟨atj, atl, aEO⟩ := bv VZ.1; subst aEO) | ((with_reducible refine bf (b := .append) (xs := #[.tmp 36, .tmp 39]) rfl ?_); at_builtin; refine uV (Kd.slice 3 (Kd.int .i64)) (w0 := w) w.heap.size rfl (.tmp 36) (.tmp 39) 60 38 (.slice none 0 0) 24 rfl Try.underlying60 Ab rfl (by decide) (by omega) u6 iT ae6 [.slice atj ae6.length atl] (fun k_ => some k_ ≠ (I6 : Value).ownBlock /\ some k_ ≠ (.slice DT kZ.length sM : Value).ownBlock) (fun k_ => some k_ = (.slice atj ae6.length atl : Value).ownBlock) rfl rfl ?aP (fun k_ hk_ => ((aG (ok' := fun k_ => ((fun k_ => some k_ ≠ (I6 : Value).ownBlock /\ some k_ ≠ (.slice DT kZ.length sM : Value).ownBlock)) k_ /\ some k_ ≠ (u6 : Value).ownBlock) (eH (VZ.1) (jW HO_6.1) (by decide)) (fun k_ hk => ⟨⟨hk.1.1.2, hk.1.2⟩, hk.2⟩))).1 k_ hk_.symm) ?aF ?aO ?aB ?aS ?aL ?_; (case aP => exact BC (aG (jR rfl (aG (ok' := fun k_ => ((fun k_ => some k_ ≠ (I6 : Value).ownBlock /\ some k_ ≠ (.slice DT kZ.length sM : Value).ownBlock)) k_ /\ some k_ ≠ (u6 : Value).ownBlock) (eH (VZ.1) (jW HO_6.1) (by decide)) (fun k_ hk => ⟨⟨hk.1.1.2, hk.1.2⟩, hk.2⟩))) (fun _ h_ => h_))); (case aB => exact (BL HB.1)); (case aF => exact (fun k_ hk => ⟨Kd.kX (iL (PR HO_3.1)) k_ hk, Kd.kX (iL (PR HO_4.1)) k_ hk⟩)); (case aO => exact (ES (eY HO_6.1 (fun k_ hk => ⟨⟨hk.1.1, hk.1.2⟩, fun e_ => hk.2 e_⟩)))); (case aS => exact (bZ HB.1)); (case aL => have := atf.1; omega); intro aOp w29 ho hb hg hat; rw [<- atg.1] at ho; refine E6 (kF (PR HO_3.1) (jW (PS HO_6.1)) (by decide) hg) (kF (PR HO_4.1) (jW (PS HO_6.1)) (by decide) hg) (bG iA.1 hg (xe HO_6.1 iA.1 (by decide))) (bG jl.1 hg (xe HO_6.1 jl.1 (by decide))) (hb) (ho) ?_; clear HO_3 HO_4 iA jl HB HO_6 VZ; intro HO_3 HO_4 iA jl HB atm; clear ho hb hg hat))
     (try simp only [<- lm])
     go_roundg k2
     case measure => have := iB.1; have := nG.1; omega
     case rel => exact ⟨(kZ), (aEN), (wrap64 (dW + 1)), RG, H', ⟨by have := iB.1; have := nG.1; omega⟩, ⟨by (try simp only [kK]); (try simp only [lm]); (with_reducible repeat (first | apply aV | apply aW | apply aQ)); exact aG HO_3.1 (fun _ hk => hk.1)⟩, ⟨by (try simp only [kK]); (try simp only [lm]); (with_reducible repeat (first | apply aV | apply aW | apply aQ)); exact aG HO_4.1 (fun _ hk => hk.1)⟩, ⟨PS2 atm.1 kK lm⟩, ⟨HY iA.1 kK lm⟩, ⟨BL HB.1⟩⟩
   have c22b0 := beq_eq_false_iff_ne.mpr c22
   have c22b1 := bne_iff_ne.mpr c22
   have anG := aa.mk H
   clear H
   have QW : 0 <= (dW : Int) := OD
   have QX : dW < (ae.length : Int) := OD
   obtain ⟨abe, anF, xX, xY⟩ := iP bD.1 dW QW QX
   cases anF
   replace xX := (HB.1.cell (World.block_lt_of_cell? w _ xX)).trans xX
   replace xY := (HB.1.cell (World.block_lt_of_cell? w _ xY)).trans xY
   replace QW := eq_true QW
   replace QX := eq_true QX
   go_upto_region 14 with (first | ((with_reducible refine aC (N := 8) rfl ?_); refine dN (cs := #[.int .i64 0, .int .i64 0]) (t := 83) ?_; intro lQ hg w32 hbox hb; refine E10 (rB HO_3.1 hb) (rB HO_4.1 hb) (sB HO_6.1 hb) (bB iA.1 hb) (bS HB.1 hb) (hbox) (gX HB.1 hg) (gX HB.1 hg) (nB iA.1 hg) (nC iA.1 hg) ?_; clear HO_3 HO_4 HO_6 iA HB; intro HO_3 HO_4 HO_6 iA HB jl ath ati rf Ih; clear hb hbox hg; have aJt := Ih.1; have aJu := rf.1; obtain ⟨V3, V4, V5, V6⟩ := nO jl.1))
   (try simp only [Act.put, List.setIfInBounds_toArray, List.set_cons_zero, List.set_cons_succ])
   go_cut [41] (fun v41 wc => ∃ (kq : Nat) (TR : Bool), v41 = .bool TR /\ aa (aD.j2 kq j4 kZ iT dW ae (ae.length : Int) dW TR ((aj ae dW).f0) ((aj ae dW).f1) = some r) /\ aa (kq <= k2) /\ aa (Kd.R (Kd.int .i64) 3 wc w.heap.size (fun k_ => some k_ ≠ ((.slice DT kZ.length sM) : Value).ownBlock) I6 j4) /\ aa (Kd.R (Kd.int .i64) 3 wc w.heap.size (fun k_ => some k_ ≠ (I6 : Value).ownBlock) (.slice DT kZ.length sM) kZ) /\ aa (Kd.S (Kd.slice 3 (Kd.int .i64)) 38 wc w.heap.size (fun k_ => some k_ ≠ (I6 : Value).ownBlock /\ some k_ ≠ ((.slice DT kZ.length sM) : Value).ownBlock) u6 iT) /\ aa (wc.heap[QU]? = some (.cells #[.int .i64 ah, .int .i64 af, (.slice (some abe) ae.length aJ)] 30 (0, 0))) /\ aa (wc.heap[lQ]? = some (.cells #[.int .i64 ((aj ae dW).f0), .int .i64 ((aj ae dW).f1)] 83 (0, 0))) /\ aa (Below w.heap.size w wc))
   case first =>
    have H := anG.1
    clear anG
    replace H := oP H; rcases H with ⟨c35, H⟩ | ⟨c35, H⟩
    · have c35b0 := beq_iff_eq.mpr c35
      have c35b1 := bne_eq_false_iff_eq.mpr c35
      clear c35
      (first | rw [c35b0] | (simp only [cz, dF]; rw [c35b0]) | skip)
      replace H := ji H; obtain ⟨c36b0, H⟩ := H
      replace H := ji H; obtain ⟨c37b0, H⟩ := H
      replace H := ji H; obtain ⟨c38b0, H⟩ := H
      have H' := aa.mk H
      clear H
      obtain ⟨JF, JG, JH, JI⟩ := nO jl.1
      obtain ⟨aOq, aOr, aEP⟩ := bv HO_3.1
      subst aEP
      have anH : 0 <= (dW : Int) := OD
      have anI : dW < (j4.length : Int) := OD
      obtain ⟨ai5, e199, JJ⟩ := Kd.dx (ay HO_3.1).2.2 dW anH anI
      cases e199
      have JK : ai5.block ≠ lQ := Kd.iY (dK HO_3.1 jl.1 (by decide))
      have JL : ai5.block ≠ lQ := Kd.iY (dK HO_3.1 jl.1 (by decide))
      replace JJ := (cell_far (p := ⟨lQ, 0, none⟩) (by first | (rw [add_block]; exact JK) | (show (Addr.add _ _).block ≠ _; rw [add_block]; exact JK) | exact JK) (.int .i64 ((aj ae dW).f0))).trans JJ
      replace JJ := (cell_far (p := ⟨lQ, 1, none⟩) (by first | (rw [add_block]; exact JL) | (show (Addr.add _ _).block ≠ _; rw [add_block]; exact JL) | exact JL) (.int .i64 ((aj ae dW).f1))).trans JJ
      clear JK
      clear JL
      replace anH := eq_true anH
      replace anI := eq_true anI
      have anJ : 0 <= ((rd j4 dW) : Int) := OD
      have anK : (rd j4 dW) < (kZ.length : Int) := OD
      obtain ⟨ai6, aEQ, JM⟩ := Kd.dx (ay HO_4.1).2.2 (rd j4 dW) anJ anK
      cases aEQ
      have JN : ai6.block ≠ lQ := Kd.iY (dK HO_4.1 jl.1 (by decide))
      have JO : ai6.block ≠ lQ := Kd.iY (dK HO_4.1 jl.1 (by decide))
      replace JM := (cell_far (p := ⟨lQ, 0, none⟩) (by first | (rw [add_block]; exact JN) | (show (Addr.add _ _).block ≠ _; rw [add_block]; exact JN) | exact JN) (.int .i64 ((aj ae dW).f0))).trans JM
      replace JM := (cell_far (p := ⟨lQ, 1, none⟩) (by first | (rw [add_block]; exact JO) | (show (Addr.add _ _).block ≠ _; rw [add_block]; exact JO) | exact JO) (.int .i64 ((aj ae dW).f1))).trans JM
      clear JN
      clear JO
      replace anJ := eq_true anJ
      replace anK := eq_true anK
      go_wp2
      go_meet
      case rel => exact ⟨_, (decide ((rd kZ (rd j4 dW)) < 0)), RG, H', ⟨by have := iB.1; have := nG.1; first | omega | exact Nat.le_refl _⟩, ⟨by (try simp only [kK]); (try simp only [lm]); (with_reducible repeat (first | apply aV | apply aW | apply aQ)); exact aG (RQ lQ 1 (RQ lQ 0 (bz HO_3.1 jl.1 (by decide)) _) _) (fun _ hk => hk.1)⟩, ⟨by (try simp only [kK]); (try simp only [lm]); (with_reducible repeat (first | apply aV | apply aW | apply aQ)); exact aG (RQ lQ 1 (RQ lQ 0 (bz HO_4.1 jl.1 (by decide)) _) _) (fun _ hk => hk.1)⟩, ⟨by (try simp only [kK]); (try simp only [lm]); (with_reducible repeat (first | apply jF | apply jG | apply iV)); exact eY (SQ lQ 1 (SQ lQ 0 (kG HO_6.1 jl.1 (by decide)) _) _) (fun _ hk => ⟨hk.1.1, hk.1.2⟩)⟩, ⟨by (try simp only [kK]); (try simp only [lm]); (with_reducible repeat (first | refine ak ?_ _ | refine ag ?_ | refine au ?_ _)); refine bu ?_ rf.1 _; (with_reducible repeat (first | refine ak ?_ _ | refine ag ?_ | refine au ?_ _)); refine bu ?_ rf.1 _; (with_reducible repeat (first | refine ak ?_ _ | refine ag ?_ | refine au ?_ _)); exact iA.1⟩, ⟨by (try simp only [kK]); (try simp only [lm]); (with_reducible repeat (first | refine ak ?_ _ | refine ag ?_ | refine au ?_ _)); refine gy (cs := #[.int .i64 ((aj ae dW).f0), .int .i64 0]) ?_ 1 _ rfl; (with_reducible repeat (first | refine ak ?_ _ | refine ag ?_ | refine au ?_ _)); refine gy (cs := #[.int .i64 0, .int .i64 0]) ?_ 0 _ rfl; (with_reducible repeat (first | refine ak ?_ _ | refine ag ?_ | refine au ?_ _)); exact jl.1⟩, ⟨BL HB.1⟩⟩
    have c35b0 := beq_eq_false_iff_ne.mpr c35
    have c35b1 := bne_iff_ne.mpr c35
    (first | rw [c35b0] | (simp only [cz, dF]; rw [c35b0]) | skip)
    have H' := aa.mk H
    clear H
    obtain ⟨ae7, ae8, ae9, afa⟩ := nO jl.1
    go_wp2
    go_meet
    case rel => exact ⟨_, (false), RG, H', ⟨by have := iB.1; have := nG.1; first | omega | exact Nat.le_refl _⟩, ⟨by (try simp only [kK]); (try simp only [lm]); (with_reducible repeat (first | apply aV | apply aW | apply aQ)); exact aG (RQ lQ 1 (RQ lQ 0 (bz HO_3.1 jl.1 (by decide)) _) _) (fun _ hk => hk.1)⟩, ⟨by (try simp only [kK]); (try simp only [lm]); (with_reducible repeat (first | apply aV | apply aW | apply aQ)); exact aG (RQ lQ 1 (RQ lQ 0 (bz HO_4.1 jl.1 (by decide)) _) _) (fun _ hk => hk.1)⟩, ⟨by (try simp only [kK]); (try simp only [lm]); (with_reducible repeat (first | apply jF | apply jG | apply iV)); exact eY (SQ lQ 1 (SQ lQ 0 (kG HO_6.1 jl.1 (by decide)) _) _) (fun _ hk => ⟨hk.1.1, hk.1.2⟩)⟩, ⟨by (try simp only [kK]); (try simp only [lm]); (with_reducible repeat (first | refine ak ?_ _ | refine ag ?_ | refine au ?_ _)); refine bu ?_ rf.1 _; (with_reducible repeat (first | refine ak ?_ _ | refine ag ?_ | refine au ?_ _)); refine bu ?_ rf.1 _; (with_reducible repeat (first | refine ak ?_ _ | refine ag ?_ | refine au ?_ _)); exact iA.1⟩, ⟨by (try simp only [kK]); (try simp only [lm]); (with_reducible repeat (first | refine ak ?_ _ | refine ag ?_ | refine au ?_ _)); refine gy (cs := #[.int .i64 ((aj ae dW).f0), .int .i64 0]) ?_ 1 _ rfl; (with_reducible repeat (first | refine ak ?_ _ | refine ag ?_ | refine au ?_ _)); refine gy (cs := #[.int .i64 0, .int .i64 0]) ?_ 0 _ rfl; (with_reducible repeat (first | refine ak ?_ _ | refine ag ?_ | refine au ?_ _)); exact jl.1⟩, ⟨BL HB.1⟩⟩
   clear anG
   try clear c22; try clear xX; try clear xY; try clear QW; try clear QX; clear c19b0 c20b0 c21b0 c22b0 c22b1 V3 V4 V5 V6
   obtain ⟨kq, TR, rfl, HA, Yw, HO_3, HO_4, HO_6, iA, jl, HB⟩ := hcut
   cases kq with
   | zero => exact absurd HA.1 (by simp [aD.j2])
   | succ anL => ?_
   have H := HA.1
   clear HA
   simp only [aD.j2] at H
   replace H := Cm H; rcases H with ⟨rfl, H⟩ | ⟨rfl, H⟩
   · replace H := ji H; obtain ⟨c45b0, H⟩ := H
     replace H := ji H; obtain ⟨c46b0, H⟩ := H
     replace H := ji H; obtain ⟨c47b0, H⟩ := H
     replace H := ji H; obtain ⟨c48b0, H⟩ := H
     generalize ai7 : ((kZ.set ((rd j4 dW) : Int).toNat (iT.length : Int)) : List Int) = atn at H
     have ato := aa.mk ai7.symm; clear ai7
     generalize ai8 : ((([dW] : List Int)) : List Int) = afb at H
     have ai9 := aa.mk ai8.symm; clear ai8
     replace H := oC H; obtain ⟨c50, H⟩ := H
     have atp := aa.mk c50
     clear c50
     generalize aja : ((iT ++ [afb]) : List (List Int)) = aER at H
     have atq := aa.mk aja.symm; clear aja
     have H' := aa.mk H
     clear H
     obtain ⟨aOs, Yx, afc⟩ := bv HO_3.1
     subst afc
     have anM : 0 <= (dW : Int) := OD
     have anN : dW < (j4.length : Int) := OD
     obtain ⟨QZ, aES, azx⟩ := Kd.dx (ay HO_3.1).2.2 dW anM anN
     cases aES
     replace anM := eq_true anM
     replace anN := eq_true anN
     obtain ⟨anO, anP, aET⟩ := mq HO_6.1
     subst aET
     have p49 : 0 <= ((rd j4 dW) : Int) := OD
     have q49 : ((rd j4 dW) : Int) < ((kZ.length : Int) : Int) := OD
     obtain ⟨MB, K5, Q0, atr, aEV, aOt, att⟩ := mQ HO_4.1 (by omega)
     (first | cases Q0 | (injection Q0 with ea_ en_ ec_; (first | subst ea_ | (injection ea_ with ea_; subst ea_)); subst ec_; clear en_))
     have aEW := aa.mk atr
     have aOu := aa.mk att
     clear atr aEV att
     obtain ⟨aEX, aEY⟩ := lC 0 HO_4.1 ((rd j4 dW) : Int) p49 q49
     replace p49 := eq_true p49
     replace q49 := eq_true q49
     have K6 := qV HO_4.1 ((rd j4 dW) : Int) (iT.length : Int)
     go_wp2_with (first | ((with_reducible refine gK (t := 3) (p := 62) rfl ?_); refine lX (t := 3) (p := 62) (w1 := (wc.setCell ⟨MB, ((rd j4 dW) : Int).toNat, none⟩ (.int .i64 (iT.length : Int)))) ?_; intro w54 hw; have hg : wc.grownBy w54 (some MB) := (by rw [hw]; exact K6.2); have hp_ : Kd.R (Kd.int .i64) 3 w54 w.heap.size (fun k_ => some k_ ≠ (.slice (some QZ) j4.length Yx : Value).ownBlock) (.slice (some ⟨MB, 0, none⟩) kZ.length sM) atn := (by rw [hw, ato.1]; exact K6.1); clear K6; refine E6 (iX (v := (.slice (some ⟨MB, 0, none⟩) kZ.length sM)) (v1 := (.slice (some ⟨MB, 0, none⟩) kZ.length sM)) (ok := (fun _ => True)) (pm (aG HO_3.1 (fun _ hk => ⟨trivial, hk⟩))) hg (.inl rfl)) (hp_) (CK (v := (.slice (some ⟨MB, 0, none⟩) kZ.length sM)) (v1 := (.slice (some ⟨MB, 0, none⟩) kZ.length sM)) (ok := (fun k_ => some k_ ≠ (.slice (some QZ) j4.length Yx : Value).ownBlock)) (PS HO_6.1) hg (.inl rfl)) (bG iA.1 hg (dK HO_4.1 iA.1 (by decide))) (bG jl.1 hg (dK HO_4.1 jl.1 (by decide))) ((by rw [hw]; exact il (HB.1) aEW.1 : Below w.heap.size w w54)) ?_; clear HO_3 HO_4 HO_6 iA jl HB; intro HO_3 HO_4 HO_6 iA jl HB; clear hg hw hp_) | ((with_reducible refine aC (N := 65) rfl ?_); refine qh (Kd.int .i64) _ 3 ?hg (N := 65) ?hd (xs := ([dW] : List Int)) (inner := [.int .i64 dW]) (ok := fun _ => True) (okp := fun _ => True) ?hr ?hp (fun _ hk => hk) trivial (Below.refl _ _) (Nat.le_refl _) (by simp) ?_; (case hd => rfl); (case hg => rfl); (case hr => first | (go_simp; done) | (go_simp; rfl)); (case hp => exact (fK.one (show Kd.M (Kd.int .i64) _ _ _ dW [.int .i64 dW] from rfl) (fK.none _ _))); intro aOv w55 DU hb hg_ hnew_; clear hg_ hnew_; (first | rw [<- ai9.1] at DU | (simp only [Int.reduceToNat] at DU; rw [<- ai9.1] at DU)); refine E7 (eT (PR HO_3.1) (fe DU) hb) (eT (PR HO_4.1) (fe DU) hb) (kW (PS HO_6.1) (fe DU) hb) (bN (iI (iI DU (iL (PR HO_3.1))) (iL (PR HO_4.1))) (bZ HB.1)) (bB iA.1 hb) (bB jl.1 hb) (bS HB.1 hb) ?_; clear HO_3 HO_4 HO_6 iA jl HB; intro HO_3 HO_4 HO_6 V7 iA jl HB; clear hb DU; obtain ⟨afd, afe, anR⟩ := bv V7.1; subst anR) | ((with_reducible refine bf (b := .append) (xs := #[.tmp 63, .tmp 66]) rfl ?_); at_builtin; refine uV (Kd.slice 3 (Kd.int .i64)) (w0 := w) w.heap.size rfl (.tmp 63) (.tmp 66) 60 38 (.slice none 0 0) 24 rfl Try.underlying60 Ab rfl (by decide) (by omega) (.slice anO iT.length anP) iT afb [.slice afd afb.length afe] (fun k_ => some k_ ≠ (.slice (some QZ) j4.length Yx : Value).ownBlock /\ some k_ ≠ (.slice (some ⟨MB, 0, none⟩) kZ.length sM : Value).ownBlock) (fun k_ => some k_ = (.slice afd afb.length afe : Value).ownBlock) rfl rfl ?aP (fun k_ hk_ => ((aG (ok' := fun k_ => ((fun k_ => some k_ ≠ (.slice (some QZ) j4.length Yx : Value).ownBlock /\ some k_ ≠ (.slice (some ⟨MB, 0, none⟩) kZ.length sM : Value).ownBlock)) k_ /\ some k_ ≠ (.slice anO iT.length anP : Value).ownBlock) (eH (V7.1) (jW HO_6.1) (by decide)) (fun k_ hk => ⟨⟨hk.1.1.2, hk.1.2⟩, hk.2⟩))).1 k_ hk_.symm) ?aF ?aO ?aB ?aS ?aL ?_; (case aP => exact BC (aG (jR rfl (aG (ok' := fun k_ => ((fun k_ => some k_ ≠ (.slice (some QZ) j4.length Yx : Value).ownBlock /\ some k_ ≠ (.slice (some ⟨MB, 0, none⟩) kZ.length sM : Value).ownBlock)) k_ /\ some k_ ≠ (.slice anO iT.length anP : Value).ownBlock) (eH (V7.1) (jW HO_6.1) (by decide)) (fun k_ hk => ⟨⟨hk.1.1.2, hk.1.2⟩, hk.2⟩))) (fun _ h_ => h_))); (case aB => exact (BL HB.1)); (case aF => exact (fun k_ hk => ⟨Kd.kX (iL (PR HO_3.1)) k_ hk, Kd.kX (iL (PR HO_4.1)) k_ hk⟩)); (case aO => exact (ES (eY HO_6.1 (fun k_ hk => ⟨⟨hk.1.1, hk.1.2⟩, fun e_ => hk.2 e_⟩)))); (case aS => exact (bZ HB.1)); (case aL => have := atp.1; omega); intro aOw w57 ho hb hg hat; rw [<- atq.1] at ho; refine E6 (kF (PR HO_3.1) (jW (PS HO_6.1)) (by decide) hg) (kF (PR HO_4.1) (jW (PS HO_6.1)) (by decide) hg) (bG iA.1 hg (xe HO_6.1 iA.1 (by decide))) (bG jl.1 hg (xe HO_6.1 jl.1 (by decide))) (hb) (ho) ?_; clear HO_3 HO_4 iA jl HB HO_6 V7; intro HO_3 HO_4 iA jl HB atu; clear ho hb hg hat))
     (try simp only [<- lm])
     go_roundg anL
     case measure => have := iB.1; have := nG.1; have := Yw.1; omega
     case rel => exact ⟨(atn), (aER), (wrap64 (dW + 1)), RG, H', ⟨by have := iB.1; have := nG.1; have := Yw.1; omega⟩, ⟨by (try simp only [kK]); (try simp only [lm]); (with_reducible repeat (first | apply aV | apply aW | apply aQ)); exact aG HO_3.1 (fun _ hk => hk.1.2)⟩, ⟨by (try simp only [kK]); (try simp only [lm]); (with_reducible repeat (first | apply aV | apply aW | apply aQ)); exact aG HO_4.1 (fun _ hk => hk.1)⟩, ⟨PS2 atu.1 kK lm⟩, ⟨HY iA.1 kK lm⟩, ⟨BL HB.1⟩⟩
   replace H := oP H; rcases H with ⟨c59, H⟩ | ⟨c59, H⟩
   · have c59b0 := beq_iff_eq.mpr c59
     have c59b1 := bne_eq_false_iff_eq.mpr c59
     clear c59
     replace H := ji H; obtain ⟨c60b0, H⟩ := H
     replace H := ji H; obtain ⟨c61b0, H⟩ := H
     replace H := ji H; obtain ⟨c62b0, H⟩ := H
     replace H := ji H; obtain ⟨c63b0, H⟩ := H
     replace H := ji H; obtain ⟨c64b0, H⟩ := H
     replace H := ji H; obtain ⟨c65b0, H⟩ := H
     replace H := oC H; obtain ⟨c66, H⟩ := H
     have atv := aa.mk c66
     clear c66
     generalize ajb : (((aT iT (rd kZ (rd j4 dW))) ++ [dW]) : List Int) = abf at H
     have atw := aa.mk ajb.symm; clear ajb
     generalize ajc : ((iT.set ((rd kZ (rd j4 dW)) : Int).toNat abf) : List (List Int)) = aEZ at H
     have atx := aa.mk ajc.symm; clear ajc
     have H' := aa.mk H
     clear H
     obtain ⟨azy, azz, azA, azB⟩ := nO jl.1
     try go_wp2
     refine E6 (aQ HO_3.1) (aQ HO_4.1) (iV HO_6.1) (ag iA.1) (ag jl.1) (dm HB.1) ?_
     clear HO_3 HO_4 HO_6 iA jl HB
     intro HO_3 HO_4 HO_6 iA jl HB
     obtain ⟨aOx, aE0, aty⟩ := bv HO_3.1
     (first | subst aty | (injection aty with rY zZ rZ; have z8 := rY.symm; have Aa := rZ.symm; clear rY zZ rZ; subst z8; subst Aa))
     have anS : 0 <= (dW : Int) := OD
     have anT : dW < (j4.length : Int) := OD
     obtain ⟨V8, e209, V9⟩ := Kd.dx (ay HO_3.1).2.2 dW anS anT
     cases e209
     replace anS := eq_true anS
     replace anT := eq_true anT
     have anU : 0 <= ((rd j4 dW) : Int) := OD
     have anV : (rd j4 dW) < (kZ.length : Int) := OD
     obtain ⟨Wd, e210, We⟩ := Kd.dx (ay HO_4.1).2.2 (rd j4 dW) anU anV
     cases e210
     replace anU := eq_true anU
     replace anV := eq_true anV
     have anW : 0 <= (dW : Int) := OD
     have anX : dW < (j4.length : Int) := OD
     obtain ⟨atz, e211, Wh⟩ := Kd.dx (ay HO_3.1).2.2 dW anW anX
     obtain rfl : V8 = atz := (by injection e211)
     replace anW := eq_true anW
     replace anX := eq_true anX
     have anY : 0 <= ((rd j4 dW) : Int) := OD
     have anZ : (rd j4 dW) < (kZ.length : Int) := OD
     obtain ⟨atA, e212, Wi⟩ := Kd.dx (ay HO_4.1).2.2 (rd j4 dW) anY anZ
     obtain rfl : Wd = atA := (by injection e212)
     replace anY := eq_true anY
     replace anZ := eq_true anZ
     obtain ⟨aOy, aOz, atB⟩ := mq HO_6.1
     (first | subst atB | (injection atB with rY zZ rZ; have z8 := rY.symm; have Aa := rZ.symm; clear rY zZ rZ; subst z8; subst Aa))
     have aff : 0 <= ((rd kZ (rd j4 dW)) : Int) := OD
     have afg : (rd kZ (rd j4 dW)) < (iT.length : Int) := OD
     obtain ⟨aJx, TS, TT, e213, FR, Wj, Wl⟩ := tT (fJ HO_6.1).2.2 (rd kZ (rd j4 dW)) aff afg
     cases e213
     obtain ⟨aJy, an0, an1, abg⟩ := BF HO_6.1 [] (rd kZ (rd j4 dW)) aff (by first | exact afg | exact OD | (have e_ := (fJ HO_6.1).1; omega))
     obtain ⟨azC, rfl, OH⟩ := an1
     have FT := abg 0 _ rfl
     rw [Nat.add_zero, show ((Kd.slice 3 (Kd.int .i64))).sz = 1 from rfl, Nat.mul_one] at FT
     replace FT := Option.some.inj (FT.symm.trans FR)
     rw [FT] at OH
     have iK := aa.mk (show Kd.R (Kd.int .i64) 3 _ _ _ _ (aT iT (rd kZ (rd j4 dW))) from OH)
     clear FT OH
     have Wm := aa.mk FR
     clear abg an0
     have afh := aa.mk Wl
     have azD := aa.mk Wj
     clear Wl Wj
     replace aff := eq_true aff
     replace afg := eq_true afg
     obtain ⟨Yz, aE1, afi, atC, aE2, aOA, atD⟩ := Ol HO_6.1 (by have h_ : ((rd kZ (rd j4 dW)) : Int) < ((iT.length : Int) : Int) := OD; have qi : 0 <= ((rd kZ (rd j4 dW)) : Int) := (OD); omega)
     (first | cases afi | (injection afi with ea_ en_ ec_; (first | subst ea_ | (injection ea_ with ea_; subst ea_)); subst ec_; clear en_))
     have aOB := aa.mk atC
     have aE3 := aa.mk atD
     clear atC aE2 atD
     (first | simp only [add_plain] at FR | skip)
     obtain ⟨ajd, aOC, atE, aE4, aje, _, _, atF⟩ := KN HO_6.1 [] ((rd kZ (rd j4 dW)) : Int) (OD) (by have h_ : ((rd kZ (rd j4 dW)) : Int) < ((iT.length : Int) : Int) := OD; first | exact h_ | (have e_ := (fJ HO_6.1).1; omega) | simpa using h_)
     obtain ⟨aE5, rfl, abh⟩ := aE4
     have abj := aje 0 _ rfl
     have an2 := Wm.1
     (try simp only [add_plain] at an2)
     (try simp only [Nat.add_zero] at abj)
     (try rw [show ((Kd.slice 3 (Kd.int .i64))).sz = 1 from rfl, Nat.mul_one] at abj)
     replace abj := Option.some.inj (abj.symm.trans an2)
     subst abj
     clear an2 aje atE
     have afj := aa.mk (show Kd.R (Kd.int .i64) 3 _ w.heap.size ajd (.slice TS (aT iT (rd kZ (rd j4 dW))).length TT) (aT iT (rd kZ (rd j4 dW))) from abh)
     have TU := aa.mk atF
     have an3 := aa.mk (fJ HO_6.1).1
     clear atF abh
     refine jN (n := 23) (S := fun w' => w'.cell? (V8.add (dW).toNat) = some (.int .i64 (rd j4 dW)) /\ w'.cell? (Wd.add ((rd j4 dW)).toNat) = some (.int .i64 (rd kZ (rd j4 dW))) /\ w'.cell? (V8.add (dW).toNat) = some (.int .i64 (rd j4 dW)) /\ w'.cell? (Wd.add ((rd j4 dW)).toNat) = some (.int .i64 (rd kZ (rd j4 dW))) /\ w'.cell? ⟨Yz, ((rd kZ (rd j4 dW))).toNat, none⟩ = some (.slice TS (aT iT (rd kZ (rd j4 dW))).length TT)) (ds := [22]) #[Zz,Zz,Zz,Zz,Zz,Zz,Zz,Zz,Zz,Zz,Zz,Zz,Zz,Zz,Zz,Zz,Zz,Zz,Zz,Zz,Zz,Zz,Zz] (by kernel_rfl) rfl rfl ⟨V9, We, Wh, Wi, FR⟩ (fun hHeld => ?_); refine iq aD.aa8 aD.bits18 (fun HT_ HW_ => ?_)
     generalize wc.drew = w70 at HO_3 HO_4 HO_6 iA jl HB aE3 TU iK afh Wm afj V9 We Wh Wi FR hHeld ⊢
     refine aU 0 (N := some 72) HT_.1 ?_
     refine aU 1 (N := some 73) HT_.1 ?_
     refine aU 2 (N := some 74) HT_.1 ?_
     refine aU 3 (N := some 75) HT_.1 ?_
     refine aU 4 (N := some 76) HT_.1 ?_
     refine aU 8 (N := some 80) HT_.1 ?_
     refine aU 9 (N := some 81) HT_.1 ?_
     refine aU 10 (N := some 82) HT_.1 ?_
     refine aU 11 (N := some 83) HT_.1 ?_
     refine aU 12 (N := some 84) HT_.1 ?_
     refine aU 18 (N := some 90) HT_.1 ?_
     refine gF 5 (N := some 77) HT_.1 HW_.1 hHeld ?_
     refine aU 6 (N := some 78) HT_.1 ?_
     refine gF 7 (N := some 79) HT_.1 HW_.1 hHeld ?_
     refine gF 13 (N := some 85) HT_.1 HW_.1 hHeld ?_
     refine aU 14 (N := some 86) HT_.1 ?_
     refine gF 15 (N := some 87) HT_.1 HW_.1 hHeld ?_
     refine aU 16 (N := some 88) HT_.1 ?_
     refine gF 17 (N := some 89) HT_.1 HW_.1 hHeld ?_
     refine mV (i := 19) (N := some 91) #[Yy,Yy,Yy,Yy,Yy,Yy,Yy,Yy,Yy,Yy,Yy,Yy,Yy,Yy,Yy,Yy,Yy,Yy,Yy,Yy,Zz,Zz,Zz] rfl rfl (jc HT_.1 (by kernel_rfl)) (by decide) (fun K hK => ?_)
     refine Tp (w1 := ?_) (v := ?_) (by rfl) rfl ?_ ?_
     rotate_left 2
     · go_simp
       constructor
       · rfl
       rfl
     refine hK.out _ _ ⟨(World.cell?_alloc_lt _ _ _ (World.block_lt_of_cell? _ _ (hHeld.1))).trans (hHeld.1), (World.cell?_alloc_lt _ _ _ (World.block_lt_of_cell? _ _ (hHeld.2.1))).trans (hHeld.2.1), (World.cell?_alloc_lt _ _ _ (World.block_lt_of_cell? _ _ (hHeld.2.2.1))).trans (hHeld.2.2.1), (World.cell?_alloc_lt _ _ _ (World.block_lt_of_cell? _ _ (hHeld.2.2.2.1))).trans (hHeld.2.2.2.1), (World.cell?_alloc_lt _ _ _ (World.block_lt_of_cell? _ _ (hHeld.2.2.2.2))).trans (hHeld.2.2.2.2)⟩ (fun hHeld => ?_)
     clear hK K
     refine eX (a' := ?_) ?_ ?_
     rotate_left
     · show Act.put _ (some 91) _ = _
       simp only [Act.put, List.setIfInBounds_toArray, List.set_cons_zero, List.set_cons_succ, cz, dF]
       rfl
     refine mV (i := 20) (N := some 92) #[Yy,Yy,Yy,Yy,Yy,Yy,Yy,Yy,Yy,Yy,Yy,Yy,Yy,Yy,Yy,Yy,Yy,Yy,Yy,Yy,Yy,Zz,Zz] rfl rfl (jc HT_.1 (by kernel_rfl)) (by decide) (fun K hK => ?_)
     refine yG (Kd.int .i64) (w0 := w) w.heap.size (by rfl) (.tmp 89) (.tmp 91) 38 3 (.int .i64 0) 8 rfl Try.underlying38 info3 rfl (by decide) (by omega) (.slice TS (aT iT (rd kZ (rd j4 dW))).length TT) (aT iT (rd kZ (rd j4 dW))) dW [.int .i64 dW] (fun k_ => ajd k_ ∨ ((fun k_ => some k_ ≠ (.slice (some V8) j4.length aE0 : Value).ownBlock /\ some k_ ≠ (.slice (some Wd) kZ.length sM : Value).ownBlock)) k_ /\ w70.heap.size <= k_) (fun _ => False) rfl rfl ?aP (fun _ hk => hk.elim) ?aF ?aO ?aB ?aS ?aL ?_
     (case aP => exact rfl)
     (case aB => exact (BL HB.1))
     (case aF => exact (fun k_ hk => .inr ⟨⟨Kd.kX (iL (PR HO_3.1)) k_ hk, Kd.kX (iL (PR HO_4.1)) k_ hk⟩, hk⟩))
     (case aO => exact (pm (aG afj.1 (fun _ hk => .inl hk))))
     (case aS => exact (bZ HB.1))
     (case aL => have := atv.1; omega)
     intro aOE w74 ho hb hg hat
     (first | have atG := cell_grown hg (hHeld.1) (by first | (rw [add_block]; exact (fun e_ => ((iK.1.1 _ e_.symm).1.1) rfl)) | (show some (Addr.add _ _).block ≠ _; rw [add_block]; exact (fun e_ => ((iK.1.1 _ e_.symm).1.1) rfl)) | exact (fun e_ => ((iK.1.1 _ e_.symm).1.1) rfl)) | have atG := cell_grown hg (r9 (hHeld.1) (by first | (rw [add_block]; exact iL HO_3.1 _ rfl) | (show (Addr.add _ _).block < _; rw [add_block]; exact iL HO_3.1 _ rfl) | exact iL HO_3.1 _ rfl)) (by first | (rw [add_block]; exact (fun e_ => ((iK.1.1 _ e_.symm).1.1) rfl)) | (show some (Addr.add _ _).block ≠ _; rw [add_block]; exact (fun e_ => ((iK.1.1 _ e_.symm).1.1) rfl)) | exact (fun e_ => ((iK.1.1 _ e_.symm).1.1) rfl)))
     (first | have atH := cell_grown hg (hHeld.2.1) (by first | (rw [add_block]; exact (fun e_ => ((iK.1.1 _ e_.symm).1.2) rfl)) | (show some (Addr.add _ _).block ≠ _; rw [add_block]; exact (fun e_ => ((iK.1.1 _ e_.symm).1.2) rfl)) | exact (fun e_ => ((iK.1.1 _ e_.symm).1.2) rfl)) | have atH := cell_grown hg (r9 (hHeld.2.1) (by first | (rw [add_block]; exact iL HO_4.1 _ rfl) | (show (Addr.add _ _).block < _; rw [add_block]; exact iL HO_4.1 _ rfl) | exact iL HO_4.1 _ rfl)) (by first | (rw [add_block]; exact (fun e_ => ((iK.1.1 _ e_.symm).1.2) rfl)) | (show some (Addr.add _ _).block ≠ _; rw [add_block]; exact (fun e_ => ((iK.1.1 _ e_.symm).1.2) rfl)) | exact (fun e_ => ((iK.1.1 _ e_.symm).1.2) rfl)))
     (first | have atI := cell_grown hg (hHeld.2.2.1) (by first | (rw [add_block]; exact (fun e_ => ((iK.1.1 _ e_.symm).1.1) rfl)) | (show some (Addr.add _ _).block ≠ _; rw [add_block]; exact (fun e_ => ((iK.1.1 _ e_.symm).1.1) rfl)) | exact (fun e_ => ((iK.1.1 _ e_.symm).1.1) rfl)) | have atI := cell_grown hg (r9 (hHeld.2.2.1) (by first | (rw [add_block]; exact iL HO_3.1 _ rfl) | (show (Addr.add _ _).block < _; rw [add_block]; exact iL HO_3.1 _ rfl) | exact iL HO_3.1 _ rfl)) (by first | (rw [add_block]; exact (fun e_ => ((iK.1.1 _ e_.symm).1.1) rfl)) | (show some (Addr.add _ _).block ≠ _; rw [add_block]; exact (fun e_ => ((iK.1.1 _ e_.symm).1.1) rfl)) | exact (fun e_ => ((iK.1.1 _ e_.symm).1.1) rfl)))
     (first | have xF := cell_grown hg (hHeld.2.2.2.1) (by first | (rw [add_block]; exact (fun e_ => ((iK.1.1 _ e_.symm).1.2) rfl)) | (show some (Addr.add _ _).block ≠ _; rw [add_block]; exact (fun e_ => ((iK.1.1 _ e_.symm).1.2) rfl)) | exact (fun e_ => ((iK.1.1 _ e_.symm).1.2) rfl)) | have xF := cell_grown hg (r9 (hHeld.2.2.2.1) (by first | (rw [add_block]; exact iL HO_4.1 _ rfl) | (show (Addr.add _ _).block < _; rw [add_block]; exact iL HO_4.1 _ rfl) | exact iL HO_4.1 _ rfl)) (by first | (rw [add_block]; exact (fun e_ => ((iK.1.1 _ e_.symm).1.2) rfl)) | (show some (Addr.add _ _).block ≠ _; rw [add_block]; exact (fun e_ => ((iK.1.1 _ e_.symm).1.2) rfl)) | exact (fun e_ => ((iK.1.1 _ e_.symm).1.2) rfl)))
     (first | have afk := cell_grown hg (hHeld.2.2.2.2) (by first | (rw [add_block]; exact (fun e_ => ((iK.1.1 _ e_.symm).2) rfl)) | (show some (Addr.add _ _).block ≠ _; rw [add_block]; exact (fun e_ => ((iK.1.1 _ e_.symm).2) rfl)) | exact (fun e_ => ((iK.1.1 _ e_.symm).2) rfl)) | have afk := cell_grown hg (r9 (hHeld.2.2.2.2) (by first | (rw [add_block]; exact aeF HO_6.1 _ rfl) | (show (Addr.add _ _).block < _; rw [add_block]; exact aeF HO_6.1 _ rfl) | exact aeF HO_6.1 _ rfl)) (by first | (rw [add_block]; exact (fun e_ => ((iK.1.1 _ e_.symm).2) rfl)) | (show some (Addr.add _ _).block ≠ _; rw [add_block]; exact (fun e_ => ((iK.1.1 _ e_.symm).2) rfl)) | exact (fun e_ => ((iK.1.1 _ e_.symm).2) rfl)))
     rw [<- atw.1] at ho
     refine E7 (FC (PR HO_3.1) rfl hg (fun k_ e_ => (iK.1.1 k_ e_).1.1)) (FC (PR HO_4.1) rfl hg (fun k_ e_ => (iK.1.1 k_ e_).1.2)) (bG iA.1 hg (dK iK.1 iA.1 (by decide))) (bG jl.1 hg (dK iK.1 jl.1 (by decide))) (hb) (Jt (Om (by repeat (first | exact TU.1 | refine Oq ?_ _ | refine Ot ?_ _ | refine Tu ?_))) hg (fun k_ e_ => .inl (afj.1.1 k_ e_))) (ho) ?_
     clear HO_3 HO_4 iA jl HB TU HO_6 afj iK
     intro HO_3 HO_4 iA jl HB TU ajf
     clear ho hb hg hat
     have p67 : 0 <= ((rd kZ (rd j4 dW)) : Int) := OD
     have q67 : ((rd kZ (rd j4 dW)) : Int) < ((iT.length : Int) : Int) := OD
     replace p67 := eq_true p67
     replace q67 := eq_true q67
     obtain ⟨an4, an5, atJ⟩ := bv ajf.1
     (first | subst atJ | (injection atJ with rY zZ rZ; have z8 := rY.symm; have Aa := rZ.symm; clear rY zZ rZ; subst z8; subst Aa))
     obtain ⟨_, _, hraw75, _, _, ajg, _⟩ := QF TU.1 (OD) (by have h_ : ((rd kZ (rd j4 dW)) : Int) < ((iT.length : Int) : Int) := OD; first | exact h_ | (have e_ := (an3.1); omega) | simpa using h_)
     obtain ⟨_, ajh⟩ := am9 TU.1 (OD) (by have h_ : ((rd kZ (rd j4 dW)) : Int) < ((iT.length : Int) : Int) := OD; first | exact h_ | (have e_ := (an3.1); omega) | simpa using h_)
     have abk := ajg 0 _ rfl
     have abl := ajh 0
     (try simp only [Nat.add_zero] at abk abl)
     (try rw [show ((Kd.slice 3 (Kd.int .i64))).sz = 1 from rfl, Nat.mul_one] at abk)
     (try rw [show ((Kd.slice 3 (Kd.int .i64))).sz = 1 from rfl, Nat.mul_one] at abl)
     have an6 := Tw TU.1 (OD) (by have h_ : ((rd kZ (rd j4 dW)) : Int) < ((iT.length : Int) : Int) := OD; first | exact h_ | (have e_ := (an3.1); omega) | simpa using h_) (seg := [.slice an4 abf.length an5]) (j := 0) (show 1 <= 1 from by decide) (x' := abf) (BC ajf.1) (fun _ hk => hk)
     (try simp only [show ((Kd.slice 3 (Kd.int .i64))).sz = 1 from rfl, Nat.mul_one, Nat.add_zero] at an6)
     clear ajg ajh
     have HNB183_go73 := aa.mk (show QU ≠ Yz from by have h_ := dK hraw75 iA.1 (by decide); intro e_; exact h_ (by rw [e_]; rfl))
     have HNB192_go73 := aa.mk (show lQ ≠ Yz from by have h_ := dK hraw75 jl.1 (by decide); intro e_; exact h_ (by rw [e_]; rfl))
     have an7 := an6.1
     rw [<- atx.1] at an7
     have aE6 := aa.mk an7
     obtain ⟨_, aji⟩ := dY hraw75 Yz rfl
     have ajj := aa.mk aji
     clear an6 an7 aji
     refine hK.out _ _ ⟨atG, atH, atI, xF, afk⟩ (fun hHeld => ?_)
     clear hK K
     refine eX (a' := ?_) ?_ ?_
     rotate_left
     · show Act.put _ (some 92) _ = _
       simp only [Act.put, List.setIfInBounds_toArray, List.set_cons_zero, List.set_cons_succ, cz, dF]
       rfl
     refine aU 21 (N := some 93) HT_.1 ?_
     refine BD (i := 22) (N := none) #[Yy,Yy,Yy,Yy,Yy,Yy,Yy,Yy,Yy,Yy,Yy,Yy,Yy,Yy,Yy,Yy,Yy,Yy,Yy,Yy,Yy,Yy,Yy] rfl rfl (jc HT_.1 (by kernel_rfl)) (by decide) (fun K hK => ?_)
     refine pF (w1 := ?_) (by rfl) rfl ?_ ?_
     rotate_left
     · go_simp
       rfl
     refine hK.out _ _ ?_
     clear hK K
     refine lI (jS HT_.1 (by kernel_rfl)) ?_
     try go_wp2
     (try simp only [<- lm])
     go_roundg anL
     case measure => have := iB.1; have := nG.1; have := Yw.1; omega
     case rel => exact ⟨(kZ), (aEZ), (wrap64 (dW + 1)), RG, H', ⟨by have := iB.1; have := nG.1; have := Yw.1; omega⟩, ⟨by (try simp only [kK]); (try simp only [lm]); (with_reducible repeat (first | apply aV | apply aW | apply aQ)); exact aG (mY (p := ⟨Yz, ((rd kZ (rd j4 dW)) : Int).toNat, none⟩) (bz HO_3.1 ajj.1 (by decide)) (fun _ hk => hk.2) (.slice an4 abf.length an5)) (fun _ hk => hk.1)⟩, ⟨by (try simp only [kK]); (try simp only [lm]); (with_reducible repeat (first | apply aV | apply aW | apply aQ)); exact aG (mY (p := ⟨Yz, ((rd kZ (rd j4 dW)) : Int).toNat, none⟩) (bz HO_4.1 ajj.1 (by decide)) (fun _ hk => hk.2) (.slice an4 abf.length an5)) (fun _ hk => hk.1)⟩, ⟨PS2 aE6.1 kK lm⟩, ⟨by (try simp only [kK]); (try simp only [lm]); (with_reducible repeat (first | refine ak ?_ _ | refine ag ?_ | refine au ?_ _)); refine bu ?_ HNB183_go73.1 _; (with_reducible repeat (first | refine ak ?_ _ | refine ag ?_ | refine au ?_ _)); exact iA.1⟩, ⟨BL HB.1⟩⟩
   have c59b0 := beq_eq_false_iff_ne.mpr c59
   have c59b1 := bne_iff_ne.mpr c59
   have H' := aa.mk H
   clear H
   obtain ⟨afl, afm, afn, afo⟩ := nO jl.1
   go_wp2
   (try simp only [<- lm])
   go_roundg anL
   case measure => have := iB.1; have := nG.1; have := Yw.1; omega
   case rel => exact ⟨(kZ), (iT), (wrap64 (dW + 1)), RG, H', ⟨by have := iB.1; have := nG.1; have := Yw.1; omega⟩, ⟨MZ HO_3.1 kK lm⟩, ⟨MZ HO_4.1 kK lm⟩, ⟨PS2 HO_6.1 kK lm⟩, ⟨HY iA.1 kK lm⟩, ⟨BL HB.1⟩⟩
 (try simp only [kK, lm] at c19b0)
 obtain rfl := Option.some.inj H
 go_wp2
 go_ret
 exact ⟨_, RF, ES (eY HO_6.1 (fun _ hk => trivial)), BL HB.1⟩
def iw.f (a0 : Int) (a1 : Int) (a2 : Int) : Option (Bool) := if a0 ≥ a1 then (some (decide (a0 <= a2))) else (some false)
theorem iw.calls (a0 : Int) (a1 : Int) (a2 : Int) (r : Bool) (w : World) (h : iw.f a0 a1 a2 = some r) :
 Calls Try.prog 55 #[.int .i64 a0, .int .i64 a1, .int .i64 a2] w fun e w' => e = .returned (.bool r) /\ lY w w' := by
 have H := h
 clear h
 unfold iw.f at H
 replace H := oP H; rcases H with ⟨c4, H⟩ | ⟨c4, H⟩
 · have c4b0 : decide (a1 <= a0) = true := decide_eq_true c4
   clear c4
   obtain rfl := Option.some.inj H
   go_enter Try.func55, Try.ntmps55
   go_wp2
   go_ret
   exact ⟨RG, DR⟩
 have c4b0 : decide (a1 <= a0) = false := decide_eq_false c4
 clear c4
 obtain rfl := Option.some.inj H
 go_enter Try.func55, Try.ntmps55
 go_wp2
 go_ret
 exact ⟨RG, DR⟩
def nI.f (ah : Int) (af : Int) : Option (Bool) := if ah = 3 then (some true) else (some (ah == 6))
theorem nI.calls (ah : Int) (af : Int) (r : Bool) (w : World) (h : nI.f ah af = some r) :
 Calls Try.prog 100 #[.agg #[.int .i64 ah, .int .i64 af]] w fun e w' => e = .returned (.bool r) /\ Below w.heap.size w w' := by
 have xE := Try.underlying83
 have HB := aa.mk (Below.refl w.heap.size w)
 have H := h
 clear h
 unfold nI.f at H
 replace H := oP H; rcases H with ⟨c2, H⟩ | ⟨c2, H⟩
 · have c2b0 := beq_iff_eq.mpr c2
   have c2b1 := bne_eq_false_iff_eq.mpr c2
   clear c2
   obtain rfl := Option.some.inj H
   go_enter Try.func100, Try.ntmps100
   go_wp2_with (first | ((with_reducible refine aC (N := 1) rfl ?_); refine dN (cs := #[.int .i64 ah, .int .i64 af]) (t := 83) ?_; intro atK hg w3 hbox hb; refine mJ HB.1 hg hbox hb ?_; clear HB; intro HB abm atL atM; clear hb hbox hg; obtain ⟨Ao, Ap, Aq, Ar⟩ := nO abm.1))
   go_ret
   exact ⟨RF, BL HB.1⟩
 have c2b0 := beq_eq_false_iff_ne.mpr c2
 have c2b1 := bne_iff_ne.mpr c2
 obtain rfl := Option.some.inj H
 go_enter Try.func100, Try.ntmps100
 go_wp2_with (first | ((with_reducible refine aC (N := 1) rfl ?_); refine dN (cs := #[.int .i64 ah, .int .i64 af]) (t := 83) ?_; intro atK hg w5 hbox hb; refine mJ HB.1 hg hbox hb ?_; clear HB; intro HB abm atL atM; clear hb hbox hg; obtain ⟨oL, oM, oN, oO⟩ := nO abm.1))
 go_ret
 exact ⟨RF, BL HB.1⟩
def nS.f (ah : Int) (af : Int) : Option (Bool) := (iw.f ah 0 7).bind fun atN => (if atN = true then (if af = 0 then (some true) else (if af = 1 then ((nI.f ah af).bind fun an8 => (some an8)) else (some false))) else (some false))
theorem nS.calls (ah : Int) (af : Int) (r : Bool) (w : World) (h : nS.f ah af = some r) :
 Calls Try.prog 93 #[.agg #[.int .i64 ah, .int .i64 af]] w fun e w' => e = .returned (.bool r) /\ Below w.heap.size w w' := by
 have xE := Try.underlying83
 have HB := aa.mk (Below.refl w.heap.size w)
 have H := h
 clear h
 unfold nS.f at H
 replace H := dz H; obtain ⟨atN, A2, H⟩ := H
 replace H := Cm H; rcases H with ⟨rfl, H⟩ | ⟨rfl, H⟩
 · replace H := oP H; rcases H with ⟨c4, H⟩ | ⟨c4, H⟩
   · have c4b0 := beq_iff_eq.mpr c4
     have c4b1 := bne_eq_false_iff_eq.mpr c4
     clear c4
     obtain rfl := Option.some.inj H
     go_enter Try.func93, Try.ntmps93
     go_wp2_with (first | ((with_reducible refine aC (N := 1) rfl ?_); refine dN (cs := #[.int .i64 ah, .int .i64 af]) (t := 83) ?_; intro abn hg w5 hbox hb; refine mJ HB.1 hg hbox hb ?_; clear HB; intro HB Ea abo abp; clear hb hbox hg; obtain ⟨oL, oM, oN, oO⟩ := nO Ea.1) | ((with_reducible refine aA (f := 55) rfl ?_); refine cK (N := (some 5)) #[.int .i64 ah, .int .i64 0, .int .i64 7] Try.func55 ?_; (with_reducible refine (iw.calls ah 0 7 true _ A2.1).mono ?_); rintro e w' ⟨rfl, ⟨nd, rfl⟩⟩; refine ⟨_, rfl, ?_⟩))
     go_ret
     exact ⟨RF, BL HB.1⟩
   have c4b0 := beq_eq_false_iff_ne.mpr c4
   have c4b1 := bne_iff_ne.mpr c4
   replace H := oP H; rcases H with ⟨c7, H⟩ | ⟨c7, H⟩
   · have c7b0 := beq_iff_eq.mpr c7
     have c7b1 := bne_eq_false_iff_eq.mpr c7
     clear c7
     replace H := dz H; obtain ⟨an8, A8, H⟩ := H
     obtain rfl := Option.some.inj H
     go_enter Try.func93, Try.ntmps93
     go_wp2_with (first | ((with_reducible refine aC (N := 1) rfl ?_); refine dN (cs := #[.int .i64 ah, .int .i64 af]) (t := 83) ?_; intro abn hg w9 hbox hb; refine mJ HB.1 hg hbox hb ?_; clear HB; intro HB Ea abo abp; clear hb hbox hg; obtain ⟨pR, pU, pV, pW⟩ := nO Ea.1) | ((with_reducible refine aA (f := 55) rfl ?_); refine cK (N := (some 5)) #[.int .i64 ah, .int .i64 0, .int .i64 7] Try.func55 ?_; (with_reducible refine (iw.calls ah 0 7 true _ A2.1).mono ?_); rintro e w' ⟨rfl, ⟨nd, rfl⟩⟩; refine ⟨_, rfl, ?_⟩) | (go_at_call 100; (with_reducible refine (nI.calls ah af an8 _ A8.1).mono ?_); rintro e qy ⟨rfl, hb⟩; refine E2 (bB Ea.1 hb) (bS HB.1 hb) ?_; clear Ea HB; intro Ea HB; (try clear hb)))
     go_ret
     exact ⟨RF, BL HB.1⟩
   have c7b0 := beq_eq_false_iff_ne.mpr c7
   have c7b1 := bne_iff_ne.mpr c7
   obtain rfl := Option.some.inj H
   go_enter Try.func93, Try.ntmps93
   go_wp2_with (first | ((with_reducible refine aC (N := 1) rfl ?_); refine dN (cs := #[.int .i64 ah, .int .i64 af]) (t := 83) ?_; intro abn hg yC hbox hb; refine mJ HB.1 hg hbox hb ?_; clear HB; intro HB Ea abo abp; clear hb hbox hg; obtain ⟨uF, uG, uH, uI⟩ := nO Ea.1) | ((with_reducible refine aA (f := 55) rfl ?_); refine cK (N := (some 5)) #[.int .i64 ah, .int .i64 0, .int .i64 7] Try.func55 ?_; (with_reducible refine (iw.calls ah 0 7 true _ A2.1).mono ?_); rintro e w' ⟨rfl, ⟨nd, rfl⟩⟩; refine ⟨_, rfl, ?_⟩))
   go_ret
   exact ⟨RF, BL HB.1⟩
 obtain rfl := Option.some.inj H
 go_enter Try.func93, Try.ntmps93
 go_wp2_with (first | ((with_reducible refine aC (N := 1) rfl ?_); refine dN (cs := #[.int .i64 ah, .int .i64 af]) (t := 83) ?_; intro abn hg yM hbox hb; refine mJ HB.1 hg hbox hb ?_; clear HB; intro HB Ea abo abp; clear hb hbox hg; obtain ⟨sD, sF, sG, sH⟩ := nO Ea.1) | ((with_reducible refine aA (f := 55) rfl ?_); refine cK (N := (some 5)) #[.int .i64 ah, .int .i64 0, .int .i64 7] Try.func55 ?_; (with_reducible refine (iw.calls ah 0 7 false _ A2.1).mono ?_); rintro e w' ⟨rfl, ⟨nd, rfl⟩⟩; refine ⟨_, rfl, ?_⟩))
 go_ret
 exact ⟨RF, BL HB.1⟩
mutual
def bO.j0 : Nat -> Bool -> Int -> Int -> List (fq) -> Option (Bool)
 | 0, _, _, _, _ => none
 | k + 1, x25, azE, azF, Wn => if x25 = true then (some false) else (bO.l0 k Wn (Wn.length : Int) 0)
def bO.l0 : Nat -> List (fq) -> Int -> Int -> Option (Bool)
 | 0, _, _, _ => none
 | k + 1, x27, x28, x29 => if x29 < x28 then (if 0 <= x29 then (if x29 < (x27.length : Int) then ((nS.f ((aj x27 x29).f0) ((aj x27 x29).f1)).bind fun t227 => (if t227 = true then (bO.l0 k x27 x28 (wrap64 (x29 + 1))) else (some false))) else (none)) else (none)) else (some true)
end
def bO.f (k : Nat) (ah : Int) (af : Int) (ae : List (fq)) : Option (Bool) := (iw.f ah 1 10).bind fun atO => (if atO = true then ((iw.f af 1 9).bind fun atP => (if atP = true then (bO.j0 k ((ae.length : Int) != (wrap64 (ah * af))) ah af ae) else (bO.j0 k true ah af ae))) else (bO.j0 k true ah af ae))
theorem bO.mono_l : ∀ k, (∀ y0 y1 y2 y3, dO (bO.j0 k y0 y1 y2 y3) (bO.j0 (k + 1) y0 y1 y2 y3)) /\ (∀ y0 y1 y2, dO (bO.l0 k y0 y1 y2) (bO.l0 (k + 1) y0 y1 y2))
 | 0 => by refine ⟨?_, ?_⟩ <;> (intros; intro r h; first | (simp [bO.j0] at h; done) | (simp [bO.l0] at h; done))
 | k + 1 => by
  obtain ⟨ja, ih1⟩ := bO.mono_l k
  refine ⟨?_, ?_⟩ <;> (
   intros
   first | unfold bO.j0 | unfold bO.l0
   exact Qj ja ih1)
theorem bO.mono : ∀ a0 a1 a2 k, dO (bO.f k a0 a1 a2) (bO.f (k + 1) a0 a1 a2) := by
 intro a0 a1 a2 k
 obtain ⟨ja, ih1⟩ := bO.mono_l k
 unfold bO.f
 exact Qj ja ih1
theorem bO.calls (k : Nat) (ah : Int) (af : Int) (aK : Option Addr) (aJ : Nat) (ae : List (fq)) (r : Bool) (w : World) (dH : Kd.C jZ w aK ae.length ae) (dG : ae.length <= aJ) (h : bO.f k ah af ae = some r) :
 Calls Try.prog 83 #[.agg #[.int .i64 ah, .int .i64 af, .slice aK ae.length aJ]] w fun e w' => e = .returned (.bool r) /\ Below w.heap.size w w' := by
 have nH := Try.underlying30
 have xE := Try.underlying83
 have bD := aa.mk dH
 have cO := aa.mk dG
 clear dH dG
 have HB := aa.mk (Below.refl w.heap.size w)
 have H := h
 clear h
 unfold bO.f at H
 have HC2 := aa.mk H
 clear H
 go_enter Try.func83, Try.ntmps83
 go_upto_region 1 with (first | ((with_reducible refine aC (N := 1) rfl ?_); (try (refine jT (by rfl) ?_; dsimp only)); refine dN (cs := #[.int .i64 ah, .int .i64 af, .slice aK ae.length aJ]) (t := 30) ?_; intro Wo hg w3 hbox hb; refine mJ HB.1 hg hbox hb ?_; clear HB; intro HB nJ aJA aJB; clear hb hbox hg))
 (try simp only [Act.put, List.setIfInBounds_toArray, List.set_cons_zero, List.set_cons_succ])
 go_cut [25] (fun v25 wc => ∃ (kq : Nat) (abq : Bool), v25 = .bool abq /\ aa (bO.j0 kq abq ah af ae = some r) /\ aa (kq <= k) /\ aa (wc.heap[Wo]? = some (.cells #[.int .i64 ah, .int .i64 af, (.slice aK ae.length aJ)] 30 (0, 0))) /\ aa (Below w.heap.size w wc))
 case first =>
  have H := HC2.1
  clear HC2
  replace H := dz H; obtain ⟨atO, A4, H⟩ := H
  replace H := Cm H; rcases H with ⟨rfl, H⟩ | ⟨rfl, H⟩
  · replace H := dz H; obtain ⟨atP, A6, H⟩ := H
    replace H := Cm H; rcases H with ⟨rfl, H⟩ | ⟨rfl, H⟩
    · have H' := aa.mk H
      clear H
      obtain ⟨lZ, l5, mR, l6, l7, mU⟩ := gB nJ.1
      go_wp2_with (first | ((with_reducible refine aA (f := 55) rfl ?_); refine cK (N := (some 7)) #[.int .i64 ah, .int .i64 1, .int .i64 10] Try.func55 ?_; (with_reducible refine (iw.calls ah 1 10 true _ A4.1).mono ?_); rintro e w' ⟨rfl, ⟨nd, rfl⟩⟩; refine ⟨_, rfl, ?_⟩) | (go_at_call 55; (with_reducible refine (iw.calls af 1 9 true _ A6.1).mono ?_); rintro e w' ⟨rfl, ⟨nd, rfl⟩⟩))
      go_meet
      case rel => exact ⟨_, (((ae.length : Int) != (wrap64 (ah * af)))), RG, H', ⟨by first | omega | exact Nat.le_refl _⟩, ⟨PB nJ.1⟩, ⟨BL HB.1⟩⟩
    have H' := aa.mk H
    clear H
    obtain ⟨Ej, El, NS, Em, En, NT⟩ := gB nJ.1
    go_wp2_with (first | ((with_reducible refine aA (f := 55) rfl ?_); refine cK (N := (some 7)) #[.int .i64 ah, .int .i64 1, .int .i64 10] Try.func55 ?_; (with_reducible refine (iw.calls ah 1 10 true _ A4.1).mono ?_); rintro e w' ⟨rfl, ⟨nd, rfl⟩⟩; refine ⟨_, rfl, ?_⟩) | (go_at_call 55; (with_reducible refine (iw.calls af 1 9 false _ A6.1).mono ?_); rintro e w' ⟨rfl, ⟨nd, rfl⟩⟩))
    go_meet
    case rel => exact ⟨_, (true), RG, H', ⟨by first | omega | exact Nat.le_refl _⟩, ⟨PB nJ.1⟩, ⟨BL HB.1⟩⟩
  have H' := aa.mk H
  clear H
  obtain ⟨pR, pU, uN, pV, pW, uO⟩ := gB nJ.1
  go_wp2_with (first | ((with_reducible refine aA (f := 55) rfl ?_); refine cK (N := (some 7)) #[.int .i64 ah, .int .i64 1, .int .i64 10] Try.func55 ?_; (with_reducible refine (iw.calls ah 1 10 false _ A4.1).mono ?_); rintro e w' ⟨rfl, ⟨nd, rfl⟩⟩; refine ⟨_, rfl, ?_⟩))
  go_meet
  case rel => exact ⟨_, (true), RG, H', ⟨by first | omega | exact Nat.le_refl _⟩, ⟨PB nJ.1⟩, ⟨BL HB.1⟩⟩
 clear HC2
 obtain ⟨kq, abq, rfl, HA, HJ1, nJ, HB⟩ := hcut
 cases kq with
 | zero => exact absurd HA.1 (by simp [bO.j0])
 | succ kj1 => ?_
 have H := HA.1
 clear HA
 simp only [bO.j0] at H
 replace H := Cm H; rcases H with ⟨rfl, H⟩ | ⟨rfl, H⟩
 · obtain rfl := Option.some.inj H
   go_wp2
   go_ret
   exact ⟨RF, BL HB.1⟩
 have H' := aa.mk H
 clear H
 obtain ⟨vT, vU, xI, vV, vW, xJ⟩ := gB nJ.1
 go_wp2
 go_loopg [29] kj1 (fun kq v29 w' => ∃ (qj : Int), v29 = .int .i64 qj /\ aa (bO.l0 kq ae (ae.length : Int) qj = some r) /\ aa (kq <= kj1) /\ aa (w'.heap[Wo]? = some (.cells #[.int .i64 ah, .int .i64 af, (.slice aK ae.length aJ)] 30 (0, 0))) /\ aa (Below w.heap.size w w'))
 case atStart => exact ⟨(0), RG, H', ⟨Nat.le_refl _⟩, ⟨PB nJ.1⟩, ⟨BL HB.1⟩⟩
 clear H'
 clear vT vU xI vV vW xJ
 obtain ⟨qj, rfl, HA, nG, nJ, HB⟩ := hrel
 cases gk with
 | zero => exact absurd HA.1 (by simp [bO.l0])
 | succ k2 => ?_
 have H := HA.1
 clear HA
 simp only [bO.l0] at H
 replace H := pu H; rcases H with ⟨c13b0, H⟩ | ⟨c13b0, H⟩
 · replace H := ji H; obtain ⟨c14b0, H⟩ := H
   replace H := ji H; obtain ⟨c15b0, H⟩ := H
   replace H := dz H; obtain ⟨t227, A16, H⟩ := H
   replace H := Cm H; rcases H with ⟨rfl, H⟩ | ⟨rfl, H⟩
   · have H' := aa.mk H
     clear H
     have TV : 0 <= (qj : Int) := OD
     have TW : qj < (ae.length : Int) := OD
     obtain ⟨abr, an9, AA, AB⟩ := iP bD.1 qj TV TW
     cases an9
     replace AA := (HB.1.cell (World.block_lt_of_cell? w _ AA)).trans AA
     replace AB := (HB.1.cell (World.block_lt_of_cell? w _ AB)).trans AB
     replace TV := eq_true TV
     replace TW := eq_true TW
     go_wp2_with (first | ((with_reducible refine aC (N := 4) rfl ?_); (try (refine jT (by rfl) ?_; dsimp only)); refine dN (cs := #[.int .i64 0, .int .i64 0]) (t := 83) ?_; intro abt hg w18 hbox hb; refine E7 (bB nJ.1 hb) (bS HB.1 hb) (hbox) (gX HB.1 hg) (gX HB.1 hg) (nB nJ.1 hg) (nC nJ.1 hg) ?_; clear nJ HB; intro nJ HB FU atQ atT za Ii; clear hb hbox hg; have ajk := Ii.1; have ajl := za.1; obtain ⟨wz, wB, wC, wD⟩ := nO FU.1) | ((with_reducible refine aA (f := 93) rfl ?_); refine cK (N := (some 34)) #[.agg #[.int .i64 ((aj ae qj).f0), .int .i64 ((aj ae qj).f1)]] Try.func93 ?_; (with_reducible refine (nS.calls ((aj ae qj).f0) ((aj ae qj).f1) true _ A16.1).mono ?_); rintro e Qo ⟨rfl, hb⟩; refine ⟨_, rfl, ?_⟩; refine E3 (dh (g := Wo) (o := .cells #[.int .i64 ah, .int .i64 af, .slice (some abr) ae.length aJ] 30 (0, 0)) (xB za.1 nJ.1) hb) (dh (g := abt) (o := .cells #[.int .i64 ((aj ae qj).f0), .int .i64 ((aj ae qj).f1)] 83 (0, 0)) (BB FU.1) hb) (bS HB.1 hb) ?_; clear nJ FU HB; intro nJ FU HB; (try clear hb)))
     go_roundg k2
     case measure => have := HJ1.1; have := nG.1; omega
     case rel => exact ⟨(wrap64 (qj + 1)), RG, H', ⟨by have := HJ1.1; have := nG.1; omega⟩, ⟨PB nJ.1⟩, ⟨BL HB.1⟩⟩
   obtain rfl := Option.some.inj H
   have TV : 0 <= (qj : Int) := OD
   have TW : qj < (ae.length : Int) := OD
   obtain ⟨abr, an9, AA, AB⟩ := iP bD.1 qj TV TW
   cases an9
   replace AA := (HB.1.cell (World.block_lt_of_cell? w _ AA)).trans AA
   replace AB := (HB.1.cell (World.block_lt_of_cell? w _ AB)).trans AB
   replace TV := eq_true TV
   replace TW := eq_true TW
   go_wp2_with (first | ((with_reducible refine aC (N := 4) rfl ?_); (try (refine jT (by rfl) ?_; dsimp only)); refine dN (cs := #[.int .i64 0, .int .i64 0]) (t := 83) ?_; intro abt hg BM hbox hb; refine E7 (bB nJ.1 hb) (bS HB.1 hb) (hbox) (gX HB.1 hg) (gX HB.1 hg) (nB nJ.1 hg) (nC nJ.1 hg) ?_; clear nJ HB; intro nJ HB FU atQ atT za Ii; clear hb hbox hg; have atU := Ii.1; have atV := za.1; obtain ⟨JP, JQ, JR, JS⟩ := nO FU.1) | ((with_reducible refine aA (f := 93) rfl ?_); refine cK (N := (some 34)) #[.agg #[.int .i64 ((aj ae qj).f0), .int .i64 ((aj ae qj).f1)]] Try.func93 ?_; (with_reducible refine (nS.calls ((aj ae qj).f0) ((aj ae qj).f1) false _ A16.1).mono ?_); rintro e Mk ⟨rfl, hb⟩; refine ⟨_, rfl, ?_⟩; refine E3 (dh (g := Wo) (o := .cells #[.int .i64 ah, .int .i64 af, .slice (some abr) ae.length aJ] 30 (0, 0)) (xB za.1 nJ.1) hb) (dh (g := abt) (o := .cells #[.int .i64 ((aj ae qj).f0), .int .i64 ((aj ae qj).f1)] 83 (0, 0)) (BB FU.1) hb) (bS HB.1 hb) ?_; clear nJ FU HB; intro nJ FU HB; (try clear hb)))
   go_ret
   exact ⟨RF, BL HB.1⟩
 obtain rfl := Option.some.inj H
 go_wp2
 go_ret
 exact ⟨RF, BL HB.1⟩
def iW.f (k : Nat) (ah : Int) (af : Int) (ae : List (fq)) : Option (Bool) := (bO.f k ah af ae).bind fun t229 => (if t229 = true then ((aD.f k ah af ae).bind fun aoa => (some (decide ((aoa.length : Int) <= 8)))) else (some false))
theorem iW.mono : ∀ a0 a1 a2 k, dO (iW.f k a0 a1 a2) (iW.f (k + 1) a0 a1 a2) := by
 intro a0 a1 a2 k
 unfold iW.f
 repeat' first
  | (with_reducible exact bO.mono _ _ _ _)
  | (with_reducible exact aD.mono _ _ _ _)
  | (with_reducible exact dO.refl _)
  | (with_reducible exact dO.none _)
  | (with_reducible refine dO.ite ?_ ?_)
  | (with_reducible refine dO.bind ?_ (fun _ => ?_))
  | exact bO.mono _ _ _ _
  | exact aD.mono _ _ _ _
  | exact dO.none _
  | refine dO.ite ?_ ?_
  | refine dO.bind ?_ (fun _ => ?_)
theorem iW.calls (k : Nat) (ah : Int) (af : Int) (aK : Option Addr) (aJ : Nat) (ae : List (fq)) (r : Bool) (w : World) (dH : Kd.C jZ w aK ae.length ae) (dG : ae.length <= aJ) (h : iW.f k ah af ae = some r) :
 Calls Try.prog 68 #[.agg #[.int .i64 ah, .int .i64 af, .slice aK ae.length aJ]] w fun e w' => e = .returned (.bool r) /\ Below w.heap.size w w' := by
 have nH := Try.underlying30
 have bD := aa.mk dH
 have cO := aa.mk dG
 clear dH dG
 have HB := aa.mk (Below.refl w.heap.size w)
 have H := h
 clear h
 unfold iW.f at H
 replace H := dz H; obtain ⟨t229, A2, H⟩ := H
 replace H := Cm H; rcases H with ⟨rfl, H⟩ | ⟨rfl, H⟩
 · replace H := dz H; obtain ⟨aoa, A4, H⟩ := H
   obtain rfl := Option.some.inj H
   go_enter Try.func68, Try.ntmps68
   go_wp2_with (first | ((with_reducible refine aC (N := 1) rfl ?_); (try (refine jT (by rfl) ?_; dsimp only)); refine dN (cs := #[.int .i64 ah, .int .i64 af, .slice aK ae.length aJ]) (t := 30) ?_; intro atW hg w5 hbox hb; refine mJ HB.1 hg hbox hb ?_; clear HB; intro HB zb atX atY; clear hb hbox hg; obtain ⟨oL, oM, tZ, oN, oO, uf⟩ := gB zb.1) | ((with_reducible refine aA (f := 83) rfl ?_); refine cK (N := (some 4)) #[.agg #[.int .i64 ah, .int .i64 af, .slice aK ae.length aJ]] Try.func83 ?_; (with_reducible refine (bO.calls k ah af _ _ ae true _ ?side1 ?side2 A2.1).mono ?_); (case side1 => exact CB (aY bD.1 HB.1)); (case side2 => exact cO.1); rintro e w7 ⟨rfl, hb⟩; refine ⟨_, rfl, ?_⟩; refine E2 (bB zb.1 hb) (bS HB.1 hb) ?_; clear zb HB; intro zb HB; (try clear hb); obtain ⟨lZ, l5, mR, l6, l7, mU⟩ := gB zb.1) | (go_at_call 52; (with_reducible refine (aD.calls k ah af _ _ ae aoa _ ?side1 ?side2 A4.1).mono ?_); (case side1 => exact CB (aY bD.1 HB.1)); (case side2 => exact cO.1); rintro e w9 ⟨aOF, rfl, ho0, hb⟩; refine E3 (lN ho0 (bZ HB.1)) (bB zb.1 hb) (bS HB.1 hb) ?_; clear zb HB; intro atZ zb HB; (try clear hb); (try clear ho0); obtain ⟨aE7, aeI, Yn⟩ := mq atZ.1; subst Yn))
   go_ret
   exact ⟨RF, BL HB.1⟩
 obtain rfl := Option.some.inj H
 go_enter Try.func68, Try.ntmps68
 go_wp2_with (first | ((with_reducible refine aC (N := 1) rfl ?_); (try (refine jT (by rfl) ?_; dsimp only)); refine dN (cs := #[.int .i64 ah, .int .i64 af, .slice aK ae.length aJ]) (t := 30) ?_; intro atW hg qy hbox hb; refine mJ HB.1 hg hbox hb ?_; clear HB; intro HB zb atX atY; clear hb hbox hg; obtain ⟨vT, vU, xI, vV, vW, xJ⟩ := gB zb.1) | ((with_reducible refine aA (f := 83) rfl ?_); refine cK (N := (some 4)) #[.agg #[.int .i64 ah, .int .i64 af, .slice aK ae.length aJ]] Try.func83 ?_; (with_reducible refine (bO.calls k ah af _ _ ae false _ ?side1 ?side2 A2.1).mono ?_); (case side1 => exact CB (aY bD.1 HB.1)); (case side2 => exact cO.1); rintro e yJ ⟨rfl, hb⟩; refine ⟨_, rfl, ?_⟩; refine E2 (bB zb.1 hb) (bS HB.1 hb) ?_; clear zb HB; intro zb HB; (try clear hb)))
 go_ret
 exact ⟨RF, BL HB.1⟩
def dI.l0 : Nat -> List Int -> Int -> Int -> List Int -> Int -> Int -> Option (Bool)
 | 0, _, _, _, _, _, _ => none
 | k + 1, x0, x1, x2, x9, j6, qR => if qR < j6 then (if 0 <= qR then (if qR < (x9.length : Int) then ((iw.f (rd x9 qR) x1 x2).bind fun t234 => (if t234 = true then (if qR > 0 then (if 0 <= (wrap64 (qR - 1)) then (if (wrap64 (qR - 1)) < (x0.length : Int) then (if (rd x0 (wrap64 (qR - 1))) ≥ (rd x9 qR) then (some false) else (dI.l0 k x0 x1 x2 x9 j6 (wrap64 (qR + 1)))) else (none)) else (none)) else (dI.l0 k x0 x1 x2 x9 j6 (wrap64 (qR + 1)))) else (some false))) else (none)) else (none)) else (some true)
def dI.f (k : Nat) (l0 : List Int) (a1 : Int) (a2 : Int) : Option (Bool) := dI.l0 k l0 a1 a2 l0 (l0.length : Int) 0
theorem dI.mono_l : ∀ k, (∀ y0 y1 y2 y3 y4 y5, dO (dI.l0 k y0 y1 y2 y3 y4 y5) (dI.l0 (k + 1) y0 y1 y2 y3 y4 y5))
 | 0 => fun _ _ _ _ _ _ r h => by simp [dI.l0] at h
 | k + 1 => by
  have ja := dI.mono_l k
  intros
  first | unfold dI.l0
  exact BA ja
theorem dI.mono : ∀ a0 a1 a2 k, dO (dI.f k a0 a1 a2) (dI.f (k + 1) a0 a1 a2) := by
 intro a0 a1 a2 k
 have ja := dI.mono_l k
 unfold dI.f
 exact BA ja
theorem dI.calls (k : Nat) (A0 : Option Addr) (c0 : Nat) (l0 : List Int) (a1 : Int) (a2 : Int) (r : Bool) (w : World) (hr0 : Kd.C (Kd.int .i64) w A0 l0.length l0) (hc0 : l0.length <= c0) (h : dI.f k l0 a1 a2 = some r) :
 Calls Try.prog 81 #[.slice A0 l0.length c0, .int .i64 a1, .int .i64 a2] w fun e w' => e = .returned (.bool r) /\ lY w w' := by
 have DI := aa.mk hr0
 have ZU := aa.mk hc0
 clear hr0 hc0
 have H := h
 clear h
 unfold dI.f at H
 have H' := aa.mk H
 clear H
 go_enter Try.func81, Try.ntmps81
 go_wp2
 go_loopg [11] k (fun kq v11 w' => ∃ (iQ : Int), v11 = .int .i64 iQ /\ aa (dI.l0 kq l0 a1 a2 l0 (l0.length : Int) iQ = some r) /\ aa (kq <= k) /\ lY w w')
 case atStart => exact ⟨(0), RG, H', ⟨Nat.le_refl _⟩, DR⟩
 clear H'
 obtain ⟨iQ, rfl, HA, iB, ⟨m1, rfl⟩⟩ := hrel
 cases gk with
 | zero => exact absurd HA.1 (by simp [dI.l0])
 | succ k1 => ?_
 have H := HA.1
 clear HA
 simp only [dI.l0] at H
 replace H := pu H; rcases H with ⟨c4b0, H⟩ | ⟨c4b0, H⟩
 · replace H := ji H; obtain ⟨c5b0, H⟩ := H
   replace H := ji H; obtain ⟨c6b0, H⟩ := H
   replace H := dz H; obtain ⟨t234, A7, H⟩ := H
   replace H := Cm H; rcases H with ⟨rfl, H⟩ | ⟨rfl, H⟩
   · replace H := oP H; rcases H with ⟨c9, H⟩ | ⟨c9, H⟩
     · have c9b0 : decide (0 < iQ) = true := decide_eq_true c9
       clear c9
       obtain ⟨sN, ze⟩ : ∃ j_ : Int, (wrap64 (iQ - 1)) = j_ := ⟨_, rfl⟩
       replace H : (if 0 <= (sN) then (if (sN) < (l0.length : Int) then (if (rd l0 (sN)) ≥ (rd l0 iQ) then (some false) else (dI.l0 k1 l0 a1 a2 l0 (l0.length : Int) (wrap64 (iQ + 1)))) else (none)) else (none)) = some r := by first | (rw [ze] at H; exact H) | (simp only [ze] at H ⊢; exact H)
       (try rw [ze] at A7)
       have hji10w : (IntKind.i64.wrap (iQ - 1)) = sN := (cz _).trans ze
       replace H := ji H; obtain ⟨c11b0, H⟩ := H
       replace H := ji H; obtain ⟨c12b0, H⟩ := H
       replace H := oP H; rcases H with ⟨c13, H⟩ | ⟨c13, H⟩
       · have c13b0 : decide ((rd l0 iQ) <= (rd l0 (sN))) = true := decide_eq_true c13
         clear c13
         obtain rfl := Option.some.inj H
         have EF : 0 <= (iQ : Int) := OD
         have EG : iQ < (l0.length : Int) := OD
         obtain ⟨Q3, e233, OI⟩ := Kd.dx DI.1 iQ EF EG
         cases e233
         replace EF := eq_true EF
         replace EG := eq_true EG
         go_wp2_with (first | ((with_reducible refine aA (f := 55) rfl ?_); refine cK (N := (some 19)) #[.int .i64 (rd l0 iQ), .int .i64 a1, .int .i64 a2] Try.func55 ?_; (with_reducible refine (iw.calls (rd l0 iQ) a1 a2 true _ A7.1).mono ?_); rintro e w' ⟨rfl, ⟨nd, rfl⟩⟩; refine ⟨_, rfl, ?_⟩; have TY : 0 <= ((sN) : Int) := OD; have TZ : (sN) < (l0.length : Int) := OD; obtain ⟨abu, aob, afp⟩ := Kd.dx DI.1 (sN) TY TZ; obtain rfl : Q3 = abu := (by injection aob); replace TY := eq_true TY; replace TZ := eq_true TZ))
         go_ret
         exact ⟨by first | rfl | (simp; done) | (simp only [<- ze] <;> (first | rfl | simp)) | (simp [*]; done), DR⟩
       have c13b0 : decide ((rd l0 iQ) <= (rd l0 (sN))) = false := decide_eq_false c13
       clear c13
       have H' := aa.mk H
       clear H
       have EF : 0 <= (iQ : Int) := OD
       have EG : iQ < (l0.length : Int) := OD
       obtain ⟨Q3, e233, OI⟩ := Kd.dx DI.1 iQ EF EG
       cases e233
       replace EF := eq_true EF
       replace EG := eq_true EG
       go_wp2_with (first | ((with_reducible refine aA (f := 55) rfl ?_); refine cK (N := (some 19)) #[.int .i64 (rd l0 iQ), .int .i64 a1, .int .i64 a2] Try.func55 ?_; (with_reducible refine (iw.calls (rd l0 iQ) a1 a2 true _ A7.1).mono ?_); rintro e w' ⟨rfl, ⟨nd, rfl⟩⟩; refine ⟨_, rfl, ?_⟩; have TY : 0 <= ((sN) : Int) := OD; have TZ : (sN) < (l0.length : Int) := OD; obtain ⟨abu, aob, afp⟩ := Kd.dx DI.1 (sN) TY TZ; obtain rfl : Q3 = abu := (by injection aob); replace TY := eq_true TY; replace TZ := eq_true TZ))
       go_roundg k1
       case measure => have := iB.1; omega
       case rel => exact ⟨(wrap64 (iQ + 1)), RG, H', ⟨by have := iB.1; omega⟩, DR⟩
     have c9b0 : decide (0 < iQ) = false := decide_eq_false c9
     clear c9
     have H' := aa.mk H
     clear H
     have EF : 0 <= (iQ : Int) := OD
     have EG : iQ < (l0.length : Int) := OD
     obtain ⟨Q3, e233, OI⟩ := Kd.dx DI.1 iQ EF EG
     cases e233
     replace EF := eq_true EF
     replace EG := eq_true EG
     go_wp2_with (first | ((with_reducible refine aA (f := 55) rfl ?_); refine cK (N := (some 19)) #[.int .i64 (rd l0 iQ), .int .i64 a1, .int .i64 a2] Try.func55 ?_; (with_reducible refine (iw.calls (rd l0 iQ) a1 a2 true _ A7.1).mono ?_); rintro e w' ⟨rfl, ⟨nd, rfl⟩⟩; refine ⟨_, rfl, ?_⟩))
     go_roundg k1
     case measure => have := iB.1; omega
     case rel => exact ⟨(wrap64 (iQ + 1)), RG, H', ⟨by have := iB.1; omega⟩, DR⟩
   obtain rfl := Option.some.inj H
   have EF : 0 <= (iQ : Int) := OD
   have EG : iQ < (l0.length : Int) := OD
   obtain ⟨Q3, e233, OI⟩ := Kd.dx DI.1 iQ EF EG
   cases e233
   replace EF := eq_true EF
   replace EG := eq_true EG
   go_wp2_with (first | ((with_reducible refine aA (f := 55) rfl ?_); refine cK (N := (some 19)) #[.int .i64 (rd l0 iQ), .int .i64 a1, .int .i64 a2] Try.func55 ?_; (with_reducible refine (iw.calls (rd l0 iQ) a1 a2 false _ A7.1).mono ?_); rintro e w' ⟨rfl, ⟨nd, rfl⟩⟩; refine ⟨_, rfl, ?_⟩))
   go_ret
   exact ⟨RG, DR⟩
 obtain rfl := Option.some.inj H
 go_wp2
 go_ret
 exact ⟨RG, DR⟩
def fH.f (k : Nat) (ah : Int) (af : Int) (ae : List (fq)) (l1 : List Int) : Option (Bool) := (iW.f k ah af ae).bind fun at0 => (if at0 = true then (if (l1.length : Int) > 0 then ((dI.f k l1 0 (wrap64 (af - 1))).bind fun aoc => (some aoc)) else (some false)) else (some false))
theorem fH.mono : ∀ a0 a1 a2 a3 k, dO (fH.f k a0 a1 a2 a3) (fH.f (k + 1) a0 a1 a2 a3) := by
 intro a0 a1 a2 a3 k
 unfold fH.f
 repeat' first
  | (with_reducible exact dI.mono _ _ _ _)
  | (with_reducible exact iW.mono _ _ _ _)
  | (with_reducible exact dO.refl _)
  | (with_reducible exact dO.none _)
  | (with_reducible refine dO.ite ?_ ?_)
  | (with_reducible refine dO.bind ?_ (fun _ => ?_))
  | exact dI.mono _ _ _ _
  | exact iW.mono _ _ _ _
  | exact dO.none _
  | refine dO.ite ?_ ?_
  | refine dO.bind ?_ (fun _ => ?_)
theorem fH.calls (k : Nat) (ah : Int) (af : Int) (aK : Option Addr) (aJ : Nat) (ae : List (fq)) (A1 : Option Addr) (c1 : Nat) (l1 : List Int) (r : Bool) (w : World) (dH : Kd.C jZ w aK ae.length ae) (dG : ae.length <= aJ) (hr1 : Kd.C (Kd.int .i64) w A1 l1.length l1) (hc1 : l1.length <= c1) (h : fH.f k ah af ae l1 = some r) :
 Calls Try.prog 57 #[.agg #[.int .i64 ah, .int .i64 af, .slice aK ae.length aJ], .slice A1 l1.length c1] w fun e w' => e = .returned (.bool r) /\ Below w.heap.size w w' := by
 have nH := Try.underlying30
 have bD := aa.mk dH
 have cO := aa.mk dG
 clear dH dG
 have HR1 := aa.mk hr1
 have vD := aa.mk hc1
 clear hr1 hc1
 have HB := aa.mk (Below.refl w.heap.size w)
 have H := h
 clear h
 unfold fH.f at H
 replace H := dz H; obtain ⟨at0, A3, H⟩ := H
 replace H := Cm H; rcases H with ⟨rfl, H⟩ | ⟨rfl, H⟩
 · replace H := oP H; rcases H with ⟨c5, H⟩ | ⟨c5, H⟩
   · have c5b0 : decide (0 < (l1.length : Int)) = true := decide_eq_true c5
     have c5b1 : decide (0 < l1.length) = true := decide_eq_true (by omega)
     clear c5
     replace H := dz H; obtain ⟨aoc, A6, H⟩ := H
     obtain rfl := Option.some.inj H
     go_enter Try.func57, Try.ntmps57
     go_wp2_with (first | ((with_reducible refine aC (N := 2) rfl ?_); (try (refine jT (by rfl) ?_; dsimp only)); refine dN (cs := #[.int .i64 ah, .int .i64 af, .slice aK ae.length aJ]) (t := 30) ?_; intro ajm hg w7 hbox hb; refine mJ HB.1 hg hbox hb ?_; clear HB; intro HB xg ajn ajo; clear hb hbox hg; obtain ⟨lZ, l5, mR, l6, l7, mU⟩ := gB xg.1) | ((with_reducible refine aA (f := 68) rfl ?_); refine cK (N := (some 6)) #[.agg #[.int .i64 ah, .int .i64 af, .slice aK ae.length aJ]] Try.func68 ?_; (with_reducible refine (iW.calls k ah af _ _ ae true _ ?side1 ?side2 A3.1).mono ?_); (case side1 => exact CB (aY bD.1 HB.1)); (case side2 => exact cO.1); rintro e w9 ⟨rfl, hb⟩; refine ⟨_, rfl, ?_⟩; refine E2 (bB xg.1 hb) (bS HB.1 hb) ?_; clear xg HB; intro xg HB; (try clear hb); obtain ⟨pR, pU, uN, pV, pW, uO⟩ := gB xg.1) | (go_at_call 81; (with_reducible refine (dI.calls k _ _ l1 0 (wrap64 (af - 1)) aoc _ ?side1 ?side2 A6.1).mono ?_); (case side1 => exact CB (aY HR1.1 HB.1)); (case side2 => exact vD.1); rintro e w' ⟨rfl, ⟨nd, rfl⟩⟩))
     go_ret
     exact ⟨RF, BL HB.1⟩
   have c5b0 : decide (0 < (l1.length : Int)) = false := decide_eq_false c5
   have c5b1 : decide (0 < l1.length) = false := decide_eq_false (by omega)
   clear c5
   obtain rfl := Option.some.inj H
   go_enter Try.func57, Try.ntmps57
   go_wp2_with (first | ((with_reducible refine aC (N := 2) rfl ?_); (try (refine jT (by rfl) ?_; dsimp only)); refine dN (cs := #[.int .i64 ah, .int .i64 af, .slice aK ae.length aJ]) (t := 30) ?_; intro ajm hg qy hbox hb; refine mJ HB.1 hg hbox hb ?_; clear HB; intro HB xg ajn ajo; clear hb hbox hg; obtain ⟨vT, vU, xI, vV, vW, xJ⟩ := gB xg.1) | ((with_reducible refine aA (f := 68) rfl ?_); refine cK (N := (some 6)) #[.agg #[.int .i64 ah, .int .i64 af, .slice aK ae.length aJ]] Try.func68 ?_; (with_reducible refine (iW.calls k ah af _ _ ae true _ ?side1 ?side2 A3.1).mono ?_); (case side1 => exact CB (aY bD.1 HB.1)); (case side2 => exact cO.1); rintro e yJ ⟨rfl, hb⟩; refine ⟨_, rfl, ?_⟩; refine E2 (bB xg.1 hb) (bS HB.1 hb) ?_; clear xg HB; intro xg HB; (try clear hb)))
   go_ret
   exact ⟨RF, BL HB.1⟩
 obtain rfl := Option.some.inj H
 go_enter Try.func57, Try.ntmps57
 go_wp2_with (first | ((with_reducible refine aC (N := 2) rfl ?_); (try (refine jT (by rfl) ?_; dsimp only)); refine dN (cs := #[.int .i64 ah, .int .i64 af, .slice aK ae.length aJ]) (t := 30) ?_; intro ajm hg yM hbox hb; refine mJ HB.1 hg hbox hb ?_; clear HB; intro HB xg ajn ajo; clear hb hbox hg; obtain ⟨sD, sF, wN, sG, sH, wO⟩ := gB xg.1) | ((with_reducible refine aA (f := 68) rfl ?_); refine cK (N := (some 6)) #[.agg #[.int .i64 ah, .int .i64 af, .slice aK ae.length aJ]] Try.func68 ?_; (with_reducible refine (iW.calls k ah af _ _ ae false _ ?side1 ?side2 A3.1).mono ?_); (case side1 => exact CB (aY bD.1 HB.1)); (case side2 => exact cO.1); rintro e w16 ⟨rfl, hb⟩; refine ⟨_, rfl, ?_⟩; refine E2 (bB xg.1 hb) (bS HB.1 hb) ?_; clear xg HB; intro xg HB; (try clear hb)))
 go_ret
 exact ⟨RF, BL HB.1⟩
def dD.l0 : Nat -> List Int -> List (List Int) -> Int -> Int -> Int -> Int -> List (fq) -> Option (List Int)
 | 0, _, _, _, _, _, _, _ => none
 | k + 1, x3, x7, x8, x9, afq, afr, OJ => if x9 < x8 then (if 0 <= x9 then (if x9 < (x7.length : Int) then (if 0 < ((aT x7 x9).length : Int) then (if 0 <= (rd (aT x7 x9) 0) then (if (rd (aT x7 x9) 0) < (OJ.length : Int) then (if x3.length < 17592186044416 then (dD.l0 k (x3 ++ [(aj OJ (rd (aT x7 x9) 0)).f1]) x7 x8 (wrap64 (x9 + 1)) afq afr OJ) else (none)) else (none)) else (none)) else (none)) else (none)) else (none)) else (some x3)
def dD.f (k : Nat) (ah : Int) (af : Int) (ae : List (fq)) : Option (List Int) := (aD.f k ah af ae).bind fun uX => (dD.l0 k ([] : List Int) uX (uX.length : Int) 0 ah af ae)
theorem dD.mono_l : ∀ k, (∀ y0 y1 y2 y3 y4 y5 y6, dO (dD.l0 k y0 y1 y2 y3 y4 y5 y6) (dD.l0 (k + 1) y0 y1 y2 y3 y4 y5 y6))
 | 0 => fun _ _ _ _ _ _ _ r h => by simp [dD.l0] at h
 | k + 1 => by
  have ja := dD.mono_l k
  intros
  first | unfold dD.l0
  exact Qj ja aD.mono
theorem dD.mono : ∀ a0 a1 a2 k, dO (dD.f k a0 a1 a2) (dD.f (k + 1) a0 a1 a2) := by
 intro a0 a1 a2 k
 have ja := dD.mono_l k
 unfold dD.f
 exact Qj ja aD.mono
def dD.T5 : Bool × List (List Nat × List Nat) := (true, [([], []), ([], []), ([1], [1]), ([], []), ([3], [3]), ([4], [4]), ([2, 5], [2, 5]), ([6], [6]), ([7], [7]), ([8], [8]), ([0, 9], [0, 9]), ([10, 10, 0, 1, 2, 3, 4, 5, 6, 7, 8, 9, 10], [0, 10])])
def dD.B5 : List Nat := [0, 0, 2, 0, 8, 24, 62, 126, 254, 510, 1023, 2047]
theorem dD.abv : mX .any (opsOf Try.f71 5) = dD.T5 := by kernel_rfl
theorem dD.bits5 : kr dD.T5.2 dD.B5 = true := by kernel_rfl
theorem dD.calls (k : Nat) (ah : Int) (af : Int) (aK : Option Addr) (aJ : Nat) (ae : List (fq)) (r : List Int) (w : World) (dH : Kd.C jZ w aK ae.length ae) (dG : ae.length <= aJ) (h : dD.f k ah af ae = some r) :
 Calls Try.prog 71 #[.agg #[.int .i64 ah, .int .i64 af, .slice aK ae.length aJ]] w fun e w' => ∃ rO : Value, e = .returned (rO) /\ Kd.R (Kd.int .i64) 3 w' w.heap.size (fun _ => True) rO r /\ Below w.heap.size w w' := by
 have nH := Try.underlying30
 have bD := aa.mk dH
 have cO := aa.mk dG
 clear dH dG
 have HB := aa.mk (Below.refl w.heap.size w)
 have H := h
 clear h
 unfold dD.f at H
 replace H := dz H; obtain ⟨uX, A2, H⟩ := H
 have H' := aa.mk H
 clear H
 go_enter Try.func71, Try.ntmps71
 go_wp2_with (first | ((with_reducible refine aC (N := 1) rfl ?_); refine dN (cs := #[.int .i64 ah, .int .i64 af, .slice aK ae.length aJ]) (t := 30) ?_; intro Wp hg w3 hbox hb; refine mJ HB.1 hg hbox hb ?_; clear HB; intro HB tV aJE aJF; clear hb hbox hg; obtain ⟨Ao, Ap, K7, Aq, Ar, K8⟩ := gB tV.1) | ((with_reducible refine aA (f := 52) rfl ?_); refine cK (N := (some 7)) #[.agg #[.int .i64 ah, .int .i64 af, .slice aK ae.length aJ]] Try.func52 ?_; (with_reducible refine (aD.calls k ah af _ _ ae uX _ ?side1 ?side2 A2.1).mono ?_); (case side1 => exact CB (aY bD.1 HB.1)); (case side2 => exact cO.1); rintro e w5 ⟨aOG, rfl, ho0, hb⟩; refine ⟨_, rfl, ?_⟩; refine E3 (lN ho0 (bZ HB.1)) (bB tV.1 hb) (bS HB.1 hb) ?_; clear tV HB; intro ajp tV HB; (try clear hb); (try clear ho0); obtain ⟨Ao6, co6, eo6⟩ := mq ajp.1; subst eo6))
 go_loopg [3, 9] k (fun kq v3 v9 w' => ∃ (ky : List Int) (kJ : Int), v9 = .int .i64 kJ /\ aa (dD.l0 kq ky uX (uX.length : Int) kJ ah af ae = some r) /\ aa (kq <= k) /\ aa (Kd.R (Kd.int .i64) 3 w' w.heap.size (fun _ => True) v3 ky) /\ aa (Kd.S (Kd.slice 3 (Kd.int .i64)) 38 w' w.heap.size (fun k_ => some k_ ≠ (v3 : Value).ownBlock) (.slice Ao6 uX.length co6) uX) /\ aa (w'.heap[Wp]? = some (.cells #[.int .i64 ah, .int .i64 af, (.slice aK ae.length aJ)] 30 (0, 0))) /\ aa (Below w.heap.size w w'))
 case atStart => exact ⟨(([] : List Int)), (0), RG, H', ⟨Nat.le_refl _⟩, ⟨by first | exact tO _ _ _ _ _ | exact ET _ _ _ _ _ | exact EU _ _ _ _ _ | exact EW _ _ _ _ _ | exact EY _ _ _ _ _⟩, ⟨ES (eY ajp.1 (fun _ hk => (by simp [Value.ownBlock])))⟩, ⟨PB tV.1⟩, ⟨BL HB.1⟩⟩
 clear H'
 clear Ao Ap K7 Aq Ar K8
 obtain ⟨ky, kJ, rfl, HA, iB, HO_3, HO_7, tV, HB⟩ := hrel
 cases gk with
 | zero => exact absurd HA.1 (by simp [dD.l0])
 | succ k1 => ?_
 have H := HA.1
 clear HA
 simp only [dD.l0] at H
 replace H := pu H; rcases H with ⟨c7b0, H⟩ | ⟨c7b0, H⟩
 · replace H := ji H; obtain ⟨c8b0, H⟩ := H
   replace H := ji H; obtain ⟨c9b0, H⟩ := H
   replace H := oC H; obtain ⟨c10, H⟩ := H
   have c10b0 := decide_eq_true c10
   have c10b1 : decide (0 < (aT uX kJ).length) = true := decide_eq_true (by omega)
   clear c10
   replace H := ji H; obtain ⟨c11b0, H⟩ := H
   replace H := ji H; obtain ⟨c12b0, H⟩ := H
   replace H := oC H; obtain ⟨c13, H⟩ := H
   have QN := aa.mk c13
   clear c13
   generalize ajq : ((ky ++ [(aj ae (rd (aT uX kJ) 0)).f1]) : List Int) = aE8 at H
   have at1 := aa.mk ajq.symm; clear ajq
   have H' := aa.mk H
   clear H
   have afs : 0 <= (kJ : Int) := OD
   have aft : kJ < (uX.length : Int) := OD
   obtain ⟨at5, aE9, aFa, e243, afu, Wq, Ws⟩ := tT (fJ HO_7.1).2.2 kJ afs aft
   cases e243
   obtain ⟨aJG, aod, aoe, abw⟩ := BF HO_7.1 [] kJ afs (by first | exact aft | exact OD | (have e_ := (fJ HO_7.1).1; omega))
   obtain ⟨azH, rfl, OL⟩ := aoe
   have FV := abw 0 _ rfl
   rw [Nat.add_zero, show ((Kd.slice 3 (Kd.int .i64))).sz = 1 from rfl, Nat.mul_one] at FV
   replace FV := Option.some.inj (FV.symm.trans afu)
   rw [FV] at OL
   have AC := aa.mk (show Kd.R (Kd.int .i64) 3 _ _ _ _ (aT uX kJ) from OL)
   clear FV OL
   clear abw aod
   have CV := aa.mk Ws
   have azI := aa.mk Wq
   clear Ws Wq
   replace afs := eq_true afs
   replace aft := eq_true aft
   try go_wp2
   refine E6 (aQ HO_3.1) (iV HO_7.1) (aQ AC.1) (ag tV.1) (kH CV.1) (dm HB.1) ?_
   clear HO_3 HO_7 AC tV CV HB
   intro HO_3 HO_7 AC tV CV HB
   have aof : 0 <= (0 : Int) := (by omega)
   have aog : 0 < ((aT uX kJ).length : Int) := OD
   obtain ⟨at6, e244, JU⟩ := Kd.dx (by repeat (first | (with_reducible exact CV.1) | (with_reducible refine kg ?_ _) | (with_reducible refine ko ?_ _) | (with_reducible refine kH ?_) | exact CV.1)) 0 aof aog
   cases e244
   have aJH : (0 < (aT uX kJ).length) = True := eq_true (by omega)
   (try rw [show ((0 : Int)).toNat = 0 from rfl] at JU)
   (try rw [Addr.add_zero'] at JU)
   replace aof := eq_true aof
   replace aog := eq_true aog
   have aoh : 0 <= ((rd (aT uX kJ) 0) : Int) := OD
   have aoi : (rd (aT uX kJ) 0) < (ae.length : Int) := OD
   obtain ⟨Wt, e245, FW, FX⟩ := iP bD.1 (rd (aT uX kJ) 0) aoh aoi
   have Wu := FX
   have Wv := FW
   cases e245
   replace FW := (HB.1.cell (World.block_lt_of_cell? w _ FW)).trans FW
   replace FX := (HB.1.cell (World.block_lt_of_cell? w _ FX)).trans FX
   replace aoh := eq_true aoh
   replace aoi := eq_true aoi
   refine jN (n := 12) (S := fun w' => w'.cell? ⟨Wp, 0, none⟩ = some (.int .i64 ah) /\ w'.cell? ⟨Wp, 1, none⟩ = some (.int .i64 af) /\ w'.cell? ⟨Wp, 2, none⟩ = some (.slice (some Wt) ae.length aJ) /\ w'.cell? at6 = some (.int .i64 (rd (aT uX kJ) 0)) /\ w'.cell? (Wt.add (((rd (aT uX kJ) 0)).toNat * 2)) = some (.int .i64 ((aj ae (rd (aT uX kJ) 0)).f0)) /\ w'.cell? ⟨(Wt.add (((rd (aT uX kJ) 0)).toNat * 2)).block, (Wt.add (((rd (aT uX kJ) 0)).toNat * 2)).off + 1, none⟩ = some (.int .i64 ((aj ae (rd (aT uX kJ) 0)).f1))) (ds := [9, 10]) #[Zz,Zz,Zz,Zz,Zz,Zz,Zz,Zz,Zz,Zz,Zz,Zz] (by kernel_rfl) rfl rfl ⟨(ai tV.1 0).trans rfl, (ai tV.1 1).trans rfl, (ai tV.1 2).trans rfl, JU, ((HB.1.cell (World.block_lt_of_cell? w _ Wv)).trans Wv), ((HB.1.cell (World.block_lt_of_cell? w _ Wu)).trans Wu)⟩ (fun hHeld => ?_); refine iq dD.abv dD.bits5 (fun HT_ HW_ => ?_)
   generalize wr.drew = yM at HO_3 HO_7 AC tV CV HB JU FW FX hHeld ⊢
   refine aU 0 (N := some 13) HT_.1 ?_
   refine aU 1 (N := some 14) HT_.1 ?_
   refine aU 3 (N := some 16) HT_.1 ?_
   refine aU 4 (N := some 17) HT_.1 ?_
   refine gF 2 (N := some 15) HT_.1 HW_.1 hHeld ?_
   refine gF 5 (N := some 18) HT_.1 HW_.1 hHeld ?_
   refine aU 6 (N := some 19) HT_.1 ?_
   refine aU 7 (N := some 20) HT_.1 ?_
   refine gF 8 (N := some 21) HT_.1 HW_.1 hHeld ?_
   refine BD (i := 9) (N := some 22) #[Yy,Yy,Yy,Yy,Yy,Yy,Yy,Yy,Yy,Yy,Zz,Zz] rfl rfl (jc HT_.1 (by kernel_rfl)) (by decide) (fun K hK => ?_)
   refine Tp (w1 := ?_) (v := ?_) (by rfl) rfl ?_ ?_
   rotate_left 2
   · go_simp
     constructor
     · rfl
     rfl
   refine hK.out _ _ ?_
   clear hK K
   refine eX (a' := ?_) ?_ ?_
   rotate_left
   · show Act.put _ (some 22) _ = _
     simp only [Act.put, List.setIfInBounds_toArray, List.set_cons_zero, List.set_cons_succ, cz, dF]
     rfl
   refine BD (i := 10) (N := some 23) #[Yy,Yy,Yy,Yy,Yy,Yy,Yy,Yy,Yy,Yy,Yy,Zz] rfl rfl (jc HT_.1 (by kernel_rfl)) (by decide) (fun K hK => ?_)
   refine yG (Kd.int .i64) (w0 := w) w.heap.size (by rfl) (.tmp 13) (.tmp 22) 38 3 (.int .i64 0) 8 rfl Try.underlying38 info3 rfl (by decide) (by omega) u3 ky ((aj ae (rd (aT uX kJ) 0)).f1) [.int .i64 ((aj ae (rd (aT uX kJ) 0)).f1)] (fun _ => True) (fun _ => False) rfl rfl ?aP (fun _ hk => hk.elim) ?aF ?aO ?aB ?aS ?aL ?_
   (case aP => exact rfl)
   (case aB => exact (BL HB.1))
   (case aF => exact (fun _ _ => trivial))
   (case aO => exact (PR HO_3.1))
   (case aS => exact (bZ HB.1))
   (case aL => have := QN.1; omega)
   intro aOH NU ho hb hg hat
   rw [<- at1.1] at ho
   refine E5 (CK (ok := (fun _ => True)) (ES (eY HO_7.1 (fun _ hk => ⟨trivial, hk⟩))) hg hat) (bG tV.1 hg (dK HO_3.1 tV.1 (by decide))) (iX (ok := (fun k_ => some k_ ≠ (.slice (some at5) uX.length co6 : Value).ownBlock)) (pm (aG AC.1 (fun _ hk => ⟨hk.2, hk.1⟩))) hg hat) (hb) (ho) ?_
   clear HO_7 tV AC HB HO_3
   intro HO_7 tV AC HB at7
   clear ho hb hg hat
   refine hK.out _ _ ?_
   clear hK K
   refine eX (a' := ?_) ?_ ?_
   rotate_left
   · show Act.put _ (some 23) _ = _
     simp only [Act.put, List.setIfInBounds_toArray, List.set_cons_zero, List.set_cons_succ, cz, dF]
     rfl
   refine aU 11 (N := some 3) HT_.1 ?_
   refine lI (jS HT_.1 (by kernel_rfl)) ?_
   try go_wp2
   go_roundg k1
   case measure => have := iB.1; omega
   case rel => exact ⟨(aE8), (wrap64 (kJ + 1)), RG, H', ⟨by have := iB.1; omega⟩, ⟨PR at7.1⟩, ⟨ES (eY HO_7.1 (fun _ hk => hk.2))⟩, ⟨PB tV.1⟩, ⟨BL HB.1⟩⟩
 obtain rfl := Option.some.inj H
 go_wp2
 go_ret
 exact ⟨_, RF, pm (HO_3.1), BL HB.1⟩
def bR.l0 : Nat -> Int -> List Int -> Int -> Int -> Option (Int)
 | 0, _, _, _, _ => none
 | k + 1, x3, x7, x8, x9 => if x9 < x8 then (if 0 <= x9 then (if x9 < (x7.length : Int) then (if 0 <= (IntKind.u64.wrap (x9)) then (bR.l0 k (wrap64 (x3 + (shl .i64 (rd x7 x9) (IntKind.u64.wrap (x9))))) x7 x8 (wrap64 (x9 + 1))) else (none)) else (none)) else (none)) else (some x3)
def bR.f (k : Nat) (ah : Int) (af : Int) (ae : List (fq)) : Option (Int) := (dD.f k ah af ae).bind fun AF => (bR.l0 k 0 AF (AF.length : Int) 0)
theorem bR.mono_l : ∀ k, (∀ y0 y1 y2 y3, dO (bR.l0 k y0 y1 y2 y3) (bR.l0 (k + 1) y0 y1 y2 y3))
 | 0 => fun _ _ _ _ r h => by simp [bR.l0] at h
 | k + 1 => by
  have ja := bR.mono_l k
  intros
  first | unfold bR.l0
  exact Qj ja dD.mono
theorem bR.mono : ∀ a0 a1 a2 k, dO (bR.f k a0 a1 a2) (bR.f (k + 1) a0 a1 a2) := by
 intro a0 a1 a2 k
 have ja := bR.mono_l k
 unfold bR.f
 exact Qj ja dD.mono
theorem bR.calls (k : Nat) (ah : Int) (af : Int) (aK : Option Addr) (aJ : Nat) (ae : List (fq)) (r : Int) (w : World) (dH : Kd.C jZ w aK ae.length ae) (dG : ae.length <= aJ) (h : bR.f k ah af ae = some r) :
 Calls Try.prog 44 #[.agg #[.int .i64 ah, .int .i64 af, .slice aK ae.length aJ]] w fun e w' => e = .returned (.int .i64 r) /\ Below w.heap.size w w' := by
 have nH := Try.underlying30
 have bD := aa.mk dH
 have cO := aa.mk dG
 clear dH dG
 have HB := aa.mk (Below.refl w.heap.size w)
 have H := h
 clear h
 unfold bR.f at H
 replace H := dz H; obtain ⟨AF, A2, H⟩ := H
 have H' := aa.mk H
 clear H
 go_enter Try.func44, Try.ntmps44
 go_wp2_with (first | ((with_reducible refine aC (N := 1) rfl ?_); refine dN (cs := #[.int .i64 ah, .int .i64 af, .slice aK ae.length aJ]) (t := 30) ?_; intro aua hg w3 hbox hb; refine mJ HB.1 hg hbox hb ?_; clear HB; intro HB K9 aJI aJJ; clear hb hbox hg; obtain ⟨Ao, Ap, K7, Aq, Ar, K8⟩ := gB K9.1) | ((with_reducible refine aA (f := 71) rfl ?_); refine cK (N := (some 7)) #[.agg #[.int .i64 ah, .int .i64 af, .slice aK ae.length aJ]] Try.func71 ?_; (with_reducible refine (dD.calls k ah af _ _ ae AF _ ?side1 ?side2 A2.1).mono ?_); (case side1 => exact CB (aY bD.1 HB.1)); (case side2 => exact cO.1); rintro e w5 ⟨aOI, rfl, ho0, hb⟩; refine ⟨_, rfl, ?_⟩; refine E3 (bN ho0 (bZ HB.1)) (bB K9.1 hb) (bS HB.1 hb) ?_; clear K9 HB; intro ajr K9 HB; (try clear hb); (try clear ho0); obtain ⟨Ao6, co6, eo6⟩ := bv ajr.1; subst eo6))
 go_loopg [3, 9] k (fun kq v3 v9 w' => ∃ (ky : Int) (kJ : Int), v3 = .int .i64 ky /\ v9 = .int .i64 kJ /\ aa (bR.l0 kq ky AF (AF.length : Int) kJ = some r) /\ aa (kq <= k) /\ aa (Kd.R (Kd.int .i64) 3 w' w.heap.size (fun _ => True) (.slice Ao6 AF.length co6) AF) /\ aa (w'.heap[aua]? = some (.cells #[.int .i64 ah, .int .i64 af, (.slice aK ae.length aJ)] 30 (0, 0))) /\ aa (Below w.heap.size w w'))
 case atStart => exact ⟨(0), (0), RG, RG, H', ⟨Nat.le_refl _⟩, ⟨PR ajr.1⟩, ⟨PB K9.1⟩, ⟨BL HB.1⟩⟩
 clear H'
 clear Ao Ap K7 Aq Ar K8
 obtain ⟨ky, kJ, rfl, rfl, HA, iB, HO_7, K9, HB⟩ := hrel
 cases gk with
 | zero => exact absurd HA.1 (by simp [bR.l0])
 | succ k1 => ?_
 have H := HA.1
 clear HA
 simp only [bR.l0] at H
 replace H := pu H; rcases H with ⟨c7b0, H⟩ | ⟨c7b0, H⟩
 · replace H := ji H; obtain ⟨c8b0, H⟩ := H
   replace H := ji H; obtain ⟨c9b0, H⟩ := H
   obtain ⟨sN, ze⟩ : ∃ j_ : Int, (IntKind.u64.wrap (kJ)) = j_ := ⟨_, rfl⟩
   replace H : (if 0 <= (sN) then (bR.l0 k1 (wrap64 (ky + (shl .i64 (rd AF kJ) (sN)))) AF (AF.length : Int) (wrap64 (kJ + 1))) else (none)) = some r := by first | (rw [ze] at H; exact H) | (simp only [ze] at H ⊢; exact H)
   replace H := oC H; obtain ⟨c11, H⟩ := H
   have c11b0 := eq_true c11
   have c11b1 := decide_eq_true c11
   clear c11
   obtain ⟨YA, Q4⟩ : ∃ j_ : Int, (shl .i64 (rd AF kJ) (sN)) = j_ := ⟨_, rfl⟩
   replace H : (bR.l0 k1 (wrap64 (ky + (YA))) AF (AF.length : Int) (wrap64 (kJ + 1))) = some r := by first | (rw [Q4] at H; exact H) | (simp only [Q4] at H ⊢; exact H)
   have aoj : (IntKind.i64.wrap ((rd AF kJ) * 2 ^ min (sN).toNat 64)) = YA := Q4
   have hji12z : (sN) <= 64 -> (IntKind.i64.wrap ((rd AF kJ) * 2 ^ (sN).toNat)) = YA := CO Q4
   have hji12y : (wrap64 ((rd AF kJ) * 2 ^ min (sN).toNat 64)) = YA := (cz _).symm.trans aoj
   have hji12x : (sN) <= 64 -> (wrap64 ((rd AF kJ) * 2 ^ (sN).toNat)) = YA := fun h_ => (cz _).symm.trans (hji12z h_)
   have H' := aa.mk H
   clear H
   have aok : 0 <= (kJ : Int) := OD
   have aol : kJ < (AF.length : Int) := OD
   obtain ⟨aJK, aFb, azJ⟩ := Kd.dx (ay HO_7.1).2.2 kJ aok aol
   cases aFb
   replace aok := eq_true aok
   replace aol := eq_true aol
   go_wp2
   go_roundg k1
   case measure => have := iB.1; omega
   case rel => exact ⟨(wrap64 (ky + (YA))), (wrap64 (kJ + 1)), (by first | rfl | (simp; done) | (simp only [<- Q4] <;> (first | rfl | simp)) | (simp [*]; done)), RG, H', ⟨by have := iB.1; omega⟩, ⟨PR HO_7.1⟩, ⟨PB K9.1⟩, ⟨BL HB.1⟩⟩
 obtain rfl := Option.some.inj H
 go_wp2
 go_ret
 exact ⟨RF, BL HB.1⟩
def je.f (ah : Int) (af : Int) (ae : List (fq)) : Option (Int × Int × (List (fq))) := (some (([] : List (fq)) : List (fq))).bind fun abx => (if abx.length + ae.length < 8796093022208 then (some (ah, af, (abx ++ ae))) else (none))
def je.T1 : Bool × List (List Nat × List Nat) := (true, [([], []), ([0], [0]), ([], []), ([2], [2]), ([], []), ([], []), ([5], [5]), ([4, 6], [4, 6]), ([1, 3, 7], [1, 3, 7]), ([8, 7, 0, 1, 2, 3, 4, 5, 6, 7, 8], [8])])
def je.B1 : List Nat := [0, 1, 0, 4, 0, 0, 32, 112, 255, 511]
theorem je.aby : mX .any (opsOf Try.f94 1) = je.T1 := by kernel_rfl
theorem je.bits1 : kr je.T1.2 je.B1 = true := by kernel_rfl
theorem je.calls (ah : Int) (af : Int) (aK : Option Addr) (aJ : Nat) (ae : List (fq)) (r1 : Int) (r2 : Int) (r3 : List (fq)) (w : World) (dH : Kd.C jZ w aK ae.length ae) (dG : ae.length <= aJ) (h : je.f ah af ae = some (r1, r2, r3)) :
 Calls Try.prog 94 #[.agg #[.int .i64 ah, .int .i64 af, .slice aK ae.length aJ]] w fun e w' => ∃ VK : Value, e = .returned (.agg #[.int .i64 r1, .int .i64 r2, VK]) /\ Kd.R jZ 83 w' w.heap.size (fun _ => True) VK r3 /\ Below w.heap.size w w' := by
 have nH := Try.underlying30
 have bD := aa.mk dH
 have cO := aa.mk dG
 clear dH dG
 have HB := aa.mk (Below.refl w.heap.size w)
 have H := h
 clear h
 unfold je.f at H
 replace H := nR H; obtain ⟨abx, ajs, H⟩ := H
 replace H := oC H; obtain ⟨c2, H⟩ := H
 have abz := aa.mk c2
 clear c2
 generalize ajt : ((abx ++ ae) : List (fq)) = aFc at H
 have aub := aa.mk ajt.symm; clear ajt
 simp only [Option.some.injEq, Prod.mk.injEq] at H
 obtain ⟨rfl, rfl, rfl⟩ := H
 go_enter Try.func94, Try.ntmps94
 try go_wp2_with (first | ((with_reducible refine aC (N := 1) rfl ?_); refine dN (cs := #[.int .i64 ah, .int .i64 af, .slice aK ae.length aJ]) (t := 30) ?_; intro abA hg w3 hbox hb; refine mJ HB.1 hg hbox hb ?_; clear HB; intro HB oG aJL aJM; clear hb hbox hg) | ((with_reducible refine aC (N := 2) rfl ?_); refine dN (cs := #[.int .i64 0, .int .i64 0, .slice none 0 0]) (t := 30) ?_; intro Ww hg w4 hbox hb; refine E7 (bB oG.1 hb) (bS HB.1 hb) (hbox) (gX HB.1 hg) (gX HB.1 hg) (nB oG.1 hg) (nC oG.1 hg) ?_; clear oG HB; intro oG HB xZ aJN aJO CW YB; clear hb hbox hg))
 refine E3 (ag oG.1) (ag xZ.1) (dm HB.1) ?_
 clear oG xZ HB
 intro oG xZ HB
 refine jN (n := 10) (S := fun w' => w'.cell? ⟨abA, 0, none⟩ = some (.int .i64 ah) /\ w'.cell? ⟨abA, 1, none⟩ = some (.int .i64 af) /\ w'.cell? ⟨abA, 2, none⟩ = some (.slice aK ae.length aJ)) (ds := []) #[Zz,Zz,Zz,Zz,Zz,Zz,Zz,Zz,Zz,Zz] (by kernel_rfl) rfl rfl ⟨(ai oG.1 0).trans rfl, (ai oG.1 1).trans rfl, (ai oG.1 2).trans rfl⟩ (fun hHeld => ?_); refine iq je.aby je.bits1 (fun HT_ HW_ => ?_)
 generalize w4.drew = w5 at oG xZ HB hHeld ⊢
 refine aU 0 (N := some 3) HT_.1 ?_
 refine aU 2 (N := some 5) HT_.1 ?_
 refine aU 5 (N := some 8) HT_.1 ?_
 refine gF 1 (N := some 4) HT_.1 HW_.1 hHeld ?_
 refine gF 3 (N := some 6) HT_.1 HW_.1 hHeld ?_
 refine gF 6 (N := some 9) HT_.1 HW_.1 hHeld ?_
 refine mV (i := 4) (N := some 7) #[Yy,Yy,Yy,Yy,Yy,Yy,Yy,Zz,Zz,Zz] rfl rfl (jc HT_.1 (by kernel_rfl)) (by decide) (fun K hK => ?_)
 refine KH jZ _ 83 ?hg (N := 7) ?hd (xs := ([] : List (fq))) (inner := []) (ok := fun _ => True) (okp := fun _ => True) ?hr ?hp (fun _ hk => hk) trivial (Below.refl _ _) (Nat.le_refl _) (by simp) ?_; (case hd => rfl); (case hg => rfl); (case hr => first | (go_simp; done) | (go_simp; rfl)); (case hp => exact (fK.none _ _))
 intro aFd w6 yY hb hg_ hnew_
 clear hg_ hnew_
 (first | rw [<- ajs.1] at yY | (simp only [Int.reduceToNat] at yY; rw [<- ajs.1] at yY))
 refine E4 (bN yY (bZ HB.1)) (bB oG.1 hb) (bB xZ.1 hb) (bS HB.1 hb) ?_
 clear oG xZ HB
 intro Wx oG xZ HB
 clear hb yY
 refine hK.out _ _ ⟨(ai oG.1 0).trans rfl, (ai oG.1 1).trans rfl, (ai oG.1 2).trans rfl⟩ (fun hHeld => ?_)
 clear hK K
 refine eX (a' := ?_) ?_ ?_
 rotate_left
 · show Act.put _ (some 7) _ = _
   simp only [Act.put, List.setIfInBounds_toArray, List.set_cons_zero, List.set_cons_succ, cz, dF]
   rfl
 refine mV (i := 7) (N := some 10) #[Yy,Yy,Yy,Yy,Yy,Yy,Yy,Yy,Zz,Zz] rfl rfl (jc HT_.1 (by kernel_rfl)) (by decide) (fun K hK => ?_)
 refine xc jZ (w0 := w) w.heap.size (by rfl) (.tmp 7) (.tmp 9) 28 83 (.agg #[(.int .i64 0), (.int .i64 0)]) 16 rfl Try.underlying28 Tc rfl (by decide) (by omega) aFd abx ae _ _ _ (fun _ => True) (fun _ => False) rfl rfl ?aO ?aR (fun _ _ h => h) (fun _ h => h.elim) ?aF ?aB ?aS ?aL ?_
 (case aR => repeat (first | exact (aY bD.1 HB.1) | (with_reducible refine kg ?_ _) | (with_reducible refine ko ?_ _) | (with_reducible refine kH ?_)))
 (case aB => exact (BL HB.1))
 (case aF => exact (fun _ _ => trivial))
 (case aO => exact (PR Wx.1))
 (case aS => exact (bZ HB.1))
 (case aL => have := abz.1; omega)
 intro aOJ w8 ho hb hg hat
 rw [<- aub.1] at ho
 refine E4 (bG oG.1 hg (dK Wx.1 oG.1 (by decide))) (bG xZ.1 hg (dK Wx.1 xZ.1 (by decide))) (hb) (ho) ?_
 clear oG xZ HB Wx
 intro oG xZ HB aju
 clear ho hb hg hat
 obtain ⟨Ao9, ZI, Vm⟩ := bv aju.1
 (first | subst Vm | (injection Vm with rY zZ rZ; have z8 := rY.symm; have Aa := rZ.symm; clear rY zZ rZ; subst z8; subst Aa))
 refine hK.out _ _ ⟨(ai oG.1 0).trans rfl, (ai oG.1 1).trans rfl, (ai oG.1 2).trans rfl⟩ (fun hHeld => ?_)
 clear hK K
 refine eX (a' := ?_) ?_ ?_
 rotate_left
 · show Act.put _ (some 10) _ = _
   simp only [Act.put, List.setIfInBounds_toArray, List.set_cons_zero, List.set_cons_succ, cz, dF]
   rfl
 refine aU 8 (N := some 11) HT_.1 ?_
 refine mV (i := 9) (N := none) #[Yy,Yy,Yy,Yy,Yy,Yy,Yy,Yy,Yy,Yy] rfl rfl (jc HT_.1 (by kernel_rfl)) (by decide) (fun K hK => ?_)
 obtain ⟨aFe, aFf, aFg, auc, aud, aue⟩ := gB xZ.1
 have afv := CW.1
 have afw := YB.1
 refine pF (w1 := ?_) (by rfl) rfl ?_ ?_
 rotate_left
 · go_simp
   rfl
 refine hK.out _ _ ⟨(rP CW.1 hHeld.1), (rP CW.1 hHeld.2.1), (rP CW.1 hHeld.2.2)⟩ (fun hHeld => ?_)
 clear hK K
 refine lI (jS HT_.1 (by kernel_rfl)) ?_
 try go_wp2
 refine bodyPost_ret (results_cell_row rfl _ _ Ww 30 #[.int .i64 ah, .int .i64 af, .slice Ao9 aFc.length ZI] (0, 0) _ rfl (BB xZ.1) Try.underlying30 rfl (by kernel_rfl)) rfl ?_
 exact ⟨_, RF, by (with_reducible repeat (first | apply aV | apply aW | apply aQ)); exact aG (RQ Ww 2 (RQ Ww 1 (RQ Ww 0 (bz aju.1 xZ.1 (by decide)) _) _) _) (fun _ hk => trivial), BL HB.1⟩
def pX.f (ah : Int) (af : Int) (ae : List (fq)) (a1 : Int) (a2 : Int) : Option (Int × Int) := if 0 <= (wrap64 ((wrap64 (a1 * af)) + a2)) then (if (wrap64 ((wrap64 (a1 * af)) + a2)) < (ae.length : Int) then (some ((aj ae (wrap64 ((wrap64 (a1 * af)) + a2))).f0, (aj ae (wrap64 ((wrap64 (a1 * af)) + a2))).f1)) else (none)) else (none)
theorem pX.calls (ah : Int) (af : Int) (aK : Option Addr) (aJ : Nat) (ae : List (fq)) (a1 : Int) (a2 : Int) (r1 : Int) (r2 : Int) (w : World) (dH : Kd.C jZ w aK ae.length ae) (dG : ae.length <= aJ) (h : pX.f ah af ae a1 a2 = some (r1, r2)) :
 Calls Try.prog 95 #[.agg #[.int .i64 ah, .int .i64 af, .slice aK ae.length aJ], .int .i64 a1, .int .i64 a2] w fun e w' => e = .returned (.agg #[.int .i64 r1, .int .i64 r2]) /\ Below w.heap.size w w' := by
 have nH := Try.underlying30
 have xE := Try.underlying83
 have bD := aa.mk dH
 have cO := aa.mk dG
 clear dH dG
 have HB := aa.mk (Below.refl w.heap.size w)
 have H := h
 clear h
 unfold pX.f at H
 obtain ⟨ji4, afx⟩ : ∃ j_ : Int, (wrap64 ((wrap64 (a1 * af)) + a2)) = j_ := ⟨_, rfl⟩
 replace H : (if 0 <= (ji4) then (if (ji4) < (ae.length : Int) then (some ((aj ae (ji4)).f0, (aj ae (ji4)).f1)) else (none)) else (none)) = some (r1, r2) := by first | (rw [afx] at H; exact H) | (simp only [afx] at H ⊢; exact H)
 have hji4w : (IntKind.i64.wrap ((wrap64 (a1 * af)) + a2)) = ji4 := (cz _).trans afx
 replace H := ji H; obtain ⟨c5b0, H⟩ := H
 replace H := ji H; obtain ⟨c6b0, H⟩ := H
 simp only [Option.some.injEq, Prod.mk.injEq] at H
 obtain ⟨rfl, rfl⟩ := H
 go_enter Try.func95, Try.ntmps95
 go_wp2_with (first | ((with_reducible refine aC (N := 3) rfl ?_); refine dN (cs := #[.int .i64 ah, .int .i64 af, .slice aK ae.length aJ]) (t := 30) ?_; intro aJP hg w7 hbox hb; refine mJ HB.1 hg hbox hb ?_; clear HB; intro HB Ng aJQ aJR; clear hb hbox hg) | ((with_reducible refine aC (N := 6) rfl ?_); refine dN (cs := #[.int .i64 0, .int .i64 0]) (t := 83) ?_; intro auf hg w8 hbox hb; refine E7 (bB Ng.1 hb) (bS HB.1 hb) (hbox) (gX HB.1 hg) (gX HB.1 hg) (nB Ng.1 hg) (nC Ng.1 hg) ?_; clear Ng HB; intro Ng HB ajv aJS aJT YC YD; clear hb hbox hg; have aeJ := YC.1; have aeK := YD.1; obtain ⟨pR, pU, uN, pV, pW, uO⟩ := gB Ng.1; have aom : 0 <= ((ji4) : Int) := OD; have aon : (ji4) < (ae.length : Int) := OD; obtain ⟨aJU, e264, OM, OO⟩ := iP bD.1 (ji4) aom aon; cases e264; replace OM := (HB.1.cell (World.block_lt_of_cell? w _ OM)).trans OM; replace OO := (HB.1.cell (World.block_lt_of_cell? w _ OO)).trans OO; replace aom := eq_true aom; replace aon := eq_true aon; obtain ⟨vX, vY, vZ, wh⟩ := nO ajv.1))
 refine bodyPost_ret (results_cell_row rfl _ _ auf 83 #[.int .i64 ((aj ae (ji4)).f0), .int .i64 ((aj ae (ji4)).f1)] (0, 0) _ rfl (BB ajv.1) Try.underlying83 rfl (by kernel_rfl)) rfl ?_
 exact ⟨by first | rfl | (simp [iC, iD] <;> rfl) | (simp only [<- afx]; first | rfl | (simp [iC, iD] <;> rfl)) | (simp [*, iC, iD] <;> rfl), BL HB.1⟩
def fo.j0 : Nat -> Int -> Int -> Bool -> Int -> Int -> Option (Int)
 | 0, _, _, _, _, _ => none
 | k + 1, x1, x6, qR, azK, afy => if qR = true then (some (wrap64 ((wrap64 (2 * afy)) - 1))) else (if x6 = 4 then (some (wrap64 (-x1))) else (some 0))
def fo.f (k : Nat) (ah : Int) (af : Int) (a1 : Int) : Option (Int) := if ah = 1 then (some (-1)) else (if ah = 2 then (some 1) else (if ah = 3 then (fo.j0 k a1 ah (ah == 3) ah af) else (fo.j0 k a1 ah (ah == 6) ah af)))
theorem fo.mono_l : ∀ k, (∀ y0 y1 y2 y3 y4, dO (fo.j0 k y0 y1 y2 y3 y4) (fo.j0 (k + 1) y0 y1 y2 y3 y4))
 | 0 => fun _ _ _ _ _ r h => by simp [fo.j0] at h
 | k + 1 => by
  have ja := fo.mono_l k
  intros
  first | unfold fo.j0
  exact BA ja
theorem fo.mono : ∀ a0 a1 a2 k, dO (fo.f k a0 a1 a2) (fo.f (k + 1) a0 a1 a2) := by
 intro a0 a1 a2 k
 have ja := fo.mono_l k
 unfold fo.f
 exact BA ja
theorem fo.calls (k : Nat) (ah : Int) (af : Int) (a1 : Int) (r : Int) (w : World) (h : fo.f k ah af a1 = some r) :
 Calls Try.prog 96 #[.agg #[.int .i64 ah, .int .i64 af], .int .i64 a1] w fun e w' => e = .returned (.int .i64 r) /\ Below w.heap.size w w' := by
 have xE := Try.underlying83
 have HB := aa.mk (Below.refl w.heap.size w)
 have H := h
 clear h
 unfold fo.f at H
 replace H := oP H; rcases H with ⟨c3, H⟩ | ⟨c3, H⟩
 · have c3b0 := beq_iff_eq.mpr c3
   have c3b1 := bne_eq_false_iff_eq.mpr c3
   clear c3
   obtain rfl := Option.some.inj H
   go_enter Try.func96, Try.ntmps96
   go_wp2_with (first | ((with_reducible refine aC (N := 2) rfl ?_); refine dN (cs := #[.int .i64 ah, .int .i64 af]) (t := 83) ?_; intro abB hg w4 hbox hb; refine mJ HB.1 hg hbox hb ?_; clear HB; intro HB FY ajw ajx; clear hb hbox hg; obtain ⟨Au, Av, Aw, Ay⟩ := nO FY.1))
   go_ret
   exact ⟨RF, BL HB.1⟩
 have c3b0 := beq_eq_false_iff_ne.mpr c3
 have c3b1 := bne_iff_ne.mpr c3
 replace H := oP H; rcases H with ⟨c6, H⟩ | ⟨c6, H⟩
 · have c6b0 := beq_iff_eq.mpr c6
   have c6b1 := bne_eq_false_iff_eq.mpr c6
   clear c6
   obtain rfl := Option.some.inj H
   go_enter Try.func96, Try.ntmps96
   go_wp2_with (first | ((with_reducible refine aC (N := 2) rfl ?_); refine dN (cs := #[.int .i64 ah, .int .i64 af]) (t := 83) ?_; intro abB hg w7 hbox hb; refine mJ HB.1 hg hbox hb ?_; clear HB; intro HB FY ajw ajx; clear hb hbox hg; obtain ⟨lZ, l5, l6, l7⟩ := nO FY.1))
   go_ret
   exact ⟨RF, BL HB.1⟩
 have c6b0 := beq_eq_false_iff_ne.mpr c6
 have c6b1 := bne_iff_ne.mpr c6
 have HC9 := aa.mk H
 clear H
 go_enter Try.func96, Try.ntmps96
 go_upto_if 11 with (first | ((with_reducible refine aC (N := 2) rfl ?_); refine dN (cs := #[.int .i64 ah, .int .i64 af]) (t := 83) ?_; intro abB hg Hw hbox hb; refine mJ HB.1 hg hbox hb ?_; clear HB; intro HB FY ajw ajx; clear hb hbox hg; obtain ⟨vX, vY, vZ, wh⟩ := nO FY.1))
 (try simp only [Act.put, List.setIfInBounds_toArray, List.set_cons_zero, List.set_cons_succ])
 go_cut [11] (fun v11 wc => ∃ (kq : Nat) (abC : Bool), v11 = .bool abC /\ aa (fo.j0 kq a1 ah abC ah af = some r) /\ aa (kq <= k) /\ aa (wc.heap[abB]? = some (.cells #[.int .i64 ah, .int .i64 af] 83 (0, 0))) /\ aa (Below w.heap.size w wc))
 case first =>
  have H := HC9.1
  clear HC9
  replace H := oP H; rcases H with ⟨c12, H⟩ | ⟨c12, H⟩
  · have c12b0 := beq_iff_eq.mpr c12
    have c12b1 := bne_eq_false_iff_eq.mpr c12
    clear c12
    (first | rw [c12b0] | (simp only [cz, dF]; rw [c12b0]) | skip)
    have H' := aa.mk H
    clear H
    go_wp2
    go_meet
    case rel => exact ⟨_, ((ah == 3)), RG, H', ⟨by first | omega | exact Nat.le_refl _⟩, ⟨PB FY.1⟩, ⟨BL HB.1⟩⟩
  have c12b0 := beq_eq_false_iff_ne.mpr c12
  have c12b1 := bne_iff_ne.mpr c12
  (first | rw [c12b0] | (simp only [cz, dF]; rw [c12b0]) | skip)
  have H' := aa.mk H
  clear H
  go_wp2
  go_meet
  case rel => exact ⟨_, ((ah == 6)), RG, H', ⟨by first | omega | exact Nat.le_refl _⟩, ⟨PB FY.1⟩, ⟨BL HB.1⟩⟩
 clear HC9
 try clear c3; try clear c6; clear c3b0 c3b1 c6b0 c6b1 vX vY vZ wh
 obtain ⟨kq, abC, rfl, HA, HJ8, FY, HB⟩ := hcut
 cases kq with
 | zero => exact absurd HA.1 (by simp [fo.j0])
 | succ kj8 => ?_
 have H := HA.1
 clear HA
 simp only [fo.j0] at H
 replace H := Cm H; rcases H with ⟨rfl, H⟩ | ⟨rfl, H⟩
 · obtain rfl := Option.some.inj H
   obtain ⟨Af, Ag, Ah, Ai⟩ := nO FY.1
   go_wp2
   go_ret
   exact ⟨RF, BL HB.1⟩
 replace H := oP H; rcases H with ⟨c15, H⟩ | ⟨c15, H⟩
 · have c15b0 := beq_iff_eq.mpr c15
   have c15b1 := bne_eq_false_iff_eq.mpr c15
   clear c15
   obtain rfl := Option.some.inj H
   go_wp2
   go_ret
   exact ⟨RF, BL HB.1⟩
 have c15b0 := beq_eq_false_iff_ne.mpr c15
 have c15b1 := bne_iff_ne.mpr c15
 obtain rfl := Option.some.inj H
 go_wp2
 go_ret
 exact ⟨RF, BL HB.1⟩
def kR.f (ah : Int) (af : Int) : Option (Int × Int) := some (ah, wrap64 (1 - af))
theorem kR.calls (ah : Int) (af : Int) (r1 : Int) (r2 : Int) (w : World) (h : kR.f ah af = some (r1, r2)) :
 Calls Try.prog 101 #[.agg #[.int .i64 ah, .int .i64 af]] w fun e w' => e = .returned (.agg #[.int .i64 r1, .int .i64 r2]) /\ Below w.heap.size w w' := by
 have xE := Try.underlying83
 have HB := aa.mk (Below.refl w.heap.size w)
 have H := h
 clear h
 unfold kR.f at H
 simp only [Option.some.injEq, Prod.mk.injEq] at H
 obtain ⟨rfl, rfl⟩ := H
 go_enter Try.func101, Try.ntmps101
 go_wp2_with (first | ((with_reducible refine aC (N := 1) rfl ?_); refine dN (cs := #[.int .i64 ah, .int .i64 af]) (t := 83) ?_; intro aJV hg w2 hbox hb; refine mJ HB.1 hg hbox hb ?_; clear HB; intro HB Nh aJW aJX; clear hb hbox hg) | ((with_reducible refine aC (N := 2) rfl ?_); refine dN (cs := #[.int .i64 0, .int .i64 0]) (t := 83) ?_; intro aug hg w3 hbox hb; refine E7 (bB Nh.1 hb) (bS HB.1 hb) (hbox) (gX HB.1 hg) (gX HB.1 hg) (nB Nh.1 hg) (nC Nh.1 hg) ?_; clear Nh HB; intro Nh HB ajy aJY aJZ YE YF; clear hb hbox hg; have aOK := YE.1; have aOL := YF.1; obtain ⟨Au, Av, Aw, Ay⟩ := nO Nh.1; obtain ⟨oL, oM, oN, oO⟩ := nO ajy.1))
 refine bodyPost_ret (results_cell_row rfl _ _ aug 83 #[.int .i64 ah, .int .i64 (wrap64 (1 - af))] (0, 0) _ rfl (BB ajy.1) Try.underlying83 rfl (by kernel_rfl)) rfl ?_
 exact ⟨RF, BL HB.1⟩
end Go.Proofs.Ytbpfdbjnnlmdjaa.P
