--MINI
-- PRINTED by print.py (a twelfth state) out of the translation. Not trusted: Lean checks it.
import Derived.Test.YtbpfdbjnnlmdjaaPx0
import Derived.Test.YtbpfdbjnnlmdjaaPx7
import Derived.Test.YtbpfdbjnnlmdjaaPx8
namespace Go.Proofs.Ytbpfdbjnnlmdjaa.P
open Go.RowKit Go.Proofs.YtbpfdbjnnlmdjaaW.PrintWords Go.Proofs.YtbpfdbjnnlmdjaaW.PrintLast Go.Proofs.YtbpfdbjnnlmdjaaW.PrintMore
attribute [local go_sem] rQ rR vR vS pO pQ rT rU   -- for this text's walks alone
set_option linter.unusedVariables false
set_option linter.unusedSimpArgs false
set_option maxHeartbeats 8000000
set_option maxRecDepth 100000

open Kd
def aX.l0 : Nat -> List Int -> Int -> Int -> Int -> Int -> Int -> List (fq) -> Option ((List (fq)))
 | 0, _, _, _, _, _, _, _ => none
 | k + 1, x1, x2, x9, j6, aVa, aVb, aMH => if j6 < x9 then (if 0 <= j6 then (if j6 < (aMH.length : Int) then (if ((aj aMH j6).f0) = 6 then (if j6 < (x1.length : Int) then (if 0 <= x2 then (if x2 < (x1.length : Int) then (if (rd x1 j6) = (rd x1 x2) then (aX.l0 k x1 x2 x9 (wrap64 (j6 + 1)) aVa aVb (aMH.set (j6 : Int).toNat (⟨(aj aMH j6).f0, wrap64 (1 - ((aj aMH j6).f1))⟩ : fq))) else (aX.l0 k x1 x2 x9 (wrap64 (j6 + 1)) aVa aVb aMH)) else (none)) else (none)) else (none)) else (aX.l0 k x1 x2 x9 (wrap64 (j6 + 1)) aVa aVb aMH)) else (none)) else (none)) else (some aMH)
def aX.f (k : Nat) (ah : Int) (af : Int) (ae : List (fq)) (l1 : List Int) (a2 : Int) : Option ((List (fq))) := aX.l0 k l1 a2 (ae.length : Int) 0 ah af ae
theorem aX.mono_l : ∀ k, (∀ y0 y1 y2 y3 y4 y5 y6, dO (aX.l0 k y0 y1 y2 y3 y4 y5 y6) (aX.l0 (k + 1) y0 y1 y2 y3 y4 y5 y6))
 | 0 => fun _ _ _ _ _ _ _ r h => by simp [aX.l0] at h
 | k + 1 => by
  have ja := aX.mono_l k
  intros
  first | unfold aX.l0
  exact BA ja
theorem aX.mono : ∀ a0 a1 a2 a3 a4 k, dO (aX.f k a0 a1 a2 a3 a4) (aX.f (k + 1) a0 a1 a2 a3 a4) := by
 intro a0 a1 a2 a3 a4 k
 have ja := aX.mono_l k
 unfold aX.f
 exact BA ja
def aX.T4 : Bool × List (List Nat × List Nat) := (true, [([], []), ([0], [0]), ([], []), ([1, 2], [1, 2]), ([3], [3]), ([4], [4]), ([5], [5]), ([6], [6]), ([7], [7]), ([7], [7]), ([8, 9, 7], [7, 8, 9]), ([10, 7], [7, 10]), ([7], [7]), ([7], [7]), ([12, 13, 7], [7, 12, 13]), ([14, 7], [7, 14]), ([11, 15, 7], [7, 11, 15]), ([7, 16], [7, 16])])
def aX.B4 : List Nat := [0, 1, 0, 7, 15, 31, 63, 127, 255, 255, 1023, 2047, 255, 255, 12543, 28927, 65535, 131071]
theorem aX.RU : mX .any (opsOf Try.f90 4) = aX.T4 := by kernel_rfl
theorem aX.bits4 : kr aX.T4.2 aX.B4 = true := by kernel_rfl
def aX.T5 : Bool × List (List Nat × List Nat) := (true, [([], []), ([0], [0]), ([], []), ([], []), ([3], [3]), ([], []), ([4, 5], [4, 5]), ([6], [6]), ([7], [7]), ([8], [8]), ([1, 2, 0, 1, 2, 3, 4, 5, 6, 7, 8, 9], [1, 2]), ([10, 0, 1, 2, 3, 4, 5, 6, 7, 8, 9], [10]), ([11, 9, 0, 1, 2, 3, 4, 5, 6, 7, 8, 9], [9, 11])])
def aX.B5 : List Nat := [0, 1, 0, 0, 8, 0, 56, 120, 248, 504, 1023, 2047, 4095]
theorem aX.abv : mX .any (opsOf Try.f90 5) = aX.T5 := by kernel_rfl
theorem aX.bits5 : kr aX.T5.2 aX.B5 = true := by kernel_rfl
theorem aX.calls (k : Nat) (ah : Int) (af : Int) (cu : Nat -> Prop) (iH : Value) (ae : List (fq)) (A1 : Option Addr) (c1 : Nat) (l1 : List Int) (a2 : Int) (r : List (fq)) (w0 w : World) (hB : Below w0.heap.size w0 w) (BN : Kd.R jZ 83 w w0.heap.size cu iH ae) (hr1 : ∀ W_, Kept w W_ (fun k_ => cu k_) -> Kd.C (Kd.int .i64) W_ A1 l1.length l1) (hc1 : l1.length <= c1) (h : aX.f k ah af ae l1 a2 = some r) :
 Calls Try.prog 90 #[.agg #[.int .i64 ah, .int .i64 af, iH], .slice A1 l1.length c1, .int .i64 a2] w fun e w' => e = .returned (.tuple #[]) /\ Kd.R jZ 83 w' w0.heap.size (fun k_ => (cu k_ ∨ w.heap.size <= k_)) iH r /\ Below w0.heap.size w0 w' /\ Kept w w' (fun k_ => cu k_) := by
 have nH := Try.underlying30
 have fB := aa.mk (show Kd.R jZ 83 w w0.heap.size (fun k_ => (cu k_ ∨ w.heap.size <= k_)) iH ae from aG BN (fun k_ hk => (.inl hk)))
 have HR1 := aa.mk hr1
 have vD := aa.mk hc1
 clear hr1 hc1
 have HK := aa.mk (Kept.refl w (fun k_ => cu k_))
 have HW0 := aa.mk hB.size
 have HB := aa.mk hB
 clear hB
 have H := h
 clear h
 unfold aX.f at H
 have H' := aa.mk H
 clear H
 obtain ⟨SB, yK, eo4⟩ := bv fB.1
 subst eo4
 go_enter Try.func90, Try.ntmps90
 go_wp2_with (first | ((with_reducible refine aC (N := 3) rfl ?_); refine dN (cs := #[.int .i64 ah, .int .i64 af, .slice SB ae.length yK]) (t := 30) ?_; intro aKk hg w5 hbox hb; refine E6 (rB fB.1 hb) (Kept.below (S := (fun k_ => cu k_)) (KL HK.1) hb) (bS HB.1 hb) (hbox) ((by rw [hg]; exact (by first | exact HK.1.1 | exact (show Kept w _ (fun k_ => cu k_) from KL HK.1).1) : w.heap.size <= aKk)) (Qm hg (bZ HB.1) : w0.heap.size <= aKk) ?_; clear fB HK HB; intro fB HK HB arY a_B bfo; clear hb hbox hg; obtain ⟨oL, oM, tZ, oN, oO, uf⟩ := gB arY.1))
 go_loopg [10] k (fun kq v10 w' => ∃ (bE : Int) (ajU : List (fq)), v10 = .int .i64 bE /\ aa (aX.l0 kq l1 a2 (ae.length : Int) bE ah af ajU = some r) /\ aa (kq <= k) /\ aa (Kd.R jZ 83 w' w0.heap.size (fun k_ => (cu k_ ∨ w.heap.size <= k_)) (.slice SB ae.length yK) ajU) /\ aa (w'.heap[aKk]? = some (.cells #[.int .i64 ah, .int .i64 af, (.slice SB ae.length yK)] 30 (0, 0))) /\ aa (Kept w w' (fun k_ => cu k_)) /\ aa (Below w0.heap.size w0 w'))
 case atStart => exact ⟨(0), (ae), RG, H', ⟨Nat.le_refl _⟩, ⟨PR fB.1⟩, ⟨PB arY.1⟩, ⟨KL HK.1⟩, ⟨BL HB.1⟩⟩
 clear H'
 try clear c1; clear oL oM tZ oN oO uf
 obtain ⟨bE, ajU, rfl, HA, iB, HO_542002, arY, HK, HB⟩ := hrel
 have art := (ay HO_542002.1).1
 rw [art] at HO_542002
 (try simp only [art])
 (try simp only [art] at arY)
 cases gk with
 | zero => exact absurd HA.1 (by simp [aX.l0])
 | succ k1 => ?_
 have H := HA.1
 clear HA
 simp only [aX.l0] at H
 replace H := pu H; rcases H with ⟨c7b0, H⟩ | ⟨c7b0, H⟩
 · replace H := ji H; obtain ⟨c8b0, H⟩ := H
   replace H := ji H; obtain ⟨c9b0, H⟩ := H
   replace H := oP H; rcases H with ⟨c10, H⟩ | ⟨c10, H⟩
   · have c10b0 := beq_iff_eq.mpr c10
     have c10b1 := bne_eq_false_iff_eq.mpr c10
     clear c10
     replace H := ji H; obtain ⟨c11b0, H⟩ := H
     replace H := ji H; obtain ⟨c12b0, H⟩ := H
     replace H := ji H; obtain ⟨c13b0, H⟩ := H
     replace H := oP H; rcases H with ⟨c14, H⟩ | ⟨c14, H⟩
     · have c14b0 := beq_iff_eq.mpr c14
       have c14b1 := bne_eq_false_iff_eq.mpr c14
       clear c14
       generalize a3W : ((ajU.set (bE : Int).toNat (⟨(aj ajU bE).f0, wrap64 (1 - ((aj ajU bE).f1))⟩ : fq)) : List (fq)) = xH at H
       have awT := aa.mk a3W.symm; clear a3W
       have H' := aa.mk H
       clear H
       try go_wp2
       refine E4 (aQ HO_542002.1) (ag arY.1) (Kept.drew HK.1) (dm HB.1) ?_
       clear HO_542002 arY HK HB
       intro HO_542002 arY HK HB
       have aTO : 0 <= (bE : Int) := OD
       have aTP : bE < (ajU.length : Int) := OD
       obtain ⟨aKq, aZV, aIg, aIs⟩ := iP (ay HO_542002.1).2.2 bE aTO aTP
       cases aZV
       replace aTO := eq_true aTO
       replace aTP := eq_true aTP
       have aVc : 0 <= (bE : Int) := OD
       have aVd : bE < (l1.length : Int) := OD
       obtain ⟨aTQ, a6v, aSE⟩ := Kd.dx (kY HR1.1 HK.1) bE aVc aVd
       have a1l := aSE
       cases a6v
       replace aVc := eq_true aVc
       replace aVd := eq_true aVd
       have apl : 0 <= (a2 : Int) := OD
       have apm : a2 < (l1.length : Int) := OD
       obtain ⟨awY, aGN, Kg⟩ := Kd.dx (kY HR1.1 HK.1) a2 apl apm
       have a1m := Kg
       obtain rfl : aTQ = awY := (by injection aGN)
       replace apl := eq_true apl
       replace apm := eq_true apm
       refine jN (n := 18) (S := fun w' => w'.cell? ⟨aKk, 0, none⟩ = some (.int .i64 ah) /\ w'.cell? ⟨aKk, 1, none⟩ = some (.int .i64 af) /\ w'.cell? ⟨aKk, 2, none⟩ = some (.slice (some aKq) ajU.length yK) /\ w'.cell? (aKq.add ((bE).toNat * 2)) = some (.int .i64 ((aj ajU bE).f0)) /\ w'.cell? ⟨(aKq.add ((bE).toNat * 2)).block, (aKq.add ((bE).toNat * 2)).off + 1, none⟩ = some (.int .i64 ((aj ajU bE).f1)) /\ w'.cell? (aTQ.add (bE).toNat) = some (.int .i64 (rd l1 bE)) /\ w'.cell? (aTQ.add (a2).toNat) = some (.int .i64 (rd l1 a2))) (ds := []) #[Zz,Zz,Zz,Zz,Zz,Zz,Zz,Zz,Zz,Zz,Zz,Zz,Zz,Zz,Zz,Zz,Zz,Zz] (by kernel_rfl) rfl rfl ⟨(ai arY.1 0).trans rfl, (ai arY.1 1).trans rfl, (ai arY.1 2).trans rfl, aIg, aIs, (Kd.qE (HR1.1 _ (by repeat (first | exact HK.1 | apply Kept.alloc | apply Kept.drewN | apply Kept.drew))) bE (of_eq_true aVc) (of_eq_true aVd)), (Kd.qE (HR1.1 _ (by repeat (first | exact HK.1 | apply Kept.alloc | apply Kept.drewN | apply Kept.drew))) a2 (of_eq_true apl) (of_eq_true apm))⟩ (fun hHeld => ?_); refine iq aX.RU aX.bits4 (fun HT_ HW_ => ?_)
       generalize wr.drew = w16 at HO_542002 arY HK HB aIg aIs aSE Kg hHeld ⊢
       refine aU 0 (N := some 13) HT_.1 ?_
       refine aU 2 (N := some 15) HT_.1 ?_
       refine gF 1 (N := some 14) HT_.1 HW_.1 hHeld ?_
       refine aU 3 (N := some 16) HT_.1 ?_
       refine aU 4 (N := some 17) HT_.1 ?_
       refine gF 5 (N := some 18) HT_.1 HW_.1 hHeld ?_
       refine aU 6 (N := some 19) HT_.1 ?_
       refine aU 7 (N := some 20) HT_.1 ?_
       refine aU 8 (N := some 21) HT_.1 ?_
       refine aU 9 (N := some 22) HT_.1 ?_
       refine aU 10 (N := some 23) HT_.1 ?_
       refine aU 12 (N := some 25) HT_.1 ?_
       refine aU 13 (N := some 26) HT_.1 ?_
       refine aU 14 (N := some 27) HT_.1 ?_
       refine gF 11 (N := some 24) HT_.1 HW_.1 hHeld ?_
       refine gF 15 (N := some 28) HT_.1 HW_.1 hHeld ?_
       refine aU 16 (N := some 29) HT_.1 ?_
       refine aU 17 (N := some 30) HT_.1 ?_
       refine lI (jS HT_.1 (by kernel_rfl)) ?_
       try go_wp2
       refine E4 (aQ HO_542002.1) (ag arY.1) (Kept.drew HK.1) (dm HB.1) ?_
       clear HO_542002 arY HK HB
       intro HO_542002 arY HK HB
       have a6w : 0 <= (bE : Int) := OD
       have a6x : bE < (ajU.length : Int) := OD
       obtain ⟨a_C, bcU, aVe, aVf⟩ := iP (ay HO_542002.1).2.2 bE a6w a6x
       obtain rfl : aKq = a_C := (by injection bcU)
       replace a6w := eq_true a6w
       replace a6x := eq_true a6x
       have p15 : 0 <= (bE : Int) := OD
       have q15 : (bE : Int) < ((ajU.length : Int) : Int) := OD
       obtain ⟨EE, anC, TQ, aa9, anD, aEM, aba⟩ := mQ HO_542002.1 (by omega)
       (first | cases TQ | (injection TQ with ea_ en_ ec_; (first | subst ea_ | (injection ea_ with ea_; subst ea_)); subst ec_; clear en_))
       have atd := aa.mk aa9
       have ate := aa.mk aba
       clear aa9 anD aba
       have HMgo15 := aa.mk (show (cu EE ∨ w.heap.size <= EE) from (HO_542002.1.1 _ rfl))
       (first | simp only [add_plain] at aIg | skip)
       (first | simp only [add_plain] at aIs | skip)
       (first | simp only [add_plain] at aVe | skip)
       (first | simp only [add_plain] at aVf | skip)
       obtain ⟨aQv, axG, axH, adm, adn⟩ := nz HO_542002.1 z83 (bE : Int) p15 q15
       obtain rfl := jY axH
       have abb : World.cell? _ ⟨EE, (bE : Int).toNat * 2, none⟩ = some (.int .i64 ((aj ajU bE).f0)) := adm 0 _ rfl
       have apU : World.cell? _ ⟨EE, (bE : Int).toNat * 2 + 1, none⟩ = some (.int .i64 ((aj ajU bE).f1)) := adm 1 _ rfl
       have abd : World.frozen? _ ⟨EE, (bE : Int).toNat * 2, none⟩ = false := adn 0
       have apV : World.frozen? _ ⟨EE, (bE : Int).toNat * 2 + 1, none⟩ = false := adn 1
       (try clear axH); clear axG adm adn
       replace p15 := eq_true p15
       replace q15 := eq_true q15
       obtain ⟨aF3, Rt, ack, Ru, acl⟩ := nz HO_542002.1 z83 (bE : Int) (OD) (by have h_ : (bE : Int) < ((ajU.length : Int) : Int) := OD; first | exact h_ | (have e_ := (ay HO_542002.1).1; omega) | simpa using h_)
       obtain rfl := jY ack
       have Uw := (DZ HO_542002.1 (bE : Int) (OD) (by have h_ : (bE : Int) < ((ajU.length : Int) : Int) := OD; first | exact h_ | (have e_ := (ay HO_542002.1).1; omega) | simpa using h_) (seg := [.int .i64 (wrap64 (1 - ((aj ajU bE).f1)))]) (j := 1) Rt Ru (show 2 <= 2 from by decide) (x' := (⟨(aj ajU bE).f0, wrap64 (1 - ((aj ajU bE).f1))⟩ : fq)) (uE _ _ _ (⟨(aj ajU bE).f0, wrap64 (1 - ((aj ajU bE).f1))⟩ : fq) ) (fun _ hk => hk)).1
       rw [<- awT.1] at Uw
       have agb := aa.mk Uw
       (try clear ack); clear Rt Ru acl Uw
       refine jN (n := 13) (S := fun w' => w'.cell? ⟨aKk, 0, none⟩ = some (.int .i64 ah) /\ w'.cell? ⟨aKk, 1, none⟩ = some (.int .i64 af) /\ w'.cell? ⟨aKk, 2, none⟩ = some (.slice (some ⟨EE, 0, none⟩) ajU.length yK) /\ w'.cell? ⟨EE, ((bE).toNat * 2), none⟩ = some (.int .i64 ((aj ajU bE).f0)) /\ w'.cell? ⟨EE, ((bE).toNat * 2) + 1, none⟩ = some (.int .i64 ((aj ajU bE).f1))) (ds := [12]) #[Zz,Zz,Zz,Zz,Zz,Zz,Zz,Zz,Zz,Zz,Zz,Zz,Zz] (by kernel_rfl) rfl rfl ⟨(ai arY.1 0).trans rfl, (ai arY.1 1).trans rfl, (ai arY.1 2).trans rfl, aVe, aVf⟩ (fun hHeld => ?_); refine iq aX.abv aX.bits5 (fun HT_ HW_ => ?_)
       generalize w16.drew = Vn at HO_542002 arY HK HB ate agb abd apV abb apU aIg aIs aVe aVf hHeld ⊢
       refine aU 0 (N := some 31) HT_.1 ?_
       refine aU 2 (N := some 33) HT_.1 ?_
       refine aU 3 (N := some 34) HT_.1 ?_
       refine aU 5 (N := some 36) HT_.1 ?_
       refine gF 1 (N := some 32) HT_.1 HW_.1 hHeld ?_
       refine gF 4 (N := some 35) HT_.1 HW_.1 hHeld ?_
       refine aU 6 (N := some 37) HT_.1 ?_
       refine aU 7 (N := some 38) HT_.1 ?_
       refine gF 8 (N := some 39) HT_.1 HW_.1 hHeld ?_
       refine aU 9 (N := some 40) HT_.1 ?_
       refine aU 10 (N := some 41) HT_.1 ?_
       refine aU 11 (N := some 42) HT_.1 ?_
       refine BD (i := 12) (N := none) #[Yy,Yy,Yy,Yy,Yy,Yy,Yy,Yy,Yy,Yy,Yy,Yy,Yy] rfl rfl (jc HT_.1 (by kernel_rfl)) (by decide) (fun K hK => ?_)
       refine pF (w1 := ?_) (by rfl) rfl ?_ ?_
       rotate_left
       · go_simp
         rfl
       refine hK.out _ _ ?_
       clear hK K
       refine lI (jS HT_.1 (by kernel_rfl)) ?_
       try go_wp2
       (try simp only [<- art])
       go_roundg k1
       case measure => have := iB.1; omega
       case rel => exact ⟨(wrap64 (bE + 1)), (xH), RG, H', ⟨by have := iB.1; omega⟩, ⟨ER agb.1 art⟩, ⟨by (try simp only [art]); (with_reducible repeat (first | refine ak ?_ _ | refine ag ?_ | refine au ?_ _)); refine bu ?_ (by have h_ := dK HO_542002.1 arY.1 (by decide); intro e_; exact h_ (by rw [e_]; rfl)) _; (with_reducible repeat (first | refine ak ?_ _ | refine ag ?_ | refine au ?_ _)); exact arY.1⟩, ⟨by repeat (first | (with_reducible first | exact HK.1 | apply Kept.alloc | apply Kept.drewN | apply Kept.drew | refine Kept.setCell ?_ HMgo15.1 _ | refine Kept.setCell ?_ (.inr a_B.1) _) | exact HK.1)⟩, ⟨BL HB.1⟩⟩
     have c14b0 := beq_eq_false_iff_ne.mpr c14
     have c14b1 := bne_iff_ne.mpr c14
     have H' := aa.mk H
     clear H
     try go_wp2
     refine E4 (aQ HO_542002.1) (ag arY.1) (Kept.drew HK.1) (dm HB.1) ?_
     clear HO_542002 arY HK HB
     intro HO_542002 arY HK HB
     have aTO : 0 <= (bE : Int) := OD
     have aTP : bE < (ajU.length : Int) := OD
     obtain ⟨aKq, aZV, aIg, aIs⟩ := iP (ay HO_542002.1).2.2 bE aTO aTP
     cases aZV
     replace aTO := eq_true aTO
     replace aTP := eq_true aTP
     have aVc : 0 <= (bE : Int) := OD
     have aVd : bE < (l1.length : Int) := OD
     obtain ⟨aTQ, a6v, aSE⟩ := Kd.dx (kY HR1.1 HK.1) bE aVc aVd
     have a1l := aSE
     cases a6v
     replace aVc := eq_true aVc
     replace aVd := eq_true aVd
     have apl : 0 <= (a2 : Int) := OD
     have apm : a2 < (l1.length : Int) := OD
     obtain ⟨awY, aGN, Kg⟩ := Kd.dx (kY HR1.1 HK.1) a2 apl apm
     have a1m := Kg
     obtain rfl : aTQ = awY := (by injection aGN)
     replace apl := eq_true apl
     replace apm := eq_true apm
     refine jN (n := 18) (S := fun w' => w'.cell? ⟨aKk, 0, none⟩ = some (.int .i64 ah) /\ w'.cell? ⟨aKk, 1, none⟩ = some (.int .i64 af) /\ w'.cell? ⟨aKk, 2, none⟩ = some (.slice (some aKq) ajU.length yK) /\ w'.cell? (aKq.add ((bE).toNat * 2)) = some (.int .i64 ((aj ajU bE).f0)) /\ w'.cell? ⟨(aKq.add ((bE).toNat * 2)).block, (aKq.add ((bE).toNat * 2)).off + 1, none⟩ = some (.int .i64 ((aj ajU bE).f1)) /\ w'.cell? (aTQ.add (bE).toNat) = some (.int .i64 (rd l1 bE)) /\ w'.cell? (aTQ.add (a2).toNat) = some (.int .i64 (rd l1 a2))) (ds := []) #[Zz,Zz,Zz,Zz,Zz,Zz,Zz,Zz,Zz,Zz,Zz,Zz,Zz,Zz,Zz,Zz,Zz,Zz] (by kernel_rfl) rfl rfl ⟨(ai arY.1 0).trans rfl, (ai arY.1 1).trans rfl, (ai arY.1 2).trans rfl, aIg, aIs, (Kd.qE (HR1.1 _ (by repeat (first | exact HK.1 | apply Kept.alloc | apply Kept.drewN | apply Kept.drew))) bE (of_eq_true aVc) (of_eq_true aVd)), (Kd.qE (HR1.1 _ (by repeat (first | exact HK.1 | apply Kept.alloc | apply Kept.drewN | apply Kept.drew))) a2 (of_eq_true apl) (of_eq_true apm))⟩ (fun hHeld => ?_); refine iq aX.RU aX.bits4 (fun HT_ HW_ => ?_)
     generalize wr.drew = w19 at HO_542002 arY HK HB aIg aIs aSE Kg hHeld ⊢
     refine aU 0 (N := some 13) HT_.1 ?_
     refine aU 2 (N := some 15) HT_.1 ?_
     refine gF 1 (N := some 14) HT_.1 HW_.1 hHeld ?_
     refine aU 3 (N := some 16) HT_.1 ?_
     refine aU 4 (N := some 17) HT_.1 ?_
     refine gF 5 (N := some 18) HT_.1 HW_.1 hHeld ?_
     refine aU 6 (N := some 19) HT_.1 ?_
     refine aU 7 (N := some 20) HT_.1 ?_
     refine aU 8 (N := some 21) HT_.1 ?_
     refine aU 9 (N := some 22) HT_.1 ?_
     refine aU 10 (N := some 23) HT_.1 ?_
     refine aU 12 (N := some 25) HT_.1 ?_
     refine aU 13 (N := some 26) HT_.1 ?_
     refine aU 14 (N := some 27) HT_.1 ?_
     refine gF 11 (N := some 24) HT_.1 HW_.1 hHeld ?_
     refine gF 15 (N := some 28) HT_.1 HW_.1 hHeld ?_
     refine aU 16 (N := some 29) HT_.1 ?_
     refine aU 17 (N := some 30) HT_.1 ?_
     refine lI (jS HT_.1 (by kernel_rfl)) ?_
     try go_wp2
     (try simp only [<- art])
     go_roundg k1
     case measure => have := iB.1; omega
     case rel => exact ⟨(wrap64 (bE + 1)), (ajU), RG, H', ⟨by have := iB.1; omega⟩, ⟨ER HO_542002.1 art⟩, ⟨Er arY.1 art⟩, ⟨KL HK.1⟩, ⟨BL HB.1⟩⟩
   have c10b0 := beq_eq_false_iff_ne.mpr c10
   have c10b1 := bne_iff_ne.mpr c10
   have H' := aa.mk H
   clear H
   try go_wp2
   refine E4 (aQ HO_542002.1) (ag arY.1) (Kept.drew HK.1) (dm HB.1) ?_
   clear HO_542002 arY HK HB
   intro HO_542002 arY HK HB
   have aTO : 0 <= (bE : Int) := OD
   have aTP : bE < (ajU.length : Int) := OD
   obtain ⟨aKq, aZV, aIg, aIs⟩ := iP (ay HO_542002.1).2.2 bE aTO aTP
   cases aZV
   replace aTO := eq_true aTO
   replace aTP := eq_true aTP
   refine jN (n := 18) (S := fun w' => w'.cell? ⟨aKk, 0, none⟩ = some (.int .i64 ah) /\ w'.cell? ⟨aKk, 1, none⟩ = some (.int .i64 af) /\ w'.cell? ⟨aKk, 2, none⟩ = some (.slice (some aKq) ajU.length yK) /\ w'.cell? (aKq.add ((bE).toNat * 2)) = some (.int .i64 ((aj ajU bE).f0)) /\ w'.cell? ⟨(aKq.add ((bE).toNat * 2)).block, (aKq.add ((bE).toNat * 2)).off + 1, none⟩ = some (.int .i64 ((aj ajU bE).f1))) (ds := []) #[Zz,Zz,Zz,Zz,Zz,Zz,Zz,Zz,Zz,Zz,Zz,Zz,Zz,Zz,Zz,Zz,Zz,Zz] (by kernel_rfl) rfl rfl ⟨(ai arY.1 0).trans rfl, (ai arY.1 1).trans rfl, (ai arY.1 2).trans rfl, aIg, aIs⟩ (fun hHeld => ?_); refine iq aX.RU aX.bits4 (fun HT_ HW_ => ?_)
   generalize wr.drew = ZJ at HO_542002 arY HK HB aIg aIs hHeld ⊢
   refine aU 0 (N := some 13) HT_.1 ?_
   refine aU 2 (N := some 15) HT_.1 ?_
   refine gF 1 (N := some 14) HT_.1 HW_.1 hHeld ?_
   refine aU 3 (N := some 16) HT_.1 ?_
   refine aU 4 (N := some 17) HT_.1 ?_
   refine gF 5 (N := some 18) HT_.1 HW_.1 hHeld ?_
   refine aU 6 (N := some 19) HT_.1 ?_
   refine aU 7 (N := some 20) HT_.1 ?_
   refine ll (i := 8) (N := some 21) (v := undef) (a' := ?_) #[Yy,Yy,Yy,Yy,Yy,Yy,Yy,Yy,Yy,Zz,Zz,Zz,Zz,Zz,Zz,Zz,Zz,Zz] rfl rfl (nX HT_.1 (by kernel_rfl)) (fun _ _ _ h => h) (Or.inr ⟨by rfl, rfl⟩) ?_ ?_
   rotate_left
   · simp only [Act.put, List.setIfInBounds_toArray, List.set_cons_zero, List.set_cons_succ, cz, dF]
     rfl
   refine ll (i := 9) (N := some 22) (v := undef) (a' := ?_) #[Yy,Yy,Yy,Yy,Yy,Yy,Yy,Yy,Yy,Yy,Zz,Zz,Zz,Zz,Zz,Zz,Zz,Zz] rfl rfl (nX HT_.1 (by kernel_rfl)) (fun _ _ _ h => h) (Or.inr ⟨by rfl, rfl⟩) ?_ ?_
   rotate_left
   · simp only [Act.put, List.setIfInBounds_toArray, List.set_cons_zero, List.set_cons_succ, cz, dF]
     rfl
   refine ll (i := 10) (N := some 23) (v := undef) (a' := ?_) #[Yy,Yy,Yy,Yy,Yy,Yy,Yy,Yy,Yy,Yy,Yy,Zz,Zz,Zz,Zz,Zz,Zz,Zz] rfl rfl (nX HT_.1 (by kernel_rfl)) (fun _ _ _ h => h) (Or.inr ⟨by rfl, rfl⟩) ?_ ?_
   rotate_left
   · simp only [Act.put, List.setIfInBounds_toArray, List.set_cons_zero, List.set_cons_succ, cz, dF]
     rfl
   refine ll (i := 11) (N := some 24) (v := undef) (a' := ?_) #[Yy,Yy,Yy,Yy,Yy,Yy,Yy,Yy,Yy,Yy,Yy,Yy,Zz,Zz,Zz,Zz,Zz,Zz] rfl rfl (nX HT_.1 (by kernel_rfl)) (fun _ _ _ h => h) (Or.inr ⟨by rfl, rfl⟩) ?_ ?_
   rotate_left
   · simp only [Act.put, List.setIfInBounds_toArray, List.set_cons_zero, List.set_cons_succ, cz, dF]
     rfl
   refine ll (i := 12) (N := some 25) (v := undef) (a' := ?_) #[Yy,Yy,Yy,Yy,Yy,Yy,Yy,Yy,Yy,Yy,Yy,Yy,Yy,Zz,Zz,Zz,Zz,Zz] rfl rfl (nX HT_.1 (by kernel_rfl)) (fun _ _ _ h => h) (Or.inr ⟨by rfl, rfl⟩) ?_ ?_
   rotate_left
   · simp only [Act.put, List.setIfInBounds_toArray, List.set_cons_zero, List.set_cons_succ, cz, dF]
     rfl
   refine ll (i := 13) (N := some 26) (v := undef) (a' := ?_) #[Yy,Yy,Yy,Yy,Yy,Yy,Yy,Yy,Yy,Yy,Yy,Yy,Yy,Yy,Zz,Zz,Zz,Zz] rfl rfl (nX HT_.1 (by kernel_rfl)) (fun _ _ _ h => h) (Or.inr ⟨by rfl, rfl⟩) ?_ ?_
   rotate_left
   · simp only [Act.put, List.setIfInBounds_toArray, List.set_cons_zero, List.set_cons_succ, cz, dF]
     rfl
   refine ll (i := 14) (N := some 27) (v := undef) (a' := ?_) #[Yy,Yy,Yy,Yy,Yy,Yy,Yy,Yy,Yy,Yy,Yy,Yy,Yy,Yy,Yy,Zz,Zz,Zz] rfl rfl (nX HT_.1 (by kernel_rfl)) (fun _ _ _ h => h) (Or.inr ⟨by rfl, rfl⟩) ?_ ?_
   rotate_left
   · simp only [Act.put, List.setIfInBounds_toArray, List.set_cons_zero, List.set_cons_succ, cz, dF]
     rfl
   refine ll (i := 15) (N := some 28) (v := undef) (a' := ?_) #[Yy,Yy,Yy,Yy,Yy,Yy,Yy,Yy,Yy,Yy,Yy,Yy,Yy,Yy,Yy,Yy,Zz,Zz] rfl rfl (nX HT_.1 (by kernel_rfl)) (fun _ _ _ h => h) (Or.inr ⟨by rfl, rfl⟩) ?_ ?_
   rotate_left
   · simp only [Act.put, List.setIfInBounds_toArray, List.set_cons_zero, List.set_cons_succ, cz, dF]
     rfl
   refine ll (i := 16) (N := some 29) (v := undef) (a' := ?_) #[Yy,Yy,Yy,Yy,Yy,Yy,Yy,Yy,Yy,Yy,Yy,Yy,Yy,Yy,Yy,Yy,Yy,Zz] rfl rfl (nX HT_.1 (by kernel_rfl)) (fun _ _ _ h => h) (Or.inr ⟨by rfl, rfl⟩) ?_ ?_
   rotate_left
   · simp only [Act.put, List.setIfInBounds_toArray, List.set_cons_zero, List.set_cons_succ, cz, dF]
     rfl
   refine aU 17 (N := some 30) HT_.1 ?_
   refine lI (jS HT_.1 (by kernel_rfl)) ?_
   try go_wp2
   (try simp only [<- art])
   go_roundg k1
   case measure => have := iB.1; omega
   case rel => exact ⟨(wrap64 (bE + 1)), (ajU), RG, H', ⟨by have := iB.1; omega⟩, ⟨ER HO_542002.1 art⟩, ⟨Er arY.1 art⟩, ⟨KL HK.1⟩, ⟨BL HB.1⟩⟩
 (try simp only [art] at c7b0)
 obtain rfl := Option.some.inj H
 go_wp2
 first | go_end0 | ((try simp only [Exit.inBlock, Exit.then]); refine bodyPost_ret (results_none rfl _ _ _) rfl ?_)
 exact ⟨RF, (by first | exact (PR HO_542002.1) | (simp only [art]; exact (PR HO_542002.1))), BL HB.1, KL HK.1⟩
mutual
def cZ.l0 : Nat -> List Int -> Int -> List Int -> Int -> Int -> Int -> Int -> List (fq) -> Option (Int × Int × Int × List Int × (List (fq)))
 | 0, _, _, _, _, _, _, _, _ => none
 | k + 1, x1, x2, x8, x9, j6, aMI, aru, avS => if j6 < aMI then (if x8.length < 17592186044416 then ((some (x8 ++ [wrap64 ((wrap64 (j6 * aru)) + x2)] : List Int)).bind fun aTR => (if 0 <= (wrap64 ((wrap64 (j6 * aru)) + x2)) then (if (wrap64 ((wrap64 (j6 * aru)) + x2)) < (avS.length : Int) then ((bY.f k ((aj avS (wrap64 ((wrap64 (j6 * aru)) + x2))).f0) ((aj avS (wrap64 ((wrap64 (j6 * aru)) + x2))).f1) x9).bind fun aTS => (if aTS.2 = true then (if ((aj avS (wrap64 ((wrap64 (j6 * aru)) + x2))).f0) = 3 then (cZ.j1 k x1 x2 aTR j6 (wrap64 ((wrap64 (j6 * aru)) + x2)) aTS.1 aMI aru (avS.set ((wrap64 ((wrap64 (j6 * aru)) + x2)) : Int).toNat (⟨(aj avS (wrap64 ((wrap64 (j6 * aru)) + x2))).f0, wrap64 (1 - ((aj avS (wrap64 ((wrap64 (j6 * aru)) + x2))).f1))⟩ : fq)) ((aj avS (wrap64 ((wrap64 (j6 * aru)) + x2))).f0) ((aj avS (wrap64 ((wrap64 (j6 * aru)) + x2))).f1)) else (cZ.j1 k x1 x2 aTR j6 (wrap64 ((wrap64 (j6 * aru)) + x2)) aTS.1 aMI aru avS ((aj avS (wrap64 ((wrap64 (j6 * aru)) + x2))).f0) ((aj avS (wrap64 ((wrap64 (j6 * aru)) + x2))).f1))) else (some (2, j6, x2, aTR, avS)))) else (none)) else (none))) else (none)) else (some (1, aMI, x2, x8, avS))
def cZ.j1 : Nat -> List Int -> Int -> List Int -> Int -> Int -> Int -> Int -> Int -> List (fq) -> Int -> Int -> Option (Int × Int × Int × List Int × (List (fq)))
 | 0, _, _, _, _, _, _, _, _, _, _, _ => none
 | k + 1, x1, x2, x8, j6, qR, wy, aMI, aru, avS, a1n, baO => if a1n = 6 then ((aX.f k aMI aru avS x1 qR).bind fun aVR => (if (wrap64 (x2 + wy)) < 0 then (some (3, j6, wrap64 (x2 + wy), x8, aVR)) else (if (wrap64 (x2 + wy)) ≥ aru then (some (3, j6, wrap64 (x2 + wy), x8, aVR)) else (cZ.l0 k x1 (wrap64 (x2 + wy)) x8 (wrap64 (-wy)) (wrap64 (j6 + 1)) aMI aru aVR)))) else (if (wrap64 (x2 + wy)) < 0 then (some (3, j6, wrap64 (x2 + wy), x8, avS)) else (if (wrap64 (x2 + wy)) ≥ aru then (some (3, j6, wrap64 (x2 + wy), x8, avS)) else (cZ.l0 k x1 (wrap64 (x2 + wy)) x8 (wrap64 (-wy)) (wrap64 (j6 + 1)) aMI aru avS)))
end
def cZ.f (k : Nat) (ah : Int) (af : Int) (ae : List (fq)) (l1 : List Int) (a2 : Int) : Option (Int × Int × Int × List Int × (List (fq))) := cZ.l0 k l1 a2 (([] : List Int)) 0 0 ah af ae
theorem cZ.mono_l : ∀ k, (∀ y0 y1 y2 y3 y4 y5 y6 y7, dO (cZ.l0 k y0 y1 y2 y3 y4 y5 y6 y7) (cZ.l0 (k + 1) y0 y1 y2 y3 y4 y5 y6 y7)) /\ (∀ y0 y1 y2 y3 y4 y5 y6 y7 y8 y9 IG, dO (cZ.j1 k y0 y1 y2 y3 y4 y5 y6 y7 y8 y9 IG) (cZ.j1 (k + 1) y0 y1 y2 y3 y4 y5 y6 y7 y8 y9 IG))
 | 0 => by refine ⟨?_, ?_⟩ <;> (intros; intro r h; first | (simp [cZ.l0] at h; done) | (simp [cZ.j1] at h; done))
 | k + 1 => by
  obtain ⟨ja, ih1⟩ := cZ.mono_l k
  refine ⟨?_, ?_⟩ <;> (
   intros
   first | unfold cZ.l0 | unfold cZ.j1
   exact LM4 ja ih1 bY.mono aX.mono)
theorem cZ.mono : ∀ a0 a1 a2 a3 a4 k, dO (cZ.f k a0 a1 a2 a3 a4) (cZ.f (k + 1) a0 a1 a2 a3 a4) := by
 intro a0 a1 a2 a3 a4 k
 obtain ⟨ja, ih1⟩ := cZ.mono_l k
 unfold cZ.f
 exact LM4 ja ih1 bY.mono aX.mono
theorem cZ.calls (k : Nat) (ah : Int) (af : Int) (cu : Nat -> Prop) (iH : Value) (ae : List (fq)) (A1 : Option Addr) (c1 : Nat) (l1 : List Int) (a2 : Int) (r1 : Int) (r2 : Int) (r3 : Int) (r4 : List Int) (r5 : List (fq)) (w0 w : World) (hB : Below w0.heap.size w0 w) (BN : Kd.R jZ 83 w w0.heap.size cu iH ae) (hr1 : ∀ W_, Kept w W_ (fun k_ => cu k_) -> Kd.C (Kd.int .i64) W_ A1 l1.length l1) (hc1 : l1.length <= c1) (h : cZ.f k ah af ae l1 a2 = some (r1, r2, r3, r4, r5)) :
 Calls Try.prog 78 #[.agg #[.int .i64 ah, .int .i64 af, iH], .slice A1 l1.length c1, .int .i64 a2] w fun e w' => ∃ v3_ : Value, e = .returned (.tuple #[.agg #[.int .i64 r1, .int .i64 r2, .int .i64 r3], v3_]) /\ Kd.R (Kd.int .i64) 3 w' w0.heap.size (fun k_ => (cu k_ ∨ w.heap.size <= k_)) v3_ r4 /\ Kd.R jZ 83 w' w0.heap.size (fun k_ => (cu k_ ∨ w.heap.size <= k_)) iH r5 /\ Below w0.heap.size w0 w' /\ Kept w w' (fun k_ => cu k_) := by
 have nH := Try.underlying30
 have YM := Try.underlying54
 have xE := Try.underlying83
 have fB := aa.mk (show Kd.R jZ 83 w w0.heap.size (fun k_ => (cu k_ ∨ w.heap.size <= k_)) iH ae from aG BN (fun k_ hk => (.inl hk)))
 have HR1 := aa.mk hr1
 have vD := aa.mk hc1
 clear hr1 hc1
 have HK := aa.mk (Kept.refl w (fun k_ => cu k_))
 have HW0 := aa.mk hB.size
 have HB := aa.mk hB
 clear hB
 have H := h
 clear h
 unfold cZ.f at H
 generalize a3X : ((([] : List Int)) : List Int) = bcV at H
 have a3Y := aa.mk a3X.symm; clear a3X
 have H' := aa.mk H
 clear H
 obtain ⟨SB, yK, eo4⟩ := bv fB.1
 subst eo4
 go_enter Try.func78, Try.ntmps78
 go_wp2_with (first | ((with_reducible refine aC (N := 3) rfl ?_); refine dN (cs := #[.int .i64 ah, .int .i64 af, .slice SB ae.length yK]) (t := 30) ?_; intro aUq hg w5 hbox hb; refine E6 (rB fB.1 hb) (Kept.below (S := (fun k_ => cu k_)) (KL HK.1) hb) (bS HB.1 hb) (hbox) ((by rw [hg]; exact (by first | exact HK.1.1 | exact (show Kept w _ (fun k_ => cu k_) from KL HK.1).1) : w.heap.size <= aUq)) (Qm hg (bZ HB.1) : w0.heap.size <= aUq) ?_; clear fB HK HB; intro fB HK HB amo bfq bfr; clear hb hbox hg) | ((with_reducible refine aC (N := 6) rfl ?_); refine dN (cs := #[.int .i64 0, .int .i64 0, .int .i64 0]) (t := 54) ?_; intro anA hg w6 hbox hb; refine E9 (rB fB.1 hb) (bB amo.1 hb) (Kept.below (S := (fun k_ => cu k_)) (KL HK.1) hb) (bS HB.1 hb) (hbox) ((by rw [hg]; exact (by first | exact HK.1.1 | exact (show Kept w _ (fun k_ => cu k_) from KL HK.1).1) : w.heap.size <= anA)) (Qm hg (bZ HB.1) : w0.heap.size <= anA) (nB amo.1 hg) (nC amo.1 hg) ?_; clear fB amo HK HB; intro fB amo HK HB aiY bfs bft aSV aSW; clear hb hbox hg) | ((with_reducible refine aC (N := 15) rfl ?_); refine qh (Kd.int .i64) _ 3 ?hg (N := 15) ?hd (xs := ([] : List Int)) (inner := []) (ok := fun _ => True) (okp := fun _ => True) ?hr ?hp (fun _ hk => hk) trivial (Below.refl _ _) (Nat.le_refl _) (by simp) ?_; (case hd => rfl); (case hg => rfl); (case hr => first | (go_simp; done) | (go_simp; rfl)); (case hp => exact (fK.none _ _)); intro bhN w7 ho8 hb hg_ hnew_; clear hg_ hnew_; (first | rw [<- a3Y.1] at ho8 | (simp only [Int.reduceToNat] at ho8; rw [<- a3Y.1] at ho8)); refine E6 (rB fB.1 hb) (bN (Tx (M := fun k_ => (cu k_ ∨ w.heap.size <= k_)) ho8 (by first | exact HK.1.1 | exact (show Kept w _ (fun k_ => cu k_) from KL HK.1).1) (fun k_ h_ => .inr h_)) (bZ HB.1)) (bB amo.1 hb) (bB aiY.1 hb) (Kept.below (S := (fun k_ => cu k_)) (KL HK.1) hb) (bS HB.1 hb) ?_; clear fB amo aiY HK HB; intro fB a_D amo aiY HK HB; clear hb ho8))
 go_loopg [2, 8, 9, 10] k (fun kq v2 v8 v9 v10 w' => ∃ (kz : Int) (d9 : List Int) (kJ : Int) (bE : Int) (adR : List (fq)) (aHE : Int) (aHL : Int) (aH3 : Int), v2 = .int .i64 kz /\ v9 = .int .i64 kJ /\ v10 = .int .i64 bE /\ aa (cZ.l0 kq l1 kz d9 kJ bE ah af adR = some (r1, r2, r3, r4, r5)) /\ aa (kq <= k) /\ aa (Kd.R (Kd.int .i64) 3 w' w0.heap.size (fun k_ => (cu k_ ∨ w.heap.size <= k_)) v8 d9) /\ aa (Kd.R jZ 83 w' w0.heap.size (fun k_ => (cu k_ ∨ w.heap.size <= k_)) (.slice SB ae.length yK) adR) /\ aa (w'.heap[aUq]? = some (.cells #[.int .i64 ah, .int .i64 af, (.slice SB ae.length yK)] 30 (0, 0))) /\ aa (w'.heap[anA]? = some (.cells #[.int .i64 aHE, .int .i64 aHL, .int .i64 aH3] 54 (0, 0))) /\ aa (Kept w w' (fun k_ => cu k_)) /\ aa (Below w0.heap.size w0 w'))
 case atStart => exact ⟨(a2), (bcV), (0), (0), (ae), (0), (0), (0), RG, RG, RG, H', ⟨Nat.le_refl _⟩, ⟨pm (aG a_D.1 (fun _ hk => hk.1))⟩, ⟨PR fB.1⟩, ⟨PB amo.1⟩, ⟨PB aiY.1⟩, ⟨KL HK.1⟩, ⟨BL HB.1⟩⟩
 clear H'
 try clear c1
 obtain ⟨kz, d9, kJ, bE, adR, aHE, aHL, aH3, rfl, rfl, rfl, HA, iB, HO_8, HO_548002, amo, aiY, HK, HB⟩ := hrel
 have ail := (ay HO_548002.1).1
 rw [ail] at HO_548002
 (try simp only [ail])
 (try simp only [ail] at amo)
 (try simp only [ail] at aiY)
 (try simp only [ail] at HO_8)
 cases gk with
 | zero => exact absurd HA.1 (by simp [cZ.l0])
 | succ k1 => ?_
 have H := HA.1
 clear HA
 simp only [cZ.l0] at H
 replace H := pu H; rcases H with ⟨c9b0, H⟩ | ⟨c9b0, H⟩
 · replace H := oC H; obtain ⟨c10, H⟩ := H
   have Ns := aa.mk c10
   clear c10
   replace H := nR H; obtain ⟨aTR, aZW, H⟩ := H
   obtain ⟨jq, uY⟩ : ∃ j_ : Int, (wrap64 ((wrap64 (bE * af)) + kz)) = j_ := ⟨_, rfl⟩
   replace H : (if 0 <= (jq) then (if (jq) < (adR.length : Int) then ((bY.f k1 ((aj adR (jq)).f0) ((aj adR (jq)).f1) kJ).bind fun aTS => (if aTS.2 = true then (if ((aj adR (jq)).f0) = 3 then (cZ.j1 k1 l1 kz aTR bE jq aTS.1 ah af (adR.set ((jq) : Int).toNat (⟨(aj adR (jq)).f0, wrap64 (1 - ((aj adR (jq)).f1))⟩ : fq)) ((aj adR (jq)).f0) ((aj adR (jq)).f1)) else (cZ.j1 k1 l1 kz aTR bE jq aTS.1 ah af adR ((aj adR (jq)).f0) ((aj adR (jq)).f1))) else (some (2, bE, kz, aTR, adR)))) else (none)) else (none)) = some (r1, r2, r3, r4, r5) := by first | (rw [uY] at H; exact H) | (simp only [uY] at H ⊢; exact H)
   (try rw [uY] at aZW)
   have hji11w : (IntKind.i64.wrap ((wrap64 (bE * af)) + kz)) = jq := (cz _).trans uY
   replace H := ji H; obtain ⟨c12b0, H⟩ := H
   replace H := ji H; obtain ⟨c13b0, H⟩ := H
   replace H := dz H; obtain ⟨⟨aw8, bhO⟩, A14, H⟩ := H
   dsimp only at H
   replace H := Cm H; rcases H with ⟨rfl, H⟩ | ⟨rfl, H⟩
   · have Ku := aa.mk H
     clear H
     have aiC := aSV.1
     have aiD := aSW.1
     obtain ⟨qN, qO, rV, qP, qQ, rW⟩ := gB amo.1
     go_upto_if 51 with (first | ((with_reducible refine bf (b := .append) (xs := #[.tmp 28, .tmp 30]) rfl ?_); at_builtin; refine ek (Kd.int .i64) (w0 := w0) w0.heap.size rfl (.tmp 28) (.tmp 30) 38 3 (.int .i64 0) 8 rfl Try.underlying38 info3 rfl (by decide) (by omega) u8 d9 jq [.int .i64 jq] (fun k_ => (cu k_ ∨ w.heap.size <= k_)) (fun _ => False) rfl rfl ?aP (fun _ hk => hk.elim) ?aF ?aO ?aB ?aS ?aL ?_; (case aP => exact rfl); (case aB => exact (BL HB.1)); (case aF => exact (fun k_ hk => (.inr (Nat.le_trans (by first | exact HK.1.1 | exact (show Kept w _ (fun k_ => cu k_) from KL HK.1).1) hk)))); (case aO => exact (PR HO_8.1)); (case aS => exact (bZ HB.1)); (case aL => have := Ns.1; omega); intro a_E w19 ho hb hg hat; rw [<- aZW.1] at ho; refine E6 (kF (PR HO_548002.1) (dY (PR HO_8.1)) (by decide) hg) (bG amo.1 hg (dK HO_8.1 amo.1 (by decide))) (bG aiY.1 hg (dK HO_8.1 aiY.1 (by decide))) (hb) (Kept.of_grown (S := (fun k_ => cu k_)) hg (KL HK.1) (fun k_ e_ => (HO_8.1.1 k_ e_))) (ho) ?_; clear HO_548002 amo aiY HB HK HO_8; intro HO_548002 amo aiY HB HK aGx; clear ho hb hg hat; obtain ⟨wz, wB, zT, wC, wD, zU⟩ := gB amo.1; have UM : 0 <= ((jq) : Int) := OD; have UN : (jq) < (adR.length : Int) := OD; obtain ⟨aw9, apt, Be, Bf⟩ := iP (ay HO_548002.1).2.2 (jq) UM UN; cases apt; replace UM := eq_true UM; replace UN := eq_true UN) | ((with_reducible refine aC (N := 12) rfl ?_); refine dN (cs := #[.int .i64 0, .int .i64 0]) (t := 83) ?_; intro ada hg Qo hbox hb; refine E13 (jf (pE (PR HO_548002.1) ada (Nat.le_of_eq hg.symm)) hb) (rB aGx.1 hb) (bB amo.1 hb) (bB aiY.1 hb) (Kept.below (S := (fun k_ => cu k_)) (KL HK.1) hb) (bS HB.1 hb) (hbox) ((by rw [hg]; exact (by first | exact HK.1.1 | exact (show Kept w _ (fun k_ => cu k_) from KL HK.1).1) : w.heap.size <= ada)) (Qm hg (bZ HB.1) : w0.heap.size <= ada) (nB amo.1 hg) (nC amo.1 hg) (nB aiY.1 hg) (nC aiY.1 hg) ?_; clear HO_548002 aGx amo aiY HK HB; intro HO_548002 aGx amo aiY HK HB GH axa axb aNQ aSX aNR aSY; clear hb hbox hg; have aMz := aSX.1; have aMA := aNQ.1; have atU := aSY.1; have atV := aNR.1; obtain ⟨JP, JQ, JR, JS⟩ := nO GH.1) | ((with_reducible refine aA (f := 89) rfl ?_); refine Ep (some 40) rfl rfl Try.func89 (by kernel_rfl) rfl #[.agg #[.int .i64 ((aj adR (jq)).f0), .int .i64 ((aj adR (jq)).f1)], .int .i64 kJ] rfl (by (try simp only [List.map_toArray, List.map_cons, List.map_nil]); first | done | (simp only [uY]; rfl) | rfl | (simp only [List.length_drop, List.length_take]; rfl)) ?_; (with_reducible refine (bY.calls k1 ((aj adR (jq)).f0) ((aj adR (jq)).f1) kJ aw8 true _ A14.1).mono ?_); rintro e Mk ⟨rfl, hb⟩; refine ⟨_, rfl, ?_⟩; refine E7 (jf (by (with_reducible repeat (first | apply aV | apply aW | apply aQ)); exact (aG (RQ ada 1 (RQ ada 0 (aG HO_548002.1 (fun k_ hk => (⟨hk, hk.2⟩ : _ /\ k_ ≠ ada))) _) _) (fun _ h_ => h_.1))) hb) (jf (by (with_reducible repeat (first | apply aV | apply aW | apply aQ)); exact (aG (RQ ada 1 (RQ ada 0 (bz aGx.1 GH.1 (by decide)) _) _) (fun _ h_ => h_.1))) hb) (dh (g := aUq) (o := .cells #[.int .i64 ah, .int .i64 af, .slice (some aw9) adR.length yK] 30 (0, 0)) (xB aNQ.1 amo.1) hb) (dh (g := anA) (o := .cells #[.int .i64 aHE, .int .i64 aHL, .int .i64 aH3] 54 (0, 0)) (xB aNR.1 aiY.1) hb) (dh (g := ada) (o := .cells #[.int .i64 ((aj adR (jq)).f0), .int .i64 ((aj adR (jq)).f1)] 83 (0, 0)) (BB GH.1) hb) (Kept.below (S := (fun k_ => cu k_)) (KL HK.1) hb) (bS HB.1 hb) ?_; clear HO_548002 aGx amo aiY GH HK HB; intro HO_548002 aGx amo aiY GH HK HB; (try clear hb); (try clear hk); obtain ⟨xM, xN, xO, xP⟩ := nO GH.1))
     (try simp only [Act.put, List.setIfInBounds_toArray, List.set_cons_zero, List.set_cons_succ])
     go_cut [] (fun wc => ∃ (kq : Nat) (arj : List (fq)) (aRV : Int), aa (cZ.j1 kq l1 kz aTR bE jq aw8 ah af arj ((aj adR (jq)).f0) aRV = some (r1, r2, r3, r4, r5)) /\ aa (kq <= k1) /\ aa (Kd.R (Kd.int .i64) 3 wc w0.heap.size (fun k_ => (cu k_ ∨ w.heap.size <= k_)) a_E aTR) /\ aa (Kd.R jZ 83 wc w0.heap.size (fun k_ => (cu k_ ∨ w.heap.size <= k_) /\ k_ ≠ ada) (.slice (some aw9) adR.length yK) arj) /\ aa (wc.heap[aUq]? = some (.cells #[.int .i64 ah, .int .i64 af, (.slice (some aw9) adR.length yK)] 30 (0, 0))) /\ aa (wc.heap[anA]? = some (.cells #[.int .i64 aHE, .int .i64 aHL, .int .i64 aH3] 54 (0, 0))) /\ aa (wc.heap[ada]? = some (.cells #[.int .i64 ((aj adR (jq)).f0), .int .i64 aRV] 83 (0, 0))) /\ aa (Kept w wc (fun k_ => cu k_)) /\ aa (Below w0.heap.size w0 wc))
     case first =>
      have H := Ku.1
      clear Ku
      replace H := oP H; rcases H with ⟨SE, H⟩ | ⟨SE, H⟩
      · have c27b0 := beq_iff_eq.mpr SE
        have c27b1 := bne_eq_false_iff_eq.mpr SE
        clear SE
        (first | rw [c27b0] | (simp only [cz, dF]; rw [c27b0]) | skip)
        generalize a3Z : ((adR.set ((jq) : Int).toNat (⟨(aj adR (jq)).f0, wrap64 (1 - ((aj adR (jq)).f1))⟩ : fq)) : List (fq)) = a_F at H
        have a_G := aa.mk a3Z.symm; clear a3Z
        have H' := aa.mk H
        clear H
        obtain ⟨aBB, aBC, aBD, aBE, aBF, aBG⟩ := gB amo.1
        obtain ⟨Cu, Cv, Cw, Cx⟩ := nO GH.1
        have p28 : 0 <= ((jq) : Int) := OD
        have q28 : ((jq) : Int) < ((adR.length : Int) : Int) := OD
        obtain ⟨LF, aQy, axP, axQ, aHb, aQz, axR⟩ := mQ HO_548002.1 (by omega)
        (first | cases axP | (injection axP with ea_ en_ ec_; (first | subst ea_ | (injection ea_ with ea_; subst ea_)); subst ec_; clear en_))
        have aHc := aa.mk axQ
        have aQA := aa.mk axR
        clear axQ aHb axR
        have HMgo28 := aa.mk (show (cu LF ∨ w.heap.size <= LF) from (HO_548002.1.1 _ rfl).1)
        (first | simp only [add_plain] at Be | skip)
        (first | simp only [add_plain] at Bf | skip)
        obtain ⟨aQB, axS, axT, adp, adq⟩ := nz HO_548002.1 z83 ((jq) : Int) p28 q28
        obtain rfl := jY axT
        have aHd : Mk.cell? ⟨LF, ((jq) : Int).toNat * 2, none⟩ = some (.int .i64 ((aj adR (jq)).f0)) := adp 0 _ rfl
        have aHe : Mk.cell? ⟨LF, ((jq) : Int).toNat * 2 + 1, none⟩ = some (.int .i64 ((aj adR (jq)).f1)) := adp 1 _ rfl
        have aHf : Mk.frozen? ⟨LF, ((jq) : Int).toNat * 2, none⟩ = false := adq 0
        have aHg : Mk.frozen? ⟨LF, ((jq) : Int).toNat * 2 + 1, none⟩ = false := adq 1
        (try clear axT); clear axS adp adq
        replace p28 := eq_true p28
        replace q28 := eq_true q28
        have axU := aa.mk (show Kd.R jZ 83 Mk w0.heap.size (fun k_ => (cu k_ ∨ w.heap.size <= k_) /\ k_ ≠ ada) (.slice (some ⟨LF, 0, none⟩) adR.length yK) adR from (PR HO_548002.1))
        obtain ⟨aQC, alo, axV, adr, alp⟩ := nz axU.1 z83 ((jq) : Int) (OD) (by have h_ : ((jq) : Int) < ((adR.length : Int) : Int) := OD; first | exact h_ | (have e_ := (ay HO_548002.1).1; omega) | simpa using h_)
        obtain rfl := jY axV
        have apX := DZ axU.1 ((jq) : Int) (OD) (by have h_ : ((jq) : Int) < ((adR.length : Int) : Int) := OD; first | exact h_ | (have e_ := (ay HO_548002.1).1; omega) | simpa using h_) (seg := [.int .i64 (wrap64 (1 - ((aj adR (jq)).f1)))]) (j := 1) alo adr (show 2 <= 2 from by decide) (x' := (⟨(aj adR (jq)).f0, wrap64 (1 - ((aj adR (jq)).f1))⟩ : fq)) (uE _ _ _ (⟨(aj adR (jq)).f0, wrap64 (1 - ((aj adR (jq)).f1))⟩ : fq) ) (fun _ hk => hk)
        have apY := adr 1 _ rfl
        (try simp only [show (jZ).sz = 2 from rfl, Nat.mul_one, Nat.add_zero] at apY)
        have apZ := alp 1
        (try simp only [show (jZ).sz = 2 from rfl, Nat.mul_one, Nat.add_zero] at apZ)
        (try clear axV); clear alo adr alp
        go_wp2_with (first | ((with_reducible refine gK (t := 3) (p := 59) rfl ?_); refine lX (t := 3) (p := 59) (w1 := (Mk.setCell ⟨LF, ((jq) : Int).toNat * 2 + 1, none⟩ (.int .i64 (wrap64 (1 - ((aj adR (jq)).f1)))))) ?_; intro Qi hw; have hg : Mk.grownBy Qi (some LF) := (by rw [hw]; exact apX.2); have hp_ : Kd.R jZ 83 Qi w0.heap.size (fun k_ => (cu k_ ∨ w.heap.size <= k_) /\ k_ ≠ ada) (.slice (some ⟨LF, 0, none⟩) adR.length yK) a_F := (by rw [hw, a_G.1]; exact apX.1); clear apX; refine E7 (hp_) (bG amo.1 hg (dK HO_548002.1 amo.1 (by decide))) (bG aiY.1 hg (dK HO_548002.1 aiY.1 (by decide))) (kF (v := (.slice (some ⟨LF, 0, none⟩) adR.length yK)) (PR aGx.1) (dY HO_548002.1) (by decide) hg) (bG GH.1 hg (BQ HO_548002.1 (fun _ hk => hk.2))) ((by rw [hw]; exact il (HB.1) aHc.1 : Below w0.heap.size w0 Qi)) (Kept.of_grown (S := (fun k_ => cu k_)) hg (KL HK.1) (fun k_ e_ => (HO_548002.1.1 k_ e_).1)) ?_; clear HO_548002 amo aiY aGx GH HB HK; intro HO_548002 amo aiY aGx GH HB HK; clear hg hw hp_))
        go_meet
        case rel => exact ⟨_, (a_F), ((aj adR (jq)).f1), H', ⟨by have := iB.1; first | omega | exact Nat.le_refl _⟩, ⟨ER aGx.1 ail⟩, ⟨ER HO_548002.1 ail⟩, ⟨Er amo.1 ail⟩, ⟨Er aiY.1 ail⟩, ⟨Er GH.1 ail⟩, ⟨KL HK.1⟩, ⟨BL HB.1⟩⟩
      have c27b0 := beq_eq_false_iff_ne.mpr SE
      have c27b1 := bne_iff_ne.mpr SE
      (first | rw [c27b0] | (simp only [cz, dF]; rw [c27b0]) | skip)
      have H' := aa.mk H
      clear H
      go_wp2
      go_meet
      case rel => exact ⟨_, (adR), ((aj adR (jq)).f1), H', ⟨by have := iB.1; first | omega | exact Nat.le_refl _⟩, ⟨ER aGx.1 ail⟩, ⟨ER HO_548002.1 ail⟩, ⟨Er amo.1 ail⟩, ⟨Er aiY.1 ail⟩, ⟨Er GH.1 ail⟩, ⟨KL HK.1⟩, ⟨BL HB.1⟩⟩
     clear Ku
     try clear Be; try clear Bf; try clear UM; try clear UN; clear c9b0 c12b0 c13b0 qN qO rV wz wB zT JP JQ xM xN qP qQ rW wC wD zU JR JS xO xP
     obtain ⟨kq, arj, aRV, HA, Qp, HO_8, HO_548002, amo, aiY, GH, HK, HB⟩ := hcut
     have ao1 := (ay HO_548002.1).1
     rw [ao1] at HO_548002
     (try simp only [ao1])
     (try simp only [ao1] at amo)
     (try simp only [ao1] at aiY)
     (try simp only [ao1] at GH)
     (try simp only [ao1] at HO_8)
     cases kq with
     | zero => exact absurd HA.1 (by simp [cZ.j1])
     | succ yD => ?_
     have H := HA.1
     clear HA
     simp only [cZ.j1] at H
     replace H := oP H; rcases H with ⟨ZM, H⟩ | ⟨ZM, H⟩
     · have c36b0 := beq_iff_eq.mpr ZM
       have c36b1 := bne_eq_false_iff_eq.mpr ZM
       clear ZM
       replace H := dz H; obtain ⟨aVR, A37, H⟩ := H
       replace H := pu H; rcases H with ⟨c38b0, H⟩ | ⟨c38b0, H⟩
       · simp only [Option.some.injEq, Prod.mk.injEq] at H
         obtain ⟨rfl, rfl, rfl, rfl, rfl⟩ := H
         obtain ⟨afA, afB, afC, afD⟩ := nO GH.1
         obtain ⟨ae7, ae8, aBH, ae9, afa, aBI⟩ := gB amo.1
         go_wp2_with (first | ((with_reducible refine aA (f := 90) rfl ?_); refine Ep (some 66) rfl rfl Try.func90 (by kernel_rfl) rfl #[.agg #[.int .i64 ah, .int .i64 af, .slice (some aw9) arj.length yK], .slice A1 l1.length c1, .int .i64 jq] rfl (by (try simp only [List.map_toArray, List.map_cons, List.map_nil]); first | done | (simp only [uY]; rfl) | rfl | (simp only [List.length_drop, List.length_take]; rfl)) ?_; (with_reducible refine (aX.calls yD ah af (fun k_ => some k_ = (.slice (some aw9) arj.length yK : Value).ownBlock) (.slice (some aw9) arj.length yK) arj _ _ l1 jq aVR w0 _ ?side1 ?side2 ?side3 ?side4 A37.1).mono ?_); (case side1 => exact BL HB.1); (case side2 => exact jR rfl HO_548002.1); (case side3 => exact BX HR1.1 (KL HK.1) (fun k_ hs_ => (fun e_ => (HO_548002.1.1 k_ e_.symm).1) hs_)); (case side4 => exact vD.1); rintro e w44 ⟨rfl, hy0, hb, hkp⟩; refine ⟨_, rfl, ?_⟩; refine E7 (aG (ok' := fun k_ => (cu k_ ∨ w.heap.size <= k_)) (jV ((eH HO_8.1 (dY HO_548002.1) (by decide))) hkp (fun k_ hk_ hs_ => (hk_.2) hs_)) (fun k_ hk_ => hk_.1.1)) (qp rfl hy0 (fun k_ e_ => HO_548002.1.1 k_ e_)) (eQ (PB amo.1) hkp (fun hs_ => (fun e_ => (dK HO_548002.1 amo.1 (by decide)) e_) hs_)) (eQ (PB aiY.1) hkp (fun hs_ => (fun e_ => (dK HO_548002.1 aiY.1 (by decide)) e_) hs_)) (eQ (PB GH.1) hkp (fun hs_ => (fun e_ => (BQ HO_548002.1 (fun _ hk => hk.2)) e_) hs_)) (Kept.then_ (S := (fun k_ => cu k_)) (KL HK.1) hkp (fun k_ hs_ => (fun e_ => (HO_548002.1.1 k_ e_.symm).1) hs_)) (hb) ?_; clear HO_8 HO_548002 amo aiY GH HK HB; intro HO_8 HO_548002 amo aiY GH HK HB; (try clear hb); (try clear hkp); (try clear hy0); obtain ⟨aBJ, aBK, aBL, aBM, aBN, aBO⟩ := gB aiY.1))
         refine bodyPost_ret (ug rfl _ _ anA 54 #[.int .i64 3, .int .i64 bE, .int .i64 (wrap64 (kz + aw8))] (0, 0) _ rfl (BB aiY.1) Try.underlying54 rfl (by kernel_rfl)) rfl ?_
         exact ⟨_, by first | rfl | (simp [iC, iD] <;> rfl) | (simp only [<- uY]; first | rfl | (simp [iC, iD] <;> rfl)) | (simp [*, iC, iD] <;> rfl), by (with_reducible repeat (first | apply aV | apply aW | apply aQ)); exact aG (RQ anA 2 (RQ anA 1 (RQ anA 0 (bz HO_8.1 aiY.1 (by decide)) _) _) _) (fun _ hk => hk.1), (by first | exact (by (with_reducible repeat (first | apply aV | apply aW | apply aQ)); exact aG (RQ anA 2 (RQ anA 1 (RQ anA 0 (bz HO_548002.1 aiY.1 (by decide)) _) _) _) (fun _ hk => hk.1.1)) | (simp only [ail, ao1]; exact (by (with_reducible repeat (first | apply aV | apply aW | apply aQ)); exact aG (RQ anA 2 (RQ anA 1 (RQ anA 0 (bz HO_548002.1 aiY.1 (by decide)) _) _) _) (fun _ hk => hk.1.1)))), BL HB.1, KL HK.1⟩
       replace H := oP H; rcases H with ⟨c46, H⟩ | ⟨c46, H⟩
       · have c46b0 : decide (af <= (wrap64 (kz + aw8))) = true := decide_eq_true c46
         clear c46
         simp only [Option.some.injEq, Prod.mk.injEq] at H
         obtain ⟨rfl, rfl, rfl, rfl, rfl⟩ := H
         obtain ⟨agf, agh, agi, agj⟩ := nO GH.1
         obtain ⟨aBP, aBQ, aBR, aBS, aBT, aBU⟩ := gB amo.1
         go_wp2_with (first | ((with_reducible refine aA (f := 90) rfl ?_); refine Ep (some 66) rfl rfl Try.func90 (by kernel_rfl) rfl #[.agg #[.int .i64 ah, .int .i64 af, .slice (some aw9) arj.length yK], .slice A1 l1.length c1, .int .i64 jq] rfl (by (try simp only [List.map_toArray, List.map_cons, List.map_nil]); first | done | (simp only [uY]; rfl) | rfl | (simp only [List.length_drop, List.length_take]; rfl)) ?_; (with_reducible refine (aX.calls yD ah af (fun k_ => some k_ = (.slice (some aw9) arj.length yK : Value).ownBlock) (.slice (some aw9) arj.length yK) arj _ _ l1 jq aVR w0 _ ?side1 ?side2 ?side3 ?side4 A37.1).mono ?_); (case side1 => exact BL HB.1); (case side2 => exact jR rfl HO_548002.1); (case side3 => exact BX HR1.1 (KL HK.1) (fun k_ hs_ => (fun e_ => (HO_548002.1.1 k_ e_.symm).1) hs_)); (case side4 => exact vD.1); rintro e w52 ⟨rfl, hy0, hb, hkp⟩; refine ⟨_, rfl, ?_⟩; refine E7 (aG (ok' := fun k_ => (cu k_ ∨ w.heap.size <= k_)) (jV ((eH HO_8.1 (dY HO_548002.1) (by decide))) hkp (fun k_ hk_ hs_ => (hk_.2) hs_)) (fun k_ hk_ => hk_.1.1)) (qp rfl hy0 (fun k_ e_ => HO_548002.1.1 k_ e_)) (eQ (PB amo.1) hkp (fun hs_ => (fun e_ => (dK HO_548002.1 amo.1 (by decide)) e_) hs_)) (eQ (PB aiY.1) hkp (fun hs_ => (fun e_ => (dK HO_548002.1 aiY.1 (by decide)) e_) hs_)) (eQ (PB GH.1) hkp (fun hs_ => (fun e_ => (BQ HO_548002.1 (fun _ hk => hk.2)) e_) hs_)) (Kept.then_ (S := (fun k_ => cu k_)) (KL HK.1) hkp (fun k_ hs_ => (fun e_ => (HO_548002.1.1 k_ e_.symm).1) hs_)) (hb) ?_; clear HO_8 HO_548002 amo aiY GH HK HB; intro HO_8 HO_548002 amo aiY GH HK HB; (try clear hb); (try clear hkp); (try clear hy0); obtain ⟨aBV, aBW, aBX, aBY, aBZ, aB0⟩ := gB amo.1; obtain ⟨aB1, aB2, aB3, aB4, aB5, aB6⟩ := gB aiY.1))
         refine bodyPost_ret (ug rfl _ _ anA 54 #[.int .i64 3, .int .i64 bE, .int .i64 (wrap64 (kz + aw8))] (0, 0) _ rfl (BB aiY.1) Try.underlying54 rfl (by kernel_rfl)) rfl ?_
         exact ⟨_, by first | rfl | (simp [iC, iD] <;> rfl) | (simp only [<- uY]; first | rfl | (simp [iC, iD] <;> rfl)) | (simp [*, iC, iD] <;> rfl), by (with_reducible repeat (first | apply aV | apply aW | apply aQ)); exact aG (RQ anA 2 (RQ anA 1 (RQ anA 0 (bz HO_8.1 aiY.1 (by decide)) _) _) _) (fun _ hk => hk.1), (by first | exact (by (with_reducible repeat (first | apply aV | apply aW | apply aQ)); exact aG (RQ anA 2 (RQ anA 1 (RQ anA 0 (bz HO_548002.1 aiY.1 (by decide)) _) _) _) (fun _ hk => hk.1.1)) | (simp only [ail, ao1]; exact (by (with_reducible repeat (first | apply aV | apply aW | apply aQ)); exact aG (RQ anA 2 (RQ anA 1 (RQ anA 0 (bz HO_548002.1 aiY.1 (by decide)) _) _) _) (fun _ hk => hk.1.1)))), BL HB.1, KL HK.1⟩
       have c46b0 : decide (af <= (wrap64 (kz + aw8))) = false := decide_eq_false c46
       clear c46
       have H' := aa.mk H
       clear H
       obtain ⟨aB7, aB8, aB9, aCa⟩ := nO GH.1
       obtain ⟨NW, NY, NZ, N7, N8, N9⟩ := gB amo.1
       go_wp2_with (first | ((with_reducible refine aA (f := 90) rfl ?_); refine Ep (some 66) rfl rfl Try.func90 (by kernel_rfl) rfl #[.agg #[.int .i64 ah, .int .i64 af, .slice (some aw9) arj.length yK], .slice A1 l1.length c1, .int .i64 jq] rfl (by (try simp only [List.map_toArray, List.map_cons, List.map_nil]); first | done | (simp only [uY]; rfl) | rfl | (simp only [List.length_drop, List.length_take]; rfl)) ?_; (with_reducible refine (aX.calls yD ah af (fun k_ => some k_ = (.slice (some aw9) arj.length yK : Value).ownBlock) (.slice (some aw9) arj.length yK) arj _ _ l1 jq aVR w0 _ ?side1 ?side2 ?side3 ?side4 A37.1).mono ?_); (case side1 => exact BL HB.1); (case side2 => exact jR rfl HO_548002.1); (case side3 => exact BX HR1.1 (KL HK.1) (fun k_ hs_ => (fun e_ => (HO_548002.1.1 k_ e_.symm).1) hs_)); (case side4 => exact vD.1); rintro e w60 ⟨rfl, hy0, hb, hkp⟩; refine ⟨_, rfl, ?_⟩; refine E7 (aG (ok' := fun k_ => (cu k_ ∨ w.heap.size <= k_)) (jV ((eH HO_8.1 (dY HO_548002.1) (by decide))) hkp (fun k_ hk_ hs_ => (hk_.2) hs_)) (fun k_ hk_ => hk_.1.1)) (qp rfl hy0 (fun k_ e_ => HO_548002.1.1 k_ e_)) (eQ (PB amo.1) hkp (fun hs_ => (fun e_ => (dK HO_548002.1 amo.1 (by decide)) e_) hs_)) (eQ (PB aiY.1) hkp (fun hs_ => (fun e_ => (dK HO_548002.1 aiY.1 (by decide)) e_) hs_)) (eQ (PB GH.1) hkp (fun hs_ => (fun e_ => (BQ HO_548002.1 (fun _ hk => hk.2)) e_) hs_)) (Kept.then_ (S := (fun k_ => cu k_)) (KL HK.1) hkp (fun k_ hs_ => (fun e_ => (HO_548002.1.1 k_ e_.symm).1) hs_)) (hb) ?_; clear HO_8 HO_548002 amo aiY GH HK HB; intro HO_8 HO_548002 amo aiY GH HK HB; (try clear hb); (try clear hkp); (try clear hy0); obtain ⟨aCb, aCc, aCd, aCe, aCf, aCg⟩ := gB amo.1))
       (try simp only [<- ail, <- ao1])
       go_roundg yD
       case measure => have := iB.1; have := Qp.1; omega
       case rel => exact ⟨(wrap64 (kz + aw8)), (aTR), (wrap64 (-aw8)), (wrap64 (bE + 1)), (aVR), (aHE), (aHL), (aH3), RG, RG, RG, H', ⟨by have := iB.1; have := Qp.1; omega⟩, ⟨MZ HO_8.1 ail ao1⟩, ⟨by (try simp only [ail]); (try simp only [ao1]); (with_reducible repeat (first | apply aV | apply aW | apply aQ)); exact aG HO_548002.1 (fun _ hk => hk.1)⟩, ⟨HY amo.1 ail ao1⟩, ⟨HY aiY.1 ail ao1⟩, ⟨KL HK.1⟩, ⟨BL HB.1⟩⟩
     have c36b0 := beq_eq_false_iff_ne.mpr ZM
     have c36b1 := bne_iff_ne.mpr ZM
     replace H := pu H; rcases H with ⟨c62b0, H⟩ | ⟨c62b0, H⟩
     · simp only [Option.some.injEq, Prod.mk.injEq] at H
       obtain ⟨rfl, rfl, rfl, rfl, rfl⟩ := H
       obtain ⟨aeS, aeT, aeU, aeV⟩ := nO GH.1
       obtain ⟨aCh, aCi, aCj, aCk, aCl, aCm⟩ := gB aiY.1
       go_wp2
       refine bodyPost_ret (ug rfl _ _ anA 54 #[.int .i64 3, .int .i64 bE, .int .i64 (wrap64 (kz + aw8))] (0, 0) _ rfl (BB aiY.1) Try.underlying54 rfl (by kernel_rfl)) rfl ?_
       exact ⟨_, by first | rfl | (simp [iC, iD] <;> rfl) | (simp only [<- uY]; first | rfl | (simp [iC, iD] <;> rfl)) | (simp [*, iC, iD] <;> rfl), by (with_reducible repeat (first | apply aV | apply aW | apply aQ)); exact aG (RQ anA 2 (RQ anA 1 (RQ anA 0 (bz HO_8.1 aiY.1 (by decide)) _) _) _) (fun _ hk => hk.1), (by first | exact (by (with_reducible repeat (first | apply aV | apply aW | apply aQ)); exact aG (RQ anA 2 (RQ anA 1 (RQ anA 0 (bz HO_548002.1 aiY.1 (by decide)) _) _) _) (fun _ hk => hk.1.1)) | (simp only [ail, ao1]; exact (by (with_reducible repeat (first | apply aV | apply aW | apply aQ)); exact aG (RQ anA 2 (RQ anA 1 (RQ anA 0 (bz HO_548002.1 aiY.1 (by decide)) _) _) _) (fun _ hk => hk.1.1)))), BL HB.1, KL HK.1⟩
     replace H := oP H; rcases H with ⟨c68, H⟩ | ⟨c68, H⟩
     · have c68b0 : decide (af <= (wrap64 (kz + aw8))) = true := decide_eq_true c68
       clear c68
       simp only [Option.some.injEq, Prod.mk.injEq] at H
       obtain ⟨rfl, rfl, rfl, rfl, rfl⟩ := H
       obtain ⟨WO, WP, WQ, WR⟩ := nO GH.1
       obtain ⟨agy, agz, agA, agB, agC, agD⟩ := gB amo.1
       obtain ⟨agE, agF, agG, agH, agI, agJ⟩ := gB aiY.1
       go_wp2
       refine bodyPost_ret (ug rfl _ _ anA 54 #[.int .i64 3, .int .i64 bE, .int .i64 (wrap64 (kz + aw8))] (0, 0) _ rfl (BB aiY.1) Try.underlying54 rfl (by kernel_rfl)) rfl ?_
       exact ⟨_, by first | rfl | (simp [iC, iD] <;> rfl) | (simp only [<- uY]; first | rfl | (simp [iC, iD] <;> rfl)) | (simp [*, iC, iD] <;> rfl), by (with_reducible repeat (first | apply aV | apply aW | apply aQ)); exact aG (RQ anA 2 (RQ anA 1 (RQ anA 0 (bz HO_8.1 aiY.1 (by decide)) _) _) _) (fun _ hk => hk.1), (by first | exact (by (with_reducible repeat (first | apply aV | apply aW | apply aQ)); exact aG (RQ anA 2 (RQ anA 1 (RQ anA 0 (bz HO_548002.1 aiY.1 (by decide)) _) _) _) (fun _ hk => hk.1.1)) | (simp only [ail, ao1]; exact (by (with_reducible repeat (first | apply aV | apply aW | apply aQ)); exact aG (RQ anA 2 (RQ anA 1 (RQ anA 0 (bz HO_548002.1 aiY.1 (by decide)) _) _) _) (fun _ hk => hk.1.1)))), BL HB.1, KL HK.1⟩
     have c68b0 : decide (af <= (wrap64 (kz + aw8))) = false := decide_eq_false c68
     clear c68
     have H' := aa.mk H
     clear H
     obtain ⟨aCn, aCo, aCp, aCq⟩ := nO GH.1
     obtain ⟨afl, afm, aCr, afn, afo, aCs⟩ := gB amo.1
     go_wp2
     (try simp only [<- ail, <- ao1])
     go_roundg yD
     case measure => have := iB.1; have := Qp.1; omega
     case rel => exact ⟨(wrap64 (kz + aw8)), (aTR), (wrap64 (-aw8)), (wrap64 (bE + 1)), (arj), (aHE), (aHL), (aH3), RG, RG, RG, H', ⟨by have := iB.1; have := Qp.1; omega⟩, ⟨MZ HO_8.1 ail ao1⟩, ⟨by (try simp only [ail]); (try simp only [ao1]); (with_reducible repeat (first | apply aV | apply aW | apply aQ)); exact aG HO_548002.1 (fun _ hk => hk.1)⟩, ⟨HY amo.1 ail ao1⟩, ⟨HY aiY.1 ail ao1⟩, ⟨KL HK.1⟩, ⟨BL HB.1⟩⟩
   simp only [Option.some.injEq, Prod.mk.injEq] at H
   obtain ⟨rfl, rfl, rfl, rfl, rfl⟩ := H
   have aMB := aSV.1
   have aMC := aSW.1
   obtain ⟨aCt, aCu, aCv, aCw, aCx, aCy⟩ := gB amo.1
   go_wp2_with (first | ((with_reducible refine bf (b := .append) (xs := #[.tmp 28, .tmp 30]) rfl ?_); at_builtin; refine ek (Kd.int .i64) (w0 := w0) w0.heap.size rfl (.tmp 28) (.tmp 30) 38 3 (.int .i64 0) 8 rfl Try.underlying38 info3 rfl (by decide) (by omega) u8 d9 jq [.int .i64 jq] (fun k_ => (cu k_ ∨ w.heap.size <= k_)) (fun _ => False) rfl rfl ?aP (fun _ hk => hk.elim) ?aF ?aO ?aB ?aS ?aL ?_; (case aP => exact rfl); (case aB => exact (BL HB.1)); (case aF => exact (fun k_ hk => (.inr (Nat.le_trans (by first | exact HK.1.1 | exact (show Kept w _ (fun k_ => cu k_) from KL HK.1).1) hk)))); (case aO => exact (PR HO_8.1)); (case aS => exact (bZ HB.1)); (case aL => have := Ns.1; omega); intro a_E w82 ho hb hg hat; rw [<- aZW.1] at ho; refine E6 (kF (PR HO_548002.1) (dY (PR HO_8.1)) (by decide) hg) (bG amo.1 hg (dK HO_8.1 amo.1 (by decide))) (bG aiY.1 hg (dK HO_8.1 aiY.1 (by decide))) (hb) (Kept.of_grown (S := (fun k_ => cu k_)) hg (KL HK.1) (fun k_ e_ => (HO_8.1.1 k_ e_))) (ho) ?_; clear HO_548002 amo aiY HB HK HO_8; intro HO_548002 amo aiY HB HK aGx; clear ho hb hg hat; obtain ⟨Vt, Vu, Vv, Vw, Vx, Vy⟩ := gB amo.1; have UM : 0 <= ((jq) : Int) := OD; have UN : (jq) < (adR.length : Int) := OD; obtain ⟨aw9, apt, Be, Bf⟩ := iP (ay HO_548002.1).2.2 (jq) UM UN; cases apt; replace UM := eq_true UM; replace UN := eq_true UN) | ((with_reducible refine aC (N := 12) rfl ?_); refine dN (cs := #[.int .i64 0, .int .i64 0]) (t := 83) ?_; intro ada hg w84 hbox hb; refine E13 (jf (pE (PR HO_548002.1) ada (Nat.le_of_eq hg.symm)) hb) (rB aGx.1 hb) (bB amo.1 hb) (bB aiY.1 hb) (Kept.below (S := (fun k_ => cu k_)) (KL HK.1) hb) (bS HB.1 hb) (hbox) ((by rw [hg]; exact (by first | exact HK.1.1 | exact (show Kept w _ (fun k_ => cu k_) from KL HK.1).1) : w.heap.size <= ada)) (Qm hg (bZ HB.1) : w0.heap.size <= ada) (nB amo.1 hg) (nC amo.1 hg) (nB aiY.1 hg) (nC aiY.1 hg) ?_; clear HO_548002 aGx amo aiY HK HB; intro HO_548002 aGx amo aiY HK HB GH axa axb aNQ aSX aNR aSY; clear hb hbox hg; have av0 := aSX.1; have av1 := aNQ.1; have av2 := aSY.1; have av3 := aNR.1; obtain ⟨agK, agL, agM, agN⟩ := nO GH.1) | ((with_reducible refine aA (f := 89) rfl ?_); refine Ep (some 40) rfl rfl Try.func89 (by kernel_rfl) rfl #[.agg #[.int .i64 ((aj adR (jq)).f0), .int .i64 ((aj adR (jq)).f1)], .int .i64 kJ] rfl (by (try simp only [List.map_toArray, List.map_cons, List.map_nil]); first | done | (simp only [uY]; rfl) | rfl | (simp only [List.length_drop, List.length_take]; rfl)) ?_; (with_reducible refine (bY.calls k1 ((aj adR (jq)).f0) ((aj adR (jq)).f1) kJ aw8 false _ A14.1).mono ?_); rintro e w88 ⟨rfl, hb⟩; refine ⟨_, rfl, ?_⟩; refine E7 (jf (by (with_reducible repeat (first | apply aV | apply aW | apply aQ)); exact (aG (RQ ada 1 (RQ ada 0 (aG HO_548002.1 (fun k_ hk => (⟨hk, hk.2⟩ : _ /\ k_ ≠ ada))) _) _) (fun _ h_ => h_.1))) hb) (jf (by (with_reducible repeat (first | apply aV | apply aW | apply aQ)); exact (aG (RQ ada 1 (RQ ada 0 (bz aGx.1 GH.1 (by decide)) _) _) (fun _ h_ => h_.1))) hb) (dh (g := aUq) (o := .cells #[.int .i64 ah, .int .i64 af, .slice (some aw9) adR.length yK] 30 (0, 0)) (xB aNQ.1 amo.1) hb) (dh (g := anA) (o := .cells #[.int .i64 aHE, .int .i64 aHL, .int .i64 aH3] 54 (0, 0)) (xB aNR.1 aiY.1) hb) (dh (g := ada) (o := .cells #[.int .i64 ((aj adR (jq)).f0), .int .i64 ((aj adR (jq)).f1)] 83 (0, 0)) (BB GH.1) hb) (Kept.below (S := (fun k_ => cu k_)) (KL HK.1) hb) (bS HB.1 hb) ?_; clear HO_548002 aGx amo aiY GH HK HB; intro HO_548002 aGx amo aiY GH HK HB; (try clear hb); (try clear hk); obtain ⟨aCz, aCA, aCB, aCC, aCD, aCE⟩ := gB aiY.1))
   refine bodyPost_ret (ug rfl _ _ anA 54 #[.int .i64 2, .int .i64 bE, .int .i64 kz] (0, 0) _ rfl (BB aiY.1) Try.underlying54 rfl (by kernel_rfl)) rfl ?_
   exact ⟨_, by first | rfl | (simp [iC, iD] <;> rfl) | (simp only [<- uY]; first | rfl | (simp [iC, iD] <;> rfl)) | (simp [*, iC, iD] <;> rfl), by (with_reducible repeat (first | apply aV | apply aW | apply aQ)); exact aG (RQ anA 2 (RQ anA 1 (RQ anA 0 (bz aGx.1 aiY.1 (by decide)) _) _) _) (fun _ hk => hk.1), (by first | exact (by (with_reducible repeat (first | apply aV | apply aW | apply aQ)); exact aG (RQ anA 2 (RQ anA 1 (RQ anA 0 (bz HO_548002.1 aiY.1 (by decide)) _) _) _) (fun _ hk => hk.1.1)) | (simp only [ail]; exact (by (with_reducible repeat (first | apply aV | apply aW | apply aQ)); exact aG (RQ anA 2 (RQ anA 1 (RQ anA 0 (bz HO_548002.1 aiY.1 (by decide)) _) _) _) (fun _ hk => hk.1.1)))), BL HB.1, KL HK.1⟩
 simp only [Option.some.injEq, Prod.mk.injEq] at H
 obtain ⟨rfl, rfl, rfl, rfl, rfl⟩ := H
 have aMD := aSV.1
 have aME := aSW.1
 obtain ⟨aCF, aCG, aCH, aCI, aCJ, aCK⟩ := gB amo.1
 obtain ⟨aCL, aCM, aCN, aCO, aCP, aCQ⟩ := gB aiY.1
 go_wp2
 refine bodyPost_ret (ug rfl _ _ anA 54 #[.int .i64 1, .int .i64 ah, .int .i64 kz] (0, 0) _ rfl (BB aiY.1) Try.underlying54 rfl (by kernel_rfl)) rfl ?_
 exact ⟨_, RF, by (with_reducible repeat (first | apply aV | apply aW | apply aQ)); exact aG (RQ anA 2 (RQ anA 1 (RQ anA 0 (bz HO_8.1 aiY.1 (by decide)) _) _) _) (fun _ hk => hk.1), (by first | exact (by (with_reducible repeat (first | apply aV | apply aW | apply aQ)); exact aG (RQ anA 2 (RQ anA 1 (RQ anA 0 (bz HO_548002.1 aiY.1 (by decide)) _) _) _) (fun _ hk => hk.1)) | (simp only [ail]; exact (by (with_reducible repeat (first | apply aV | apply aW | apply aQ)); exact aG (RQ anA 2 (RQ anA 1 (RQ anA 0 (bz HO_548002.1 aiY.1 (by decide)) _) _) _) (fun _ hk => hk.1)))), BL HB.1, KL HK.1⟩
mutual
def az.l0 : Nat -> List (List Int) -> List Int -> List (List Int) -> List Int -> Int -> Int -> Int -> Int -> List (fq) -> Option ((List (List Int)))
 | 0, _, _, _, _, _, _, _, _, _ => none
 | k + 1, x5, x6, x7, Oc, Mh, Hu, aMJ, aMK, aML => if Hu < Mh then (if 0 <= Hu then (if Hu < (Oc.length : Int) then (if 0 <= (shl .i64 1 (x5.length : Int)) then (if (shl .i64 1 (x5.length : Int) : Int).toNat <= 35184372088832 then (if Hu < (x7.length : Int) then ((some (x7.set (Hu : Int).toNat (List.replicate (shl .i64 1 (x5.length : Int) : Int).toNat 0) : List (List Int))).bind fun aS7 => (az.l1 k x5 x6 aS7 Hu (rd Oc Hu) Oc Mh Hu ((aT aS7 Hu).length : Int) 0 aMJ aMK aML)) else (none)) else (none)) else (none)) else (none)) else (none)) else (some x7)
def az.l1 : Nat -> List (List Int) -> List Int -> List (List Int) -> Int -> Int -> List Int -> Int -> Int -> Int -> Int -> Int -> Int -> List (fq) -> Option ((List (List Int)))
 | 0, _, _, _, _, _, _, _, _, _, _, _, _, _ => none
 | k + 1, x5, x6, x7, x8, x9, Oc, Mh, Hu, x39, x40, aMJ, aMK, aML => if x40 < x39 then ((fM.f aMJ aMK aML).bind fun aTT => ((dA.f k x40 (x5.length : Int)).bind fun aVS => ((aM.f k aTT.1 aTT.2.1 aTT.2.2 x5 aVS).bind fun a1o => ((cZ.f k aTT.1 aTT.2.1 a1o x6 x9).bind fun a_H => (if 0 <= (x5.length : Int) then (if ((x5.length : Int) : Int).toNat <= 35184372088832 then (az.l2 k x5 x6 x7 x8 x9 x40 (List.replicate ((x5.length : Int) : Int).toNat 0) Oc Mh Hu x39 x40 (x5.length : Int) 0 aMJ aMK aML aTT.1 aTT.2.1 a_H.2.2.2.2) else (none)) else (none)))))) else (az.l0 k x5 x6 x7 Oc Mh (wrap64 (Hu + 1)) aMJ aMK aML)
def az.l2 : Nat -> List (List Int) -> List Int -> List (List Int) -> Int -> Int -> Int -> List Int -> List Int -> Int -> Int -> Int -> Int -> Int -> Int -> Int -> Int -> List (fq) -> Int -> Int -> List (fq) -> Option ((List (List Int)))
 | 0, _, _, _, _, _, _, _, _, _, _, _, _, _, _, _, _, _, _, _, _ => none
 | k + 1, x5, x6, x7, x8, x9, j6, pz, Oc, Mh, Hu, x39, x40, KU, DN, aMJ, aMK, aML, a1p, a1q, aVg => if DN < KU then (if 0 <= DN then (if DN < (x5.length : Int) then (if 0 < ((aT x5 DN).length : Int) then (if 0 <= (rd (aT x5 DN) 0) then (if (rd (aT x5 DN) 0) < (aVg.length : Int) then (if DN < (pz.length : Int) then (az.l2 k x5 x6 x7 x8 x9 j6 (pz.set (DN : Int).toNat ((aj aVg (rd (aT x5 DN) 0)).f1)) Oc Mh Hu x39 x40 KU (wrap64 (DN + 1)) aMJ aMK aML a1p a1q aVg) else (none)) else (none)) else (none)) else (none)) else (none)) else (none)) else (if 0 <= x8 then (if x8 < (x7.length : Int) then ((bC.f k pz).bind fun aZX => (if 0 <= j6 then (if j6 < ((aT x7 x8).length : Int) then (az.l1 k x5 x6 (x7.set (x8 : Int).toNat ((aT x7 x8).set (j6 : Int).toNat aZX)) x8 x9 Oc Mh Hu x39 (wrap64 (x40 + 1)) aMJ aMK aML) else (none)) else (none))) else (none)) else (none))
end
def az.g (k : Nat) (ah : Int) (af : Int) (ae : List (fq)) (l1 : List Int) (l2 : List (List Int)) (l3 : List Int) : Option ((List (List Int))) := if 0 <= (l1.length : Int) then (if ((l1.length : Int) : Int).toNat <= 11728124029610 then (az.l0 k l2 l3 (List.replicate ((l1.length : Int) : Int).toNat []) l1 (l1.length : Int) 0 ah af ae) else (none)) else (none)
def az.f (k : Nat) (ah : Int) (af : Int) (ae : List (fq)) (l1 : List Int) : Option ((List (List Int))) := (bn.f k ah af ae).bind fun l2 => ((av.f k ah af ae).bind fun l3 => (az.g k ah af ae l1 l2 l3))
theorem az.mono_l : ∀ k, (∀ y0 y1 y2 y3 y4 y5 y6 y7 y8, dO (az.l0 k y0 y1 y2 y3 y4 y5 y6 y7 y8) (az.l0 (k + 1) y0 y1 y2 y3 y4 y5 y6 y7 y8)) /\ (∀ y0 y1 y2 y3 y4 y5 y6 y7 y8 y9 IG MV Vr, dO (az.l1 k y0 y1 y2 y3 y4 y5 y6 y7 y8 y9 IG MV Vr) (az.l1 (k + 1) y0 y1 y2 y3 y4 y5 y6 y7 y8 y9 IG MV Vr)) /\ (∀ y0 y1 y2 y3 y4 y5 y6 y7 y8 y9 IG MV Vr y13 y14 y15 y16 y17 y18 y19, dO (az.l2 k y0 y1 y2 y3 y4 y5 y6 y7 y8 y9 IG MV Vr y13 y14 y15 y16 y17 y18 y19) (az.l2 (k + 1) y0 y1 y2 y3 y4 y5 y6 y7 y8 y9 IG MV Vr y13 y14 y15 y16 y17 y18 y19))
 | 0 => by refine ⟨?_, ?_, ?_⟩ <;> (intros; intro r h; first | (simp [az.l0] at h; done) | (simp [az.l1] at h; done) | (simp [az.l2] at h; done))
 | k + 1 => by
  obtain ⟨ja, ih1, ih2⟩ := az.mono_l k
  refine ⟨?_, ?_, ?_⟩ <;> (
   intros
   first | unfold az.l0 | unfold az.l1 | unfold az.l2
   exact LM7 ja ih1 ih2 dA.mono cZ.mono bC.mono aM.mono)
theorem az.gmono : ∀ a0 a1 a2 a3 a4 a5 k, dO (az.g k a0 a1 a2 a3 a4 a5) (az.g (k + 1) a0 a1 a2 a3 a4 a5) := by
 intro a0 a1 a2 a3 a4 a5 k
 obtain ⟨ja, ih1, ih2⟩ := az.mono_l k
 unfold az.g
 repeat' first
  | (with_reducible exact ja _ _ _ _ _ _ _ _ _)
  | (with_reducible exact ih1 _ _ _ _ _ _ _ _ _ _ _ _ _)
  | (with_reducible exact ih2 _ _ _ _ _ _ _ _ _ _ _ _ _ _ _ _ _ _ _ _)
  | (with_reducible exact dA.mono _ _ _)
  | (with_reducible exact cZ.mono _ _ _ _ _ _)
  | (with_reducible exact bC.mono _ _)
  | (with_reducible exact aM.mono _ _ _ _ _ _)
  | (with_reducible exact dO.refl _)
  | (with_reducible exact dO.none _)
  | (with_reducible refine dO.ite ?_ ?_)
  | (with_reducible refine dO.bind ?_ (fun _ => ?_))
  | exact ja _ _ _ _ _ _ _ _ _
  | exact ih1 _ _ _ _ _ _ _ _ _ _ _ _ _
  | exact ih2 _ _ _ _ _ _ _ _ _ _ _ _ _ _ _ _ _ _ _ _
  | exact dA.mono _ _ _
  | exact cZ.mono _ _ _ _ _ _
  | exact bC.mono _ _
  | exact aM.mono _ _ _ _ _ _
  | exact dO.none _
  | refine dO.ite ?_ ?_
  | refine dO.bind ?_ (fun _ => ?_)
def az.T18 : Bool × List (List Nat × List Nat) := (true, [([], []), ([], []), ([], []), ([2], [2]), ([], []), ([], []), ([4, 5], [4, 5]), ([6], [6]), ([7], [7]), ([8], [8]), ([3, 9], [3, 9]), ([10], [10]), ([11], [11]), ([0, 1, 0, 1, 2, 3, 4, 5, 6, 7, 8, 9, 10, 11, 12], [0, 1]), ([13, 12, 0, 1, 2, 3, 4, 5, 6, 7, 8, 9, 10, 11, 12], [12, 13])])
def az.B18 : List Nat := [0, 0, 0, 4, 0, 0, 48, 112, 240, 496, 1020, 2044, 4092, 8191, 16383]
theorem az.aa8 : mX .any (opsOf Try.f48 18) = az.T18 := by kernel_rfl
theorem az.bits18 : kr az.T18.2 az.B18 = true := by kernel_rfl
def az.T20 : Bool × List (List Nat × List Nat) := (true, [([], []), ([], []), ([0, 1], [0, 1]), ([2], [2]), ([], []), ([], []), ([5], [5]), ([3, 4, 0, 1, 2, 3, 4, 5, 6], [3, 4]), ([7, 6, 6, 0, 1, 2, 3, 4, 5, 6], [6, 7])])
def az.B20 : List Nat := [0, 0, 3, 7, 0, 0, 32, 127, 255]
theorem az.axY : mX .any (opsOf Try.f48 20) = az.T20 := by kernel_rfl
theorem az.bits20 : kr az.T20.2 az.B20 = true := by kernel_rfl
theorem az.mono : ∀ a0_ a1_ a2_ a3_ k, dO (az.f k a0_ a1_ a2_ a3_) (az.f (k + 1) a0_ a1_ a2_ a3_) := by
 intro a0_ a1_ a2_ a3_ k
 unfold az.f
 refine dO.bind (bn.mono _ _ _ _) (fun _ => ?_)
 refine dO.bind (av.mono _ _ _ _) (fun _ => ?_)
 exact az.gmono _ _ _ _ _ _ _
theorem az.calls (k : Nat) (ah : Int) (af : Int) (aK : Option Addr) (aJ : Nat) (ae : List (fq)) (A1 : Option Addr) (c1 : Nat) (l1 : List Int) (r : List (List Int)) (w : World) (dH : Kd.C jZ w aK ae.length ae) (dG : ae.length <= aJ) (hr1 : Kd.C (Kd.int .i64) w A1 l1.length l1) (hc1 : l1.length <= c1) (h : az.f k ah af ae l1 = some r) :
 Calls Try.prog 48 #[.agg #[.int .i64 ah, .int .i64 af, .slice aK ae.length aJ], .slice A1 l1.length c1] w fun e w' => ∃ rO : Value, e = .returned (rO) /\ Kd.S (Kd.slice 3 (Kd.int .i64)) 38 w' w.heap.size (fun _ => True) rO r /\ Below w.heap.size w w' := by
 have nH := Try.underlying30
 have bD := aa.mk dH
 have cO := aa.mk dG
 clear dH dG
 have HR1 := aa.mk hr1
 have vD := aa.mk hc1
 clear hr1 hc1
 have HB := aa.mk (Below.refl w.heap.size w)
 have H := h
 clear h
 unfold az.f at H
 replace H := dz H; obtain ⟨l2, AL0, H⟩ := H
 replace H := dz H; obtain ⟨l3, AL1, H⟩ := H
 unfold az.g at H
 replace H := oC H; obtain ⟨c5, H⟩ := H
 have c5b0 := eq_true c5
 have c5b1 := decide_eq_true c5
 clear c5
 replace H := oC H; obtain ⟨c6, H⟩ := H
 have c6b0 := eq_true c6
 have c6b1 := decide_eq_true c6
 clear c6
 generalize a4a : ((List.replicate ((l1.length : Int) : Int).toNat []) : List (List Int)) = bc5 at H
 have a4b := aa.mk a4a.symm; clear a4a
 have H' := aa.mk H
 clear H
 go_enter Try.func48, Try.ntmps48
 go_wp2_with (first | ((with_reducible refine aA (f := 61) rfl ?_); refine cK (N := some 15) #[.agg #[.int .i64 ah, .int .i64 af, .slice aK ae.length aJ]] Try.func61 ?_; (with_reducible refine (bn.calls k ah af _ _ ae l2 _ ?side1 ?side2 AL0.1).mono ?_); (case side1 => exact CB (aY bD.1 HB.1)); (case side2 => exact cO.1); rintro e wl0 ⟨vl0, rfl, ho0, hb⟩; refine ⟨_, rfl, ?_⟩; obtain ⟨A2, c2, el2⟩ := mq ho0; subst el2; refine E4 (fJ ho0).2.2 (fJ ho0).2.1 (bB amq.1 hb) (bS HB.1 hb) ?_; clear amq HB; intro HR2 HC2 amq HB; clear hb ho0; obtain ⟨hczl0_0, hczl0_1, hczl0_2, hfzl0_0, hfzl0_1, hfzl0_2⟩ := gB amq.1) | ((with_reducible refine aA (f := 74) rfl ?_); refine cK (N := some 17) #[.agg #[.int .i64 ah, .int .i64 af, .slice aK ae.length aJ]] Try.func74 ?_; (with_reducible refine (av.calls k ah af _ _ ae l3 _ ?side1 ?side2 AL1.1).mono ?_); (case side1 => exact CB (aY bD.1 HB.1)); (case side2 => exact cO.1); rintro e w ⟨vl1, rfl, ho0, hb⟩; refine ⟨_, rfl, ?_⟩; obtain ⟨A3, c3, el3⟩ := bv ho0; subst el3; refine E8 (bS HB.1 hb) (aY bD.1 (bS HB.1 hb)) (aY HR1.1 (bS HB.1 hb)) (aY HR2.1 hb) (ay ho0).2.2 (ay ho0).2.1 (bB amq.1 hb) (Below.refl w.heap.size w) ?_; clear bD HR1 HR2 amq HB; intro HW bD HR1 HR2 HR3 HC3 amq HB; clear hb ho0) | ((with_reducible refine aC (N := 2) rfl ?_); refine dN (cs := #[.int .i64 ah, .int .i64 af, .slice aK ae.length aJ]) (t := 30) ?_; intro aXH hg w7 hbox hb; refine mJ HB.1 hg hbox hb ?_; clear HB; intro HB amq bfB bfC; clear hb hbox hg; obtain ⟨hczb_0, hczb_1, hczb_2, hfzb_0, hfzb_1, hfzb_2⟩ := gB amq.1) | ((with_reducible refine aC (N := 20) rfl ?_); refine am5 (Kd.slice 3 (Kd.int .i64)) _ 38 rfl (N := 20) rfl 60 _ _ rfl (l1.length : Int) rfl rfl Try.underlying60 (.slice none 0 0) 24 Ab rfl (by decide) (by omega) [] (ok := fun _ => True) (okp := fun _ => True) ⟨_, rfl, tO _ _ _ _ _⟩ (fun _ hk => hk) trivial (OD) (Nat.le_trans (Nat.mul_le_mul_right _ (OD : (l1.length : Int).toNat <= 11728124029610)) (by omega)) (Below.refl _ _) (Nat.le_refl _) ?_; intro aQh w8 ho9 hb hg_ hnew_; clear hg_ hnew_; (first | rw [<- a4b.1] at ho9 | (simp only [Int.reduceToNat] at ho9; rw [<- a4b.1] at ho9)); refine E3 (lN ho9 (bZ HB.1)) (bB amq.1 hb) (bS HB.1 hb) ?_; clear amq HB; intro axg amq HB; clear hb ho9))
 go_loopg [23] k (fun kq v23 w' => ∃ (qa : List (List Int)) (jv : Int), v23 = .int .i64 jv /\ aa (az.l0 kq l2 l3 qa l1 (l1.length : Int) jv ah af ae = some r) /\ aa (kq <= k) /\ aa (Kd.S (Kd.slice 3 (Kd.int .i64)) 38 w' w.heap.size (fun _ => True) aQh qa) /\ aa (w'.heap[aXH]? = some (.cells #[.int .i64 ah, .int .i64 af, (.slice aK ae.length aJ)] 30 (0, 0))) /\ aa (Below w.heap.size w w'))
 case atStart => exact ⟨(bc5), (0), RG, H', ⟨Nat.le_refl _⟩, ⟨PS axg.1⟩, ⟨PB amq.1⟩, ⟨BL HB.1⟩⟩
 clear H'
 try clear c1; try clear c2; try clear c3; clear c5b0 c5b1 c6b0 c6b1
 obtain ⟨qa, jv, rfl, HA, iB, HO_7, amq, HB⟩ := hrel
 cases gk with
 | zero => exact absurd HA.1 (by simp [az.l0])
 | succ k1 => ?_
 have H := HA.1
 clear HA
 simp only [az.l0] at H
 replace H := pu H; rcases H with ⟨c10b0, H⟩ | ⟨c10b0, H⟩
 · replace H := ji H; obtain ⟨c11b0, H⟩ := H
   replace H := ji H; obtain ⟨c12b0, H⟩ := H
   obtain ⟨pY, yc⟩ : ∃ j_ : Int, (shl .i64 1 (l2.length : Int)) = j_ := ⟨_, rfl⟩
   replace H : (if 0 <= (pY) then (if (pY : Int).toNat <= 35184372088832 then (if jv < (qa.length : Int) then ((some (qa.set (jv : Int).toNat (List.replicate (pY : Int).toNat 0) : List (List Int))).bind fun aS7 => (az.l1 k1 l2 l3 aS7 jv (rd l1 jv) l1 (l1.length : Int) jv ((aT aS7 jv).length : Int) 0 ah af ae)) else (none)) else (none)) else (none)) = some r := by first | (rw [yc] at H; exact H) | (simp only [yc] at H ⊢; exact H)
   have OV : (IntKind.i64.wrap (1 * 2 ^ min (l2.length : Int).toNat 64)) = pY := yc
   have hji13z : (l2.length : Int) <= 64 -> (IntKind.i64.wrap (1 * 2 ^ (l2.length : Int).toNat)) = pY := CO yc
   have hji13p : (IntKind.i64.wrap (1 * 2 ^ min l2.length 64)) = pY := OV
   have hji13q : (l2.length : Int) <= 64 -> (IntKind.i64.wrap (1 * 2 ^ l2.length)) = pY := hji13z
   have hji13r : (IntKind.i64.wrap (2 ^ min l2.length 64)) = pY := by have h_ := hji13p; rw [Int.one_mul] at h_; exact h_
   have hji13s : (l2.length : Int) <= 64 -> (IntKind.i64.wrap (2 ^ l2.length)) = pY := fun hle_ => by have h_ := hji13q hle_; rw [Int.one_mul] at h_; exact h_
   have hji13u : (IntKind.i64.wrap (2 ^ min (l2.length : Int).toNat 64)) = pY := by have h_ := OV; rw [Int.one_mul] at h_; exact h_
   have hji13v : (l2.length : Int) <= 64 -> (IntKind.i64.wrap (2 ^ (l2.length : Int).toNat)) = pY := fun hle_ => by have h_ := hji13z hle_; rw [Int.one_mul] at h_; exact h_
   have hji13y : (wrap64 (1 * 2 ^ min (l2.length : Int).toNat 64)) = pY := (cz _).symm.trans OV
   have hji13x : (l2.length : Int) <= 64 -> (wrap64 (1 * 2 ^ (l2.length : Int).toNat)) = pY := fun h_ => (cz _).symm.trans (hji13z h_)
   replace H := oC H; obtain ⟨c14, H⟩ := H
   have c14b0 := eq_true c14
   have c14b1 := decide_eq_true c14
   clear c14
   replace H := oC H; obtain ⟨c15, H⟩ := H
   have c15b0 := eq_true c15
   have c15b1 := decide_eq_true c15
   clear c15
   generalize a4c : ((List.replicate (pY : Int).toNat 0) : List Int) = aZY at H
   have a4d := aa.mk a4c.symm; clear a4c
   replace H := ji H; obtain ⟨c16b0, H⟩ := H
   replace H := nR H; obtain ⟨aS7, a4e, H⟩ := H
   have H' := aa.mk H
   clear H
   have a1r : 0 <= (jv : Int) := OD
   have a1s : jv < (l1.length : Int) := OD
   obtain ⟨bfD, bc6, aTy⟩ := Kd.dx HR1.1 jv a1r a1s
   cases bc6
   replace aTy := (HB.1.cell (World.block_lt_of_cell? w _ aTy)).trans aTy
   replace a1r := eq_true a1r
   replace a1s := eq_true a1s
   go_wp2_with (first | ((with_reducible refine aC (N := 33) rfl ?_); refine yH (Kd.int .i64) _ 3 rfl (N := 33) rfl 38 _ _ rfl pY rfl rfl Try.underlying38 (.int .i64 0) 8 info3 rfl (by decide) (by omega) 0 (ok := fun _ => True) (okp := fun _ => True) rfl (fun _ hk => hk) trivial (OD) (Nat.le_trans (Nat.mul_le_mul_right _ (OD : pY.toNat <= 35184372088832)) (by omega)) (Below.refl _ _) (Nat.le_refl _) ?_; intro bhU w18 Zj hb hg_ hnew_; clear hg_ hnew_; (first | rw [<- a4d.1] at Zj | (simp only [Int.reduceToNat] at Zj; rw [<- a4d.1] at Zj)); refine E4 (kW (PS HO_7.1) (fe Zj) hb) (bN Zj (bZ HB.1)) (bB amq.1 hb) (bS HB.1 hb) ?_; clear HO_7 amq HB; intro HO_7 aXI amq HB; clear hb Zj; obtain ⟨aXJ, aXK, a_J⟩ := bv aXI.1; subst a_J; have p17 : 0 <= (jv : Int) := OD; have q17 : (jv : Int) < ((qa.length : Int) : Int) := OD; obtain ⟨Jj, Ja, Jb, ax2, aHo, aQJ, ax3⟩ := Ol HO_7.1 (by omega); (first | cases Jb | (injection Jb with ea_ en_ ec_; (first | subst ea_ | (injection ea_ with ea_; subst ea_)); subst ec_; clear en_)); have aHp := aa.mk ax2; have aQK := aa.mk ax3; clear ax2 aHo ax3; obtain ⟨_, aQL, ax4, ax5, alx, aly, _, _⟩ := KN HO_7.1 [] (jv : Int) p17 q17; obtain ⟨aHq, rfl, aHr⟩ := ax5; have adu := alx 0 _ rfl; have ap0 := aly 0; (try simp only [show ((Kd.slice 3 (Kd.int .i64))).sz = 1 from rfl, Nat.mul_one, Nat.add_zero] at adu); (try simp only [show ((Kd.slice 3 (Kd.int .i64))).sz = 1 from rfl, Nat.mul_one, Nat.add_zero] at ap0); (try clear ax5); clear ax4 alx aly; replace p17 := eq_true p17; replace q17 := eq_true q17; have n_ := aa.mk (eY (ok' := (fun k_ => some k_ ≠ ((.slice aXJ aZY.length aXK) : Value).ownBlock)) HO_7.1 (fun k_ hk => hk.2)); clear HO_7; have HO_7 := n_; clear n_; have aHs := aa.mk (show Kd.S (Kd.slice 3 (Kd.int .i64)) 38 w18 w.heap.size (fun k_ => ((fun _ => True)) k_ /\ ¬ ((fun k_ => some k_ = ((.slice aXJ aZY.length aXK) : Value).ownBlock)) k_) (.slice (some ⟨Jj, 0, none⟩) qa.length Ja) qa from (ES (eY HO_7.1 (fun k_ hk => ⟨trivial, fun e_ => hk e_⟩)))); obtain ⟨aMP, aQM, ax6, aHt, alz, alA, hoki20, ax7⟩ := KN aHs.1 [] (jv : Int) (OD) (by have h_ : (jv : Int) < ((qa.length : Int) : Int) := OD; first | exact h_ | (have e_ := (fJ HO_7.1).1; omega) | simpa using h_); obtain ⟨aHu, rfl, aHv⟩ := aHt; have ahh := aip ax7 (OD) (by have h_ : (jv : Int) < ((qa.length : Int) : Int) := OD; first | exact h_ | (have e_ := (fJ HO_7.1).1; omega) | simpa using h_) (seg := [(.slice aXJ aZY.length aXK)]) (j := 0) (show 1 <= 1 from by decide) (x' := aZY) (BC (aG (jR rfl (aG (ok' := fun k_ => ((fun _ => True)) k_ /\ k_ ≠ Jj) (eH (aXI.1) (jW HO_7.1) (by decide)) (fun k_ hk => ⟨trivial, fun e_ => (hk.2) (by rw [e_]; rfl)⟩))) (fun _ h_ => Or.inr (h_)))) (fun _ hk => hk) (fun k_ hk_ => ((aG (ok' := fun k_ => ((fun _ => True)) k_ /\ k_ ≠ Jj) (eH (aXI.1) (jW HO_7.1) (by decide)) (fun k_ hk => ⟨trivial, fun e_ => (hk.2) (by rw [e_]; rfl)⟩))).1 k_ hk_.symm); have adv := alz 0 _ rfl; (try simp only [show ((Kd.slice 3 (Kd.int .i64))).sz = 1 from rfl, Nat.mul_one, Nat.add_zero] at adv); have ap1 := alA 0; (try simp only [show ((Kd.slice 3 (Kd.int .i64))).sz = 1 from rfl, Nat.mul_one, Nat.add_zero] at ap1); clear ax6 alz alA hoki20 ax7; (try simp only [show ((Kd.slice 3 (Kd.int .i64))).sz = 1 from rfl, Nat.mul_one, Nat.add_zero] at ahh)) | ((with_reducible refine gK (t := 38) (p := 34) rfl ?_); refine lX (t := 38) (p := 34) (w1 := (w18.setCell ⟨Jj, (jv : Int).toNat, none⟩ ((.slice aXJ aZY.length aXK)))) ?_; intro Qo hw; have hg : w18.grownBy Qo (some Jj) := (by rw [hw]; exact ahh.2); have hp_ : Kd.S (Kd.slice 3 (Kd.int .i64)) 38 Qo w.heap.size (fun _ => True) (.slice (some ⟨Jj, 0, none⟩) qa.length Ja) aS7 := (by rw [hw, a4e.1]; exact ahh.1); clear ahh; refine E3 (hp_) (bG amq.1 hg (xe HO_7.1 amq.1 (by decide))) ((by rw [hw]; exact il (HB.1) aHp.1 : Below w.heap.size w Qo)) ?_; clear HO_7 amq HB aXI; intro HO_7 amq HB; clear hg hw hp_; have aZZ : 0 <= (jv : Int) := OD; have aZ0 : jv < (aS7.length : Int) := (by have h_ : (jv : Int) < ((qa.length : Int) : Int) := OD; first | (have e_ := (fJ HO_7.1).1; omega) | simpa only [a4e.1, List.length_set] using h_); have bfE : ((jv : Int) < ((qa.length : Int) : Int)) = True := eq_true (OD); obtain ⟨a_K, bc7, bc8, bc9, aRE, aXL, aXM⟩ := tT (fJ HO_7.1).2.2 jv aZZ aZ0; obtain rfl : (⟨Jj, 0, none⟩ : Addr) = a_K := (by injection bc9); obtain ⟨bfF, a6y, a6z, aZ1⟩ := BF HO_7.1 [] jv aZZ (by first | exact aZ0 | exact OD | (have e_ := (fJ HO_7.1).1; omega)); obtain ⟨baR, rfl, aVh⟩ := a6z; have aSF := aZ1 0 _ rfl; rw [Nat.add_zero, show ((Kd.slice 3 (Kd.int .i64))).sz = 1 from rfl, Nat.mul_one] at aSF; replace aSF := Option.some.inj (aSF.symm.trans aRE); rw [aSF] at aVh; have baS := aa.mk (show Kd.R (Kd.int .i64) 3 _ _ _ _ (aT aS7 jv) from aVh); clear aSF aVh; have baT := aa.mk aRE; clear aZ1 a6y; (first | simp only [add_plain] at aRE | simp only [uh] at aRE | simp only [Addr.add, Nat.zero_add] at aRE | skip); have baU := aa.mk aXM; have baV := aa.mk aXL; clear aXM aXL; replace aZZ := eq_true aZZ; replace aZ0 := eq_true aZ0))
   go_loopg [40] k1 (fun kq v40 w' => ∃ (lF : List (List Int)) (zG : Int), v40 = .int .i64 zG /\ aa (az.l1 kq l2 l3 lF jv (rd l1 jv) l1 (l1.length : Int) jv ((aT aS7 jv).length : Int) zG ah af ae = some r) /\ aa (kq <= k1) /\ aa (Kd.S (Kd.slice 3 (Kd.int .i64)) 38 w' w.heap.size (fun _ => True) (.slice (some ⟨Jj, 0, none⟩) qa.length Ja) lF) /\ aa (w'.heap[aXH]? = some (.cells #[.int .i64 ah, .int .i64 af, (.slice aK ae.length aJ)] 30 (0, 0))) /\ aa (Below w.heap.size w w'))
   case atStart => exact ⟨(aS7), (0), RG, H', ⟨Nat.le_refl _⟩, ⟨PS HO_7.1⟩, ⟨PB amq.1⟩, ⟨BL HB.1⟩⟩
   clear H'
   try clear p17; try clear q17; try clear adu; try clear adv; try clear aTy; try clear aRE; try clear a1r; try clear aZZ; try clear a1s; try clear aZ0; clear c10b0 c11b0 c12b0 c14b0 c14b1 c15b0 c15b1 c16b0
   obtain ⟨lF, zG, rfl, HA, nG, HO_7, amq, HB⟩ := hrel
   have tC := (fJ HO_7.1).1
   rw [tC] at HO_7
   (try simp only [tC])
   (try simp only [tC] at amq)
   cases gk with
   | zero => exact absurd HA.1 (by simp [az.l1])
   | succ k2 => ?_
   have H := HA.1
   clear HA
   simp only [az.l1] at H
   replace H := pu H; rcases H with ⟨c22b0, H⟩ | ⟨c22b0, H⟩
   · replace H := dz H; obtain ⟨⟨aSG, aSZ, aRI⟩, A23, H⟩ := H
     dsimp only at H
     replace H := dz H; obtain ⟨aVS, A24, H⟩ := H
     replace H := dz H; obtain ⟨a1o, A25, H⟩ := H
     replace H := dz H; obtain ⟨⟨bda, bdb, bdc, bdd, aTU⟩, A26, H⟩ := H
     dsimp only at H
     replace H := oC H; obtain ⟨SE, H⟩ := H
     have c27b0 := eq_true SE
     have c27b1 := decide_eq_true SE
     clear SE
     replace H := oC H; obtain ⟨c28, H⟩ := H
     have c28b0 := eq_true c28
     have c28b1 := decide_eq_true c28
     clear c28
     generalize alh : ((List.replicate ((l2.length : Int) : Int).toNat 0) : List Int) = axz at H
     have axA := aa.mk alh.symm; clear alh
     have H' := aa.mk H
     clear H
     obtain ⟨Xp, Xq, Xr, Xt, Xu, Xv⟩ := gB amq.1
     try go_wp2_with (first | ((with_reducible refine aA (f := 75) rfl ?_); refine cK (N := (some 44)) #[.agg #[.int .i64 ah, .int .i64 af, .slice aK ae.length aJ]] Try.func75 ?_; (with_reducible refine (fM.calls ah af _ _ ae aSG aSZ aRI _ ?side1 ?side2 A23.1).mono ?_); (case side1 => exact CB (aY bD.1 HB.1)); (case side2 => exact cO.1); rintro e w30 ⟨bhY, rfl, ho0, hb⟩; refine ⟨_, rfl, ?_⟩; refine E4 (sB HO_7.1 hb) (bN ho0 (bZ HB.1)) (bB amq.1 hb) (bS HB.1 hb) ?_; clear HO_7 amq HB; intro HO_7 arx amq HB; (try clear hb); (try clear ho0)) | ((with_reducible refine aC (N := 11) rfl ?_); refine dN (cs := #[.int .i64 0, .int .i64 0, .slice none 0 0]) (t := 30) ?_; intro aEL hg w31 hbox hb; refine E9 (sB HO_7.1 hb) (rB arx.1 hb) (bB amq.1 hb) (bS HB.1 hb) (hbox) (gX HB.1 hg) (gX HB.1 hg) (nB amq.1 hg) (nC amq.1 hg) ?_; clear HO_7 arx amq HB; intro HO_7 arx amq HB aq9 bfG bfH aRF aYw; clear hb hbox hg; have aMU := aYw.1; have aMV := aRF.1; obtain ⟨Cu, Cv, Fp, Cw, Cx, Fq⟩ := gB aq9.1; obtain ⟨qA, qw, Z7⟩ := bv arx.1; subst Z7))
     have n_ : (fun Qi : World => (Kd.S (Kd.slice 3 (Kd.int .i64)) 38 Qi w.heap.size (fun _ => True) (.slice (some ⟨Jj, 0, none⟩) lF.length Ja) lF) /\ (Kd.R jZ 83 Qi w.heap.size (fun _ => True) (.slice qA aRI.length qw) aRI) /\ (Qi.heap[aXH]? = some (.cells #[.int .i64 ah, .int .i64 af, .slice aK ae.length aJ] 30 (0, 0))) /\ (Qi.heap[aEL]? = some (.cells #[.int .i64 aSG, .int .i64 aSZ, .slice qA aRI.length qw] 30 (0, 0))) /\ (Below w.heap.size w Qi)) (((w31.setCell ⟨aEL, 0, none⟩ (.int .i64 aSG)).setCell ⟨aEL, 1, none⟩ (.int .i64 aSZ)).setCell ⟨aEL, 2, none⟩ (.slice qA aRI.length qw)) := ⟨by (with_reducible repeat (first | apply jF | apply jG | apply iV)); exact eY (SQ aEL 2 (SQ aEL 1 (SQ aEL 0 (kG HO_7.1 aq9.1 (by decide)) _) _) _) (fun _ hk => trivial), by (with_reducible repeat (first | apply aV | apply aW | apply aQ)); exact aG (RQ aEL 2 (RQ aEL 1 (RQ aEL 0 (bz arx.1 aq9.1 (by decide)) _) _) _) (fun _ hk => trivial), by (with_reducible repeat (first | refine ak ?_ _ | refine ag ?_ | refine au ?_ _)); refine bu ?_ aRF.1 _; (with_reducible repeat (first | refine ak ?_ _ | refine ag ?_ | refine au ?_ _)); refine bu ?_ aRF.1 _; (with_reducible repeat (first | refine ak ?_ _ | refine ag ?_ | refine au ?_ _)); refine bu ?_ aRF.1 _; (with_reducible repeat (first | refine ak ?_ _ | refine ag ?_ | refine au ?_ _)); exact amq.1, by (with_reducible repeat (first | refine ak ?_ _ | refine ag ?_ | refine au ?_ _)); refine gy (cs := #[.int .i64 aSG, .int .i64 aSZ, .slice none 0 0]) ?_ 2 _ rfl; (with_reducible repeat (first | refine ak ?_ _ | refine ag ?_ | refine au ?_ _)); refine gy (cs := #[.int .i64 aSG, .int .i64 0, .slice none 0 0]) ?_ 1 _ rfl; (with_reducible repeat (first | refine ak ?_ _ | refine ag ?_ | refine au ?_ _)); refine gy (cs := #[.int .i64 0, .int .i64 0, .slice none 0 0]) ?_ 0 _ rfl; (with_reducible repeat (first | refine ak ?_ _ | refine ag ?_ | refine au ?_ _)); exact aq9.1, BL HB.1⟩
     (try clear HO_7)
     (try clear arx)
     (try clear amq)
     (try clear aq9)
     (try clear HB)
     generalize (((w31.setCell ⟨aEL, 0, none⟩ (.int .i64 aSG)).setCell ⟨aEL, 1, none⟩ (.int .i64 aSZ)).setCell ⟨aEL, 2, none⟩ (.slice qA aRI.length qw)) = Qi at n_ ⊢
     obtain ⟨qG, qH, qi, qI, qJ⟩ := n_
     refine E5 qG qH qi qI qJ ?_
     clear qG qH qi qI qJ
     intro HO_7 arx amq aq9 HB
     refine E5 (iV HO_7.1) (aQ arx.1) (ag amq.1) (ag aq9.1) (dm HB.1) ?_
     clear HO_7 arx amq aq9 HB
     intro HO_7 arx amq aq9 HB
     refine jN (n := 7) (S := fun w' => w'.cell? ⟨aEL, 0, none⟩ = some (.int .i64 aSG) /\ w'.cell? ⟨aEL, 1, none⟩ = some (.int .i64 aSZ) /\ w'.cell? ⟨aEL, 2, none⟩ = some (.slice qA aRI.length qw)) (ds := []) #[Zz,Zz,Zz,Zz,Zz,Zz,Zz] (by kernel_rfl) rfl rfl ⟨(ai aq9.1 0).trans rfl, (ai aq9.1 1).trans rfl, (ai aq9.1 2).trans rfl⟩ (fun hHeld => ?_)
     generalize Qi.drew = w36 at HO_7 arx amq aq9 HB hHeld ⊢
     refine ll (i := 1) (N := some 46) (v := ?_) (a' := ?_) #[Zz,Yy,Zz,Zz,Zz,Zz,Zz] rfl rfl (by kernel_rfl) (fun _ _ _ h => h) (Or.inl ⟨by rfl, ?_⟩) ?_ ?_
     rotate_left
     · intro w'
       go_simp
       with_reducible rfl
     rotate_left
     · simp only [Act.put, List.setIfInBounds_toArray, List.set_cons_zero, List.set_cons_succ, cz, dF]
       rfl
     refine ll (i := 2) (N := some 47) (v := ?_) (a' := ?_) #[Zz,Yy,Yy,Zz,Zz,Zz,Zz] rfl rfl (by kernel_rfl) (fun _ _ _ h => h) (Or.inl ⟨by rfl, ?_⟩) ?_ ?_
     rotate_left
     · intro w'
       go_simp
       with_reducible rfl
     rotate_left
     · simp only [Act.put, List.setIfInBounds_toArray, List.set_cons_zero, List.set_cons_succ, cz, dF]
       rfl
     refine ll (i := 3) (N := some 48) (v := ?_) (a' := ?_) #[Zz,Yy,Yy,Yy,Zz,Zz,Zz] rfl rfl (by kernel_rfl) (fun _ _ _ h => h) (Or.inl ⟨by rfl, ?_⟩) ?_ ?_
     rotate_left
     · intro w'
       go_simp
       with_reducible rfl
     rotate_left
     · simp only [Act.put, List.setIfInBounds_toArray, List.set_cons_zero, List.set_cons_succ, cz, dF]
       rfl
     refine ll (i := 4) (N := some 49) (v := ?_) (a' := ?_) #[Zz,Yy,Yy,Yy,Yy,Zz,Zz] rfl rfl (by kernel_rfl) (fun _ _ _ h => h) (Or.inl ⟨by rfl, ?_⟩) ?_ ?_
     rotate_left
     · intro w'
       go_simp
       with_reducible rfl
     rotate_left
     · simp only [Act.put, List.setIfInBounds_toArray, List.set_cons_zero, List.set_cons_succ, cz, dF]
       rfl
     refine xQ 0 (N := some 45) hHeld ?_
     refine mV (i := 5) (N := some 50) #[Yy,Yy,Yy,Yy,Yy,Yy,Zz] rfl rfl (by kernel_rfl) (by decide) (fun K hK => ?_)
     refine nA Try.func77 (by kernel_rfl) rfl #[.int .i64 zG, .int .i64 (l2.length : Int)] (by rfl) rfl rfl (by (try simp only [List.map_toArray, List.map_cons, List.map_nil]); first | done | rfl | (simp only [List.length_drop, List.length_take]; rfl)) ?_
     with_reducible refine (dA.calls k2 zG (l2.length : Int) aVS _ A24.1).mono ?_
     rintro e Mw ⟨bhZ, rfl, ho0, hb⟩
     refine ⟨_, rfl, ?_⟩
     refine E6 (kW (PS HO_7.1) (fe ho0) hb) (rB arx.1 hb) (bN ho0 (bZ HB.1)) (bB amq.1 hb) (bB aq9.1 hb) (bS HB.1 hb) ?_
     clear HO_7 arx amq aq9 HB
     intro HO_7 arx aKG amq aq9 HB
     (try clear hb)
     (try clear hb2)
     (try clear hk)
     (try clear hi)
     (try clear ho0)
     obtain ⟨X3, X4, aer⟩ := bv aKG.1
     (first | subst aer | (injection aer with rY zZ rZ; have z8 := rY.symm; have Aa := rZ.symm; clear rY zZ rZ; subst z8; subst Aa))
     refine hK.out _ _ ⟨(ai aq9.1 0).trans rfl, (ai aq9.1 1).trans rfl, (ai aq9.1 2).trans rfl⟩ (fun hHeld => ?_)
     clear hK K
     refine eX (a' := ?_) ?_ ?_
     rotate_left
     · show Act.put _ (some 50) _ = _
       simp only [Act.put, List.setIfInBounds_toArray, List.set_cons_zero, List.set_cons_succ, cz, dF]
       rfl
     refine mV (i := 6) (N := some 51) #[Yy,Yy,Yy,Yy,Yy,Yy,Yy] rfl rfl (by kernel_rfl) (by decide) (fun K hK => ?_)
     refine nA Try.func76 (by kernel_rfl) rfl #[.agg #[.int .i64 aSG, .int .i64 aSZ, .slice qA aRI.length qw], .slice A2 l2.length c2, .slice X3 aVS.length X4] (by rfl) rfl rfl (by (try simp only [List.map_toArray, List.map_cons, List.map_nil]); first | done | rfl | (simp only [List.length_drop, List.length_take]; rfl)) ?_
     with_reducible refine (aM.calls k2 aSG aSZ (fun k_ => some k_ = (.slice qA aRI.length qw : Value).ownBlock) (.slice qA aRI.length qw) aRI _ _ l2 _ _ aVS a1o w _ ?side1 ?side2 ?side3 ?side4 ?side5 ?side6 A25.1).mono ?_
     (case side1 => exact BL HB.1)
     (case side2 => exact jR rfl arx.1)
     (case side3 => exact xV (Kd.Tv 3 (Kd.uU .i64)) HR2.1 (BL HB.1) (fun k_ hs_ => (fun e_ => fe arx.1 k_ e_.symm) hs_))
     (case side4 => exact HC2.1)
     (case side5 => exact qW ((eH aKG.1 (dY arx.1) (by decide))) (fun k_ hk_ hs_ => (hk_.2) hs_))
     (case side6 => exact (ay aKG.1).2.1)
     rintro e w39 ⟨rfl, hy0, hb, hkp⟩
     refine ⟨_, rfl, ?_⟩
     refine E6 (eY (ok' := fun k_ => some k_ ≠ (.slice X3 aVS.length X4 : Value).ownBlock) (wE ((qC HO_7.1 (dY arx.1) (by decide))) hkp (fun k_ hk_ hs_ => (hk_.2) hs_)) (fun k_ hk_ => hk_.1.1.2)) (eQ (PB amq.1) hkp (fun hs_ => (fun e_ => (dK arx.1 amq.1 (by decide)) e_) hs_)) (qp rfl hy0 (fun k_ e_ => arx.1.1 k_ e_)) (eQ (PB aq9.1) hkp (fun hs_ => (fun e_ => (dK arx.1 aq9.1 (by decide)) e_) hs_)) (aG (ok' := fun k_ => True) (jV ((eH aKG.1 (dY arx.1) (by decide))) hkp (fun k_ hk_ hs_ => (hk_.2) hs_)) (fun k_ hk_ => trivial)) (hb) ?_
     clear HO_7 amq arx aq9 aKG HB
     intro HO_7 amq arx aq9 aKG HB
     (try clear hb)
     (try clear hkp)
     (try clear hy0)
     refine hK.out _ _ ⟨(ai aq9.1 0).trans rfl, (ai aq9.1 1).trans rfl, (ai aq9.1 2).trans rfl⟩ (fun hHeld => ?_)
     clear hK K
     refine eX (a' := ?_) ?_ ?_
     rotate_left
     · show Act.put _ (some 51) _ = _
       simp only [Act.put, List.setIfInBounds_toArray, List.set_cons_zero, List.set_cons_succ, cz, dF]
       rfl
     refine lI (by kernel_rfl) ?_
     obtain ⟨JF, JG, ahi, JH, JI, ahj⟩ := gB aq9.1
     try go_wp2_with (first | ((with_reducible refine aA (f := 78) rfl ?_); refine cK (N := (some 55)) #[.agg #[.int .i64 aSG, .int .i64 aSZ, .slice qA aRI.length qw], .slice A3 l3.length c3, .int .i64 (rd l1 jv)] Try.func78 ?_; (with_reducible refine (cZ.calls k2 aSG aSZ (fun k_ => some k_ = (.slice qA aRI.length qw : Value).ownBlock) (.slice qA aRI.length qw) a1o _ _ l3 (rd l1 jv) bda bdb bdc bdd aTU w _ ?side1 ?side2 ?side3 ?side4 A26.1).mono ?_); (case side1 => exact BL HB.1); (case side2 => exact jR rfl arx.1); (case side3 => exact xV (Kd.uU .i64) HR3.1 (BL HB.1) (fun k_ hs_ => (fun e_ => fe arx.1 k_ e_.symm) hs_)); (case side4 => exact HC3.1); rintro e MG ⟨a_L, rfl, ho0, hy0, hb, hkp⟩; refine ⟨_, rfl, ?_⟩; refine E7 (eY (ok' := fun k_ => some k_ ≠ (.slice X3 aVS.length X4 : Value).ownBlock /\ some k_ ≠ (a_L : Value).ownBlock) (wE ((qC HO_7.1 (dY arx.1) (by decide))) hkp (fun k_ hk_ hs_ => (hk_.2) hs_)) (fun k_ hk_ => ⟨hk_.1.1, fun e_ => Or.elim (ho0.1 k_ e_.symm) (fun hs_ => hk_.2.1 hs_) (fun hn_ => Nat.not_le.2 hk_.2.2 hn_)⟩)) (eQ (PB amq.1) hkp (fun hs_ => (fun e_ => (dK arx.1 amq.1 (by decide)) e_) hs_)) (qp rfl hy0 (fun k_ e_ => arx.1.1 k_ e_)) (eQ (PB aq9.1) hkp (fun hs_ => (fun e_ => (dK arx.1 aq9.1 (by decide)) e_) hs_)) (aG (ok' := fun k_ => some k_ ≠ (a_L : Value).ownBlock) (jV ((eH aKG.1 (dY arx.1) (by decide))) hkp (fun k_ hk_ hs_ => (hk_.2) hs_)) (fun k_ hk_ => fun e_ => Or.elim (ho0.1 k_ e_.symm) (fun hs_ => hk_.2.1 hs_) (fun hn_ => Nat.not_le.2 hk_.2.2 hn_))) (aG (ok' := fun k_ => some k_ ≠ (.slice X3 aVS.length X4 : Value).ownBlock) ho0 (fun k_ hk_ => Or.elim hk_ (fun hs_ => fun e_ => ((((eH aKG.1 (dY arx.1) (by decide))).1 k_ e_.symm).2) hs_) (fun hn_ => (Kd.kX (iL (PR aKG.1)) k_ hn_)))) (hb) ?_; clear HO_7 amq arx aq9 aKG HB; intro HO_7 amq arx aq9 aKG aXN HB; (try clear hb); (try clear hkp); (try clear ho0); (try clear hy0)) | ((with_reducible refine aC (N := 58) rfl ?_); refine yH (Kd.int .i64) _ 3 rfl (N := 58) rfl 38 _ _ rfl (l2.length : Int) rfl rfl Try.underlying38 (.int .i64 0) 8 info3 rfl (by decide) (by omega) 0 (ok := fun _ => True) (okp := fun _ => True) rfl (fun _ hk => hk) trivial (OD) (Nat.le_trans (Nat.mul_le_mul_right _ (OD : (l2.length : Int).toNat <= 35184372088832)) (by omega)) (Below.refl _ _) (Nat.le_refl _) ?_; intro a_M w42 Sc hb hg_ hnew_; clear hg_ hnew_; (first | rw [<- axA.1] at Sc | (simp only [Int.reduceToNat] at Sc; rw [<- axA.1] at Sc)); refine E8 (kW (PS HO_7.1) (fe Sc) hb) (rB arx.1 hb) (eT (PR aKG.1) (fe Sc) hb) (eT (PR aXN.1) (fe Sc) hb) (bN (iI (iI Sc (iL (PR aKG.1))) (iL (PR aXN.1))) (bZ HB.1)) (bB amq.1 hb) (bB aq9.1 hb) (bS HB.1 hb) ?_; clear HO_7 arx aKG aXN amq aq9 HB; intro HO_7 arx aKG aXN a_N amq aq9 HB; clear hb Sc))
     go_loopg [61] k2 (fun kq v61 w' => ∃ (LJ : List Int) (mG : Int), v61 = .int .i64 mG /\ aa (az.l2 kq l2 l3 lF jv (rd l1 jv) zG LJ l1 (l1.length : Int) jv ((aT aS7 jv).length : Int) zG (l2.length : Int) mG ah af ae aSG aSZ aTU = some r) /\ aa (kq <= k2) /\ aa (Kd.S (Kd.slice 3 (Kd.int .i64)) 38 w' w.heap.size (fun k_ => some k_ ≠ (a_M : Value).ownBlock) (.slice (some ⟨Jj, 0, none⟩) lF.length Ja) lF) /\ aa (Kd.R (Kd.int .i64) 3 w' w.heap.size (fun _ => True) a_M LJ) /\ aa (Kd.R jZ 83 w' w.heap.size (fun _ => True) (.slice qA aRI.length qw) aTU) /\ aa (w'.heap[aXH]? = some (.cells #[.int .i64 ah, .int .i64 af, (.slice aK ae.length aJ)] 30 (0, 0))) /\ aa (w'.heap[aEL]? = some (.cells #[.int .i64 aSG, .int .i64 aSZ, (.slice qA aRI.length qw)] 30 (0, 0))) /\ aa (Below w.heap.size w w'))
     case atStart => exact ⟨(axz), (0), RG, H', ⟨Nat.le_refl _⟩, ⟨by (try simp only [tC]); (with_reducible repeat (first | apply jF | apply jG | apply iV)); exact eY HO_7.1 (fun _ hk => hk.2)⟩, ⟨by (try simp only [tC]); (with_reducible repeat (first | apply aV | apply aW | apply aQ)); exact aG a_N.1 (fun _ hk => trivial)⟩, ⟨ER arx.1 tC⟩, ⟨Er amq.1 tC⟩, ⟨Er aq9.1 tC⟩, ⟨BL HB.1⟩⟩
     clear H'
     try clear c2; try clear c3; clear c22b0 c27b0 c27b1 c28b0 c28b1 Xp Xq Xr Cu Cv Fp JF JG ahi Xt Xu Xv Cw Cx Fq JH JI ahj
     obtain ⟨LJ, mG, rfl, HA, HK3, HO_7, HO_12, HO_577002, amq, aq9, HB⟩ := hrel
     have arp := (ay HO_577002.1).1
     rw [arp] at HO_577002
     (try simp only [arp])
     (try simp only [arp] at amq)
     (try simp only [arp] at aq9)
     (try simp only [arp] at HO_7)
     (try simp only [arp] at HO_12)
     cases gk with
     | zero => exact absurd HA.1 (by simp [az.l2])
     | succ k3 => ?_
     have H := HA.1
     clear HA
     simp only [az.l2] at H
     replace H := pu H; rcases H with ⟨c44b0, H⟩ | ⟨c44b0, H⟩
     · replace H := ji H; obtain ⟨c45b0, H⟩ := H
       replace H := ji H; obtain ⟨c46b0, H⟩ := H
       replace H := oC H; obtain ⟨c47, H⟩ := H
       have c47b0 := decide_eq_true c47
       have c47b1 : decide (0 < (aT l2 mG).length) = true := decide_eq_true (by omega)
       clear c47
       replace H := ji H; obtain ⟨c48b0, H⟩ := H
       replace H := ji H; obtain ⟨c49b0, H⟩ := H
       replace H := ji H; obtain ⟨c50b0, H⟩ := H
       generalize a4f : ((LJ.set (mG : Int).toNat ((aj aTU (rd (aT l2 mG) 0)).f1)) : List Int) = bde at H
       have a_O := aa.mk a4f.symm; clear a4f
       have H' := aa.mk H
       clear H
       try go_wp2
       refine E6 (iV HO_7.1) (aQ HO_12.1) (aQ HO_577002.1) (ag amq.1) (ag aq9.1) (dm HB.1) ?_
       clear HO_7 HO_12 HO_577002 amq aq9 HB
       intro HO_7 HO_12 HO_577002 amq aq9 HB
       have a6A : 0 <= (mG : Int) := OD
       have a6B : mG < (l2.length : Int) := OD
       obtain ⟨a_P, bdf, a6C, bdg, aSH, aXO, aXP⟩ := tT HR2.1 mG a6A a6B
       have aXQ := aSH
       cases bdg
       replace aSH := (HB.1.cell (World.block_lt_of_cell? w _ aSH)).trans aSH
       have aXR := aa.mk aXP
       have baW := aa.mk aXO
       clear aXP aXO
       replace a6A := eq_true a6A
       replace a6B := eq_true a6B
       have Lx : 0 <= (0 : Int) := (by omega)
       have LA : 0 < ((aT l2 mG).length : Int) := OD
       obtain ⟨xx, adk, uR⟩ := Kd.dx aXR.1 0 Lx LA
       have aSI := uR
       (try rw [show ((0 : Int)).toNat = 0 from rfl] at aSI)
       (try rw [show 0 * 1 = 0 from rfl] at aSI)
       (try rw [Addr.add_zero'] at aSI)
       cases adk
       have bfJ : (0 < (aT l2 mG).length) = True := eq_true (by omega)
       (try rw [show ((0 : Int)).toNat = 0 from rfl] at uR)
       (try rw [Addr.add_zero'] at uR)
       replace uR := (HB.1.cell (World.block_lt_of_cell? w _ uR)).trans uR
       replace Lx := eq_true Lx
       replace LA := eq_true LA
       have PE : 0 <= ((rd (aT l2 mG) 0) : Int) := OD
       have PG : (rd (aT l2 mG) 0) < (aTU.length : Int) := OD
       obtain ⟨LB, apQ, GN, aXS⟩ := iP (ay HO_577002.1).2.2 (rd (aT l2 mG) 0) PE PG
       cases apQ
       replace PE := eq_true PE
       replace PG := eq_true PG
       have p51 : 0 <= (mG : Int) := OD
       have q51 : (mG : Int) < ((LJ.length : Int) : Int) := OD
       obtain ⟨aqb, Yx, afc, aye, aHM, aQS, ayf⟩ := mQ HO_12.1 (by omega)
       (first | cases afc | (injection afc with ea_ en_ ec_; (first | subst ea_ | (injection ea_ with ea_; subst ea_)); subst ec_; clear en_))
       have aQT := aa.mk aye
       have ayg := aa.mk ayf
       clear aye aHM ayf
       obtain ⟨aqc, aqd⟩ := lC 0 HO_12.1 (mG : Int) p51 q51
       replace p51 := eq_true p51
       replace q51 := eq_true q51
       have K6 := am0 HO_12.1 (mG : Int) ((aj aTU (rd (aT l2 mG) 0)).f1)
       rw [<- a_O.1] at K6
       have ayh := aa.mk K6
       clear K6
       refine jN (n := 15) (S := fun w' => w'.cell? ⟨aEL, 0, none⟩ = some (.int .i64 aSG) /\ w'.cell? ⟨aEL, 1, none⟩ = some (.int .i64 aSZ) /\ w'.cell? ⟨aEL, 2, none⟩ = some (.slice (some LB) aTU.length qw) /\ w'.cell? (a_P.add (mG).toNat) = some (.slice (some xx) (aT l2 mG).length a6C) /\ w'.cell? xx = some (.int .i64 (rd (aT l2 mG) 0)) /\ w'.cell? (LB.add (((rd (aT l2 mG) 0)).toNat * 2)) = some (.int .i64 ((aj aTU (rd (aT l2 mG) 0)).f0)) /\ w'.cell? ⟨(LB.add (((rd (aT l2 mG) 0)).toNat * 2)).block, (LB.add (((rd (aT l2 mG) 0)).toNat * 2)).off + 1, none⟩ = some (.int .i64 ((aj aTU (rd (aT l2 mG) 0)).f1))) (ds := [14]) #[Zz,Zz,Zz,Zz,Zz,Zz,Zz,Zz,Zz,Zz,Zz,Zz,Zz,Zz,Zz] (by kernel_rfl) rfl rfl ⟨(ai aq9.1 0).trans rfl, (ai aq9.1 1).trans rfl, (ai aq9.1 2).trans rfl, ((HB.1.cell (World.block_lt_of_cell? w _ aXQ)).trans aXQ), ((HB.1.cell (World.block_lt_of_cell? w _ aSI)).trans aSI), GN, aXS⟩ (fun hHeld => ?_); refine iq az.aa8 az.bits18 (fun HT_ HW_ => ?_)
       generalize wr.drew = w52 at HO_7 HO_12 HO_577002 amq aq9 HB ayg ayh aXR aqd aqc aSH uR GN aXS hHeld ⊢
       refine aU 0 (N := some 64) HT_.1 ?_
       refine aU 1 (N := some 65) HT_.1 ?_
       refine aU 2 (N := some 66) HT_.1 ?_
       refine aU 4 (N := some 68) HT_.1 ?_
       refine aU 5 (N := some 69) HT_.1 ?_
       refine aU 6 (N := some 70) HT_.1 ?_
       refine gF 3 (N := some 67) HT_.1 HW_.1 hHeld ?_
       refine gF 7 (N := some 71) HT_.1 HW_.1 hHeld ?_
       refine aU 8 (N := some 72) HT_.1 ?_
       refine gF 9 (N := some 73) HT_.1 HW_.1 hHeld ?_
       refine aU 10 (N := some 74) HT_.1 ?_
       refine aU 11 (N := some 75) HT_.1 ?_
       refine gF 12 (N := some 76) HT_.1 HW_.1 hHeld ?_
       refine aU 13 (N := some 77) HT_.1 ?_
       refine BD (i := 14) (N := none) #[Yy,Yy,Yy,Yy,Yy,Yy,Yy,Yy,Yy,Yy,Yy,Yy,Yy,Yy,Yy] rfl rfl (jc HT_.1 (by kernel_rfl)) (by decide) (fun K hK => ?_)
       refine pF (w1 := ?_) (by rfl) rfl ?_ ?_
       rotate_left
       · go_simp
         rfl
       refine hK.out _ _ ?_
       clear hK K
       refine lI (jS HT_.1 (by kernel_rfl)) ?_
       try go_wp2
       (try simp only [<- arp])
       go_roundg k3
       case measure => have := iB.1; have := nG.1; have := HK3.1; omega
       case rel => exact ⟨(bde), (wrap64 (mG + 1)), RG, H', ⟨by have := iB.1; have := nG.1; have := HK3.1; omega⟩, ⟨by (try simp only [tC]); (try simp only [arp]); (with_reducible repeat (first | apply jF | apply jG | apply iV)); exact eY (xR (p := ⟨aqb, (mG : Int).toNat, none⟩) (eY HO_7.1 (fun k_ hk => (⟨hk, fun e_ => hk (by rw [e_]; rfl)⟩ : _ /\ k_ ≠ aqb))) (fun _ hk => hk.2) (.int .i64 ((aj aTU (rd (aT l2 mG) 0)).f1))) (fun _ hk => hk.1)⟩, ⟨MZ ayh.1 tC arp⟩, ⟨by (try simp only [tC]); (try simp only [arp]); (with_reducible repeat (first | apply aV | apply aW | apply aQ)); exact aG (mY (p := ⟨aqb, (mG : Int).toNat, none⟩) (bz HO_577002.1 ayg.1 (by decide)) (fun _ hk => hk.2) (.int .i64 ((aj aTU (rd (aT l2 mG) 0)).f1))) (fun _ hk => trivial)⟩, ⟨by (try simp only [tC]); (try simp only [arp]); (with_reducible repeat (first | refine ak ?_ _ | refine ag ?_ | refine au ?_ _)); refine bu ?_ (by have h_ := dK HO_12.1 amq.1 (by decide); intro e_; exact h_ (by rw [e_]; rfl)) _; (with_reducible repeat (first | refine ak ?_ _ | refine ag ?_ | refine au ?_ _)); exact amq.1⟩, ⟨by (try simp only [tC]); (try simp only [arp]); (with_reducible repeat (first | refine ak ?_ _ | refine ag ?_ | refine au ?_ _)); refine bu ?_ (by have h_ := dK HO_12.1 aq9.1 (by decide); intro e_; exact h_ (by rw [e_]; rfl)) _; (with_reducible repeat (first | refine ak ?_ _ | refine ag ?_ | refine au ?_ _)); exact aq9.1⟩, ⟨BL HB.1⟩⟩
     replace H := ji H; obtain ⟨c54b0, H⟩ := H
     replace H := ji H; obtain ⟨c55b0, H⟩ := H
     replace H := dz H; obtain ⟨aZX, A56, H⟩ := H
     replace H := ji H; obtain ⟨c57b0, H⟩ := H
     replace H := ji H; obtain ⟨c58b0, H⟩ := H
     generalize a4g : (((aT lF jv).set (zG : Int).toNat aZX) : List Int) = a_Q at H
     have a_R := aa.mk a4g.symm; clear a4g
     generalize alk : ((lF.set (jv : Int).toNat a_Q) : List (List Int)) = aG9 at H
     have alm := aa.mk alk.symm; clear alk
     have H' := aa.mk H
     clear H
     try go_wp2
     refine E6 (iV HO_7.1) (aQ HO_12.1) (aQ HO_577002.1) (ag amq.1) (ag aq9.1) (dm HB.1) ?_
     clear HO_7 HO_12 HO_577002 amq aq9 HB
     intro HO_7 HO_12 HO_577002 amq aq9 HB
     have apS : 0 <= (jv : Int) := OD
     have apT : jv < (lF.length : Int) := OD
     obtain ⟨axF, a6D, a6E, aG8, PK, aXT, aXU⟩ := tT (fJ HO_7.1).2.2 jv apS apT
     obtain rfl : (⟨Jj, 0, none⟩ : Addr) = axF := (by injection aG8)
     obtain ⟨bfK, a6F, a6G, aZ2⟩ := BF HO_7.1 [] jv apS (by first | exact apT | exact OD | (have e_ := (fJ HO_7.1).1; omega))
     obtain ⟨baX, rfl, aVi⟩ := a6G
     have aSJ := aZ2 0 _ rfl
     rw [Nat.add_zero, show ((Kd.slice 3 (Kd.int .i64))).sz = 1 from rfl, Nat.mul_one] at aSJ
     replace aSJ := Option.some.inj (aSJ.symm.trans PK)
     rw [aSJ] at aVi
     have aTz := aa.mk (show Kd.R (Kd.int .i64) 3 _ _ _ _ (aT lF jv) from aVi)
     clear aSJ aVi
     have aXV := aa.mk PK
     clear aZ2 a6F
     (first | simp only [add_plain] at PK | simp only [uh] at PK | simp only [Addr.add, Nat.zero_add] at PK | skip)
     have a1t := aa.mk aXU
     have baY := aa.mk aXT
     clear aXU aXT
     replace apS := eq_true apS
     replace apT := eq_true apT
     obtain ⟨aHP, aHQ, aym⟩ := bv HO_12.1
     (first | subst aym | (injection aym with rY zZ rZ; have z8 := rY.symm; have Aa := rZ.symm; clear rY zZ rZ; subst z8; subst Aa))
     refine jN (n := 9) (S := fun w' => w'.cell? ⟨Jj, (jv).toNat, none⟩ = some (.slice a6D (aT lF jv).length a6E)) (ds := [8]) #[Zz,Zz,Zz,Zz,Zz,Zz,Zz,Zz,Zz] (by kernel_rfl) rfl rfl (PK) (fun hHeld => ?_); refine iq az.axY az.bits20 (fun HT_ HW_ => ?_)
     generalize wr.drew = w60 at HO_7 HO_12 HO_577002 amq aq9 HB aTz a1t aXV PK hHeld ⊢
     refine aU 0 (N := some 79) HT_.1 ?_
     refine aU 1 (N := some 80) HT_.1 ?_
     refine aU 2 (N := some 81) HT_.1 ?_
     refine aU 4 (N := some 83) HT_.1 ?_
     refine aU 5 (N := some 84) HT_.1 ?_
     refine Qu (i := 3) (N := some 82) (v := ?_) (a' := ?_) #[Yy,Yy,Yy,Yy,Yy,Yy,Zz,Zz,Zz] rfl rfl (Qv HT_.1 HW_.1 (by kernel_rfl)) (fun _ _ _ h => h) (Or.inl ⟨by rfl, ?_⟩) hHeld ?_ ?_
     rotate_left
     · intro w' s0
       go_simp
       with_reducible rfl
     rotate_left
     · simp only [Act.put, List.setIfInBounds_toArray, List.set_cons_zero, List.set_cons_succ, cz, dF]
       rfl
     refine mV (i := 6) (N := some 85) #[Yy,Yy,Yy,Yy,Yy,Yy,Yy,Zz,Zz] rfl rfl (jc HT_.1 (by kernel_rfl)) (by decide) (fun K hK => ?_)
     refine nA Try.func49 (by kernel_rfl) rfl #[.slice aHP LJ.length aHQ] (by rfl) rfl rfl (by (try simp only [List.map_toArray, List.map_cons, List.map_nil]); first | done | rfl | (simp only [List.length_drop, List.length_take]; rfl)) ?_
     with_reducible refine (bC.calls k3 _ _ LJ aZX _ ?side1 ?side2 A56.1).mono ?_
     (case side1 => exact CB (ay HO_12.1).2.2)
     (case side2 => exact (ay HO_12.1).2.1)
     rintro e w' ⟨rfl, ⟨nd, rfl⟩⟩
     refine ⟨_, rfl, ?_⟩
     have p59 : 0 <= (zG : Int) := OD
     have q59 : (zG : Int) < (((aT lF jv).length : Int) : Int) := OD
     obtain ⟨aQV, aQW, ayn, ayo, aHR, aQX, ayp⟩ := mQ aTz.1 (by omega)
     (first | cases ayn | (injection ayn with ea_ en_ ec_; (first | subst ea_ | (injection ea_ with ea_; subst ea_)); subst ec_; clear en_))
     have aQY := aa.mk ayo
     have aQZ := aa.mk ayp
     clear ayo aHR ayp
     obtain ⟨aoY, aoZ⟩ := lC 0 aTz.1 (zG : Int) p59 q59
     replace p59 := eq_true p59
     replace q59 := eq_true q59
     have aHS : (jv : Int) < (lF.length : Int) := (by have h_ : (jv : Int) < ((lF.length : Int) : Int) := OD; first | exact h_ | (have e_ := (fJ HO_7.1).1; omega) | simpa only [List.length_set, List.length_set] using h_)
     obtain ⟨aMZ, aQ0, ayq, aHT, alH, ayr, alI⟩ := aax HO_7.1 [] (jv : Int) (OD) aHS
     obtain ⟨aHU, rfl, PT⟩ := aHT
     have ahn := alH 0 _ rfl
     rw [Nat.add_zero, show ((Kd.slice 3 (Kd.int .i64))).sz = 1 from rfl, Nat.mul_one] at ahn
     replace ahn := Option.some.inj (ahn.symm.trans aXV.1)
     subst ahn
     clear alH ayq
     replace PT := (show Kd.R (Kd.int .i64) 3 _ _ _ _ (aT lF jv) from PT)
     have aho := qV PT (zG : Int) aZX
     rw [<- a_R.1] at aho
     have aqi := alI aho.2 (fun k_ e_ => by injection e_ with e_; subst e_; exact PT.1 _ rfl) (x' := a_Q) (BC aho.1)
     rw [<- alm.1] at aqi
     have aHV := aa.mk aqi
     clear aho aqi alI ayr
     refine hK.out _ _ (hHeld) (fun hHeld => ?_)
     clear hK K
     refine eX (a' := ?_) ?_ ?_
     rotate_left
     · show Act.put _ (some 85) _ = _
       simp only [Act.put, List.setIfInBounds_toArray, List.set_cons_zero, List.set_cons_succ, cz, dF]
       rfl
     refine aU 7 (N := some 86) HT_.1 ?_
     refine BD (i := 8) (N := none) #[Yy,Yy,Yy,Yy,Yy,Yy,Yy,Yy,Yy] rfl rfl (jc HT_.1 (by kernel_rfl)) (by decide) (fun K hK => ?_)
     refine pF (w1 := ?_) (by rfl) rfl ?_ ?_
     rotate_left
     · go_simp
       rfl
     refine hK.out _ _ ?_
     clear hK K
     refine lI (jS HT_.1 (by kernel_rfl)) ?_
     try go_wp2
     (try simp only [<- tC, <- arp])
     go_roundg k3
     case measure => have := iB.1; have := nG.1; have := HK3.1; omega
     case rel => exact ⟨(aG9), (wrap64 (zG + 1)), RG, H', ⟨by have := iB.1; have := nG.1; have := HK3.1; omega⟩, ⟨by (try simp only [tC]); (try simp only [arp]); (with_reducible repeat (first | apply jF | apply jG | apply iV)); exact eY aHV.1 (fun _ hk => trivial)⟩, ⟨by (try simp only [tC]); (try simp only [arp]); (with_reducible repeat (first | refine ak ?_ _ | refine ag ?_ | refine au ?_ _)); refine bu ?_ (by have h_ := dK aTz.1 amq.1 (by decide); intro e_; exact h_ (by rw [e_]; rfl)) _; (with_reducible repeat (first | refine ak ?_ _ | refine ag ?_ | refine au ?_ _)); exact amq.1⟩, ⟨BL HB.1⟩⟩
   have H' := aa.mk H
   clear H
   go_wp2
   (try simp only [<- tC])
   go_roundg k2
   case measure => have := iB.1; have := nG.1; omega
   case rel => exact ⟨(lF), (wrap64 (jv + 1)), RG, H', ⟨by have := iB.1; have := nG.1; omega⟩, ⟨PS1 HO_7.1 tC⟩, ⟨Er amq.1 tC⟩, ⟨BL HB.1⟩⟩
 obtain rfl := Option.some.inj H
 go_wp2
 go_ret
 exact ⟨_, RF, lN (PS HO_7.1) (wX HW.1), Et HW.1 (BL HB.1)⟩
end Go.Proofs.Ytbpfdbjnnlmdjaa.P
