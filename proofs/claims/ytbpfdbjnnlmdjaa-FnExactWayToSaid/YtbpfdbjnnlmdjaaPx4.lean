--MINI
-- PRINTED by print.py (a twelfth state) out of the translation. Not trusted: Lean checks it.
import Derived.Test.YtbpfdbjnnlmdjaaPx0
import Derived.Test.YtbpfdbjnnlmdjaaPx2
import Derived.Test.YtbpfdbjnnlmdjaaPx3
namespace Go.Proofs.Ytbpfdbjnnlmdjaa.P
open Go.RowKit Go.Proofs.YtbpfdbjnnlmdjaaW.PrintWords Go.Proofs.YtbpfdbjnnlmdjaaW.PrintLast Go.Proofs.YtbpfdbjnnlmdjaaW.PrintMore
attribute [local go_sem] rQ rR vR vS pO pQ rT rU   -- for this text's walks alone
set_option linter.unusedVariables false
set_option linter.unusedSimpArgs false
set_option maxHeartbeats 8000000
set_option maxRecDepth 100000

open Kd
def bT.l0 : Nat -> List Int -> Int -> Int -> Int -> Int -> Int -> List (fq) -> Option ((List (fq)))
 | 0, _, _, _, _, _, _, _ => none
 | k + 1, x1, x2, x28, x29, aUK, aUL, aMi => if x29 < x28 then (if 0 <= x29 then (if x29 < (aMi.length : Int) then (if ((aj aMi x29).f0) = 6 then (if x29 < (x1.length : Int) then (if 0 <= x2 then (if x2 < (x1.length : Int) then (if (rd x1 x29) = (rd x1 x2) then ((kR.f ((aj aMi x29).f0) ((aj aMi x29).f1)).bind fun a2L => (bT.l0 k x1 x2 x28 (wrap64 (x29 + 1)) aUK aUL (aMi.set (x29 : Int).toNat (⟨a2L.1, a2L.2⟩ : fq)))) else (bT.l0 k x1 x2 x28 (wrap64 (x29 + 1)) aUK aUL aMi)) else (none)) else (none)) else (none)) else (bT.l0 k x1 x2 x28 (wrap64 (x29 + 1)) aUK aUL aMi)) else (none)) else (none)) else (some aMi)
def bT.f (k : Nat) (ah : Int) (af : Int) (ae : List (fq)) (l1 : List Int) (a2 : Int) : Option ((List (fq))) := if 0 <= a2 then (if a2 < (ae.length : Int) then (if ((aj ae a2).f0) = 3 then ((kR.f ((aj ae a2).f0) ((aj ae a2).f1)).bind fun a2M => (some (ae.set (a2 : Int).toNat (⟨a2M.1, a2M.2⟩ : fq)))) else (if ((aj ae a2).f0) = 6 then (bT.l0 k l1 a2 (ae.length : Int) 0 ah af ae) else (some ae))) else (none)) else (none)
theorem bT.mono_l : ∀ k, (∀ y0 y1 y2 y3 y4 y5 y6, dO (bT.l0 k y0 y1 y2 y3 y4 y5 y6) (bT.l0 (k + 1) y0 y1 y2 y3 y4 y5 y6))
 | 0 => fun _ _ _ _ _ _ _ r h => by simp [bT.l0] at h
 | k + 1 => by
  have ja := bT.mono_l k
  intros
  first | unfold bT.l0
  exact BA ja
theorem bT.mono : ∀ a0 a1 a2 a3 a4 k, dO (bT.f k a0 a1 a2 a3 a4) (bT.f (k + 1) a0 a1 a2 a3 a4) := by
 intro a0 a1 a2 a3 a4 k
 have ja := bT.mono_l k
 unfold bT.f
 exact BA ja
def bT.T9 : Bool × List (List Nat × List Nat) := (true, [([], []), ([0], [0]), ([1], [1]), ([2], [2]), ([3], [3]), ([3], [3]), ([4, 5, 3], [3, 4, 5]), ([6, 3], [3, 6]), ([3], [3]), ([3], [3]), ([8, 9, 3], [3, 8, 9]), ([10, 3], [3, 10]), ([7, 11, 3], [3, 7, 11]), ([3, 12], [3, 12])])
def bT.B9 : List Nat := [0, 1, 3, 7, 15, 15, 63, 127, 15, 15, 783, 1807, 4095, 8191]
theorem bT.ao2 : mX .any (opsOf Try.f97 9) = bT.T9 := by kernel_rfl
theorem bT.bits9 : kr bT.T9.2 bT.B9 = true := by kernel_rfl
theorem bT.calls (k : Nat) (ah : Int) (af : Int) (cu : Nat -> Prop) (iH : Value) (ae : List (fq)) (A1 : Option Addr) (c1 : Nat) (l1 : List Int) (a2 : Int) (r : List (fq)) (w0 w : World) (hB : Below w0.heap.size w0 w) (BN : Kd.R jZ 83 w w0.heap.size cu iH ae) (hr1 : ∀ W_, Kept w W_ (fun k_ => cu k_) -> Kd.C (Kd.int .i64) W_ A1 l1.length l1) (hc1 : l1.length <= c1) (h : bT.f k ah af ae l1 a2 = some r) :
 Calls Try.prog 97 #[.agg #[.int .i64 ah, .int .i64 af, iH], .slice A1 l1.length c1, .int .i64 a2] w fun e w' => e = .returned (.tuple #[]) /\ Kd.R jZ 83 w' w0.heap.size (fun k_ => (cu k_ ∨ w.heap.size <= k_)) iH r /\ Below w0.heap.size w0 w' /\ Kept w w' (fun k_ => cu k_) := by
 have nH := Try.underlying30
 have xE := Try.underlying83
 have fB := aa.mk (show Kd.R jZ 83 w w0.heap.size (fun k_ => (cu k_ ∨ w.heap.size <= k_)) iH ae from aG BN (fun k_ hk => (.inl hk)))
 have HR1 := aa.mk hr1
 have vD := aa.mk hc1
 clear hr1 hc1
 have HK := aa.mk (Kept.refl w (fun k_ => cu k_))
 have HW0 := aa.mk hB.size
 have HB := aa.mk hB
 clear hB
 have H := h
 clear h
 unfold bT.f at H
 replace H := ji H; obtain ⟨c4b0, H⟩ := H
 replace H := ji H; obtain ⟨c5b0, H⟩ := H
 replace H := oP H; rcases H with ⟨c6, H⟩ | ⟨c6, H⟩
 · have c6b0 := beq_iff_eq.mpr c6
   have c6b1 := bne_eq_false_iff_eq.mpr c6
   clear c6
   replace H := dz H; obtain ⟨⟨aZj, aZk⟩, A7, H⟩ := H
   dsimp only at H
   generalize a2N : ((ae.set (a2 : Int).toNat (⟨aZj, aZk⟩ : fq)) : List (fq)) = bg0 at H
   have a9f := aa.mk a2N.symm; clear a2N
   obtain rfl := Option.some.inj H
   obtain ⟨Ao9, ZI, Vm⟩ := bv fB.1
   subst Vm
   go_enter Try.func97, Try.ntmps97
   try go_wp2_with (first | ((with_reducible refine aC (N := 3) rfl ?_); refine dN (cs := #[.int .i64 ah, .int .i64 af, .slice Ao9 ae.length ZI]) (t := 30) ?_; intro auf hg Hw hbox hb; refine E6 (rB fB.1 hb) (Kept.below (S := (fun k_ => cu k_)) (KL HK.1) hb) (bS HB.1 hb) (hbox) ((by rw [hg]; exact (by first | exact HK.1.1 | exact (show Kept w _ (fun k_ => cu k_) from KL HK.1).1) : w.heap.size <= auf)) (Qm hg (bZ HB.1) : w0.heap.size <= auf) ?_; clear fB HK HB; intro fB HK HB ajv aJS aJT; clear hb hbox hg; obtain ⟨vX, vY, EZ, vZ, wh, Fa⟩ := gB ajv.1; have aom : 0 <= (a2 : Int) := OD; have aon : a2 < (ae.length : Int) := OD; obtain ⟨aJU, e264, OM, OO⟩ := iP (ay fB.1).2.2 a2 aom aon; cases e264; replace aom := eq_true aom; replace aon := eq_true aon) | ((with_reducible refine aC (N := 6) rfl ?_); refine dN (cs := #[.int .i64 0, .int .i64 0]) (t := 83) ?_; intro abB hg yC hbox hb; refine E9 (jf (pE (PR fB.1) abB (Nat.le_of_eq hg.symm)) hb) (bB ajv.1 hb) (Kept.below (S := (fun k_ => cu k_)) (KL HK.1) hb) (bS HB.1 hb) (hbox) ((by rw [hg]; exact (by first | exact HK.1.1 | exact (show Kept w _ (fun k_ => cu k_) from KL HK.1).1) : w.heap.size <= abB)) (Qm hg (bZ HB.1) : w0.heap.size <= abB) (nB ajv.1 hg) (nC ajv.1 hg) ?_; clear fB ajv HK HB; intro fB ajv HK HB FY ajw ajx aDH aNu; clear hb hbox hg; have avw := aNu.1; have avx := aDH.1; obtain ⟨Af, Ag, Ah, Ai⟩ := nO FY.1))
   have n_ : (fun NU : World => (Kd.R jZ 83 NU w0.heap.size (fun k_ => (cu k_ ∨ w.heap.size <= k_) /\ k_ ≠ abB) (.slice (some aJU) ae.length ZI) ae) /\ (NU.heap[auf]? = some (.cells #[.int .i64 ah, .int .i64 af, .slice (some aJU) ae.length ZI] 30 (0, 0))) /\ (NU.heap[abB]? = some (.cells #[.int .i64 ((aj ae a2).f0), .int .i64 ((aj ae a2).f1)] 83 (0, 0))) /\ (Kept w NU (fun k_ => cu k_)) /\ (Below w0.heap.size w0 NU)) ((yC.setCell ⟨abB, 0, none⟩ (.int .i64 ((aj ae a2).f0))).setCell ⟨abB, 1, none⟩ (.int .i64 ((aj ae a2).f1))) := ⟨by (with_reducible repeat (first | apply aV | apply aW | apply aQ)); exact aG (RQ abB 1 (RQ abB 0 (aG fB.1 (fun k_ hk => (⟨hk, hk.2⟩ : _ /\ k_ ≠ abB))) _) _) (fun _ hk => ⟨hk.1.1, hk.1.2⟩), by (with_reducible repeat (first | refine ak ?_ _ | refine ag ?_ | refine au ?_ _)); refine bu ?_ aDH.1 _; (with_reducible repeat (first | refine ak ?_ _ | refine ag ?_ | refine au ?_ _)); refine bu ?_ aDH.1 _; (with_reducible repeat (first | refine ak ?_ _ | refine ag ?_ | refine au ?_ _)); exact ajv.1, by (with_reducible repeat (first | refine ak ?_ _ | refine ag ?_ | refine au ?_ _)); refine gy (cs := #[.int .i64 ((aj ae a2).f0), .int .i64 0]) ?_ 1 _ rfl; (with_reducible repeat (first | refine ak ?_ _ | refine ag ?_ | refine au ?_ _)); refine gy (cs := #[.int .i64 0, .int .i64 0]) ?_ 0 _ rfl; (with_reducible repeat (first | refine ak ?_ _ | refine ag ?_ | refine au ?_ _)); exact FY.1, KL HK.1, BL HB.1⟩
   (try clear fB)
   (try clear ajv)
   (try clear FY)
   (try clear HK)
   (try clear HB)
   generalize ((yC.setCell ⟨abB, 0, none⟩ (.int .i64 ((aj ae a2).f0))).setCell ⟨abB, 1, none⟩ (.int .i64 ((aj ae a2).f1))) = NU at n_ ⊢
   obtain ⟨qG, qH, qi, qI, qJ⟩ := n_
   refine E5 qG qH qi qI qJ ?_
   clear qG qH qi qI qJ
   intro fB ajv FY HK HB
   refine E5 (aQ fB.1) (ag ajv.1) (ag FY.1) (Kept.drew HK.1) (dm HB.1) ?_
   clear fB ajv FY HK HB
   intro fB ajv FY HK HB
   refine jN (n := 7) (S := fun w' => w'.cell? ⟨auf, 0, none⟩ = some (.int .i64 ah) /\ w'.cell? ⟨auf, 1, none⟩ = some (.int .i64 af) /\ w'.cell? ⟨auf, 2, none⟩ = some (.slice (some aJU) ae.length ZI) /\ w'.cell? ⟨abB, 0, none⟩ = some (.int .i64 ((aj ae a2).f0)) /\ w'.cell? ⟨abB, 1, none⟩ = some (.int .i64 ((aj ae a2).f1))) (ds := [6]) #[Zz,Zz,Zz,Zz,Zz,Zz,Zz] (by kernel_rfl) rfl rfl ⟨(ai ajv.1 0).trans rfl, (ai ajv.1 1).trans rfl, (ai ajv.1 2).trans rfl, (ai FY.1 0).trans rfl, (ai FY.1 1).trans rfl⟩ (fun hHeld => ?_)
   generalize NU.drew = w16 at fB ajv FY HK HB hHeld ⊢
   refine ll (i := 0) (N := some 18) (v := ?_) (a' := ?_) #[Yy,Zz,Zz,Zz,Zz,Zz,Zz] rfl rfl (by kernel_rfl) (fun _ _ _ h => h) (Or.inl ⟨by rfl, ?_⟩) ?_ ?_
   rotate_left
   · intro w'
     go_simp
     with_reducible rfl
   rotate_left
   · simp only [Act.put, List.setIfInBounds_toArray, List.set_cons_zero, List.set_cons_succ, cz, dF]
     rfl
   refine ll (i := 2) (N := some 20) (v := ?_) (a' := ?_) #[Yy,Zz,Yy,Zz,Zz,Zz,Zz] rfl rfl (by kernel_rfl) (fun _ _ _ h => h) (Or.inl ⟨by rfl, ?_⟩) ?_ ?_
   rotate_left
   · intro w'
     go_simp
     with_reducible rfl
   rotate_left
   · simp only [Act.put, List.setIfInBounds_toArray, List.set_cons_zero, List.set_cons_succ, cz, dF]
     rfl
   refine xQ 1 (N := some 19) hHeld ?_
   refine xQ 3 (N := some 21) hHeld ?_
   refine mV (i := 4) (N := some 22) #[Yy,Yy,Yy,Yy,Yy,Zz,Zz] rfl rfl (by kernel_rfl) (by decide) (fun K hK => ?_)
   refine nA Try.func101 (by kernel_rfl) rfl #[.agg #[.int .i64 ((aj ae a2).f0), .int .i64 ((aj ae a2).f1)]] (by rfl) rfl rfl (by (try simp only [List.map_toArray, List.map_cons, List.map_nil]); first | done | rfl | (simp only [List.length_drop, List.length_take]; rfl)) ?_
   with_reducible refine (kR.calls ((aj ae a2).f0) ((aj ae a2).f1) aZj aZk _ A7.1).mono ?_
   rintro e Vn ⟨rfl, hb⟩
   refine ⟨_, rfl, ?_⟩
   refine E5 (rB fB.1 hb) (bB ajv.1 hb) (bB FY.1 hb) (Kept.below (S := (fun k_ => cu k_)) (KL HK.1) hb) (bS HB.1 hb) ?_
   clear fB ajv FY HK HB
   intro fB ajv FY HK HB
   (try clear hb)
   (try clear hb2)
   (try clear hk)
   (try clear hi)
   have p8 : 0 <= (a2 : Int) := OD
   have q8 : (a2 : Int) < ((ae.length : Int) : Int) := OD
   obtain ⟨go8, yZ, eo8, gb8, gl8, cl8, HG8⟩ := mQ fB.1 (by omega)
   (first | cases eo8 | (injection eo8 with ea_ en_ ec_; (first | subst ea_ | (injection ea_ with ea_; subst ea_)); subst ec_; clear en_))
   have GB8 := aa.mk gb8
   have GG8 := aa.mk HG8
   clear gb8 gl8 HG8
   have HMgo8 := aa.mk (show (cu go8 ∨ w.heap.size <= go8) from (fB.1.1 _ rfl).1)
   (first | simp only [add_plain] at OM | skip)
   (first | simp only [add_plain] at OO | skip)
   obtain ⟨ce8, aek, hM8, SK, XZ⟩ := nz fB.1 z83 (a2 : Int) p8 q8
   obtain rfl := jY hM8
   have aib : World.cell? _ ⟨go8, (a2 : Int).toNat * 2, none⟩ = some (.int .i64 ((aj ae a2).f0)) := SK 0 _ rfl
   have aKM : World.cell? _ ⟨go8, (a2 : Int).toNat * 2 + 1, none⟩ = some (.int .i64 ((aj ae a2).f1)) := SK 1 _ rfl
   have aic : World.frozen? _ ⟨go8, (a2 : Int).toNat * 2, none⟩ = false := XZ 0
   have aKN : World.frozen? _ ⟨go8, (a2 : Int).toNat * 2 + 1, none⟩ = false := XZ 1
   (try clear hM8); clear aek SK XZ
   replace p8 := eq_true p8
   replace q8 := eq_true q8
   obtain ⟨aF3, Rt, ack, Ru, acl⟩ := nz fB.1 z83 (a2 : Int) (OD) (by have h_ : (a2 : Int) < ((ae.length : Int) : Int) := OD; first | exact h_ | (have e_ := (ay fB.1).1; omega) | simpa using h_)
   obtain rfl := jY ack
   have Uw := (DZ fB.1 (a2 : Int) (OD) (by have h_ : (a2 : Int) < ((ae.length : Int) : Int) := OD; first | exact h_ | (have e_ := (ay fB.1).1; omega) | simpa using h_) (seg := [.int .i64 aZj, .int .i64 aZk]) (j := 0) Rt Ru (show 2 <= 2 from by decide) (x' := (⟨aZj, aZk⟩ : fq)) (uE _ _ _ (⟨aZj, aZk⟩ : fq) ) (fun _ hk => hk)).1
   rw [<- a9f.1] at Uw
   have agb := aa.mk Uw
   (try clear ack); clear Rt Ru acl Uw
   refine hK.out _ _ ⟨(ai ajv.1 0).trans rfl, (ai ajv.1 1).trans rfl, (ai ajv.1 2).trans rfl, (ai FY.1 0).trans rfl, (ai FY.1 1).trans rfl⟩ (fun hHeld => ?_)
   clear hK K
   refine eX (a' := ?_) ?_ ?_
   rotate_left
   · show Act.put _ (some 22) _ = _
     simp only [Act.put, List.setIfInBounds_toArray, List.set_cons_zero, List.set_cons_succ, cz, dF]
     rfl
   refine ll (i := 5) (N := some 23) (v := ?_) (a' := ?_) #[Yy,Yy,Yy,Yy,Yy,Yy,Zz] rfl rfl (by kernel_rfl) (fun _ _ _ h => h) (Or.inl ⟨by rfl, ?_⟩) ?_ ?_
   rotate_left
   · intro w'
     go_simp
     with_reducible rfl
   rotate_left
   · simp only [Act.put, List.setIfInBounds_toArray, List.set_cons_zero, List.set_cons_succ, cz, dF]
     rfl
   refine BD (i := 6) (N := none) #[Yy,Yy,Yy,Yy,Yy,Yy,Yy] rfl rfl (by kernel_rfl) (by decide) (fun K hK => ?_)
   refine pF (w1 := ?_) (by rfl) rfl ?_ ?_
   rotate_left
   · go_simp
     rfl
   refine hK.out _ _ ?_
   clear hK K
   refine lI (by kernel_rfl) ?_
   try go_wp2
   first | go_end0 | ((try simp only [Exit.inBlock, Exit.then]); refine bodyPost_ret (results_none rfl _ _ _) rfl ?_)
   exact ⟨RF, pm (aG agb.1 (fun _ hk => hk.1)), BL HB.1, by repeat (first | (with_reducible first | exact HK.1 | apply Kept.alloc | apply Kept.drewN | apply Kept.drew | refine Kept.setCell ?_ HMgo8.1 _ | refine Kept.setCell ?_ HMgo8.1 _ | refine Kept.setCell ?_ (.inr aJS.1) _ | refine Kept.setCell ?_ (.inr ajw.1) _) | exact HK.1)⟩
 have c6b0 := beq_eq_false_iff_ne.mpr c6
 have c6b1 := bne_iff_ne.mpr c6
 replace H := oP H; rcases H with ⟨c19, H⟩ | ⟨c19, H⟩
 · have c19b0 := beq_iff_eq.mpr c19
   have c19b1 := bne_eq_false_iff_eq.mpr c19
   clear c19
   have H' := aa.mk H
   clear H
   obtain ⟨Rv, Ch, agc⟩ := bv fB.1
   subst agc
   go_enter Try.func97, Try.ntmps97
   go_wp2_with (first | ((with_reducible refine aC (N := 3) rfl ?_); refine dN (cs := #[.int .i64 ah, .int .i64 af, .slice Rv ae.length Ch]) (t := 30) ?_; intro auf hg Qo hbox hb; refine E6 (rB fB.1 hb) (Kept.below (S := (fun k_ => cu k_)) (KL HK.1) hb) (bS HB.1 hb) (hbox) ((by rw [hg]; exact (by first | exact HK.1.1 | exact (show Kept w _ (fun k_ => cu k_) from KL HK.1).1) : w.heap.size <= auf)) (Qm hg (bZ HB.1) : w0.heap.size <= auf) ?_; clear fB HK HB; intro fB HK HB ajv aJS aJT; clear hb hbox hg; obtain ⟨wJ, wK, Jw, wL, wM, Jy⟩ := gB ajv.1; have aom : 0 <= (a2 : Int) := OD; have aon : a2 < (ae.length : Int) := OD; obtain ⟨aJU, e264, OM, OO⟩ := iP (ay fB.1).2.2 a2 aom aon; cases e264; replace aom := eq_true aom; replace aon := eq_true aon) | ((with_reducible refine aC (N := 6) rfl ?_); refine dN (cs := #[.int .i64 0, .int .i64 0]) (t := 83) ?_; intro abB hg w23 hbox hb; refine E9 (jf (pE (PR fB.1) abB (Nat.le_of_eq hg.symm)) hb) (bB ajv.1 hb) (Kept.below (S := (fun k_ => cu k_)) (KL HK.1) hb) (bS HB.1 hb) (hbox) ((by rw [hg]; exact (by first | exact HK.1.1 | exact (show Kept w _ (fun k_ => cu k_) from KL HK.1).1) : w.heap.size <= abB)) (Qm hg (bZ HB.1) : w0.heap.size <= abB) (nB ajv.1 hg) (nC ajv.1 hg) ?_; clear fB ajv HK HB; intro fB ajv HK HB FY ajw ajx aDH aNu; clear hb hbox hg; have aKO := aNu.1; have aKP := aDH.1; obtain ⟨CQ, CR, CS, CU⟩ := nO FY.1; obtain ⟨xM, xN, Ff, xO, xP, Fg⟩ := gB ajv.1))
   go_loopg [29] k (fun kq v29 w' => ∃ (fP : Int) (abH : List (fq)) (aEE : Int) (aEG : Int), v29 = .int .i64 fP /\ aa (bT.l0 kq l1 a2 (ae.length : Int) fP ah af abH = some r) /\ aa (kq <= k) /\ aa (Kd.R jZ 83 w' w0.heap.size (fun k_ => (cu k_ ∨ w.heap.size <= k_) /\ k_ ≠ abB) (.slice (some aJU) ae.length Ch) abH) /\ aa (w'.heap[auf]? = some (.cells #[.int .i64 ah, .int .i64 af, (.slice (some aJU) ae.length Ch)] 30 (0, 0))) /\ aa (w'.heap[abB]? = some (.cells #[.int .i64 aEE, .int .i64 aEG] 83 (0, 0))) /\ aa (Kept w w' (fun k_ => cu k_)) /\ aa (Below w0.heap.size w0 w'))
   case atStart => exact ⟨(0), (ae), ((aj ae a2).f0), ((aj ae a2).f1), RG, H', ⟨Nat.le_refl _⟩, ⟨by (with_reducible repeat (first | apply aV | apply aW | apply aQ)); exact aG (RQ abB 1 (RQ abB 0 (aG fB.1 (fun k_ hk => (⟨hk, hk.2⟩ : _ /\ k_ ≠ abB))) _) _) (fun _ hk => ⟨hk.1.1, hk.1.2⟩)⟩, ⟨by (with_reducible repeat (first | refine ak ?_ _ | refine ag ?_ | refine au ?_ _)); refine bu ?_ aDH.1 _; (with_reducible repeat (first | refine ak ?_ _ | refine ag ?_ | refine au ?_ _)); refine bu ?_ aDH.1 _; (with_reducible repeat (first | refine ak ?_ _ | refine ag ?_ | refine au ?_ _)); exact ajv.1⟩, ⟨by (with_reducible repeat (first | refine ak ?_ _ | refine ag ?_ | refine au ?_ _)); refine gy (cs := #[.int .i64 ((aj ae a2).f0), .int .i64 0]) ?_ 1 _ rfl; (with_reducible repeat (first | refine ak ?_ _ | refine ag ?_ | refine au ?_ _)); refine gy (cs := #[.int .i64 0, .int .i64 0]) ?_ 0 _ rfl; (with_reducible repeat (first | refine ak ?_ _ | refine ag ?_ | refine au ?_ _)); exact FY.1⟩, ⟨KL HK.1⟩, ⟨BL HB.1⟩⟩
   clear H'
   try clear c1; try clear c6; try clear OM; try clear OO; try clear aom; try clear aon; clear c4b0 c5b0 c6b0 c6b1 c19b0 c19b1 wJ wK Jw CQ CR xM xN Ff wL wM Jy CS CU xO xP Fg
   obtain ⟨fP, abH, aEE, aEG, rfl, HA, iB, HO_264002, ajv, FY, HK, HB⟩ := hrel
   have ara := (ay HO_264002.1).1
   rw [ara] at HO_264002
   (try simp only [ara])
   (try simp only [ara] at ajv)
   (try simp only [ara] at FY)
   cases gk with
   | zero => exact absurd HA.1 (by simp [bT.l0])
   | succ k1 => ?_
   have H := HA.1
   clear HA
   simp only [bT.l0] at H
   replace H := pu H; rcases H with ⟨c27b0, H⟩ | ⟨c27b0, H⟩
   · replace H := ji H; obtain ⟨c28b0, H⟩ := H
     replace H := ji H; obtain ⟨c29b0, H⟩ := H
     replace H := oP H; rcases H with ⟨YW, H⟩ | ⟨YW, H⟩
     · have c30b0 := beq_iff_eq.mpr YW
       have c30b1 := bne_eq_false_iff_eq.mpr YW
       clear YW
       replace H := ji H; obtain ⟨c31b0, H⟩ := H
       replace H := ji H; obtain ⟨c32b0, H⟩ := H
       replace H := ji H; obtain ⟨c33b0, H⟩ := H
       replace H := oP H; rcases H with ⟨c34, H⟩ | ⟨c34, H⟩
       · have c34b0 := beq_iff_eq.mpr c34
         have c34b1 := bne_eq_false_iff_eq.mpr c34
         clear c34
         replace H := dz H; obtain ⟨⟨aZl, aZm⟩, A35, H⟩ := H
         dsimp only at H
         generalize a2O : ((abH.set (fP : Int).toNat (⟨aZl, aZm⟩ : fq)) : List (fq)) = bcc at H
         have a9g := aa.mk a2O.symm; clear a2O
         have H' := aa.mk H
         clear H
         have Jg : 0 <= (fP : Int) := OD
         have Jh : fP < (abH.length : Int) := OD
         obtain ⟨uZ, e269, Gp, Gq⟩ := iP (ay HO_264002.1).2.2 fP Jg Jh
         obtain rfl : aJU = uZ := (by injection e269)
         replace Jg := eq_true Jg
         replace Jh := eq_true Jh
         try go_wp2_with (first | ((with_reducible refine aC (N := 8) rfl ?_); refine dN (cs := #[.int .i64 0, .int .i64 0]) (t := 83) ?_; intro lq hg Mw hbox hb; refine E12 (jf (pE (PR HO_264002.1) lq (Nat.le_of_eq hg.symm)) hb) (bB ajv.1 hb) (bB FY.1 hb) (Kept.below (S := (fun k_ => cu k_)) (KL HK.1) hb) (bS HB.1 hb) (hbox) ((by rw [hg]; exact (by first | exact HK.1.1 | exact (show Kept w _ (fun k_ => cu k_) from KL HK.1).1) : w.heap.size <= lq)) (Qm hg (bZ HB.1) : w0.heap.size <= lq) (nB ajv.1 hg) (nC ajv.1 hg) (nB FY.1 hg) (nC FY.1 hg) ?_; clear HO_264002 ajv FY HK HB; intro HO_264002 ajv FY HK HB gL WT aky az4 aNv az5 aNy; clear hb hbox hg; have avz := aNv.1; have avA := az4.1; have avB := aNy.1; have avC := az5.1; obtain ⟨JF, JG, JH, JI⟩ := nO gL.1))
         have n_ : (fun MG : World => (Kd.R jZ 83 MG w0.heap.size (fun k_ => (cu k_ ∨ w.heap.size <= k_) /\ k_ ≠ abB /\ k_ ≠ lq) (.slice (some aJU) abH.length Ch) abH) /\ (MG.heap[auf]? = some (.cells #[.int .i64 ah, .int .i64 af, .slice (some aJU) abH.length Ch] 30 (0, 0))) /\ (MG.heap[abB]? = some (.cells #[.int .i64 aEE, .int .i64 aEG] 83 (0, 0))) /\ (MG.heap[lq]? = some (.cells #[.int .i64 ((aj abH fP).f0), .int .i64 ((aj abH fP).f1)] 83 (0, 0))) /\ (Kept w MG (fun k_ => cu k_)) /\ (Below w0.heap.size w0 MG)) ((Mw.setCell ⟨lq, 0, none⟩ (.int .i64 ((aj abH fP).f0))).setCell ⟨lq, 1, none⟩ (.int .i64 ((aj abH fP).f1))) := ⟨by (with_reducible repeat (first | apply aV | apply aW | apply aQ)); exact aG (RQ lq 1 (RQ lq 0 (aG HO_264002.1 (fun k_ hk => (⟨hk, hk.2⟩ : _ /\ k_ ≠ lq))) _) _) (fun _ hk => ⟨hk.1.1.1, ⟨hk.1.1.2, hk.1.2⟩⟩), by (with_reducible repeat (first | refine ak ?_ _ | refine ag ?_ | refine au ?_ _)); refine bu ?_ az4.1 _; (with_reducible repeat (first | refine ak ?_ _ | refine ag ?_ | refine au ?_ _)); refine bu ?_ az4.1 _; (with_reducible repeat (first | refine ak ?_ _ | refine ag ?_ | refine au ?_ _)); exact ajv.1, by (with_reducible repeat (first | refine ak ?_ _ | refine ag ?_ | refine au ?_ _)); refine bu ?_ az5.1 _; (with_reducible repeat (first | refine ak ?_ _ | refine ag ?_ | refine au ?_ _)); refine bu ?_ az5.1 _; (with_reducible repeat (first | refine ak ?_ _ | refine ag ?_ | refine au ?_ _)); exact FY.1, by (with_reducible repeat (first | refine ak ?_ _ | refine ag ?_ | refine au ?_ _)); refine gy (cs := #[.int .i64 ((aj abH fP).f0), .int .i64 0]) ?_ 1 _ rfl; (with_reducible repeat (first | refine ak ?_ _ | refine ag ?_ | refine au ?_ _)); refine gy (cs := #[.int .i64 0, .int .i64 0]) ?_ 0 _ rfl; (with_reducible repeat (first | refine ak ?_ _ | refine ag ?_ | refine au ?_ _)); exact gL.1, KL HK.1, BL HB.1⟩
         (try clear HO_264002)
         (try clear ajv)
         (try clear FY)
         (try clear gL)
         (try clear HK)
         (try clear HB)
         generalize ((Mw.setCell ⟨lq, 0, none⟩ (.int .i64 ((aj abH fP).f0))).setCell ⟨lq, 1, none⟩ (.int .i64 ((aj abH fP).f1))) = MG at n_ ⊢
         obtain ⟨qG, qH, qi, qI, qJ, tX⟩ := n_
         refine E6 qG qH qi qI qJ tX ?_
         clear qG qH qi qI qJ tX
         intro HO_264002 ajv FY gL HK HB
         refine E6 (aQ HO_264002.1) (ag ajv.1) (ag FY.1) (ag gL.1) (Kept.drew HK.1) (dm HB.1) ?_
         clear HO_264002 ajv FY gL HK HB
         intro HO_264002 ajv FY gL HK HB
         have aUM : 0 <= (fP : Int) := OD
         have aUN : fP < (l1.length : Int) := OD
         obtain ⟨aTH, e271, aSh⟩ := Kd.dx (kY HR1.1 HK.1) fP aUM aUN
         have a0X := aSh
         cases e271
         replace aUM := eq_true aUM
         replace aUN := eq_true aUN
         have aUO : 0 <= (a2 : Int) := OD
         have aUP : a2 < (l1.length : Int) := OD
         obtain ⟨aZn, e272, aSi⟩ := Kd.dx (kY HR1.1 HK.1) a2 aUO aUP
         have a0Y := aSi
         obtain rfl : aTH = aZn := (by injection e272)
         replace aUO := eq_true aUO
         replace aUP := eq_true aUP
         refine jN (n := 14) (S := fun w' => w'.cell? ⟨lq, 0, none⟩ = some (.int .i64 ((aj abH fP).f0)) /\ w'.cell? ⟨lq, 1, none⟩ = some (.int .i64 ((aj abH fP).f1)) /\ w'.cell? (aTH.add (fP).toNat) = some (.int .i64 (rd l1 fP)) /\ w'.cell? (aTH.add (a2).toNat) = some (.int .i64 (rd l1 a2))) (ds := []) #[Zz,Zz,Zz,Zz,Zz,Zz,Zz,Zz,Zz,Zz,Zz,Zz,Zz,Zz] (by kernel_rfl) rfl rfl ⟨(ai gL.1 0).trans rfl, (ai gL.1 1).trans rfl, (Kd.qE (HR1.1 _ (by repeat (first | exact HK.1 | apply Kept.alloc | apply Kept.drewN | apply Kept.drew))) fP (of_eq_true aUM) (of_eq_true aUN)), (Kd.qE (HR1.1 _ (by repeat (first | exact HK.1 | apply Kept.alloc | apply Kept.drewN | apply Kept.drew))) a2 (of_eq_true aUO) (of_eq_true aUP))⟩ (fun hHeld => ?_); refine iq bT.ao2 bT.bits9 (fun HT_ HW_ => ?_)
         generalize MG.drew = w42 at HO_264002 ajv FY gL HK HB aSh aSi hHeld ⊢
         refine aU 0 (N := some 34) HT_.1 ?_
         refine gF 1 (N := some 35) HT_.1 HW_.1 hHeld ?_
         refine aU 2 (N := some 36) HT_.1 ?_
         refine aU 3 (N := some 37) HT_.1 ?_
         refine aU 4 (N := some 38) HT_.1 ?_
         refine aU 5 (N := some 39) HT_.1 ?_
         refine aU 6 (N := some 40) HT_.1 ?_
         refine aU 8 (N := some 42) HT_.1 ?_
         refine aU 9 (N := some 43) HT_.1 ?_
         refine aU 10 (N := some 44) HT_.1 ?_
         refine gF 7 (N := some 41) HT_.1 HW_.1 hHeld ?_
         refine gF 11 (N := some 45) HT_.1 HW_.1 hHeld ?_
         refine aU 12 (N := some 46) HT_.1 ?_
         refine aU 13 (N := some 47) HT_.1 ?_
         refine lI (jS HT_.1 (by kernel_rfl)) ?_
         try go_wp2
         refine E6 (aQ HO_264002.1) (ag ajv.1) (ag FY.1) (ag gL.1) (Kept.drew HK.1) (dm HB.1) ?_
         clear HO_264002 ajv FY gL HK HB
         intro HO_264002 ajv FY gL HK HB
         refine jN (n := 7) (S := fun w' => w'.cell? ⟨auf, 0, none⟩ = some (.int .i64 ah) /\ w'.cell? ⟨auf, 1, none⟩ = some (.int .i64 af) /\ w'.cell? ⟨auf, 2, none⟩ = some (.slice (some aJU) abH.length Ch) /\ w'.cell? ⟨lq, 0, none⟩ = some (.int .i64 ((aj abH fP).f0)) /\ w'.cell? ⟨lq, 1, none⟩ = some (.int .i64 ((aj abH fP).f1))) (ds := [6]) #[Zz,Zz,Zz,Zz,Zz,Zz,Zz] (by kernel_rfl) rfl rfl ⟨(ai ajv.1 0).trans rfl, (ai ajv.1 1).trans rfl, (ai ajv.1 2).trans rfl, (ai gL.1 0).trans rfl, (ai gL.1 1).trans rfl⟩ (fun hHeld => ?_)
         generalize w42.drew = w43 at HO_264002 ajv FY gL HK HB hHeld ⊢
         refine ll (i := 0) (N := some 48) (v := ?_) (a' := ?_) #[Yy,Zz,Zz,Zz,Zz,Zz,Zz] rfl rfl (by kernel_rfl) (fun _ _ _ h => h) (Or.inl ⟨by rfl, ?_⟩) ?_ ?_
         rotate_left
         · intro w'
           go_simp
           with_reducible rfl
         rotate_left
         · simp only [Act.put, List.setIfInBounds_toArray, List.set_cons_zero, List.set_cons_succ, cz, dF]
           rfl
         refine ll (i := 2) (N := some 50) (v := ?_) (a' := ?_) #[Yy,Zz,Yy,Zz,Zz,Zz,Zz] rfl rfl (by kernel_rfl) (fun _ _ _ h => h) (Or.inl ⟨by rfl, ?_⟩) ?_ ?_
         rotate_left
         · intro w'
           go_simp
           with_reducible rfl
         rotate_left
         · simp only [Act.put, List.setIfInBounds_toArray, List.set_cons_zero, List.set_cons_succ, cz, dF]
           rfl
         refine xQ 1 (N := some 49) hHeld ?_
         refine xQ 3 (N := some 51) hHeld ?_
         refine mV (i := 4) (N := some 52) #[Yy,Yy,Yy,Yy,Yy,Zz,Zz] rfl rfl (by kernel_rfl) (by decide) (fun K hK => ?_)
         refine nA Try.func101 (by kernel_rfl) rfl #[.agg #[.int .i64 ((aj abH fP).f0), .int .i64 ((aj abH fP).f1)]] (by rfl) rfl rfl (by (try simp only [List.map_toArray, List.map_cons, List.map_nil]); first | done | rfl | (simp only [List.length_drop, List.length_take]; rfl)) ?_
         with_reducible refine (kR.calls ((aj abH fP).f0) ((aj abH fP).f1) aZl aZm _ A35.1).mono ?_
         rintro e w44 ⟨rfl, hb⟩
         refine ⟨_, rfl, ?_⟩
         refine E6 (rB HO_264002.1 hb) (bB ajv.1 hb) (bB FY.1 hb) (bB gL.1 hb) (Kept.below (S := (fun k_ => cu k_)) (KL HK.1) hb) (bS HB.1 hb) ?_
         clear HO_264002 ajv FY gL HK HB
         intro HO_264002 ajv FY gL HK HB
         (try clear hb)
         (try clear hb2)
         (try clear hk)
         (try clear hi)
         have p36 : 0 <= (fP : Int) := OD
         have q36 : (fP : Int) < ((abH.length : Int) : Int) := OD
         obtain ⟨Y3, aPx, avD, avE, aF6, aPy, avF⟩ := mQ HO_264002.1 (by omega)
         (first | cases avD | (injection avD with ea_ en_ ec_; (first | subst ea_ | (injection ea_ with ea_; subst ea_)); subst ec_; clear en_))
         have aPz := aa.mk avE
         have aPA := aa.mk avF
         clear avE aF6 avF
         have HMgo36 := aa.mk (show (cu Y3 ∨ w.heap.size <= Y3) from (HO_264002.1.1 _ rfl).1)
         (first | simp only [add_plain] at OM | skip)
         (first | simp only [add_plain] at OO | skip)
         (first | simp only [add_plain] at Gp | skip)
         (first | simp only [add_plain] at Gq | skip)
         obtain ⟨aPB, avG, avH, acr, acs⟩ := nz HO_264002.1 z83 (fP : Int) p36 q36
         obtain rfl := jY avH
         have aF7 : World.cell? _ ⟨Y3, (fP : Int).toNat * 2, none⟩ = some (.int .i64 ((aj abH fP).f0)) := acr 0 _ rfl
         have aF8 : World.cell? _ ⟨Y3, (fP : Int).toNat * 2 + 1, none⟩ = some (.int .i64 ((aj abH fP).f1)) := acr 1 _ rfl
         have aF9 : World.frozen? _ ⟨Y3, (fP : Int).toNat * 2, none⟩ = false := acs 0
         have aGa : World.frozen? _ ⟨Y3, (fP : Int).toNat * 2 + 1, none⟩ = false := acs 1
         (try clear avH); clear avG acr acs
         replace p36 := eq_true p36
         replace q36 := eq_true q36
         obtain ⟨aPC, akB, avI, Rx, WU⟩ := nz HO_264002.1 z83 (fP : Int) (OD) (by have h_ : (fP : Int) < ((abH.length : Int) : Int) := OD; first | exact h_ | (have e_ := (ay HO_264002.1).1; omega) | simpa using h_)
         obtain rfl := jY avI
         have Ry := (DZ HO_264002.1 (fP : Int) (OD) (by have h_ : (fP : Int) < ((abH.length : Int) : Int) := OD; first | exact h_ | (have e_ := (ay HO_264002.1).1; omega) | simpa using h_) (seg := [.int .i64 aZl, .int .i64 aZm]) (j := 0) akB Rx (show 2 <= 2 from by decide) (x' := (⟨aZl, aZm⟩ : fq)) (uE _ _ _ (⟨aZl, aZm⟩ : fq) ) (fun _ hk => hk)).1
         rw [<- a9g.1] at Ry
         have aGb := aa.mk Ry
         (try clear avI); clear akB Rx WU Ry
         refine hK.out _ _ ⟨(ai ajv.1 0).trans rfl, (ai ajv.1 1).trans rfl, (ai ajv.1 2).trans rfl, (ai gL.1 0).trans rfl, (ai gL.1 1).trans rfl⟩ (fun hHeld => ?_)
         clear hK K
         refine eX (a' := ?_) ?_ ?_
         rotate_left
         · show Act.put _ (some 52) _ = _
           simp only [Act.put, List.setIfInBounds_toArray, List.set_cons_zero, List.set_cons_succ, cz, dF]
           rfl
         refine ll (i := 5) (N := some 53) (v := ?_) (a' := ?_) #[Yy,Yy,Yy,Yy,Yy,Yy,Zz] rfl rfl (by kernel_rfl) (fun _ _ _ h => h) (Or.inl ⟨by rfl, ?_⟩) ?_ ?_
         rotate_left
         · intro w'
           go_simp
           with_reducible rfl
         rotate_left
         · simp only [Act.put, List.setIfInBounds_toArray, List.set_cons_zero, List.set_cons_succ, cz, dF]
           rfl
         refine BD (i := 6) (N := none) #[Yy,Yy,Yy,Yy,Yy,Yy,Yy] rfl rfl (by kernel_rfl) (by decide) (fun K hK => ?_)
         refine pF (w1 := ?_) (by rfl) rfl ?_ ?_
         rotate_left
         · go_simp
           rfl
         refine hK.out _ _ ?_
         clear hK K
         refine lI (by kernel_rfl) ?_
         try go_wp2
         (try simp only [<- ara])
         go_roundg k1
         case measure => have := iB.1; omega
         case rel => exact ⟨(wrap64 (fP + 1)), (bcc), (aEE), (aEG), RG, H', ⟨by have := iB.1; omega⟩, ⟨by (try simp only [ara]); (with_reducible repeat (first | apply aV | apply aW | apply aQ)); exact aG aGb.1 (fun _ hk => ⟨hk.1, hk.2.1⟩)⟩, ⟨by (try simp only [ara]); (with_reducible repeat (first | refine ak ?_ _ | refine ag ?_ | refine au ?_ _)); refine bu ?_ (by have h_ := dK HO_264002.1 ajv.1 (by decide); intro e_; exact h_ (by rw [e_]; rfl)) _; (with_reducible repeat (first | refine ak ?_ _ | refine ag ?_ | refine au ?_ _)); refine bu ?_ (by have h_ := dK HO_264002.1 ajv.1 (by decide); intro e_; exact h_ (by rw [e_]; rfl)) _; (with_reducible repeat (first | refine ak ?_ _ | refine ag ?_ | refine au ?_ _)); exact ajv.1⟩, ⟨by (try simp only [ara]); (with_reducible repeat (first | refine ak ?_ _ | refine ag ?_ | refine au ?_ _)); refine bu ?_ (by have h_ := BQ HO_264002.1 (fun _ hk => hk.2.1); intro e_; exact h_ (by rw [e_]; rfl)) _; (with_reducible repeat (first | refine ak ?_ _ | refine ag ?_ | refine au ?_ _)); refine bu ?_ (by have h_ := BQ HO_264002.1 (fun _ hk => hk.2.1); intro e_; exact h_ (by rw [e_]; rfl)) _; (with_reducible repeat (first | refine ak ?_ _ | refine ag ?_ | refine au ?_ _)); exact FY.1⟩, ⟨by repeat (first | (with_reducible first | exact HK.1 | apply Kept.alloc | apply Kept.drewN | apply Kept.drew | refine Kept.setCell ?_ HMgo36.1 _ | refine Kept.setCell ?_ HMgo36.1 _ | refine Kept.setCell ?_ (.inr aJS.1) _ | refine Kept.setCell ?_ (.inr ajw.1) _ | refine Kept.setCell ?_ (.inr WT.1) _) | exact HK.1)⟩, ⟨BL HB.1⟩⟩
       have c34b0 := beq_eq_false_iff_ne.mpr c34
       have c34b1 := bne_iff_ne.mpr c34
       have H' := aa.mk H
       clear H
       have Jg : 0 <= (fP : Int) := OD
       have Jh : fP < (abH.length : Int) := OD
       obtain ⟨uZ, e269, Gp, Gq⟩ := iP (ay HO_264002.1).2.2 fP Jg Jh
       obtain rfl : aJU = uZ := (by injection e269)
       replace Jg := eq_true Jg
       replace Jh := eq_true Jh
       try go_wp2_with (first | ((with_reducible refine aC (N := 8) rfl ?_); refine dN (cs := #[.int .i64 0, .int .i64 0]) (t := 83) ?_; intro lq hg w46 hbox hb; refine E12 (jf (pE (PR HO_264002.1) lq (Nat.le_of_eq hg.symm)) hb) (bB ajv.1 hb) (bB FY.1 hb) (Kept.below (S := (fun k_ => cu k_)) (KL HK.1) hb) (bS HB.1 hb) (hbox) ((by rw [hg]; exact (by first | exact HK.1.1 | exact (show Kept w _ (fun k_ => cu k_) from KL HK.1).1) : w.heap.size <= lq)) (Qm hg (bZ HB.1) : w0.heap.size <= lq) (nB ajv.1 hg) (nC ajv.1 hg) (nB FY.1 hg) (nC FY.1 hg) ?_; clear HO_264002 ajv FY HK HB; intro HO_264002 ajv FY HK HB gL WT aky az4 aNv az5 aNy; clear hb hbox hg; have aKQ := aNv.1; have aKR := az4.1; have avJ := aNy.1; have avK := az5.1; obtain ⟨agf, agh, agi, agj⟩ := nO gL.1))
       have n_ : (fun w50 : World => (Kd.R jZ 83 w50 w0.heap.size (fun k_ => (cu k_ ∨ w.heap.size <= k_) /\ k_ ≠ abB /\ k_ ≠ lq) (.slice (some aJU) abH.length Ch) abH) /\ (w50.heap[auf]? = some (.cells #[.int .i64 ah, .int .i64 af, .slice (some aJU) abH.length Ch] 30 (0, 0))) /\ (w50.heap[abB]? = some (.cells #[.int .i64 aEE, .int .i64 aEG] 83 (0, 0))) /\ (w50.heap[lq]? = some (.cells #[.int .i64 ((aj abH fP).f0), .int .i64 ((aj abH fP).f1)] 83 (0, 0))) /\ (Kept w w50 (fun k_ => cu k_)) /\ (Below w0.heap.size w0 w50)) ((w46.setCell ⟨lq, 0, none⟩ (.int .i64 ((aj abH fP).f0))).setCell ⟨lq, 1, none⟩ (.int .i64 ((aj abH fP).f1))) := ⟨by (with_reducible repeat (first | apply aV | apply aW | apply aQ)); exact aG (RQ lq 1 (RQ lq 0 (aG HO_264002.1 (fun k_ hk => (⟨hk, hk.2⟩ : _ /\ k_ ≠ lq))) _) _) (fun _ hk => ⟨hk.1.1.1, ⟨hk.1.1.2, hk.1.2⟩⟩), by (with_reducible repeat (first | refine ak ?_ _ | refine ag ?_ | refine au ?_ _)); refine bu ?_ az4.1 _; (with_reducible repeat (first | refine ak ?_ _ | refine ag ?_ | refine au ?_ _)); refine bu ?_ az4.1 _; (with_reducible repeat (first | refine ak ?_ _ | refine ag ?_ | refine au ?_ _)); exact ajv.1, by (with_reducible repeat (first | refine ak ?_ _ | refine ag ?_ | refine au ?_ _)); refine bu ?_ az5.1 _; (with_reducible repeat (first | refine ak ?_ _ | refine ag ?_ | refine au ?_ _)); refine bu ?_ az5.1 _; (with_reducible repeat (first | refine ak ?_ _ | refine ag ?_ | refine au ?_ _)); exact FY.1, by (with_reducible repeat (first | refine ak ?_ _ | refine ag ?_ | refine au ?_ _)); refine gy (cs := #[.int .i64 ((aj abH fP).f0), .int .i64 0]) ?_ 1 _ rfl; (with_reducible repeat (first | refine ak ?_ _ | refine ag ?_ | refine au ?_ _)); refine gy (cs := #[.int .i64 0, .int .i64 0]) ?_ 0 _ rfl; (with_reducible repeat (first | refine ak ?_ _ | refine ag ?_ | refine au ?_ _)); exact gL.1, KL HK.1, BL HB.1⟩
       (try clear HO_264002)
       (try clear ajv)
       (try clear FY)
       (try clear gL)
       (try clear HK)
       (try clear HB)
       generalize ((w46.setCell ⟨lq, 0, none⟩ (.int .i64 ((aj abH fP).f0))).setCell ⟨lq, 1, none⟩ (.int .i64 ((aj abH fP).f1))) = w50 at n_ ⊢
       obtain ⟨qG, qH, qi, qI, qJ, tX⟩ := n_
       refine E6 qG qH qi qI qJ tX ?_
       clear qG qH qi qI qJ tX
       intro HO_264002 ajv FY gL HK HB
       refine E6 (aQ HO_264002.1) (ag ajv.1) (ag FY.1) (ag gL.1) (Kept.drew HK.1) (dm HB.1) ?_
       clear HO_264002 ajv FY gL HK HB
       intro HO_264002 ajv FY gL HK HB
       have aUM : 0 <= (fP : Int) := OD
       have aUN : fP < (l1.length : Int) := OD
       obtain ⟨aTH, e271, aSh⟩ := Kd.dx (kY HR1.1 HK.1) fP aUM aUN
       have a0X := aSh
       cases e271
       replace aUM := eq_true aUM
       replace aUN := eq_true aUN
       have aUO : 0 <= (a2 : Int) := OD
       have aUP : a2 < (l1.length : Int) := OD
       obtain ⟨aZn, e272, aSi⟩ := Kd.dx (kY HR1.1 HK.1) a2 aUO aUP
       have a0Y := aSi
       obtain rfl : aTH = aZn := (by injection e272)
       replace aUO := eq_true aUO
       replace aUP := eq_true aUP
       refine jN (n := 14) (S := fun w' => w'.cell? ⟨lq, 0, none⟩ = some (.int .i64 ((aj abH fP).f0)) /\ w'.cell? ⟨lq, 1, none⟩ = some (.int .i64 ((aj abH fP).f1)) /\ w'.cell? (aTH.add (fP).toNat) = some (.int .i64 (rd l1 fP)) /\ w'.cell? (aTH.add (a2).toNat) = some (.int .i64 (rd l1 a2))) (ds := []) #[Zz,Zz,Zz,Zz,Zz,Zz,Zz,Zz,Zz,Zz,Zz,Zz,Zz,Zz] (by kernel_rfl) rfl rfl ⟨(ai gL.1 0).trans rfl, (ai gL.1 1).trans rfl, (Kd.qE (HR1.1 _ (by repeat (first | exact HK.1 | apply Kept.alloc | apply Kept.drewN | apply Kept.drew))) fP (of_eq_true aUM) (of_eq_true aUN)), (Kd.qE (HR1.1 _ (by repeat (first | exact HK.1 | apply Kept.alloc | apply Kept.drewN | apply Kept.drew))) a2 (of_eq_true aUO) (of_eq_true aUP))⟩ (fun hHeld => ?_); refine iq bT.ao2 bT.bits9 (fun HT_ HW_ => ?_)
       generalize w50.drew = WV at HO_264002 ajv FY gL HK HB aSh aSi hHeld ⊢
       refine aU 0 (N := some 34) HT_.1 ?_
       refine gF 1 (N := some 35) HT_.1 HW_.1 hHeld ?_
       refine aU 2 (N := some 36) HT_.1 ?_
       refine aU 3 (N := some 37) HT_.1 ?_
       refine aU 4 (N := some 38) HT_.1 ?_
       refine aU 5 (N := some 39) HT_.1 ?_
       refine aU 6 (N := some 40) HT_.1 ?_
       refine aU 8 (N := some 42) HT_.1 ?_
       refine aU 9 (N := some 43) HT_.1 ?_
       refine aU 10 (N := some 44) HT_.1 ?_
       refine gF 7 (N := some 41) HT_.1 HW_.1 hHeld ?_
       refine gF 11 (N := some 45) HT_.1 HW_.1 hHeld ?_
       refine aU 12 (N := some 46) HT_.1 ?_
       refine aU 13 (N := some 47) HT_.1 ?_
       refine lI (jS HT_.1 (by kernel_rfl)) ?_
       try go_wp2
       (try simp only [<- ara])
       go_roundg k1
       case measure => have := iB.1; omega
       case rel => exact ⟨(wrap64 (fP + 1)), (abH), (aEE), (aEG), RG, H', ⟨by have := iB.1; omega⟩, ⟨by (try simp only [ara]); (with_reducible repeat (first | apply aV | apply aW | apply aQ)); exact aG HO_264002.1 (fun _ hk => ⟨hk.1, hk.2.1⟩)⟩, ⟨Er ajv.1 ara⟩, ⟨Er FY.1 ara⟩, ⟨KL HK.1⟩, ⟨BL HB.1⟩⟩
     have c30b0 := beq_eq_false_iff_ne.mpr YW
     have c30b1 := bne_iff_ne.mpr YW
     have H' := aa.mk H
     clear H
     have Jg : 0 <= (fP : Int) := OD
     have Jh : fP < (abH.length : Int) := OD
     obtain ⟨uZ, e269, Gp, Gq⟩ := iP (ay HO_264002.1).2.2 fP Jg Jh
     obtain rfl : aJU = uZ := (by injection e269)
     replace Jg := eq_true Jg
     replace Jh := eq_true Jh
     try go_wp2_with (first | ((with_reducible refine aC (N := 8) rfl ?_); refine dN (cs := #[.int .i64 0, .int .i64 0]) (t := 83) ?_; intro lq hg w52 hbox hb; refine E12 (jf (pE (PR HO_264002.1) lq (Nat.le_of_eq hg.symm)) hb) (bB ajv.1 hb) (bB FY.1 hb) (Kept.below (S := (fun k_ => cu k_)) (KL HK.1) hb) (bS HB.1 hb) (hbox) ((by rw [hg]; exact (by first | exact HK.1.1 | exact (show Kept w _ (fun k_ => cu k_) from KL HK.1).1) : w.heap.size <= lq)) (Qm hg (bZ HB.1) : w0.heap.size <= lq) (nB ajv.1 hg) (nC ajv.1 hg) (nB FY.1 hg) (nC FY.1 hg) ?_; clear HO_264002 ajv FY HK HB; intro HO_264002 ajv FY HK HB gL WT aky az4 aNv az5 aNy; clear hb hbox hg; have aKS := aNv.1; have aKT := az4.1; have avL := aNy.1; have avM := az5.1; obtain ⟨aAe, aAf, aAg, aAh⟩ := nO gL.1))
     have n_ : (fun w56 : World => (Kd.R jZ 83 w56 w0.heap.size (fun k_ => (cu k_ ∨ w.heap.size <= k_) /\ k_ ≠ abB /\ k_ ≠ lq) (.slice (some aJU) abH.length Ch) abH) /\ (w56.heap[auf]? = some (.cells #[.int .i64 ah, .int .i64 af, .slice (some aJU) abH.length Ch] 30 (0, 0))) /\ (w56.heap[abB]? = some (.cells #[.int .i64 aEE, .int .i64 aEG] 83 (0, 0))) /\ (w56.heap[lq]? = some (.cells #[.int .i64 ((aj abH fP).f0), .int .i64 ((aj abH fP).f1)] 83 (0, 0))) /\ (Kept w w56 (fun k_ => cu k_)) /\ (Below w0.heap.size w0 w56)) ((w52.setCell ⟨lq, 0, none⟩ (.int .i64 ((aj abH fP).f0))).setCell ⟨lq, 1, none⟩ (.int .i64 ((aj abH fP).f1))) := ⟨by (with_reducible repeat (first | apply aV | apply aW | apply aQ)); exact aG (RQ lq 1 (RQ lq 0 (aG HO_264002.1 (fun k_ hk => (⟨hk, hk.2⟩ : _ /\ k_ ≠ lq))) _) _) (fun _ hk => ⟨hk.1.1.1, ⟨hk.1.1.2, hk.1.2⟩⟩), by (with_reducible repeat (first | refine ak ?_ _ | refine ag ?_ | refine au ?_ _)); refine bu ?_ az4.1 _; (with_reducible repeat (first | refine ak ?_ _ | refine ag ?_ | refine au ?_ _)); refine bu ?_ az4.1 _; (with_reducible repeat (first | refine ak ?_ _ | refine ag ?_ | refine au ?_ _)); exact ajv.1, by (with_reducible repeat (first | refine ak ?_ _ | refine ag ?_ | refine au ?_ _)); refine bu ?_ az5.1 _; (with_reducible repeat (first | refine ak ?_ _ | refine ag ?_ | refine au ?_ _)); refine bu ?_ az5.1 _; (with_reducible repeat (first | refine ak ?_ _ | refine ag ?_ | refine au ?_ _)); exact FY.1, by (with_reducible repeat (first | refine ak ?_ _ | refine ag ?_ | refine au ?_ _)); refine gy (cs := #[.int .i64 ((aj abH fP).f0), .int .i64 0]) ?_ 1 _ rfl; (with_reducible repeat (first | refine ak ?_ _ | refine ag ?_ | refine au ?_ _)); refine gy (cs := #[.int .i64 0, .int .i64 0]) ?_ 0 _ rfl; (with_reducible repeat (first | refine ak ?_ _ | refine ag ?_ | refine au ?_ _)); exact gL.1, KL HK.1, BL HB.1⟩
     (try clear HO_264002)
     (try clear ajv)
     (try clear FY)
     (try clear gL)
     (try clear HK)
     (try clear HB)
     generalize ((w52.setCell ⟨lq, 0, none⟩ (.int .i64 ((aj abH fP).f0))).setCell ⟨lq, 1, none⟩ (.int .i64 ((aj abH fP).f1))) = w56 at n_ ⊢
     obtain ⟨qG, qH, qi, qI, qJ, tX⟩ := n_
     refine E6 qG qH qi qI qJ tX ?_
     clear qG qH qi qI qJ tX
     intro HO_264002 ajv FY gL HK HB
     refine E6 (aQ HO_264002.1) (ag ajv.1) (ag FY.1) (ag gL.1) (Kept.drew HK.1) (dm HB.1) ?_
     clear HO_264002 ajv FY gL HK HB
     intro HO_264002 ajv FY gL HK HB
     refine jN (n := 14) (S := fun w' => w'.cell? ⟨lq, 0, none⟩ = some (.int .i64 ((aj abH fP).f0)) /\ w'.cell? ⟨lq, 1, none⟩ = some (.int .i64 ((aj abH fP).f1))) (ds := []) #[Zz,Zz,Zz,Zz,Zz,Zz,Zz,Zz,Zz,Zz,Zz,Zz,Zz,Zz] (by kernel_rfl) rfl rfl ⟨(ai gL.1 0).trans rfl, (ai gL.1 1).trans rfl⟩ (fun hHeld => ?_); refine iq bT.ao2 bT.bits9 (fun HT_ HW_ => ?_)
     generalize w56.drew = w57 at HO_264002 ajv FY gL HK HB hHeld ⊢
     refine aU 0 (N := some 34) HT_.1 ?_
     refine gF 1 (N := some 35) HT_.1 HW_.1 hHeld ?_
     refine aU 2 (N := some 36) HT_.1 ?_
     refine aU 3 (N := some 37) HT_.1 ?_
     refine ll (i := 4) (N := some 38) (v := undef) (a' := ?_) #[Yy,Yy,Yy,Yy,Yy,Zz,Zz,Zz,Zz,Zz,Zz,Zz,Zz,Zz] rfl rfl (nX HT_.1 (by kernel_rfl)) (fun _ _ _ h => h) (Or.inr ⟨by rfl, rfl⟩) ?_ ?_
     rotate_left
     · simp only [Act.put, List.setIfInBounds_toArray, List.set_cons_zero, List.set_cons_succ, cz, dF]
       rfl
     refine ll (i := 5) (N := some 39) (v := undef) (a' := ?_) #[Yy,Yy,Yy,Yy,Yy,Yy,Zz,Zz,Zz,Zz,Zz,Zz,Zz,Zz] rfl rfl (nX HT_.1 (by kernel_rfl)) (fun _ _ _ h => h) (Or.inr ⟨by rfl, rfl⟩) ?_ ?_
     rotate_left
     · simp only [Act.put, List.setIfInBounds_toArray, List.set_cons_zero, List.set_cons_succ, cz, dF]
       rfl
     refine ll (i := 6) (N := some 40) (v := undef) (a' := ?_) #[Yy,Yy,Yy,Yy,Yy,Yy,Yy,Zz,Zz,Zz,Zz,Zz,Zz,Zz] rfl rfl (nX HT_.1 (by kernel_rfl)) (fun _ _ _ h => h) (Or.inr ⟨by rfl, rfl⟩) ?_ ?_
     rotate_left
     · simp only [Act.put, List.setIfInBounds_toArray, List.set_cons_zero, List.set_cons_succ, cz, dF]
       rfl
     refine ll (i := 7) (N := some 41) (v := undef) (a' := ?_) #[Yy,Yy,Yy,Yy,Yy,Yy,Yy,Yy,Zz,Zz,Zz,Zz,Zz,Zz] rfl rfl (nX HT_.1 (by kernel_rfl)) (fun _ _ _ h => h) (Or.inr ⟨by rfl, rfl⟩) ?_ ?_
     rotate_left
     · simp only [Act.put, List.setIfInBounds_toArray, List.set_cons_zero, List.set_cons_succ, cz, dF]
       rfl
     refine ll (i := 8) (N := some 42) (v := undef) (a' := ?_) #[Yy,Yy,Yy,Yy,Yy,Yy,Yy,Yy,Yy,Zz,Zz,Zz,Zz,Zz] rfl rfl (nX HT_.1 (by kernel_rfl)) (fun _ _ _ h => h) (Or.inr ⟨by rfl, rfl⟩) ?_ ?_
     rotate_left
     · simp only [Act.put, List.setIfInBounds_toArray, List.set_cons_zero, List.set_cons_succ, cz, dF]
       rfl
     refine ll (i := 9) (N := some 43) (v := undef) (a' := ?_) #[Yy,Yy,Yy,Yy,Yy,Yy,Yy,Yy,Yy,Yy,Zz,Zz,Zz,Zz] rfl rfl (nX HT_.1 (by kernel_rfl)) (fun _ _ _ h => h) (Or.inr ⟨by rfl, rfl⟩) ?_ ?_
     rotate_left
     · simp only [Act.put, List.setIfInBounds_toArray, List.set_cons_zero, List.set_cons_succ, cz, dF]
       rfl
     refine ll (i := 10) (N := some 44) (v := undef) (a' := ?_) #[Yy,Yy,Yy,Yy,Yy,Yy,Yy,Yy,Yy,Yy,Yy,Zz,Zz,Zz] rfl rfl (nX HT_.1 (by kernel_rfl)) (fun _ _ _ h => h) (Or.inr ⟨by rfl, rfl⟩) ?_ ?_
     rotate_left
     · simp only [Act.put, List.setIfInBounds_toArray, List.set_cons_zero, List.set_cons_succ, cz, dF]
       rfl
     refine ll (i := 11) (N := some 45) (v := undef) (a' := ?_) #[Yy,Yy,Yy,Yy,Yy,Yy,Yy,Yy,Yy,Yy,Yy,Yy,Zz,Zz] rfl rfl (nX HT_.1 (by kernel_rfl)) (fun _ _ _ h => h) (Or.inr ⟨by rfl, rfl⟩) ?_ ?_
     rotate_left
     · simp only [Act.put, List.setIfInBounds_toArray, List.set_cons_zero, List.set_cons_succ, cz, dF]
       rfl
     refine ll (i := 12) (N := some 46) (v := undef) (a' := ?_) #[Yy,Yy,Yy,Yy,Yy,Yy,Yy,Yy,Yy,Yy,Yy,Yy,Yy,Zz] rfl rfl (nX HT_.1 (by kernel_rfl)) (fun _ _ _ h => h) (Or.inr ⟨by rfl, rfl⟩) ?_ ?_
     rotate_left
     · simp only [Act.put, List.setIfInBounds_toArray, List.set_cons_zero, List.set_cons_succ, cz, dF]
       rfl
     refine aU 13 (N := some 47) HT_.1 ?_
     refine lI (jS HT_.1 (by kernel_rfl)) ?_
     try go_wp2
     (try simp only [<- ara])
     go_roundg k1
     case measure => have := iB.1; omega
     case rel => exact ⟨(wrap64 (fP + 1)), (abH), (aEE), (aEG), RG, H', ⟨by have := iB.1; omega⟩, ⟨by (try simp only [ara]); (with_reducible repeat (first | apply aV | apply aW | apply aQ)); exact aG HO_264002.1 (fun _ hk => ⟨hk.1, hk.2.1⟩)⟩, ⟨Er ajv.1 ara⟩, ⟨Er FY.1 ara⟩, ⟨KL HK.1⟩, ⟨BL HB.1⟩⟩
   rw [ara] at c27b0
   obtain rfl := Option.some.inj H
   go_wp2
   first | go_end0 | ((try simp only [Exit.inBlock, Exit.then]); refine bodyPost_ret (results_none rfl _ _ _) rfl ?_)
   exact ⟨RF, (by first | exact (pm (aG HO_264002.1 (fun _ hk => hk.1))) | (simp only [ara]; exact (pm (aG HO_264002.1 (fun _ hk => hk.1))))), BL HB.1, KL HK.1⟩
 have c19b0 := beq_eq_false_iff_ne.mpr c19
 have c19b1 := bne_iff_ne.mpr c19
 obtain rfl := Option.some.inj H
 obtain ⟨afd, afe, anR⟩ := bv fB.1
 subst anR
 go_enter Try.func97, Try.ntmps97
 go_wp2_with (first | ((with_reducible refine aC (N := 3) rfl ?_); refine dN (cs := #[.int .i64 ah, .int .i64 af, .slice afd ae.length afe]) (t := 30) ?_; intro auf hg w59 hbox hb; refine E6 (rB fB.1 hb) (Kept.below (S := (fun k_ => cu k_)) (KL HK.1) hb) (bS HB.1 hb) (hbox) ((by rw [hg]; exact (by first | exact HK.1.1 | exact (show Kept w _ (fun k_ => cu k_) from KL HK.1).1) : w.heap.size <= auf)) (Qm hg (bZ HB.1) : w0.heap.size <= auf) ?_; clear fB HK HB; intro fB HK HB ajv aJS aJT; clear hb hbox hg; obtain ⟨aAi, aAj, aAk, aAl, aAm, aAn⟩ := gB ajv.1; have aom : 0 <= (a2 : Int) := OD; have aon : a2 < (ae.length : Int) := OD; obtain ⟨aJU, e264, OM, OO⟩ := iP (ay fB.1).2.2 a2 aom aon; cases e264; replace aom := eq_true aom; replace aon := eq_true aon) | ((with_reducible refine aC (N := 6) rfl ?_); refine dN (cs := #[.int .i64 0, .int .i64 0]) (t := 83) ?_; intro abB hg w61 hbox hb; refine E9 (jf (pE (PR fB.1) abB (Nat.le_of_eq hg.symm)) hb) (bB ajv.1 hb) (Kept.below (S := (fun k_ => cu k_)) (KL HK.1) hb) (bS HB.1 hb) (hbox) ((by rw [hg]; exact (by first | exact HK.1.1 | exact (show Kept w _ (fun k_ => cu k_) from KL HK.1).1) : w.heap.size <= abB)) (Qm hg (bZ HB.1) : w0.heap.size <= abB) (nB ajv.1 hg) (nC ajv.1 hg) ?_; clear fB ajv HK HB; intro fB ajv HK HB FY ajw ajx aDH aNu; clear hb hbox hg; have avN := aNu.1; have avO := aDH.1; obtain ⟨agk, agl, agm, agn⟩ := nO FY.1))
 first | go_end0 | ((try simp only [Exit.inBlock, Exit.then]); refine bodyPost_ret (results_none rfl _ _ _) rfl ?_)
 exact ⟨RF, by (with_reducible repeat (first | apply aV | apply aW | apply aQ)); exact aG (RQ abB 1 (RQ abB 0 (aG fB.1 (fun k_ hk => (⟨hk, hk.2⟩ : _ /\ k_ ≠ abB))) _) _) (fun _ hk => hk.1.1), BL HB.1, KL HK.1⟩
def bJ.l0 : Nat -> List Int -> Int -> List (List Int) -> Int -> Int -> Int -> Int -> List (fq) -> Int -> Int -> List (fq) -> Option (Int × Int × Int × Int × Int × (List (fq)) × (List (List Int)))
 | 0, _, _, _, _, _, _, _, _, _, _, _ => none
 | k + 1, x1, x2, j6, qR, pz, aUQ, aUR, a0Z, aRr, aRs, aTn => if pz < aUQ then (if j6.length < 5864062014805 then ((some (j6 ++ [(([pz, x2] : List Int))] : List (List Int))).bind fun aWs => ((pX.f aRr aRs aTn pz x2).bind fun aZo => (if aZo.1 = 5 then (some (2, pz, x2, aRr, aRs, aTn, aWs)) else ((fo.f k aZo.1 aZo.2 qR).bind fun aRH => ((bT.f k aRr aRs aTn x1 (wrap64 ((wrap64 (pz * aUR)) + x2))).bind fun aWt => ((iw.f (wrap64 (x2 + aRH)) 0 (wrap64 (aUR - 1))).bind fun Gt => (if Gt = true then (bJ.l0 k x1 (wrap64 (x2 + aRH)) aWs (wrap64 (-aRH)) (wrap64 (pz + 1)) aUQ aUR a0Z aRr aRs aWt) else (some (3, pz, wrap64 (x2 + aRH), aRr, aRs, aWt, aWs))))))))) else (none)) else (some (1, aUQ, x2, aRr, aRs, aTn, j6))
def bJ.f (k : Nat) (ah : Int) (af : Int) (ae : List (fq)) (l1 : List Int) (a2 : Int) : Option (Int × Int × Int × Int × Int × (List (fq)) × (List (List Int))) := (je.f ah af ae).bind fun aZp => (bJ.l0 k l1 a2 ([] : List (List Int)) 0 0 ah af ae aZp.1 aZp.2.1 aZp.2.2)
theorem bJ.mono_l : ∀ k, (∀ y0 y1 y2 y3 y4 y5 y6 y7 y8 y9 IG, dO (bJ.l0 k y0 y1 y2 y3 y4 y5 y6 y7 y8 y9 IG) (bJ.l0 (k + 1) y0 y1 y2 y3 y4 y5 y6 y7 y8 y9 IG))
 | 0 => fun _ _ _ _ _ _ _ _ _ _ _ r h => by simp [bJ.l0] at h
 | k + 1 => by
  have ja := bJ.mono_l k
  intros
  first | unfold bJ.l0
  exact LM3 ja bT.mono fo.mono
theorem bJ.mono : ∀ a0 a1 a2 a3 a4 k, dO (bJ.f k a0 a1 a2 a3 a4) (bJ.f (k + 1) a0 a1 a2 a3 a4) := by
 intro a0 a1 a2 a3 a4 k
 have ja := bJ.mono_l k
 unfold bJ.f
 exact LM3 ja bT.mono fo.mono
def bJ.T10 : Bool × List (List Nat × List Nat) := (true, [([], []), ([], []), ([0, 1], [0, 1]), ([], []), ([], []), ([2, 0, 1, 2], [2]), ([3, 5, 0, 1, 2, 3, 5], [3]), ([4, 6, 0, 1, 2, 3, 4, 5, 6], [4])])
def bJ.B10 : List Nat := [0, 0, 3, 0, 0, 7, 47, 127]
theorem bJ.avQ : mX .any (opsOf Try.f84 10) = bJ.T10 := by kernel_rfl
theorem bJ.bits10 : kr bJ.T10.2 bJ.B10 = true := by kernel_rfl
def bJ.T16 : Bool × List (List Nat × List Nat) := (true, [([], []), ([], []), ([0, 1], [0, 1]), ([], []), ([], []), ([2, 0, 1, 2], [2]), ([3, 5, 0, 1, 2, 3, 5], [3]), ([4, 6, 0, 1, 2, 3, 4, 5, 6], [4])])
def bJ.B16 : List Nat := [0, 0, 3, 0, 0, 7, 47, 127]
theorem bJ.avR : mX .any (opsOf Try.f84 16) = bJ.T16 := by kernel_rfl
theorem bJ.bits16 : kr bJ.T16.2 bJ.B16 = true := by kernel_rfl
def bJ.T17 : Bool × List (List Nat × List Nat) := (true, [([], []), ([0], [0]), ([], []), ([1, 2], [1, 2]), ([], []), ([], []), ([3, 0, 1, 2, 3], [3]), ([4, 6, 0, 1, 2, 3, 4, 6], [4]), ([5, 7, 0, 1, 2, 3, 4, 5, 6, 7], [5])])
def bJ.B17 : List Nat := [0, 1, 0, 7, 0, 0, 15, 95, 255]
theorem bJ.aaZ : mX .any (opsOf Try.f84 17) = bJ.T17 := by kernel_rfl
theorem bJ.bits17 : kr bJ.T17.2 bJ.B17 = true := by kernel_rfl
theorem bJ.calls (k : Nat) (ah : Int) (af : Int) (aK : Option Addr) (aJ : Nat) (ae : List (fq)) (A1 : Option Addr) (c1 : Nat) (l1 : List Int) (a2 : Int) (r1 : Int) (r2 : Int) (r3 : Int) (r4 : Int) (r5 : Int) (r6 : List (fq)) (r7 : List (List Int)) (w : World) (dH : Kd.C jZ w aK ae.length ae) (dG : ae.length <= aJ) (hr1 : Kd.C (Kd.int .i64) w A1 l1.length l1) (hc1 : l1.length <= c1) (h : bJ.f k ah af ae l1 a2 = some (r1, r2, r3, r4, r5, r6, r7)) :
 Calls Try.prog 84 #[.agg #[.int .i64 ah, .int .i64 af, .slice aK ae.length aJ], .slice A1 l1.length c1, .int .i64 a2] w fun e w' => ∃ v5_ v6_ : Value, e = .returned (.tuple #[.agg #[.int .i64 r1, .int .i64 r2, .int .i64 r3], .agg #[.int .i64 r4, .int .i64 r5, v5_], v6_]) /\ Kd.R jZ 83 w' w.heap.size (fun _ => True) v5_ r6 /\ Kd.S (Kd.slice 3 (Kd.int .i64)) 38 w' w.heap.size (fun _ => True) v6_ r7 /\ Below w.heap.size w w' := by
 have nH := Try.underlying30
 have YM := Try.underlying54
 have xE := Try.underlying83
 have bD := aa.mk dH
 have cO := aa.mk dG
 clear dH dG
 have HR1 := aa.mk hr1
 have vD := aa.mk hc1
 clear hr1 hc1
 have HB := aa.mk (Below.refl w.heap.size w)
 have H := h
 clear h
 unfold bJ.f at H
 replace H := dz H; obtain ⟨⟨acn, aJj, a5A⟩, A4, H⟩ := H
 dsimp only at H
 have H' := aa.mk H
 clear H
 go_enter Try.func84, Try.ntmps84
 go_wp2_with (first | ((with_reducible refine aC (N := 3) rfl ?_); refine dN (cs := #[.int .i64 ah, .int .i64 af, .slice aK ae.length aJ]) (t := 30) ?_; intro aS1 hg w5 hbox hb; refine mJ HB.1 hg hbox hb ?_; clear HB; intro HB aei beK beL; clear hb hbox hg) | ((with_reducible refine aC (N := 6) rfl ?_); refine dN (cs := #[.int .i64 0, .int .i64 0, .int .i64 0]) (t := 54) ?_; intro aBi hg w6 hbox hb; refine E7 (bB aei.1 hb) (bS HB.1 hb) (hbox) (gX HB.1 hg) (gX HB.1 hg) (nB aei.1 hg) (nC aei.1 hg) ?_; clear aei HB; intro aei HB aeu beM beN aRv aYm; clear hb hbox hg) | ((with_reducible refine aC (N := 7) rfl ?_); refine dN (cs := #[.int .i64 0, .int .i64 0, .slice none 0 0]) (t := 30) ?_; intro aCR hg w7 hbox hb; refine E10 (bB aei.1 hb) (bB aeu.1 hb) (bS HB.1 hb) (hbox) (gX HB.1 hg) (gX HB.1 hg) (nB aei.1 hg) (nC aei.1 hg) (nB aeu.1 hg) (nC aeu.1 hg) ?_; clear aei aeu HB; intro aei aeu HB aeP beO beP aRw aYn aJn aJo; clear hb hbox hg; have aEg := aRv.1; have aEh := aYm.1; have aeJ := aRw.1; have aeK := aYn.1; obtain ⟨pR, pU, uN, pV, pW, uO⟩ := gB aei.1) | ((with_reducible refine aA (f := 94) rfl ?_); refine cK (N := (some 16)) #[.agg #[.int .i64 ah, .int .i64 af, .slice aK ae.length aJ]] Try.func94 ?_; (with_reducible refine (je.calls ah af _ _ ae acn aJj a5A _ ?side1 ?side2 A4.1).mono ?_); (case side1 => exact CB (aY bD.1 HB.1)); (case side2 => exact cO.1); rintro e qy ⟨bg6, rfl, ho0, hb⟩; refine ⟨_, rfl, ?_⟩; refine E5 (bN ho0 (bZ HB.1)) (bB aei.1 hb) (bB aeu.1 hb) (bB aeP.1 hb) (bS HB.1 hb) ?_; clear aei aeu aeP HB; intro aVz aei aeu aeP HB; (try clear hb); (try clear ho0)) | ((with_reducible refine aC (N := 9) rfl ?_); refine dN (cs := #[.int .i64 0, .int .i64 0, .slice none 0 0]) (t := 30) ?_; intro aIB hg yC hbox hb; refine E14 (rB aVz.1 hb) (bB aei.1 hb) (bB aeu.1 hb) (bB aeP.1 hb) (bS HB.1 hb) (hbox) (gX HB.1 hg) (gX HB.1 hg) (nB aei.1 hg) (nC aei.1 hg) (nB aeu.1 hg) (nC aeu.1 hg) (nB aeP.1 hg) (nC aeP.1 hg) ?_; clear aVz aei aeu aeP HB; intro aVz aei aeu aeP HB ae5 beQ beR aRx aYo aG2 axW aG3 axZ; clear hb hbox hg; have avw := aYo.1; have avx := aRx.1; have aK5 := axW.1; have aK6 := aG2.1; have asH := axZ.1; have asI := aG3.1; obtain ⟨wm, wo, zQ, wu, ww, zR⟩ := gB ae5.1; obtain ⟨YH, Ja, Jb⟩ := bv aVz.1; subst Jb))
 go_loopg [2, 10, 11, 12] k (fun kq v2 v10 v11 v12 w' => ∃ (kz : Int) (bE : List (List Int)) (iQ : Int) (bK : Int) (aHa : Int) (aHh : Int) (aHi : Int) (aHj : Int) (aHk : Int) (akL : List (fq)) (aUS : Value), v2 = .int .i64 kz /\ v11 = .int .i64 iQ /\ v12 = .int .i64 bK /\ aa (bJ.l0 kq l1 kz bE iQ bK ah af ae acn aJj akL = some (r1, r2, r3, r4, r5, r6, r7)) /\ aa (kq <= k) /\ aa (Kd.S (Kd.slice 3 (Kd.int .i64)) 38 w' w.heap.size (fun _ => True) v10 bE) /\ aa (Kd.R jZ 83 w' w.heap.size (fun _ => True) aUS akL) /\ aa (w'.heap[aS1]? = some (.cells #[.int .i64 ah, .int .i64 af, (.slice aK ae.length aJ)] 30 (0, 0))) /\ aa (w'.heap[aBi]? = some (.cells #[.int .i64 aHa, .int .i64 aHh, .int .i64 aHi] 54 (0, 0))) /\ aa (w'.heap[aCR]? = some (.cells #[.int .i64 aHj, .int .i64 aHk, (.slice none 0 0)] 30 (0, 0))) /\ aa (w'.heap[aIB]? = some (.cells #[.int .i64 acn, .int .i64 aJj, aUS] 30 (0, 0))) /\ aa (Below w.heap.size w w'))
 case atStart => exact ⟨(a2), (([] : List (List Int))), (0), (0), (0), (0), (0), (0), (0), (a5A), (.slice YH a5A.length Ja), RG, RG, RG, H', ⟨Nat.le_refl _⟩, ⟨by first | exact EY _ _ _ _ _ | exact ET _ _ _ _ _ | exact EU _ _ _ _ _ | exact EW _ _ _ _ _ | exact tO _ _ _ _ _⟩, ⟨by (with_reducible repeat (first | apply aV | apply aW | apply aQ)); exact aG (RQ aIB 2 (RQ aIB 1 (RQ aIB 0 (bz aVz.1 ae5.1 (by decide)) _) _) _) (fun _ hk => trivial)⟩, ⟨by (with_reducible repeat (first | refine ak ?_ _ | refine ag ?_ | refine au ?_ _)); refine bu ?_ aRx.1 _; (with_reducible repeat (first | refine ak ?_ _ | refine ag ?_ | refine au ?_ _)); refine bu ?_ aRx.1 _; (with_reducible repeat (first | refine ak ?_ _ | refine ag ?_ | refine au ?_ _)); refine bu ?_ aRx.1 _; (with_reducible repeat (first | refine ak ?_ _ | refine ag ?_ | refine au ?_ _)); exact aei.1⟩, ⟨by (with_reducible repeat (first | refine ak ?_ _ | refine ag ?_ | refine au ?_ _)); refine bu ?_ aG2.1 _; (with_reducible repeat (first | refine ak ?_ _ | refine ag ?_ | refine au ?_ _)); refine bu ?_ aG2.1 _; (with_reducible repeat (first | refine ak ?_ _ | refine ag ?_ | refine au ?_ _)); refine bu ?_ aG2.1 _; (with_reducible repeat (first | refine ak ?_ _ | refine ag ?_ | refine au ?_ _)); exact aeu.1⟩, ⟨by (with_reducible repeat (first | refine ak ?_ _ | refine ag ?_ | refine au ?_ _)); refine bu ?_ aG3.1 _; (with_reducible repeat (first | refine ak ?_ _ | refine ag ?_ | refine au ?_ _)); refine bu ?_ aG3.1 _; (with_reducible repeat (first | refine ak ?_ _ | refine ag ?_ | refine au ?_ _)); refine bu ?_ aG3.1 _; (with_reducible repeat (first | refine ak ?_ _ | refine ag ?_ | refine au ?_ _)); exact aeP.1⟩, ⟨by (with_reducible repeat (first | refine ak ?_ _ | refine ag ?_ | refine au ?_ _)); refine gy (cs := #[.int .i64 acn, .int .i64 aJj, .slice none 0 0]) ?_ 2 _ rfl; (with_reducible repeat (first | refine ak ?_ _ | refine ag ?_ | refine au ?_ _)); refine gy (cs := #[.int .i64 acn, .int .i64 0, .slice none 0 0]) ?_ 1 _ rfl; (with_reducible repeat (first | refine ak ?_ _ | refine ag ?_ | refine au ?_ _)); refine gy (cs := #[.int .i64 0, .int .i64 0, .slice none 0 0]) ?_ 0 _ rfl; (with_reducible repeat (first | refine ak ?_ _ | refine ag ?_ | refine au ?_ _)); exact ae5.1⟩, ⟨BL HB.1⟩⟩
 clear H'
 try clear c1; clear pR pU uN wm wo zQ pV pW uO wu ww zR
 obtain ⟨kz, bE, iQ, bK, aHa, aHh, aHi, aHj, aHk, akL, aUS, rfl, rfl, rfl, HA, iB, HO_10, HO_285002, aei, aeu, aeP, ae5, HB⟩ := hrel
 cases gk with
 | zero => exact absurd HA.1 (by simp [bJ.l0])
 | succ k1 => ?_
 have H := HA.1
 clear HA
 simp only [bJ.l0] at H
 replace H := pu H; rcases H with ⟨c18b0, H⟩ | ⟨c18b0, H⟩
 · generalize a2Q : ((([bK, kz] : List Int)) : List Int) = aUT at H
   have aUh := aa.mk a2Q.symm; clear a2Q
   replace H := oC H; obtain ⟨c19, H⟩ := H
   have acw := aa.mk c19
   clear c19
   replace H := nR H; obtain ⟨aWs, aZq, H⟩ := H
   replace H := dz H; obtain ⟨⟨aSj, aSP⟩, A20, H⟩ := H
   dsimp only at H
   replace H := oP H; rcases H with ⟨c21, H⟩ | ⟨c21, H⟩
   · have c21b0 := beq_iff_eq.mpr c21
     have c21b1 := bne_eq_false_iff_eq.mpr c21
     clear c21
     simp only [Option.some.injEq, Prod.mk.injEq] at H
     obtain ⟨rfl, rfl, rfl, rfl, rfl, rfl, rfl⟩ := H
     obtain ⟨CQ, CR, JB, CS, CU, JC⟩ := gB aei.1
     try go_wp2_with (first | ((with_reducible refine aC (N := 26) rfl ?_); refine qh (Kd.int .i64) _ 3 ?hg (N := 26) ?hd (xs := ([bK, kz] : List Int)) (inner := [.int .i64 bK, .int .i64 kz]) (ok := fun _ => True) (okp := fun _ => True) ?hr ?hp (fun _ hk => hk) trivial (Below.refl _ _) (Nat.le_refl _) (by simp) ?_; (case hd => rfl); (case hg => rfl); (case hr => first | (go_simp; done) | (go_simp; rfl)); (case hp => exact (fK.one (show Kd.M (Kd.int .i64) _ _ _ bK [.int .i64 bK] from rfl) (fK.one (show Kd.M (Kd.int .i64) _ _ _ kz [.int .i64 kz] from rfl) (fK.none _ _)))); intro a9h w26 EH hb hg_ hnew_; clear hg_ hnew_; (first | rw [<- aUh.1] at EH | (simp only [Int.reduceToNat] at EH; rw [<- aUh.1] at EH)); refine E8 (kW (PS HO_10.1) (fe EH) hb) (rB HO_285002.1 hb) (bN EH (bZ HB.1)) (bB aei.1 hb) (bB aeu.1 hb) (bB aeP.1 hb) (bB ae5.1 hb) (bS HB.1 hb) ?_; clear HO_10 HO_285002 aei aeu aeP ae5 HB; intro HO_10 HO_285002 aMu aei aeu aeP ae5 HB; clear hb EH; obtain ⟨avU, avV, aGd⟩ := bv aMu.1; subst aGd) | ((with_reducible refine bf (b := .append) (xs := #[.tmp 23, .tmp 27]) rfl ?_); at_builtin; refine uV (Kd.slice 3 (Kd.int .i64)) (w0 := w) w.heap.size rfl (.tmp 23) (.tmp 27) 60 38 (.slice none 0 0) 24 rfl Try.underlying60 Ab rfl (by decide) (by omega) u10 bE aUT [.slice avU aUT.length avV] (fun _ => True) (fun k_ => some k_ = (.slice avU aUT.length avV : Value).ownBlock) rfl rfl ?aP (fun k_ hk_ => ((aG (ok' := fun k_ => ((fun _ => True)) k_ /\ some k_ ≠ (u10 : Value).ownBlock) (eH (aMu.1) (jW HO_10.1) (by decide)) (fun k_ hk => ⟨trivial, hk.2⟩))).1 k_ hk_.symm) ?aF ?aO ?aB ?aS ?aL ?_; (case aP => exact BC (aG (jR rfl (aG (ok' := fun k_ => ((fun _ => True)) k_ /\ some k_ ≠ (u10 : Value).ownBlock) (eH (aMu.1) (jW HO_10.1) (by decide)) (fun k_ hk => ⟨trivial, hk.2⟩))) (fun _ h_ => h_))); (case aB => exact (BL HB.1)); (case aF => exact (fun _ _ => trivial)); (case aO => exact (ES (eY HO_10.1 (fun k_ hk => ⟨trivial, fun e_ => hk.2 e_⟩)))); (case aS => exact (bZ HB.1)); (case aL => have := acw.1; omega); intro a00 w28 ho hb hg hat; rw [<- aZq.1] at ho; refine E7 (kF (PR HO_285002.1) (jW (PS HO_10.1)) (by decide) hg) (bG aei.1 hg (xe HO_10.1 aei.1 (by decide))) (bG aeu.1 hg (xe HO_10.1 aeu.1 (by decide))) (bG aeP.1 hg (xe HO_10.1 aeP.1 (by decide))) (bG ae5.1 hg (xe HO_10.1 ae5.1 (by decide))) (hb) (ho) ?_; clear HO_285002 aei aeu aeP ae5 HB HO_10 aMu; intro HO_285002 aei aeu aeP ae5 HB arb; clear ho hb hg hat; have aK7 := axW.1; have aK8 := aG2.1; have aK9 := axZ.1; have aLa := aG3.1; obtain ⟨J2, J3, J4, J5, J6, J7⟩ := gB ae5.1; obtain ⟨acy, acz, aGe⟩ := bv HO_285002.1; subst aGe) | ((with_reducible refine aA (f := 95) rfl ?_); refine cK (N := (some 32)) #[.agg #[.int .i64 acn, .int .i64 aJj, .slice acy akL.length acz], .int .i64 bK, .int .i64 kz] Try.func95 ?_; (with_reducible refine (pX.calls acn aJj _ _ akL bK kz aSj aSP _ ?side1 ?side2 A20.1).mono ?_); (case side1 => exact CB (ay HO_285002.1).2.2); (case side2 => exact (ay HO_285002.1).2.1); rintro e w34 ⟨rfl, hb⟩; refine ⟨_, rfl, ?_⟩; refine E7 (rB HO_285002.1 hb) (sB arb.1 hb) (bB aei.1 hb) (bB aeu.1 hb) (bB aeP.1 hb) (bB ae5.1 hb) (bS HB.1 hb) ?_; clear HO_285002 arb aei aeu aeP ae5 HB; intro HO_285002 arb aei aeu aeP ae5 HB; (try clear hb)) | ((with_reducible refine aC (N := 13) rfl ?_); refine dN (cs := #[.int .i64 0, .int .i64 0]) (t := 83) ?_; intro azl hg Qi hbox hb; refine E18 (jf (pE (PR HO_285002.1) azl (Nat.le_of_eq hg.symm)) hb) (sB arb.1 hb) (bB aei.1 hb) (bB aeu.1 hb) (bB aeP.1 hb) (bB ae5.1 hb) (bS HB.1 hb) (hbox) (gX HB.1 hg) (gX HB.1 hg) (nB aei.1 hg) (nC aei.1 hg) (nB aeu.1 hg) (nC aeu.1 hg) (nB aeP.1 hg) (nC aeP.1 hg) (nB ae5.1 hg) (nC ae5.1 hg) ?_; clear HO_285002 arb aei aeu aeP ae5 HB; intro HO_285002 arb aei aeu aeP ae5 HB asY a2S a2T aDJ aNz aD4 aND aD5 aNE aD8 aNF; clear hb hbox hg; have aLb := aNz.1; have aLc := aDJ.1; have aLd := aND.1; have aLe := aD4.1; have avz := aNE.1; have avA := aD5.1; have avB := aNF.1; have avC := aD8.1; obtain ⟨JF, JG, JH, JI⟩ := nO asY.1))
     have n_ : (fun MG : World => (Kd.R jZ 83 MG w.heap.size (fun k_ => k_ ≠ azl) (.slice acy akL.length acz) akL) /\ (Kd.S (Kd.slice 3 (Kd.int .i64)) 38 MG w.heap.size (fun _ => True) a00 aWs) /\ (MG.heap[aS1]? = some (.cells #[.int .i64 ah, .int .i64 af, .slice aK ae.length aJ] 30 (0, 0))) /\ (MG.heap[aBi]? = some (.cells #[.int .i64 aHa, .int .i64 aHh, .int .i64 aHi] 54 (0, 0))) /\ (MG.heap[aCR]? = some (.cells #[.int .i64 aHj, .int .i64 aHk, .slice none 0 0] 30 (0, 0))) /\ (MG.heap[aIB]? = some (.cells #[.int .i64 acn, .int .i64 aJj, .slice acy akL.length acz] 30 (0, 0))) /\ (MG.heap[azl]? = some (.cells #[.int .i64 aSj, .int .i64 aSP] 83 (0, 0))) /\ (Below w.heap.size w MG)) ((Qi.setCell ⟨azl, 0, none⟩ (.int .i64 aSj)).setCell ⟨azl, 1, none⟩ (.int .i64 aSP)) := ⟨by (with_reducible repeat (first | apply aV | apply aW | apply aQ)); exact aG (RQ azl 1 (RQ azl 0 (aG HO_285002.1 (fun k_ hk => (⟨hk, hk.2⟩ : _ /\ k_ ≠ azl))) _) _) (fun _ hk => hk.1.2), by (with_reducible repeat (first | apply jF | apply jG | apply iV)); exact eY (SQ azl 1 (SQ azl 0 (kG arb.1 asY.1 (by decide)) _) _) (fun _ hk => trivial), by (with_reducible repeat (first | refine ak ?_ _ | refine ag ?_ | refine au ?_ _)); refine bu ?_ aDJ.1 _; (with_reducible repeat (first | refine ak ?_ _ | refine ag ?_ | refine au ?_ _)); refine bu ?_ aDJ.1 _; (with_reducible repeat (first | refine ak ?_ _ | refine ag ?_ | refine au ?_ _)); exact aei.1, by (with_reducible repeat (first | refine ak ?_ _ | refine ag ?_ | refine au ?_ _)); refine bu ?_ aD4.1 _; (with_reducible repeat (first | refine ak ?_ _ | refine ag ?_ | refine au ?_ _)); refine bu ?_ aD4.1 _; (with_reducible repeat (first | refine ak ?_ _ | refine ag ?_ | refine au ?_ _)); exact aeu.1, by (with_reducible repeat (first | refine ak ?_ _ | refine ag ?_ | refine au ?_ _)); refine bu ?_ aD5.1 _; (with_reducible repeat (first | refine ak ?_ _ | refine ag ?_ | refine au ?_ _)); refine bu ?_ aD5.1 _; (with_reducible repeat (first | refine ak ?_ _ | refine ag ?_ | refine au ?_ _)); exact aeP.1, by (with_reducible repeat (first | refine ak ?_ _ | refine ag ?_ | refine au ?_ _)); refine bu ?_ aD8.1 _; (with_reducible repeat (first | refine ak ?_ _ | refine ag ?_ | refine au ?_ _)); refine bu ?_ aD8.1 _; (with_reducible repeat (first | refine ak ?_ _ | refine ag ?_ | refine au ?_ _)); exact ae5.1, by (with_reducible repeat (first | refine ak ?_ _ | refine ag ?_ | refine au ?_ _)); refine gy (cs := #[.int .i64 aSj, .int .i64 0]) ?_ 1 _ rfl; (with_reducible repeat (first | refine ak ?_ _ | refine ag ?_ | refine au ?_ _)); refine gy (cs := #[.int .i64 0, .int .i64 0]) ?_ 0 _ rfl; (with_reducible repeat (first | refine ak ?_ _ | refine ag ?_ | refine au ?_ _)); exact asY.1, BL HB.1⟩
     (try clear HO_285002)
     (try clear arb)
     (try clear aei)
     (try clear aeu)
     (try clear aeP)
     (try clear ae5)
     (try clear asY)
     (try clear HB)
     generalize ((Qi.setCell ⟨azl, 0, none⟩ (.int .i64 aSj)).setCell ⟨azl, 1, none⟩ (.int .i64 aSP)) = MG at n_ ⊢
     obtain ⟨qG, qH, qi, qI, qJ, tX, xk, zk⟩ := n_
     refine E8 qG qH qi qI qJ tX xk zk ?_
     clear qG qH qi qI qJ tX xk zk
     intro HO_285002 arb aei aeu aeP ae5 asY HB
     refine E8 (aQ HO_285002.1) (iV arb.1) (ag aei.1) (ag aeu.1) (ag aeP.1) (ag ae5.1) (ag asY.1) (dm HB.1) ?_
     clear HO_285002 arb aei aeu aeP ae5 asY HB
     intro HO_285002 arb aei aeu aeP ae5 asY HB
     refine jN (n := 8) (S := fun w' => w'.cell? ⟨aIB, 0, none⟩ = some (.int .i64 acn) /\ w'.cell? ⟨aIB, 1, none⟩ = some (.int .i64 aJj) /\ w'.cell? ⟨aIB, 2, none⟩ = some (.slice acy akL.length acz)) (ds := []) #[Zz,Zz,Zz,Zz,Zz,Zz,Zz,Zz] (by kernel_rfl) rfl rfl ⟨(ai ae5.1 0).trans rfl, (ai ae5.1 1).trans rfl, (ai ae5.1 2).trans rfl⟩ (fun hHeld => ?_); refine iq bJ.avQ bJ.bits10 (fun HT_ HW_ => ?_)
     generalize MG.drew = w42 at HO_285002 arb aei aeu aeP ae5 asY HB hHeld ⊢
     refine aU 0 (N := some 36) HT_.1 ?_
     refine aU 1 (N := some 37) HT_.1 ?_
     refine aU 2 (N := some 38) HT_.1 ?_
     refine aU 4 (N := some 40) HT_.1 ?_
     refine gF 3 (N := some 39) HT_.1 HW_.1 hHeld ?_
     refine mV (i := 5) (N := none) #[Yy,Yy,Yy,Yy,Yy,Yy,Zz,Zz] rfl rfl (jc HT_.1 (by kernel_rfl)) (by decide) (fun K hK => ?_)
     obtain ⟨aPG, aPH, aPI, aLf, aLg, aLh⟩ := gB aeu.1
     have aAo := aJo.1
     have aAp := aJn.1
     refine pF (w1 := ?_) (by rfl) rfl ?_ ?_
     rotate_left
     · go_simp
       rfl
     refine hK.out _ _ ⟨(rP axW.1 hHeld.1), (rP axW.1 hHeld.2.1), (rP axW.1 hHeld.2.2)⟩ (fun hHeld => ?_)
     clear hK K
     refine mV (i := 6) (N := none) #[Yy,Yy,Yy,Yy,Yy,Yy,Yy,Zz] rfl rfl (jc HT_.1 (by kernel_rfl)) (by decide) (fun K hK => ?_)
     obtain ⟨aPJ, aPK, aPL, aLi, aLj, aLk⟩ := gB aeP.1
     refine pF (w1 := ?_) (by rfl) rfl ?_ ?_
     rotate_left
     · go_simp
       rfl
     refine hK.out _ _ ⟨(rP axZ.1 hHeld.1), (rP axZ.1 hHeld.2.1), (rP axZ.1 hHeld.2.2)⟩ (fun hHeld => ?_)
     clear hK K
     refine aU 7 (N := some 8) HT_.1 ?_
     refine lI (jS HT_.1 (by kernel_rfl)) ?_
     try go_wp2
     refine bodyPost_ret (Ae (rs := [.cell 6 54, .cell 7 30, .tmp 8]) rfl (by simp) (.cell aBi 54 #[.int .i64 2, .int .i64 bK, .int .i64 kz] (0, 0) _ rfl (xB aJn.1 aeu.1) Try.underlying54 rfl (by kernel_rfl) (.cell aCR 30 #[.int .i64 acn, .int .i64 aJj, .slice acy akL.length acz] (0, 0) _ rfl (xB aJo.1 aeP.1) Try.underlying30 rfl (by kernel_rfl) (.tmp .nil)))) rfl ?_
     exact ⟨_, _, RF, by (with_reducible repeat (first | apply aV | apply aW | apply aQ)); exact aG (RQ aCR 2 (RQ aCR 1 (RQ aCR 0 (mY (p := ⟨aBi, 2, none⟩) (mY (p := ⟨aBi, 1, none⟩) (mY (p := ⟨aBi, 0, none⟩) (bz (bz HO_285002.1 aeu.1 (by decide)) aeP.1 (by decide)) (fun _ hk => hk.1.2) (.int .i64 2)) (fun _ hk => hk.1.2) (.int .i64 bK)) (fun _ hk => hk.1.2) (.int .i64 kz)) _) _) _) (fun _ hk => trivial), by (with_reducible repeat (first | apply jF | apply jG | apply iV)); exact eY (SQ aCR 2 (SQ aCR 1 (SQ aCR 0 (xR (p := ⟨aBi, 2, none⟩) (xR (p := ⟨aBi, 1, none⟩) (xR (p := ⟨aBi, 0, none⟩) (kG (kG arb.1 aeu.1 (by decide)) aeP.1 (by decide)) (fun _ hk => hk.1.2) (.int .i64 2)) (fun _ hk => hk.1.2) (.int .i64 bK)) (fun _ hk => hk.1.2) (.int .i64 kz)) _) _) _) (fun _ hk => trivial), BL HB.1⟩
   have c21b0 := beq_eq_false_iff_ne.mpr c21
   have c21b1 := bne_iff_ne.mpr c21
   replace H := dz H; obtain ⟨aRH, A49, H⟩ := H
   replace H := dz H; obtain ⟨aWt, A50, H⟩ := H
   replace H := dz H; obtain ⟨Gt, A51, H⟩ := H
   replace H := Cm H; rcases H with ⟨rfl, H⟩ | ⟨rfl, H⟩
   · have H' := aa.mk H
     clear H
     obtain ⟨agr, ags, aAq, agt, agu, aAr⟩ := gB aei.1
     go_wp2_with (first | ((with_reducible refine aC (N := 26) rfl ?_); refine qh (Kd.int .i64) _ 3 ?hg (N := 26) ?hd (xs := ([bK, kz] : List Int)) (inner := [.int .i64 bK, .int .i64 kz]) (ok := fun _ => True) (okp := fun _ => True) ?hr ?hp (fun _ hk => hk) trivial (Below.refl _ _) (Nat.le_refl _) (by simp) ?_; (case hd => rfl); (case hg => rfl); (case hr => first | (go_simp; done) | (go_simp; rfl)); (case hp => exact (fK.one (show Kd.M (Kd.int .i64) _ _ _ bK [.int .i64 bK] from rfl) (fK.one (show Kd.M (Kd.int .i64) _ _ _ kz [.int .i64 kz] from rfl) (fK.none _ _)))); intro a9h w57 Y7 hb hg_ hnew_; clear hg_ hnew_; (first | rw [<- aUh.1] at Y7 | (simp only [Int.reduceToNat] at Y7; rw [<- aUh.1] at Y7)); refine E8 (kW (PS HO_10.1) (fe Y7) hb) (rB HO_285002.1 hb) (bN Y7 (bZ HB.1)) (bB aei.1 hb) (bB aeu.1 hb) (bB aeP.1 hb) (bB ae5.1 hb) (bS HB.1 hb) ?_; clear HO_10 HO_285002 aei aeu aeP ae5 HB; intro HO_10 HO_285002 aMu aei aeu aeP ae5 HB; clear hb Y7; obtain ⟨agv, agw, ao6⟩ := bv aMu.1; subst ao6) | ((with_reducible refine bf (b := .append) (xs := #[.tmp 23, .tmp 27]) rfl ?_); at_builtin; refine uV (Kd.slice 3 (Kd.int .i64)) (w0 := w) w.heap.size rfl (.tmp 23) (.tmp 27) 60 38 (.slice none 0 0) 24 rfl Try.underlying60 Ab rfl (by decide) (by omega) u10 bE aUT [.slice agv aUT.length agw] (fun _ => True) (fun k_ => some k_ = (.slice agv aUT.length agw : Value).ownBlock) rfl rfl ?aP (fun k_ hk_ => ((aG (ok' := fun k_ => ((fun _ => True)) k_ /\ some k_ ≠ (u10 : Value).ownBlock) (eH (aMu.1) (jW HO_10.1) (by decide)) (fun k_ hk => ⟨trivial, hk.2⟩))).1 k_ hk_.symm) ?aF ?aO ?aB ?aS ?aL ?_; (case aP => exact BC (aG (jR rfl (aG (ok' := fun k_ => ((fun _ => True)) k_ /\ some k_ ≠ (u10 : Value).ownBlock) (eH (aMu.1) (jW HO_10.1) (by decide)) (fun k_ hk => ⟨trivial, hk.2⟩))) (fun _ h_ => h_))); (case aB => exact (BL HB.1)); (case aF => exact (fun _ _ => trivial)); (case aO => exact (ES (eY HO_10.1 (fun k_ hk => ⟨trivial, fun e_ => hk.2 e_⟩)))); (case aS => exact (bZ HB.1)); (case aL => have := acw.1; omega); intro a00 w59 ho hb hg hat; rw [<- aZq.1] at ho; refine E7 (kF (PR HO_285002.1) (jW (PS HO_10.1)) (by decide) hg) (bG aei.1 hg (xe HO_10.1 aei.1 (by decide))) (bG aeu.1 hg (xe HO_10.1 aeu.1 (by decide))) (bG aeP.1 hg (xe HO_10.1 aeP.1 (by decide))) (bG ae5.1 hg (xe HO_10.1 ae5.1 (by decide))) (hb) (ho) ?_; clear HO_285002 aei aeu aeP ae5 HB HO_10 aMu; intro HO_285002 aei aeu aeP ae5 HB arb; clear ho hb hg hat; have aLm := axW.1; have aLn := aG2.1; have avN := axZ.1; have avO := aG3.1; obtain ⟨agk, agl, aAs, agm, agn, aAt⟩ := gB ae5.1; obtain ⟨Y8, Uz, agx⟩ := bv HO_285002.1; subst agx) | ((with_reducible refine aA (f := 95) rfl ?_); refine cK (N := (some 32)) #[.agg #[.int .i64 acn, .int .i64 aJj, .slice Y8 akL.length Uz], .int .i64 bK, .int .i64 kz] Try.func95 ?_; (with_reducible refine (pX.calls acn aJj _ _ akL bK kz aSj aSP _ ?side1 ?side2 A20.1).mono ?_); (case side1 => exact CB (ay HO_285002.1).2.2); (case side2 => exact (ay HO_285002.1).2.1); rintro e w65 ⟨rfl, hb⟩; refine ⟨_, rfl, ?_⟩; refine E7 (rB HO_285002.1 hb) (sB arb.1 hb) (bB aei.1 hb) (bB aeu.1 hb) (bB aeP.1 hb) (bB ae5.1 hb) (bS HB.1 hb) ?_; clear HO_285002 arb aei aeu aeP ae5 HB; intro HO_285002 arb aei aeu aeP ae5 HB; (try clear hb)) | ((with_reducible refine aC (N := 13) rfl ?_); refine dN (cs := #[.int .i64 0, .int .i64 0]) (t := 83) ?_; intro azl hg w66 hbox hb; refine E18 (jf (pE (PR HO_285002.1) azl (Nat.le_of_eq hg.symm)) hb) (sB arb.1 hb) (bB aei.1 hb) (bB aeu.1 hb) (bB aeP.1 hb) (bB ae5.1 hb) (bS HB.1 hb) (hbox) (gX HB.1 hg) (gX HB.1 hg) (nB aei.1 hg) (nC aei.1 hg) (nB aeu.1 hg) (nC aeu.1 hg) (nB aeP.1 hg) (nC aeP.1 hg) (nB ae5.1 hg) (nC ae5.1 hg) ?_; clear HO_285002 arb aei aeu aeP ae5 HB; intro HO_285002 arb aei aeu aeP ae5 HB asY a2S a2T aDJ aNz aD4 aND aD5 aNE aD8 aNF; clear hb hbox hg; have aLo := aNz.1; have aLp := aDJ.1; have aLq := aND.1; have aLr := aD4.1; have aLs := aNE.1; have aLt := aD5.1; have avW := aNF.1; have avX := aD8.1; obtain ⟨WO, WP, WQ, WR⟩ := nO asY.1) | ((with_reducible refine aA (f := 96) rfl ?_); refine cK (N := (some 43)) #[.agg #[.int .i64 aSj, .int .i64 aSP], .int .i64 iQ] Try.func96 ?_; (with_reducible refine (fo.calls k1 aSj aSP iQ aRH _ A49.1).mono ?_); rintro e w72 ⟨rfl, hb⟩; refine ⟨_, rfl, ?_⟩; refine E8 (jf (by (with_reducible repeat (first | apply aV | apply aW | apply aQ)); exact (aG (RQ azl 1 (RQ azl 0 (aG HO_285002.1 (fun k_ hk => (⟨hk, hk.2⟩ : _ /\ k_ ≠ azl))) _) _) (fun _ h_ => h_.1))) hb) (Cy (by (with_reducible repeat (first | apply jF | apply jG | apply iV)); exact (eY (SQ azl 1 (SQ azl 0 (kG arb.1 asY.1 (by decide)) _) _) (fun _ h_ => h_.1))) hb) (dh (g := aS1) (o := .cells #[.int .i64 ah, .int .i64 af, .slice aK ae.length aJ] 30 (0, 0)) (xB aDJ.1 aei.1) hb) (dh (g := aBi) (o := .cells #[.int .i64 aHa, .int .i64 aHh, .int .i64 aHi] 54 (0, 0)) (xB aD4.1 aeu.1) hb) (dh (g := aCR) (o := .cells #[.int .i64 aHj, .int .i64 aHk, .slice none 0 0] 30 (0, 0)) (xB aD5.1 aeP.1) hb) (dh (g := aIB) (o := .cells #[.int .i64 acn, .int .i64 aJj, .slice Y8 akL.length Uz] 30 (0, 0)) (xB aD8.1 ae5.1) hb) (dh (g := azl) (o := .cells #[.int .i64 aSj, .int .i64 aSP] 83 (0, 0)) (BB asY.1) hb) (bS HB.1 hb) ?_; clear HO_285002 arb aei aeu aeP ae5 asY HB; intro HO_285002 arb aei aeu aeP ae5 asY HB; (try clear hb); (try clear hk); obtain ⟨agy, agz, agA, agB, agC, agD⟩ := gB ae5.1; obtain ⟨agE, agF, agG, agH, agI, agJ⟩ := gB aei.1) | ((with_reducible refine aA (f := 97) rfl ?_); refine cK (N := (some 52)) #[.agg #[.int .i64 acn, .int .i64 aJj, .slice Y8 akL.length Uz], .slice A1 l1.length c1, .int .i64 (wrap64 ((wrap64 (bK * af)) + kz))] Try.func97 ?_; (with_reducible refine (bT.calls k1 acn aJj (fun k_ => some k_ = (.slice Y8 akL.length Uz : Value).ownBlock) (.slice Y8 akL.length Uz) akL _ _ l1 (wrap64 ((wrap64 (bK * af)) + kz)) aWt w _ ?side1 ?side2 ?side3 ?side4 A50.1).mono ?_); (case side1 => exact BL HB.1); (case side2 => exact jR rfl HO_285002.1); (case side3 => exact xV (Kd.uU .i64) HR1.1 (BL HB.1) (fun k_ hs_ => (fun e_ => fe HO_285002.1 k_ e_.symm) hs_)); (case side4 => exact vD.1); rintro e w75 ⟨rfl, hy0, hb, hkp⟩; refine ⟨_, rfl, ?_⟩; refine E8 (qp rfl hy0 (fun k_ e_ => HO_285002.1.1 k_ e_)) (eQ (PB aei.1) hkp (fun hs_ => (fun e_ => (dK HO_285002.1 aei.1 (by decide)) e_) hs_)) (eQ (PB aeu.1) hkp (fun hs_ => (fun e_ => (dK HO_285002.1 aeu.1 (by decide)) e_) hs_)) (eQ (PB aeP.1) hkp (fun hs_ => (fun e_ => (dK HO_285002.1 aeP.1 (by decide)) e_) hs_)) (eQ (PB ae5.1) hkp (fun hs_ => (fun e_ => (dK HO_285002.1 ae5.1 (by decide)) e_) hs_)) (eY (ok' := fun k_ => True) (wE ((qC arb.1 (dY HO_285002.1) (by decide))) hkp (fun k_ hk_ hs_ => (hk_.2) hs_)) (fun k_ hk_ => trivial)) (eQ (PB asY.1) hkp (fun hs_ => (fun e_ => (BQ HO_285002.1 (fun _ hk => hk.2)) e_) hs_)) (hb) ?_; clear HO_285002 aei aeu aeP ae5 arb asY HB; intro HO_285002 aei aeu aeP ae5 arb asY HB; (try clear hb); (try clear hkp); (try clear hy0); obtain ⟨aAu, aAv, aAw, aAx, aAy, aAz⟩ := gB aei.1) | ((with_reducible refine aA (f := 55) rfl ?_); refine cK (N := (some 62)) #[.int .i64 (wrap64 (kz + aRH)), .int .i64 0, .int .i64 (wrap64 (af - 1))] Try.func55 ?_; (with_reducible refine (iw.calls (wrap64 (kz + aRH)) 0 (wrap64 (af - 1)) true _ A51.1).mono ?_); rintro e w' ⟨rfl, ⟨nd, rfl⟩⟩; refine ⟨_, rfl, ?_⟩))
     go_roundg k1
     case measure => have := iB.1; omega
     case rel => exact ⟨(wrap64 (kz + aRH)), (aWs), (wrap64 (-aRH)), (wrap64 (bK + 1)), (aHa), (aHh), (aHi), (aHj), (aHk), (aWt), (.slice Y8 akL.length Uz), RG, RG, RG, H', ⟨by have := iB.1; omega⟩, ⟨PS arb.1⟩, ⟨pm (aG HO_285002.1 (fun _ hk => trivial))⟩, ⟨PB aei.1⟩, ⟨PB aeu.1⟩, ⟨PB aeP.1⟩, ⟨PB ae5.1⟩, ⟨BL HB.1⟩⟩
   simp only [Option.some.injEq, Prod.mk.injEq] at H
   obtain ⟨rfl, rfl, rfl, rfl, rfl, rfl, rfl⟩ := H
   obtain ⟨aAA, aAB, aAC, aAD, aAE, aAF⟩ := gB aei.1
   try go_wp2_with (first | ((with_reducible refine aC (N := 26) rfl ?_); refine qh (Kd.int .i64) _ 3 ?hg (N := 26) ?hd (xs := ([bK, kz] : List Int)) (inner := [.int .i64 bK, .int .i64 kz]) (ok := fun _ => True) (okp := fun _ => True) ?hr ?hp (fun _ hk => hk) trivial (Below.refl _ _) (Nat.le_refl _) (by simp) ?_; (case hd => rfl); (case hg => rfl); (case hr => first | (go_simp; done) | (go_simp; rfl)); (case hp => exact (fK.one (show Kd.M (Kd.int .i64) _ _ _ bK [.int .i64 bK] from rfl) (fK.one (show Kd.M (Kd.int .i64) _ _ _ kz [.int .i64 kz] from rfl) (fK.none _ _)))); intro a9h w81 Y9 hb hg_ hnew_; clear hg_ hnew_; (first | rw [<- aUh.1] at Y9 | (simp only [Int.reduceToNat] at Y9; rw [<- aUh.1] at Y9)); refine E8 (kW (PS HO_10.1) (fe Y9) hb) (rB HO_285002.1 hb) (bN Y9 (bZ HB.1)) (bB aei.1 hb) (bB aeu.1 hb) (bB aeP.1 hb) (bB ae5.1 hb) (bS HB.1 hb) ?_; clear HO_10 HO_285002 aei aeu aeP ae5 HB; intro HO_10 HO_285002 aMu aei aeu aeP ae5 HB; clear hb Y9; obtain ⟨avY, avZ, aGf⟩ := bv aMu.1; subst aGf) | ((with_reducible refine bf (b := .append) (xs := #[.tmp 23, .tmp 27]) rfl ?_); at_builtin; refine uV (Kd.slice 3 (Kd.int .i64)) (w0 := w) w.heap.size rfl (.tmp 23) (.tmp 27) 60 38 (.slice none 0 0) 24 rfl Try.underlying60 Ab rfl (by decide) (by omega) u10 bE aUT [.slice avY aUT.length avZ] (fun _ => True) (fun k_ => some k_ = (.slice avY aUT.length avZ : Value).ownBlock) rfl rfl ?aP (fun k_ hk_ => ((aG (ok' := fun k_ => ((fun _ => True)) k_ /\ some k_ ≠ (u10 : Value).ownBlock) (eH (aMu.1) (jW HO_10.1) (by decide)) (fun k_ hk => ⟨trivial, hk.2⟩))).1 k_ hk_.symm) ?aF ?aO ?aB ?aS ?aL ?_; (case aP => exact BC (aG (jR rfl (aG (ok' := fun k_ => ((fun _ => True)) k_ /\ some k_ ≠ (u10 : Value).ownBlock) (eH (aMu.1) (jW HO_10.1) (by decide)) (fun k_ hk => ⟨trivial, hk.2⟩))) (fun _ h_ => h_))); (case aB => exact (BL HB.1)); (case aF => exact (fun _ _ => trivial)); (case aO => exact (ES (eY HO_10.1 (fun k_ hk => ⟨trivial, fun e_ => hk.2 e_⟩)))); (case aS => exact (bZ HB.1)); (case aL => have := acw.1; omega); intro a00 w83 ho hb hg hat; rw [<- aZq.1] at ho; refine E7 (kF (PR HO_285002.1) (jW (PS HO_10.1)) (by decide) hg) (bG aei.1 hg (xe HO_10.1 aei.1 (by decide))) (bG aeu.1 hg (xe HO_10.1 aeu.1 (by decide))) (bG aeP.1 hg (xe HO_10.1 aeP.1 (by decide))) (bG ae5.1 hg (xe HO_10.1 ae5.1 (by decide))) (hb) (ho) ?_; clear HO_285002 aei aeu aeP ae5 HB HO_10 aMu; intro HO_285002 aei aeu aeP ae5 HB arb; clear ho hb hg hat; have av0 := axW.1; have av1 := aG2.1; have av2 := axZ.1; have av3 := aG3.1; obtain ⟨agK, agL, aAG, agM, agN, aAH⟩ := gB ae5.1; obtain ⟨Pk, Pm, aGg⟩ := bv HO_285002.1; subst aGg) | ((with_reducible refine aA (f := 95) rfl ?_); refine cK (N := (some 32)) #[.agg #[.int .i64 acn, .int .i64 aJj, .slice Pk akL.length Pm], .int .i64 bK, .int .i64 kz] Try.func95 ?_; (with_reducible refine (pX.calls acn aJj _ _ akL bK kz aSj aSP _ ?side1 ?side2 A20.1).mono ?_); (case side1 => exact CB (ay HO_285002.1).2.2); (case side2 => exact (ay HO_285002.1).2.1); rintro e w89 ⟨rfl, hb⟩; refine ⟨_, rfl, ?_⟩; refine E7 (rB HO_285002.1 hb) (sB arb.1 hb) (bB aei.1 hb) (bB aeu.1 hb) (bB aeP.1 hb) (bB ae5.1 hb) (bS HB.1 hb) ?_; clear HO_285002 arb aei aeu aeP ae5 HB; intro HO_285002 arb aei aeu aeP ae5 HB; (try clear hb)) | ((with_reducible refine aC (N := 13) rfl ?_); refine dN (cs := #[.int .i64 0, .int .i64 0]) (t := 83) ?_; intro azl hg w90 hbox hb; refine E18 (jf (pE (PR HO_285002.1) azl (Nat.le_of_eq hg.symm)) hb) (sB arb.1 hb) (bB aei.1 hb) (bB aeu.1 hb) (bB aeP.1 hb) (bB ae5.1 hb) (bS HB.1 hb) (hbox) (gX HB.1 hg) (gX HB.1 hg) (nB aei.1 hg) (nC aei.1 hg) (nB aeu.1 hg) (nC aeu.1 hg) (nB aeP.1 hg) (nC aeP.1 hg) (nB ae5.1 hg) (nC ae5.1 hg) ?_; clear HO_285002 arb aei aeu aeP ae5 HB; intro HO_285002 arb aei aeu aeP ae5 HB asY a2S a2T aDJ aNz aD4 aND aD5 aNE aD8 aNF; clear hb hbox hg; have aLu := aNz.1; have aLv := aDJ.1; have aLw := aND.1; have aLx := aD4.1; have aLy := aNE.1; have aLz := aD5.1; have aLA := aNF.1; have aLB := aD8.1; obtain ⟨aAI, aAJ, aAK, aAL⟩ := nO asY.1) | ((with_reducible refine aA (f := 96) rfl ?_); refine cK (N := (some 43)) #[.agg #[.int .i64 aSj, .int .i64 aSP], .int .i64 iQ] Try.func96 ?_; (with_reducible refine (fo.calls k1 aSj aSP iQ aRH _ A49.1).mono ?_); rintro e w96 ⟨rfl, hb⟩; refine ⟨_, rfl, ?_⟩; refine E8 (jf (by (with_reducible repeat (first | apply aV | apply aW | apply aQ)); exact (aG (RQ azl 1 (RQ azl 0 (aG HO_285002.1 (fun k_ hk => (⟨hk, hk.2⟩ : _ /\ k_ ≠ azl))) _) _) (fun _ h_ => h_.1))) hb) (Cy (by (with_reducible repeat (first | apply jF | apply jG | apply iV)); exact (eY (SQ azl 1 (SQ azl 0 (kG arb.1 asY.1 (by decide)) _) _) (fun _ h_ => h_.1))) hb) (dh (g := aS1) (o := .cells #[.int .i64 ah, .int .i64 af, .slice aK ae.length aJ] 30 (0, 0)) (xB aDJ.1 aei.1) hb) (dh (g := aBi) (o := .cells #[.int .i64 aHa, .int .i64 aHh, .int .i64 aHi] 54 (0, 0)) (xB aD4.1 aeu.1) hb) (dh (g := aCR) (o := .cells #[.int .i64 aHj, .int .i64 aHk, .slice none 0 0] 30 (0, 0)) (xB aD5.1 aeP.1) hb) (dh (g := aIB) (o := .cells #[.int .i64 acn, .int .i64 aJj, .slice Pk akL.length Pm] 30 (0, 0)) (xB aD8.1 ae5.1) hb) (dh (g := azl) (o := .cells #[.int .i64 aSj, .int .i64 aSP] 83 (0, 0)) (BB asY.1) hb) (bS HB.1 hb) ?_; clear HO_285002 arb aei aeu aeP ae5 asY HB; intro HO_285002 arb aei aeu aeP ae5 asY HB; (try clear hb); (try clear hk); obtain ⟨aAM, aAN, aAO, aAP, aAQ, aAR⟩ := gB ae5.1; obtain ⟨aAS, aAT, aAU, aAV, aAW, aAX⟩ := gB aei.1) | ((with_reducible refine aA (f := 97) rfl ?_); refine cK (N := (some 52)) #[.agg #[.int .i64 acn, .int .i64 aJj, .slice Pk akL.length Pm], .slice A1 l1.length c1, .int .i64 (wrap64 ((wrap64 (bK * af)) + kz))] Try.func97 ?_; (with_reducible refine (bT.calls k1 acn aJj (fun k_ => some k_ = (.slice Pk akL.length Pm : Value).ownBlock) (.slice Pk akL.length Pm) akL _ _ l1 (wrap64 ((wrap64 (bK * af)) + kz)) aWt w _ ?side1 ?side2 ?side3 ?side4 A50.1).mono ?_); (case side1 => exact BL HB.1); (case side2 => exact jR rfl HO_285002.1); (case side3 => exact xV (Kd.uU .i64) HR1.1 (BL HB.1) (fun k_ hs_ => (fun e_ => fe HO_285002.1 k_ e_.symm) hs_)); (case side4 => exact vD.1); rintro e ZL ⟨rfl, hy0, hb, hkp⟩; refine ⟨_, rfl, ?_⟩; refine E8 (qp rfl hy0 (fun k_ e_ => HO_285002.1.1 k_ e_)) (eQ (PB aei.1) hkp (fun hs_ => (fun e_ => (dK HO_285002.1 aei.1 (by decide)) e_) hs_)) (eQ (PB aeu.1) hkp (fun hs_ => (fun e_ => (dK HO_285002.1 aeu.1 (by decide)) e_) hs_)) (eQ (PB aeP.1) hkp (fun hs_ => (fun e_ => (dK HO_285002.1 aeP.1 (by decide)) e_) hs_)) (eQ (PB ae5.1) hkp (fun hs_ => (fun e_ => (dK HO_285002.1 ae5.1 (by decide)) e_) hs_)) (eY (ok' := fun k_ => True) (wE ((qC arb.1 (dY HO_285002.1) (by decide))) hkp (fun k_ hk_ hs_ => (hk_.2) hs_)) (fun k_ hk_ => trivial)) (eQ (PB asY.1) hkp (fun hs_ => (fun e_ => (BQ HO_285002.1 (fun _ hk => hk.2)) e_) hs_)) (hb) ?_; clear HO_285002 aei aeu aeP ae5 arb asY HB; intro HO_285002 aei aeu aeP ae5 arb asY HB; (try clear hb); (try clear hkp); (try clear hy0); obtain ⟨av4, av5, av6, av7, av8, av9⟩ := gB aei.1) | ((with_reducible refine aA (f := 55) rfl ?_); refine cK (N := (some 62)) #[.int .i64 (wrap64 (kz + aRH)), .int .i64 0, .int .i64 (wrap64 (af - 1))] Try.func55 ?_; (with_reducible refine (iw.calls (wrap64 (kz + aRH)) 0 (wrap64 (af - 1)) false _ A51.1).mono ?_); rintro e w' ⟨rfl, ⟨nd, rfl⟩⟩; refine ⟨_, rfl, ?_⟩; (try (rw [KP ZL]; generalize hq_ : World.drewN ZL _ = ZL; have AV : aa (Kd.S (Kd.slice 3 (Kd.int .i64)) 38 ZL w.heap.size (fun _ => True) a00 aWs) := ⟨by rw [<- hq_]; exact (PS arb.1)⟩; have AX : aa (Kd.R jZ 83 ZL w.heap.size (fun k_ => k_ ≠ azl) (.slice Pk akL.length Pm) aWt) := ⟨by rw [<- hq_]; exact (pm (aG HO_285002.1 (fun _ hk => hk.2)))⟩; have AY : aa (ZL.heap[aS1]? = some (.cells #[.int .i64 ah, .int .i64 af, .slice aK ae.length aJ] 30 (0, 0))) := ⟨by rw [<- hq_]; exact (PB aei.1)⟩; have AZ : aa (ZL.heap[aBi]? = some (.cells #[.int .i64 aHa, .int .i64 aHh, .int .i64 aHi] 54 (0, 0))) := ⟨by rw [<- hq_]; exact (PB aeu.1)⟩; have Ed : aa (ZL.heap[aCR]? = some (.cells #[.int .i64 aHj, .int .i64 aHk, .slice none 0 0] 30 (0, 0))) := ⟨by rw [<- hq_]; exact (PB aeP.1)⟩; have Ee : aa (ZL.heap[aIB]? = some (.cells #[.int .i64 acn, .int .i64 aJj, .slice Pk akL.length Pm] 30 (0, 0))) := ⟨by rw [<- hq_]; exact (PB ae5.1)⟩; have Lt : aa (ZL.heap[azl]? = some (.cells #[.int .i64 aSj, .int .i64 aSP] 83 (0, 0))) := ⟨by rw [<- hq_]; exact (PB asY.1)⟩; have RA : aa (Below w.heap.size w ZL) := ⟨by rw [<- hq_]; exact (BL HB.1)⟩; clear arb HO_285002 aei aeu aeP ae5 asY HB hq_; have arb := AV; have HO_285002 := AX; have aei := AY; have aeu := AZ; have aeP := Ed; have ae5 := Ee; have asY := Lt; have HB := RA; clear AV AX AY AZ Ed Ee Lt RA))))
   refine E8 (aQ HO_285002.1) (iV arb.1) (ag aei.1) (ag aeu.1) (ag aeP.1) (ag ae5.1) (ag asY.1) (dm HB.1) ?_
   clear HO_285002 arb aei aeu aeP ae5 asY HB
   intro HO_285002 arb aei aeu aeP ae5 asY HB
   refine jN (n := 8) (S := fun w' => w'.cell? ⟨aIB, 0, none⟩ = some (.int .i64 acn) /\ w'.cell? ⟨aIB, 1, none⟩ = some (.int .i64 aJj) /\ w'.cell? ⟨aIB, 2, none⟩ = some (.slice Pk akL.length Pm)) (ds := []) #[Zz,Zz,Zz,Zz,Zz,Zz,Zz,Zz] (by kernel_rfl) rfl rfl ⟨(ai ae5.1 0).trans rfl, (ai ae5.1 1).trans rfl, (ai ae5.1 2).trans rfl⟩ (fun hHeld => ?_); refine iq bJ.avR bJ.bits16 (fun HT_ HW_ => ?_)
   generalize ZL.drew = aPM at HO_285002 arb aei aeu aeP ae5 asY HB hHeld ⊢
   refine aU 0 (N := some 64) HT_.1 ?_
   refine aU 1 (N := some 65) HT_.1 ?_
   refine aU 2 (N := some 66) HT_.1 ?_
   refine aU 4 (N := some 68) HT_.1 ?_
   refine gF 3 (N := some 67) HT_.1 HW_.1 hHeld ?_
   refine mV (i := 5) (N := none) #[Yy,Yy,Yy,Yy,Yy,Yy,Zz,Zz] rfl rfl (jc HT_.1 (by kernel_rfl)) (by decide) (fun K hK => ?_)
   obtain ⟨aLC, aLD, aLE, aGh, aGi, aGj⟩ := gB aeu.1
   have awc := aJo.1
   have awd := aJn.1
   refine pF (w1 := ?_) (by rfl) rfl ?_ ?_
   rotate_left
   · go_simp
     rfl
   refine hK.out _ _ ⟨(rP axW.1 hHeld.1), (rP axW.1 hHeld.2.1), (rP axW.1 hHeld.2.2)⟩ (fun hHeld => ?_)
   clear hK K
   refine mV (i := 6) (N := none) #[Yy,Yy,Yy,Yy,Yy,Yy,Yy,Zz] rfl rfl (jc HT_.1 (by kernel_rfl)) (by decide) (fun K hK => ?_)
   obtain ⟨aLF, aLG, aLH, aGk, aGl, aGm⟩ := gB aeP.1
   refine pF (w1 := ?_) (by rfl) rfl ?_ ?_
   rotate_left
   · go_simp
     rfl
   refine hK.out _ _ ⟨(rP axZ.1 hHeld.1), (rP axZ.1 hHeld.2.1), (rP axZ.1 hHeld.2.2)⟩ (fun hHeld => ?_)
   clear hK K
   refine aU 7 (N := some 8) HT_.1 ?_
   refine lI (jS HT_.1 (by kernel_rfl)) ?_
   try go_wp2
   refine bodyPost_ret (Ae (rs := [.cell 6 54, .cell 7 30, .tmp 8]) rfl (by simp) (.cell aBi 54 #[.int .i64 3, .int .i64 bK, .int .i64 (wrap64 (kz + aRH))] (0, 0) _ rfl (xB aJn.1 aeu.1) Try.underlying54 rfl (by kernel_rfl) (.cell aCR 30 #[.int .i64 acn, .int .i64 aJj, .slice Pk akL.length Pm] (0, 0) _ rfl (xB aJo.1 aeP.1) Try.underlying30 rfl (by kernel_rfl) (.tmp .nil)))) rfl ?_
   exact ⟨_, _, RF, by (with_reducible repeat (first | apply aV | apply aW | apply aQ)); exact aG (RQ aCR 2 (RQ aCR 1 (RQ aCR 0 (mY (p := ⟨aBi, 2, none⟩) (mY (p := ⟨aBi, 1, none⟩) (mY (p := ⟨aBi, 0, none⟩) (bz (bz HO_285002.1 aeu.1 (by decide)) aeP.1 (by decide)) (fun _ hk => hk.1.2) (.int .i64 3)) (fun _ hk => hk.1.2) (.int .i64 bK)) (fun _ hk => hk.1.2) (.int .i64 (wrap64 (kz + aRH)))) _) _) _) (fun _ hk => trivial), by (with_reducible repeat (first | apply jF | apply jG | apply iV)); exact eY (SQ aCR 2 (SQ aCR 1 (SQ aCR 0 (xR (p := ⟨aBi, 2, none⟩) (xR (p := ⟨aBi, 1, none⟩) (xR (p := ⟨aBi, 0, none⟩) (kG (kG arb.1 aeu.1 (by decide)) aeP.1 (by decide)) (fun _ hk => hk.1.2) (.int .i64 3)) (fun _ hk => hk.1.2) (.int .i64 bK)) (fun _ hk => hk.1.2) (.int .i64 (wrap64 (kz + aRH)))) _) _) _) (fun _ hk => trivial), BL HB.1⟩
 simp only [Option.some.injEq, Prod.mk.injEq] at H
 obtain ⟨rfl, rfl, rfl, rfl, rfl, rfl, rfl⟩ := H
 obtain ⟨awe, awf, awg, awh, awi, awj⟩ := gB aei.1
 try go_wp2
 refine E7 (iV HO_10.1) (aQ HO_285002.1) (ag aei.1) (ag aeu.1) (ag aeP.1) (ag ae5.1) (dm HB.1) ?_
 clear HO_10 HO_285002 aei aeu aeP ae5 HB
 intro HO_10 HO_285002 aei aeu aeP ae5 HB
 obtain ⟨akH, akI, akJ⟩ := bv HO_285002.1
 (first | subst akJ | (injection akJ with rY zZ rZ; have z8 := rY.symm; have Aa := rZ.symm; clear rY zZ rZ; subst z8; subst Aa))
 refine jN (n := 9) (S := fun w' => w'.cell? ⟨aS1, 0, none⟩ = some (.int .i64 ah) /\ w'.cell? ⟨aS1, 1, none⟩ = some (.int .i64 af) /\ w'.cell? ⟨aS1, 2, none⟩ = some (.slice aK ae.length aJ) /\ w'.cell? ⟨aIB, 0, none⟩ = some (.int .i64 acn) /\ w'.cell? ⟨aIB, 1, none⟩ = some (.int .i64 aJj) /\ w'.cell? ⟨aIB, 2, none⟩ = some (.slice akH akL.length akI)) (ds := []) #[Zz,Zz,Zz,Zz,Zz,Zz,Zz,Zz,Zz] (by kernel_rfl) rfl rfl ⟨(ai aei.1 0).trans rfl, (ai aei.1 1).trans rfl, (ai aei.1 2).trans rfl, (ai ae5.1 0).trans rfl, (ai ae5.1 1).trans rfl, (ai ae5.1 2).trans rfl⟩ (fun hHeld => ?_); refine iq bJ.aaZ bJ.bits17 (fun HT_ HW_ => ?_)
 generalize wr.drew = aPN at HO_10 HO_285002 aei aeu aeP ae5 HB hHeld ⊢
 refine aU 0 (N := some 69) HT_.1 ?_
 refine aU 2 (N := some 71) HT_.1 ?_
 refine aU 5 (N := some 74) HT_.1 ?_
 refine gF 1 (N := some 70) HT_.1 HW_.1 hHeld ?_
 refine aU 3 (N := some 72) HT_.1 ?_
 refine gF 4 (N := some 73) HT_.1 HW_.1 hHeld ?_
 refine mV (i := 6) (N := none) #[Yy,Yy,Yy,Yy,Yy,Yy,Yy,Zz,Zz] rfl rfl (jc HT_.1 (by kernel_rfl)) (by decide) (fun K hK => ?_)
 obtain ⟨aLI, aLJ, aLK, aGn, aGo, aGp⟩ := gB aeu.1
 have awk := aJo.1
 have awl := aJn.1
 refine pF (w1 := ?_) (by rfl) rfl ?_ ?_
 rotate_left
 · go_simp
   rfl
 refine hK.out _ _ ⟨(rP aRv.1 hHeld.1), (rP aRv.1 hHeld.2.1), (rP aRv.1 hHeld.2.2.1), (rP axW.1 hHeld.2.2.2.1), (rP axW.1 hHeld.2.2.2.2.1), (rP axW.1 hHeld.2.2.2.2.2)⟩ (fun hHeld => ?_)
 clear hK K
 refine mV (i := 7) (N := none) #[Yy,Yy,Yy,Yy,Yy,Yy,Yy,Yy,Zz] rfl rfl (jc HT_.1 (by kernel_rfl)) (by decide) (fun K hK => ?_)
 obtain ⟨aLL, aLM, aLN, aGq, aGr, aGs⟩ := gB aeP.1
 refine pF (w1 := ?_) (by rfl) rfl ?_ ?_
 rotate_left
 · go_simp
   rfl
 refine hK.out _ _ ⟨(rP aRw.1 hHeld.1), (rP aRw.1 hHeld.2.1), (rP aRw.1 hHeld.2.2.1), (rP axZ.1 hHeld.2.2.2.1), (rP axZ.1 hHeld.2.2.2.2.1), (rP axZ.1 hHeld.2.2.2.2.2)⟩ (fun hHeld => ?_)
 clear hK K
 refine aU 8 (N := some 8) HT_.1 ?_
 refine lI (jS HT_.1 (by kernel_rfl)) ?_
 try go_wp2
 refine bodyPost_ret (Ae (rs := [.cell 6 54, .cell 7 30, .tmp 8]) rfl (by simp) (.cell aBi 54 #[.int .i64 1, .int .i64 ah, .int .i64 kz] (0, 0) _ rfl (xB aJn.1 aeu.1) Try.underlying54 rfl (by kernel_rfl) (.cell aCR 30 #[.int .i64 acn, .int .i64 aJj, .slice akH akL.length akI] (0, 0) _ rfl (xB aJo.1 aeP.1) Try.underlying30 rfl (by kernel_rfl) (.tmp .nil)))) rfl ?_
 exact ⟨_, _, RF, by (with_reducible repeat (first | apply aV | apply aW | apply aQ)); exact aG (RQ aCR 2 (RQ aCR 1 (RQ aCR 0 (mY (p := ⟨aBi, 2, none⟩) (mY (p := ⟨aBi, 1, none⟩) (mY (p := ⟨aBi, 0, none⟩) (bz (bz HO_285002.1 aeu.1 (by decide)) aeP.1 (by decide)) (fun _ hk => hk.1.2) (.int .i64 1)) (fun _ hk => hk.1.2) (.int .i64 ah)) (fun _ hk => hk.1.2) (.int .i64 kz)) _) _) _) (fun _ hk => trivial), by (with_reducible repeat (first | apply jF | apply jG | apply iV)); exact eY (SQ aCR 2 (SQ aCR 1 (SQ aCR 0 (xR (p := ⟨aBi, 2, none⟩) (xR (p := ⟨aBi, 1, none⟩) (xR (p := ⟨aBi, 0, none⟩) (kG (kG HO_10.1 aeu.1 (by decide)) aeP.1 (by decide)) (fun _ hk => hk.1.2) (.int .i64 1)) (fun _ hk => hk.1.2) (.int .i64 ah)) (fun _ hk => hk.1.2) (.int .i64 kz)) _) _) _) (fun _ hk => trivial), BL HB.1⟩
end Go.Proofs.Ytbpfdbjnnlmdjaa.P
