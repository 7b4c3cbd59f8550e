--MINI
import Derived.Test.YtbpfdbjnnlmdjaaPx0
import Derived.Test.YtbpfdbjnnlmdjaaPx1
import Derived.Test.YtbpfdbjnnlmdjaaPx2
namespace Go.Proofs.Ytbpfdbjnnlmdjaa.P
open Go.RowKit Go.Proofs.YtbpfdbjnnlmdjaaW.PrintWords Go.Proofs.YtbpfdbjnnlmdjaaW.PrintLast Go.Proofs.YtbpfdbjnnlmdjaaW.PrintMore
attribute [local go_sem] rQ rR vR vS pO pQ rT rU
set_option linter.unusedVariables false
set_option linter.unusedSimpArgs false
set_option maxHeartbeats 8000000
set_option maxRecDepth 100000
open Kd
def bT.l0 : Nat -> List Int -> Int -> Int -> Int -> Int -> Int -> List (fq) -> Option ((List (fq)))
 | 0, _, _, _, _, _, _, _ => none
 | k + 1, x1, x2, x28, x29, O4, O5, yg => if x29 < x28 then (if 0 <= x29 then (if x29 < (yg.length : Int) then (if ((aj yg x29).f0) = 6 then (if x29 < (x1.length : Int) then (if 0 <= x2 then (if x2 < (x1.length : Int) then (if (rd x1 x29) = (rd x1 x2) then ((kR.f ((aj yg x29).f0) ((aj yg x29).f1)).bind fun aku => (bT.l0 k x1 x2 x28 (wrap64 (x29 + 1)) O4 O5 (yg.set (x29 : Int).toNat (⟨aku.1, aku.2⟩ : fq)))) else (bT.l0 k x1 x2 x28 (wrap64 (x29 + 1)) O4 O5 yg)) else (none)) else (none)) else (none)) else (bT.l0 k x1 x2 x28 (wrap64 (x29 + 1)) O4 O5 yg)) else (none)) else (none)) else (some yg)
def bT.f (k : Nat) (ah : Int) (af : Int) (ae : List (fq)) (l1 : List Int) (a2 : Int) : Option ((List (fq))) := if 0 <= a2 then (if a2 < (ae.length : Int) then (if ((aj ae a2).f0) = 3 then ((kR.f ((aj ae a2).f0) ((aj ae a2).f1)).bind fun akv => (some (ae.set (a2 : Int).toNat (⟨akv.1, akv.2⟩ : fq)))) else (if ((aj ae a2).f0) = 6 then (bT.l0 k l1 a2 (ae.length : Int) 0 ah af ae) else (some ae))) else (none)) else (none)
theorem bT.mono_l : ∀ k, (∀ y0 y1 y2 y3 y4 y5 y6, dO (bT.l0 k y0 y1 y2 y3 y4 y5 y6) (bT.l0 (k + 1) y0 y1 y2 y3 y4 y5 y6))
 | 0 => fun _ _ _ _ _ _ _ r h => by simp [bT.l0] at h
 | k + 1 => by
  have ja := bT.mono_l k
  intros
  first | unfold bT.l0
  exact BA ja
theorem bT.mono : ∀ a0 a1 a2 a3 a4 k, dO (bT.f k a0 a1 a2 a3 a4) (bT.f (k + 1) a0 a1 a2 a3 a4) := by
 intro a0 a1 a2 a3 a4 k
 have ja := bT.mono_l k
 unfold bT.f
 exact BA ja
def bT.T9 : Bool × List (List Nat × List Nat) := (true, [([], []), ([0], [0]), ([1], [1]), ([2], [2]), ([3], [3]), ([3], [3]), ([4, 5, 3], [3, 4, 5]), ([6, 3], [3, 6]), ([3], [3]), ([3], [3]), ([8, 9, 3], [3, 8, 9]), ([10, 3], [3, 10]), ([7, 11, 3], [3, 7, 11]), ([3, 12], [3, 12])])
def bT.B9 : List Nat := [0, 1, 3, 7, 15, 15, 63, 127, 15, 15, 783, 1807, 4095, 8191]
theorem bT.ao2 : mX .any (opsOf Try.f97 9) = bT.T9 := by kernel_rfl
theorem bT.bits9 : kr bT.T9.2 bT.B9 = true := by kernel_rfl
theorem bT.calls (k : Nat) (ah : Int) (af : Int) (cu : Nat -> Prop) (iH : Value) (ae : List (fq)) (A1 : Option Addr) (c1 : Nat) (l1 : List Int) (a2 : Int) (r : List (fq)) (w0 w : World) (hB : Below w0.heap.size w0 w) (BN : Kd.R jZ 83 w w0.heap.size cu iH ae) (hr1 : ∀ W_, Kept w W_ (fun k_ => cu k_) -> Kd.C (Kd.int .i64) W_ A1 l1.length l1) (hc1 : l1.length <= c1) (h : bT.f k ah af ae l1 a2 = some r) :
 Calls Try.prog 97 #[.agg #[.int .i64 ah, .int .i64 af, iH], .slice A1 l1.length c1, .int .i64 a2] w fun e w' => e = .returned (.tuple #[]) /\ Kd.R jZ 83 w' w0.heap.size (fun k_ => (cu k_ ∨ w.heap.size <= k_)) iH r /\ Below w0.heap.size w0 w' /\ Kept w w' (fun k_ => cu k_) := by
 have nH := Try.underlying30
 have xE := Try.underlying83
 have fB := aa.mk (show Kd.R jZ 83 w w0.heap.size (fun k_ => (cu k_ ∨ w.heap.size <= k_)) iH ae from aG BN (fun k_ hk => (.inl hk)))
 have HR1 := aa.mk hr1
 have vD := aa.mk hc1
 clear hr1 hc1
 have HK := aa.mk (Kept.refl w (fun k_ => cu k_))
 have HW0 := aa.mk hB.size
 have HB := aa.mk hB
 clear hB
 have H := h
 clear h
 unfold bT.f at H
 replace H := ji H; obtain ⟨c4b0, H⟩ := H
 replace H := ji H; obtain ⟨c5b0, H⟩ := H
 replace H := oP H; rcases H with ⟨c6, H⟩ | ⟨c6, H⟩
 · have c6b0 := beq_iff_eq.mpr c6
   have c6b1 := bne_eq_false_iff_eq.mpr c6
   clear c6
   replace H := dz H; obtain ⟨⟨aci, acj⟩, A7, H⟩ := H
   dsimp only at H
   generalize akw : ((ae.set (a2 : Int).toNat (⟨aci, acj⟩ : fq)) : List (fq)) = aPt at H
   have avv := aa.mk akw.symm; clear akw
   obtain rfl := Option.some.inj H
   obtain ⟨Ao9, ZI, Vm⟩ := bv fB.1
   subst Vm
   go_enter Try.func97, Try.ntmps97
   try go_wp2_with (first | ((with_reducible refine aC (N := 3) rfl ?_); refine dN (cs := #[.int .i64 ah, .int .i64 af, .slice Ao9 ae.length ZI]) (t := 30) ?_; intro sW hg Hw hbox hb; refine E6 (rB fB.1 hb) (Kept.below (S := (fun k_ => cu k_)) (KL HK.1) hb) (bS HB.1 hb) (hbox) ((by rw [hg]; exact (by first | exact HK.1.1 | exact (show Kept w _ (fun k_ => cu k_) from KL HK.1).1) : w.heap.size <= sW)) (Qm hg (bZ HB.1) : w0.heap.size <= sW) ?_; clear fB HK HB; intro fB HK HB eD WS akx; clear hb hbox hg; obtain ⟨vX, vY, EZ, vZ, wh, Fa⟩ := gB eD.1; have Jg : 0 <= (a2 : Int) := OD; have Jh : a2 < (ae.length : Int) := OD; obtain ⟨uZ, e269, Gp, Gq⟩ := iP (ay fB.1).2.2 a2 Jg Jh; cases e269; replace Jg := eq_true Jg; replace Jh := eq_true Jh) | ((with_reducible refine aC (N := 6) rfl ?_); refine dN (cs := #[.int .i64 0, .int .i64 0]) (t := 83) ?_; intro lq hg yC hbox hb; refine E9 (jf (pE (PR fB.1) lq (Nat.le_of_eq hg.symm)) hb) (bB eD.1 hb) (Kept.below (S := (fun k_ => cu k_)) (KL HK.1) hb) (bS HB.1 hb) (hbox) ((by rw [hg]; exact (by first | exact HK.1.1 | exact (show Kept w _ (fun k_ => cu k_) from KL HK.1).1) : w.heap.size <= lq)) (Qm hg (bZ HB.1) : w0.heap.size <= lq) (nB eD.1 hg) (nC eD.1 hg) ?_; clear fB eD HK HB; intro fB eD HK HB gL WT aky qb zn; clear hb hbox hg; have avw := zn.1; have avx := qb.1; obtain ⟨Af, Ag, Ah, Ai⟩ := nO gL.1))
   have n_ : (fun NU : World => (Kd.R jZ 83 NU w0.heap.size (fun k_ => (cu k_ ∨ w.heap.size <= k_) /\ k_ ≠ lq) (.slice (some uZ) ae.length ZI) ae) /\ (NU.heap[sW]? = some (.cells #[.int .i64 ah, .int .i64 af, .slice (some uZ) ae.length ZI] 30 (0, 0))) /\ (NU.heap[lq]? = some (.cells #[.int .i64 ((aj ae a2).f0), .int .i64 ((aj ae a2).f1)] 83 (0, 0))) /\ (Kept w NU (fun k_ => cu k_)) /\ (Below w0.heap.size w0 NU)) ((yC.setCell ⟨lq, 0, none⟩ (.int .i64 ((aj ae a2).f0))).setCell ⟨lq, 1, none⟩ (.int .i64 ((aj ae a2).f1))) := ⟨by (with_reducible repeat (first | apply aV | apply aW | apply aQ)); exact aG (RQ lq 1 (RQ lq 0 (aG fB.1 (fun k_ hk => (⟨hk, hk.2⟩ : _ /\ k_ ≠ lq))) _) _) (fun _ hk => ⟨hk.1.1, hk.1.2⟩), by (with_reducible repeat (first | refine ak ?_ _ | refine ag ?_ | refine au ?_ _)); refine bu ?_ qb.1 _; (with_reducible repeat (first | refine ak ?_ _ | refine ag ?_ | refine au ?_ _)); refine bu ?_ qb.1 _; (with_reducible repeat (first | refine ak ?_ _ | refine ag ?_ | refine au ?_ _)); exact eD.1, by (with_reducible repeat (first | refine ak ?_ _ | refine ag ?_ | refine au ?_ _)); refine gy (cs := #[.int .i64 ((aj ae a2).f0), .int .i64 0]) ?_ 1 _ rfl; (with_reducible repeat (first | refine ak ?_ _ | refine ag ?_ | refine au ?_ _)); refine gy (cs := #[.int .i64 0, .int .i64 0]) ?_ 0 _ rfl; (with_reducible repeat (first | refine ak ?_ _ | refine ag ?_ | refine au ?_ _)); exact gL.1, KL HK.1, BL HB.1⟩
   (try clear fB)
   (try clear eD)
   (try clear gL)
   (try clear HK)
   (try clear HB)
   generalize ((yC.setCell ⟨lq, 0, none⟩ (.int .i64 ((aj ae a2).f0))).setCell ⟨lq, 1, none⟩ (.int .i64 ((aj ae a2).f1))) = NU at n_ ⊢
   obtain ⟨qG, qH, qi, qI, qJ⟩ := n_
   refine E5 qG qH qi qI qJ ?_
   clear qG qH qi qI qJ
   intro fB eD gL HK HB
   refine E5 (aQ fB.1) (ag eD.1) (ag gL.1) (Kept.drew HK.1) (dm HB.1) ?_
   clear fB eD gL HK HB
   intro fB eD gL HK HB
   refine jN (n := 7) (S := fun w' => w'.cell? ⟨sW, 0, none⟩ = some (.int .i64 ah) /\ w'.cell? ⟨sW, 1, none⟩ = some (.int .i64 af) /\ w'.cell? ⟨sW, 2, none⟩ = some (.slice (some uZ) ae.length ZI) /\ w'.cell? ⟨lq, 0, none⟩ = some (.int .i64 ((aj ae a2).f0)) /\ w'.cell? ⟨lq, 1, none⟩ = some (.int .i64 ((aj ae a2).f1))) (ds := [6]) #[Zz,Zz,Zz,Zz,Zz,Zz,Zz] (by kernel_rfl) rfl rfl ⟨(ai eD.1 0).trans rfl, (ai eD.1 1).trans rfl, (ai eD.1 2).trans rfl, (ai gL.1 0).trans rfl, (ai gL.1 1).trans rfl⟩ (fun hHeld => ?_)
   generalize NU.drew = w16 at fB eD gL HK HB hHeld ⊢
   refine ll (i := 0) (N := some 18) (v := ?_) (a' := ?_) #[Yy,Zz,Zz,Zz,Zz,Zz,Zz] rfl rfl (by kernel_rfl) (fun _ _ _ h => h) (Or.inl ⟨by rfl, ?_⟩) ?_ ?_
   rotate_left
   · intro w'
     go_simp
     with_reducible rfl
   rotate_left
   · simp only [Act.put, List.setIfInBounds_toArray, List.set_cons_zero, List.set_cons_succ, cz, dF]
     rfl
   refine ll (i := 2) (N := some 20) (v := ?_) (a' := ?_) #[Yy,Zz,Yy,Zz,Zz,Zz,Zz] rfl rfl (by kernel_rfl) (fun _ _ _ h => h) (Or.inl ⟨by rfl, ?_⟩) ?_ ?_
   rotate_left
   · intro w'
     go_simp
     with_reducible rfl
   rotate_left
   · simp only [Act.put, List.setIfInBounds_toArray, List.set_cons_zero, List.set_cons_succ, cz, dF]
     rfl
   refine xQ 1 (N := some 19) hHeld ?_
   refine xQ 3 (N := some 21) hHeld ?_
   refine mV (i := 4) (N := some 22) #[Yy,Yy,Yy,Yy,Yy,Zz,Zz] rfl rfl (by kernel_rfl) (by decide) (fun K hK => ?_)
   refine nA Try.func101 (by kernel_rfl) rfl #[.agg #[.int .i64 ((aj ae a2).f0), .int .i64 ((aj ae a2).f1)]] (by rfl) rfl rfl (by (try simp only [List.map_toArray, List.map_cons, List.map_nil]); first | done | rfl | (simp only [List.length_drop, List.length_take]; rfl)) ?_
   with_reducible refine (kR.calls ((aj ae a2).f0) ((aj ae a2).f1) aci acj _ A7.1).mono ?_
   rintro e Vn ⟨rfl, hb⟩
   refine ⟨_, rfl, ?_⟩
   refine E5 (rB fB.1 hb) (bB eD.1 hb) (bB gL.1 hb) (Kept.below (S := (fun k_ => cu k_)) (KL HK.1) hb) (bS HB.1 hb) ?_
   clear fB eD gL HK HB
   intro fB eD gL HK HB
   (try clear hb)
   (try clear hb2)
   (try clear hk)
   (try clear hi)
   have p8 : 0 <= (a2 : Int) := OD
   have q8 : (a2 : Int) < ((ae.length : Int) : Int) := OD
   obtain ⟨go8, yZ, eo8, gb8, gl8, cl8, HG8⟩ := mQ fB.1 (by omega)
   (first | cases eo8 | (injection eo8 with ea_ en_ ec_; (first | subst ea_ | (injection ea_ with ea_; subst ea_)); subst ec_; clear en_))
   have GB8 := aa.mk gb8
   have GG8 := aa.mk HG8
   clear gb8 gl8 HG8
   have HMgo8 := aa.mk (show (cu go8 ∨ w.heap.size <= go8) from (fB.1.1 _ rfl).1)
   (first | simp only [add_plain] at Gp | skip)
   (first | simp only [add_plain] at Gq | skip)
   obtain ⟨ce8, aek, hM8, SK, XZ⟩ := nz fB.1 z83 (a2 : Int) p8 q8
   obtain rfl := jY hM8
   have aib : World.cell? _ ⟨go8, (a2 : Int).toNat * 2, none⟩ = some (.int .i64 ((aj ae a2).f0)) := SK 0 _ rfl
   have aKM : World.cell? _ ⟨go8, (a2 : Int).toNat * 2 + 1, none⟩ = some (.int .i64 ((aj ae a2).f1)) := SK 1 _ rfl
   have aic : World.frozen? _ ⟨go8, (a2 : Int).toNat * 2, none⟩ = false := XZ 0
   have aKN : World.frozen? _ ⟨go8, (a2 : Int).toNat * 2 + 1, none⟩ = false := XZ 1
   (try clear hM8); clear aek SK XZ
   replace p8 := eq_true p8
   replace q8 := eq_true q8
   obtain ⟨aF3, Rt, ack, Ru, acl⟩ := nz fB.1 z83 (a2 : Int) (OD) (by have h_ : (a2 : Int) < ((ae.length : Int) : Int) := OD; first | exact h_ | (have e_ := (ay fB.1).1; omega) | simpa using h_)
   obtain rfl := jY ack
   have Uw := (DZ fB.1 (a2 : Int) (OD) (by have h_ : (a2 : Int) < ((ae.length : Int) : Int) := OD; first | exact h_ | (have e_ := (ay fB.1).1; omega) | simpa using h_) (seg := [.int .i64 aci, .int .i64 acj]) (j := 0) Rt Ru (show 2 <= 2 from by decide) (x' := (⟨aci, acj⟩ : fq)) (uE _ _ _ (⟨aci, acj⟩ : fq) ) (fun _ hk => hk)).1
   rw [<- avv.1] at Uw
   have agb := aa.mk Uw
   (try clear ack); clear Rt Ru acl Uw
   refine hK.out _ _ ⟨(ai eD.1 0).trans rfl, (ai eD.1 1).trans rfl, (ai eD.1 2).trans rfl, (ai gL.1 0).trans rfl, (ai gL.1 1).trans rfl⟩ (fun hHeld => ?_)
   clear hK K
   refine eX (a' := ?_) ?_ ?_
   rotate_left
   · show Act.put _ (some 22) _ = _
     simp only [Act.put, List.setIfInBounds_toArray, List.set_cons_zero, List.set_cons_succ, cz, dF]
     rfl
   refine ll (i := 5) (N := some 23) (v := ?_) (a' := ?_) #[Yy,Yy,Yy,Yy,Yy,Yy,Zz] rfl rfl (by kernel_rfl) (fun _ _ _ h => h) (Or.inl ⟨by rfl, ?_⟩) ?_ ?_
   rotate_left
   · intro w'
     go_simp
     with_reducible rfl
   rotate_left
   · simp only [Act.put, List.setIfInBounds_toArray, List.set_cons_zero, List.set_cons_succ, cz, dF]
     rfl
   refine BD (i := 6) (N := none) #[Yy,Yy,Yy,Yy,Yy,Yy,Yy] rfl rfl (by kernel_rfl) (by decide) (fun K hK => ?_)
   refine pF (w1 := ?_) (by rfl) rfl ?_ ?_
   rotate_left
   · go_simp
     rfl
   refine hK.out _ _ ?_
   clear hK K
   refine lI (by kernel_rfl) ?_
   try go_wp2
   first | go_end0 | ((try simp only [Exit.inBlock, Exit.then]); refine bodyPost_ret (results_none rfl _ _ _) rfl ?_)
   exact ⟨RF, pm (aG agb.1 (fun _ hk => hk.1)), BL HB.1, by repeat (first | (with_reducible first | exact HK.1 | apply Kept.alloc | apply Kept.drewN | apply Kept.drew | refine Kept.setCell ?_ HMgo8.1 _ | refine Kept.setCell ?_ HMgo8.1 _ | refine Kept.setCell ?_ (.inr WS.1) _ | refine Kept.setCell ?_ (.inr WT.1) _) | exact HK.1)⟩
 have c6b0 := beq_eq_false_iff_ne.mpr c6
 have c6b1 := bne_iff_ne.mpr c6
 replace H := oP H; rcases H with ⟨c19, H⟩ | ⟨c19, H⟩
 · have c19b0 := beq_iff_eq.mpr c19
   have c19b1 := bne_eq_false_iff_eq.mpr c19
   clear c19
   have H' := aa.mk H
   clear H
   obtain ⟨Rv, Ch, agc⟩ := bv fB.1
   subst agc
   go_enter Try.func97, Try.ntmps97
   go_wp2_with (first | ((with_reducible refine aC (N := 3) rfl ?_); refine dN (cs := #[.int .i64 ah, .int .i64 af, .slice Rv ae.length Ch]) (t := 30) ?_; intro sW hg Qo hbox hb; refine E6 (rB fB.1 hb) (Kept.below (S := (fun k_ => cu k_)) (KL HK.1) hb) (bS HB.1 hb) (hbox) ((by rw [hg]; exact (by first | exact HK.1.1 | exact (show Kept w _ (fun k_ => cu k_) from KL HK.1).1) : w.heap.size <= sW)) (Qm hg (bZ HB.1) : w0.heap.size <= sW) ?_; clear fB HK HB; intro fB HK HB eD WS akx; clear hb hbox hg; obtain ⟨wJ, wK, Jw, wL, wM, Jy⟩ := gB eD.1; have Jg : 0 <= (a2 : Int) := OD; have Jh : a2 < (ae.length : Int) := OD; obtain ⟨uZ, e269, Gp, Gq⟩ := iP (ay fB.1).2.2 a2 Jg Jh; cases e269; replace Jg := eq_true Jg; replace Jh := eq_true Jh) | ((with_reducible refine aC (N := 6) rfl ?_); refine dN (cs := #[.int .i64 0, .int .i64 0]) (t := 83) ?_; intro lq hg w23 hbox hb; refine E9 (jf (pE (PR fB.1) lq (Nat.le_of_eq hg.symm)) hb) (bB eD.1 hb) (Kept.below (S := (fun k_ => cu k_)) (KL HK.1) hb) (bS HB.1 hb) (hbox) ((by rw [hg]; exact (by first | exact HK.1.1 | exact (show Kept w _ (fun k_ => cu k_) from KL HK.1).1) : w.heap.size <= lq)) (Qm hg (bZ HB.1) : w0.heap.size <= lq) (nB eD.1 hg) (nC eD.1 hg) ?_; clear fB eD HK HB; intro fB eD HK HB gL WT aky qb zn; clear hb hbox hg; have aKO := zn.1; have aKP := qb.1; obtain ⟨CQ, CR, CS, CU⟩ := nO gL.1; obtain ⟨xM, xN, Ff, xO, xP, Fg⟩ := gB eD.1))
   go_loopg [29] k (fun kq v29 w' => ∃ (fP : Int) (bU : List (fq)) (rz : Int) (rA : Int), v29 = .int .i64 fP /\ aa (bT.l0 kq l1 a2 (ae.length : Int) fP ah af bU = some r) /\ aa (kq <= k) /\ aa (Kd.R jZ 83 w' w0.heap.size (fun k_ => (cu k_ ∨ w.heap.size <= k_) /\ k_ ≠ lq) (.slice (some uZ) ae.length Ch) bU) /\ aa (w'.heap[sW]? = some (.cells #[.int .i64 ah, .int .i64 af, (.slice (some uZ) ae.length Ch)] 30 (0, 0))) /\ aa (w'.heap[lq]? = some (.cells #[.int .i64 rz, .int .i64 rA] 83 (0, 0))) /\ aa (Kept w w' (fun k_ => cu k_)) /\ aa (Below w0.heap.size w0 w'))
   case atStart => exact ⟨(0), (ae), ((aj ae a2).f0), ((aj ae a2).f1), RG, H', ⟨Nat.le_refl _⟩, ⟨by (with_reducible repeat (first | apply aV | apply aW | apply aQ)); exact aG (RQ lq 1 (RQ lq 0 (aG fB.1 (fun k_ hk => (⟨hk, hk.2⟩ : _ /\ k_ ≠ lq))) _) _) (fun _ hk => ⟨hk.1.1, hk.1.2⟩)⟩, ⟨by (with_reducible repeat (first | refine ak ?_ _ | refine ag ?_ | refine au ?_ _)); refine bu ?_ qb.1 _; (with_reducible repeat (first | refine ak ?_ _ | refine ag ?_ | refine au ?_ _)); refine bu ?_ qb.1 _; (with_reducible repeat (first | refine ak ?_ _ | refine ag ?_ | refine au ?_ _)); exact eD.1⟩, ⟨by (with_reducible repeat (first | refine ak ?_ _ | refine ag ?_ | refine au ?_ _)); refine gy (cs := #[.int .i64 ((aj ae a2).f0), .int .i64 0]) ?_ 1 _ rfl; (with_reducible repeat (first | refine ak ?_ _ | refine ag ?_ | refine au ?_ _)); refine gy (cs := #[.int .i64 0, .int .i64 0]) ?_ 0 _ rfl; (with_reducible repeat (first | refine ak ?_ _ | refine ag ?_ | refine au ?_ _)); exact gL.1⟩, ⟨KL HK.1⟩, ⟨BL HB.1⟩⟩
   clear H'
   try clear c1; try clear c6; try clear Gp; try clear Gq; try clear Jg; try clear Jh; clear c4b0 c5b0 c6b0 c6b1 c19b0 c19b1 wJ wK Jw CQ CR xM xN Ff wL wM Jy CS CU xO xP Fg
   obtain ⟨fP, bU, rz, rA, rfl, HA, iB, HO_269002, eD, gL, HK, HB⟩ := hrel
   have jE := (ay HO_269002.1).1
   rw [jE] at HO_269002
   (try simp only [jE])
   (try simp only [jE] at eD)
   (try simp only [jE] at gL)
   cases gk with
   | zero => exact absurd HA.1 (by simp [bT.l0])
   | succ k1 => ?_
   have H := HA.1
   clear HA
   simp only [bT.l0] at H
   replace H := pu H; rcases H with ⟨c27b0, H⟩ | ⟨c27b0, H⟩
   · replace H := ji H; obtain ⟨c28b0, H⟩ := H
     replace H := ji H; obtain ⟨c29b0, H⟩ := H
     replace H := oP H; rcases H with ⟨YW, H⟩ | ⟨YW, H⟩
     · have c30b0 := beq_iff_eq.mpr YW
       have c30b1 := bne_eq_false_iff_eq.mpr YW
       clear YW
       replace H := ji H; obtain ⟨c31b0, H⟩ := H
       replace H := ji H; obtain ⟨c32b0, H⟩ := H
       replace H := ji H; obtain ⟨c33b0, H⟩ := H
       replace H := oP H; rcases H with ⟨c34, H⟩ | ⟨c34, H⟩
       · have c34b0 := beq_iff_eq.mpr c34
         have c34b1 := bne_eq_false_iff_eq.mpr c34
         clear c34
         replace H := dz H; obtain ⟨⟨acm, acn⟩, A35, H⟩ := H
         dsimp only at H
         generalize akz : ((bU.set (fP : Int).toNat (⟨acm, acn⟩ : fq)) : List (fq)) = aF4 at H
         have avy := aa.mk akz.symm; clear akz
         have H' := aa.mk H
         clear H
         have Lp : 0 <= (fP : Int) := OD
         have Lr : fP < (bU.length : Int) := OD
         obtain ⟨Rw, e274, O6, O7⟩ := iP (ay HO_269002.1).2.2 fP Lp Lr
         obtain rfl : uZ = Rw := (by injection e274)
         replace Lp := eq_true Lp
         replace Lr := eq_true Lr
         try go_wp2_with (first | ((with_reducible refine aC (N := 8) rfl ?_); refine dN (cs := #[.int .i64 0, .int .i64 0]) (t := 83) ?_; intro jP hg Mw hbox hb; refine E12 (jf (pE (PR HO_269002.1) jP (Nat.le_of_eq hg.symm)) hb) (bB eD.1 hb) (bB gL.1 hb) (Kept.below (S := (fun k_ => cu k_)) (KL HK.1) hb) (bS HB.1 hb) (hbox) ((by rw [hg]; exact (by first | exact HK.1.1 | exact (show Kept w _ (fun k_ => cu k_) from KL HK.1).1) : w.heap.size <= jP)) (Qm hg (bZ HB.1) : w0.heap.size <= jP) (nB eD.1 hg) (nC eD.1 hg) (nB gL.1 hg) (nC gL.1 hg) ?_; clear HO_269002 eD gL HK HB; intro HO_269002 eD gL HK HB j5 aco akA nM zo nN zq; clear hb hbox hg; have avz := zo.1; have avA := nM.1; have avB := zq.1; have avC := nN.1; obtain ⟨JF, JG, JH, JI⟩ := nO j5.1))
         have n_ : (fun MG : World => (Kd.R jZ 83 MG w0.heap.size (fun k_ => (cu k_ ∨ w.heap.size <= k_) /\ k_ ≠ lq /\ k_ ≠ jP) (.slice (some uZ) bU.length Ch) bU) /\ (MG.heap[sW]? = some (.cells #[.int .i64 ah, .int .i64 af, .slice (some uZ) bU.length Ch] 30 (0, 0))) /\ (MG.heap[lq]? = some (.cells #[.int .i64 rz, .int .i64 rA] 83 (0, 0))) /\ (MG.heap[jP]? = some (.cells #[.int .i64 ((aj bU fP).f0), .int .i64 ((aj bU fP).f1)] 83 (0, 0))) /\ (Kept w MG (fun k_ => cu k_)) /\ (Below w0.heap.size w0 MG)) ((Mw.setCell ⟨jP, 0, none⟩ (.int .i64 ((aj bU fP).f0))).setCell ⟨jP, 1, none⟩ (.int .i64 ((aj bU fP).f1))) := ⟨by (with_reducible repeat (first | apply aV | apply aW | apply aQ)); exact aG (RQ jP 1 (RQ jP 0 (aG HO_269002.1 (fun k_ hk => (⟨hk, hk.2⟩ : _ /\ k_ ≠ jP))) _) _) (fun _ hk => ⟨hk.1.1.1, ⟨hk.1.1.2, hk.1.2⟩⟩), by (with_reducible repeat (first | refine ak ?_ _ | refine ag ?_ | refine au ?_ _)); refine bu ?_ nM.1 _; (with_reducible repeat (first | refine ak ?_ _ | refine ag ?_ | refine au ?_ _)); refine bu ?_ nM.1 _; (with_reducible repeat (first | refine ak ?_ _ | refine ag ?_ | refine au ?_ _)); exact eD.1, by (with_reducible repeat (first | refine ak ?_ _ | refine ag ?_ | refine au ?_ _)); refine bu ?_ nN.1 _; (with_reducible repeat (first | refine ak ?_ _ | refine ag ?_ | refine au ?_ _)); refine bu ?_ nN.1 _; (with_reducible repeat (first | refine ak ?_ _ | refine ag ?_ | refine au ?_ _)); exact gL.1, by (with_reducible repeat (first | refine ak ?_ _ | refine ag ?_ | refine au ?_ _)); refine gy (cs := #[.int .i64 ((aj bU fP).f0), .int .i64 0]) ?_ 1 _ rfl; (with_reducible repeat (first | refine ak ?_ _ | refine ag ?_ | refine au ?_ _)); refine gy (cs := #[.int .i64 0, .int .i64 0]) ?_ 0 _ rfl; (with_reducible repeat (first | refine ak ?_ _ | refine ag ?_ | refine au ?_ _)); exact j5.1, KL HK.1, BL HB.1⟩
         (try clear HO_269002)
         (try clear eD)
         (try clear gL)
         (try clear j5)
         (try clear HK)
         (try clear HB)
         generalize ((Mw.setCell ⟨jP, 0, none⟩ (.int .i64 ((aj bU fP).f0))).setCell ⟨jP, 1, none⟩ (.int .i64 ((aj bU fP).f1))) = MG at n_ ⊢
         obtain ⟨qG, qH, qi, qI, qJ, tX⟩ := n_
         refine E6 qG qH qi qI qJ tX ?_
         clear qG qH qi qI qJ tX
         intro HO_269002 eD gL j5 HK HB
         refine E6 (aQ HO_269002.1) (ag eD.1) (ag gL.1) (ag j5.1) (Kept.drew HK.1) (dm HB.1) ?_
         clear HO_269002 eD gL j5 HK HB
         intro HO_269002 eD gL j5 HK HB
         have O8 : 0 <= (fP : Int) := OD
         have O9 : fP < (l1.length : Int) := OD
         obtain ⟨Ls, ao3, Gr⟩ := Kd.dx (kY HR1.1 HK.1) fP O8 O9
         have agd := Gr
         cases ao3
         replace O8 := eq_true O8
         replace O9 := eq_true O9
         have Pb : 0 <= (a2 : Int) := OD
         have Pf : a2 < (l1.length : Int) := OD
         obtain ⟨acp, ao4, Gs⟩ := Kd.dx (kY HR1.1 HK.1) a2 Pb Pf
         have age := Gs
         obtain rfl : Ls = acp := (by injection ao4)
         replace Pb := eq_true Pb
         replace Pf := eq_true Pf
         refine jN (n := 14) (S := fun w' => w'.cell? ⟨jP, 0, none⟩ = some (.int .i64 ((aj bU fP).f0)) /\ w'.cell? ⟨jP, 1, none⟩ = some (.int .i64 ((aj bU fP).f1)) /\ w'.cell? (Ls.add (fP).toNat) = some (.int .i64 (rd l1 fP)) /\ w'.cell? (Ls.add (a2).toNat) = some (.int .i64 (rd l1 a2))) (ds := []) #[Zz,Zz,Zz,Zz,Zz,Zz,Zz,Zz,Zz,Zz,Zz,Zz,Zz,Zz] (by kernel_rfl) rfl rfl ⟨(ai j5.1 0).trans rfl, (ai j5.1 1).trans rfl, (Kd.qE (HR1.1 _ (by repeat (first | exact HK.1 | apply Kept.alloc | apply Kept.drewN | apply Kept.drew))) fP (of_eq_true O8) (of_eq_true O9)), (Kd.qE (HR1.1 _ (by repeat (first | exact HK.1 | apply Kept.alloc | apply Kept.drewN | apply Kept.drew))) a2 (of_eq_true Pb) (of_eq_true Pf))⟩ (fun hHeld => ?_); refine iq bT.ao2 bT.bits9 (fun HT_ HW_ => ?_)
         generalize MG.drew = w42 at HO_269002 eD gL j5 HK HB Gr Gs hHeld ⊢
         refine aU 0 (N := some 34) HT_.1 ?_
         refine gF 1 (N := some 35) HT_.1 HW_.1 hHeld ?_
         refine aU 2 (N := some 36) HT_.1 ?_
         refine aU 3 (N := some 37) HT_.1 ?_
         refine aU 4 (N := some 38) HT_.1 ?_
         refine aU 5 (N := some 39) HT_.1 ?_
         refine aU 6 (N := some 40) HT_.1 ?_
         refine aU 8 (N := some 42) HT_.1 ?_
         refine aU 9 (N := some 43) HT_.1 ?_
         refine aU 10 (N := some 44) HT_.1 ?_
         refine gF 7 (N := some 41) HT_.1 HW_.1 hHeld ?_
         refine gF 11 (N := some 45) HT_.1 HW_.1 hHeld ?_
         refine aU 12 (N := some 46) HT_.1 ?_
         refine aU 13 (N := some 47) HT_.1 ?_
         refine lI (jS HT_.1 (by kernel_rfl)) ?_
         try go_wp2
         refine E6 (aQ HO_269002.1) (ag eD.1) (ag gL.1) (ag j5.1) (Kept.drew HK.1) (dm HB.1) ?_
         clear HO_269002 eD gL j5 HK HB
         intro HO_269002 eD gL j5 HK HB
         refine jN (n := 7) (S := fun w' => w'.cell? ⟨sW, 0, none⟩ = some (.int .i64 ah) /\ w'.cell? ⟨sW, 1, none⟩ = some (.int .i64 af) /\ w'.cell? ⟨sW, 2, none⟩ = some (.slice (some uZ) bU.length Ch) /\ w'.cell? ⟨jP, 0, none⟩ = some (.int .i64 ((aj bU fP).f0)) /\ w'.cell? ⟨jP, 1, none⟩ = some (.int .i64 ((aj bU fP).f1))) (ds := [6]) #[Zz,Zz,Zz,Zz,Zz,Zz,Zz] (by kernel_rfl) rfl rfl ⟨(ai eD.1 0).trans rfl, (ai eD.1 1).trans rfl, (ai eD.1 2).trans rfl, (ai j5.1 0).trans rfl, (ai j5.1 1).trans rfl⟩ (fun hHeld => ?_)
         generalize w42.drew = w43 at HO_269002 eD gL j5 HK HB hHeld ⊢
         refine ll (i := 0) (N := some 48) (v := ?_) (a' := ?_) #[Yy,Zz,Zz,Zz,Zz,Zz,Zz] rfl rfl (by kernel_rfl) (fun _ _ _ h => h) (Or.inl ⟨by rfl, ?_⟩) ?_ ?_
         rotate_left
         · intro w'
           go_simp
           with_reducible rfl
         rotate_left
         · simp only [Act.put, List.setIfInBounds_toArray, List.set_cons_zero, List.set_cons_succ, cz, dF]
           rfl
         refine ll (i := 2) (N := some 50) (v := ?_) (a' := ?_) #[Yy,Zz,Yy,Zz,Zz,Zz,Zz] rfl rfl (by kernel_rfl) (fun _ _ _ h => h) (Or.inl ⟨by rfl, ?_⟩) ?_ ?_
         rotate_left
         · intro w'
           go_simp
           with_reducible rfl
         rotate_left
         · simp only [Act.put, List.setIfInBounds_toArray, List.set_cons_zero, List.set_cons_succ, cz, dF]
           rfl
         refine xQ 1 (N := some 49) hHeld ?_
         refine xQ 3 (N := some 51) hHeld ?_
         refine mV (i := 4) (N := some 52) #[Yy,Yy,Yy,Yy,Yy,Zz,Zz] rfl rfl (by kernel_rfl) (by decide) (fun K hK => ?_)
         refine nA Try.func101 (by kernel_rfl) rfl #[.agg #[.int .i64 ((aj bU fP).f0), .int .i64 ((aj bU fP).f1)]] (by rfl) rfl rfl (by (try simp only [List.map_toArray, List.map_cons, List.map_nil]); first | done | rfl | (simp only [List.length_drop, List.length_take]; rfl)) ?_
         with_reducible refine (kR.calls ((aj bU fP).f0) ((aj bU fP).f1) acm acn _ A35.1).mono ?_
         rintro e w44 ⟨rfl, hb⟩
         refine ⟨_, rfl, ?_⟩
         refine E6 (rB HO_269002.1 hb) (bB eD.1 hb) (bB gL.1 hb) (bB j5.1 hb) (Kept.below (S := (fun k_ => cu k_)) (KL HK.1) hb) (bS HB.1 hb) ?_
         clear HO_269002 eD gL j5 HK HB
         intro HO_269002 eD gL j5 HK HB
         (try clear hb)
         (try clear hb2)
         (try clear hk)
         (try clear hi)
         have p36 : 0 <= (fP : Int) := OD
         have q36 : (fP : Int) < ((bU.length : Int) : Int) := OD
         obtain ⟨Y3, aPx, avD, avE, aF6, aPy, avF⟩ := mQ HO_269002.1 (by omega)
         (first | cases avD | (injection avD with ea_ en_ ec_; (first | subst ea_ | (injection ea_ with ea_; subst ea_)); subst ec_; clear en_))
         have aPz := aa.mk avE
         have aPA := aa.mk avF
         clear avE aF6 avF
         have HMgo36 := aa.mk (show (cu Y3 ∨ w.heap.size <= Y3) from (HO_269002.1.1 _ rfl).1)
         (first | simp only [add_plain] at Gp | skip)
         (first | simp only [add_plain] at Gq | skip)
         (first | simp only [add_plain] at O6 | skip)
         (first | simp only [add_plain] at O7 | skip)
         obtain ⟨aPB, avG, avH, acr, acs⟩ := nz HO_269002.1 z83 (fP : Int) p36 q36
         obtain rfl := jY avH
         have aF7 : World.cell? _ ⟨Y3, (fP : Int).toNat * 2, none⟩ = some (.int .i64 ((aj bU fP).f0)) := acr 0 _ rfl
         have aF8 : World.cell? _ ⟨Y3, (fP : Int).toNat * 2 + 1, none⟩ = some (.int .i64 ((aj bU fP).f1)) := acr 1 _ rfl
         have aF9 : World.frozen? _ ⟨Y3, (fP : Int).toNat * 2, none⟩ = false := acs 0
         have aGa : World.frozen? _ ⟨Y3, (fP : Int).toNat * 2 + 1, none⟩ = false := acs 1
         (try clear avH); clear avG acr acs
         replace p36 := eq_true p36
         replace q36 := eq_true q36
         obtain ⟨aPC, akB, avI, Rx, WU⟩ := nz HO_269002.1 z83 (fP : Int) (OD) (by have h_ : (fP : Int) < ((bU.length : Int) : Int) := OD; first | exact h_ | (have e_ := (ay HO_269002.1).1; omega) | simpa using h_)
         obtain rfl := jY avI
         have Ry := (DZ HO_269002.1 (fP : Int) (OD) (by have h_ : (fP : Int) < ((bU.length : Int) : Int) := OD; first | exact h_ | (have e_ := (ay HO_269002.1).1; omega) | simpa using h_) (seg := [.int .i64 acm, .int .i64 acn]) (j := 0) akB Rx (show 2 <= 2 from by decide) (x' := (⟨acm, acn⟩ : fq)) (uE _ _ _ (⟨acm, acn⟩ : fq) ) (fun _ hk => hk)).1
         rw [<- avy.1] at Ry
         have aGb := aa.mk Ry
         (try clear avI); clear akB Rx WU Ry
         refine hK.out _ _ ⟨(ai eD.1 0).trans rfl, (ai eD.1 1).trans rfl, (ai eD.1 2).trans rfl, (ai j5.1 0).trans rfl, (ai j5.1 1).trans rfl⟩ (fun hHeld => ?_)
         clear hK K
         refine eX (a' := ?_) ?_ ?_
         rotate_left
         · show Act.put _ (some 52) _ = _
           simp only [Act.put, List.setIfInBounds_toArray, List.set_cons_zero, List.set_cons_succ, cz, dF]
           rfl
         refine ll (i := 5) (N := some 53) (v := ?_) (a' := ?_) #[Yy,Yy,Yy,Yy,Yy,Yy,Zz] rfl rfl (by kernel_rfl) (fun _ _ _ h => h) (Or.inl ⟨by rfl, ?_⟩) ?_ ?_
         rotate_left
         · intro w'
           go_simp
           with_reducible rfl
         rotate_left
         · simp only [Act.put, List.setIfInBounds_toArray, List.set_cons_zero, List.set_cons_succ, cz, dF]
           rfl
         refine BD (i := 6) (N := none) #[Yy,Yy,Yy,Yy,Yy,Yy,Yy] rfl rfl (by kernel_rfl) (by decide) (fun K hK => ?_)
         refine pF (w1 := ?_) (by rfl) rfl ?_ ?_
         rotate_left
         · go_simp
           rfl
         refine hK.out _ _ ?_
         clear hK K
         refine lI (by kernel_rfl) ?_
         try go_wp2
         (try simp only [<- jE])
         go_roundg k1
         case measure => have := iB.1; omega
         case rel => exact ⟨(wrap64 (fP + 1)), (aF4), (rz), (rA), RG, H', ⟨by have := iB.1; omega⟩, ⟨by (try simp only [jE]); (with_reducible repeat (first | apply aV | apply aW | apply aQ)); exact aG aGb.1 (fun _ hk => ⟨hk.1, hk.2.1⟩)⟩, ⟨by (try simp only [jE]); (with_reducible repeat (first | refine ak ?_ _ | refine ag ?_ | refine au ?_ _)); refine bu ?_ (by have h_ := dK HO_269002.1 eD.1 (by decide); intro e_; exact h_ (by rw [e_]; rfl)) _; (with_reducible repeat (first | refine ak ?_ _ | refine ag ?_ | refine au ?_ _)); refine bu ?_ (by have h_ := dK HO_269002.1 eD.1 (by decide); intro e_; exact h_ (by rw [e_]; rfl)) _; (with_reducible repeat (first | refine ak ?_ _ | refine ag ?_ | refine au ?_ _)); exact eD.1⟩, ⟨by (try simp only [jE]); (with_reducible repeat (first | refine ak ?_ _ | refine ag ?_ | refine au ?_ _)); refine bu ?_ (by have h_ := BQ HO_269002.1 (fun _ hk => hk.2.1); intro e_; exact h_ (by rw [e_]; rfl)) _; (with_reducible repeat (first | refine ak ?_ _ | refine ag ?_ | refine au ?_ _)); refine bu ?_ (by have h_ := BQ HO_269002.1 (fun _ hk => hk.2.1); intro e_; exact h_ (by rw [e_]; rfl)) _; (with_reducible repeat (first | refine ak ?_ _ | refine ag ?_ | refine au ?_ _)); exact gL.1⟩, ⟨by repeat (first | (with_reducible first | exact HK.1 | apply Kept.alloc | apply Kept.drewN | apply Kept.drew | refine Kept.setCell ?_ HMgo36.1 _ | refine Kept.setCell ?_ HMgo36.1 _ | refine Kept.setCell ?_ (.inr WS.1) _ | refine Kept.setCell ?_ (.inr WT.1) _ | refine Kept.setCell ?_ (.inr aco.1) _) | exact HK.1)⟩, ⟨BL HB.1⟩⟩
       have c34b0 := beq_eq_false_iff_ne.mpr c34
       have c34b1 := bne_iff_ne.mpr c34
       have H' := aa.mk H
       clear H
       have Lp : 0 <= (fP : Int) := OD
       have Lr : fP < (bU.length : Int) := OD
       obtain ⟨Rw, e274, O6, O7⟩ := iP (ay HO_269002.1).2.2 fP Lp Lr
       obtain rfl : uZ = Rw := (by injection e274)
       replace Lp := eq_true Lp
       replace Lr := eq_true Lr
       try go_wp2_with (first | ((with_reducible refine aC (N := 8) rfl ?_); refine dN (cs := #[.int .i64 0, .int .i64 0]) (t := 83) ?_; intro jP hg w46 hbox hb; refine E12 (jf (pE (PR HO_269002.1) jP (Nat.le_of_eq hg.symm)) hb) (bB eD.1 hb) (bB gL.1 hb) (Kept.below (S := (fun k_ => cu k_)) (KL HK.1) hb) (bS HB.1 hb) (hbox) ((by rw [hg]; exact (by first | exact HK.1.1 | exact (show Kept w _ (fun k_ => cu k_) from KL HK.1).1) : w.heap.size <= jP)) (Qm hg (bZ HB.1) : w0.heap.size <= jP) (nB eD.1 hg) (nC eD.1 hg) (nB gL.1 hg) (nC gL.1 hg) ?_; clear HO_269002 eD gL HK HB; intro HO_269002 eD gL HK HB j5 aco akA nM zo nN zq; clear hb hbox hg; have aKQ := zo.1; have aKR := nM.1; have avJ := zq.1; have avK := nN.1; obtain ⟨agf, agh, agi, agj⟩ := nO j5.1))
       have n_ : (fun w50 : World => (Kd.R jZ 83 w50 w0.heap.size (fun k_ => (cu k_ ∨ w.heap.size <= k_) /\ k_ ≠ lq /\ k_ ≠ jP) (.slice (some uZ) bU.length Ch) bU) /\ (w50.heap[sW]? = some (.cells #[.int .i64 ah, .int .i64 af, .slice (some uZ) bU.length Ch] 30 (0, 0))) /\ (w50.heap[lq]? = some (.cells #[.int .i64 rz, .int .i64 rA] 83 (0, 0))) /\ (w50.heap[jP]? = some (.cells #[.int .i64 ((aj bU fP).f0), .int .i64 ((aj bU fP).f1)] 83 (0, 0))) /\ (Kept w w50 (fun k_ => cu k_)) /\ (Below w0.heap.size w0 w50)) ((w46.setCell ⟨jP, 0, none⟩ (.int .i64 ((aj bU fP).f0))).setCell ⟨jP, 1, none⟩ (.int .i64 ((aj bU fP).f1))) := ⟨by (with_reducible repeat (first | apply aV | apply aW | apply aQ)); exact aG (RQ jP 1 (RQ jP 0 (aG HO_269002.1 (fun k_ hk => (⟨hk, hk.2⟩ : _ /\ k_ ≠ jP))) _) _) (fun _ hk => ⟨hk.1.1.1, ⟨hk.1.1.2, hk.1.2⟩⟩), by (with_reducible repeat (first | refine ak ?_ _ | refine ag ?_ | refine au ?_ _)); refine bu ?_ nM.1 _; (with_reducible repeat (first | refine ak ?_ _ | refine ag ?_ | refine au ?_ _)); refine bu ?_ nM.1 _; (with_reducible repeat (first | refine ak ?_ _ | refine ag ?_ | refine au ?_ _)); exact eD.1, by (with_reducible repeat (first | refine ak ?_ _ | refine ag ?_ | refine au ?_ _)); refine bu ?_ nN.1 _; (with_reducible repeat (first | refine ak ?_ _ | refine ag ?_ | refine au ?_ _)); refine bu ?_ nN.1 _; (with_reducible repeat (first | refine ak ?_ _ | refine ag ?_ | refine au ?_ _)); exact gL.1, by (with_reducible repeat (first | refine ak ?_ _ | refine ag ?_ | refine au ?_ _)); refine gy (cs := #[.int .i64 ((aj bU fP).f0), .int .i64 0]) ?_ 1 _ rfl; (with_reducible repeat (first | refine ak ?_ _ | refine ag ?_ | refine au ?_ _)); refine gy (cs := #[.int .i64 0, .int .i64 0]) ?_ 0 _ rfl; (with_reducible repeat (first | refine ak ?_ _ | refine ag ?_ | refine au ?_ _)); exact j5.1, KL HK.1, BL HB.1⟩
       (try clear HO_269002)
       (try clear eD)
       (try clear gL)
       (try clear j5)
       (try clear HK)
       (try clear HB)
       generalize ((w46.setCell ⟨jP, 0, none⟩ (.int .i64 ((aj bU fP).f0))).setCell ⟨jP, 1, none⟩ (.int .i64 ((aj bU fP).f1))) = w50 at n_ ⊢
       obtain ⟨qG, qH, qi, qI, qJ, tX⟩ := n_
       refine E6 qG qH qi qI qJ tX ?_
       clear qG qH qi qI qJ tX
       intro HO_269002 eD gL j5 HK HB
       refine E6 (aQ HO_269002.1) (ag eD.1) (ag gL.1) (ag j5.1) (Kept.drew HK.1) (dm HB.1) ?_
       clear HO_269002 eD gL j5 HK HB
       intro HO_269002 eD gL j5 HK HB
       have O8 : 0 <= (fP : Int) := OD
       have O9 : fP < (l1.length : Int) := OD
       obtain ⟨Ls, ao3, Gr⟩ := Kd.dx (kY HR1.1 HK.1) fP O8 O9
       have agd := Gr
       cases ao3
       replace O8 := eq_true O8
       replace O9 := eq_true O9
       have Pb : 0 <= (a2 : Int) := OD
       have Pf : a2 < (l1.length : Int) := OD
       obtain ⟨acp, ao4, Gs⟩ := Kd.dx (kY HR1.1 HK.1) a2 Pb Pf
       have age := Gs
       obtain rfl : Ls = acp := (by injection ao4)
       replace Pb := eq_true Pb
       replace Pf := eq_true Pf
       refine jN (n := 14) (S := fun w' => w'.cell? ⟨jP, 0, none⟩ = some (.int .i64 ((aj bU fP).f0)) /\ w'.cell? ⟨jP, 1, none⟩ = some (.int .i64 ((aj bU fP).f1)) /\ w'.cell? (Ls.add (fP).toNat) = some (.int .i64 (rd l1 fP)) /\ w'.cell? (Ls.add (a2).toNat) = some (.int .i64 (rd l1 a2))) (ds := []) #[Zz,Zz,Zz,Zz,Zz,Zz,Zz,Zz,Zz,Zz,Zz,Zz,Zz,Zz] (by kernel_rfl) rfl rfl ⟨(ai j5.1 0).trans rfl, (ai j5.1 1).trans rfl, (Kd.qE (HR1.1 _ (by repeat (first | exact HK.1 | apply Kept.alloc | apply Kept.drewN | apply Kept.drew))) fP (of_eq_true O8) (of_eq_true O9)), (Kd.qE (HR1.1 _ (by repeat (first | exact HK.1 | apply Kept.alloc | apply Kept.drewN | apply Kept.drew))) a2 (of_eq_true Pb) (of_eq_true Pf))⟩ (fun hHeld => ?_); refine iq bT.ao2 bT.bits9 (fun HT_ HW_ => ?_)
       generalize w50.drew = WV at HO_269002 eD gL j5 HK HB Gr Gs hHeld ⊢
       refine aU 0 (N := some 34) HT_.1 ?_
       refine gF 1 (N := some 35) HT_.1 HW_.1 hHeld ?_
       refine aU 2 (N := some 36) HT_.1 ?_
       refine aU 3 (N := some 37) HT_.1 ?_
       refine aU 4 (N := some 38) HT_.1 ?_
       refine aU 5 (N := some 39) HT_.1 ?_
       refine aU 6 (N := some 40) HT_.1 ?_
       refine aU 8 (N := some 42) HT_.1 ?_
       refine aU 9 (N := some 43) HT_.1 ?_
       refine aU 10 (N := some 44) HT_.1 ?_
       refine gF 7 (N := some 41) HT_.1 HW_.1 hHeld ?_
       refine gF 11 (N := some 45) HT_.1 HW_.1 hHeld ?_
       refine aU 12 (N := some 46) HT_.1 ?_
       refine aU 13 (N := some 47) HT_.1 ?_
       refine lI (jS HT_.1 (by kernel_rfl)) ?_
       try go_wp2
       (try simp only [<- jE])
       go_roundg k1
       case measure => have := iB.1; omega
       case rel => exact ⟨(wrap64 (fP + 1)), (bU), (rz), (rA), RG, H', ⟨by have := iB.1; omega⟩, ⟨by (try simp only [jE]); (with_reducible repeat (first | apply aV | apply aW | apply aQ)); exact aG HO_269002.1 (fun _ hk => ⟨hk.1, hk.2.1⟩)⟩, ⟨Er eD.1 jE⟩, ⟨Er gL.1 jE⟩, ⟨KL HK.1⟩, ⟨BL HB.1⟩⟩
     have c30b0 := beq_eq_false_iff_ne.mpr YW
     have c30b1 := bne_iff_ne.mpr YW
     have H' := aa.mk H
     clear H
     have Lp : 0 <= (fP : Int) := OD
     have Lr : fP < (bU.length : Int) := OD
     obtain ⟨Rw, e274, O6, O7⟩ := iP (ay HO_269002.1).2.2 fP Lp Lr
     obtain rfl : uZ = Rw := (by injection e274)
     replace Lp := eq_true Lp
     replace Lr := eq_true Lr
     try go_wp2_with (first | ((with_reducible refine aC (N := 8) rfl ?_); refine dN (cs := #[.int .i64 0, .int .i64 0]) (t := 83) ?_; intro jP hg w52 hbox hb; refine E12 (jf (pE (PR HO_269002.1) jP (Nat.le_of_eq hg.symm)) hb) (bB eD.1 hb) (bB gL.1 hb) (Kept.below (S := (fun k_ => cu k_)) (KL HK.1) hb) (bS HB.1 hb) (hbox) ((by rw [hg]; exact (by first | exact HK.1.1 | exact (show Kept w _ (fun k_ => cu k_) from KL HK.1).1) : w.heap.size <= jP)) (Qm hg (bZ HB.1) : w0.heap.size <= jP) (nB eD.1 hg) (nC eD.1 hg) (nB gL.1 hg) (nC gL.1 hg) ?_; clear HO_269002 eD gL HK HB; intro HO_269002 eD gL HK HB j5 aco akA nM zo nN zq; clear hb hbox hg; have aKS := zo.1; have aKT := nM.1; have avL := zq.1; have avM := nN.1; obtain ⟨aAe, aAf, aAg, aAh⟩ := nO j5.1))
     have n_ : (fun w56 : World => (Kd.R jZ 83 w56 w0.heap.size (fun k_ => (cu k_ ∨ w.heap.size <= k_) /\ k_ ≠ lq /\ k_ ≠ jP) (.slice (some uZ) bU.length Ch) bU) /\ (w56.heap[sW]? = some (.cells #[.int .i64 ah, .int .i64 af, .slice (some uZ) bU.length Ch] 30 (0, 0))) /\ (w56.heap[lq]? = some (.cells #[.int .i64 rz, .int .i64 rA] 83 (0, 0))) /\ (w56.heap[jP]? = some (.cells #[.int .i64 ((aj bU fP).f0), .int .i64 ((aj bU fP).f1)] 83 (0, 0))) /\ (Kept w w56 (fun k_ => cu k_)) /\ (Below w0.heap.size w0 w56)) ((w52.setCell ⟨jP, 0, none⟩ (.int .i64 ((aj bU fP).f0))).setCell ⟨jP, 1, none⟩ (.int .i64 ((aj bU fP).f1))) := ⟨by (with_reducible repeat (first | apply aV | apply aW | apply aQ)); exact aG (RQ jP 1 (RQ jP 0 (aG HO_269002.1 (fun k_ hk => (⟨hk, hk.2⟩ : _ /\ k_ ≠ jP))) _) _) (fun _ hk => ⟨hk.1.1.1, ⟨hk.1.1.2, hk.1.2⟩⟩), by (with_reducible repeat (first | refine ak ?_ _ | refine ag ?_ | refine au ?_ _)); refine bu ?_ nM.1 _; (with_reducible repeat (first | refine ak ?_ _ | refine ag ?_ | refine au ?_ _)); refine bu ?_ nM.1 _; (with_reducible repeat (first | refine ak ?_ _ | refine ag ?_ | refine au ?_ _)); exact eD.1, by (with_reducible repeat (first | refine ak ?_ _ | refine ag ?_ | refine au ?_ _)); refine bu ?_ nN.1 _; (with_reducible repeat (first | refine ak ?_ _ | refine ag ?_ | refine au ?_ _)); refine bu ?_ nN.1 _; (with_reducible repeat (first | refine ak ?_ _ | refine ag ?_ | refine au ?_ _)); exact gL.1, by (with_reducible repeat (first | refine ak ?_ _ | refine ag ?_ | refine au ?_ _)); refine gy (cs := #[.int .i64 ((aj bU fP).f0), .int .i64 0]) ?_ 1 _ rfl; (with_reducible repeat (first | refine ak ?_ _ | refine ag ?_ | refine au ?_ _)); refine gy (cs := #[.int .i64 0, .int .i64 0]) ?_ 0 _ rfl; (with_reducible repeat (first | refine ak ?_ _ | refine ag ?_ | refine au ?_ _)); exact j5.1, KL HK.1, BL HB.1⟩
     (try clear HO_269002)
     (try clear eD)
     (try clear gL)
     (try clear j5)
     (try clear HK)
     (try clear HB)
     generalize ((w52.setCell ⟨jP, 0, none⟩ (.int .i64 ((aj bU fP).f0))).setCell ⟨jP, 1, none⟩ (.int .i64 ((aj bU fP).f1))) = w56 at n_ ⊢
     obtain ⟨qG, qH, qi, qI, qJ, tX⟩ := n_
     refine E6 qG qH qi qI qJ tX ?_
     clear qG qH qi qI qJ tX
     intro HO_269002 eD gL j5 HK HB
     refine E6 (aQ HO_269002.1) (ag eD.1) (ag gL.1) (ag j5.1) (Kept.drew HK.1) (dm HB.1) ?_
     clear HO_269002 eD gL j5 HK HB
     intro HO_269002 eD gL j5 HK HB
     refine jN (n := 14) (S := fun w' => w'.cell? ⟨jP, 0, none⟩ = some (.int .i64 ((aj bU fP).f0)) /\ w'.cell? ⟨jP, 1, none⟩ = some (.int .i64 ((aj bU fP).f1))) (ds := []) #[Zz,Zz,Zz,Zz,Zz,Zz,Zz,Zz,Zz,Zz,Zz,Zz,Zz,Zz] (by kernel_rfl) rfl rfl ⟨(ai j5.1 0).trans rfl, (ai j5.1 1).trans rfl⟩ (fun hHeld => ?_); refine iq bT.ao2 bT.bits9 (fun HT_ HW_ => ?_)
     generalize w56.drew = w57 at HO_269002 eD gL j5 HK HB hHeld ⊢
     refine aU 0 (N := some 34) HT_.1 ?_
     refine gF 1 (N := some 35) HT_.1 HW_.1 hHeld ?_
     refine aU 2 (N := some 36) HT_.1 ?_
     refine aU 3 (N := some 37) HT_.1 ?_
     refine ll (i := 4) (N := some 38) (v := undef) (a' := ?_) #[Yy,Yy,Yy,Yy,Yy,Zz,Zz,Zz,Zz,Zz,Zz,Zz,Zz,Zz] rfl rfl (nX HT_.1 (by kernel_rfl)) (fun _ _ _ h => h) (Or.inr ⟨by rfl, rfl⟩) ?_ ?_
     rotate_left
     · simp only [Act.put, List.setIfInBounds_toArray, List.set_cons_zero, List.set_cons_succ, cz, dF]
       rfl
     refine ll (i := 5) (N := some 39) (v := undef) (a' := ?_) #[Yy,Yy,Yy,Yy,Yy,Yy,Zz,Zz,Zz,Zz,Zz,Zz,Zz,Zz] rfl rfl (nX HT_.1 (by kernel_rfl)) (fun _ _ _ h => h) (Or.inr ⟨by rfl, rfl⟩) ?_ ?_
     rotate_left
     · simp only [Act.put, List.setIfInBounds_toArray, List.set_cons_zero, List.set_cons_succ, cz, dF]
       rfl
     refine ll (i := 6) (N := some 40) (v := undef) (a' := ?_) #[Yy,Yy,Yy,Yy,Yy,Yy,Yy,Zz,Zz,Zz,Zz,Zz,Zz,Zz] rfl rfl (nX HT_.1 (by kernel_rfl)) (fun _ _ _ h => h) (Or.inr ⟨by rfl, rfl⟩) ?_ ?_
     rotate_left
     · simp only [Act.put, List.setIfInBounds_toArray, List.set_cons_zero, List.set_cons_succ, cz, dF]
       rfl
     refine ll (i := 7) (N := some 41) (v := undef) (a' := ?_) #[Yy,Yy,Yy,Yy,Yy,Yy,Yy,Yy,Zz,Zz,Zz,Zz,Zz,Zz] rfl rfl (nX HT_.1 (by kernel_rfl)) (fun _ _ _ h => h) (Or.inr ⟨by rfl, rfl⟩) ?_ ?_
     rotate_left
     · simp only [Act.put, List.setIfInBounds_toArray, List.set_cons_zero, List.set_cons_succ, cz, dF]
       rfl
     refine ll (i := 8) (N := some 42) (v := undef) (a' := ?_) #[Yy,Yy,Yy,Yy,Yy,Yy,Yy,Yy,Yy,Zz,Zz,Zz,Zz,Zz] rfl rfl (nX HT_.1 (by kernel_rfl)) (fun _ _ _ h => h) (Or.inr ⟨by rfl, rfl⟩) ?_ ?_
     rotate_left
     · simp only [Act.put, List.setIfInBounds_toArray, List.set_cons_zero, List.set_cons_succ, cz, dF]
       rfl
     refine ll (i := 9) (N := some 43) (v := undef) (a' := ?_) #[Yy,Yy,Yy,Yy,Yy,Yy,Yy,Yy,Yy,Yy,Zz,Zz,Zz,Zz] rfl rfl (nX HT_.1 (by kernel_rfl)) (fun _ _ _ h => h) (Or.inr ⟨by rfl, rfl⟩) ?_ ?_
     rotate_left
     · simp only [Act.put, List.setIfInBounds_toArray, List.set_cons_zero, List.set_cons_succ, cz, dF]
       rfl
     refine ll (i := 10) (N := some 44) (v := undef) (a' := ?_) #[Yy,Yy,Yy,Yy,Yy,Yy,Yy,Yy,Yy,Yy,Yy,Zz,Zz,Zz] rfl rfl (nX HT_.1 (by kernel_rfl)) (fun _ _ _ h => h) (Or.inr ⟨by rfl, rfl⟩) ?_ ?_
     rotate_left
     · simp only [Act.put, List.setIfInBounds_toArray, List.set_cons_zero, List.set_cons_succ, cz, dF]
       rfl
     refine ll (i := 11) (N := some 45) (v := undef) (a' := ?_) #[Yy,Yy,Yy,Yy,Yy,Yy,Yy,Yy,Yy,Yy,Yy,Yy,Zz,Zz] rfl rfl (nX HT_.1 (by kernel_rfl)) (fun _ _ _ h => h) (Or.inr ⟨by rfl, rfl⟩) ?_ ?_
     rotate_left
     · simp only [Act.put, List.setIfInBounds_toArray, List.set_cons_zero, List.set_cons_succ, cz, dF]
       rfl
     refine ll (i := 12) (N := some 46) (v := undef) (a' := ?_) #[Yy,Yy,Yy,Yy,Yy,Yy,Yy,Yy,Yy,Yy,Yy,Yy,Yy,Zz] rfl rfl (nX HT_.1 (by kernel_rfl)) (fun _ _ _ h => h) (Or.inr ⟨by rfl, rfl⟩) ?_ ?_
     rotate_left
     · simp only [Act.put, List.setIfInBounds_toArray, List.set_cons_zero, List.set_cons_succ, cz, dF]
       rfl
     refine aU 13 (N := some 47) HT_.1 ?_
     refine lI (jS HT_.1 (by kernel_rfl)) ?_
     try go_wp2
     (try simp only [<- jE])
     go_roundg k1
     case measure => have := iB.1; omega
     case rel => exact ⟨(wrap64 (fP + 1)), (bU), (rz), (rA), RG, H', ⟨by have := iB.1; omega⟩, ⟨by (try simp only [jE]); (with_reducible repeat (first | apply aV | apply aW | apply aQ)); exact aG HO_269002.1 (fun _ hk => ⟨hk.1, hk.2.1⟩)⟩, ⟨Er eD.1 jE⟩, ⟨Er gL.1 jE⟩, ⟨KL HK.1⟩, ⟨BL HB.1⟩⟩
   rw [jE] at c27b0
   obtain rfl := Option.some.inj H
   go_wp2
   first | go_end0 | ((try simp only [Exit.inBlock, Exit.then]); refine bodyPost_ret (results_none rfl _ _ _) rfl ?_)
   exact ⟨RF, (by first | exact (pm (aG HO_269002.1 (fun _ hk => hk.1))) | (simp only [jE]; exact (pm (aG HO_269002.1 (fun _ hk => hk.1))))), BL HB.1, KL HK.1⟩
 have c19b0 := beq_eq_false_iff_ne.mpr c19
 have c19b1 := bne_iff_ne.mpr c19
 obtain rfl := Option.some.inj H
 obtain ⟨afd, afe, anR⟩ := bv fB.1
 subst anR
 go_enter Try.func97, Try.ntmps97
 go_wp2_with (first | ((with_reducible refine aC (N := 3) rfl ?_); refine dN (cs := #[.int .i64 ah, .int .i64 af, .slice afd ae.length afe]) (t := 30) ?_; intro sW hg w59 hbox hb; refine E6 (rB fB.1 hb) (Kept.below (S := (fun k_ => cu k_)) (KL HK.1) hb) (bS HB.1 hb) (hbox) ((by rw [hg]; exact (by first | exact HK.1.1 | exact (show Kept w _ (fun k_ => cu k_) from KL HK.1).1) : w.heap.size <= sW)) (Qm hg (bZ HB.1) : w0.heap.size <= sW) ?_; clear fB HK HB; intro fB HK HB eD WS akx; clear hb hbox hg; obtain ⟨aAi, aAj, aAk, aAl, aAm, aAn⟩ := gB eD.1; have Jg : 0 <= (a2 : Int) := OD; have Jh : a2 < (ae.length : Int) := OD; obtain ⟨uZ, e269, Gp, Gq⟩ := iP (ay fB.1).2.2 a2 Jg Jh; cases e269; replace Jg := eq_true Jg; replace Jh := eq_true Jh) | ((with_reducible refine aC (N := 6) rfl ?_); refine dN (cs := #[.int .i64 0, .int .i64 0]) (t := 83) ?_; intro lq hg w61 hbox hb; refine E9 (jf (pE (PR fB.1) lq (Nat.le_of_eq hg.symm)) hb) (bB eD.1 hb) (Kept.below (S := (fun k_ => cu k_)) (KL HK.1) hb) (bS HB.1 hb) (hbox) ((by rw [hg]; exact (by first | exact HK.1.1 | exact (show Kept w _ (fun k_ => cu k_) from KL HK.1).1) : w.heap.size <= lq)) (Qm hg (bZ HB.1) : w0.heap.size <= lq) (nB eD.1 hg) (nC eD.1 hg) ?_; clear fB eD HK HB; intro fB eD HK HB gL WT aky qb zn; clear hb hbox hg; have avN := zn.1; have avO := qb.1; obtain ⟨agk, agl, agm, agn⟩ := nO gL.1))
 first | go_end0 | ((try simp only [Exit.inBlock, Exit.then]); refine bodyPost_ret (results_none rfl _ _ _) rfl ?_)
 exact ⟨RF, by (with_reducible repeat (first | apply aV | apply aW | apply aQ)); exact aG (RQ lq 1 (RQ lq 0 (aG fB.1 (fun k_ hk => (⟨hk, hk.2⟩ : _ /\ k_ ≠ lq))) _) _) (fun _ hk => hk.1.1), BL HB.1, KL HK.1⟩
def bJ.l0 : Nat -> List Int -> Int -> List (List Int) -> Int -> Int -> Int -> Int -> List (fq) -> Int -> Int -> List (fq) -> Option (Int × Int × Int × Int × Int × (List (fq)) × (List (List Int)))
 | 0, _, _, _, _, _, _, _, _, _, _, _ => none
 | k + 1, x1, x2, j6, qR, pz, Pg, Ph, agp, Dk, Dl, Ka => if pz < Pg then (if j6.length < 5864062014805 then ((some (j6 ++ [(([pz, x2] : List Int))] : List (List Int))).bind fun Ux => ((pX.f Dk Dl Ka pz x2).bind fun acu => (if acu.1 = 5 then (some (2, pz, x2, Dk, Dl, Ka, Ux)) else ((fo.f k acu.1 acu.2 qR).bind fun DW => ((bT.f k Dk Dl Ka x1 (wrap64 ((wrap64 (pz * Ph)) + x2))).bind fun Uy => ((iw.f (wrap64 (x2 + DW)) 0 (wrap64 (Ph - 1))).bind fun avP => (if avP = true then (bJ.l0 k x1 (wrap64 (x2 + DW)) Ux (wrap64 (-DW)) (wrap64 (pz + 1)) Pg Ph agp Dk Dl Uy) else (some (3, pz, wrap64 (x2 + DW), Dk, Dl, Uy, Ux))))))))) else (none)) else (some (1, Pg, x2, Dk, Dl, Ka, j6))
def bJ.f (k : Nat) (ah : Int) (af : Int) (ae : List (fq)) (l1 : List Int) (a2 : Int) : Option (Int × Int × Int × Int × Int × (List (fq)) × (List (List Int))) := (je.f ah af ae).bind fun acv => (bJ.l0 k l1 a2 ([] : List (List Int)) 0 0 ah af ae acv.1 acv.2.1 acv.2.2)
theorem bJ.mono_l : ∀ k, (∀ y0 y1 y2 y3 y4 y5 y6 y7 y8 y9 IG, dO (bJ.l0 k y0 y1 y2 y3 y4 y5 y6 y7 y8 y9 IG) (bJ.l0 (k + 1) y0 y1 y2 y3 y4 y5 y6 y7 y8 y9 IG))
 | 0 => fun _ _ _ _ _ _ _ _ _ _ _ r h => by simp [bJ.l0] at h
 | k + 1 => by
  have ja := bJ.mono_l k
  intros
  first | unfold bJ.l0
  exact LM3 ja bT.mono fo.mono
theorem bJ.mono : ∀ a0 a1 a2 a3 a4 k, dO (bJ.f k a0 a1 a2 a3 a4) (bJ.f (k + 1) a0 a1 a2 a3 a4) := by
 intro a0 a1 a2 a3 a4 k
 have ja := bJ.mono_l k
 unfold bJ.f
 exact LM3 ja bT.mono fo.mono
def bJ.T10 : Bool × List (List Nat × List Nat) := (true, [([], []), ([], []), ([0, 1], [0, 1]), ([], []), ([], []), ([2, 0, 1, 2], [2]), ([3, 5, 0, 1, 2, 3, 5], [3]), ([4, 6, 0, 1, 2, 3, 4, 5, 6], [4])])
def bJ.B10 : List Nat := [0, 0, 3, 0, 0, 7, 47, 127]
theorem bJ.avQ : mX .any (opsOf Try.f84 10) = bJ.T10 := by kernel_rfl
theorem bJ.bits10 : kr bJ.T10.2 bJ.B10 = true := by kernel_rfl
def bJ.T16 : Bool × List (List Nat × List Nat) := (true, [([], []), ([], []), ([0, 1], [0, 1]), ([], []), ([], []), ([2, 0, 1, 2], [2]), ([3, 5, 0, 1, 2, 3, 5], [3]), ([4, 6, 0, 1, 2, 3, 4, 5, 6], [4])])
def bJ.B16 : List Nat := [0, 0, 3, 0, 0, 7, 47, 127]
theorem bJ.avR : mX .any (opsOf Try.f84 16) = bJ.T16 := by kernel_rfl
theorem bJ.bits16 : kr bJ.T16.2 bJ.B16 = true := by kernel_rfl
def bJ.T17 : Bool × List (List Nat × List Nat) := (true, [([], []), ([0], [0]), ([], []), ([1, 2], [1, 2]), ([], []), ([], []), ([3, 0, 1, 2, 3], [3]), ([4, 6, 0, 1, 2, 3, 4, 6], [4]), ([5, 7, 0, 1, 2, 3, 4, 5, 6, 7], [5])])
def bJ.B17 : List Nat := [0, 1, 0, 7, 0, 0, 15, 95, 255]
theorem bJ.aaZ : mX .any (opsOf Try.f84 17) = bJ.T17 := by kernel_rfl
theorem bJ.bits17 : kr bJ.T17.2 bJ.B17 = true := by kernel_rfl
theorem bJ.calls (k : Nat) (ah : Int) (af : Int) (aK : Option Addr) (aJ : Nat) (ae : List (fq)) (A1 : Option Addr) (c1 : Nat) (l1 : List Int) (a2 : Int) (r1 : Int) (r2 : Int) (r3 : Int) (r4 : Int) (r5 : Int) (r6 : List (fq)) (r7 : List (List Int)) (w : World) (dH : Kd.C jZ w aK ae.length ae) (dG : ae.length <= aJ) (hr1 : Kd.C (Kd.int .i64) w A1 l1.length l1) (hc1 : l1.length <= c1) (h : bJ.f k ah af ae l1 a2 = some (r1, r2, r3, r4, r5, r6, r7)) :
 Calls Try.prog 84 #[.agg #[.int .i64 ah, .int .i64 af, .slice aK ae.length aJ], .slice A1 l1.length c1, .int .i64 a2] w fun e w' => ∃ v5_ v6_ : Value, e = .returned (.tuple #[.agg #[.int .i64 r1, .int .i64 r2, .int .i64 r3], .agg #[.int .i64 r4, .int .i64 r5, v5_], v6_]) /\ Kd.R jZ 83 w' w.heap.size (fun _ => True) v5_ r6 /\ Kd.S (Kd.slice 3 (Kd.int .i64)) 38 w' w.heap.size (fun _ => True) v6_ r7 /\ Below w.heap.size w w' := by
 have nH := Try.underlying30
 have YM := Try.underlying54
 have xE := Try.underlying83
 have bD := aa.mk dH
 have cO := aa.mk dG
 clear dH dG
 have HR1 := aa.mk hr1
 have vD := aa.mk hc1
 clear hr1 hc1
 have HB := aa.mk (Below.refl w.heap.size w)
 have H := h
 clear h
 unfold bJ.f at H
 replace H := dz H; obtain ⟨⟨vH, wQ, ao5⟩, A4, H⟩ := H
 dsimp only at H
 have H' := aa.mk H
 clear H
 go_enter Try.func84, Try.ntmps84
 go_wp2_with (first | ((with_reducible refine aC (N := 3) rfl ?_); refine dN (cs := #[.int .i64 ah, .int .i64 af, .slice aK ae.length aJ]) (t := 30) ?_; intro IU hg w5 hbox hb; refine mJ HB.1 hg hbox hb ?_; clear HB; intro HB dM aKX aKY; clear hb hbox hg) | ((with_reducible refine aC (N := 6) rfl ?_); refine dN (cs := #[.int .i64 0, .int .i64 0, .int .i64 0]) (t := 54) ?_; intro nU hg w6 hbox hb; refine E7 (bB dM.1 hb) (bS HB.1 hb) (hbox) (gX HB.1 hg) (gX HB.1 hg) (nB dM.1 hg) (nC dM.1 hg) ?_; clear dM HB; intro dM HB dR aKZ aK0 Dm Y4; clear hb hbox hg) | ((with_reducible refine aC (N := 7) rfl ?_); refine dN (cs := #[.int .i64 0, .int .i64 0, .slice none 0 0]) (t := 30) ?_; intro nV hg w7 hbox hb; refine E10 (bB dM.1 hb) (bB dR.1 hb) (bS HB.1 hb) (hbox) (gX HB.1 hg) (gX HB.1 hg) (nB dM.1 hg) (nC dM.1 hg) (nB dR.1 hg) (nC dR.1 hg) ?_; clear dM dR HB; intro dM dR HB dX aK1 aK2 Dn Y5 wT wU; clear hb hbox hg; have aEg := Dm.1; have aEh := Y4.1; have aeJ := Dn.1; have aeK := Y5.1; obtain ⟨pR, pU, uN, pV, pW, uO⟩ := gB dM.1) | ((with_reducible refine aA (f := 94) rfl ?_); refine cK (N := (some 16)) #[.agg #[.int .i64 ah, .int .i64 af, .slice aK ae.length aJ]] Try.func94 ?_; (with_reducible refine (je.calls ah af _ _ ae vH wQ ao5 _ ?side1 ?side2 A4.1).mono ?_); (case side1 => exact CB (aY bD.1 HB.1)); (case side2 => exact cO.1); rintro e qy ⟨aPF, rfl, ho0, hb⟩; refine ⟨_, rfl, ?_⟩; refine E5 (bN ho0 (bZ HB.1)) (bB dM.1 hb) (bB dR.1 hb) (bB dX.1 hb) (bS HB.1 hb) ?_; clear dM dR dX HB; intro Rz dM dR dX HB; (try clear hb); (try clear ho0)) | ((with_reducible refine aC (N := 9) rfl ?_); refine dN (cs := #[.int .i64 0, .int .i64 0, .slice none 0 0]) (t := 30) ?_; intro vk hg yC hbox hb; refine E14 (rB Rz.1 hb) (bB dM.1 hb) (bB dR.1 hb) (bB dX.1 hb) (bS HB.1 hb) (hbox) (gX HB.1 hg) (gX HB.1 hg) (nB dM.1 hg) (nC dM.1 hg) (nB dR.1 hg) (nC dR.1 hg) (nB dX.1 hg) (nC dX.1 hg) ?_; clear Rz dM dR dX HB; intro Rz dM dR dX HB eu aK3 aK4 Dp Y6 ul mH um mI; clear hb hbox hg; have avw := Y6.1; have avx := Dp.1; have aK5 := mH.1; have aK6 := ul.1; have asH := mI.1; have asI := um.1; obtain ⟨wm, wo, zQ, wu, ww, zR⟩ := gB eu.1; obtain ⟨YH, Ja, Jb⟩ := bv Rz.1; subst Jb))
 go_loopg [2, 10, 11, 12] k (fun kq v2 v10 v11 v12 w' => ∃ (kz : Int) (bE : List (List Int)) (iQ : Int) (bK : Int) (uo : Int) (uq : Int) (ut : Int) (uu : Int) (uw : Int) (fT : List (fq)) (Pi : Value), v2 = .int .i64 kz /\ v11 = .int .i64 iQ /\ v12 = .int .i64 bK /\ aa (bJ.l0 kq l1 kz bE iQ bK ah af ae vH wQ fT = some (r1, r2, r3, r4, r5, r6, r7)) /\ aa (kq <= k) /\ aa (Kd.S (Kd.slice 3 (Kd.int .i64)) 38 w' w.heap.size (fun _ => True) v10 bE) /\ aa (Kd.R jZ 83 w' w.heap.size (fun _ => True) Pi fT) /\ aa (w'.heap[IU]? = some (.cells #[.int .i64 ah, .int .i64 af, (.slice aK ae.length aJ)] 30 (0, 0))) /\ aa (w'.heap[nU]? = some (.cells #[.int .i64 uo, .int .i64 uq, .int .i64 ut] 54 (0, 0))) /\ aa (w'.heap[nV]? = some (.cells #[.int .i64 uu, .int .i64 uw, (.slice none 0 0)] 30 (0, 0))) /\ aa (w'.heap[vk]? = some (.cells #[.int .i64 vH, .int .i64 wQ, Pi] 30 (0, 0))) /\ aa (Below w.heap.size w w'))
 case atStart => exact ⟨(a2), (([] : List (List Int))), (0), (0), (0), (0), (0), (0), (0), (ao5), (.slice YH ao5.length Ja), RG, RG, RG, H', ⟨Nat.le_refl _⟩, ⟨by first | exact EY _ _ _ _ _ | exact ET _ _ _ _ _ | exact EU _ _ _ _ _ | exact EW _ _ _ _ _ | exact tO _ _ _ _ _⟩, ⟨by (with_reducible repeat (first | apply aV | apply aW | apply aQ)); exact aG (RQ vk 2 (RQ vk 1 (RQ vk 0 (bz Rz.1 eu.1 (by decide)) _) _) _) (fun _ hk => trivial)⟩, ⟨by (with_reducible repeat (first | refine ak ?_ _ | refine ag ?_ | refine au ?_ _)); refine bu ?_ Dp.1 _; (with_reducible repeat (first | refine ak ?_ _ | refine ag ?_ | refine au ?_ _)); refine bu ?_ Dp.1 _; (with_reducible repeat (first | refine ak ?_ _ | refine ag ?_ | refine au ?_ _)); refine bu ?_ Dp.1 _; (with_reducible repeat (first | refine ak ?_ _ | refine ag ?_ | refine au ?_ _)); exact dM.1⟩, ⟨by (with_reducible repeat (first | refine ak ?_ _ | refine ag ?_ | refine au ?_ _)); refine bu ?_ ul.1 _; (with_reducible repeat (first | refine ak ?_ _ | refine ag ?_ | refine au ?_ _)); refine bu ?_ ul.1 _; (with_reducible repeat (first | refine ak ?_ _ | refine ag ?_ | refine au ?_ _)); refine bu ?_ ul.1 _; (with_reducible repeat (first | refine ak ?_ _ | refine ag ?_ | refine au ?_ _)); exact dR.1⟩, ⟨by (with_reducible repeat (first | refine ak ?_ _ | refine ag ?_ | refine au ?_ _)); refine bu ?_ um.1 _; (with_reducible repeat (first | refine ak ?_ _ | refine ag ?_ | refine au ?_ _)); refine bu ?_ um.1 _; (with_reducible repeat (first | refine ak ?_ _ | refine ag ?_ | refine au ?_ _)); refine bu ?_ um.1 _; (with_reducible repeat (first | refine ak ?_ _ | refine ag ?_ | refine au ?_ _)); exact dX.1⟩, ⟨by (with_reducible repeat (first | refine ak ?_ _ | refine ag ?_ | refine au ?_ _)); refine gy (cs := #[.int .i64 vH, .int .i64 wQ, .slice none 0 0]) ?_ 2 _ rfl; (with_reducible repeat (first | refine ak ?_ _ | refine ag ?_ | refine au ?_ _)); refine gy (cs := #[.int .i64 vH, .int .i64 0, .slice none 0 0]) ?_ 1 _ rfl; (with_reducible repeat (first | refine ak ?_ _ | refine ag ?_ | refine au ?_ _)); refine gy (cs := #[.int .i64 0, .int .i64 0, .slice none 0 0]) ?_ 0 _ rfl; (with_reducible repeat (first | refine ak ?_ _ | refine ag ?_ | refine au ?_ _)); exact eu.1⟩, ⟨BL HB.1⟩⟩
 clear H'
 try clear c1; clear pR pU uN wm wo zQ pV pW uO wu ww zR
 obtain ⟨kz, bE, iQ, bK, uo, uq, ut, uu, uw, fT, Pi, rfl, rfl, rfl, HA, iB, HO_10, HO_290002, dM, dR, dX, eu, HB⟩ := hrel
 cases gk with
 | zero => exact absurd HA.1 (by simp [bJ.l0])
 | succ k1 => ?_
 have H := HA.1
 clear HA
 simp only [bJ.l0] at H
 replace H := pu H; rcases H with ⟨c18b0, H⟩ | ⟨c18b0, H⟩
 · generalize akD : ((([bK, kz] : List Int)) : List Int) = Pj at H
   have Nv := aa.mk akD.symm; clear akD
   replace H := oC H; obtain ⟨c19, H⟩ := H
   have acw := aa.mk c19
   clear c19
   replace H := nR H; obtain ⟨Ux, acx, H⟩ := H
   replace H := dz H; obtain ⟨⟨Gt, Ik⟩, A20, H⟩ := H
   dsimp only at H
   replace H := oP H; rcases H with ⟨c21, H⟩ | ⟨c21, H⟩
   · have c21b0 := beq_iff_eq.mpr c21
     have c21b1 := bne_eq_false_iff_eq.mpr c21
     clear c21
     simp only [Option.some.injEq, Prod.mk.injEq] at H
     obtain ⟨rfl, rfl, rfl, rfl, rfl, rfl, rfl⟩ := H
     obtain ⟨CQ, CR, JB, CS, CU, JC⟩ := gB dM.1
     try go_wp2_with (first | ((with_reducible refine aC (N := 26) rfl ?_); refine qh (Kd.int .i64) _ 3 ?hg (N := 26) ?hd (xs := ([bK, kz] : List Int)) (inner := [.int .i64 bK, .int .i64 kz]) (ok := fun _ => True) (okp := fun _ => True) ?hr ?hp (fun _ hk => hk) trivial (Below.refl _ _) (Nat.le_refl _) (by simp) ?_; (case hd => rfl); (case hg => rfl); (case hr => first | (go_simp; done) | (go_simp; rfl)); (case hp => exact (fK.one (show Kd.M (Kd.int .i64) _ _ _ bK [.int .i64 bK] from rfl) (fK.one (show Kd.M (Kd.int .i64) _ _ _ kz [.int .i64 kz] from rfl) (fK.none _ _)))); intro avT w26 EH hb hg_ hnew_; clear hg_ hnew_; (first | rw [<- Nv.1] at EH | (simp only [Int.reduceToNat] at EH; rw [<- Nv.1] at EH)); refine E8 (kW (PS HO_10.1) (fe EH) hb) (rB HO_290002.1 hb) (bN EH (bZ HB.1)) (bB dM.1 hb) (bB dR.1 hb) (bB dX.1 hb) (bB eu.1 hb) (bS HB.1 hb) ?_; clear HO_10 HO_290002 dM dR dX eu HB; intro HO_10 HO_290002 yh dM dR dX eu HB; clear hb EH; obtain ⟨avU, avV, aGd⟩ := bv yh.1; subst aGd) | ((with_reducible refine bf (b := .append) (xs := #[.tmp 23, .tmp 27]) rfl ?_); at_builtin; refine uV (Kd.slice 3 (Kd.int .i64)) (w0 := w) w.heap.size rfl (.tmp 23) (.tmp 27) 60 38 (.slice none 0 0) 24 rfl Try.underlying60 Ab rfl (by decide) (by omega) u10 bE Pj [.slice avU Pj.length avV] (fun _ => True) (fun k_ => some k_ = (.slice avU Pj.length avV : Value).ownBlock) rfl rfl ?aP (fun k_ hk_ => ((aG (ok' := fun k_ => ((fun _ => True)) k_ /\ some k_ ≠ (u10 : Value).ownBlock) (eH (yh.1) (jW HO_10.1) (by decide)) (fun k_ hk => ⟨trivial, hk.2⟩))).1 k_ hk_.symm) ?aF ?aO ?aB ?aS ?aL ?_; (case aP => exact BC (aG (jR rfl (aG (ok' := fun k_ => ((fun _ => True)) k_ /\ some k_ ≠ (u10 : Value).ownBlock) (eH (yh.1) (jW HO_10.1) (by decide)) (fun k_ hk => ⟨trivial, hk.2⟩))) (fun _ h_ => h_))); (case aB => exact (BL HB.1)); (case aF => exact (fun _ _ => trivial)); (case aO => exact (ES (eY HO_10.1 (fun k_ hk => ⟨trivial, fun e_ => hk.2 e_⟩)))); (case aS => exact (bZ HB.1)); (case aL => have := acw.1; omega); intro agq w28 ho hb hg hat; rw [<- acx.1] at ho; refine E7 (kF (PR HO_290002.1) (jW (PS HO_10.1)) (by decide) hg) (bG dM.1 hg (xe HO_10.1 dM.1 (by decide))) (bG dR.1 hg (xe HO_10.1 dR.1 (by decide))) (bG dX.1 hg (xe HO_10.1 dX.1 (by decide))) (bG eu.1 hg (xe HO_10.1 eu.1 (by decide))) (hb) (ho) ?_; clear HO_290002 dM dR dX eu HB HO_10 yh; intro HO_290002 dM dR dX eu HB jH; clear ho hb hg hat; have aK7 := mH.1; have aK8 := ul.1; have aK9 := mI.1; have aLa := um.1; obtain ⟨J2, J3, J4, J5, J6, J7⟩ := gB eu.1; obtain ⟨acy, acz, aGe⟩ := bv HO_290002.1; subst aGe) | ((with_reducible refine aA (f := 95) rfl ?_); refine cK (N := (some 32)) #[.agg #[.int .i64 vH, .int .i64 wQ, .slice acy fT.length acz], .int .i64 bK, .int .i64 kz] Try.func95 ?_; (with_reducible refine (pX.calls vH wQ _ _ fT bK kz Gt Ik _ ?side1 ?side2 A20.1).mono ?_); (case side1 => exact CB (ay HO_290002.1).2.2); (case side2 => exact (ay HO_290002.1).2.1); rintro e w34 ⟨rfl, hb⟩; refine ⟨_, rfl, ?_⟩; refine E7 (rB HO_290002.1 hb) (sB jH.1 hb) (bB dM.1 hb) (bB dR.1 hb) (bB dX.1 hb) (bB eu.1 hb) (bS HB.1 hb) ?_; clear HO_290002 jH dM dR dX eu HB; intro HO_290002 jH dM dR dX eu HB; (try clear hb)) | ((with_reducible refine aC (N := 13) rfl ?_); refine dN (cs := #[.int .i64 0, .int .i64 0]) (t := 83) ?_; intro mP hg Qi hbox hb; refine E18 (jf (pE (PR HO_290002.1) mP (Nat.le_of_eq hg.symm)) hb) (sB jH.1 hb) (bB dM.1 hb) (bB dR.1 hb) (bB dX.1 hb) (bB eu.1 hb) (bS HB.1 hb) (hbox) (gX HB.1 hg) (gX HB.1 hg) (nB dM.1 hg) (nC dM.1 hg) (nB dR.1 hg) (nC dR.1 hg) (nB dX.1 hg) (nC dX.1 hg) (nB eu.1 hg) (nC eu.1 hg) ?_; clear HO_290002 jH dM dR dX eu HB; intro HO_290002 jH dM dR dX eu HB lT akF akG qc zt qd zu qf zw qg zx; clear hb hbox hg; have aLb := zt.1; have aLc := qc.1; have aLd := zu.1; have aLe := qd.1; have avz := zw.1; have avA := qf.1; have avB := zx.1; have avC := qg.1; obtain ⟨JF, JG, JH, JI⟩ := nO lT.1))
     have n_ : (fun MG : World => (Kd.R jZ 83 MG w.heap.size (fun k_ => k_ ≠ mP) (.slice acy fT.length acz) fT) /\ (Kd.S (Kd.slice 3 (Kd.int .i64)) 38 MG w.heap.size (fun _ => True) agq Ux) /\ (MG.heap[IU]? = some (.cells #[.int .i64 ah, .int .i64 af, .slice aK ae.length aJ] 30 (0, 0))) /\ (MG.heap[nU]? = some (.cells #[.int .i64 uo, .int .i64 uq, .int .i64 ut] 54 (0, 0))) /\ (MG.heap[nV]? = some (.cells #[.int .i64 uu, .int .i64 uw, .slice none 0 0] 30 (0, 0))) /\ (MG.heap[vk]? = some (.cells #[.int .i64 vH, .int .i64 wQ, .slice acy fT.length acz] 30 (0, 0))) /\ (MG.heap[mP]? = some (.cells #[.int .i64 Gt, .int .i64 Ik] 83 (0, 0))) /\ (Below w.heap.size w MG)) ((Qi.setCell ⟨mP, 0, none⟩ (.int .i64 Gt)).setCell ⟨mP, 1, none⟩ (.int .i64 Ik)) := ⟨by (with_reducible repeat (first | apply aV | apply aW | apply aQ)); exact aG (RQ mP 1 (RQ mP 0 (aG HO_290002.1 (fun k_ hk => (⟨hk, hk.2⟩ : _ /\ k_ ≠ mP))) _) _) (fun _ hk => hk.1.2), by (with_reducible repeat (first | apply jF | apply jG | apply iV)); exact eY (SQ mP 1 (SQ mP 0 (kG jH.1 lT.1 (by decide)) _) _) (fun _ hk => trivial), by (with_reducible repeat (first | refine ak ?_ _ | refine ag ?_ | refine au ?_ _)); refine bu ?_ qc.1 _; (with_reducible repeat (first | refine ak ?_ _ | refine ag ?_ | refine au ?_ _)); refine bu ?_ qc.1 _; (with_reducible repeat (first | refine ak ?_ _ | refine ag ?_ | refine au ?_ _)); exact dM.1, by (with_reducible repeat (first | refine ak ?_ _ | refine ag ?_ | refine au ?_ _)); refine bu ?_ qd.1 _; (with_reducible repeat (first | refine ak ?_ _ | refine ag ?_ | refine au ?_ _)); refine bu ?_ qd.1 _; (with_reducible repeat (first | refine ak ?_ _ | refine ag ?_ | refine au ?_ _)); exact dR.1, by (with_reducible repeat (first | refine ak ?_ _ | refine ag ?_ | refine au ?_ _)); refine bu ?_ qf.1 _; (with_reducible repeat (first | refine ak ?_ _ | refine ag ?_ | refine au ?_ _)); refine bu ?_ qf.1 _; (with_reducible repeat (first | refine ak ?_ _ | refine ag ?_ | refine au ?_ _)); exact dX.1, by (with_reducible repeat (first | refine ak ?_ _ | refine ag ?_ | refine au ?_ _)); refine bu ?_ qg.1 _; (with_reducible repeat (first | refine ak ?_ _ | refine ag ?_ | refine au ?_ _)); refine bu ?_ qg.1 _; (with_reducible repeat (first | refine ak ?_ _ | refine ag ?_ | refine au ?_ _)); exact eu.1, by (with_reducible repeat (first | refine ak ?_ _ | refine ag ?_ | refine au ?_ _)); refine gy (cs := #[.int .i64 Gt, .int .i64 0]) ?_ 1 _ rfl; (with_reducible repeat (first | refine ak ?_ _ | refine ag ?_ | refine au ?_ _)); refine gy (cs := #[.int .i64 0, .int .i64 0]) ?_ 0 _ rfl; (with_reducible repeat (first | refine ak ?_ _ | refine ag ?_ | refine au ?_ _)); exact lT.1, BL HB.1⟩
     (try clear HO_290002)
     (try clear jH)
     (try clear dM)
     (try clear dR)
     (try clear dX)
     (try clear eu)
     (try clear lT)
     (try clear HB)
     generalize ((Qi.setCell ⟨mP, 0, none⟩ (.int .i64 Gt)).setCell ⟨mP, 1, none⟩ (.int .i64 Ik)) = MG at n_ ⊢
     obtain ⟨qG, qH, qi, qI, qJ, tX, xk, zk⟩ := n_
     refine E8 qG qH qi qI qJ tX xk zk ?_
     clear qG qH qi qI qJ tX xk zk
     intro HO_290002 jH dM dR dX eu lT HB
     refine E8 (aQ HO_290002.1) (iV jH.1) (ag dM.1) (ag dR.1) (ag dX.1) (ag eu.1) (ag lT.1) (dm HB.1) ?_
     clear HO_290002 jH dM dR dX eu lT HB
     intro HO_290002 jH dM dR dX eu lT HB
     refine jN (n := 8) (S := fun w' => w'.cell? ⟨vk, 0, none⟩ = some (.int .i64 vH) /\ w'.cell? ⟨vk, 1, none⟩ = some (.int .i64 wQ) /\ w'.cell? ⟨vk, 2, none⟩ = some (.slice acy fT.length acz)) (ds := []) #[Zz,Zz,Zz,Zz,Zz,Zz,Zz,Zz] (by kernel_rfl) rfl rfl ⟨(ai eu.1 0).trans rfl, (ai eu.1 1).trans rfl, (ai eu.1 2).trans rfl⟩ (fun hHeld => ?_); refine iq bJ.avQ bJ.bits10 (fun HT_ HW_ => ?_)
     generalize MG.drew = w42 at HO_290002 jH dM dR dX eu lT HB hHeld ⊢
     refine aU 0 (N := some 36) HT_.1 ?_
     refine aU 1 (N := some 37) HT_.1 ?_
     refine aU 2 (N := some 38) HT_.1 ?_
     refine aU 4 (N := some 40) HT_.1 ?_
     refine gF 3 (N := some 39) HT_.1 HW_.1 hHeld ?_
     refine mV (i := 5) (N := none) #[Yy,Yy,Yy,Yy,Yy,Yy,Zz,Zz] rfl rfl (jc HT_.1 (by kernel_rfl)) (by decide) (fun K hK => ?_)
     obtain ⟨aPG, aPH, aPI, aLf, aLg, aLh⟩ := gB dR.1
     have aAo := wU.1
     have aAp := wT.1
     refine pF (w1 := ?_) (by rfl) rfl ?_ ?_
     rotate_left
     · go_simp
       rfl
     refine hK.out _ _ ⟨(rP mH.1 hHeld.1), (rP mH.1 hHeld.2.1), (rP mH.1 hHeld.2.2)⟩ (fun hHeld => ?_)
     clear hK K
     refine mV (i := 6) (N := none) #[Yy,Yy,Yy,Yy,Yy,Yy,Yy,Zz] rfl rfl (jc HT_.1 (by kernel_rfl)) (by decide) (fun K hK => ?_)
     obtain ⟨aPJ, aPK, aPL, aLi, aLj, aLk⟩ := gB dX.1
     refine pF (w1 := ?_) (by rfl) rfl ?_ ?_
     rotate_left
     · go_simp
       rfl
     refine hK.out _ _ ⟨(rP mI.1 hHeld.1), (rP mI.1 hHeld.2.1), (rP mI.1 hHeld.2.2)⟩ (fun hHeld => ?_)
     clear hK K
     refine aU 7 (N := some 8) HT_.1 ?_
     refine lI (jS HT_.1 (by kernel_rfl)) ?_
     try go_wp2
     refine bodyPost_ret (Ae (rs := [.cell 6 54, .cell 7 30, .tmp 8]) rfl (by simp) (.cell nU 54 #[.int .i64 2, .int .i64 bK, .int .i64 kz] (0, 0) _ rfl (xB wT.1 dR.1) Try.underlying54 rfl (by kernel_rfl) (.cell nV 30 #[.int .i64 vH, .int .i64 wQ, .slice acy fT.length acz] (0, 0) _ rfl (xB wU.1 dX.1) Try.underlying30 rfl (by kernel_rfl) (.tmp .nil)))) rfl ?_
     exact ⟨_, _, RF, by (with_reducible repeat (first | apply aV | apply aW | apply aQ)); exact aG (RQ nV 2 (RQ nV 1 (RQ nV 0 (mY (p := ⟨nU, 2, none⟩) (mY (p := ⟨nU, 1, none⟩) (mY (p := ⟨nU, 0, none⟩) (bz (bz HO_290002.1 dR.1 (by decide)) dX.1 (by decide)) (fun _ hk => hk.1.2) (.int .i64 2)) (fun _ hk => hk.1.2) (.int .i64 bK)) (fun _ hk => hk.1.2) (.int .i64 kz)) _) _) _) (fun _ hk => trivial), by (with_reducible repeat (first | apply jF | apply jG | apply iV)); exact eY (SQ nV 2 (SQ nV 1 (SQ nV 0 (xR (p := ⟨nU, 2, none⟩) (xR (p := ⟨nU, 1, none⟩) (xR (p := ⟨nU, 0, none⟩) (kG (kG jH.1 dR.1 (by decide)) dX.1 (by decide)) (fun _ hk => hk.1.2) (.int .i64 2)) (fun _ hk => hk.1.2) (.int .i64 bK)) (fun _ hk => hk.1.2) (.int .i64 kz)) _) _) _) (fun _ hk => trivial), BL HB.1⟩
   have c21b0 := beq_eq_false_iff_ne.mpr c21
   have c21b1 := bne_iff_ne.mpr c21
   replace H := dz H; obtain ⟨DW, A49, H⟩ := H
   replace H := dz H; obtain ⟨Uy, A50, H⟩ := H
   replace H := dz H; obtain ⟨avP, A51, H⟩ := H
   replace H := Cm H; rcases H with ⟨rfl, H⟩ | ⟨rfl, H⟩
   · have H' := aa.mk H
     clear H
     obtain ⟨agr, ags, aAq, agt, agu, aAr⟩ := gB dM.1
     go_wp2_with (first | ((with_reducible refine aC (N := 26) rfl ?_); refine qh (Kd.int .i64) _ 3 ?hg (N := 26) ?hd (xs := ([bK, kz] : List Int)) (inner := [.int .i64 bK, .int .i64 kz]) (ok := fun _ => True) (okp := fun _ => True) ?hr ?hp (fun _ hk => hk) trivial (Below.refl _ _) (Nat.le_refl _) (by simp) ?_; (case hd => rfl); (case hg => rfl); (case hr => first | (go_simp; done) | (go_simp; rfl)); (case hp => exact (fK.one (show Kd.M (Kd.int .i64) _ _ _ bK [.int .i64 bK] from rfl) (fK.one (show Kd.M (Kd.int .i64) _ _ _ kz [.int .i64 kz] from rfl) (fK.none _ _)))); intro avT w57 Y7 hb hg_ hnew_; clear hg_ hnew_; (first | rw [<- Nv.1] at Y7 | (simp only [Int.reduceToNat] at Y7; rw [<- Nv.1] at Y7)); refine E8 (kW (PS HO_10.1) (fe Y7) hb) (rB HO_290002.1 hb) (bN Y7 (bZ HB.1)) (bB dM.1 hb) (bB dR.1 hb) (bB dX.1 hb) (bB eu.1 hb) (bS HB.1 hb) ?_; clear HO_10 HO_290002 dM dR dX eu HB; intro HO_10 HO_290002 yh dM dR dX eu HB; clear hb Y7; obtain ⟨agv, agw, ao6⟩ := bv yh.1; subst ao6) | ((with_reducible refine bf (b := .append) (xs := #[.tmp 23, .tmp 27]) rfl ?_); at_builtin; refine uV (Kd.slice 3 (Kd.int .i64)) (w0 := w) w.heap.size rfl (.tmp 23) (.tmp 27) 60 38 (.slice none 0 0) 24 rfl Try.underlying60 Ab rfl (by decide) (by omega) u10 bE Pj [.slice agv Pj.length agw] (fun _ => True) (fun k_ => some k_ = (.slice agv Pj.length agw : Value).ownBlock) rfl rfl ?aP (fun k_ hk_ => ((aG (ok' := fun k_ => ((fun _ => True)) k_ /\ some k_ ≠ (u10 : Value).ownBlock) (eH (yh.1) (jW HO_10.1) (by decide)) (fun k_ hk => ⟨trivial, hk.2⟩))).1 k_ hk_.symm) ?aF ?aO ?aB ?aS ?aL ?_; (case aP => exact BC (aG (jR rfl (aG (ok' := fun k_ => ((fun _ => True)) k_ /\ some k_ ≠ (u10 : Value).ownBlock) (eH (yh.1) (jW HO_10.1) (by decide)) (fun k_ hk => ⟨trivial, hk.2⟩))) (fun _ h_ => h_))); (case aB => exact (BL HB.1)); (case aF => exact (fun _ _ => trivial)); (case aO => exact (ES (eY HO_10.1 (fun k_ hk => ⟨trivial, fun e_ => hk.2 e_⟩)))); (case aS => exact (bZ HB.1)); (case aL => have := acw.1; omega); intro agq w59 ho hb hg hat; rw [<- acx.1] at ho; refine E7 (kF (PR HO_290002.1) (jW (PS HO_10.1)) (by decide) hg) (bG dM.1 hg (xe HO_10.1 dM.1 (by decide))) (bG dR.1 hg (xe HO_10.1 dR.1 (by decide))) (bG dX.1 hg (xe HO_10.1 dX.1 (by decide))) (bG eu.1 hg (xe HO_10.1 eu.1 (by decide))) (hb) (ho) ?_; clear HO_290002 dM dR dX eu HB HO_10 yh; intro HO_290002 dM dR dX eu HB jH; clear ho hb hg hat; have aLm := mH.1; have aLn := ul.1; have avN := mI.1; have avO := um.1; obtain ⟨agk, agl, aAs, agm, agn, aAt⟩ := gB eu.1; obtain ⟨Y8, Uz, agx⟩ := bv HO_290002.1; subst agx) | ((with_reducible refine aA (f := 95) rfl ?_); refine cK (N := (some 32)) #[.agg #[.int .i64 vH, .int .i64 wQ, .slice Y8 fT.length Uz], .int .i64 bK, .int .i64 kz] Try.func95 ?_; (with_reducible refine (pX.calls vH wQ _ _ fT bK kz Gt Ik _ ?side1 ?side2 A20.1).mono ?_); (case side1 => exact CB (ay HO_290002.1).2.2); (case side2 => exact (ay HO_290002.1).2.1); rintro e w65 ⟨rfl, hb⟩; refine ⟨_, rfl, ?_⟩; refine E7 (rB HO_290002.1 hb) (sB jH.1 hb) (bB dM.1 hb) (bB dR.1 hb) (bB dX.1 hb) (bB eu.1 hb) (bS HB.1 hb) ?_; clear HO_290002 jH dM dR dX eu HB; intro HO_290002 jH dM dR dX eu HB; (try clear hb)) | ((with_reducible refine aC (N := 13) rfl ?_); refine dN (cs := #[.int .i64 0, .int .i64 0]) (t := 83) ?_; intro mP hg w66 hbox hb; refine E18 (jf (pE (PR HO_290002.1) mP (Nat.le_of_eq hg.symm)) hb) (sB jH.1 hb) (bB dM.1 hb) (bB dR.1 hb) (bB dX.1 hb) (bB eu.1 hb) (bS HB.1 hb) (hbox) (gX HB.1 hg) (gX HB.1 hg) (nB dM.1 hg) (nC dM.1 hg) (nB dR.1 hg) (nC dR.1 hg) (nB dX.1 hg) (nC dX.1 hg) (nB eu.1 hg) (nC eu.1 hg) ?_; clear HO_290002 jH dM dR dX eu HB; intro HO_290002 jH dM dR dX eu HB lT akF akG qc zt qd zu qf zw qg zx; clear hb hbox hg; have aLo := zt.1; have aLp := qc.1; have aLq := zu.1; have aLr := qd.1; have aLs := zw.1; have aLt := qf.1; have avW := zx.1; have avX := qg.1; obtain ⟨WO, WP, WQ, WR⟩ := nO lT.1) | ((with_reducible refine aA (f := 96) rfl ?_); refine cK (N := (some 43)) #[.agg #[.int .i64 Gt, .int .i64 Ik], .int .i64 iQ] Try.func96 ?_; (with_reducible refine (fo.calls k1 Gt Ik iQ DW _ A49.1).mono ?_); rintro e w72 ⟨rfl, hb⟩; refine ⟨_, rfl, ?_⟩; refine E8 (jf (by (with_reducible repeat (first | apply aV | apply aW | apply aQ)); exact (aG (RQ mP 1 (RQ mP 0 (aG HO_290002.1 (fun k_ hk => (⟨hk, hk.2⟩ : _ /\ k_ ≠ mP))) _) _) (fun _ h_ => h_.1))) hb) (Cy (by (with_reducible repeat (first | apply jF | apply jG | apply iV)); exact (eY (SQ mP 1 (SQ mP 0 (kG jH.1 lT.1 (by decide)) _) _) (fun _ h_ => h_.1))) hb) (dh (g := IU) (o := .cells #[.int .i64 ah, .int .i64 af, .slice aK ae.length aJ] 30 (0, 0)) (xB qc.1 dM.1) hb) (dh (g := nU) (o := .cells #[.int .i64 uo, .int .i64 uq, .int .i64 ut] 54 (0, 0)) (xB qd.1 dR.1) hb) (dh (g := nV) (o := .cells #[.int .i64 uu, .int .i64 uw, .slice none 0 0] 30 (0, 0)) (xB qf.1 dX.1) hb) (dh (g := vk) (o := .cells #[.int .i64 vH, .int .i64 wQ, .slice Y8 fT.length Uz] 30 (0, 0)) (xB qg.1 eu.1) hb) (dh (g := mP) (o := .cells #[.int .i64 Gt, .int .i64 Ik] 83 (0, 0)) (BB lT.1) hb) (bS HB.1 hb) ?_; clear HO_290002 jH dM dR dX eu lT HB; intro HO_290002 jH dM dR dX eu lT HB; (try clear hb); (try clear hk); obtain ⟨agy, agz, agA, agB, agC, agD⟩ := gB eu.1; obtain ⟨agE, agF, agG, agH, agI, agJ⟩ := gB dM.1) | ((with_reducible refine aA (f := 97) rfl ?_); refine cK (N := (some 52)) #[.agg #[.int .i64 vH, .int .i64 wQ, .slice Y8 fT.length Uz], .slice A1 l1.length c1, .int .i64 (wrap64 ((wrap64 (bK * af)) + kz))] Try.func97 ?_; (with_reducible refine (bT.calls k1 vH wQ (fun k_ => some k_ = (.slice Y8 fT.length Uz : Value).ownBlock) (.slice Y8 fT.length Uz) fT _ _ l1 (wrap64 ((wrap64 (bK * af)) + kz)) Uy w _ ?side1 ?side2 ?side3 ?side4 A50.1).mono ?_); (case side1 => exact BL HB.1); (case side2 => exact jR rfl HO_290002.1); (case side3 => exact xV (Kd.uU .i64) HR1.1 (BL HB.1) (fun k_ hs_ => (fun e_ => fe HO_290002.1 k_ e_.symm) hs_)); (case side4 => exact vD.1); rintro e w75 ⟨rfl, hy0, hb, hkp⟩; refine ⟨_, rfl, ?_⟩; refine E8 (qp rfl hy0 (fun k_ e_ => HO_290002.1.1 k_ e_)) (eQ (PB dM.1) hkp (fun hs_ => (fun e_ => (dK HO_290002.1 dM.1 (by decide)) e_) hs_)) (eQ (PB dR.1) hkp (fun hs_ => (fun e_ => (dK HO_290002.1 dR.1 (by decide)) e_) hs_)) (eQ (PB dX.1) hkp (fun hs_ => (fun e_ => (dK HO_290002.1 dX.1 (by decide)) e_) hs_)) (eQ (PB eu.1) hkp (fun hs_ => (fun e_ => (dK HO_290002.1 eu.1 (by decide)) e_) hs_)) (eY (ok' := fun k_ => True) (wE ((qC jH.1 (dY HO_290002.1) (by decide))) hkp (fun k_ hk_ hs_ => (hk_.2) hs_)) (fun k_ hk_ => trivial)) (eQ (PB lT.1) hkp (fun hs_ => (fun e_ => (BQ HO_290002.1 (fun _ hk => hk.2)) e_) hs_)) (hb) ?_; clear HO_290002 dM dR dX eu jH lT HB; intro HO_290002 dM dR dX eu jH lT HB; (try clear hb); (try clear hkp); (try clear hy0); obtain ⟨aAu, aAv, aAw, aAx, aAy, aAz⟩ := gB dM.1) | ((with_reducible refine aA (f := 55) rfl ?_); refine cK (N := (some 62)) #[.int .i64 (wrap64 (kz + DW)), .int .i64 0, .int .i64 (wrap64 (af - 1))] Try.func55 ?_; (with_reducible refine (iw.calls (wrap64 (kz + DW)) 0 (wrap64 (af - 1)) true _ A51.1).mono ?_); rintro e w' ⟨rfl, ⟨nd, rfl⟩⟩; refine ⟨_, rfl, ?_⟩))
     go_roundg k1
     case measure => have := iB.1; omega
     case rel => exact ⟨(wrap64 (kz + DW)), (Ux), (wrap64 (-DW)), (wrap64 (bK + 1)), (uo), (uq), (ut), (uu), (uw), (Uy), (.slice Y8 fT.length Uz), RG, RG, RG, H', ⟨by have := iB.1; omega⟩, ⟨PS jH.1⟩, ⟨pm (aG HO_290002.1 (fun _ hk => trivial))⟩, ⟨PB dM.1⟩, ⟨PB dR.1⟩, ⟨PB dX.1⟩, ⟨PB eu.1⟩, ⟨BL HB.1⟩⟩
   simp only [Option.some.injEq, Prod.mk.injEq] at H
   obtain ⟨rfl, rfl, rfl, rfl, rfl, rfl, rfl⟩ := H
   obtain ⟨aAA, aAB, aAC, aAD, aAE, aAF⟩ := gB dM.1
   try go_wp2_with (first | ((with_reducible refine aC (N := 26) rfl ?_); refine qh (Kd.int .i64) _ 3 ?hg (N := 26) ?hd (xs := ([bK, kz] : List Int)) (inner := [.int .i64 bK, .int .i64 kz]) (ok := fun _ => True) (okp := fun _ => True) ?hr ?hp (fun _ hk => hk) trivial (Below.refl _ _) (Nat.le_refl _) (by simp) ?_; (case hd => rfl); (case hg => rfl); (case hr => first | (go_simp; done) | (go_simp; rfl)); (case hp => exact (fK.one (show Kd.M (Kd.int .i64) _ _ _ bK [.int .i64 bK] from rfl) (fK.one (show Kd.M (Kd.int .i64) _ _ _ kz [.int .i64 kz] from rfl) (fK.none _ _)))); intro avT w81 Y9 hb hg_ hnew_; clear hg_ hnew_; (first | rw [<- Nv.1] at Y9 | (simp only [Int.reduceToNat] at Y9; rw [<- Nv.1] at Y9)); refine E8 (kW (PS HO_10.1) (fe Y9) hb) (rB HO_290002.1 hb) (bN Y9 (bZ HB.1)) (bB dM.1 hb) (bB dR.1 hb) (bB dX.1 hb) (bB eu.1 hb) (bS HB.1 hb) ?_; clear HO_10 HO_290002 dM dR dX eu HB; intro HO_10 HO_290002 yh dM dR dX eu HB; clear hb Y9; obtain ⟨avY, avZ, aGf⟩ := bv yh.1; subst aGf) | ((with_reducible refine bf (b := .append) (xs := #[.tmp 23, .tmp 27]) rfl ?_); at_builtin; refine uV (Kd.slice 3 (Kd.int .i64)) (w0 := w) w.heap.size rfl (.tmp 23) (.tmp 27) 60 38 (.slice none 0 0) 24 rfl Try.underlying60 Ab rfl (by decide) (by omega) u10 bE Pj [.slice avY Pj.length avZ] (fun _ => True) (fun k_ => some k_ = (.slice avY Pj.length avZ : Value).ownBlock) rfl rfl ?aP (fun k_ hk_ => ((aG (ok' := fun k_ => ((fun _ => True)) k_ /\ some k_ ≠ (u10 : Value).ownBlock) (eH (yh.1) (jW HO_10.1) (by decide)) (fun k_ hk => ⟨trivial, hk.2⟩))).1 k_ hk_.symm) ?aF ?aO ?aB ?aS ?aL ?_; (case aP => exact BC (aG (jR rfl (aG (ok' := fun k_ => ((fun _ => True)) k_ /\ some k_ ≠ (u10 : Value).ownBlock) (eH (yh.1) (jW HO_10.1) (by decide)) (fun k_ hk => ⟨trivial, hk.2⟩))) (fun _ h_ => h_))); (case aB => exact (BL HB.1)); (case aF => exact (fun _ _ => trivial)); (case aO => exact (ES (eY HO_10.1 (fun k_ hk => ⟨trivial, fun e_ => hk.2 e_⟩)))); (case aS => exact (bZ HB.1)); (case aL => have := acw.1; omega); intro agq w83 ho hb hg hat; rw [<- acx.1] at ho; refine E7 (kF (PR HO_290002.1) (jW (PS HO_10.1)) (by decide) hg) (bG dM.1 hg (xe HO_10.1 dM.1 (by decide))) (bG dR.1 hg (xe HO_10.1 dR.1 (by decide))) (bG dX.1 hg (xe HO_10.1 dX.1 (by decide))) (bG eu.1 hg (xe HO_10.1 eu.1 (by decide))) (hb) (ho) ?_; clear HO_290002 dM dR dX eu HB HO_10 yh; intro HO_290002 dM dR dX eu HB jH; clear ho hb hg hat; have av0 := mH.1; have av1 := ul.1; have av2 := mI.1; have av3 := um.1; obtain ⟨agK, agL, aAG, agM, agN, aAH⟩ := gB eu.1; obtain ⟨Pk, Pm, aGg⟩ := bv HO_290002.1; subst aGg) | ((with_reducible refine aA (f := 95) rfl ?_); refine cK (N := (some 32)) #[.agg #[.int .i64 vH, .int .i64 wQ, .slice Pk fT.length Pm], .int .i64 bK, .int .i64 kz] Try.func95 ?_; (with_reducible refine (pX.calls vH wQ _ _ fT bK kz Gt Ik _ ?side1 ?side2 A20.1).mono ?_); (case side1 => exact CB (ay HO_290002.1).2.2); (case side2 => exact (ay HO_290002.1).2.1); rintro e w89 ⟨rfl, hb⟩; refine ⟨_, rfl, ?_⟩; refine E7 (rB HO_290002.1 hb) (sB jH.1 hb) (bB dM.1 hb) (bB dR.1 hb) (bB dX.1 hb) (bB eu.1 hb) (bS HB.1 hb) ?_; clear HO_290002 jH dM dR dX eu HB; intro HO_290002 jH dM dR dX eu HB; (try clear hb)) | ((with_reducible refine aC (N := 13) rfl ?_); refine dN (cs := #[.int .i64 0, .int .i64 0]) (t := 83) ?_; intro mP hg w90 hbox hb; refine E18 (jf (pE (PR HO_290002.1) mP (Nat.le_of_eq hg.symm)) hb) (sB jH.1 hb) (bB dM.1 hb) (bB dR.1 hb) (bB dX.1 hb) (bB eu.1 hb) (bS HB.1 hb) (hbox) (gX HB.1 hg) (gX HB.1 hg) (nB dM.1 hg) (nC dM.1 hg) (nB dR.1 hg) (nC dR.1 hg) (nB dX.1 hg) (nC dX.1 hg) (nB eu.1 hg) (nC eu.1 hg) ?_; clear HO_290002 jH dM dR dX eu HB; intro HO_290002 jH dM dR dX eu HB lT akF akG qc zt qd zu qf zw qg zx; clear hb hbox hg; have aLu := zt.1; have aLv := qc.1; have aLw := zu.1; have aLx := qd.1; have aLy := zw.1; have aLz := qf.1; have aLA := zx.1; have aLB := qg.1; obtain ⟨aAI, aAJ, aAK, aAL⟩ := nO lT.1) | ((with_reducible refine aA (f := 96) rfl ?_); refine cK (N := (some 43)) #[.agg #[.int .i64 Gt, .int .i64 Ik], .int .i64 iQ] Try.func96 ?_; (with_reducible refine (fo.calls k1 Gt Ik iQ DW _ A49.1).mono ?_); rintro e w96 ⟨rfl, hb⟩; refine ⟨_, rfl, ?_⟩; refine E8 (jf (by (with_reducible repeat (first | apply aV | apply aW | apply aQ)); exact (aG (RQ mP 1 (RQ mP 0 (aG HO_290002.1 (fun k_ hk => (⟨hk, hk.2⟩ : _ /\ k_ ≠ mP))) _) _) (fun _ h_ => h_.1))) hb) (Cy (by (with_reducible repeat (first | apply jF | apply jG | apply iV)); exact (eY (SQ mP 1 (SQ mP 0 (kG jH.1 lT.1 (by decide)) _) _) (fun _ h_ => h_.1))) hb) (dh (g := IU) (o := .cells #[.int .i64 ah, .int .i64 af, .slice aK ae.length aJ] 30 (0, 0)) (xB qc.1 dM.1) hb) (dh (g := nU) (o := .cells #[.int .i64 uo, .int .i64 uq, .int .i64 ut] 54 (0, 0)) (xB qd.1 dR.1) hb) (dh (g := nV) (o := .cells #[.int .i64 uu, .int .i64 uw, .slice none 0 0] 30 (0, 0)) (xB qf.1 dX.1) hb) (dh (g := vk) (o := .cells #[.int .i64 vH, .int .i64 wQ, .slice Pk fT.length Pm] 30 (0, 0)) (xB qg.1 eu.1) hb) (dh (g := mP) (o := .cells #[.int .i64 Gt, .int .i64 Ik] 83 (0, 0)) (BB lT.1) hb) (bS HB.1 hb) ?_; clear HO_290002 jH dM dR dX eu lT HB; intro HO_290002 jH dM dR dX eu lT HB; (try clear hb); (try clear hk); obtain ⟨aAM, aAN, aAO, aAP, aAQ, aAR⟩ := gB eu.1; obtain ⟨aAS, aAT, aAU, aAV, aAW, aAX⟩ := gB dM.1) | ((with_reducible refine aA (f := 97) rfl ?_); refine cK (N := (some 52)) #[.agg #[.int .i64 vH, .int .i64 wQ, .slice Pk fT.length Pm], .slice A1 l1.length c1, .int .i64 (wrap64 ((wrap64 (bK * af)) + kz))] Try.func97 ?_; (with_reducible refine (bT.calls k1 vH wQ (fun k_ => some k_ = (.slice Pk fT.length Pm : Value).ownBlock) (.slice Pk fT.length Pm) fT _ _ l1 (wrap64 ((wrap64 (bK * af)) + kz)) Uy w _ ?side1 ?side2 ?side3 ?side4 A50.1).mono ?_); (case side1 => exact BL HB.1); (case side2 => exact jR rfl HO_290002.1); (case side3 => exact xV (Kd.uU .i64) HR1.1 (BL HB.1) (fun k_ hs_ => (fun e_ => fe HO_290002.1 k_ e_.symm) hs_)); (case side4 => exact vD.1); rintro e ZL ⟨rfl, hy0, hb, hkp⟩; refine ⟨_, rfl, ?_⟩; refine E8 (qp rfl hy0 (fun k_ e_ => HO_290002.1.1 k_ e_)) (eQ (PB dM.1) hkp (fun hs_ => (fun e_ => (dK HO_290002.1 dM.1 (by decide)) e_) hs_)) (eQ (PB dR.1) hkp (fun hs_ => (fun e_ => (dK HO_290002.1 dR.1 (by decide)) e_) hs_)) (eQ (PB dX.1) hkp (fun hs_ => (fun e_ => (dK HO_290002.1 dX.1 (by decide)) e_) hs_)) (eQ (PB eu.1) hkp (fun hs_ => (fun e_ => (dK HO_290002.1 eu.1 (by decide)) e_) hs_)) (eY (ok' := fun k_ => True) (wE ((qC jH.1 (dY HO_290002.1) (by decide))) hkp (fun k_ hk_ hs_ => (hk_.2) hs_)) (fun k_ hk_ => trivial)) (eQ (PB lT.1) hkp (fun hs_ => (fun e_ => (BQ HO_290002.1 (fun _ hk => hk.2)) e_) hs_)) (hb) ?_; clear HO_290002 dM dR dX eu jH lT HB; intro HO_290002 dM dR dX eu jH lT HB; (try clear hb); (try clear hkp); (try clear hy0); obtain ⟨av4, av5, av6, av7, av8, av9⟩ := gB dM.1) | ((with_reducible refine aA (f := 55) rfl ?_); refine cK (N := (some 62)) #[.int .i64 (wrap64 (kz + DW)), .int .i64 0, .int .i64 (wrap64 (af - 1))] Try.func55 ?_; (with_reducible refine (iw.calls (wrap64 (kz + DW)) 0 (wrap64 (af - 1)) false _ A51.1).mono ?_); rintro e w' ⟨rfl, ⟨nd, rfl⟩⟩; refine ⟨_, rfl, ?_⟩; (try (rw [KP ZL]; generalize hq_ : World.drewN ZL _ = ZL; have AV : aa (Kd.S (Kd.slice 3 (Kd.int .i64)) 38 ZL w.heap.size (fun _ => True) agq Ux) := ⟨by rw [<- hq_]; exact (PS jH.1)⟩; have AX : aa (Kd.R jZ 83 ZL w.heap.size (fun k_ => k_ ≠ mP) (.slice Pk fT.length Pm) Uy) := ⟨by rw [<- hq_]; exact (pm (aG HO_290002.1 (fun _ hk => hk.2)))⟩; have AY : aa (ZL.heap[IU]? = some (.cells #[.int .i64 ah, .int .i64 af, .slice aK ae.length aJ] 30 (0, 0))) := ⟨by rw [<- hq_]; exact (PB dM.1)⟩; have AZ : aa (ZL.heap[nU]? = some (.cells #[.int .i64 uo, .int .i64 uq, .int .i64 ut] 54 (0, 0))) := ⟨by rw [<- hq_]; exact (PB dR.1)⟩; have Ed : aa (ZL.heap[nV]? = some (.cells #[.int .i64 uu, .int .i64 uw, .slice none 0 0] 30 (0, 0))) := ⟨by rw [<- hq_]; exact (PB dX.1)⟩; have Ee : aa (ZL.heap[vk]? = some (.cells #[.int .i64 vH, .int .i64 wQ, .slice Pk fT.length Pm] 30 (0, 0))) := ⟨by rw [<- hq_]; exact (PB eu.1)⟩; have Lt : aa (ZL.heap[mP]? = some (.cells #[.int .i64 Gt, .int .i64 Ik] 83 (0, 0))) := ⟨by rw [<- hq_]; exact (PB lT.1)⟩; have RA : aa (Below w.heap.size w ZL) := ⟨by rw [<- hq_]; exact (BL HB.1)⟩; clear jH HO_290002 dM dR dX eu lT HB hq_; have jH := AV; have HO_290002 := AX; have dM := AY; have dR := AZ; have dX := Ed; have eu := Ee; have lT := Lt; have HB := RA; clear AV AX AY AZ Ed Ee Lt RA))))
   refine E8 (aQ HO_290002.1) (iV jH.1) (ag dM.1) (ag dR.1) (ag dX.1) (ag eu.1) (ag lT.1) (dm HB.1) ?_
   clear HO_290002 jH dM dR dX eu lT HB
   intro HO_290002 jH dM dR dX eu lT HB
   refine jN (n := 8) (S := fun w' => w'.cell? ⟨vk, 0, none⟩ = some (.int .i64 vH) /\ w'.cell? ⟨vk, 1, none⟩ = some (.int .i64 wQ) /\ w'.cell? ⟨vk, 2, none⟩ = some (.slice Pk fT.length Pm)) (ds := []) #[Zz,Zz,Zz,Zz,Zz,Zz,Zz,Zz] (by kernel_rfl) rfl rfl ⟨(ai eu.1 0).trans rfl, (ai eu.1 1).trans rfl, (ai eu.1 2).trans rfl⟩ (fun hHeld => ?_); refine iq bJ.avR bJ.bits16 (fun HT_ HW_ => ?_)
   generalize ZL.drew = aPM at HO_290002 jH dM dR dX eu lT HB hHeld ⊢
   refine aU 0 (N := some 64) HT_.1 ?_
   refine aU 1 (N := some 65) HT_.1 ?_
   refine aU 2 (N := some 66) HT_.1 ?_
   refine aU 4 (N := some 68) HT_.1 ?_
   refine gF 3 (N := some 67) HT_.1 HW_.1 hHeld ?_
   refine mV (i := 5) (N := none) #[Yy,Yy,Yy,Yy,Yy,Yy,Zz,Zz] rfl rfl (jc HT_.1 (by kernel_rfl)) (by decide) (fun K hK => ?_)
   obtain ⟨aLC, aLD, aLE, aGh, aGi, aGj⟩ := gB dR.1
   have awc := wU.1
   have awd := wT.1
   refine pF (w1 := ?_) (by rfl) rfl ?_ ?_
   rotate_left
   · go_simp
     rfl
   refine hK.out _ _ ⟨(rP mH.1 hHeld.1), (rP mH.1 hHeld.2.1), (rP mH.1 hHeld.2.2)⟩ (fun hHeld => ?_)
   clear hK K
   refine mV (i := 6) (N := none) #[Yy,Yy,Yy,Yy,Yy,Yy,Yy,Zz] rfl rfl (jc HT_.1 (by kernel_rfl)) (by decide) (fun K hK => ?_)
   obtain ⟨aLF, aLG, aLH, aGk, aGl, aGm⟩ := gB dX.1
   refine pF (w1 := ?_) (by rfl) rfl ?_ ?_
   rotate_left
   · go_simp
     rfl
   refine hK.out _ _ ⟨(rP mI.1 hHeld.1), (rP mI.1 hHeld.2.1), (rP mI.1 hHeld.2.2)⟩ (fun hHeld => ?_)
   clear hK K
   refine aU 7 (N := some 8) HT_.1 ?_
   refine lI (jS HT_.1 (by kernel_rfl)) ?_
   try go_wp2
   refine bodyPost_ret (Ae (rs := [.cell 6 54, .cell 7 30, .tmp 8]) rfl (by simp) (.cell nU 54 #[.int .i64 3, .int .i64 bK, .int .i64 (wrap64 (kz + DW))] (0, 0) _ rfl (xB wT.1 dR.1) Try.underlying54 rfl (by kernel_rfl) (.cell nV 30 #[.int .i64 vH, .int .i64 wQ, .slice Pk fT.length Pm] (0, 0) _ rfl (xB wU.1 dX.1) Try.underlying30 rfl (by kernel_rfl) (.tmp .nil)))) rfl ?_
   exact ⟨_, _, RF, by (with_reducible repeat (first | apply aV | apply aW | apply aQ)); exact aG (RQ nV 2 (RQ nV 1 (RQ nV 0 (mY (p := ⟨nU, 2, none⟩) (mY (p := ⟨nU, 1, none⟩) (mY (p := ⟨nU, 0, none⟩) (bz (bz HO_290002.1 dR.1 (by decide)) dX.1 (by decide)) (fun _ hk => hk.1.2) (.int .i64 3)) (fun _ hk => hk.1.2) (.int .i64 bK)) (fun _ hk => hk.1.2) (.int .i64 (wrap64 (kz + DW)))) _) _) _) (fun _ hk => trivial), by (with_reducible repeat (first | apply jF | apply jG | apply iV)); exact eY (SQ nV 2 (SQ nV 1 (SQ nV 0 (xR (p := ⟨nU, 2, none⟩) (xR (p := ⟨nU, 1, none⟩) (xR (p := ⟨nU, 0, none⟩) (kG (kG jH.1 dR.1 (by decide)) dX.1 (by decide)) (fun _ hk => hk.1.2) (.int .i64 3)) (fun _ hk => hk.1.2) (.int .i64 bK)) (fun _ hk => hk.1.2) (.int .i64 (wrap64 (kz + DW)))) _) _) _) (fun _ hk => trivial), BL HB.1⟩
 simp only [Option.some.injEq, Prod.mk.injEq] at H
 obtain ⟨rfl, rfl, rfl, rfl, rfl, rfl, rfl⟩ := H
 obtain ⟨awe, awf, awg, awh, awi, awj⟩ := gB dM.1
 try go_wp2
 refine E7 (iV HO_10.1) (aQ HO_290002.1) (ag dM.1) (ag dR.1) (ag dX.1) (ag eu.1) (dm HB.1) ?_
 clear HO_10 HO_290002 dM dR dX eu HB
 intro HO_10 HO_290002 dM dR dX eu HB
 obtain ⟨akH, akI, akJ⟩ := bv HO_290002.1
 (first | subst akJ | (injection akJ with rY zZ rZ; have z8 := rY.symm; have Aa := rZ.symm; clear rY zZ rZ; subst z8; subst Aa))
 refine jN (n := 9) (S := fun w' => w'.cell? ⟨IU, 0, none⟩ = some (.int .i64 ah) /\ w'.cell? ⟨IU, 1, none⟩ = some (.int .i64 af) /\ w'.cell? ⟨IU, 2, none⟩ = some (.slice aK ae.length aJ) /\ w'.cell? ⟨vk, 0, none⟩ = some (.int .i64 vH) /\ w'.cell? ⟨vk, 1, none⟩ = some (.int .i64 wQ) /\ w'.cell? ⟨vk, 2, none⟩ = some (.slice akH fT.length akI)) (ds := []) #[Zz,Zz,Zz,Zz,Zz,Zz,Zz,Zz,Zz] (by kernel_rfl) rfl rfl ⟨(ai dM.1 0).trans rfl, (ai dM.1 1).trans rfl, (ai dM.1 2).trans rfl, (ai eu.1 0).trans rfl, (ai eu.1 1).trans rfl, (ai eu.1 2).trans rfl⟩ (fun hHeld => ?_); refine iq bJ.aaZ bJ.bits17 (fun HT_ HW_ => ?_)
 generalize wr.drew = aPN at HO_10 HO_290002 dM dR dX eu HB hHeld ⊢
 refine aU 0 (N := some 69) HT_.1 ?_
 refine aU 2 (N := some 71) HT_.1 ?_
 refine aU 5 (N := some 74) HT_.1 ?_
 refine gF 1 (N := some 70) HT_.1 HW_.1 hHeld ?_
 refine aU 3 (N := some 72) HT_.1 ?_
 refine gF 4 (N := some 73) HT_.1 HW_.1 hHeld ?_
 refine mV (i := 6) (N := none) #[Yy,Yy,Yy,Yy,Yy,Yy,Yy,Zz,Zz] rfl rfl (jc HT_.1 (by kernel_rfl)) (by decide) (fun K hK => ?_)
 obtain ⟨aLI, aLJ, aLK, aGn, aGo, aGp⟩ := gB dR.1
 have awk := wU.1
 have awl := wT.1
 refine pF (w1 := ?_) (by rfl) rfl ?_ ?_
 rotate_left
 · go_simp
   rfl
 refine hK.out _ _ ⟨(rP Dm.1 hHeld.1), (rP Dm.1 hHeld.2.1), (rP Dm.1 hHeld.2.2.1), (rP mH.1 hHeld.2.2.2.1), (rP mH.1 hHeld.2.2.2.2.1), (rP mH.1 hHeld.2.2.2.2.2)⟩ (fun hHeld => ?_)
 clear hK K
 refine mV (i := 7) (N := none) #[Yy,Yy,Yy,Yy,Yy,Yy,Yy,Yy,Zz] rfl rfl (jc HT_.1 (by kernel_rfl)) (by decide) (fun K hK => ?_)
 obtain ⟨aLL, aLM, aLN, aGq, aGr, aGs⟩ := gB dX.1
 refine pF (w1 := ?_) (by rfl) rfl ?_ ?_
 rotate_left
 · go_simp
   rfl
 refine hK.out _ _ ⟨(rP Dn.1 hHeld.1), (rP Dn.1 hHeld.2.1), (rP Dn.1 hHeld.2.2.1), (rP mI.1 hHeld.2.2.2.1), (rP mI.1 hHeld.2.2.2.2.1), (rP mI.1 hHeld.2.2.2.2.2)⟩ (fun hHeld => ?_)
 clear hK K
 refine aU 8 (N := some 8) HT_.1 ?_
 refine lI (jS HT_.1 (by kernel_rfl)) ?_
 try go_wp2
 refine bodyPost_ret (Ae (rs := [.cell 6 54, .cell 7 30, .tmp 8]) rfl (by simp) (.cell nU 54 #[.int .i64 1, .int .i64 ah, .int .i64 kz] (0, 0) _ rfl (xB wT.1 dR.1) Try.underlying54 rfl (by kernel_rfl) (.cell nV 30 #[.int .i64 vH, .int .i64 wQ, .slice akH fT.length akI] (0, 0) _ rfl (xB wU.1 dX.1) Try.underlying30 rfl (by kernel_rfl) (.tmp .nil)))) rfl ?_
 exact ⟨_, _, RF, by (with_reducible repeat (first | apply aV | apply aW | apply aQ)); exact aG (RQ nV 2 (RQ nV 1 (RQ nV 0 (mY (p := ⟨nU, 2, none⟩) (mY (p := ⟨nU, 1, none⟩) (mY (p := ⟨nU, 0, none⟩) (bz (bz HO_290002.1 dR.1 (by decide)) dX.1 (by decide)) (fun _ hk => hk.1.2) (.int .i64 1)) (fun _ hk => hk.1.2) (.int .i64 ah)) (fun _ hk => hk.1.2) (.int .i64 kz)) _) _) _) (fun _ hk => trivial), by (with_reducible repeat (first | apply jF | apply jG | apply iV)); exact eY (SQ nV 2 (SQ nV 1 (SQ nV 0 (xR (p := ⟨nU, 2, none⟩) (xR (p := ⟨nU, 1, none⟩) (xR (p := ⟨nU, 0, none⟩) (kG (kG HO_10.1 dR.1 (by decide)) dX.1 (by decide)) (fun _ hk => hk.1.2) (.int .i64 1)) (fun _ hk => hk.1.2) (.int .i64 ah)) (fun _ hk => hk.1.2) (.int .i64 kz)) _) _) _) (fun _ hk => trivial), BL HB.1⟩
def iU.f (k : Nat) (ah : Int) (af : Int) (ae : List (fq)) (a1 : Int) : Option (Int × Int × Int × Int × Int × (List (fq))) := (ax.f k ah af ae).bind fun oH => ((bJ.f k ah af ae oH a1).bind fun Nw => (some (Nw.1, Nw.2.1, Nw.2.2.1, Nw.2.2.2.1, Nw.2.2.2.2.1, Nw.2.2.2.2.2.1)))
theorem iU.mono : ∀ a0 a1 a2 a3 k, dO (iU.f k a0 a1 a2 a3) (iU.f (k + 1) a0 a1 a2 a3) := by
 intro a0 a1 a2 a3 k
 unfold iU.f
 repeat' first
  | (with_reducible exact bJ.mono _ _ _ _ _ _)
  | (with_reducible exact ax.mono _ _ _ _)
  | (with_reducible exact dO.refl _)
  | (with_reducible exact dO.none _)
  | (with_reducible refine dO.ite ?_ ?_)
  | (with_reducible refine dO.bind ?_ (fun _ => ?_))
  | exact bJ.mono _ _ _ _ _ _
  | exact ax.mono _ _ _ _
  | exact dO.none _
  | refine dO.ite ?_ ?_
  | refine dO.bind ?_ (fun _ => ?_)
def iU.T1 : Bool × List (List Nat × List Nat) := (true, [([], []), ([], []), ([1], [1]), ([], []), ([0, 2, 3, 2], [0, 2, 3]), ([4], [4]), ([5], [5]), ([5], [5]), ([5], [5]), ([], []), ([], []), ([9, 6, 4, 0, 1, 2, 3, 4, 5, 6, 9, 10], [6, 9]), ([10, 7, 11, 0, 1, 2, 3, 4, 5, 6, 7, 9, 10, 11], [7, 10]), ([8, 12, 0, 1, 2, 3, 4, 5, 6, 7, 8, 9, 10, 11, 12], [8])])
def iU.B1 : List Nat := [0, 0, 2, 0, 15, 31, 63, 63, 63, 0, 0, 1663, 3839, 8191]
theorem iU.aby : mX .any (opsOf Try.f69 1) = iU.T1 := by kernel_rfl
theorem iU.bits1 : kr iU.T1.2 iU.B1 = true := by kernel_rfl
theorem iU.calls (k : Nat) (ah : Int) (af : Int) (aK : Option Addr) (aJ : Nat) (ae : List (fq)) (a1 : Int) (r1 : Int) (r2 : Int) (r3 : Int) (r4 : Int) (r5 : Int) (r6 : List (fq)) (w : World) (dH : Kd.C jZ w aK ae.length ae) (dG : ae.length <= aJ) (h : iU.f k ah af ae a1 = some (r1, r2, r3, r4, r5, r6)) :
 Calls Try.prog 69 #[.agg #[.int .i64 ah, .int .i64 af, .slice aK ae.length aJ], .int .i64 a1] w fun e w' => ∃ v5_ : Value, e = .returned (.tuple #[.agg #[.int .i64 r1, .int .i64 r2, .int .i64 r3], .agg #[.int .i64 r4, .int .i64 r5, v5_]]) /\ Kd.R jZ 83 w' w.heap.size (fun _ => True) v5_ r6 /\ Below w.heap.size w w' := by
 have nH := Try.underlying30
 have YM := Try.underlying54
 have bD := aa.mk dH
 have cO := aa.mk dG
 clear dH dG
 have HB := aa.mk (Below.refl w.heap.size w)
 have H := h
 clear h
 unfold iU.f at H
 replace H := dz H; obtain ⟨oH, A3, H⟩ := H
 replace H := dz H; obtain ⟨⟨uy, vo, vI, xq, xG, Bb, Il⟩, A4, H⟩ := H
 dsimp only at H
 simp only [Option.some.injEq, Prod.mk.injEq] at H
 obtain ⟨rfl, rfl, rfl, rfl, rfl, rfl⟩ := H
 go_enter Try.func69, Try.ntmps69
 try go_wp2_with (first | ((with_reducible refine aC (N := 2) rfl ?_); refine dN (cs := #[.int .i64 ah, .int .i64 af, .slice aK ae.length aJ]) (t := 30) ?_; intro bW hg w5 hbox hb; refine mJ HB.1 hg hbox hb ?_; clear HB; intro HB aZ aLO aLP; clear hb hbox hg) | ((with_reducible refine aC (N := 4) rfl ?_); refine dN (cs := #[.int .i64 0, .int .i64 0, .int .i64 0]) (t := 54) ?_; intro gM hg w6 hbox hb; refine E7 (bB aZ.1 hb) (bS HB.1 hb) (hbox) (gX HB.1 hg) (gX HB.1 hg) (nB aZ.1 hg) (nC aZ.1 hg) ?_; clear aZ HB; intro aZ HB bL aLQ aLR Za Zb; clear hb hbox hg) | ((with_reducible refine aC (N := 5) rfl ?_); refine dN (cs := #[.int .i64 0, .int .i64 0, .slice none 0 0]) (t := 30) ?_; intro gN hg w7 hbox hb; refine E10 (bB aZ.1 hb) (bB bL.1 hb) (bS HB.1 hb) (hbox) (gX HB.1 hg) (gX HB.1 hg) (nB aZ.1 hg) (nC aZ.1 hg) (nB bL.1 hg) (nC bL.1 hg) ?_; clear aZ bL HB; intro aZ bL HB bP aLS aLT Zc Zd Ny Nz; clear hb hbox hg))
 refine E4 (ag aZ.1) (ag bL.1) (ag bP.1) (dm HB.1) ?_
 clear aZ bL bP HB
 intro aZ bL bP HB
 refine jN (n := 14) (S := fun w' => w'.cell? ⟨bW, 0, none⟩ = some (.int .i64 ah) /\ w'.cell? ⟨bW, 1, none⟩ = some (.int .i64 af) /\ w'.cell? ⟨bW, 2, none⟩ = some (.slice aK ae.length aJ)) (ds := []) #[Zz,Zz,Zz,Zz,Zz,Zz,Zz,Zz,Zz,Zz,Zz,Zz,Zz,Zz] (by kernel_rfl) rfl rfl ⟨(ai aZ.1 0).trans rfl, (ai aZ.1 1).trans rfl, (ai aZ.1 2).trans rfl⟩ (fun hHeld => ?_); refine iq iU.aby iU.bits1 (fun HT_ HW_ => ?_)
 generalize w7.drew = w8 at aZ bL bP HB hHeld ⊢
 refine aU 3 (N := some 13) HT_.1 ?_
 refine gF 0 (N := some 10) HT_.1 HW_.1 hHeld ?_
 refine gF 1 (N := some 11) HT_.1 HW_.1 hHeld ?_
 refine yS (σ := Value × Value × Value × Nat × Nat) 3 #[Yy,Yy,Yy,Yy,Yy,Yy,Yy,Yy,Yy,Yy,Yy,Zz,Zz,Zz] (fun s_ => [(12, s_.1), (14, .tuple #[.agg #[.int .i64 uy, .int .i64 vo, .int .i64 vI], .agg #[.int .i64 xq, .int .i64 xG, s_.2.1], s_.2.2.1]), (6, .pointer (some ⟨s_.2.2.2.1, 0, none⟩)), (7, .pointer (some ⟨s_.2.2.2.2, 0, none⟩)), (9, .tuple #[.agg #[.int .i64 uy, .int .i64 vo, .int .i64 vI], .agg #[.int .i64 xq, .int .i64 xG, s_.2.1], s_.2.2.1]), (15, .agg #[.int .i64 uy, .int .i64 vo, .int .i64 vI]), (16, .agg #[.int .i64 xq, .int .i64 xG, s_.2.1]), (17, s_.2.2.1)]) (fun s_ w' => (w'.cell? ⟨bW, 0, none⟩ = some (.int .i64 ah) /\ w'.cell? ⟨bW, 1, none⟩ = some (.int .i64 af) /\ w'.cell? ⟨bW, 2, none⟩ = some (.slice aK ae.length aJ)) /\ (Kd.R (Kd.int .i64) 3 w' w.heap.size (fun _ => True) s_.1 oH) /\ (Kd.R jZ 83 w' w.heap.size (fun _ => True) s_.2.1 Bb) /\ (Kd.S (Kd.slice 3 (Kd.int .i64)) 38 w' w.heap.size (fun k_ => some k_ ≠ (s_.1 : Value).ownBlock) s_.2.2.1 Il) /\ (w'.heap[bW]? = some (.cells #[.int .i64 ah, .int .i64 af, .slice aK ae.length aJ] 30 (0, 0))) /\ (w'.heap[gM]? = some (.cells #[.int .i64 0, .int .i64 0, .int .i64 0] 54 (0, 0))) /\ (w'.heap[gN]? = some (.cells #[.int .i64 0, .int .i64 0, .slice none 0 0] 30 (0, 0))) /\ (w'.heap[s_.2.2.2.1]? = some (.cells #[.int .i64 0, .int .i64 0, .int .i64 0] 54 (0, 0))) /\ (w'.heap[s_.2.2.2.2]? = some (.cells #[.int .i64 0, .int .i64 0, .slice none 0 0] 30 (0, 0))) /\ (w.heap.size <= s_.2.2.2.1) /\ (w.heap.size <= s_.2.2.2.1) /\ (bW ≠ s_.2.2.2.1) /\ (s_.2.2.2.1 ≠ bW) /\ (gM ≠ s_.2.2.2.1) /\ (s_.2.2.2.1 ≠ gM) /\ (gN ≠ s_.2.2.2.1) /\ (s_.2.2.2.1 ≠ gN) /\ (s_.2.2.2.2 ≠ s_.2.2.2.1) /\ (s_.2.2.2.1 ≠ s_.2.2.2.2) /\ (w.heap.size <= s_.2.2.2.2) /\ (w.heap.size <= s_.2.2.2.2) /\ (bW ≠ s_.2.2.2.2) /\ (s_.2.2.2.2 ≠ bW) /\ (gM ≠ s_.2.2.2.2) /\ (s_.2.2.2.2 ≠ gM) /\ (gN ≠ s_.2.2.2.2) /\ (s_.2.2.2.2 ≠ gN) /\ (Below w.heap.size w w')) ?_ ?_
 rotate_left
 · intro EI
   refine yS (σ := Value × Value × Value × Nat) 4 #[Yy,Yy,Yy,Yy,Yy,Yy,Yy,Yy,Yy,Yy,Zz,Zz,Zz,Zz] (fun s_ => [(12, s_.1), (14, .tuple #[.agg #[.int .i64 uy, .int .i64 vo, .int .i64 vI], .agg #[.int .i64 xq, .int .i64 xG, s_.2.1], s_.2.2.1]), (6, .pointer (some ⟨s_.2.2.2, 0, none⟩)), (9, .tuple #[.agg #[.int .i64 uy, .int .i64 vo, .int .i64 vI], .agg #[.int .i64 xq, .int .i64 xG, s_.2.1], s_.2.2.1]), (15, .agg #[.int .i64 uy, .int .i64 vo, .int .i64 vI]), (16, .agg #[.int .i64 xq, .int .i64 xG, s_.2.1]), (17, s_.2.2.1)]) (fun s_ w' => (w'.cell? ⟨bW, 0, none⟩ = some (.int .i64 ah) /\ w'.cell? ⟨bW, 1, none⟩ = some (.int .i64 af) /\ w'.cell? ⟨bW, 2, none⟩ = some (.slice aK ae.length aJ)) /\ (Kd.R (Kd.int .i64) 3 w' w.heap.size (fun _ => True) s_.1 oH) /\ (Kd.R jZ 83 w' w.heap.size (fun _ => True) s_.2.1 Bb) /\ (Kd.S (Kd.slice 3 (Kd.int .i64)) 38 w' w.heap.size (fun k_ => some k_ ≠ (s_.1 : Value).ownBlock) s_.2.2.1 Il) /\ (w'.heap[bW]? = some (.cells #[.int .i64 ah, .int .i64 af, .slice aK ae.length aJ] 30 (0, 0))) /\ (w'.heap[gM]? = some (.cells #[.int .i64 0, .int .i64 0, .int .i64 0] 54 (0, 0))) /\ (w'.heap[gN]? = some (.cells #[.int .i64 0, .int .i64 0, .slice none 0 0] 30 (0, 0))) /\ (w'.heap[s_.2.2.2]? = some (.cells #[.int .i64 0, .int .i64 0, .int .i64 0] 54 (0, 0))) /\ (w.heap.size <= s_.2.2.2) /\ (w.heap.size <= s_.2.2.2) /\ (bW ≠ s_.2.2.2) /\ (s_.2.2.2 ≠ bW) /\ (gM ≠ s_.2.2.2) /\ (s_.2.2.2 ≠ gM) /\ (gN ≠ s_.2.2.2) /\ (s_.2.2.2 ≠ gN) /\ (Below w.heap.size w w')) ?_ ?_
   rotate_left
   · intro WW
     refine yS (σ := Value × Value × Value × Nat) 4 #[Yy,Yy,Yy,Yy,Yy,Yy,Yy,Yy,Yy,Zz,Yy,Zz,Zz,Zz] (fun s_ => [(12, s_.1), (14, .tuple #[.agg #[.int .i64 uy, .int .i64 vo, .int .i64 vI], .agg #[.int .i64 xq, .int .i64 xG, s_.2.1], s_.2.2.1]), (7, .pointer (some ⟨s_.2.2.2, 0, none⟩)), (9, .tuple #[.agg #[.int .i64 uy, .int .i64 vo, .int .i64 vI], .agg #[.int .i64 xq, .int .i64 xG, s_.2.1], s_.2.2.1]), (15, .agg #[.int .i64 uy, .int .i64 vo, .int .i64 vI]), (16, .agg #[.int .i64 xq, .int .i64 xG, s_.2.1]), (17, s_.2.2.1)]) (fun s_ w' => (w'.cell? ⟨bW, 0, none⟩ = some (.int .i64 ah) /\ w'.cell? ⟨bW, 1, none⟩ = some (.int .i64 af) /\ w'.cell? ⟨bW, 2, none⟩ = some (.slice aK ae.length aJ)) /\ (Kd.R (Kd.int .i64) 3 w' w.heap.size (fun _ => True) s_.1 oH) /\ (Kd.R jZ 83 w' w.heap.size (fun _ => True) s_.2.1 Bb) /\ (Kd.S (Kd.slice 3 (Kd.int .i64)) 38 w' w.heap.size (fun k_ => some k_ ≠ (s_.1 : Value).ownBlock) s_.2.2.1 Il) /\ (w'.heap[bW]? = some (.cells #[.int .i64 ah, .int .i64 af, .slice aK ae.length aJ] 30 (0, 0))) /\ (w'.heap[gM]? = some (.cells #[.int .i64 0, .int .i64 0, .int .i64 0] 54 (0, 0))) /\ (w'.heap[gN]? = some (.cells #[.int .i64 0, .int .i64 0, .slice none 0 0] 30 (0, 0))) /\ (w'.heap[s_.2.2.2]? = some (.cells #[.int .i64 0, .int .i64 0, .slice none 0 0] 30 (0, 0))) /\ (w.heap.size <= s_.2.2.2) /\ (w.heap.size <= s_.2.2.2) /\ (bW ≠ s_.2.2.2) /\ (s_.2.2.2 ≠ bW) /\ (gM ≠ s_.2.2.2) /\ (s_.2.2.2 ≠ gM) /\ (gN ≠ s_.2.2.2) /\ (s_.2.2.2 ≠ gN) /\ (Below w.heap.size w w')) ?_ ?_
     rotate_left
     · intro RB
       refine yS (σ := Value × Nat × Nat) 8 #[Yy,Yy,Yy,Yy,Zz,Zz,Zz,Zz,Zz,Yy,Yy,Zz,Zz,Zz] (fun s_ => [(12, s_.1), (6, .pointer (some ⟨s_.2.1, 0, none⟩)), (7, .pointer (some ⟨s_.2.2, 0, none⟩))]) (fun s_ w' => (w'.cell? ⟨bW, 0, none⟩ = some (.int .i64 ah) /\ w'.cell? ⟨bW, 1, none⟩ = some (.int .i64 af) /\ w'.cell? ⟨bW, 2, none⟩ = some (.slice aK ae.length aJ)) /\ (Kd.R (Kd.int .i64) 3 w' w.heap.size (fun _ => True) s_.1 oH) /\ (w'.heap[bW]? = some (.cells #[.int .i64 ah, .int .i64 af, .slice aK ae.length aJ] 30 (0, 0))) /\ (w'.heap[gM]? = some (.cells #[.int .i64 0, .int .i64 0, .int .i64 0] 54 (0, 0))) /\ (w'.heap[gN]? = some (.cells #[.int .i64 0, .int .i64 0, .slice none 0 0] 30 (0, 0))) /\ (w'.heap[s_.2.1]? = some (.cells #[.int .i64 0, .int .i64 0, .int .i64 0] 54 (0, 0))) /\ (w'.heap[s_.2.2]? = some (.cells #[.int .i64 0, .int .i64 0, .slice none 0 0] 30 (0, 0))) /\ (w.heap.size <= s_.2.1) /\ (w.heap.size <= s_.2.1) /\ (bW ≠ s_.2.1) /\ (s_.2.1 ≠ bW) /\ (gM ≠ s_.2.1) /\ (s_.2.1 ≠ gM) /\ (gN ≠ s_.2.1) /\ (s_.2.1 ≠ gN) /\ (s_.2.2 ≠ s_.2.1) /\ (s_.2.1 ≠ s_.2.2) /\ (w.heap.size <= s_.2.2) /\ (w.heap.size <= s_.2.2) /\ (bW ≠ s_.2.2) /\ (s_.2.2 ≠ bW) /\ (gM ≠ s_.2.2) /\ (s_.2.2 ≠ gM) /\ (gN ≠ s_.2.2) /\ (s_.2.2 ≠ gN) /\ (Below w.heap.size w w')) ?_ ?_
       rotate_left
       · intro Lu
         refine yS (σ := Value × Value × Value) 5 #[Yy,Yy,Yy,Yy,Yy,Yy,Yy,Yy,Yy,Zz,Zz,Zz,Zz,Zz] (fun s_ => [(12, s_.1), (14, .tuple #[.agg #[.int .i64 uy, .int .i64 vo, .int .i64 vI], .agg #[.int .i64 xq, .int .i64 xG, s_.2.1], s_.2.2]), (9, .tuple #[.agg #[.int .i64 uy, .int .i64 vo, .int .i64 vI], .agg #[.int .i64 xq, .int .i64 xG, s_.2.1], s_.2.2]), (15, .agg #[.int .i64 uy, .int .i64 vo, .int .i64 vI]), (16, .agg #[.int .i64 xq, .int .i64 xG, s_.2.1]), (17, s_.2.2)]) (fun s_ w' => (w'.cell? ⟨bW, 0, none⟩ = some (.int .i64 ah) /\ w'.cell? ⟨bW, 1, none⟩ = some (.int .i64 af) /\ w'.cell? ⟨bW, 2, none⟩ = some (.slice aK ae.length aJ)) /\ (Kd.R (Kd.int .i64) 3 w' w.heap.size (fun _ => True) s_.1 oH) /\ (Kd.R jZ 83 w' w.heap.size (fun _ => True) s_.2.1 Bb) /\ (Kd.S (Kd.slice 3 (Kd.int .i64)) 38 w' w.heap.size (fun k_ => some k_ ≠ (s_.1 : Value).ownBlock) s_.2.2 Il) /\ (w'.heap[bW]? = some (.cells #[.int .i64 ah, .int .i64 af, .slice aK ae.length aJ] 30 (0, 0))) /\ (w'.heap[gM]? = some (.cells #[.int .i64 0, .int .i64 0, .int .i64 0] 54 (0, 0))) /\ (w'.heap[gN]? = some (.cells #[.int .i64 0, .int .i64 0, .slice none 0 0] 30 (0, 0))) /\ (Below w.heap.size w w')) ?_ ?_
         rotate_left
         · intro awm
           refine yS (σ := Value × Nat) 9 #[Yy,Yy,Yy,Yy,Zz,Zz,Zz,Zz,Zz,Yy,Zz,Zz,Zz,Zz] (fun s_ => [(12, s_.1), (6, .pointer (some ⟨s_.2, 0, none⟩))]) (fun s_ w' => (w'.cell? ⟨bW, 0, none⟩ = some (.int .i64 ah) /\ w'.cell? ⟨bW, 1, none⟩ = some (.int .i64 af) /\ w'.cell? ⟨bW, 2, none⟩ = some (.slice aK ae.length aJ)) /\ (Kd.R (Kd.int .i64) 3 w' w.heap.size (fun _ => True) s_.1 oH) /\ (w'.heap[bW]? = some (.cells #[.int .i64 ah, .int .i64 af, .slice aK ae.length aJ] 30 (0, 0))) /\ (w'.heap[gM]? = some (.cells #[.int .i64 0, .int .i64 0, .int .i64 0] 54 (0, 0))) /\ (w'.heap[gN]? = some (.cells #[.int .i64 0, .int .i64 0, .slice none 0 0] 30 (0, 0))) /\ (w'.heap[s_.2]? = some (.cells #[.int .i64 0, .int .i64 0, .int .i64 0] 54 (0, 0))) /\ (w.heap.size <= s_.2) /\ (w.heap.size <= s_.2) /\ (bW ≠ s_.2) /\ (s_.2 ≠ bW) /\ (gM ≠ s_.2) /\ (s_.2 ≠ gM) /\ (gN ≠ s_.2) /\ (s_.2 ≠ gN) /\ (Below w.heap.size w w')) ?_ ?_
           rotate_left
           · intro akK
             refine yS (σ := Value × Nat) 9 #[Yy,Yy,Yy,Yy,Zz,Zz,Zz,Zz,Zz,Zz,Yy,Zz,Zz,Zz] (fun s_ => [(12, s_.1), (7, .pointer (some ⟨s_.2, 0, none⟩))]) (fun s_ w' => (w'.cell? ⟨bW, 0, none⟩ = some (.int .i64 ah) /\ w'.cell? ⟨bW, 1, none⟩ = some (.int .i64 af) /\ w'.cell? ⟨bW, 2, none⟩ = some (.slice aK ae.length aJ)) /\ (Kd.R (Kd.int .i64) 3 w' w.heap.size (fun _ => True) s_.1 oH) /\ (w'.heap[bW]? = some (.cells #[.int .i64 ah, .int .i64 af, .slice aK ae.length aJ] 30 (0, 0))) /\ (w'.heap[gM]? = some (.cells #[.int .i64 0, .int .i64 0, .int .i64 0] 54 (0, 0))) /\ (w'.heap[gN]? = some (.cells #[.int .i64 0, .int .i64 0, .slice none 0 0] 30 (0, 0))) /\ (w'.heap[s_.2]? = some (.cells #[.int .i64 0, .int .i64 0, .slice none 0 0] 30 (0, 0))) /\ (w.heap.size <= s_.2) /\ (w.heap.size <= s_.2) /\ (bW ≠ s_.2) /\ (s_.2 ≠ bW) /\ (gM ≠ s_.2) /\ (s_.2 ≠ gM) /\ (gN ≠ s_.2) /\ (s_.2 ≠ gN) /\ (Below w.heap.size w w')) ?_ ?_
             rotate_left
             · intro acA
               refine yS (σ := Nat × Nat) 9 #[Yy,Yy,Zz,Yy,Zz,Zz,Zz,Zz,Zz,Yy,Yy,Zz,Zz,Zz] (fun s_ => [(6, .pointer (some ⟨s_.1, 0, none⟩)), (7, .pointer (some ⟨s_.2, 0, none⟩))]) (fun s_ w' => (w'.cell? ⟨bW, 0, none⟩ = some (.int .i64 ah) /\ w'.cell? ⟨bW, 1, none⟩ = some (.int .i64 af) /\ w'.cell? ⟨bW, 2, none⟩ = some (.slice aK ae.length aJ)) /\ (w'.heap[bW]? = some (.cells #[.int .i64 ah, .int .i64 af, .slice aK ae.length aJ] 30 (0, 0))) /\ (w'.heap[gM]? = some (.cells #[.int .i64 0, .int .i64 0, .int .i64 0] 54 (0, 0))) /\ (w'.heap[gN]? = some (.cells #[.int .i64 0, .int .i64 0, .slice none 0 0] 30 (0, 0))) /\ (w'.heap[s_.1]? = some (.cells #[.int .i64 0, .int .i64 0, .int .i64 0] 54 (0, 0))) /\ (w'.heap[s_.2]? = some (.cells #[.int .i64 0, .int .i64 0, .slice none 0 0] 30 (0, 0))) /\ (w.heap.size <= s_.1) /\ (w.heap.size <= s_.1) /\ (bW ≠ s_.1) /\ (s_.1 ≠ bW) /\ (gM ≠ s_.1) /\ (s_.1 ≠ gM) /\ (gN ≠ s_.1) /\ (s_.1 ≠ gN) /\ (s_.2 ≠ s_.1) /\ (s_.1 ≠ s_.2) /\ (w.heap.size <= s_.2) /\ (w.heap.size <= s_.2) /\ (bW ≠ s_.2) /\ (s_.2 ≠ bW) /\ (gM ≠ s_.2) /\ (s_.2 ≠ gM) /\ (gN ≠ s_.2) /\ (s_.2 ≠ gN) /\ (Below w.heap.size w w')) ?_ ?_
               rotate_left
               · intro acB
                 refine yS (σ := Value) 10 #[Yy,Yy,Yy,Yy,Zz,Zz,Zz,Zz,Zz,Zz,Zz,Zz,Zz,Zz] (fun s_ => [(12, s_)]) (fun s_ w' => (w'.cell? ⟨bW, 0, none⟩ = some (.int .i64 ah) /\ w'.cell? ⟨bW, 1, none⟩ = some (.int .i64 af) /\ w'.cell? ⟨bW, 2, none⟩ = some (.slice aK ae.length aJ)) /\ (Kd.R (Kd.int .i64) 3 w' w.heap.size (fun _ => True) s_ oH) /\ (w'.heap[bW]? = some (.cells #[.int .i64 ah, .int .i64 af, .slice aK ae.length aJ] 30 (0, 0))) /\ (w'.heap[gM]? = some (.cells #[.int .i64 0, .int .i64 0, .int .i64 0] 54 (0, 0))) /\ (w'.heap[gN]? = some (.cells #[.int .i64 0, .int .i64 0, .slice none 0 0] 30 (0, 0))) /\ (Below w.heap.size w w')) ?_ ?_
                 rotate_left
                 · intro hJ2
                   refine yS (σ := Nat) 10 #[Yy,Yy,Zz,Yy,Zz,Zz,Zz,Zz,Zz,Yy,Zz,Zz,Zz,Zz] (fun s_ => [(6, .pointer (some ⟨s_, 0, none⟩))]) (fun s_ w' => (w'.cell? ⟨bW, 0, none⟩ = some (.int .i64 ah) /\ w'.cell? ⟨bW, 1, none⟩ = some (.int .i64 af) /\ w'.cell? ⟨bW, 2, none⟩ = some (.slice aK ae.length aJ)) /\ (w'.heap[bW]? = some (.cells #[.int .i64 ah, .int .i64 af, .slice aK ae.length aJ] 30 (0, 0))) /\ (w'.heap[gM]? = some (.cells #[.int .i64 0, .int .i64 0, .int .i64 0] 54 (0, 0))) /\ (w'.heap[gN]? = some (.cells #[.int .i64 0, .int .i64 0, .slice none 0 0] 30 (0, 0))) /\ (w'.heap[s_]? = some (.cells #[.int .i64 0, .int .i64 0, .int .i64 0] 54 (0, 0))) /\ (w.heap.size <= s_) /\ (w.heap.size <= s_) /\ (bW ≠ s_) /\ (s_ ≠ bW) /\ (gM ≠ s_) /\ (s_ ≠ gM) /\ (gN ≠ s_) /\ (s_ ≠ gN) /\ (Below w.heap.size w w')) ?_ ?_
                   rotate_left
                   · intro hJ9
                     refine yS (σ := Nat) 10 #[Yy,Yy,Zz,Yy,Zz,Zz,Zz,Zz,Zz,Zz,Yy,Zz,Zz,Zz] (fun s_ => [(7, .pointer (some ⟨s_, 0, none⟩))]) (fun s_ w' => (w'.cell? ⟨bW, 0, none⟩ = some (.int .i64 ah) /\ w'.cell? ⟨bW, 1, none⟩ = some (.int .i64 af) /\ w'.cell? ⟨bW, 2, none⟩ = some (.slice aK ae.length aJ)) /\ (w'.heap[bW]? = some (.cells #[.int .i64 ah, .int .i64 af, .slice aK ae.length aJ] 30 (0, 0))) /\ (w'.heap[gM]? = some (.cells #[.int .i64 0, .int .i64 0, .int .i64 0] 54 (0, 0))) /\ (w'.heap[gN]? = some (.cells #[.int .i64 0, .int .i64 0, .slice none 0 0] 30 (0, 0))) /\ (w'.heap[s_]? = some (.cells #[.int .i64 0, .int .i64 0, .slice none 0 0] 30 (0, 0))) /\ (w.heap.size <= s_) /\ (w.heap.size <= s_) /\ (bW ≠ s_) /\ (s_ ≠ bW) /\ (gM ≠ s_) /\ (s_ ≠ gM) /\ (gN ≠ s_) /\ (s_ ≠ gN) /\ (Below w.heap.size w w')) ?_ ?_
                     rotate_left
                     · intro aGt
                       refine aap (i := 2) (j := 9) (k := 10) (Ni := some 12) (Nj := some 6) (Nk := some 7) #[Yy,Yy,Yy,Yy,Zz,Zz,Zz,Zz,Zz,Zz,Zz,Zz,Zz,Zz] #[Yy,Yy,Zz,Yy,Zz,Zz,Zz,Zz,Zz,Yy,Zz,Zz,Zz,Zz] #[Yy,Yy,Zz,Yy,Zz,Zz,Zz,Zz,Zz,Zz,Yy,Zz,Zz,Zz] rfl rfl rfl rfl rfl rfl (QE HT_.1 (by kernel_rfl)) (by decide) (by decide) (by decide) (fun K hK => ?_) (fun K hK => ?_) (fun K hK => ?_)
                       · skip
                         refine nA Try.func80 (by kernel_rfl) rfl #[.agg #[.int .i64 ah, .int .i64 af, .slice aK ae.length aJ]] (by rfl) rfl rfl (by (try simp only [List.map_toArray, List.map_cons, List.map_nil]); first | done | rfl | (simp only [List.length_drop, List.length_take]; rfl)) ?_
                         with_reducible refine (ax.calls k ah af _ _ ae oH _ ?side1 ?side2 A3.1).mono ?_
                         (case side1 => exact CB (aY bD.1 HB.1))
                         (case side2 => exact cO.1)
                         rintro e w9 ⟨qK, rfl, ho0, hb⟩
                         refine ⟨_, rfl, ?_⟩
                         refine E5 (bN ho0 (bZ HB.1)) (bB aZ.1 hb) (bB bL.1 hb) (bB bP.1 hb) (bS HB.1 hb) ?_
                         clear aZ bL bP HB
                         intro fw aZ bL bP HB
                         (try clear hb)
                         (try clear hb2)
                         (try clear hk)
                         (try clear hi)
                         (try clear ho0)
                         refine hK.out _ _ ⟨(ai aZ.1 0).trans rfl, (ai aZ.1 1).trans rfl, (ai aZ.1 2).trans rfl⟩ (fun hHeld => ?_)
                         clear hK K
                         refine eX (a' := ?_) ?_ ?_
                         rotate_left
                         · show Act.put _ (some 12) _ = _
                           simp only [Act.put, List.setIfInBounds_toArray, List.set_cons_zero, List.set_cons_succ, cz, dF]
                           rfl
                         exact eX NA (hJ2 (qK) _ ⟨hHeld, (PR fw.1), (PB aZ.1), (PB bL.1), (PB bP.1), (BL HB.1)⟩)
                       · skip
                         refine ma ?hg (N := 6) ?hd (cs := #[.int .i64 0, .int .i64 0, .int .i64 0]) (t := 54) ?hr ?_; (case hd => rfl); (case hg => rfl); (case hr => first | (go_simp; done) | (go_simp; rfl))
                         intro eF hg w9 hbox hb
                         refine E13 (bB aZ.1 hb) (bB bL.1 hb) (bB bP.1 hb) (bS HB.1 hb) (hbox) (gX HB.1 hg) (gX HB.1 hg) (nB aZ.1 hg) (nC aZ.1 hg) (nB bL.1 hg) (nC bL.1 hg) (nB bP.1 hg) (nC bP.1 hg) ?_
                         clear aZ bL bP HB
                         intro aZ bL bP HB ig o6 o7 fU iM gP gQ gT gU
                         clear hb hbox hg
                         refine hK.out _ _ ⟨(ai aZ.1 0).trans rfl, (ai aZ.1 1).trans rfl, (ai aZ.1 2).trans rfl⟩ (fun hHeld => ?_)
                         clear hK K
                         refine eX (a' := ?_) ?_ ?_
                         rotate_left
                         · show Act.put _ (some 6) _ = _
                           simp only [Act.put, List.setIfInBounds_toArray, List.set_cons_zero, List.set_cons_succ, cz, dF]
                           rfl
                         exact eX NA (hJ9 (eF) _ ⟨hHeld, (PB aZ.1), (PB bL.1), (PB bP.1), (PB ig.1), o6.1, o7.1, fU.1, iM.1, gP.1, gQ.1, gT.1, gU.1, (BL HB.1)⟩)
                       skip
                       refine ma ?hg (N := 7) ?hd (cs := #[.int .i64 0, .int .i64 0, .slice none 0 0]) (t := 30) ?hr ?_; (case hd => rfl); (case hg => rfl); (case hr => first | (go_simp; done) | (go_simp; rfl))
                       intro eG hg w9 hbox hb
                       refine E13 (bB aZ.1 hb) (bB bL.1 hb) (bB bP.1 hb) (bS HB.1 hb) (hbox) (gX HB.1 hg) (gX HB.1 hg) (nB aZ.1 hg) (nC aZ.1 hg) (nB bL.1 hg) (nC bL.1 hg) (nB bP.1 hg) (nC bP.1 hg) ?_
                       clear aZ bL bP HB
                       intro aZ bL bP HB ik o8 o9 fV iN gV gW gY gZ
                       clear hb hbox hg
                       refine hK.out _ _ ⟨(ai aZ.1 0).trans rfl, (ai aZ.1 1).trans rfl, (ai aZ.1 2).trans rfl⟩ (fun hHeld => ?_)
                       clear hK K
                       refine eX (a' := ?_) ?_ ?_
                       rotate_left
                       · show Act.put _ (some 7) _ = _
                         simp only [Act.put, List.setIfInBounds_toArray, List.set_cons_zero, List.set_cons_succ, cz, dF]
                         rfl
                       exact eX NA (aGt (eG) _ ⟨hHeld, (PB aZ.1), (PB bL.1), (PB bP.1), (PB ik.1), o8.1, o9.1, fV.1, iN.1, gV.1, gW.1, gY.1, gZ.1, (BL HB.1)⟩)
                     skip
                     rintro eG Hw ⟨hS_, qG, qH, qi, qI, qJ, tX, xk, zk, Ce, IV, vv, vw, vz⟩
                     refine E13 qG qH qi qI qJ tX xk zk Ce IV vv vw vz ?_
                     clear aZ bL bP HB qG qH qi qI qJ tX xk zk Ce IV vv vw vz
                     intro aZ bL bP ik o8 o9 fV iN gV gW gY gZ HB
                     have hHeld : Hw.cell? ⟨bW, 0, none⟩ = some (.int .i64 ah) /\ Hw.cell? ⟨bW, 1, none⟩ = some (.int .i64 af) /\ Hw.cell? ⟨bW, 2, none⟩ = some (.slice aK ae.length aJ) := hS_
                     refine eX (a' := ?_) ?_ ?_
                     rotate_left
                     · simp only [oQ, Act.put, List.setIfInBounds_toArray, List.set_cons_zero, List.set_cons_succ]
                       rfl
                     refine Tn (i := 2) (j := 9) (Ni := some 12) (Nj := some 6) #[Yy,Yy,Yy,Yy,Zz,Zz,Zz,Zz,Zz,Zz,Yy,Zz,Zz,Zz] #[Yy,Yy,Zz,Yy,Zz,Zz,Zz,Zz,Zz,Yy,Yy,Zz,Zz,Zz] rfl rfl rfl rfl (Ey HT_.1 (by kernel_rfl)) (by decide) (by decide) (fun K hK => ?_) (fun K hK => ?_)
                     · skip
                       refine nA Try.func80 (by kernel_rfl) rfl #[.agg #[.int .i64 ah, .int .i64 af, .slice aK ae.length aJ]] (by rfl) rfl rfl (by (try simp only [List.map_toArray, List.map_cons, List.map_nil]); first | done | rfl | (simp only [List.length_drop, List.length_take]; rfl)) ?_
                       with_reducible refine (ax.calls k ah af _ _ ae oH _ ?side1 ?side2 A3.1).mono ?_
                       (case side1 => exact CB (aY bD.1 HB.1))
                       (case side2 => exact cO.1)
                       rintro e qy ⟨qK, rfl, ho0, hb⟩
                       refine ⟨_, rfl, ?_⟩
                       refine E6 (bN ho0 (bZ HB.1)) (bB aZ.1 hb) (bB bL.1 hb) (bB bP.1 hb) (bB ik.1 hb) (bS HB.1 hb) ?_
                       clear aZ bL bP ik HB
                       intro fw aZ bL bP ik HB
                       (try clear hb)
                       (try clear hb2)
                       (try clear hk)
                       (try clear hi)
                       (try clear ho0)
                       refine hK.out _ _ ⟨(ai aZ.1 0).trans rfl, (ai aZ.1 1).trans rfl, (ai aZ.1 2).trans rfl⟩ (fun hHeld => ?_)
                       clear hK K
                       refine eX (a' := ?_) ?_ ?_
                       rotate_left
                       · show Act.put _ (some 12) _ = _
                         simp only [Act.put, List.setIfInBounds_toArray, List.set_cons_zero, List.set_cons_succ, cz, dF]
                         rfl
                       exact eX NA (acA (qK, eG) _ ⟨hHeld, (PR fw.1), (PB aZ.1), (PB bL.1), (PB bP.1), (PB ik.1), o8.1, o9.1, fV.1, iN.1, gV.1, gW.1, gY.1, gZ.1, (BL HB.1)⟩)
                     skip
                     refine ma ?hg (N := 6) ?hd (cs := #[.int .i64 0, .int .i64 0, .int .i64 0]) (t := 54) ?hr ?_; (case hd => rfl); (case hg => rfl); (case hr => first | (go_simp; done) | (go_simp; rfl))
                     intro eF hg qy hbox hb
                     refine E16 (bB aZ.1 hb) (bB bL.1 hb) (bB bP.1 hb) (bB ik.1 hb) (bS HB.1 hb) (hbox) (gX HB.1 hg) (gX HB.1 hg) (nB aZ.1 hg) (nC aZ.1 hg) (nB bL.1 hg) (nC bL.1 hg) (nB bP.1 hg) (nC bP.1 hg) (nB ik.1 hg) (nC ik.1 hg) ?_
                     clear aZ bL bP ik HB
                     intro aZ bL bP ik HB ig o6 o7 fU iM gP gQ gT gU jK jL
                     clear hb hbox hg
                     refine hK.out _ _ ⟨(ai aZ.1 0).trans rfl, (ai aZ.1 1).trans rfl, (ai aZ.1 2).trans rfl⟩ (fun hHeld => ?_)
                     clear hK K
                     refine eX (a' := ?_) ?_ ?_
                     rotate_left
                     · show Act.put _ (some 6) _ = _
                       simp only [Act.put, List.setIfInBounds_toArray, List.set_cons_zero, List.set_cons_succ, cz, dF]
                       rfl
                     exact eX NA (acB (eF, eG) _ ⟨hHeld, (PB aZ.1), (PB bL.1), (PB bP.1), (PB ig.1), (PB ik.1), o6.1, o7.1, fU.1, iM.1, gP.1, gQ.1, gT.1, gU.1, jK.1, jL.1, o8.1, o9.1, fV.1, iN.1, gV.1, gW.1, gY.1, gZ.1, (BL HB.1)⟩)
                   skip
                   rintro eF Hw ⟨hS_, qG, qH, qi, qI, qJ, tX, xk, zk, Ce, IV, vv, vw, vz⟩
                   refine E13 qG qH qi qI qJ tX xk zk Ce IV vv vw vz ?_
                   clear aZ bL bP HB qG qH qi qI qJ tX xk zk Ce IV vv vw vz
                   intro aZ bL bP ig o6 o7 fU iM gP gQ gT gU HB
                   have hHeld : Hw.cell? ⟨bW, 0, none⟩ = some (.int .i64 ah) /\ Hw.cell? ⟨bW, 1, none⟩ = some (.int .i64 af) /\ Hw.cell? ⟨bW, 2, none⟩ = some (.slice aK ae.length aJ) := hS_
                   refine eX (a' := ?_) ?_ ?_
                   rotate_left
                   · simp only [oQ, Act.put, List.setIfInBounds_toArray, List.set_cons_zero, List.set_cons_succ]
                     rfl
                   refine Tn (i := 2) (j := 10) (Ni := some 12) (Nj := some 7) #[Yy,Yy,Yy,Yy,Zz,Zz,Zz,Zz,Zz,Yy,Zz,Zz,Zz,Zz] #[Yy,Yy,Zz,Yy,Zz,Zz,Zz,Zz,Zz,Yy,Yy,Zz,Zz,Zz] rfl rfl rfl rfl (Ey HT_.1 (by kernel_rfl)) (by decide) (by decide) (fun K hK => ?_) (fun K hK => ?_)
                   · skip
                     refine nA Try.func80 (by kernel_rfl) rfl #[.agg #[.int .i64 ah, .int .i64 af, .slice aK ae.length aJ]] (by rfl) rfl rfl (by (try simp only [List.map_toArray, List.map_cons, List.map_nil]); first | done | rfl | (simp only [List.length_drop, List.length_take]; rfl)) ?_
                     with_reducible refine (ax.calls k ah af _ _ ae oH _ ?side1 ?side2 A3.1).mono ?_
                     (case side1 => exact CB (aY bD.1 HB.1))
                     (case side2 => exact cO.1)
                     rintro e qy ⟨qK, rfl, ho0, hb⟩
                     refine ⟨_, rfl, ?_⟩
                     refine E6 (bN ho0 (bZ HB.1)) (bB aZ.1 hb) (bB bL.1 hb) (bB bP.1 hb) (bB ig.1 hb) (bS HB.1 hb) ?_
                     clear aZ bL bP ig HB
                     intro fw aZ bL bP ig HB
                     (try clear hb)
                     (try clear hb2)
                     (try clear hk)
                     (try clear hi)
                     (try clear ho0)
                     refine hK.out _ _ ⟨(ai aZ.1 0).trans rfl, (ai aZ.1 1).trans rfl, (ai aZ.1 2).trans rfl⟩ (fun hHeld => ?_)
                     clear hK K
                     refine eX (a' := ?_) ?_ ?_
                     rotate_left
                     · show Act.put _ (some 12) _ = _
                       simp only [Act.put, List.setIfInBounds_toArray, List.set_cons_zero, List.set_cons_succ, cz, dF]
                       rfl
                     exact eX NA (akK (qK, eF) _ ⟨hHeld, (PR fw.1), (PB aZ.1), (PB bL.1), (PB bP.1), (PB ig.1), o6.1, o7.1, fU.1, iM.1, gP.1, gQ.1, gT.1, gU.1, (BL HB.1)⟩)
                   skip
                   refine ma ?hg (N := 7) ?hd (cs := #[.int .i64 0, .int .i64 0, .slice none 0 0]) (t := 30) ?hr ?_; (case hd => rfl); (case hg => rfl); (case hr => first | (go_simp; done) | (go_simp; rfl))
                   intro eG hg qy hbox hb
                   refine E16 (bB aZ.1 hb) (bB bL.1 hb) (bB bP.1 hb) (bB ig.1 hb) (bS HB.1 hb) (hbox) (gX HB.1 hg) (gX HB.1 hg) (nB aZ.1 hg) (nC aZ.1 hg) (nB bL.1 hg) (nC bL.1 hg) (nB bP.1 hg) (nC bP.1 hg) (nB ig.1 hg) (nC ig.1 hg) ?_
                   clear aZ bL bP ig HB
                   intro aZ bL bP ig HB ik o8 o9 fV iN gV gW gY gZ jL jK
                   clear hb hbox hg
                   refine hK.out _ _ ⟨(ai aZ.1 0).trans rfl, (ai aZ.1 1).trans rfl, (ai aZ.1 2).trans rfl⟩ (fun hHeld => ?_)
                   clear hK K
                   refine eX (a' := ?_) ?_ ?_
                   rotate_left
                   · show Act.put _ (some 7) _ = _
                     simp only [Act.put, List.setIfInBounds_toArray, List.set_cons_zero, List.set_cons_succ, cz, dF]
                     rfl
                   exact eX NA (acB (eF, eG) _ ⟨hHeld, (PB aZ.1), (PB bL.1), (PB bP.1), (PB ig.1), (PB ik.1), o6.1, o7.1, fU.1, iM.1, gP.1, gQ.1, gT.1, gU.1, jK.1, jL.1, o8.1, o9.1, fV.1, iN.1, gV.1, gW.1, gY.1, gZ.1, (BL HB.1)⟩)
                 skip
                 rintro qK Hw ⟨hS_, qG, qH, qi, qI, qJ⟩
                 refine E5 qG qH qi qI qJ ?_
                 clear aZ bL bP HB qG qH qi qI qJ
                 intro fw aZ bL bP HB
                 have hHeld : Hw.cell? ⟨bW, 0, none⟩ = some (.int .i64 ah) /\ Hw.cell? ⟨bW, 1, none⟩ = some (.int .i64 af) /\ Hw.cell? ⟨bW, 2, none⟩ = some (.slice aK ae.length aJ) := hS_
                 obtain ⟨DT, sM, TP⟩ := bv fw.1
                 (first | subst TP | (injection TP with rY zZ rZ; have z8 := rY.symm; have Aa := rZ.symm; clear rY zZ rZ; subst z8; subst Aa))
                 refine eX (a' := ?_) ?_ ?_
                 rotate_left
                 · simp only [oQ, Act.put, List.setIfInBounds_toArray, List.set_cons_zero, List.set_cons_succ]
                   rfl
                 refine aap (i := 4) (j := 9) (k := 10) (Ni := some 14) (Nj := some 6) (Nk := some 7) #[Yy,Yy,Yy,Yy,Yy,Zz,Zz,Zz,Zz,Zz,Zz,Zz,Zz,Zz] #[Yy,Yy,Yy,Yy,Zz,Zz,Zz,Zz,Zz,Yy,Zz,Zz,Zz,Zz] #[Yy,Yy,Yy,Yy,Zz,Zz,Zz,Zz,Zz,Zz,Yy,Zz,Zz,Zz] rfl rfl rfl rfl rfl rfl (QE HT_.1 (by kernel_rfl)) (by decide) (by decide) (by decide) (fun K hK => ?_) (fun K hK => ?_) (fun K hK => ?_)
                 · skip
                   refine nA Try.func84 (by kernel_rfl) rfl #[.agg #[.int .i64 ah, .int .i64 af, .slice aK ae.length aJ], .slice DT oH.length sM, .int .i64 a1] (by rfl) rfl rfl (by (try simp only [List.map_toArray, List.map_cons, List.map_nil]); first | done | rfl | (simp only [List.length_drop, List.length_take]; rfl)) ?_
                   with_reducible refine (bJ.calls k ah af _ _ ae _ _ oH a1 uy vo vI xq xG Bb Il _ ?side1 ?side2 ?side3 ?side4 A4.1).mono ?_
                   (case side1 => exact CB (aY bD.1 HB.1))
                   (case side2 => exact cO.1)
                   (case side3 => exact CB (ay fw.1).2.2)
                   (case side4 => exact (ay fw.1).2.1)
                   rintro e yC ⟨Bc, zy, rfl, ho0, ho1, hb⟩
                   refine ⟨_, rfl, ?_⟩
                   refine E7 (rB fw.1 hb) (bN ho0 (bZ HB.1)) (lN (BV ho1 (iL (PR fw.1))) (bZ HB.1)) (bB aZ.1 hb) (bB bL.1 hb) (bB bP.1 hb) (bS HB.1 hb) ?_
                   clear fw aZ bL bP HB
                   intro fw lu lU aZ bL bP HB
                   (try clear hb)
                   (try clear hb2)
                   (try clear hk)
                   (try clear hi)
                   (try clear ho0)
                   (try clear ho1)
                   refine hK.out _ _ ⟨(ai aZ.1 0).trans rfl, (ai aZ.1 1).trans rfl, (ai aZ.1 2).trans rfl⟩ (fun hHeld => ?_)
                   clear hK K
                   refine eX (a' := ?_) ?_ ?_
                   rotate_left
                   · show Act.put _ (some 14) _ = _
                     simp only [Act.put, List.setIfInBounds_toArray, List.set_cons_zero, List.set_cons_succ, cz, dF]
                     rfl
                   refine aU 5 (N := some 9) HT_.1 ?_
                   refine aU 6 (N := some 15) HT_.1 ?_
                   refine aU 7 (N := some 16) HT_.1 ?_
                   refine aU 8 (N := some 17) HT_.1 ?_
                   exact eX NA (awm (.slice DT oH.length sM, Bc, zy) _ ⟨hHeld, (PR fw.1), (PR lu.1), (ES (eY lU.1 (fun _ hk => hk.2))), (PB aZ.1), (PB bL.1), (PB bP.1), (BL HB.1)⟩)
                 · skip
                   refine ma ?hg (N := 6) ?hd (cs := #[.int .i64 0, .int .i64 0, .int .i64 0]) (t := 54) ?hr ?_; (case hd => rfl); (case hg => rfl); (case hr => first | (go_simp; done) | (go_simp; rfl))
                   intro eF hg qy hbox hb
                   refine E14 (rB fw.1 hb) (bB aZ.1 hb) (bB bL.1 hb) (bB bP.1 hb) (bS HB.1 hb) (hbox) (gX HB.1 hg) (gX HB.1 hg) (nB aZ.1 hg) (nC aZ.1 hg) (nB bL.1 hg) (nC bL.1 hg) (nB bP.1 hg) (nC bP.1 hg) ?_
                   clear fw aZ bL bP HB
                   intro fw aZ bL bP HB ig o6 o7 fU iM gP gQ gT gU
                   clear hb hbox hg
                   refine hK.out _ _ ⟨(ai aZ.1 0).trans rfl, (ai aZ.1 1).trans rfl, (ai aZ.1 2).trans rfl⟩ (fun hHeld => ?_)
                   clear hK K
                   refine eX (a' := ?_) ?_ ?_
                   rotate_left
                   · show Act.put _ (some 6) _ = _
                     simp only [Act.put, List.setIfInBounds_toArray, List.set_cons_zero, List.set_cons_succ, cz, dF]
                     rfl
                   exact eX NA (akK ((.slice DT oH.length sM), eF) _ ⟨hHeld, (PR fw.1), (PB aZ.1), (PB bL.1), (PB bP.1), (PB ig.1), o6.1, o7.1, fU.1, iM.1, gP.1, gQ.1, gT.1, gU.1, (BL HB.1)⟩)
                 skip
                 refine ma ?hg (N := 7) ?hd (cs := #[.int .i64 0, .int .i64 0, .slice none 0 0]) (t := 30) ?hr ?_; (case hd => rfl); (case hg => rfl); (case hr => first | (go_simp; done) | (go_simp; rfl))
                 intro eG hg qy hbox hb
                 refine E14 (rB fw.1 hb) (bB aZ.1 hb) (bB bL.1 hb) (bB bP.1 hb) (bS HB.1 hb) (hbox) (gX HB.1 hg) (gX HB.1 hg) (nB aZ.1 hg) (nC aZ.1 hg) (nB bL.1 hg) (nC bL.1 hg) (nB bP.1 hg) (nC bP.1 hg) ?_
                 clear fw aZ bL bP HB
                 intro fw aZ bL bP HB ik o8 o9 fV iN gV gW gY gZ
                 clear hb hbox hg
                 refine hK.out _ _ ⟨(ai aZ.1 0).trans rfl, (ai aZ.1 1).trans rfl, (ai aZ.1 2).trans rfl⟩ (fun hHeld => ?_)
                 clear hK K
                 refine eX (a' := ?_) ?_ ?_
                 rotate_left
                 · show Act.put _ (some 7) _ = _
                   simp only [Act.put, List.setIfInBounds_toArray, List.set_cons_zero, List.set_cons_succ, cz, dF]
                   rfl
                 exact eX NA (acA ((.slice DT oH.length sM), eG) _ ⟨hHeld, (PR fw.1), (PB aZ.1), (PB bL.1), (PB bP.1), (PB ik.1), o8.1, o9.1, fV.1, iN.1, gV.1, gW.1, gY.1, gZ.1, (BL HB.1)⟩)
               skip
               rintro ⟨eF, eG⟩ qy ⟨hS_, qG, qH, qi, qI, qJ, tX, xk, zk, Ce, IV, vv, vw, vz, zz, Gu, Gv, RD, RH, RI, RJ, RL, RN, RO, RP⟩
               refine E24 (show qy.heap[bW]? = some (.cells #[.int .i64 ah, .int .i64 af, .slice aK ae.length aJ] 30 (0, 0)) from qG) (show qy.heap[gM]? = some (.cells #[.int .i64 0, .int .i64 0, .int .i64 0] 54 (0, 0)) from qH) (show qy.heap[gN]? = some (.cells #[.int .i64 0, .int .i64 0, .slice none 0 0] 30 (0, 0)) from qi) (show qy.heap[eF]? = some (.cells #[.int .i64 0, .int .i64 0, .int .i64 0] 54 (0, 0)) from qI) (show qy.heap[eG]? = some (.cells #[.int .i64 0, .int .i64 0, .slice none 0 0] 30 (0, 0)) from qJ) (show w.heap.size <= eF from tX) (show w.heap.size <= eF from xk) (show bW ≠ eF from zk) (show eF ≠ bW from Ce) (show gM ≠ eF from IV) (show eF ≠ gM from vv) (show gN ≠ eF from vw) (show eF ≠ gN from vz) (show eG ≠ eF from zz) (show eF ≠ eG from Gu) (show w.heap.size <= eG from Gv) (show w.heap.size <= eG from RD) (show bW ≠ eG from RH) (show eG ≠ bW from RI) (show gM ≠ eG from RJ) (show eG ≠ gM from RL) (show gN ≠ eG from RN) (show eG ≠ gN from RO) (show Below w.heap.size w qy from RP) ?_
               clear aZ bL bP HB qG qH qi qI qJ tX xk zk Ce IV vv vw vz zz Gu Gv RD RH RI RJ RL RN RO RP
               intro aZ bL bP ig ik o6 o7 fU iM gP gQ gT gU jK jL o8 o9 fV iN gV gW gY gZ HB
               have hHeld : qy.cell? ⟨bW, 0, none⟩ = some (.int .i64 ah) /\ qy.cell? ⟨bW, 1, none⟩ = some (.int .i64 af) /\ qy.cell? ⟨bW, 2, none⟩ = some (.slice aK ae.length aJ) := hS_
               refine eX (a' := ?_) ?_ ?_
               rotate_left
               · simp only [oQ, Act.put, List.setIfInBounds_toArray, List.set_cons_zero, List.set_cons_succ]
                 rfl
               refine mV (i := 2) (N := some 12) #[Yy,Yy,Yy,Yy,Zz,Zz,Zz,Zz,Zz,Yy,Yy,Zz,Zz,Zz] rfl rfl (jc HT_.1 (by kernel_rfl)) (by decide) (fun K hK => ?_)
               refine nA Try.func80 (by kernel_rfl) rfl #[.agg #[.int .i64 ah, .int .i64 af, .slice aK ae.length aJ]] (by rfl) rfl rfl (by (try simp only [List.map_toArray, List.map_cons, List.map_nil]); first | done | rfl | (simp only [List.length_drop, List.length_take]; rfl)) ?_
               with_reducible refine (ax.calls k ah af _ _ ae oH _ ?side1 ?side2 A3.1).mono ?_
               (case side1 => exact CB (aY bD.1 HB.1))
               (case side2 => exact cO.1)
               rintro e yC ⟨qK, rfl, ho0, hb⟩
               refine ⟨_, rfl, ?_⟩
               refine E7 (bN ho0 (bZ HB.1)) (bB aZ.1 hb) (bB bL.1 hb) (bB bP.1 hb) (bB ig.1 hb) (bB ik.1 hb) (bS HB.1 hb) ?_
               clear aZ bL bP ig ik HB
               intro fw aZ bL bP ig ik HB
               (try clear hb)
               (try clear hb2)
               (try clear hk)
               (try clear hi)
               (try clear ho0)
               refine hK.out _ _ ⟨(ai aZ.1 0).trans rfl, (ai aZ.1 1).trans rfl, (ai aZ.1 2).trans rfl⟩ (fun hHeld => ?_)
               clear hK K
               refine eX (a' := ?_) ?_ ?_
               rotate_left
               · show Act.put _ (some 12) _ = _
                 simp only [Act.put, List.setIfInBounds_toArray, List.set_cons_zero, List.set_cons_succ, cz, dF]
                 rfl
               exact eX NA (Lu (qK, eF, eG) _ ⟨hHeld, (PR fw.1), (PB aZ.1), (PB bL.1), (PB bP.1), (PB ig.1), (PB ik.1), o6.1, o7.1, fU.1, iM.1, gP.1, gQ.1, gT.1, gU.1, jK.1, jL.1, o8.1, o9.1, fV.1, iN.1, gV.1, gW.1, gY.1, gZ.1, (BL HB.1)⟩)
             skip
             rintro ⟨qK, eG⟩ qy ⟨hS_, qG, qH, qi, qI, qJ, tX, xk, zk, Ce, IV, vv, vw, vz, zz⟩
             refine E14 (show Kd.R (Kd.int .i64) 3 qy w.heap.size (fun _ => True) qK oH from qG) (show qy.heap[bW]? = some (.cells #[.int .i64 ah, .int .i64 af, .slice aK ae.length aJ] 30 (0, 0)) from qH) (show qy.heap[gM]? = some (.cells #[.int .i64 0, .int .i64 0, .int .i64 0] 54 (0, 0)) from qi) (show qy.heap[gN]? = some (.cells #[.int .i64 0, .int .i64 0, .slice none 0 0] 30 (0, 0)) from qI) (show qy.heap[eG]? = some (.cells #[.int .i64 0, .int .i64 0, .slice none 0 0] 30 (0, 0)) from qJ) (show w.heap.size <= eG from tX) (show w.heap.size <= eG from xk) (show bW ≠ eG from zk) (show eG ≠ bW from Ce) (show gM ≠ eG from IV) (show eG ≠ gM from vv) (show gN ≠ eG from vw) (show eG ≠ gN from vz) (show Below w.heap.size w qy from zz) ?_
             clear aZ bL bP HB qG qH qi qI qJ tX xk zk Ce IV vv vw vz zz
             intro fw aZ bL bP ik o8 o9 fV iN gV gW gY gZ HB
             have hHeld : qy.cell? ⟨bW, 0, none⟩ = some (.int .i64 ah) /\ qy.cell? ⟨bW, 1, none⟩ = some (.int .i64 af) /\ qy.cell? ⟨bW, 2, none⟩ = some (.slice aK ae.length aJ) := hS_
             obtain ⟨DF, rM, vF⟩ := bv fw.1
             (first | subst vF | (injection vF with rY zZ rZ; have z8 := rY.symm; have Aa := rZ.symm; clear rY zZ rZ; subst z8; subst Aa))
             refine eX (a' := ?_) ?_ ?_
             rotate_left
             · simp only [oQ, Act.put, List.setIfInBounds_toArray, List.set_cons_zero, List.set_cons_succ]
               rfl
             refine Tn (i := 4) (j := 9) (Ni := some 14) (Nj := some 6) #[Yy,Yy,Yy,Yy,Yy,Zz,Zz,Zz,Zz,Zz,Yy,Zz,Zz,Zz] #[Yy,Yy,Yy,Yy,Zz,Zz,Zz,Zz,Zz,Yy,Yy,Zz,Zz,Zz] rfl rfl rfl rfl (Ey HT_.1 (by kernel_rfl)) (by decide) (by decide) (fun K hK => ?_) (fun K hK => ?_)
             · skip
               refine nA Try.func84 (by kernel_rfl) rfl #[.agg #[.int .i64 ah, .int .i64 af, .slice aK ae.length aJ], .slice DF oH.length rM, .int .i64 a1] (by rfl) rfl rfl (by (try simp only [List.map_toArray, List.map_cons, List.map_nil]); first | done | rfl | (simp only [List.length_drop, List.length_take]; rfl)) ?_
               with_reducible refine (bJ.calls k ah af _ _ ae _ _ oH a1 uy vo vI xq xG Bb Il _ ?side1 ?side2 ?side3 ?side4 A4.1).mono ?_
               (case side1 => exact CB (aY bD.1 HB.1))
               (case side2 => exact cO.1)
               (case side3 => exact CB (ay fw.1).2.2)
               (case side4 => exact (ay fw.1).2.1)
               rintro e yJ ⟨Bc, zy, rfl, ho0, ho1, hb⟩
               refine ⟨_, rfl, ?_⟩
               refine E8 (rB fw.1 hb) (bN ho0 (bZ HB.1)) (lN (BV ho1 (iL (PR fw.1))) (bZ HB.1)) (bB aZ.1 hb) (bB bL.1 hb) (bB bP.1 hb) (bB ik.1 hb) (bS HB.1 hb) ?_
               clear fw aZ bL bP ik HB
               intro fw lu lU aZ bL bP ik HB
               (try clear hb)
               (try clear hb2)
               (try clear hk)
               (try clear hi)
               (try clear ho0)
               (try clear ho1)
               refine hK.out _ _ ⟨(ai aZ.1 0).trans rfl, (ai aZ.1 1).trans rfl, (ai aZ.1 2).trans rfl⟩ (fun hHeld => ?_)
               clear hK K
               refine eX (a' := ?_) ?_ ?_
               rotate_left
               · show Act.put _ (some 14) _ = _
                 simp only [Act.put, List.setIfInBounds_toArray, List.set_cons_zero, List.set_cons_succ, cz, dF]
                 rfl
               refine aU 5 (N := some 9) HT_.1 ?_
               refine aU 6 (N := some 15) HT_.1 ?_
               refine aU 7 (N := some 16) HT_.1 ?_
               refine aU 8 (N := some 17) HT_.1 ?_
               exact eX NA (RB (.slice DF oH.length rM, Bc, zy, eG) _ ⟨hHeld, (PR fw.1), (PR lu.1), (ES (eY lU.1 (fun _ hk => hk.2))), (PB aZ.1), (PB bL.1), (PB bP.1), (PB ik.1), o8.1, o9.1, fV.1, iN.1, gV.1, gW.1, gY.1, gZ.1, (BL HB.1)⟩)
             skip
             refine ma ?hg (N := 6) ?hd (cs := #[.int .i64 0, .int .i64 0, .int .i64 0]) (t := 54) ?hr ?_; (case hd => rfl); (case hg => rfl); (case hr => first | (go_simp; done) | (go_simp; rfl))
             intro eF hg yC hbox hb
             refine E17 (rB fw.1 hb) (bB aZ.1 hb) (bB bL.1 hb) (bB bP.1 hb) (bB ik.1 hb) (bS HB.1 hb) (hbox) (gX HB.1 hg) (gX HB.1 hg) (nB aZ.1 hg) (nC aZ.1 hg) (nB bL.1 hg) (nC bL.1 hg) (nB bP.1 hg) (nC bP.1 hg) (nB ik.1 hg) (nC ik.1 hg) ?_
             clear fw aZ bL bP ik HB
             intro fw aZ bL bP ik HB ig o6 o7 fU iM gP gQ gT gU jK jL
             clear hb hbox hg
             refine hK.out _ _ ⟨(ai aZ.1 0).trans rfl, (ai aZ.1 1).trans rfl, (ai aZ.1 2).trans rfl⟩ (fun hHeld => ?_)
             clear hK K
             refine eX (a' := ?_) ?_ ?_
             rotate_left
             · show Act.put _ (some 6) _ = _
               simp only [Act.put, List.setIfInBounds_toArray, List.set_cons_zero, List.set_cons_succ, cz, dF]
               rfl
             exact eX NA (Lu ((.slice DF oH.length rM), eF, eG) _ ⟨hHeld, (PR fw.1), (PB aZ.1), (PB bL.1), (PB bP.1), (PB ig.1), (PB ik.1), o6.1, o7.1, fU.1, iM.1, gP.1, gQ.1, gT.1, gU.1, jK.1, jL.1, o8.1, o9.1, fV.1, iN.1, gV.1, gW.1, gY.1, gZ.1, (BL HB.1)⟩)
           skip
           rintro ⟨qK, eF⟩ qy ⟨hS_, qG, qH, qi, qI, qJ, tX, xk, zk, Ce, IV, vv, vw, vz, zz⟩
           refine E14 (show Kd.R (Kd.int .i64) 3 qy w.heap.size (fun _ => True) qK oH from qG) (show qy.heap[bW]? = some (.cells #[.int .i64 ah, .int .i64 af, .slice aK ae.length aJ] 30 (0, 0)) from qH) (show qy.heap[gM]? = some (.cells #[.int .i64 0, .int .i64 0, .int .i64 0] 54 (0, 0)) from qi) (show qy.heap[gN]? = some (.cells #[.int .i64 0, .int .i64 0, .slice none 0 0] 30 (0, 0)) from qI) (show qy.heap[eF]? = some (.cells #[.int .i64 0, .int .i64 0, .int .i64 0] 54 (0, 0)) from qJ) (show w.heap.size <= eF from tX) (show w.heap.size <= eF from xk) (show bW ≠ eF from zk) (show eF ≠ bW from Ce) (show gM ≠ eF from IV) (show eF ≠ gM from vv) (show gN ≠ eF from vw) (show eF ≠ gN from vz) (show Below w.heap.size w qy from zz) ?_
           clear aZ bL bP HB qG qH qi qI qJ tX xk zk Ce IV vv vw vz zz
           intro fw aZ bL bP ig o6 o7 fU iM gP gQ gT gU HB
           have hHeld : qy.cell? ⟨bW, 0, none⟩ = some (.int .i64 ah) /\ qy.cell? ⟨bW, 1, none⟩ = some (.int .i64 af) /\ qy.cell? ⟨bW, 2, none⟩ = some (.slice aK ae.length aJ) := hS_
           obtain ⟨DF, rM, vF⟩ := bv fw.1
           (first | subst vF | (injection vF with rY zZ rZ; have z8 := rY.symm; have Aa := rZ.symm; clear rY zZ rZ; subst z8; subst Aa))
           refine eX (a' := ?_) ?_ ?_
           rotate_left
           · simp only [oQ, Act.put, List.setIfInBounds_toArray, List.set_cons_zero, List.set_cons_succ]
             rfl
           refine Tn (i := 4) (j := 10) (Ni := some 14) (Nj := some 7) #[Yy,Yy,Yy,Yy,Yy,Zz,Zz,Zz,Zz,Yy,Zz,Zz,Zz,Zz] #[Yy,Yy,Yy,Yy,Zz,Zz,Zz,Zz,Zz,Yy,Yy,Zz,Zz,Zz] rfl rfl rfl rfl (Ey HT_.1 (by kernel_rfl)) (by decide) (by decide) (fun K hK => ?_) (fun K hK => ?_)
           · skip
             refine nA Try.func84 (by kernel_rfl) rfl #[.agg #[.int .i64 ah, .int .i64 af, .slice aK ae.length aJ], .slice DF oH.length rM, .int .i64 a1] (by rfl) rfl rfl (by (try simp only [List.map_toArray, List.map_cons, List.map_nil]); first | done | rfl | (simp only [List.length_drop, List.length_take]; rfl)) ?_
             with_reducible refine (bJ.calls k ah af _ _ ae _ _ oH a1 uy vo vI xq xG Bb Il _ ?side1 ?side2 ?side3 ?side4 A4.1).mono ?_
             (case side1 => exact CB (aY bD.1 HB.1))
             (case side2 => exact cO.1)
             (case side3 => exact CB (ay fw.1).2.2)
             (case side4 => exact (ay fw.1).2.1)
             rintro e yJ ⟨Bc, zy, rfl, ho0, ho1, hb⟩
             refine ⟨_, rfl, ?_⟩
             refine E8 (rB fw.1 hb) (bN ho0 (bZ HB.1)) (lN (BV ho1 (iL (PR fw.1))) (bZ HB.1)) (bB aZ.1 hb) (bB bL.1 hb) (bB bP.1 hb) (bB ig.1 hb) (bS HB.1 hb) ?_
             clear fw aZ bL bP ig HB
             intro fw lu lU aZ bL bP ig HB
             (try clear hb)
             (try clear hb2)
             (try clear hk)
             (try clear hi)
             (try clear ho0)
             (try clear ho1)
             refine hK.out _ _ ⟨(ai aZ.1 0).trans rfl, (ai aZ.1 1).trans rfl, (ai aZ.1 2).trans rfl⟩ (fun hHeld => ?_)
             clear hK K
             refine eX (a' := ?_) ?_ ?_
             rotate_left
             · show Act.put _ (some 14) _ = _
               simp only [Act.put, List.setIfInBounds_toArray, List.set_cons_zero, List.set_cons_succ, cz, dF]
               rfl
             refine aU 5 (N := some 9) HT_.1 ?_
             refine aU 6 (N := some 15) HT_.1 ?_
             refine aU 7 (N := some 16) HT_.1 ?_
             refine aU 8 (N := some 17) HT_.1 ?_
             exact eX NA (WW (.slice DF oH.length rM, Bc, zy, eF) _ ⟨hHeld, (PR fw.1), (PR lu.1), (ES (eY lU.1 (fun _ hk => hk.2))), (PB aZ.1), (PB bL.1), (PB bP.1), (PB ig.1), o6.1, o7.1, fU.1, iM.1, gP.1, gQ.1, gT.1, gU.1, (BL HB.1)⟩)
           skip
           refine ma ?hg (N := 7) ?hd (cs := #[.int .i64 0, .int .i64 0, .slice none 0 0]) (t := 30) ?hr ?_; (case hd => rfl); (case hg => rfl); (case hr => first | (go_simp; done) | (go_simp; rfl))
           intro eG hg yC hbox hb
           refine E17 (rB fw.1 hb) (bB aZ.1 hb) (bB bL.1 hb) (bB bP.1 hb) (bB ig.1 hb) (bS HB.1 hb) (hbox) (gX HB.1 hg) (gX HB.1 hg) (nB aZ.1 hg) (nC aZ.1 hg) (nB bL.1 hg) (nC bL.1 hg) (nB bP.1 hg) (nC bP.1 hg) (nB ig.1 hg) (nC ig.1 hg) ?_
           clear fw aZ bL bP ig HB
           intro fw aZ bL bP ig HB ik o8 o9 fV iN gV gW gY gZ jL jK
           clear hb hbox hg
           refine hK.out _ _ ⟨(ai aZ.1 0).trans rfl, (ai aZ.1 1).trans rfl, (ai aZ.1 2).trans rfl⟩ (fun hHeld => ?_)
           clear hK K
           refine eX (a' := ?_) ?_ ?_
           rotate_left
           · show Act.put _ (some 7) _ = _
             simp only [Act.put, List.setIfInBounds_toArray, List.set_cons_zero, List.set_cons_succ, cz, dF]
             rfl
           exact eX NA (Lu ((.slice DF oH.length rM), eF, eG) _ ⟨hHeld, (PR fw.1), (PB aZ.1), (PB bL.1), (PB bP.1), (PB ig.1), (PB ik.1), o6.1, o7.1, fU.1, iM.1, gP.1, gQ.1, gT.1, gU.1, jK.1, jL.1, o8.1, o9.1, fV.1, iN.1, gV.1, gW.1, gY.1, gZ.1, (BL HB.1)⟩)
         skip
         rintro ⟨qK, Bc, zy⟩ yC ⟨hS_, qG, qH, qi, qI, qJ, tX, xk⟩
         refine E7 (show Kd.R (Kd.int .i64) 3 yC w.heap.size (fun _ => True) qK oH from qG) (show Kd.R jZ 83 yC w.heap.size (fun _ => True) Bc Bb from qH) (show Kd.S (Kd.slice 3 (Kd.int .i64)) 38 yC w.heap.size (fun k_ => some k_ ≠ (qK : Value).ownBlock) zy Il from qi) (show yC.heap[bW]? = some (.cells #[.int .i64 ah, .int .i64 af, .slice aK ae.length aJ] 30 (0, 0)) from qI) (show yC.heap[gM]? = some (.cells #[.int .i64 0, .int .i64 0, .int .i64 0] 54 (0, 0)) from qJ) (show yC.heap[gN]? = some (.cells #[.int .i64 0, .int .i64 0, .slice none 0 0] 30 (0, 0)) from tX) (show Below w.heap.size w yC from xk) ?_
         clear aZ bL bP HB qG qH qi qI qJ tX xk
         intro fw lu lU aZ bL bP HB
         have hHeld : yC.cell? ⟨bW, 0, none⟩ = some (.int .i64 ah) /\ yC.cell? ⟨bW, 1, none⟩ = some (.int .i64 af) /\ yC.cell? ⟨bW, 2, none⟩ = some (.slice aK ae.length aJ) := hS_
         refine eX (a' := ?_) ?_ ?_
         rotate_left
         · simp only [oQ, Act.put, List.setIfInBounds_toArray, List.set_cons_zero, List.set_cons_succ]
           rfl
         refine Tn (i := 9) (j := 10) (Ni := some 6) (Nj := some 7) #[Yy,Yy,Yy,Yy,Yy,Yy,Yy,Yy,Yy,Yy,Zz,Zz,Zz,Zz] #[Yy,Yy,Yy,Yy,Yy,Yy,Yy,Yy,Yy,Zz,Yy,Zz,Zz,Zz] rfl rfl rfl rfl (Ey HT_.1 (by kernel_rfl)) (by decide) (by decide) (fun K hK => ?_) (fun K hK => ?_)
         · skip
           refine ma ?hg (N := 6) ?hd (cs := #[.int .i64 0, .int .i64 0, .int .i64 0]) (t := 54) ?hr ?_; (case hd => rfl); (case hg => rfl); (case hr => first | (go_simp; done) | (go_simp; rfl))
           intro eF hg yJ hbox hb
           refine E16 (rB fw.1 hb) (rB lu.1 hb) (sB lU.1 hb) (bB aZ.1 hb) (bB bL.1 hb) (bB bP.1 hb) (bS HB.1 hb) (hbox) (gX HB.1 hg) (gX HB.1 hg) (nB aZ.1 hg) (nC aZ.1 hg) (nB bL.1 hg) (nC bL.1 hg) (nB bP.1 hg) (nC bP.1 hg) ?_
           clear fw lu lU aZ bL bP HB
           intro fw lu lU aZ bL bP HB ig o6 o7 fU iM gP gQ gT gU
           clear hb hbox hg
           refine hK.out _ _ ⟨(ai aZ.1 0).trans rfl, (ai aZ.1 1).trans rfl, (ai aZ.1 2).trans rfl⟩ (fun hHeld => ?_)
           clear hK K
           refine eX (a' := ?_) ?_ ?_
           rotate_left
           · show Act.put _ (some 6) _ = _
             simp only [Act.put, List.setIfInBounds_toArray, List.set_cons_zero, List.set_cons_succ, cz, dF]
             rfl
           exact eX NA (WW (qK, Bc, zy, eF) _ ⟨hHeld, (PR fw.1), (PR lu.1), (PS lU.1), (PB aZ.1), (PB bL.1), (PB bP.1), (PB ig.1), o6.1, o7.1, fU.1, iM.1, gP.1, gQ.1, gT.1, gU.1, (BL HB.1)⟩)
         skip
         refine ma ?hg (N := 7) ?hd (cs := #[.int .i64 0, .int .i64 0, .slice none 0 0]) (t := 30) ?hr ?_; (case hd => rfl); (case hg => rfl); (case hr => first | (go_simp; done) | (go_simp; rfl))
         intro eG hg yJ hbox hb
         refine E16 (rB fw.1 hb) (rB lu.1 hb) (sB lU.1 hb) (bB aZ.1 hb) (bB bL.1 hb) (bB bP.1 hb) (bS HB.1 hb) (hbox) (gX HB.1 hg) (gX HB.1 hg) (nB aZ.1 hg) (nC aZ.1 hg) (nB bL.1 hg) (nC bL.1 hg) (nB bP.1 hg) (nC bP.1 hg) ?_
         clear fw lu lU aZ bL bP HB
         intro fw lu lU aZ bL bP HB ik o8 o9 fV iN gV gW gY gZ
         clear hb hbox hg
         refine hK.out _ _ ⟨(ai aZ.1 0).trans rfl, (ai aZ.1 1).trans rfl, (ai aZ.1 2).trans rfl⟩ (fun hHeld => ?_)
         clear hK K
         refine eX (a' := ?_) ?_ ?_
         rotate_left
         · show Act.put _ (some 7) _ = _
           simp only [Act.put, List.setIfInBounds_toArray, List.set_cons_zero, List.set_cons_succ, cz, dF]
           rfl
         exact eX NA (RB (qK, Bc, zy, eG) _ ⟨hHeld, (PR fw.1), (PR lu.1), (PS lU.1), (PB aZ.1), (PB bL.1), (PB bP.1), (PB ik.1), o8.1, o9.1, fV.1, iN.1, gV.1, gW.1, gY.1, gZ.1, (BL HB.1)⟩)
       skip
       rintro ⟨qK, eF, eG⟩ yC ⟨hS_, qG, qH, qi, qI, qJ, tX, xk, zk, Ce, IV, vv, vw, vz, zz, Gu, Gv, RD, RH, RI, RJ, RL, RN, RO, RP, acC⟩
       have AV : aa (Kd.R (Kd.int .i64) 3 yC w.heap.size (fun _ => True) qK oH) := ⟨qG⟩
       have AX : aa (yC.heap[bW]? = some (.cells #[.int .i64 ah, .int .i64 af, .slice aK ae.length aJ] 30 (0, 0))) := ⟨qH⟩
       have AY : aa (yC.heap[gM]? = some (.cells #[.int .i64 0, .int .i64 0, .int .i64 0] 54 (0, 0))) := ⟨qi⟩
       have AZ : aa (yC.heap[gN]? = some (.cells #[.int .i64 0, .int .i64 0, .slice none 0 0] 30 (0, 0))) := ⟨qI⟩
       have Ed : aa (yC.heap[eF]? = some (.cells #[.int .i64 0, .int .i64 0, .int .i64 0] 54 (0, 0))) := ⟨qJ⟩
       have Ee : aa (yC.heap[eG]? = some (.cells #[.int .i64 0, .int .i64 0, .slice none 0 0] 30 (0, 0))) := ⟨tX⟩
       have Lt : aa (w.heap.size <= eF) := ⟨xk⟩
       have RA : aa (w.heap.size <= eF) := ⟨zk⟩
       have n8_ : aa (bW ≠ eF) := ⟨Ce⟩
       have n9_ : aa (eF ≠ bW) := ⟨IV⟩
       have RS : aa (gM ≠ eF) := ⟨vv⟩
       have acD : aa (eF ≠ gM) := ⟨vw⟩
       have acE : aa (gN ≠ eF) := ⟨vz⟩
       have acF : aa (eF ≠ gN) := ⟨zz⟩
       have acG : aa (eG ≠ eF) := ⟨Gu⟩
       have acH : aa (eF ≠ eG) := ⟨Gv⟩
       have acI : aa (w.heap.size <= eG) := ⟨RD⟩
       have acJ : aa (w.heap.size <= eG) := ⟨RH⟩
       have acK : aa (bW ≠ eG) := ⟨RI⟩
       have acL : aa (eG ≠ bW) := ⟨RJ⟩
       have acM : aa (gM ≠ eG) := ⟨RL⟩
       have acN : aa (eG ≠ gM) := ⟨RN⟩
       have acO : aa (gN ≠ eG) := ⟨RO⟩
       have acP : aa (eG ≠ gN) := ⟨RP⟩
       have acQ : aa (Below w.heap.size w yC) := ⟨acC⟩
       clear aZ
       clear bL
       clear bP
       clear HB
       clear qG qH qi qI qJ tX xk zk Ce IV vv vw vz zz Gu Gv RD RH RI RJ RL RN RO RP acC
       have fw := AV
       have aZ := AX
       have bL := AY
       have bP := AZ
       have ig := Ed
       have ik := Ee
       have o6 := Lt
       have o7 := RA
       have fU := n8_
       have iM := n9_
       have gP := RS
       have gQ := acD
       have gT := acE
       have gU := acF
       have jK := acG
       have jL := acH
       have o8 := acI
       have o9 := acJ
       have fV := acK
       have iN := acL
       have gV := acM
       have gW := acN
       have gY := acO
       have gZ := acP
       have HB := acQ
       clear AV AX AY AZ Ed Ee Lt RA n8_ n9_ RS acD acE acF acG acH acI acJ acK acL acM acN acO acP acQ
       have hHeld : yC.cell? ⟨bW, 0, none⟩ = some (.int .i64 ah) /\ yC.cell? ⟨bW, 1, none⟩ = some (.int .i64 af) /\ yC.cell? ⟨bW, 2, none⟩ = some (.slice aK ae.length aJ) := hS_
       obtain ⟨awn, awo, awp⟩ := bv fw.1
       (first | subst awp | (injection awp with rY zZ rZ; have z8 := rY.symm; have Aa := rZ.symm; clear rY zZ rZ; subst z8; subst Aa))
       refine eX (a' := ?_) ?_ ?_
       rotate_left
       · simp only [oQ, Act.put, List.setIfInBounds_toArray, List.set_cons_zero, List.set_cons_succ]
         rfl
       refine mV (i := 4) (N := some 14) #[Yy,Yy,Yy,Yy,Yy,Zz,Zz,Zz,Zz,Yy,Yy,Zz,Zz,Zz] rfl rfl (jc HT_.1 (by kernel_rfl)) (by decide) (fun K hK => ?_)
       refine nA Try.func84 (by kernel_rfl) rfl #[.agg #[.int .i64 ah, .int .i64 af, .slice aK ae.length aJ], .slice awn oH.length awo, .int .i64 a1] (by rfl) rfl rfl (by (try simp only [List.map_toArray, List.map_cons, List.map_nil]); first | done | rfl | (simp only [List.length_drop, List.length_take]; rfl)) ?_
       with_reducible refine (bJ.calls k ah af _ _ ae _ _ oH a1 uy vo vI xq xG Bb Il _ ?side1 ?side2 ?side3 ?side4 A4.1).mono ?_
       (case side1 => exact CB (aY bD.1 HB.1))
       (case side2 => exact cO.1)
       (case side3 => exact CB (ay fw.1).2.2)
       (case side4 => exact (ay fw.1).2.1)
       rintro e yM ⟨Bc, zy, rfl, ho0, ho1, hb⟩
       refine ⟨_, rfl, ?_⟩
       refine E9 (rB fw.1 hb) (bN ho0 (bZ HB.1)) (lN (BV ho1 (iL (PR fw.1))) (bZ HB.1)) (bB aZ.1 hb) (bB bL.1 hb) (bB bP.1 hb) (bB ig.1 hb) (bB ik.1 hb) (bS HB.1 hb) ?_
       clear fw aZ bL bP ig ik HB
       intro fw lu lU aZ bL bP ig ik HB
       (try clear hb)
       (try clear hb2)
       (try clear hk)
       (try clear hi)
       (try clear ho0)
       (try clear ho1)
       refine hK.out _ _ ⟨(ai aZ.1 0).trans rfl, (ai aZ.1 1).trans rfl, (ai aZ.1 2).trans rfl⟩ (fun hHeld => ?_)
       clear hK K
       refine eX (a' := ?_) ?_ ?_
       rotate_left
       · show Act.put _ (some 14) _ = _
         simp only [Act.put, List.setIfInBounds_toArray, List.set_cons_zero, List.set_cons_succ, cz, dF]
         rfl
       refine aU 5 (N := some 9) HT_.1 ?_
       refine aU 6 (N := some 15) HT_.1 ?_
       refine aU 7 (N := some 16) HT_.1 ?_
       refine aU 8 (N := some 17) HT_.1 ?_
       exact eX NA (EI (.slice awn oH.length awo, Bc, zy, eF, eG) _ ⟨hHeld, (PR fw.1), (PR lu.1), (ES (eY lU.1 (fun _ hk => hk.2))), (PB aZ.1), (PB bL.1), (PB bP.1), (PB ig.1), (PB ik.1), o6.1, o7.1, fU.1, iM.1, gP.1, gQ.1, gT.1, gU.1, jK.1, jL.1, o8.1, o9.1, fV.1, iN.1, gV.1, gW.1, gY.1, gZ.1, (BL HB.1)⟩)
     skip
     rintro ⟨qK, Bc, zy, eG⟩ yJ ⟨hS_, qG, qH, qi, qI, qJ, tX, xk, zk, Ce, IV, vv, vw, vz, zz, Gu, Gv⟩
     refine E16 (show Kd.R (Kd.int .i64) 3 yJ w.heap.size (fun _ => True) qK oH from qG) (show Kd.R jZ 83 yJ w.heap.size (fun _ => True) Bc Bb from qH) (show Kd.S (Kd.slice 3 (Kd.int .i64)) 38 yJ w.heap.size (fun k_ => some k_ ≠ (qK : Value).ownBlock) zy Il from qi) (show yJ.heap[bW]? = some (.cells #[.int .i64 ah, .int .i64 af, .slice aK ae.length aJ] 30 (0, 0)) from qI) (show yJ.heap[gM]? = some (.cells #[.int .i64 0, .int .i64 0, .int .i64 0] 54 (0, 0)) from qJ) (show yJ.heap[gN]? = some (.cells #[.int .i64 0, .int .i64 0, .slice none 0 0] 30 (0, 0)) from tX) (show yJ.heap[eG]? = some (.cells #[.int .i64 0, .int .i64 0, .slice none 0 0] 30 (0, 0)) from xk) (show w.heap.size <= eG from zk) (show w.heap.size <= eG from Ce) (show bW ≠ eG from IV) (show eG ≠ bW from vv) (show gM ≠ eG from vw) (show eG ≠ gM from vz) (show gN ≠ eG from zz) (show eG ≠ gN from Gu) (show Below w.heap.size w yJ from Gv) ?_
     clear aZ bL bP HB qG qH qi qI qJ tX xk zk Ce IV vv vw vz zz Gu Gv
     intro fw lu lU aZ bL bP ik o8 o9 fV iN gV gW gY gZ HB
     have hHeld : yJ.cell? ⟨bW, 0, none⟩ = some (.int .i64 ah) /\ yJ.cell? ⟨bW, 1, none⟩ = some (.int .i64 af) /\ yJ.cell? ⟨bW, 2, none⟩ = some (.slice aK ae.length aJ) := hS_
     refine eX (a' := ?_) ?_ ?_
     rotate_left
     · simp only [oQ, Act.put, List.setIfInBounds_toArray, List.set_cons_zero, List.set_cons_succ]
       rfl
     refine mV (i := 9) (N := some 6) #[Yy,Yy,Yy,Yy,Yy,Yy,Yy,Yy,Yy,Yy,Yy,Zz,Zz,Zz] rfl rfl (jc HT_.1 (by kernel_rfl)) (by decide) (fun K hK => ?_)
     refine ma ?hg (N := 6) ?hd (cs := #[.int .i64 0, .int .i64 0, .int .i64 0]) (t := 54) ?hr ?_; (case hd => rfl); (case hg => rfl); (case hr => first | (go_simp; done) | (go_simp; rfl))
     intro eF hg yM hbox hb
     refine E19 (rB fw.1 hb) (rB lu.1 hb) (sB lU.1 hb) (bB aZ.1 hb) (bB bL.1 hb) (bB bP.1 hb) (bB ik.1 hb) (bS HB.1 hb) (hbox) (gX HB.1 hg) (gX HB.1 hg) (nB aZ.1 hg) (nC aZ.1 hg) (nB bL.1 hg) (nC bL.1 hg) (nB bP.1 hg) (nC bP.1 hg) (nB ik.1 hg) (nC ik.1 hg) ?_
     clear fw lu lU aZ bL bP ik HB
     intro fw lu lU aZ bL bP ik HB ig o6 o7 fU iM gP gQ gT gU jK jL
     clear hb hbox hg
     refine hK.out _ _ ⟨(ai aZ.1 0).trans rfl, (ai aZ.1 1).trans rfl, (ai aZ.1 2).trans rfl⟩ (fun hHeld => ?_)
     clear hK K
     refine eX (a' := ?_) ?_ ?_
     rotate_left
     · show Act.put _ (some 6) _ = _
       simp only [Act.put, List.setIfInBounds_toArray, List.set_cons_zero, List.set_cons_succ, cz, dF]
       rfl
     exact eX NA (EI (qK, Bc, zy, eF, eG) _ ⟨hHeld, (PR fw.1), (PR lu.1), (PS lU.1), (PB aZ.1), (PB bL.1), (PB bP.1), (PB ig.1), (PB ik.1), o6.1, o7.1, fU.1, iM.1, gP.1, gQ.1, gT.1, gU.1, jK.1, jL.1, o8.1, o9.1, fV.1, iN.1, gV.1, gW.1, gY.1, gZ.1, (BL HB.1)⟩)
   skip
   rintro ⟨qK, Bc, zy, eF⟩ yJ ⟨hS_, qG, qH, qi, qI, qJ, tX, xk, zk, Ce, IV, vv, vw, vz, zz, Gu, Gv⟩
   refine E16 (show Kd.R (Kd.int .i64) 3 yJ w.heap.size (fun _ => True) qK oH from qG) (show Kd.R jZ 83 yJ w.heap.size (fun _ => True) Bc Bb from qH) (show Kd.S (Kd.slice 3 (Kd.int .i64)) 38 yJ w.heap.size (fun k_ => some k_ ≠ (qK : Value).ownBlock) zy Il from qi) (show yJ.heap[bW]? = some (.cells #[.int .i64 ah, .int .i64 af, .slice aK ae.length aJ] 30 (0, 0)) from qI) (show yJ.heap[gM]? = some (.cells #[.int .i64 0, .int .i64 0, .int .i64 0] 54 (0, 0)) from qJ) (show yJ.heap[gN]? = some (.cells #[.int .i64 0, .int .i64 0, .slice none 0 0] 30 (0, 0)) from tX) (show yJ.heap[eF]? = some (.cells #[.int .i64 0, .int .i64 0, .int .i64 0] 54 (0, 0)) from xk) (show w.heap.size <= eF from zk) (show w.heap.size <= eF from Ce) (show bW ≠ eF from IV) (show eF ≠ bW from vv) (show gM ≠ eF from vw) (show eF ≠ gM from vz) (show gN ≠ eF from zz) (show eF ≠ gN from Gu) (show Below w.heap.size w yJ from Gv) ?_
   clear aZ bL bP HB qG qH qi qI qJ tX xk zk Ce IV vv vw vz zz Gu Gv
   intro fw lu lU aZ bL bP ig o6 o7 fU iM gP gQ gT gU HB
   have hHeld : yJ.cell? ⟨bW, 0, none⟩ = some (.int .i64 ah) /\ yJ.cell? ⟨bW, 1, none⟩ = some (.int .i64 af) /\ yJ.cell? ⟨bW, 2, none⟩ = some (.slice aK ae.length aJ) := hS_
   refine eX (a' := ?_) ?_ ?_
   rotate_left
   · simp only [oQ, Act.put, List.setIfInBounds_toArray, List.set_cons_zero, List.set_cons_succ]
     rfl
   refine mV (i := 10) (N := some 7) #[Yy,Yy,Yy,Yy,Yy,Yy,Yy,Yy,Yy,Yy,Yy,Zz,Zz,Zz] rfl rfl (jc HT_.1 (by kernel_rfl)) (by decide) (fun K hK => ?_)
   refine ma ?hg (N := 7) ?hd (cs := #[.int .i64 0, .int .i64 0, .slice none 0 0]) (t := 30) ?hr ?_; (case hd => rfl); (case hg => rfl); (case hr => first | (go_simp; done) | (go_simp; rfl))
   intro eG hg yM hbox hb
   refine E19 (rB fw.1 hb) (rB lu.1 hb) (sB lU.1 hb) (bB aZ.1 hb) (bB bL.1 hb) (bB bP.1 hb) (bB ig.1 hb) (bS HB.1 hb) (hbox) (gX HB.1 hg) (gX HB.1 hg) (nB aZ.1 hg) (nC aZ.1 hg) (nB bL.1 hg) (nC bL.1 hg) (nB bP.1 hg) (nC bP.1 hg) (nB ig.1 hg) (nC ig.1 hg) ?_
   clear fw lu lU aZ bL bP ig HB
   intro fw lu lU aZ bL bP ig HB ik o8 o9 fV iN gV gW gY gZ jL jK
   clear hb hbox hg
   refine hK.out _ _ ⟨(ai aZ.1 0).trans rfl, (ai aZ.1 1).trans rfl, (ai aZ.1 2).trans rfl⟩ (fun hHeld => ?_)
   clear hK K
   refine eX (a' := ?_) ?_ ?_
   rotate_left
   · show Act.put _ (some 7) _ = _
     simp only [Act.put, List.setIfInBounds_toArray, List.set_cons_zero, List.set_cons_succ, cz, dF]
     rfl
   exact eX NA (EI (qK, Bc, zy, eF, eG) _ ⟨hHeld, (PR fw.1), (PR lu.1), (PS lU.1), (PB aZ.1), (PB bL.1), (PB bP.1), (PB ig.1), (PB ik.1), o6.1, o7.1, fU.1, iM.1, gP.1, gQ.1, gT.1, gU.1, jK.1, jL.1, o8.1, o9.1, fV.1, iN.1, gV.1, gW.1, gY.1, gZ.1, (BL HB.1)⟩)
 rintro ⟨qK, Bc, zy, eF, eG⟩ yM ⟨hS_, qG, qH, qi, qI, qJ, tX, xk, zk, Ce, IV, vv, vw, vz, zz, Gu, Gv, RD, RH, RI, RJ, RL, RN, RO, RP, acC, awq, awr⟩
 have AV : aa (Kd.R (Kd.int .i64) 3 yM w.heap.size (fun _ => True) qK oH) := ⟨qG⟩
 have AX : aa (Kd.R jZ 83 yM w.heap.size (fun _ => True) Bc Bb) := ⟨qH⟩
 have AY : aa (Kd.S (Kd.slice 3 (Kd.int .i64)) 38 yM w.heap.size (fun k_ => some k_ ≠ (qK : Value).ownBlock) zy Il) := ⟨qi⟩
 have AZ : aa (yM.heap[bW]? = some (.cells #[.int .i64 ah, .int .i64 af, .slice aK ae.length aJ] 30 (0, 0))) := ⟨qI⟩
 have Ed : aa (yM.heap[gM]? = some (.cells #[.int .i64 0, .int .i64 0, .int .i64 0] 54 (0, 0))) := ⟨qJ⟩
 have Ee : aa (yM.heap[gN]? = some (.cells #[.int .i64 0, .int .i64 0, .slice none 0 0] 30 (0, 0))) := ⟨tX⟩
 have Lt : aa (yM.heap[eF]? = some (.cells #[.int .i64 0, .int .i64 0, .int .i64 0] 54 (0, 0))) := ⟨xk⟩
 have RA : aa (yM.heap[eG]? = some (.cells #[.int .i64 0, .int .i64 0, .slice none 0 0] 30 (0, 0))) := ⟨zk⟩
 have n8_ : aa (w.heap.size <= eF) := ⟨Ce⟩
 have n9_ : aa (w.heap.size <= eF) := ⟨IV⟩
 have RS : aa (bW ≠ eF) := ⟨vv⟩
 have acD : aa (eF ≠ bW) := ⟨vw⟩
 have acE : aa (gM ≠ eF) := ⟨vz⟩
 have acF : aa (eF ≠ gM) := ⟨zz⟩
 have acG : aa (gN ≠ eF) := ⟨Gu⟩
 have acH : aa (eF ≠ gN) := ⟨Gv⟩
 have acI : aa (eG ≠ eF) := ⟨RD⟩
 have acJ : aa (eF ≠ eG) := ⟨RH⟩
 have acK : aa (w.heap.size <= eG) := ⟨RI⟩
 have acL : aa (w.heap.size <= eG) := ⟨RJ⟩
 have acM : aa (bW ≠ eG) := ⟨RL⟩
 have acN : aa (eG ≠ bW) := ⟨RN⟩
 have acO : aa (gM ≠ eG) := ⟨RO⟩
 have acP : aa (eG ≠ gM) := ⟨RP⟩
 have acQ : aa (gN ≠ eG) := ⟨acC⟩
 have aws : aa (eG ≠ gN) := ⟨awq⟩
 have awt : aa (Below w.heap.size w yM) := ⟨awr⟩
 clear aZ
 clear bL
 clear bP
 clear HB
 clear qG qH qi qI qJ tX xk zk Ce IV vv vw vz zz Gu Gv RD RH RI RJ RL RN RO RP acC awq awr
 have fw := AV
 have lu := AX
 have lU := AY
 have aZ := AZ
 have bL := Ed
 have bP := Ee
 have ig := Lt
 have ik := RA
 have o6 := n8_
 have o7 := n9_
 have fU := RS
 have iM := acD
 have gP := acE
 have gQ := acF
 have gT := acG
 have gU := acH
 have jK := acI
 have jL := acJ
 have o8 := acK
 have o9 := acL
 have fV := acM
 have iN := acN
 have gV := acO
 have gW := acP
 have gY := acQ
 have gZ := aws
 have HB := awt
 clear AV AX AY AZ Ed Ee Lt RA n8_ n9_ RS acD acE acF acG acH acI acJ acK acL acM acN acO acP acQ aws awt
 have hHeld : yM.cell? ⟨bW, 0, none⟩ = some (.int .i64 ah) /\ yM.cell? ⟨bW, 1, none⟩ = some (.int .i64 af) /\ yM.cell? ⟨bW, 2, none⟩ = some (.slice aK ae.length aJ) := hS_
 obtain ⟨Rv, Ch, agc⟩ := bv lu.1
 (first | subst agc | (injection agc with rY zZ rZ; have z8 := rY.symm; have Aa := rZ.symm; clear rY zZ rZ; subst z8; subst Aa))
 refine eX (a' := ?_) ?_ ?_
 rotate_left
 · simp only [oQ, Act.put, List.setIfInBounds_toArray, List.set_cons_zero, List.set_cons_succ]
   rfl
 refine mV (i := 11) (N := none) #[Yy,Yy,Yy,Yy,Yy,Yy,Yy,Yy,Yy,Yy,Yy,Yy,Zz,Zz] rfl rfl (jc HT_.1 (by kernel_rfl)) (by decide) (fun K hK => ?_)
 obtain ⟨aPP, aPQ, aPR, aLU, aLV, aLW⟩ := gB ig.1
 have aAY := fU.1
 have aAZ := gP.1
 have aA0 := gT.1
 have aA1 := jK.1
 have aA2 := iM.1
 have aA3 := gQ.1
 have aA4 := gU.1
 have aA5 := jL.1
 refine pF (w1 := ?_) (by rfl) rfl ?_ ?_
 rotate_left
 · go_simp
   rfl
 refine hK.out _ _ ⟨(rP fU.1 hHeld.1), (rP fU.1 hHeld.2.1), (rP fU.1 hHeld.2.2)⟩ (fun hHeld => ?_)
 clear hK K
 refine mV (i := 12) (N := none) #[Yy,Yy,Yy,Yy,Yy,Yy,Yy,Yy,Yy,Yy,Yy,Yy,Yy,Zz] rfl rfl (jc HT_.1 (by kernel_rfl)) (by decide) (fun K hK => ?_)
 obtain ⟨aPS, aPT, aPU, aLX, aLY, aLZ⟩ := gB ik.1
 have aA6 := fV.1
 have aA7 := gV.1
 have aA8 := gY.1
 have aA9 := iN.1
 have aBa := gW.1
 have aBb := gZ.1
 refine pF (w1 := ?_) (by rfl) rfl ?_ ?_
 rotate_left
 · go_simp
   rfl
 refine hK.out _ _ ⟨(rP fV.1 hHeld.1), (rP fV.1 hHeld.2.1), (rP fV.1 hHeld.2.2)⟩ (fun hHeld => ?_)
 clear hK K
 refine aU 13 (N := some 8) HT_.1 ?_
 refine lI (jS HT_.1 (by kernel_rfl)) ?_
 try go_wp2
 have n_ : (fun BM : World => (Kd.R (Kd.int .i64) 3 BM w.heap.size (fun _ => True) qK oH) /\ (Kd.R jZ 83 BM w.heap.size (fun _ => True) (.slice Rv Bb.length Ch) Bb) /\ (Kd.S (Kd.slice 3 (Kd.int .i64)) 38 BM w.heap.size (fun k_ => some k_ ≠ (qK : Value).ownBlock) zy Il) /\ (BM.heap[bW]? = some (.cells #[.int .i64 ah, .int .i64 af, .slice aK ae.length aJ] 30 (0, 0))) /\ (BM.heap[gM]? = some (.cells #[.int .i64 0, .int .i64 0, .int .i64 0] 54 (0, 0))) /\ (BM.heap[gN]? = some (.cells #[.int .i64 0, .int .i64 0, .slice none 0 0] 30 (0, 0))) /\ (BM.heap[eF]? = some (.cells #[.int .i64 uy, .int .i64 vo, .int .i64 vI] 54 (0, 0))) /\ (BM.heap[eG]? = some (.cells #[.int .i64 xq, .int .i64 xG, .slice Rv Bb.length Ch] 30 (0, 0))) /\ (Below w.heap.size w BM)) ((((((yM.setCell ⟨eF, 0, none⟩ (.int .i64 uy)).setCell ⟨eF, 1, none⟩ (.int .i64 vo)).setCell ⟨eF, 2, none⟩ (.int .i64 vI)).setCell ⟨eG, 0, none⟩ (.int .i64 xq)).setCell ⟨eG, 1, none⟩ (.int .i64 xG)).setCell ⟨eG, 2, none⟩ (.slice Rv Bb.length Ch)) := ⟨by (with_reducible repeat (first | apply aV | apply aW | apply aQ)); exact aG (RQ eG 2 (RQ eG 1 (RQ eG 0 (mY (p := ⟨eF, 2, none⟩) (mY (p := ⟨eF, 1, none⟩) (mY (p := ⟨eF, 0, none⟩) (bz (bz fw.1 ig.1 (by decide)) ik.1 (by decide)) (fun _ hk => hk.1.2) (.int .i64 uy)) (fun _ hk => hk.1.2) (.int .i64 vo)) (fun _ hk => hk.1.2) (.int .i64 vI)) _) _) _) (fun _ hk => trivial), by (with_reducible repeat (first | apply aV | apply aW | apply aQ)); exact aG (RQ eG 2 (RQ eG 1 (RQ eG 0 (mY (p := ⟨eF, 2, none⟩) (mY (p := ⟨eF, 1, none⟩) (mY (p := ⟨eF, 0, none⟩) (bz (bz lu.1 ig.1 (by decide)) ik.1 (by decide)) (fun _ hk => hk.1.2) (.int .i64 uy)) (fun _ hk => hk.1.2) (.int .i64 vo)) (fun _ hk => hk.1.2) (.int .i64 vI)) _) _) _) (fun _ hk => trivial), by (with_reducible repeat (first | apply jF | apply jG | apply iV)); exact eY (SQ eG 2 (SQ eG 1 (SQ eG 0 (xR (p := ⟨eF, 2, none⟩) (xR (p := ⟨eF, 1, none⟩) (xR (p := ⟨eF, 0, none⟩) (kG (kG lU.1 ig.1 (by decide)) ik.1 (by decide)) (fun _ hk => hk.1.2) (.int .i64 uy)) (fun _ hk => hk.1.2) (.int .i64 vo)) (fun _ hk => hk.1.2) (.int .i64 vI)) _) _) _) (fun _ hk => hk.1.1), by (with_reducible repeat (first | refine ak ?_ _ | refine ag ?_ | refine au ?_ _)); refine bu ?_ fV.1 _; (with_reducible repeat (first | refine ak ?_ _ | refine ag ?_ | refine au ?_ _)); refine bu ?_ fV.1 _; (with_reducible repeat (first | refine ak ?_ _ | refine ag ?_ | refine au ?_ _)); refine bu ?_ fV.1 _; (with_reducible repeat (first | refine ak ?_ _ | refine ag ?_ | refine au ?_ _)); refine bu ?_ fU.1 _; (with_reducible repeat (first | refine ak ?_ _ | refine ag ?_ | refine au ?_ _)); refine bu ?_ fU.1 _; (with_reducible repeat (first | refine ak ?_ _ | refine ag ?_ | refine au ?_ _)); refine bu ?_ fU.1 _; (with_reducible repeat (first | refine ak ?_ _ | refine ag ?_ | refine au ?_ _)); exact aZ.1, by (with_reducible repeat (first | refine ak ?_ _ | refine ag ?_ | refine au ?_ _)); refine bu ?_ gV.1 _; (with_reducible repeat (first | refine ak ?_ _ | refine ag ?_ | refine au ?_ _)); refine bu ?_ gV.1 _; (with_reducible repeat (first | refine ak ?_ _ | refine ag ?_ | refine au ?_ _)); refine bu ?_ gV.1 _; (with_reducible repeat (first | refine ak ?_ _ | refine ag ?_ | refine au ?_ _)); refine bu ?_ gP.1 _; (with_reducible repeat (first | refine ak ?_ _ | refine ag ?_ | refine au ?_ _)); refine bu ?_ gP.1 _; (with_reducible repeat (first | refine ak ?_ _ | refine ag ?_ | refine au ?_ _)); refine bu ?_ gP.1 _; (with_reducible repeat (first | refine ak ?_ _ | refine ag ?_ | refine au ?_ _)); exact bL.1, by (with_reducible repeat (first | refine ak ?_ _ | refine ag ?_ | refine au ?_ _)); refine bu ?_ gY.1 _; (with_reducible repeat (first | refine ak ?_ _ | refine ag ?_ | refine au ?_ _)); refine bu ?_ gY.1 _; (with_reducible repeat (first | refine ak ?_ _ | refine ag ?_ | refine au ?_ _)); refine bu ?_ gY.1 _; (with_reducible repeat (first | refine ak ?_ _ | refine ag ?_ | refine au ?_ _)); refine bu ?_ gT.1 _; (with_reducible repeat (first | refine ak ?_ _ | refine ag ?_ | refine au ?_ _)); refine bu ?_ gT.1 _; (with_reducible repeat (first | refine ak ?_ _ | refine ag ?_ | refine au ?_ _)); refine bu ?_ gT.1 _; (with_reducible repeat (first | refine ak ?_ _ | refine ag ?_ | refine au ?_ _)); exact bP.1, by (with_reducible repeat (first | refine ak ?_ _ | refine ag ?_ | refine au ?_ _)); refine bu ?_ jL.1 _; (with_reducible repeat (first | refine ak ?_ _ | refine ag ?_ | refine au ?_ _)); refine bu ?_ jL.1 _; (with_reducible repeat (first | refine ak ?_ _ | refine ag ?_ | refine au ?_ _)); refine bu ?_ jL.1 _; (with_reducible repeat (first | refine ak ?_ _ | refine ag ?_ | refine au ?_ _)); refine gy (cs := #[.int .i64 uy, .int .i64 vo, .int .i64 0]) ?_ 2 _ rfl; (with_reducible repeat (first | refine ak ?_ _ | refine ag ?_ | refine au ?_ _)); refine gy (cs := #[.int .i64 uy, .int .i64 0, .int .i64 0]) ?_ 1 _ rfl; (with_reducible repeat (first | refine ak ?_ _ | refine ag ?_ | refine au ?_ _)); refine gy (cs := #[.int .i64 0, .int .i64 0, .int .i64 0]) ?_ 0 _ rfl; (with_reducible repeat (first | refine ak ?_ _ | refine ag ?_ | refine au ?_ _)); exact ig.1, by (with_reducible repeat (first | refine ak ?_ _ | refine ag ?_ | refine au ?_ _)); refine gy (cs := #[.int .i64 xq, .int .i64 xG, .slice none 0 0]) ?_ 2 _ rfl; (with_reducible repeat (first | refine ak ?_ _ | refine ag ?_ | refine au ?_ _)); refine gy (cs := #[.int .i64 xq, .int .i64 0, .slice none 0 0]) ?_ 1 _ rfl; (with_reducible repeat (first | refine ak ?_ _ | refine ag ?_ | refine au ?_ _)); refine gy (cs := #[.int .i64 0, .int .i64 0, .slice none 0 0]) ?_ 0 _ rfl; (with_reducible repeat (first | refine ak ?_ _ | refine ag ?_ | refine au ?_ _)); refine bu ?_ jK.1 _; (with_reducible repeat (first | refine ak ?_ _ | refine ag ?_ | refine au ?_ _)); refine bu ?_ jK.1 _; (with_reducible repeat (first | refine ak ?_ _ | refine ag ?_ | refine au ?_ _)); refine bu ?_ jK.1 _; (with_reducible repeat (first | refine ak ?_ _ | refine ag ?_ | refine au ?_ _)); exact ik.1, BL HB.1⟩
 (try clear fw)
 (try clear lu)
 (try clear lU)
 (try clear aZ)
 (try clear bL)
 (try clear bP)
 (try clear ig)
 (try clear ik)
 (try clear HB)
 generalize ((((((yM.setCell ⟨eF, 0, none⟩ (.int .i64 uy)).setCell ⟨eF, 1, none⟩ (.int .i64 vo)).setCell ⟨eF, 2, none⟩ (.int .i64 vI)).setCell ⟨eG, 0, none⟩ (.int .i64 xq)).setCell ⟨eG, 1, none⟩ (.int .i64 xG)).setCell ⟨eG, 2, none⟩ (.slice Rv Bb.length Ch)) = BM at n_ ⊢
 obtain ⟨qG, qH, qi, qI, qJ, tX, xk, zk, Ce⟩ := n_
 refine E9 qG qH qi qI qJ tX xk zk Ce ?_
 clear qG qH qi qI qJ tX xk zk Ce
 intro fw lu lU aZ bL bP ig ik HB
 refine E9 (aQ fw.1) (aQ lu.1) (iV lU.1) (ag aZ.1) (ag bL.1) (ag bP.1) (ag ig.1) (ag ik.1) (dm HB.1) ?_
 clear fw lu lU aZ bL bP ig ik HB
 intro fw lu lU aZ bL bP ig ik HB
 refine jN (n := 4) (S := fun w' => w'.cell? ⟨eF, 0, none⟩ = some (.int .i64 uy) /\ w'.cell? ⟨eF, 1, none⟩ = some (.int .i64 vo) /\ w'.cell? ⟨eF, 2, none⟩ = some (.int .i64 vI) /\ w'.cell? ⟨eG, 0, none⟩ = some (.int .i64 xq) /\ w'.cell? ⟨eG, 1, none⟩ = some (.int .i64 xG) /\ w'.cell? ⟨eG, 2, none⟩ = some (.slice Rv Bb.length Ch)) (ds := []) #[Zz,Zz,Zz,Zz] (by kernel_rfl) rfl rfl ⟨(ai ig.1 0).trans rfl, (ai ig.1 1).trans rfl, (ai ig.1 2).trans rfl, (ai ik.1 0).trans rfl, (ai ik.1 1).trans rfl, (ai ik.1 2).trans rfl⟩ (fun hHeld => ?_)
 generalize BM.drew = w23 at fw lu lU aZ bL bP ig ik HB hHeld ⊢
 refine xQ 0 (N := some 18) hHeld ?_
 refine xQ 1 (N := some 19) hHeld ?_
 refine mV (i := 2) (N := none) #[Yy,Yy,Yy,Zz] rfl rfl (by kernel_rfl) (by decide) (fun K hK => ?_)
 obtain ⟨aPV, aPW, aFr, aL0, aL1, auL⟩ := gB bL.1
 have aBc := Za.1
 have aBd := Nz.1
 have aBe := Zb.1
 have aBf := Ny.1
 refine pF (w1 := ?_) (by rfl) rfl ?_ ?_
 rotate_left
 · go_simp
   rfl
 refine hK.out _ _ ⟨(rP gQ.1 hHeld.1), (rP gQ.1 hHeld.2.1), (rP gQ.1 hHeld.2.2.1), (rP gW.1 hHeld.2.2.2.1), (rP gW.1 hHeld.2.2.2.2.1), (rP gW.1 hHeld.2.2.2.2.2)⟩ (fun hHeld => ?_)
 clear hK K
 refine mV (i := 3) (N := none) #[Yy,Yy,Yy,Yy] rfl rfl (by kernel_rfl) (by decide) (fun K hK => ?_)
 obtain ⟨auB, auC, aFn, ajK, ajL, auD⟩ := gB bP.1
 have aBg := Zc.1
 have aBh := Zd.1
 refine pF (w1 := ?_) (by rfl) rfl ?_ ?_
 rotate_left
 · go_simp
   rfl
 refine hK.out _ _ ⟨(rP gU.1 hHeld.1), (rP gU.1 hHeld.2.1), (rP gU.1 hHeld.2.2.1), (rP gZ.1 hHeld.2.2.2.1), (rP gZ.1 hHeld.2.2.2.2.1), (rP gZ.1 hHeld.2.2.2.2.2)⟩ (fun hHeld => ?_)
 clear hK K
 refine lI (by kernel_rfl) ?_
 try go_wp2
 refine bodyPost_ret (Tf rfl _ _ gM gN 54 30 #[.int .i64 uy, .int .i64 vo, .int .i64 vI] #[.int .i64 xq, .int .i64 xG, .slice Rv Bb.length Ch] (0, 0) (0, 0) _ _ rfl (xB Ny.1 bL.1) Try.underlying54 rfl (by kernel_rfl) rfl (xB Nz.1 bP.1) Try.underlying30 rfl (by kernel_rfl)) rfl ?_
 exact ⟨_, RF, by (with_reducible repeat (first | apply aV | apply aW | apply aQ)); exact aG (RQ gN 2 (RQ gN 1 (RQ gN 0 (mY (p := ⟨gM, 2, none⟩) (mY (p := ⟨gM, 1, none⟩) (mY (p := ⟨gM, 0, none⟩) (bz (bz lu.1 bL.1 (by decide)) bP.1 (by decide)) (fun _ hk => hk.1.2) (.int .i64 uy)) (fun _ hk => hk.1.2) (.int .i64 vo)) (fun _ hk => hk.1.2) (.int .i64 vI)) _) _) _) (fun _ hk => trivial), BL HB.1⟩
def dn.l0 : Nat -> List Int -> Int -> Int -> Int -> Int -> List (fq) -> Option ((List (fq)))
 | 0, _, _, _, _, _, _ => none
 | k + 1, x6, x7, x8, agO, agP, Gw => if x8 < x7 then (if 0 <= x8 then (if x8 < (x6.length : Int) then (if 0 <= (rd x6 x8) then (if (rd x6 x8) < (Gw.length : Int) then ((kR.f ((aj Gw (rd x6 x8)).f0) ((aj Gw (rd x6 x8)).f1)).bind fun akN => (dn.l0 k x6 x7 (wrap64 (x8 + 1)) agO agP (Gw.set ((rd x6 x8) : Int).toNat (⟨akN.1, akN.2⟩ : fq)))) else (none)) else (none)) else (none)) else (none)) else (some Gw)
def dn.f (k : Nat) (ah : Int) (af : Int) (ae : List (fq)) (l1 : List Int) : Option ((List (fq))) := dn.l0 k l1 (l1.length : Int) 0 ah af ae
theorem dn.mono_l : ∀ k, (∀ y0 y1 y2 y3 y4 y5, dO (dn.l0 k y0 y1 y2 y3 y4 y5) (dn.l0 (k + 1) y0 y1 y2 y3 y4 y5))
 | 0 => fun _ _ _ _ _ _ r h => by simp [dn.l0] at h
 | k + 1 => by
  have ja := dn.mono_l k
  intros
  first | unfold dn.l0
  exact BA ja
theorem dn.mono : ∀ a0 a1 a2 a3 k, dO (dn.f k a0 a1 a2 a3) (dn.f (k + 1) a0 a1 a2 a3) := by
 intro a0 a1 a2 a3 k
 have ja := dn.mono_l k
 unfold dn.f
 exact BA ja
def dn.T4 : Bool × List (List Nat × List Nat) := (true, [([], []), ([0], [0]), ([], []), ([], []), ([3], [3]), ([], []), ([4, 5], [4, 5]), ([6], [6]), ([7], [7]), ([1, 2, 0, 1, 2, 3, 4, 5, 6, 7, 8], [1, 2]), ([9, 8, 8, 0, 1, 2, 3, 4, 5, 6, 7, 8], [8, 9])])
def dn.B4 : List Nat := [0, 1, 0, 0, 8, 0, 56, 120, 248, 511, 1023]
theorem dn.RU : mX .any (opsOf Try.f98 4) = dn.T4 := by kernel_rfl
theorem dn.bits4 : kr dn.T4.2 dn.B4 = true := by kernel_rfl
theorem dn.calls (k : Nat) (ah : Int) (af : Int) (cu : Nat -> Prop) (iH : Value) (ae : List (fq)) (A1 : Option Addr) (c1 : Nat) (l1 : List Int) (r : List (fq)) (w0 w : World) (hB : Below w0.heap.size w0 w) (BN : Kd.R jZ 83 w w0.heap.size cu iH ae) (hr1 : ∀ W_, Kept w W_ (fun k_ => cu k_) -> Kd.C (Kd.int .i64) W_ A1 l1.length l1) (hc1 : l1.length <= c1) (h : dn.f k ah af ae l1 = some r) :
 Calls Try.prog 98 #[.agg #[.int .i64 ah, .int .i64 af, iH], .slice A1 l1.length c1] w fun e w' => e = .returned (.tuple #[]) /\ Kd.R jZ 83 w' w0.heap.size (fun k_ => (cu k_ ∨ w.heap.size <= k_)) iH r /\ Below w0.heap.size w0 w' /\ Kept w w' (fun k_ => cu k_) := by
 have nH := Try.underlying30
 have xE := Try.underlying83
 have fB := aa.mk (show Kd.R jZ 83 w w0.heap.size (fun k_ => (cu k_ ∨ w.heap.size <= k_)) iH ae from aG BN (fun k_ hk => (.inl hk)))
 have HR1 := aa.mk hr1
 have vD := aa.mk hc1
 clear hr1 hc1
 have HK := aa.mk (Kept.refl w (fun k_ => cu k_))
 have HW0 := aa.mk hB.size
 have HB := aa.mk hB
 clear hB
 have H := h
 clear h
 unfold dn.f at H
 have H' := aa.mk H
 clear H
 obtain ⟨Ao3, co3, eo3⟩ := bv fB.1
 subst eo3
 go_enter Try.func98, Try.ntmps98
 go_wp2_with (first | ((with_reducible refine aC (N := 2) rfl ?_); refine dN (cs := #[.int .i64 ah, .int .i64 af, .slice Ao3 ae.length co3]) (t := 30) ?_; intro NB hg w4 hbox hb; refine E6 (rB fB.1 hb) (Kept.below (S := (fun k_ => cu k_)) (KL HK.1) hb) (bS HB.1 hb) (hbox) ((by rw [hg]; exact (by first | exact HK.1.1 | exact (show Kept w _ (fun k_ => cu k_) from KL HK.1).1) : w.heap.size <= NB)) (Qm hg (bZ HB.1) : w0.heap.size <= NB) ?_; clear fB HK HB; intro fB HK HB sZ awu aL2; clear hb hbox hg))
 go_loopg [8] k (fun kq v8 w' => ∃ (d9 : Int) (kC : List (fq)), v8 = .int .i64 d9 /\ aa (dn.l0 kq l1 (l1.length : Int) d9 ah af kC = some r) /\ aa (kq <= k) /\ aa (Kd.R jZ 83 w' w0.heap.size (fun k_ => (cu k_ ∨ w.heap.size <= k_)) (.slice Ao3 ae.length co3) kC) /\ aa (w'.heap[NB]? = some (.cells #[.int .i64 ah, .int .i64 af, (.slice Ao3 ae.length co3)] 30 (0, 0))) /\ aa (Kept w w' (fun k_ => cu k_)) /\ aa (Below w0.heap.size w0 w'))
 case atStart => exact ⟨(0), (ae), RG, H', ⟨Nat.le_refl _⟩, ⟨PR fB.1⟩, ⟨PB sZ.1⟩, ⟨KL HK.1⟩, ⟨BL HB.1⟩⟩
 clear H'
 try clear c1
 obtain ⟨d9, kC, rfl, HA, iB, HO_322002, sZ, HK, HB⟩ := hrel
 have qX := (ay HO_322002.1).1
 rw [qX] at HO_322002
 (try simp only [qX])
 (try simp only [qX] at sZ)
 cases gk with
 | zero => exact absurd HA.1 (by simp [dn.l0])
 | succ k1 => ?_
 have H := HA.1
 clear HA
 simp only [dn.l0] at H
 replace H := pu H; rcases H with ⟨c5b0, H⟩ | ⟨c5b0, H⟩
 · replace H := ji H; obtain ⟨c6b0, H⟩ := H
   replace H := ji H; obtain ⟨c7b0, H⟩ := H
   replace H := ji H; obtain ⟨c8b0, H⟩ := H
   replace H := ji H; obtain ⟨c9b0, H⟩ := H
   replace H := dz H; obtain ⟨⟨acR, acS⟩, A10, H⟩ := H
   dsimp only at H
   generalize akO : ((kC.set ((rd l1 d9) : Int).toNat (⟨acR, acS⟩ : fq)) : List (fq)) = aGv at H
   have awv := aa.mk akO.symm; clear akO
   have H' := aa.mk H
   clear H
   have ao7 : 0 <= (d9 : Int) := OD
   have ao8 : d9 < (l1.length : Int) := OD
   obtain ⟨aL3, aGw, aBj⟩ := Kd.dx (kY HR1.1 HK.1) d9 ao7 ao8
   cases aGw
   replace ao7 := eq_true ao7
   replace ao8 := eq_true ao8
   try go_wp2
   refine E4 (aQ HO_322002.1) (ag sZ.1) (Kept.drew HK.1) (dm HB.1) ?_
   clear HO_322002 sZ HK HB
   intro HO_322002 sZ HK HB
   have ao9 : 0 <= ((rd l1 d9) : Int) := OD
   have apa : (rd l1 d9) < (kC.length : Int) := OD
   obtain ⟨WX, e323, Pn, Po⟩ := iP (ay HO_322002.1).2.2 (rd l1 d9) ao9 apa
   cases e323
   replace ao9 := eq_true ao9
   replace apa := eq_true apa
   refine jN (n := 11) (S := fun w' => w'.cell? ⟨NB, 0, none⟩ = some (.int .i64 ah) /\ w'.cell? ⟨NB, 1, none⟩ = some (.int .i64 af) /\ w'.cell? ⟨NB, 2, none⟩ = some (.slice (some WX) kC.length co3) /\ w'.cell? (WX.add (((rd l1 d9)).toNat * 2)) = some (.int .i64 ((aj kC (rd l1 d9)).f0)) /\ w'.cell? ⟨(WX.add (((rd l1 d9)).toNat * 2)).block, (WX.add (((rd l1 d9)).toNat * 2)).off + 1, none⟩ = some (.int .i64 ((aj kC (rd l1 d9)).f1))) (ds := [10]) #[Zz,Zz,Zz,Zz,Zz,Zz,Zz,Zz,Zz,Zz,Zz] (by kernel_rfl) rfl rfl ⟨(ai sZ.1 0).trans rfl, (ai sZ.1 1).trans rfl, (ai sZ.1 2).trans rfl, Pn, Po⟩ (fun hHeld => ?_); refine iq dn.RU dn.bits4 (fun HT_ HW_ => ?_)
   generalize wr.drew = yC at HO_322002 sZ HK HB Pn Po hHeld ⊢
   refine aU 0 (N := some 12) HT_.1 ?_
   refine aU 2 (N := some 14) HT_.1 ?_
   refine aU 3 (N := some 15) HT_.1 ?_
   refine aU 5 (N := some 17) HT_.1 ?_
   refine gF 1 (N := some 13) HT_.1 HW_.1 hHeld ?_
   refine gF 4 (N := some 16) HT_.1 HW_.1 hHeld ?_
   refine aU 6 (N := some 18) HT_.1 ?_
   refine gF 7 (N := some 19) HT_.1 HW_.1 hHeld ?_
   refine mV (i := 8) (N := some 20) #[Yy,Yy,Yy,Yy,Yy,Yy,Yy,Yy,Yy,Zz,Zz] rfl rfl (jc HT_.1 (by kernel_rfl)) (by decide) (fun K hK => ?_)
   refine nA Try.func101 (by kernel_rfl) rfl #[.agg #[.int .i64 ((aj kC (rd l1 d9)).f0), .int .i64 ((aj kC (rd l1 d9)).f1)]] (by rfl) rfl rfl (by (try simp only [List.map_toArray, List.map_cons, List.map_nil]); first | done | rfl | (simp only [List.length_drop, List.length_take]; rfl)) ?_
   with_reducible refine (kR.calls ((aj kC (rd l1 d9)).f0) ((aj kC (rd l1 d9)).f1) acR acS _ A10.1).mono ?_
   rintro e yJ ⟨rfl, hb⟩
   have xF := (hb.cell (World.block_lt_of_cell? _ _ (hHeld.2.2.2.1))).trans (hHeld.2.2.2.1)
   have afk := (hb.cell (World.block_lt_of_cell? _ _ (hHeld.2.2.2.2))).trans (hHeld.2.2.2.2)
   refine ⟨_, rfl, ?_⟩
   refine E4 (rB HO_322002.1 hb) (bB sZ.1 hb) (Kept.below (S := (fun k_ => cu k_)) (KL HK.1) hb) (bS HB.1 hb) ?_
   clear HO_322002 sZ HK HB
   intro HO_322002 sZ HK HB
   (try clear hb)
   (try clear hb2)
   (try clear hk)
   (try clear hi)
   have p11 : 0 <= ((rd l1 d9) : Int) := OD
   have q11 : ((rd l1 d9) : Int) < ((kC.length : Int) : Int) := OD
   obtain ⟨Ze, sM, TP, aww, aGz, aPY, awx⟩ := mQ HO_322002.1 (by omega)
   (first | cases TP | (injection TP with ea_ en_ ec_; (first | subst ea_ | (injection ea_ with ea_; subst ea_)); subst ec_; clear en_))
   have aPZ := aa.mk aww
   have aP0 := aa.mk awx
   clear aww aGz awx
   have HMgo11 := aa.mk (show (cu Ze ∨ w.heap.size <= Ze) from (HO_322002.1.1 _ rfl))
   (first | simp only [add_plain] at Pn | skip)
   (first | simp only [add_plain] at Po | skip)
   obtain ⟨aP1, awy, awz, acT, acU⟩ := nz HO_322002.1 z83 ((rd l1 d9) : Int) p11 q11
   obtain rfl := jY awz
   have aGA : World.cell? _ ⟨Ze, ((rd l1 d9) : Int).toNat * 2, none⟩ = some (.int .i64 ((aj kC (rd l1 d9)).f0)) := acT 0 _ rfl
   have aGB : World.cell? _ ⟨Ze, ((rd l1 d9) : Int).toNat * 2 + 1, none⟩ = some (.int .i64 ((aj kC (rd l1 d9)).f1)) := acT 1 _ rfl
   have aGC : World.frozen? _ ⟨Ze, ((rd l1 d9) : Int).toNat * 2, none⟩ = false := acU 0
   have aGD : World.frozen? _ ⟨Ze, ((rd l1 d9) : Int).toNat * 2 + 1, none⟩ = false := acU 1
   (try clear awz); clear awy acT acU
   replace p11 := eq_true p11
   replace q11 := eq_true q11
   obtain ⟨aP2, akP, awC, akQ, awD⟩ := nz HO_322002.1 z83 ((rd l1 d9) : Int) (OD) (by have h_ : ((rd l1 d9) : Int) < ((kC.length : Int) : Int) := OD; first | exact h_ | (have e_ := (ay HO_322002.1).1; omega) | simpa using h_)
   obtain rfl := jY awC
   have apb := (DZ HO_322002.1 ((rd l1 d9) : Int) (OD) (by have h_ : ((rd l1 d9) : Int) < ((kC.length : Int) : Int) := OD; first | exact h_ | (have e_ := (ay HO_322002.1).1; omega) | simpa using h_) (seg := [.int .i64 acR, .int .i64 acS]) (j := 0) akP akQ (show 2 <= 2 from by decide) (x' := (⟨acR, acS⟩ : fq)) (uE _ _ _ (⟨acR, acS⟩ : fq) ) (fun _ hk => hk)).1
   rw [<- awv.1] at apb
   have aGE := aa.mk apb
   (try clear awC); clear akP akQ awD apb
   refine hK.out _ _ ⟨(ai sZ.1 0).trans rfl, (ai sZ.1 1).trans rfl, (ai sZ.1 2).trans rfl, xF, afk⟩ (fun hHeld => ?_)
   clear hK K
   refine eX (a' := ?_) ?_ ?_
   rotate_left
   · show Act.put _ (some 20) _ = _
     simp only [Act.put, List.setIfInBounds_toArray, List.set_cons_zero, List.set_cons_succ, cz, dF]
     rfl
   refine aU 9 (N := some 21) HT_.1 ?_
   refine BD (i := 10) (N := none) #[Yy,Yy,Yy,Yy,Yy,Yy,Yy,Yy,Yy,Yy,Yy] rfl rfl (jc HT_.1 (by kernel_rfl)) (by decide) (fun K hK => ?_)
   refine pF (w1 := ?_) (by rfl) rfl ?_ ?_
   rotate_left
   · go_simp
     rfl
   refine hK.out _ _ ?_
   clear hK K
   refine lI (jS HT_.1 (by kernel_rfl)) ?_
   try go_wp2
   (try simp only [<- qX])
   go_roundg k1
   case measure => have := iB.1; omega
   case rel => exact ⟨(wrap64 (d9 + 1)), (aGv), RG, H', ⟨by have := iB.1; omega⟩, ⟨ER aGE.1 qX⟩, ⟨by (try simp only [qX]); (with_reducible repeat (first | refine ak ?_ _ | refine ag ?_ | refine au ?_ _)); refine bu ?_ (by have h_ := dK HO_322002.1 sZ.1 (by decide); intro e_; exact h_ (by rw [e_]; rfl)) _; (with_reducible repeat (first | refine ak ?_ _ | refine ag ?_ | refine au ?_ _)); refine bu ?_ (by have h_ := dK HO_322002.1 sZ.1 (by decide); intro e_; exact h_ (by rw [e_]; rfl)) _; (with_reducible repeat (first | refine ak ?_ _ | refine ag ?_ | refine au ?_ _)); exact sZ.1⟩, ⟨by repeat (first | (with_reducible first | exact HK.1 | apply Kept.alloc | apply Kept.drewN | apply Kept.drew | refine Kept.setCell ?_ HMgo11.1 _ | refine Kept.setCell ?_ HMgo11.1 _ | refine Kept.setCell ?_ (.inr awu.1) _) | exact HK.1)⟩, ⟨BL HB.1⟩⟩
 obtain rfl := Option.some.inj H
 go_wp2
 first | go_end0 | ((try simp only [Exit.inBlock, Exit.then]); refine bodyPost_ret (results_none rfl _ _ _) rfl ?_)
 exact ⟨RF, (by first | exact (PR HO_322002.1) | (simp only [qX]; exact (PR HO_322002.1))), BL HB.1, KL HK.1⟩
end Go.Proofs.Ytbpfdbjnnlmdjaa.P
