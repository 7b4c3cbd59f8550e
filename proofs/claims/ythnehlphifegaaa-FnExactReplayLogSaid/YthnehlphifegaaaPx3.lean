-- PRINTED by print.py (a twelfth state) out of the translation. Not trusted: Lean checks it.
import Derived.Test.YthnehlphifegaaaPx0
import Derived.Test.YthnehlphifegaaaPx2
namespace Go.Proofs.Ythnehlphifegaaa.P
open Go.RowKit Go.Proofs.YthnehlphifegaaaW.PrintWords Go.Proofs.YthnehlphifegaaaW.PrintLast Go.Proofs.YthnehlphifegaaaW.PrintMore
attribute [local go_sem] max2_int min2_int max_two min_two max_three min_three max_four min_four   -- for this text's walks alone
set_option linter.unusedVariables false
set_option linter.unusedSimpArgs false
set_option maxHeartbeats 8000000
set_option maxRecDepth 100000

/-! ### spec_flPass: function 80 -/
open Kd
def spec_flPass.l0 : Nat -> List Int -> Int -> Int -> Int -> Int -> Int -> List (S98) -> Option ((List (S98)))
 | 0, _, _, _, _, _, _, _ => none
 | k + 1, x1, x2, x28, x29, x140000, x140001, x140002 => if x29 < x28 then (if 0 <= x29 then (if x29 < (x140002.length : Int) then (if ((rd_T98 x140002 x29).f0) = 6 then (if x29 < (x1.length : Int) then (if 0 <= x2 then (if x2 < (x1.length : Int) then (if (rd x1 x29) = (rd x1 x2) then ((spec_paTurn.f ((rd_T98 x140002 x29).f0) ((rd_T98 x140002 x29).f1)).bind fun bt149 => (spec_flPass.l0 k x1 x2 x28 (wrap64 (x29 + 1)) x140000 x140001 (x140002.set (x29 : Int).toNat (⟨bt149.1, bt149.2⟩ : S98)))) else (spec_flPass.l0 k x1 x2 x28 (wrap64 (x29 + 1)) x140000 x140001 x140002)) else (none)) else (none)) else (none)) else (spec_flPass.l0 k x1 x2 x28 (wrap64 (x29 + 1)) x140000 x140001 x140002)) else (none)) else (none)) else (some x140002)
def spec_flPass.f (k : Nat) (a0_0 : Int) (a0_1 : Int) (l0_2 : List (S98)) (l1 : List Int) (a2 : Int) : Option ((List (S98))) := if 0 <= a2 then (if a2 < (l0_2.length : Int) then (if ((rd_T98 l0_2 a2).f0) = 3 then ((spec_paTurn.f ((rd_T98 l0_2 a2).f0) ((rd_T98 l0_2 a2).f1)).bind fun bt142 => (some (l0_2.set (a2 : Int).toNat (⟨bt142.1, bt142.2⟩ : S98)))) else (if ((rd_T98 l0_2 a2).f0) = 6 then (spec_flPass.l0 k l1 a2 (l0_2.length : Int) 0 a0_0 a0_1 l0_2) else (some l0_2))) else (none)) else (none)
theorem spec_flPass.mono_l : ∀ k, (∀ y0 y1 y2 y3 y4 y5 y6, LeO (spec_flPass.l0 k y0 y1 y2 y3 y4 y5 y6) (spec_flPass.l0 (k + 1) y0 y1 y2 y3 y4 y5 y6))
 | 0 => fun _ _ _ _ _ _ _ r h => by simp [spec_flPass.l0] at h
 | k + 1 => by
  have ih0 := spec_flPass.mono_l k
  intros
  first | unfold spec_flPass.l0
  exact LM1 ih0
theorem spec_flPass.mono : ∀ a0 a1 a2 a3 a4 k, LeO (spec_flPass.f k a0 a1 a2 a3 a4) (spec_flPass.f (k + 1) a0 a1 a2 a3 a4) := by
 intro a0 a1 a2 a3 a4 k
 have ih0 := spec_flPass.mono_l k
 unfold spec_flPass.f
 exact LM1 ih0
def spec_flPass.T9 : Bool × List (List Nat × List Nat) := (true, [([], []), ([0], [0]), ([1], [1]), ([2], [2]), ([3], [3]), ([3], [3]), ([4, 5, 3], [3, 4, 5]), ([6, 3], [3, 6]), ([3], [3]), ([3], [3]), ([8, 9, 3], [3, 8, 9]), ([10, 3], [3, 10]), ([7, 11, 3], [3, 7, 11]), ([3, 12], [3, 12])])
def spec_flPass.B9 : List Nat := [0, 1, 3, 7, 15, 15, 63, 127, 15, 15, 783, 1807, 4095, 8191]
theorem spec_flPass.tab9 : rtab .any (opsOf Try.f80 9) = spec_flPass.T9 := by kernel_rfl
theorem spec_flPass.bits9 : waitsOk spec_flPass.T9.2 spec_flPass.B9 = true := by kernel_rfl
theorem spec_flPass.calls (k : Nat) (a0_0 : Int) (a0_1 : Int) (P0_2_ : Nat -> Prop) (u9000_ : Value) (l0_2 : List (S98)) (A1 : Option Addr) (c1 : Nat) (l1 : List Int) (a2 : Int) (r : List (S98)) (w0 w : World) (hB : Below w0.heap.size w0 w) (ho0_2 : Kd.R k98 98 w w0.heap.size P0_2_ u9000_ l0_2) (hr1 : ∀ W_, Kept w W_ (fun k_ => P0_2_ k_) -> Kd.C (Kd.int .i64) W_ A1 l1.length l1) (hc1 : l1.length <= c1) (h : spec_flPass.f k a0_0 a0_1 l0_2 l1 a2 = some r) :
 Calls Try.prog 80 #[.agg #[.int .i64 a0_0, .int .i64 a0_1, u9000_], .slice A1 l1.length c1, .int .i64 a2] w fun e w' => e = .returned (.tuple #[]) /\ Kd.R k98 98 w' w0.heap.size (fun k_ => (P0_2_ k_ ∨ w.heap.size <= k_)) u9000_ r /\ Below w0.heap.size w0 w' /\ Kept w w' (fun k_ => P0_2_ k_) := by
 have hu33 := Try.underlying33
 have hu98 := Try.underlying98
 have HO0_2 := Aside0.mk (show Kd.R k98 98 w w0.heap.size (fun k_ => (P0_2_ k_ ∨ w.heap.size <= k_)) u9000_ l0_2 from R_mono ho0_2 (fun k_ hk => (.inl hk)))
 have HR1 := Aside0.mk hr1
 have HC1 := Aside0.mk hc1
 clear hr1 hc1
 have HK := Aside0.mk (Kept.refl w (fun k_ => P0_2_ k_))
 have HW0 := Aside0.mk hB.size
 have HB := Aside0.mk hB
 clear hB
 have H := h
 clear h
 unfold spec_flPass.f at H
 replace H := ifN H; obtain ⟨c4b0, H⟩ := H
 replace H := ifN H; obtain ⟨c5b0, H⟩ := H
 replace H := ifQ H; rcases H with ⟨c6, H⟩ | ⟨c6, H⟩
 · have c6b0 := beq_iff_eq.mpr c6
   have c6b1 := bne_eq_false_iff_eq.mpr c6
   clear c6
   replace H := bindA H; obtain ⟨⟨t142, t143⟩, A7, H⟩ := H
   dsimp only at H
   generalize hy144 : ((l0_2.set (a2 : Int).toNat (⟨t142, t143⟩ : S98)) : List (S98)) = y144 at H
   have Ny144 := Aside0.mk hy144.symm; clear hy144
   obtain rfl := Option.some.inj H
   obtain ⟨Ao9, co9, eo9⟩ := R_slice HO0_2.1
   subst eo9
   go_enter Try.func80, Try.ntmps80
   try go_wp2_with (first | ((with_reducible refine gate_dst (N := 3) rfl ?_); refine boxE (cs := #[.int .i64 a0_0, .int .i64 a0_1, .slice Ao9 l0_2.length co9]) (t := 33) ?_; intro gb139 hg w10 hbox hb; refine E6 (rB HO0_2.1 hb) (Kept.below (S := (fun k_ => P0_2_ k_)) (KL HK.1) hb) (bS HB.1 hb) (hbox) ((by rw [hg]; exact (by first | exact HK.1.1 | exact (show Kept w _ (fun k_ => P0_2_ k_) from KL HK.1).1) : w.heap.size <= gb139)) (gwM hg (bZ HB.1) : w0.heap.size <= gb139) ?_; clear HO0_2 HK HB; intro HO0_2 HK HB BK139 GW139 GE139; clear hb hbox hg; obtain ⟨hcz11_0, hcz11_1, hcz11_2, hfz11_0, hfz11_1, hfz11_2⟩ := cz3 BK139.1; have p140 : 0 <= (a2 : Int) := OD; have q140 : a2 < (l0_2.length : Int) := OD; obtain ⟨ad140, e140, hx140_0, hx140_1⟩ := at_T98 (R_reads' HO0_2.1).2.2 a2 p140 q140; cases e140; replace p140 := eq_true p140; replace q140 := eq_true q140) | ((with_reducible refine gate_dst (N := 6) rfl ?_); refine boxE (cs := #[.int .i64 0, .int .i64 0]) (t := 98) ?_; intro gb141 hg w12 hbox hb; refine E9 (R_below (R_elderB (PR HO0_2.1) gb141 (Nat.le_of_eq hg.symm)) hb) (bB BK139.1 hb) (Kept.below (S := (fun k_ => P0_2_ k_)) (KL HK.1) hb) (bS HB.1 hb) (hbox) ((by rw [hg]; exact (by first | exact HK.1.1 | exact (show Kept w _ (fun k_ => P0_2_ k_) from KL HK.1).1) : w.heap.size <= gb141)) (gwM hg (bZ HB.1) : w0.heap.size <= gb141) (nB BK139.1 hg) (nC BK139.1 hg) ?_; clear HO0_2 BK139 HK HB; intro HO0_2 BK139 HK HB BK141 GW141 GE141 NB139_141 NB141_139; clear hb hbox hg; have hnb13 := NB141_139.1; have hnc13 := NB139_141.1; obtain ⟨hcz14_0, hcz14_1, hfz14_0, hfz14_1⟩ := cz2 BK141.1))
   have n_ : (fun w15 : World => (Kd.R k98 98 w15 w0.heap.size (fun k_ => (P0_2_ k_ ∨ w.heap.size <= k_) /\ k_ ≠ gb141) (.slice (some ad140) l0_2.length co9) l0_2) /\ (w15.heap[gb139]? = some (.cells #[.int .i64 a0_0, .int .i64 a0_1, .slice (some ad140) l0_2.length co9] 33 (0, 0))) /\ (w15.heap[gb141]? = some (.cells #[.int .i64 ((rd_T98 l0_2 a2).f0), .int .i64 ((rd_T98 l0_2 a2).f1)] 98 (0, 0))) /\ (Kept w w15 (fun k_ => P0_2_ k_)) /\ (Below w0.heap.size w0 w15)) ((w12.setCell ⟨gb141, 0, none⟩ (.int .i64 ((rd_T98 l0_2 a2).f0))).setCell ⟨gb141, 1, none⟩ (.int .i64 ((rd_T98 l0_2 a2).f1))) := ⟨by (with_reducible repeat (first | apply R_alloc | apply R_drewN | apply R_drew)); exact R_mono (RQ gb141 1 (RQ gb141 0 (R_mono HO0_2.1 (fun k_ hk => (⟨hk, hk.2⟩ : _ /\ k_ ≠ gb141))) _) _) (fun _ hk => ⟨hk.1.1, hk.1.2⟩), by (with_reducible repeat (first | refine blk_drewN ?_ _ | refine blk_drew ?_ | refine blk_alloc ?_ _)); refine blk_far ?_ NB139_141.1 _; (with_reducible repeat (first | refine blk_drewN ?_ _ | refine blk_drew ?_ | refine blk_alloc ?_ _)); refine blk_far ?_ NB139_141.1 _; (with_reducible repeat (first | refine blk_drewN ?_ _ | refine blk_drew ?_ | refine blk_alloc ?_ _)); exact BK139.1, by (with_reducible repeat (first | refine blk_drewN ?_ _ | refine blk_drew ?_ | refine blk_alloc ?_ _)); refine blk_put (cs := #[.int .i64 ((rd_T98 l0_2 a2).f0), .int .i64 0]) ?_ 1 _ rfl; (with_reducible repeat (first | refine blk_drewN ?_ _ | refine blk_drew ?_ | refine blk_alloc ?_ _)); refine blk_put (cs := #[.int .i64 0, .int .i64 0]) ?_ 0 _ rfl; (with_reducible repeat (first | refine blk_drewN ?_ _ | refine blk_drew ?_ | refine blk_alloc ?_ _)); exact BK141.1, KL HK.1, BL HB.1⟩
   (try clear HO0_2)
   (try clear BK139)
   (try clear BK141)
   (try clear HK)
   (try clear HB)
   generalize ((w12.setCell ⟨gb141, 0, none⟩ (.int .i64 ((rd_T98 l0_2 a2).f0))).setCell ⟨gb141, 1, none⟩ (.int .i64 ((rd_T98 l0_2 a2).f1))) = w15 at n_ ⊢
   obtain ⟨h0_, h1_, h2_, h3_, h4_⟩ := n_
   refine E5 h0_ h1_ h2_ h3_ h4_ ?_
   clear h0_ h1_ h2_ h3_ h4_
   intro HO0_2 BK139 BK141 HK HB
   refine E5 (R_drew HO0_2.1) (blk_drew BK139.1) (blk_drew BK141.1) (Kept.drew HK.1) (below_drew1 HB.1) ?_
   clear HO0_2 BK139 BK141 HK HB
   intro HO0_2 BK139 BK141 HK HB
   refine start_ (n := 7) (S := fun w' => w'.cell? ⟨gb139, 0, none⟩ = some (.int .i64 a0_0) /\ w'.cell? ⟨gb139, 1, none⟩ = some (.int .i64 a0_1) /\ w'.cell? ⟨gb139, 2, none⟩ = some (.slice (some ad140) l0_2.length co9) /\ w'.cell? ⟨gb141, 0, none⟩ = some (.int .i64 ((rd_T98 l0_2 a2).f0)) /\ w'.cell? ⟨gb141, 1, none⟩ = some (.int .i64 ((rd_T98 l0_2 a2).f1))) (ds := [6]) #[Zz,Zz,Zz,Zz,Zz,Zz,Zz] (by kernel_rfl) rfl rfl ⟨(blk_cell BK139.1 0).trans rfl, (blk_cell BK139.1 1).trans rfl, (blk_cell BK139.1 2).trans rfl, (blk_cell BK141.1 0).trans rfl, (blk_cell BK141.1 1).trans rfl⟩ (fun hHeld => ?_)
   generalize w15.drew = w16 at HO0_2 BK139 BK141 HK HB hHeld ⊢
   refine pure_ (i := 0) (N := some 18) (v := ?_) (a' := ?_) #[Yy,Zz,Zz,Zz,Zz,Zz,Zz] rfl rfl (by kernel_rfl) (fun _ _ _ h => h) (Or.inl ⟨by rfl, ?_⟩) ?_ ?_
   rotate_left
   · intro w'
     go_simp
     with_reducible rfl
   rotate_left
   · simp only [Act.put, List.setIfInBounds_toArray, List.set_cons_zero, List.set_cons_succ, i64_w, i32_w]
     rfl
   refine pure_ (i := 2) (N := some 20) (v := ?_) (a' := ?_) #[Yy,Zz,Yy,Zz,Zz,Zz,Zz] rfl rfl (by kernel_rfl) (fun _ _ _ h => h) (Or.inl ⟨by rfl, ?_⟩) ?_ ?_
   rotate_left
   · intro w'
     go_simp
     with_reducible rfl
   rotate_left
   · simp only [Act.put, List.setIfInBounds_toArray, List.set_cons_zero, List.set_cons_succ, i64_w, i32_w]
     rfl
   refine takeF 1 (N := some 19) hHeld ?_
   refine takeF 3 (N := some 21) hHeld ?_
   refine one_ (i := 4) (N := some 22) #[Yy,Yy,Yy,Yy,Yy,Zz,Zz] rfl rfl (by kernel_rfl) (by decide) (fun K hK => ?_)
   refine goes_ Try.func84 (by kernel_rfl) rfl #[.agg #[.int .i64 ((rd_T98 l0_2 a2).f0), .int .i64 ((rd_T98 l0_2 a2).f1)]] (by rfl) rfl rfl (by (try simp only [List.map_toArray, List.map_cons, List.map_nil]); first | done | rfl | (simp only [List.length_drop, List.length_take]; rfl)) ?_
   with_reducible refine (spec_paTurn.calls ((rd_T98 l0_2 a2).f0) ((rd_T98 l0_2 a2).f1) t142 t143 _ A7.1).mono ?_
   rintro e w17 ⟨rfl, hb⟩
   refine ⟨_, rfl, ?_⟩
   refine E5 (rB HO0_2.1 hb) (bB BK139.1 hb) (bB BK141.1 hb) (Kept.below (S := (fun k_ => P0_2_ k_)) (KL HK.1) hb) (bS HB.1 hb) ?_
   clear HO0_2 BK139 BK141 HK HB
   intro HO0_2 BK139 BK141 HK HB
   (try clear hb)
   (try clear hb2)
   (try clear hk)
   (try clear hi)
   have p8 : 0 <= (a2 : Int) := OD
   have q8 : (a2 : Int) < ((l0_2.length : Int) : Int) := OD
   obtain ⟨go8, co8, eo8, gb8, gl8, cl8, HG8⟩ := R_form HO0_2.1 (by omega)
   (first | cases eo8 | (injection eo8 with ea_ en_ ec_; (first | subst ea_ | (injection ea_ with ea_; subst ea_)); subst ec_; clear en_))
   have GB8 := Aside0.mk gb8
   have GG8 := Aside0.mk HG8
   clear gb8 gl8 HG8
   have HMgo8 := Aside0.mk (show (P0_2_ go8 ∨ w.heap.size <= go8) from (HO0_2.1.1 _ rfl).1)
   (first | simp only [add_plain] at hx140_0 | skip)
   (first | simp only [add_plain] at hx140_1 | skip)
   obtain ⟨ce8, hcl8, hM8, hcc8, hfr8⟩ := R_elem HO0_2.1 z98 (a2 : Int) p8 q8
   obtain rfl := k98_openM hM8
   have hx8_0 : World.cell? _ ⟨go8, (a2 : Int).toNat * 2, none⟩ = some (.int .i64 ((rd_T98 l0_2 a2).f0)) := hcc8 0 _ rfl
   have hx8_1 : World.cell? _ ⟨go8, (a2 : Int).toNat * 2 + 1, none⟩ = some (.int .i64 ((rd_T98 l0_2 a2).f1)) := hcc8 1 _ rfl
   have hf8_0 : World.frozen? _ ⟨go8, (a2 : Int).toNat * 2, none⟩ = false := hfr8 0
   have hf8_1 : World.frozen? _ ⟨go8, (a2 : Int).toNat * 2 + 1, none⟩ = false := hfr8 1
   (try clear hM8); clear hcl8 hcc8 hfr8
   replace p8 := eq_true p8
   replace q8 := eq_true q8
   obtain ⟨ce18, hcl18, hM18, hcc18, hfr18⟩ := R_elem HO0_2.1 z98 (a2 : Int) (OD) (by have h_ : (a2 : Int) < ((l0_2.length : Int) : Int) := OD; first | exact h_ | (have e_ := (R_reads' HO0_2.1).1; omega) | simpa using h_)
   obtain rfl := k98_openM hM18
   have HP18 := (R_seg HO0_2.1 (a2 : Int) (OD) (by have h_ : (a2 : Int) < ((l0_2.length : Int) : Int) := OD; first | exact h_ | (have e_ := (R_reads' HO0_2.1).1; omega) | simpa using h_) (seg := [.int .i64 t142, .int .i64 t143]) (j := 0) hcl18 hcc18 (show 2 <= 2 from by decide) (x' := (⟨t142, t143⟩ : S98)) (k98_mkM _ _ _ (⟨t142, t143⟩ : S98) ) (fun _ hk => hk)).1
   rw [<- Ny144.1] at HP18
   have HQ18 := Aside0.mk HP18
   (try clear hM18); clear hcl18 hcc18 hfr18 HP18
   refine hK.out _ _ ⟨(blk_cell BK139.1 0).trans rfl, (blk_cell BK139.1 1).trans rfl, (blk_cell BK139.1 2).trans rfl, (blk_cell BK141.1 0).trans rfl, (blk_cell BK141.1 1).trans rfl⟩ (fun hHeld => ?_)
   clear hK K
   refine norm_ (a' := ?_) ?_ ?_
   rotate_left
   · show Act.put _ (some 22) _ = _
     simp only [Act.put, List.setIfInBounds_toArray, List.set_cons_zero, List.set_cons_succ, i64_w, i32_w]
     rfl
   refine pure_ (i := 5) (N := some 23) (v := ?_) (a' := ?_) #[Yy,Yy,Yy,Yy,Yy,Yy,Zz] rfl rfl (by kernel_rfl) (fun _ _ _ h => h) (Or.inl ⟨by rfl, ?_⟩) ?_ ?_
   rotate_left
   · intro w'
     go_simp
     with_reducible rfl
   rotate_left
   · simp only [Act.put, List.setIfInBounds_toArray, List.set_cons_zero, List.set_cons_succ, i64_w, i32_w]
     rfl
   refine last_ (i := 6) (N := none) #[Yy,Yy,Yy,Yy,Yy,Yy,Yy] rfl rfl (by kernel_rfl) (by decide) (fun K hK => ?_)
   refine skip_ (w1 := ?_) (by rfl) rfl ?_ ?_
   rotate_left
   · go_simp
     rfl
   refine hK.out _ _ ?_
   clear hK K
   refine done_ (by kernel_rfl) ?_
   try go_wp2
   first | go_end0 | ((try simp only [Exit.inBlock, Exit.then]); refine bodyPost_ret (results_none rfl _ _ _) rfl ?_)
   exact ⟨RF, RPE (R_mono HQ18.1 (fun _ hk => hk.1)), BL HB.1, by repeat (first | (with_reducible first | exact HK.1 | apply Kept.alloc | apply Kept.drewN | apply Kept.drew | refine Kept.setCell ?_ HMgo8.1 _ | refine Kept.setCell ?_ HMgo8.1 _ | refine Kept.setCell ?_ (.inr GW139.1) _ | refine Kept.setCell ?_ (.inr GW141.1) _) | exact HK.1)⟩
 have c6b0 := beq_eq_false_iff_ne.mpr c6
 have c6b1 := bne_iff_ne.mpr c6
 replace H := ifQ H; rcases H with ⟨c19, H⟩ | ⟨c19, H⟩
 · have c19b0 := beq_iff_eq.mpr c19
   have c19b1 := bne_eq_false_iff_eq.mpr c19
   clear c19
   have H' := Aside0.mk H
   clear H
   obtain ⟨Ao20, co20, eo20⟩ := R_slice HO0_2.1
   subst eo20
   go_enter Try.func80, Try.ntmps80
   go_wp2_with (first | ((with_reducible refine gate_dst (N := 3) rfl ?_); refine boxE (cs := #[.int .i64 a0_0, .int .i64 a0_1, .slice Ao20 l0_2.length co20]) (t := 33) ?_; intro gb139 hg w21 hbox hb; refine E6 (rB HO0_2.1 hb) (Kept.below (S := (fun k_ => P0_2_ k_)) (KL HK.1) hb) (bS HB.1 hb) (hbox) ((by rw [hg]; exact (by first | exact HK.1.1 | exact (show Kept w _ (fun k_ => P0_2_ k_) from KL HK.1).1) : w.heap.size <= gb139)) (gwM hg (bZ HB.1) : w0.heap.size <= gb139) ?_; clear HO0_2 HK HB; intro HO0_2 HK HB BK139 GW139 GE139; clear hb hbox hg; obtain ⟨hcz22_0, hcz22_1, hcz22_2, hfz22_0, hfz22_1, hfz22_2⟩ := cz3 BK139.1; have p140 : 0 <= (a2 : Int) := OD; have q140 : a2 < (l0_2.length : Int) := OD; obtain ⟨ad140, e140, hx140_0, hx140_1⟩ := at_T98 (R_reads' HO0_2.1).2.2 a2 p140 q140; cases e140; replace p140 := eq_true p140; replace q140 := eq_true q140) | ((with_reducible refine gate_dst (N := 6) rfl ?_); refine boxE (cs := #[.int .i64 0, .int .i64 0]) (t := 98) ?_; intro gb141 hg w23 hbox hb; refine E9 (R_below (R_elderB (PR HO0_2.1) gb141 (Nat.le_of_eq hg.symm)) hb) (bB BK139.1 hb) (Kept.below (S := (fun k_ => P0_2_ k_)) (KL HK.1) hb) (bS HB.1 hb) (hbox) ((by rw [hg]; exact (by first | exact HK.1.1 | exact (show Kept w _ (fun k_ => P0_2_ k_) from KL HK.1).1) : w.heap.size <= gb141)) (gwM hg (bZ HB.1) : w0.heap.size <= gb141) (nB BK139.1 hg) (nC BK139.1 hg) ?_; clear HO0_2 BK139 HK HB; intro HO0_2 BK139 HK HB BK141 GW141 GE141 NB139_141 NB141_139; clear hb hbox hg; have hnb24 := NB141_139.1; have hnc24 := NB139_141.1; obtain ⟨hcz25_0, hcz25_1, hfz25_0, hfz25_1⟩ := cz2 BK141.1; obtain ⟨hcz26_0, hcz26_1, hcz26_2, hfz26_0, hfz26_1, hfz26_2⟩ := cz3 BK139.1))
   go_loopg [29] k (fun kq v29 w' => ∃ (x29_1 : Int) (x140002_1 : List (S98)) (x142000_1 : Int) (x142001_1 : Int), v29 = .int .i64 x29_1 /\ Aside0 (spec_flPass.l0 kq l1 a2 (l0_2.length : Int) x29_1 a0_0 a0_1 x140002_1 = some r) /\ Aside0 (kq <= k) /\ Aside0 (Kd.R k98 98 w' w0.heap.size (fun k_ => (P0_2_ k_ ∨ w.heap.size <= k_) /\ k_ ≠ gb141) (.slice (some ad140) l0_2.length co20) x140002_1) /\ Aside0 (w'.heap[gb139]? = some (.cells #[.int .i64 a0_0, .int .i64 a0_1, (.slice (some ad140) l0_2.length co20)] 33 (0, 0))) /\ Aside0 (w'.heap[gb141]? = some (.cells #[.int .i64 x142000_1, .int .i64 x142001_1] 98 (0, 0))) /\ Aside0 (Kept w w' (fun k_ => P0_2_ k_)) /\ Aside0 (Below w0.heap.size w0 w'))
   case atStart => exact ⟨(0), (l0_2), ((rd_T98 l0_2 a2).f0), ((rd_T98 l0_2 a2).f1), RG, H', ⟨Nat.le_refl _⟩, ⟨by (with_reducible repeat (first | apply R_alloc | apply R_drewN | apply R_drew)); exact R_mono (RQ gb141 1 (RQ gb141 0 (R_mono HO0_2.1 (fun k_ hk => (⟨hk, hk.2⟩ : _ /\ k_ ≠ gb141))) _) _) (fun _ hk => ⟨hk.1.1, hk.1.2⟩)⟩, ⟨by (with_reducible repeat (first | refine blk_drewN ?_ _ | refine blk_drew ?_ | refine blk_alloc ?_ _)); refine blk_far ?_ NB139_141.1 _; (with_reducible repeat (first | refine blk_drewN ?_ _ | refine blk_drew ?_ | refine blk_alloc ?_ _)); refine blk_far ?_ NB139_141.1 _; (with_reducible repeat (first | refine blk_drewN ?_ _ | refine blk_drew ?_ | refine blk_alloc ?_ _)); exact BK139.1⟩, ⟨by (with_reducible repeat (first | refine blk_drewN ?_ _ | refine blk_drew ?_ | refine blk_alloc ?_ _)); refine blk_put (cs := #[.int .i64 ((rd_T98 l0_2 a2).f0), .int .i64 0]) ?_ 1 _ rfl; (with_reducible repeat (first | refine blk_drewN ?_ _ | refine blk_drew ?_ | refine blk_alloc ?_ _)); refine blk_put (cs := #[.int .i64 0, .int .i64 0]) ?_ 0 _ rfl; (with_reducible repeat (first | refine blk_drewN ?_ _ | refine blk_drew ?_ | refine blk_alloc ?_ _)); exact BK141.1⟩, ⟨KL HK.1⟩, ⟨BL HB.1⟩⟩
   clear H'
   try clear c1; try clear c6; try clear hx140_0; try clear hx140_1; try clear p140; try clear q140; clear c4b0 c5b0 c6b0 c6b1 c19b0 c19b1 hcz22_0 hcz22_1 hcz22_2 hcz25_0 hcz25_1 hcz26_0 hcz26_1 hcz26_2 hfz22_0 hfz22_1 hfz22_2 hfz25_0 hfz25_1 hfz26_0 hfz26_1 hfz26_2
   obtain ⟨x29_1, x140002_1, x142000_1, x142001_1, rfl, HA, HK1, HO_140002, BK139, BK141, HK, HB⟩ := hrel
   have hl140002_1 := (R_reads' HO_140002.1).1
   rw [hl140002_1] at HO_140002
   (try simp only [hl140002_1])
   (try simp only [hl140002_1] at BK139)
   (try simp only [hl140002_1] at BK141)
   cases gk with
   | zero => exact absurd HA.1 (by simp [spec_flPass.l0])
   | succ k1 => ?_
   have H := HA.1
   clear HA
   simp only [spec_flPass.l0] at H
   replace H := ifB H; rcases H with ⟨c27b0, H⟩ | ⟨c27b0, H⟩
   · replace H := ifN H; obtain ⟨c28b0, H⟩ := H
     replace H := ifN H; obtain ⟨c29b0, H⟩ := H
     replace H := ifQ H; rcases H with ⟨c30, H⟩ | ⟨c30, H⟩
     · have c30b0 := beq_iff_eq.mpr c30
       have c30b1 := bne_eq_false_iff_eq.mpr c30
       clear c30
       replace H := ifN H; obtain ⟨c31b0, H⟩ := H
       replace H := ifN H; obtain ⟨c32b0, H⟩ := H
       replace H := ifN H; obtain ⟨c33b0, H⟩ := H
       replace H := ifQ H; rcases H with ⟨c34, H⟩ | ⟨c34, H⟩
       · have c34b0 := beq_iff_eq.mpr c34
         have c34b1 := bne_eq_false_iff_eq.mpr c34
         clear c34
         replace H := bindA H; obtain ⟨⟨t149, t150⟩, A35, H⟩ := H
         dsimp only at H
         generalize hy151 : ((x140002_1.set (x29_1 : Int).toNat (⟨t149, t150⟩ : S98)) : List (S98)) = y151 at H
         have Ny151 := Aside0.mk hy151.symm; clear hy151
         have H' := Aside0.mk H
         clear H
         have p145 : 0 <= (x29_1 : Int) := OD
         have q145 : x29_1 < (x140002_1.length : Int) := OD
         obtain ⟨ad145, e145, hx145_0, hx145_1⟩ := at_T98 (R_reads' HO_140002.1).2.2 x29_1 p145 q145
         obtain rfl : ad140 = ad145 := (by injection e145)
         replace p145 := eq_true p145
         replace q145 := eq_true q145
         try go_wp2_with (first | ((with_reducible refine gate_dst (N := 8) rfl ?_); refine boxE (cs := #[.int .i64 0, .int .i64 0]) (t := 98) ?_; intro gb146 hg w37 hbox hb; refine E12 (R_below (R_elderB (PR HO_140002.1) gb146 (Nat.le_of_eq hg.symm)) hb) (bB BK139.1 hb) (bB BK141.1 hb) (Kept.below (S := (fun k_ => P0_2_ k_)) (KL HK.1) hb) (bS HB.1 hb) (hbox) ((by rw [hg]; exact (by first | exact HK.1.1 | exact (show Kept w _ (fun k_ => P0_2_ k_) from KL HK.1).1) : w.heap.size <= gb146)) (gwM hg (bZ HB.1) : w0.heap.size <= gb146) (nB BK139.1 hg) (nC BK139.1 hg) (nB BK141.1 hg) (nC BK141.1 hg) ?_; clear HO_140002 BK139 BK141 HK HB; intro HO_140002 BK139 BK141 HK HB BK146 GW146 GE146 NB139_146 NB146_139 NB141_146 NB146_141; clear hb hbox hg; have hnb38 := NB146_139.1; have hnc38 := NB139_146.1; have hnb39 := NB146_141.1; have hnc39 := NB141_146.1; obtain ⟨hcz40_0, hcz40_1, hfz40_0, hfz40_1⟩ := cz2 BK146.1))
         have n_ : (fun w41 : World => (Kd.R k98 98 w41 w0.heap.size (fun k_ => (P0_2_ k_ ∨ w.heap.size <= k_) /\ k_ ≠ gb141 /\ k_ ≠ gb146) (.slice (some ad140) x140002_1.length co20) x140002_1) /\ (w41.heap[gb139]? = some (.cells #[.int .i64 a0_0, .int .i64 a0_1, .slice (some ad140) x140002_1.length co20] 33 (0, 0))) /\ (w41.heap[gb141]? = some (.cells #[.int .i64 x142000_1, .int .i64 x142001_1] 98 (0, 0))) /\ (w41.heap[gb146]? = some (.cells #[.int .i64 ((rd_T98 x140002_1 x29_1).f0), .int .i64 ((rd_T98 x140002_1 x29_1).f1)] 98 (0, 0))) /\ (Kept w w41 (fun k_ => P0_2_ k_)) /\ (Below w0.heap.size w0 w41)) ((w37.setCell ⟨gb146, 0, none⟩ (.int .i64 ((rd_T98 x140002_1 x29_1).f0))).setCell ⟨gb146, 1, none⟩ (.int .i64 ((rd_T98 x140002_1 x29_1).f1))) := ⟨by (with_reducible repeat (first | apply R_alloc | apply R_drewN | apply R_drew)); exact R_mono (RQ gb146 1 (RQ gb146 0 (R_mono HO_140002.1 (fun k_ hk => (⟨hk, hk.2⟩ : _ /\ k_ ≠ gb146))) _) _) (fun _ hk => ⟨hk.1.1.1, ⟨hk.1.1.2, hk.1.2⟩⟩), by (with_reducible repeat (first | refine blk_drewN ?_ _ | refine blk_drew ?_ | refine blk_alloc ?_ _)); refine blk_far ?_ NB139_146.1 _; (with_reducible repeat (first | refine blk_drewN ?_ _ | refine blk_drew ?_ | refine blk_alloc ?_ _)); refine blk_far ?_ NB139_146.1 _; (with_reducible repeat (first | refine blk_drewN ?_ _ | refine blk_drew ?_ | refine blk_alloc ?_ _)); exact BK139.1, by (with_reducible repeat (first | refine blk_drewN ?_ _ | refine blk_drew ?_ | refine blk_alloc ?_ _)); refine blk_far ?_ NB141_146.1 _; (with_reducible repeat (first | refine blk_drewN ?_ _ | refine blk_drew ?_ | refine blk_alloc ?_ _)); refine blk_far ?_ NB141_146.1 _; (with_reducible repeat (first | refine blk_drewN ?_ _ | refine blk_drew ?_ | refine blk_alloc ?_ _)); exact BK141.1, by (with_reducible repeat (first | refine blk_drewN ?_ _ | refine blk_drew ?_ | refine blk_alloc ?_ _)); refine blk_put (cs := #[.int .i64 ((rd_T98 x140002_1 x29_1).f0), .int .i64 0]) ?_ 1 _ rfl; (with_reducible repeat (first | refine blk_drewN ?_ _ | refine blk_drew ?_ | refine blk_alloc ?_ _)); refine blk_put (cs := #[.int .i64 0, .int .i64 0]) ?_ 0 _ rfl; (with_reducible repeat (first | refine blk_drewN ?_ _ | refine blk_drew ?_ | refine blk_alloc ?_ _)); exact BK146.1, KL HK.1, BL HB.1⟩
         (try clear HO_140002)
         (try clear BK139)
         (try clear BK141)
         (try clear BK146)
         (try clear HK)
         (try clear HB)
         generalize ((w37.setCell ⟨gb146, 0, none⟩ (.int .i64 ((rd_T98 x140002_1 x29_1).f0))).setCell ⟨gb146, 1, none⟩ (.int .i64 ((rd_T98 x140002_1 x29_1).f1))) = w41 at n_ ⊢
         obtain ⟨h0_, h1_, h2_, h3_, h4_, h5_⟩ := n_
         refine E6 h0_ h1_ h2_ h3_ h4_ h5_ ?_
         clear h0_ h1_ h2_ h3_ h4_ h5_
         intro HO_140002 BK139 BK141 BK146 HK HB
         refine E6 (R_drew HO_140002.1) (blk_drew BK139.1) (blk_drew BK141.1) (blk_drew BK146.1) (Kept.drew HK.1) (below_drew1 HB.1) ?_
         clear HO_140002 BK139 BK141 BK146 HK HB
         intro HO_140002 BK139 BK141 BK146 HK HB
         have p147 : 0 <= (x29_1 : Int) := OD
         have q147 : x29_1 < (l1.length : Int) := OD
         obtain ⟨ad147, e147, hx147_0⟩ := Kd.at_int (C_kept_now HR1.1 HK.1) x29_1 p147 q147
         have hw147_0 := hx147_0
         cases e147
         replace p147 := eq_true p147
         replace q147 := eq_true q147
         have p148 : 0 <= (a2 : Int) := OD
         have q148 : a2 < (l1.length : Int) := OD
         obtain ⟨ad148, e148, hx148_0⟩ := Kd.at_int (C_kept_now HR1.1 HK.1) a2 p148 q148
         have hw148_0 := hx148_0
         obtain rfl : ad147 = ad148 := (by injection e148)
         replace p148 := eq_true p148
         replace q148 := eq_true q148
         refine start_ (n := 14) (S := fun w' => w'.cell? ⟨gb146, 0, none⟩ = some (.int .i64 ((rd_T98 x140002_1 x29_1).f0)) /\ w'.cell? ⟨gb146, 1, none⟩ = some (.int .i64 ((rd_T98 x140002_1 x29_1).f1)) /\ w'.cell? (ad147.add (x29_1).toNat) = some (.int .i64 (rd l1 x29_1)) /\ w'.cell? (ad147.add (a2).toNat) = some (.int .i64 (rd l1 a2))) (ds := []) #[Zz,Zz,Zz,Zz,Zz,Zz,Zz,Zz,Zz,Zz,Zz,Zz,Zz,Zz] (by kernel_rfl) rfl rfl ⟨(blk_cell BK146.1 0).trans rfl, (blk_cell BK146.1 1).trans rfl, (Kd.foot_int (HR1.1 _ (by repeat (first | exact HK.1 | apply Kept.alloc | apply Kept.drewN | apply Kept.drew))) x29_1 (of_eq_true p147) (of_eq_true q147)), (Kd.foot_int (HR1.1 _ (by repeat (first | exact HK.1 | apply Kept.alloc | apply Kept.drewN | apply Kept.drew))) a2 (of_eq_true p148) (of_eq_true q148))⟩ (fun hHeld => ?_); refine with_tabW spec_flPass.tab9 spec_flPass.bits9 (fun HT_ HW_ => ?_)
         generalize w41.drew = w42 at HO_140002 BK139 BK141 BK146 HK HB hx147_0 hx148_0 hHeld ⊢
         refine pureF 0 (N := some 34) HT_.1 ?_
         refine takeE 1 (N := some 35) HT_.1 HW_.1 hHeld ?_
         refine pureF 2 (N := some 36) HT_.1 ?_
         refine pureF 3 (N := some 37) HT_.1 ?_
         refine pureF 4 (N := some 38) HT_.1 ?_
         refine pureF 5 (N := some 39) HT_.1 ?_
         refine pureF 6 (N := some 40) HT_.1 ?_
         refine pureF 8 (N := some 42) HT_.1 ?_
         refine pureF 9 (N := some 43) HT_.1 ?_
         refine pureF 10 (N := some 44) HT_.1 ?_
         refine takeE 7 (N := some 41) HT_.1 HW_.1 hHeld ?_
         refine takeE 11 (N := some 45) HT_.1 HW_.1 hHeld ?_
         refine pureF 12 (N := some 46) HT_.1 ?_
         refine pureF 13 (N := some 47) HT_.1 ?_
         refine done_ (done_of HT_.1 (by kernel_rfl)) ?_
         try go_wp2
         refine E6 (R_drew HO_140002.1) (blk_drew BK139.1) (blk_drew BK141.1) (blk_drew BK146.1) (Kept.drew HK.1) (below_drew1 HB.1) ?_
         clear HO_140002 BK139 BK141 BK146 HK HB
         intro HO_140002 BK139 BK141 BK146 HK HB
         refine start_ (n := 7) (S := fun w' => w'.cell? ⟨gb139, 0, none⟩ = some (.int .i64 a0_0) /\ w'.cell? ⟨gb139, 1, none⟩ = some (.int .i64 a0_1) /\ w'.cell? ⟨gb139, 2, none⟩ = some (.slice (some ad140) x140002_1.length co20) /\ w'.cell? ⟨gb146, 0, none⟩ = some (.int .i64 ((rd_T98 x140002_1 x29_1).f0)) /\ w'.cell? ⟨gb146, 1, none⟩ = some (.int .i64 ((rd_T98 x140002_1 x29_1).f1))) (ds := [6]) #[Zz,Zz,Zz,Zz,Zz,Zz,Zz] (by kernel_rfl) rfl rfl ⟨(blk_cell BK139.1 0).trans rfl, (blk_cell BK139.1 1).trans rfl, (blk_cell BK139.1 2).trans rfl, (blk_cell BK146.1 0).trans rfl, (blk_cell BK146.1 1).trans rfl⟩ (fun hHeld => ?_)
         generalize w42.drew = w43 at HO_140002 BK139 BK141 BK146 HK HB hHeld ⊢
         refine pure_ (i := 0) (N := some 48) (v := ?_) (a' := ?_) #[Yy,Zz,Zz,Zz,Zz,Zz,Zz] rfl rfl (by kernel_rfl) (fun _ _ _ h => h) (Or.inl ⟨by rfl, ?_⟩) ?_ ?_
         rotate_left
         · intro w'
           go_simp
           with_reducible rfl
         rotate_left
         · simp only [Act.put, List.setIfInBounds_toArray, List.set_cons_zero, List.set_cons_succ, i64_w, i32_w]
           rfl
         refine pure_ (i := 2) (N := some 50) (v := ?_) (a' := ?_) #[Yy,Zz,Yy,Zz,Zz,Zz,Zz] rfl rfl (by kernel_rfl) (fun _ _ _ h => h) (Or.inl ⟨by rfl, ?_⟩) ?_ ?_
         rotate_left
         · intro w'
           go_simp
           with_reducible rfl
         rotate_left
         · simp only [Act.put, List.setIfInBounds_toArray, List.set_cons_zero, List.set_cons_succ, i64_w, i32_w]
           rfl
         refine takeF 1 (N := some 49) hHeld ?_
         refine takeF 3 (N := some 51) hHeld ?_
         refine one_ (i := 4) (N := some 52) #[Yy,Yy,Yy,Yy,Yy,Zz,Zz] rfl rfl (by kernel_rfl) (by decide) (fun K hK => ?_)
         refine goes_ Try.func84 (by kernel_rfl) rfl #[.agg #[.int .i64 ((rd_T98 x140002_1 x29_1).f0), .int .i64 ((rd_T98 x140002_1 x29_1).f1)]] (by rfl) rfl rfl (by (try simp only [List.map_toArray, List.map_cons, List.map_nil]); first | done | rfl | (simp only [List.length_drop, List.length_take]; rfl)) ?_
         with_reducible refine (spec_paTurn.calls ((rd_T98 x140002_1 x29_1).f0) ((rd_T98 x140002_1 x29_1).f1) t149 t150 _ A35.1).mono ?_
         rintro e w44 ⟨rfl, hb⟩
         refine ⟨_, rfl, ?_⟩
         refine E6 (rB HO_140002.1 hb) (bB BK139.1 hb) (bB BK141.1 hb) (bB BK146.1 hb) (Kept.below (S := (fun k_ => P0_2_ k_)) (KL HK.1) hb) (bS HB.1 hb) ?_
         clear HO_140002 BK139 BK141 BK146 HK HB
         intro HO_140002 BK139 BK141 BK146 HK HB
         (try clear hb)
         (try clear hb2)
         (try clear hk)
         (try clear hi)
         have p36 : 0 <= (x29_1 : Int) := OD
         have q36 : (x29_1 : Int) < ((x140002_1.length : Int) : Int) := OD
         obtain ⟨go36, co36, eo36, gb36, gl36, cl36, HG36⟩ := R_form HO_140002.1 (by omega)
         (first | cases eo36 | (injection eo36 with ea_ en_ ec_; (first | subst ea_ | (injection ea_ with ea_; subst ea_)); subst ec_; clear en_))
         have GB36 := Aside0.mk gb36
         have GG36 := Aside0.mk HG36
         clear gb36 gl36 HG36
         have HMgo36 := Aside0.mk (show (P0_2_ go36 ∨ w.heap.size <= go36) from (HO_140002.1.1 _ rfl).1)
         (first | simp only [add_plain] at hx140_0 | skip)
         (first | simp only [add_plain] at hx140_1 | skip)
         (first | simp only [add_plain] at hx145_0 | skip)
         (first | simp only [add_plain] at hx145_1 | skip)
         obtain ⟨ce36, hcl36, hM36, hcc36, hfr36⟩ := R_elem HO_140002.1 z98 (x29_1 : Int) p36 q36
         obtain rfl := k98_openM hM36
         have hx36_0 : World.cell? _ ⟨go36, (x29_1 : Int).toNat * 2, none⟩ = some (.int .i64 ((rd_T98 x140002_1 x29_1).f0)) := hcc36 0 _ rfl
         have hx36_1 : World.cell? _ ⟨go36, (x29_1 : Int).toNat * 2 + 1, none⟩ = some (.int .i64 ((rd_T98 x140002_1 x29_1).f1)) := hcc36 1 _ rfl
         have hf36_0 : World.frozen? _ ⟨go36, (x29_1 : Int).toNat * 2, none⟩ = false := hfr36 0
         have hf36_1 : World.frozen? _ ⟨go36, (x29_1 : Int).toNat * 2 + 1, none⟩ = false := hfr36 1
         (try clear hM36); clear hcl36 hcc36 hfr36
         replace p36 := eq_true p36
         replace q36 := eq_true q36
         obtain ⟨ce45, hcl45, hM45, hcc45, hfr45⟩ := R_elem HO_140002.1 z98 (x29_1 : Int) (OD) (by have h_ : (x29_1 : Int) < ((x140002_1.length : Int) : Int) := OD; first | exact h_ | (have e_ := (R_reads' HO_140002.1).1; omega) | simpa using h_)
         obtain rfl := k98_openM hM45
         have HP45 := (R_seg HO_140002.1 (x29_1 : Int) (OD) (by have h_ : (x29_1 : Int) < ((x140002_1.length : Int) : Int) := OD; first | exact h_ | (have e_ := (R_reads' HO_140002.1).1; omega) | simpa using h_) (seg := [.int .i64 t149, .int .i64 t150]) (j := 0) hcl45 hcc45 (show 2 <= 2 from by decide) (x' := (⟨t149, t150⟩ : S98)) (k98_mkM _ _ _ (⟨t149, t150⟩ : S98) ) (fun _ hk => hk)).1
         rw [<- Ny151.1] at HP45
         have HQ45 := Aside0.mk HP45
         (try clear hM45); clear hcl45 hcc45 hfr45 HP45
         refine hK.out _ _ ⟨(blk_cell BK139.1 0).trans rfl, (blk_cell BK139.1 1).trans rfl, (blk_cell BK139.1 2).trans rfl, (blk_cell BK146.1 0).trans rfl, (blk_cell BK146.1 1).trans rfl⟩ (fun hHeld => ?_)
         clear hK K
         refine norm_ (a' := ?_) ?_ ?_
         rotate_left
         · show Act.put _ (some 52) _ = _
           simp only [Act.put, List.setIfInBounds_toArray, List.set_cons_zero, List.set_cons_succ, i64_w, i32_w]
           rfl
         refine pure_ (i := 5) (N := some 53) (v := ?_) (a' := ?_) #[Yy,Yy,Yy,Yy,Yy,Yy,Zz] rfl rfl (by kernel_rfl) (fun _ _ _ h => h) (Or.inl ⟨by rfl, ?_⟩) ?_ ?_
         rotate_left
         · intro w'
           go_simp
           with_reducible rfl
         rotate_left
         · simp only [Act.put, List.setIfInBounds_toArray, List.set_cons_zero, List.set_cons_succ, i64_w, i32_w]
           rfl
         refine last_ (i := 6) (N := none) #[Yy,Yy,Yy,Yy,Yy,Yy,Yy] rfl rfl (by kernel_rfl) (by decide) (fun K hK => ?_)
         refine skip_ (w1 := ?_) (by rfl) rfl ?_ ?_
         rotate_left
         · go_simp
           rfl
         refine hK.out _ _ ?_
         clear hK K
         refine done_ (by kernel_rfl) ?_
         try go_wp2
         (try simp only [<- hl140002_1])
         go_roundg k1
         case measure => have := HK1.1; omega
         case rel => exact ⟨(wrap64 (x29_1 + 1)), (y151), (x142000_1), (x142001_1), RG, H', ⟨by have := HK1.1; omega⟩, ⟨by (try simp only [hl140002_1]); (with_reducible repeat (first | apply R_alloc | apply R_drewN | apply R_drew)); exact R_mono HQ45.1 (fun _ hk => ⟨hk.1, hk.2.1⟩)⟩, ⟨by (try simp only [hl140002_1]); (with_reducible repeat (first | refine blk_drewN ?_ _ | refine blk_drew ?_ | refine blk_alloc ?_ _)); refine blk_far ?_ (by have h_ := R_ne HO_140002.1 BK139.1 (by decide); intro e_; exact h_ (by rw [e_]; rfl)) _; (with_reducible repeat (first | refine blk_drewN ?_ _ | refine blk_drew ?_ | refine blk_alloc ?_ _)); refine blk_far ?_ (by have h_ := R_ne HO_140002.1 BK139.1 (by decide); intro e_; exact h_ (by rw [e_]; rfl)) _; (with_reducible repeat (first | refine blk_drewN ?_ _ | refine blk_drew ?_ | refine blk_alloc ?_ _)); exact BK139.1⟩, ⟨by (try simp only [hl140002_1]); (with_reducible repeat (first | refine blk_drewN ?_ _ | refine blk_drew ?_ | refine blk_alloc ?_ _)); refine blk_far ?_ (by have h_ := R_away HO_140002.1 (fun _ hk => hk.2.1); intro e_; exact h_ (by rw [e_]; rfl)) _; (with_reducible repeat (first | refine blk_drewN ?_ _ | refine blk_drew ?_ | refine blk_alloc ?_ _)); refine blk_far ?_ (by have h_ := R_away HO_140002.1 (fun _ hk => hk.2.1); intro e_; exact h_ (by rw [e_]; rfl)) _; (with_reducible repeat (first | refine blk_drewN ?_ _ | refine blk_drew ?_ | refine blk_alloc ?_ _)); exact BK141.1⟩, ⟨by repeat (first | (with_reducible first | exact HK.1 | apply Kept.alloc | apply Kept.drewN | apply Kept.drew | refine Kept.setCell ?_ HMgo36.1 _ | refine Kept.setCell ?_ HMgo36.1 _ | refine Kept.setCell ?_ (.inr GW139.1) _ | refine Kept.setCell ?_ (.inr GW141.1) _ | refine Kept.setCell ?_ (.inr GW146.1) _) | exact HK.1)⟩, ⟨BL HB.1⟩⟩
       have c34b0 := beq_eq_false_iff_ne.mpr c34
       have c34b1 := bne_iff_ne.mpr c34
       have H' := Aside0.mk H
       clear H
       have p145 : 0 <= (x29_1 : Int) := OD
       have q145 : x29_1 < (x140002_1.length : Int) := OD
       obtain ⟨ad145, e145, hx145_0, hx145_1⟩ := at_T98 (R_reads' HO_140002.1).2.2 x29_1 p145 q145
       obtain rfl : ad140 = ad145 := (by injection e145)
       replace p145 := eq_true p145
       replace q145 := eq_true q145
       try go_wp2_with (first | ((with_reducible refine gate_dst (N := 8) rfl ?_); refine boxE (cs := #[.int .i64 0, .int .i64 0]) (t := 98) ?_; intro gb146 hg w46 hbox hb; refine E12 (R_below (R_elderB (PR HO_140002.1) gb146 (Nat.le_of_eq hg.symm)) hb) (bB BK139.1 hb) (bB BK141.1 hb) (Kept.below (S := (fun k_ => P0_2_ k_)) (KL HK.1) hb) (bS HB.1 hb) (hbox) ((by rw [hg]; exact (by first | exact HK.1.1 | exact (show Kept w _ (fun k_ => P0_2_ k_) from KL HK.1).1) : w.heap.size <= gb146)) (gwM hg (bZ HB.1) : w0.heap.size <= gb146) (nB BK139.1 hg) (nC BK139.1 hg) (nB BK141.1 hg) (nC BK141.1 hg) ?_; clear HO_140002 BK139 BK141 HK HB; intro HO_140002 BK139 BK141 HK HB BK146 GW146 GE146 NB139_146 NB146_139 NB141_146 NB146_141; clear hb hbox hg; have hnb47 := NB146_139.1; have hnc47 := NB139_146.1; have hnb48 := NB146_141.1; have hnc48 := NB141_146.1; obtain ⟨hcz49_0, hcz49_1, hfz49_0, hfz49_1⟩ := cz2 BK146.1))
       have n_ : (fun w50 : World => (Kd.R k98 98 w50 w0.heap.size (fun k_ => (P0_2_ k_ ∨ w.heap.size <= k_) /\ k_ ≠ gb141 /\ k_ ≠ gb146) (.slice (some ad140) x140002_1.length co20) x140002_1) /\ (w50.heap[gb139]? = some (.cells #[.int .i64 a0_0, .int .i64 a0_1, .slice (some ad140) x140002_1.length co20] 33 (0, 0))) /\ (w50.heap[gb141]? = some (.cells #[.int .i64 x142000_1, .int .i64 x142001_1] 98 (0, 0))) /\ (w50.heap[gb146]? = some (.cells #[.int .i64 ((rd_T98 x140002_1 x29_1).f0), .int .i64 ((rd_T98 x140002_1 x29_1).f1)] 98 (0, 0))) /\ (Kept w w50 (fun k_ => P0_2_ k_)) /\ (Below w0.heap.size w0 w50)) ((w46.setCell ⟨gb146, 0, none⟩ (.int .i64 ((rd_T98 x140002_1 x29_1).f0))).setCell ⟨gb146, 1, none⟩ (.int .i64 ((rd_T98 x140002_1 x29_1).f1))) := ⟨by (with_reducible repeat (first | apply R_alloc | apply R_drewN | apply R_drew)); exact R_mono (RQ gb146 1 (RQ gb146 0 (R_mono HO_140002.1 (fun k_ hk => (⟨hk, hk.2⟩ : _ /\ k_ ≠ gb146))) _) _) (fun _ hk => ⟨hk.1.1.1, ⟨hk.1.1.2, hk.1.2⟩⟩), by (with_reducible repeat (first | refine blk_drewN ?_ _ | refine blk_drew ?_ | refine blk_alloc ?_ _)); refine blk_far ?_ NB139_146.1 _; (with_reducible repeat (first | refine blk_drewN ?_ _ | refine blk_drew ?_ | refine blk_alloc ?_ _)); refine blk_far ?_ NB139_146.1 _; (with_reducible repeat (first | refine blk_drewN ?_ _ | refine blk_drew ?_ | refine blk_alloc ?_ _)); exact BK139.1, by (with_reducible repeat (first | refine blk_drewN ?_ _ | refine blk_drew ?_ | refine blk_alloc ?_ _)); refine blk_far ?_ NB141_146.1 _; (with_reducible repeat (first | refine blk_drewN ?_ _ | refine blk_drew ?_ | refine blk_alloc ?_ _)); refine blk_far ?_ NB141_146.1 _; (with_reducible repeat (first | refine blk_drewN ?_ _ | refine blk_drew ?_ | refine blk_alloc ?_ _)); exact BK141.1, by (with_reducible repeat (first | refine blk_drewN ?_ _ | refine blk_drew ?_ | refine blk_alloc ?_ _)); refine blk_put (cs := #[.int .i64 ((rd_T98 x140002_1 x29_1).f0), .int .i64 0]) ?_ 1 _ rfl; (with_reducible repeat (first | refine blk_drewN ?_ _ | refine blk_drew ?_ | refine blk_alloc ?_ _)); refine blk_put (cs := #[.int .i64 0, .int .i64 0]) ?_ 0 _ rfl; (with_reducible repeat (first | refine blk_drewN ?_ _ | refine blk_drew ?_ | refine blk_alloc ?_ _)); exact BK146.1, KL HK.1, BL HB.1⟩
       (try clear HO_140002)
       (try clear BK139)
       (try clear BK141)
       (try clear BK146)
       (try clear HK)
       (try clear HB)
       generalize ((w46.setCell ⟨gb146, 0, none⟩ (.int .i64 ((rd_T98 x140002_1 x29_1).f0))).setCell ⟨gb146, 1, none⟩ (.int .i64 ((rd_T98 x140002_1 x29_1).f1))) = w50 at n_ ⊢
       obtain ⟨h0_, h1_, h2_, h3_, h4_, h5_⟩ := n_
       refine E6 h0_ h1_ h2_ h3_ h4_ h5_ ?_
       clear h0_ h1_ h2_ h3_ h4_ h5_
       intro HO_140002 BK139 BK141 BK146 HK HB
       refine E6 (R_drew HO_140002.1) (blk_drew BK139.1) (blk_drew BK141.1) (blk_drew BK146.1) (Kept.drew HK.1) (below_drew1 HB.1) ?_
       clear HO_140002 BK139 BK141 BK146 HK HB
       intro HO_140002 BK139 BK141 BK146 HK HB
       have p147 : 0 <= (x29_1 : Int) := OD
       have q147 : x29_1 < (l1.length : Int) := OD
       obtain ⟨ad147, e147, hx147_0⟩ := Kd.at_int (C_kept_now HR1.1 HK.1) x29_1 p147 q147
       have hw147_0 := hx147_0
       cases e147
       replace p147 := eq_true p147
       replace q147 := eq_true q147
       have p148 : 0 <= (a2 : Int) := OD
       have q148 : a2 < (l1.length : Int) := OD
       obtain ⟨ad148, e148, hx148_0⟩ := Kd.at_int (C_kept_now HR1.1 HK.1) a2 p148 q148
       have hw148_0 := hx148_0
       obtain rfl : ad147 = ad148 := (by injection e148)
       replace p148 := eq_true p148
       replace q148 := eq_true q148
       refine start_ (n := 14) (S := fun w' => w'.cell? ⟨gb146, 0, none⟩ = some (.int .i64 ((rd_T98 x140002_1 x29_1).f0)) /\ w'.cell? ⟨gb146, 1, none⟩ = some (.int .i64 ((rd_T98 x140002_1 x29_1).f1)) /\ w'.cell? (ad147.add (x29_1).toNat) = some (.int .i64 (rd l1 x29_1)) /\ w'.cell? (ad147.add (a2).toNat) = some (.int .i64 (rd l1 a2))) (ds := []) #[Zz,Zz,Zz,Zz,Zz,Zz,Zz,Zz,Zz,Zz,Zz,Zz,Zz,Zz] (by kernel_rfl) rfl rfl ⟨(blk_cell BK146.1 0).trans rfl, (blk_cell BK146.1 1).trans rfl, (Kd.foot_int (HR1.1 _ (by repeat (first | exact HK.1 | apply Kept.alloc | apply Kept.drewN | apply Kept.drew))) x29_1 (of_eq_true p147) (of_eq_true q147)), (Kd.foot_int (HR1.1 _ (by repeat (first | exact HK.1 | apply Kept.alloc | apply Kept.drewN | apply Kept.drew))) a2 (of_eq_true p148) (of_eq_true q148))⟩ (fun hHeld => ?_); refine with_tabW spec_flPass.tab9 spec_flPass.bits9 (fun HT_ HW_ => ?_)
       generalize w50.drew = w51 at HO_140002 BK139 BK141 BK146 HK HB hx147_0 hx148_0 hHeld ⊢
       refine pureF 0 (N := some 34) HT_.1 ?_
       refine takeE 1 (N := some 35) HT_.1 HW_.1 hHeld ?_
       refine pureF 2 (N := some 36) HT_.1 ?_
       refine pureF 3 (N := some 37) HT_.1 ?_
       refine pureF 4 (N := some 38) HT_.1 ?_
       refine pureF 5 (N := some 39) HT_.1 ?_
       refine pureF 6 (N := some 40) HT_.1 ?_
       refine pureF 8 (N := some 42) HT_.1 ?_
       refine pureF 9 (N := some 43) HT_.1 ?_
       refine pureF 10 (N := some 44) HT_.1 ?_
       refine takeE 7 (N := some 41) HT_.1 HW_.1 hHeld ?_
       refine takeE 11 (N := some 45) HT_.1 HW_.1 hHeld ?_
       refine pureF 12 (N := some 46) HT_.1 ?_
       refine pureF 13 (N := some 47) HT_.1 ?_
       refine done_ (done_of HT_.1 (by kernel_rfl)) ?_
       try go_wp2
       (try simp only [<- hl140002_1])
       go_roundg k1
       case measure => have := HK1.1; omega
       case rel => exact ⟨(wrap64 (x29_1 + 1)), (x140002_1), (x142000_1), (x142001_1), RG, H', ⟨by have := HK1.1; omega⟩, ⟨by (try simp only [hl140002_1]); (with_reducible repeat (first | apply R_alloc | apply R_drewN | apply R_drew)); exact R_mono HO_140002.1 (fun _ hk => ⟨hk.1, hk.2.1⟩)⟩, ⟨PB1 BK139.1 hl140002_1⟩, ⟨PB1 BK141.1 hl140002_1⟩, ⟨KL HK.1⟩, ⟨BL HB.1⟩⟩
     have c30b0 := beq_eq_false_iff_ne.mpr c30
     have c30b1 := bne_iff_ne.mpr c30
     have H' := Aside0.mk H
     clear H
     have p145 : 0 <= (x29_1 : Int) := OD
     have q145 : x29_1 < (x140002_1.length : Int) := OD
     obtain ⟨ad145, e145, hx145_0, hx145_1⟩ := at_T98 (R_reads' HO_140002.1).2.2 x29_1 p145 q145
     obtain rfl : ad140 = ad145 := (by injection e145)
     replace p145 := eq_true p145
     replace q145 := eq_true q145
     try go_wp2_with (first | ((with_reducible refine gate_dst (N := 8) rfl ?_); refine boxE (cs := #[.int .i64 0, .int .i64 0]) (t := 98) ?_; intro gb146 hg w52 hbox hb; refine E12 (R_below (R_elderB (PR HO_140002.1) gb146 (Nat.le_of_eq hg.symm)) hb) (bB BK139.1 hb) (bB BK141.1 hb) (Kept.below (S := (fun k_ => P0_2_ k_)) (KL HK.1) hb) (bS HB.1 hb) (hbox) ((by rw [hg]; exact (by first | exact HK.1.1 | exact (show Kept w _ (fun k_ => P0_2_ k_) from KL HK.1).1) : w.heap.size <= gb146)) (gwM hg (bZ HB.1) : w0.heap.size <= gb146) (nB BK139.1 hg) (nC BK139.1 hg) (nB BK141.1 hg) (nC BK141.1 hg) ?_; clear HO_140002 BK139 BK141 HK HB; intro HO_140002 BK139 BK141 HK HB BK146 GW146 GE146 NB139_146 NB146_139 NB141_146 NB146_141; clear hb hbox hg; have hnb53 := NB146_139.1; have hnc53 := NB139_146.1; have hnb54 := NB146_141.1; have hnc54 := NB141_146.1; obtain ⟨hcz55_0, hcz55_1, hfz55_0, hfz55_1⟩ := cz2 BK146.1))
     have n_ : (fun w56 : World => (Kd.R k98 98 w56 w0.heap.size (fun k_ => (P0_2_ k_ ∨ w.heap.size <= k_) /\ k_ ≠ gb141 /\ k_ ≠ gb146) (.slice (some ad140) x140002_1.length co20) x140002_1) /\ (w56.heap[gb139]? = some (.cells #[.int .i64 a0_0, .int .i64 a0_1, .slice (some ad140) x140002_1.length co20] 33 (0, 0))) /\ (w56.heap[gb141]? = some (.cells #[.int .i64 x142000_1, .int .i64 x142001_1] 98 (0, 0))) /\ (w56.heap[gb146]? = some (.cells #[.int .i64 ((rd_T98 x140002_1 x29_1).f0), .int .i64 ((rd_T98 x140002_1 x29_1).f1)] 98 (0, 0))) /\ (Kept w w56 (fun k_ => P0_2_ k_)) /\ (Below w0.heap.size w0 w56)) ((w52.setCell ⟨gb146, 0, none⟩ (.int .i64 ((rd_T98 x140002_1 x29_1).f0))).setCell ⟨gb146, 1, none⟩ (.int .i64 ((rd_T98 x140002_1 x29_1).f1))) := ⟨by (with_reducible repeat (first | apply R_alloc | apply R_drewN | apply R_drew)); exact R_mono (RQ gb146 1 (RQ gb146 0 (R_mono HO_140002.1 (fun k_ hk => (⟨hk, hk.2⟩ : _ /\ k_ ≠ gb146))) _) _) (fun _ hk => ⟨hk.1.1.1, ⟨hk.1.1.2, hk.1.2⟩⟩), by (with_reducible repeat (first | refine blk_drewN ?_ _ | refine blk_drew ?_ | refine blk_alloc ?_ _)); refine blk_far ?_ NB139_146.1 _; (with_reducible repeat (first | refine blk_drewN ?_ _ | refine blk_drew ?_ | refine blk_alloc ?_ _)); refine blk_far ?_ NB139_146.1 _; (with_reducible repeat (first | refine blk_drewN ?_ _ | refine blk_drew ?_ | refine blk_alloc ?_ _)); exact BK139.1, by (with_reducible repeat (first | refine blk_drewN ?_ _ | refine blk_drew ?_ | refine blk_alloc ?_ _)); refine blk_far ?_ NB141_146.1 _; (with_reducible repeat (first | refine blk_drewN ?_ _ | refine blk_drew ?_ | refine blk_alloc ?_ _)); refine blk_far ?_ NB141_146.1 _; (with_reducible repeat (first | refine blk_drewN ?_ _ | refine blk_drew ?_ | refine blk_alloc ?_ _)); exact BK141.1, by (with_reducible repeat (first | refine blk_drewN ?_ _ | refine blk_drew ?_ | refine blk_alloc ?_ _)); refine blk_put (cs := #[.int .i64 ((rd_T98 x140002_1 x29_1).f0), .int .i64 0]) ?_ 1 _ rfl; (with_reducible repeat (first | refine blk_drewN ?_ _ | refine blk_drew ?_ | refine blk_alloc ?_ _)); refine blk_put (cs := #[.int .i64 0, .int .i64 0]) ?_ 0 _ rfl; (with_reducible repeat (first | refine blk_drewN ?_ _ | refine blk_drew ?_ | refine blk_alloc ?_ _)); exact BK146.1, KL HK.1, BL HB.1⟩
     (try clear HO_140002)
     (try clear BK139)
     (try clear BK141)
     (try clear BK146)
     (try clear HK)
     (try clear HB)
     generalize ((w52.setCell ⟨gb146, 0, none⟩ (.int .i64 ((rd_T98 x140002_1 x29_1).f0))).setCell ⟨gb146, 1, none⟩ (.int .i64 ((rd_T98 x140002_1 x29_1).f1))) = w56 at n_ ⊢
     obtain ⟨h0_, h1_, h2_, h3_, h4_, h5_⟩ := n_
     refine E6 h0_ h1_ h2_ h3_ h4_ h5_ ?_
     clear h0_ h1_ h2_ h3_ h4_ h5_
     intro HO_140002 BK139 BK141 BK146 HK HB
     refine E6 (R_drew HO_140002.1) (blk_drew BK139.1) (blk_drew BK141.1) (blk_drew BK146.1) (Kept.drew HK.1) (below_drew1 HB.1) ?_
     clear HO_140002 BK139 BK141 BK146 HK HB
     intro HO_140002 BK139 BK141 BK146 HK HB
     refine start_ (n := 14) (S := fun w' => w'.cell? ⟨gb146, 0, none⟩ = some (.int .i64 ((rd_T98 x140002_1 x29_1).f0)) /\ w'.cell? ⟨gb146, 1, none⟩ = some (.int .i64 ((rd_T98 x140002_1 x29_1).f1))) (ds := []) #[Zz,Zz,Zz,Zz,Zz,Zz,Zz,Zz,Zz,Zz,Zz,Zz,Zz,Zz] (by kernel_rfl) rfl rfl ⟨(blk_cell BK146.1 0).trans rfl, (blk_cell BK146.1 1).trans rfl⟩ (fun hHeld => ?_); refine with_tabW spec_flPass.tab9 spec_flPass.bits9 (fun HT_ HW_ => ?_)
     generalize w56.drew = w57 at HO_140002 BK139 BK141 BK146 HK HB hHeld ⊢
     refine pureF 0 (N := some 34) HT_.1 ?_
     refine takeE 1 (N := some 35) HT_.1 HW_.1 hHeld ?_
     refine pureF 2 (N := some 36) HT_.1 ?_
     refine pureF 3 (N := some 37) HT_.1 ?_
     refine pure_ (i := 4) (N := some 38) (v := undef) (a' := ?_) #[Yy,Yy,Yy,Yy,Yy,Zz,Zz,Zz,Zz,Zz,Zz,Zz,Zz,Zz] rfl rfl (any_of HT_.1 (by kernel_rfl)) (fun _ _ _ h => h) (Or.inr ⟨by rfl, rfl⟩) ?_ ?_
     rotate_left
     · simp only [Act.put, List.setIfInBounds_toArray, List.set_cons_zero, List.set_cons_succ, i64_w, i32_w]
       rfl
     refine pure_ (i := 5) (N := some 39) (v := undef) (a' := ?_) #[Yy,Yy,Yy,Yy,Yy,Yy,Zz,Zz,Zz,Zz,Zz,Zz,Zz,Zz] rfl rfl (any_of HT_.1 (by kernel_rfl)) (fun _ _ _ h => h) (Or.inr ⟨by rfl, rfl⟩) ?_ ?_
     rotate_left
     · simp only [Act.put, List.setIfInBounds_toArray, List.set_cons_zero, List.set_cons_succ, i64_w, i32_w]
       rfl
     refine pure_ (i := 6) (N := some 40) (v := undef) (a' := ?_) #[Yy,Yy,Yy,Yy,Yy,Yy,Yy,Zz,Zz,Zz,Zz,Zz,Zz,Zz] rfl rfl (any_of HT_.1 (by kernel_rfl)) (fun _ _ _ h => h) (Or.inr ⟨by rfl, rfl⟩) ?_ ?_
     rotate_left
     · simp only [Act.put, List.setIfInBounds_toArray, List.set_cons_zero, List.set_cons_succ, i64_w, i32_w]
       rfl
     refine pure_ (i := 7) (N := some 41) (v := undef) (a' := ?_) #[Yy,Yy,Yy,Yy,Yy,Yy,Yy,Yy,Zz,Zz,Zz,Zz,Zz,Zz] rfl rfl (any_of HT_.1 (by kernel_rfl)) (fun _ _ _ h => h) (Or.inr ⟨by rfl, rfl⟩) ?_ ?_
     rotate_left
     · simp only [Act.put, List.setIfInBounds_toArray, List.set_cons_zero, List.set_cons_succ, i64_w, i32_w]
       rfl
     refine pure_ (i := 8) (N := some 42) (v := undef) (a' := ?_) #[Yy,Yy,Yy,Yy,Yy,Yy,Yy,Yy,Yy,Zz,Zz,Zz,Zz,Zz] rfl rfl (any_of HT_.1 (by kernel_rfl)) (fun _ _ _ h => h) (Or.inr ⟨by rfl, rfl⟩) ?_ ?_
     rotate_left
     · simp only [Act.put, List.setIfInBounds_toArray, List.set_cons_zero, List.set_cons_succ, i64_w, i32_w]
       rfl
     refine pure_ (i := 9) (N := some 43) (v := undef) (a' := ?_) #[Yy,Yy,Yy,Yy,Yy,Yy,Yy,Yy,Yy,Yy,Zz,Zz,Zz,Zz] rfl rfl (any_of HT_.1 (by kernel_rfl)) (fun _ _ _ h => h) (Or.inr ⟨by rfl, rfl⟩) ?_ ?_
     rotate_left
     · simp only [Act.put, List.setIfInBounds_toArray, List.set_cons_zero, List.set_cons_succ, i64_w, i32_w]
       rfl
     refine pure_ (i := 10) (N := some 44) (v := undef) (a' := ?_) #[Yy,Yy,Yy,Yy,Yy,Yy,Yy,Yy,Yy,Yy,Yy,Zz,Zz,Zz] rfl rfl (any_of HT_.1 (by kernel_rfl)) (fun _ _ _ h => h) (Or.inr ⟨by rfl, rfl⟩) ?_ ?_
     rotate_left
     · simp only [Act.put, List.setIfInBounds_toArray, List.set_cons_zero, List.set_cons_succ, i64_w, i32_w]
       rfl
     refine pure_ (i := 11) (N := some 45) (v := undef) (a' := ?_) #[Yy,Yy,Yy,Yy,Yy,Yy,Yy,Yy,Yy,Yy,Yy,Yy,Zz,Zz] rfl rfl (any_of HT_.1 (by kernel_rfl)) (fun _ _ _ h => h) (Or.inr ⟨by rfl, rfl⟩) ?_ ?_
     rotate_left
     · simp only [Act.put, List.setIfInBounds_toArray, List.set_cons_zero, List.set_cons_succ, i64_w, i32_w]
       rfl
     refine pure_ (i := 12) (N := some 46) (v := undef) (a' := ?_) #[Yy,Yy,Yy,Yy,Yy,Yy,Yy,Yy,Yy,Yy,Yy,Yy,Yy,Zz] rfl rfl (any_of HT_.1 (by kernel_rfl)) (fun _ _ _ h => h) (Or.inr ⟨by rfl, rfl⟩) ?_ ?_
     rotate_left
     · simp only [Act.put, List.setIfInBounds_toArray, List.set_cons_zero, List.set_cons_succ, i64_w, i32_w]
       rfl
     refine pureF 13 (N := some 47) HT_.1 ?_
     refine done_ (done_of HT_.1 (by kernel_rfl)) ?_
     try go_wp2
     (try simp only [<- hl140002_1])
     go_roundg k1
     case measure => have := HK1.1; omega
     case rel => exact ⟨(wrap64 (x29_1 + 1)), (x140002_1), (x142000_1), (x142001_1), RG, H', ⟨by have := HK1.1; omega⟩, ⟨by (try simp only [hl140002_1]); (with_reducible repeat (first | apply R_alloc | apply R_drewN | apply R_drew)); exact R_mono HO_140002.1 (fun _ hk => ⟨hk.1, hk.2.1⟩)⟩, ⟨PB1 BK139.1 hl140002_1⟩, ⟨PB1 BK141.1 hl140002_1⟩, ⟨KL HK.1⟩, ⟨BL HB.1⟩⟩
   rw [hl140002_1] at c27b0
   obtain rfl := Option.some.inj H
   go_wp2
   first | go_end0 | ((try simp only [Exit.inBlock, Exit.then]); refine bodyPost_ret (results_none rfl _ _ _) rfl ?_)
   exact ⟨RF, (by first | exact (RPE (R_mono HO_140002.1 (fun _ hk => hk.1))) | (simp only [hl140002_1]; exact (RPE (R_mono HO_140002.1 (fun _ hk => hk.1))))), BL HB.1, KL HK.1⟩
 have c19b0 := beq_eq_false_iff_ne.mpr c19
 have c19b1 := bne_iff_ne.mpr c19
 obtain rfl := Option.some.inj H
 obtain ⟨Ao58, co58, eo58⟩ := R_slice HO0_2.1
 subst eo58
 go_enter Try.func80, Try.ntmps80
 go_wp2_with (first | ((with_reducible refine gate_dst (N := 3) rfl ?_); refine boxE (cs := #[.int .i64 a0_0, .int .i64 a0_1, .slice Ao58 l0_2.length co58]) (t := 33) ?_; intro gb139 hg w59 hbox hb; refine E6 (rB HO0_2.1 hb) (Kept.below (S := (fun k_ => P0_2_ k_)) (KL HK.1) hb) (bS HB.1 hb) (hbox) ((by rw [hg]; exact (by first | exact HK.1.1 | exact (show Kept w _ (fun k_ => P0_2_ k_) from KL HK.1).1) : w.heap.size <= gb139)) (gwM hg (bZ HB.1) : w0.heap.size <= gb139) ?_; clear HO0_2 HK HB; intro HO0_2 HK HB BK139 GW139 GE139; clear hb hbox hg; obtain ⟨hcz60_0, hcz60_1, hcz60_2, hfz60_0, hfz60_1, hfz60_2⟩ := cz3 BK139.1; have p140 : 0 <= (a2 : Int) := OD; have q140 : a2 < (l0_2.length : Int) := OD; obtain ⟨ad140, e140, hx140_0, hx140_1⟩ := at_T98 (R_reads' HO0_2.1).2.2 a2 p140 q140; cases e140; replace p140 := eq_true p140; replace q140 := eq_true q140) | ((with_reducible refine gate_dst (N := 6) rfl ?_); refine boxE (cs := #[.int .i64 0, .int .i64 0]) (t := 98) ?_; intro gb141 hg w61 hbox hb; refine E9 (R_below (R_elderB (PR HO0_2.1) gb141 (Nat.le_of_eq hg.symm)) hb) (bB BK139.1 hb) (Kept.below (S := (fun k_ => P0_2_ k_)) (KL HK.1) hb) (bS HB.1 hb) (hbox) ((by rw [hg]; exact (by first | exact HK.1.1 | exact (show Kept w _ (fun k_ => P0_2_ k_) from KL HK.1).1) : w.heap.size <= gb141)) (gwM hg (bZ HB.1) : w0.heap.size <= gb141) (nB BK139.1 hg) (nC BK139.1 hg) ?_; clear HO0_2 BK139 HK HB; intro HO0_2 BK139 HK HB BK141 GW141 GE141 NB139_141 NB141_139; clear hb hbox hg; have hnb62 := NB141_139.1; have hnc62 := NB139_141.1; obtain ⟨hcz63_0, hcz63_1, hfz63_0, hfz63_1⟩ := cz2 BK141.1))
 first | go_end0 | ((try simp only [Exit.inBlock, Exit.then]); refine bodyPost_ret (results_none rfl _ _ _) rfl ?_)
 exact ⟨RF, by (with_reducible repeat (first | apply R_alloc | apply R_drewN | apply R_drew)); exact R_mono (RQ gb141 1 (RQ gb141 0 (R_mono HO0_2.1 (fun k_ hk => (⟨hk, hk.2⟩ : _ /\ k_ ≠ gb141))) _) _) (fun _ hk => hk.1.1), BL HB.1, KL HK.1⟩
/-! ### spec_flGo: function 72 -/
open Kd
def spec_flGo.l0 : Nat -> List Int -> Int -> List (List Int) -> Int -> Int -> Int -> Int -> List (S98) -> Int -> Int -> List (S98) -> Option (Int × Int × Int × Int × Int × (List (S98)) × (List (List Int)))
 | 0, _, _, _, _, _, _, _, _, _, _, _ => none
 | k + 1, x1, x2, x10, x11, x12, x153000, x153001, x153002, x161000, x161001, x161002 => if x12 < x153000 then (if x10.length < 5864062014805 then ((some (x10 ++ [(([x12, x2] : List Int))] : List (List Int))).bind fun y164 => ((spec_boAt.f x161000 x161001 x161002 x12 x2).bind fun bt167 => (if bt167.1 = 5 then (some (2, x12, x2, x161000, x161001, x161002, y164)) else ((spec_paGoes.f k bt167.1 bt167.2 x11).bind fun t170 => ((spec_flPass.f k x161000 x161001 x161002 x1 (wrap64 ((wrap64 (x12 * x153001)) + x2))).bind fun t171 => ((spec_l1In.f (wrap64 (x2 + t170)) 0 (wrap64 (x153001 - 1))).bind fun t172 => (if t172 = true then (spec_flGo.l0 k x1 (wrap64 (x2 + t170)) y164 (wrap64 (-t170)) (wrap64 (x12 + 1)) x153000 x153001 x153002 x161000 x161001 t171) else (some (3, x12, wrap64 (x2 + t170), x161000, x161001, t171, y164))))))))) else (none)) else (some (1, x153000, x2, x161000, x161001, x161002, x10))
def spec_flGo.f (k : Nat) (a0_0 : Int) (a0_1 : Int) (l0_2 : List (S98)) (l1 : List Int) (a2 : Int) : Option (Int × Int × Int × Int × Int × (List (S98)) × (List (List Int))) := (spec_boOwn.f a0_0 a0_1 l0_2).bind fun bt155 => (spec_flGo.l0 k l1 a2 ([] : List (List Int)) 0 0 a0_0 a0_1 l0_2 bt155.1 bt155.2.1 bt155.2.2)
theorem spec_flGo.mono_l : ∀ k, (∀ y0 y1 y2 y3 y4 y5 y6 y7 y8 y9 y10, LeO (spec_flGo.l0 k y0 y1 y2 y3 y4 y5 y6 y7 y8 y9 y10) (spec_flGo.l0 (k + 1) y0 y1 y2 y3 y4 y5 y6 y7 y8 y9 y10))
 | 0 => fun _ _ _ _ _ _ _ _ _ _ _ r h => by simp [spec_flGo.l0] at h
 | k + 1 => by
  have ih0 := spec_flGo.mono_l k
  intros
  first | unfold spec_flGo.l0
  exact LM3 ih0 spec_flPass.mono spec_paGoes.mono
theorem spec_flGo.mono : ∀ a0 a1 a2 a3 a4 k, LeO (spec_flGo.f k a0 a1 a2 a3 a4) (spec_flGo.f (k + 1) a0 a1 a2 a3 a4) := by
 intro a0 a1 a2 a3 a4 k
 have ih0 := spec_flGo.mono_l k
 unfold spec_flGo.f
 exact LM3 ih0 spec_flPass.mono spec_paGoes.mono
def spec_flGo.T10 : Bool × List (List Nat × List Nat) := (true, [([], []), ([], []), ([0, 1], [0, 1]), ([], []), ([], []), ([2, 0, 1, 2], [2]), ([3, 5, 0, 1, 2, 3, 5], [3]), ([4, 6, 0, 1, 2, 3, 4, 5, 6], [4])])
def spec_flGo.B10 : List Nat := [0, 0, 3, 0, 0, 7, 47, 127]
theorem spec_flGo.tab10 : rtab .any (opsOf Try.f72 10) = spec_flGo.T10 := by kernel_rfl
theorem spec_flGo.bits10 : waitsOk spec_flGo.T10.2 spec_flGo.B10 = true := by kernel_rfl
def spec_flGo.T16 : Bool × List (List Nat × List Nat) := (true, [([], []), ([], []), ([0, 1], [0, 1]), ([], []), ([], []), ([2, 0, 1, 2], [2]), ([3, 5, 0, 1, 2, 3, 5], [3]), ([4, 6, 0, 1, 2, 3, 4, 5, 6], [4])])
def spec_flGo.B16 : List Nat := [0, 0, 3, 0, 0, 7, 47, 127]
theorem spec_flGo.tab16 : rtab .any (opsOf Try.f72 16) = spec_flGo.T16 := by kernel_rfl
theorem spec_flGo.bits16 : waitsOk spec_flGo.T16.2 spec_flGo.B16 = true := by kernel_rfl
def spec_flGo.T17 : Bool × List (List Nat × List Nat) := (true, [([], []), ([0], [0]), ([], []), ([1, 2], [1, 2]), ([], []), ([], []), ([3, 0, 1, 2, 3], [3]), ([4, 6, 0, 1, 2, 3, 4, 6], [4]), ([5, 7, 0, 1, 2, 3, 4, 5, 6, 7], [5])])
def spec_flGo.B17 : List Nat := [0, 1, 0, 7, 0, 0, 15, 95, 255]
theorem spec_flGo.tab17 : rtab .any (opsOf Try.f72 17) = spec_flGo.T17 := by kernel_rfl
theorem spec_flGo.bits17 : waitsOk spec_flGo.T17.2 spec_flGo.B17 = true := by kernel_rfl
theorem spec_flGo.calls (k : Nat) (a0_0 : Int) (a0_1 : Int) (A0_2 : Option Addr) (c0_2 : Nat) (l0_2 : List (S98)) (A1 : Option Addr) (c1 : Nat) (l1 : List Int) (a2 : Int) (r1 : Int) (r2 : Int) (r3 : Int) (r4 : Int) (r5 : Int) (r6 : List (S98)) (r7 : List (List Int)) (w : World) (hr0_2 : Kd.C k98 w A0_2 l0_2.length l0_2) (hc0_2 : l0_2.length <= c0_2) (hr1 : Kd.C (Kd.int .i64) w A1 l1.length l1) (hc1 : l1.length <= c1) (h : spec_flGo.f k a0_0 a0_1 l0_2 l1 a2 = some (r1, r2, r3, r4, r5, r6, r7)) :
 Calls Try.prog 72 #[.agg #[.int .i64 a0_0, .int .i64 a0_1, .slice A0_2 l0_2.length c0_2], .slice A1 l1.length c1, .int .i64 a2] w fun e w' => ∃ v5_ v6_ : Value, e = .returned (.tuple #[.agg #[.int .i64 r1, .int .i64 r2, .int .i64 r3], .agg #[.int .i64 r4, .int .i64 r5, v5_], v6_]) /\ Kd.R k98 98 w' w.heap.size (fun _ => True) v5_ r6 /\ Kd.S (Kd.slice 3 (Kd.int .i64)) 28 w' w.heap.size (fun _ => True) v6_ r7 /\ Below w.heap.size w w' := by
 have hu33 := Try.underlying33
 have hu61 := Try.underlying61
 have hu98 := Try.underlying98
 have HR0_2 := Aside0.mk hr0_2
 have HC0_2 := Aside0.mk hc0_2
 clear hr0_2 hc0_2
 have HR1 := Aside0.mk hr1
 have HC1 := Aside0.mk hc1
 clear hr1 hc1
 have HB := Aside0.mk (Below.refl w.heap.size w)
 have H := h
 clear h
 unfold spec_flGo.f at H
 replace H := bindA H; obtain ⟨⟨t155, t156, t157⟩, A4, H⟩ := H
 dsimp only at H
 have H' := Aside0.mk H
 clear H
 go_enter Try.func72, Try.ntmps72
 go_wp2_with (first | ((with_reducible refine gate_dst (N := 3) rfl ?_); refine boxE (cs := #[.int .i64 a0_0, .int .i64 a0_1, .slice A0_2 l0_2.length c0_2]) (t := 33) ?_; intro gb152 hg w5 hbox hb; refine E4b HB.1 hg hbox hb ?_; clear HB; intro HB BK152 GW152 GE152; clear hb hbox hg) | ((with_reducible refine gate_dst (N := 6) rfl ?_); refine boxE (cs := #[.int .i64 0, .int .i64 0, .int .i64 0]) (t := 61) ?_; intro gb153 hg w6 hbox hb; refine E7 (bB BK152.1 hb) (bS HB.1 hb) (hbox) (gX HB.1 hg) (gX HB.1 hg) (nB BK152.1 hg) (nC BK152.1 hg) ?_; clear BK152 HB; intro BK152 HB BK153 GW153 GE153 NB152_153 NB153_152; clear hb hbox hg) | ((with_reducible refine gate_dst (N := 7) rfl ?_); refine boxE (cs := #[.int .i64 0, .int .i64 0, .slice none 0 0]) (t := 33) ?_; intro gb154 hg w7 hbox hb; refine E10 (bB BK152.1 hb) (bB BK153.1 hb) (bS HB.1 hb) (hbox) (gX HB.1 hg) (gX HB.1 hg) (nB BK152.1 hg) (nC BK152.1 hg) (nB BK153.1 hg) (nC BK153.1 hg) ?_; clear BK152 BK153 HB; intro BK152 BK153 HB BK154 GW154 GE154 NB152_154 NB154_152 NB153_154 NB154_153; clear hb hbox hg; have hnb8 := NB152_153.1; have hnc8 := NB153_152.1; have hnb9 := NB152_154.1; have hnc9 := NB154_152.1; obtain ⟨hcz10_0, hcz10_1, hcz10_2, hfz10_0, hfz10_1, hfz10_2⟩ := cz3 BK152.1) | ((with_reducible refine gate_callee (f := 47) rfl ?_); refine goesM (N := (some 16)) #[.agg #[.int .i64 a0_0, .int .i64 a0_1, .slice A0_2 l0_2.length c0_2]] Try.func47 ?_; (with_reducible refine (spec_boOwn.calls a0_0 a0_1 _ _ l0_2 t155 t156 t157 _ ?side1 ?side2 A4.1).mono ?_); (case side1 => exact CB (C_below HR0_2.1 HB.1)); (case side2 => exact HC0_2.1); rintro e w11 ⟨v158, rfl, ho0, hb⟩; refine ⟨_, rfl, ?_⟩; refine E5 (R_lower ho0 (bZ HB.1)) (bB BK152.1 hb) (bB BK153.1 hb) (bB BK154.1 hb) (bS HB.1 hb) ?_; clear BK152 BK153 BK154 HB; intro HO159 BK152 BK153 BK154 HB; (try clear hb); (try clear ho0)) | ((with_reducible refine gate_dst (N := 9) rfl ?_); refine boxE (cs := #[.int .i64 0, .int .i64 0, .slice none 0 0]) (t := 33) ?_; intro gb160 hg w12 hbox hb; refine E14 (rB HO159.1 hb) (bB BK152.1 hb) (bB BK153.1 hb) (bB BK154.1 hb) (bS HB.1 hb) (hbox) (gX HB.1 hg) (gX HB.1 hg) (nB BK152.1 hg) (nC BK152.1 hg) (nB BK153.1 hg) (nC BK153.1 hg) (nB BK154.1 hg) (nC BK154.1 hg) ?_; clear HO159 BK152 BK153 BK154 HB; intro HO159 BK152 BK153 BK154 HB BK160 GW160 GE160 NB152_160 NB160_152 NB153_160 NB160_153 NB154_160 NB160_154; clear hb hbox hg; have hnb13 := NB160_152.1; have hnc13 := NB152_160.1; have hnb14 := NB160_153.1; have hnc14 := NB153_160.1; have hnb15 := NB160_154.1; have hnc15 := NB154_160.1; obtain ⟨hcz16_0, hcz16_1, hcz16_2, hfz16_0, hfz16_1, hfz16_2⟩ := cz3 BK160.1; obtain ⟨Ao17, co17, eo17⟩ := R_slice HO159.1; subst eo17))
 go_loopg [2, 10, 11, 12] k (fun kq v2 v10 v11 v12 w' => ∃ (x2_1 : Int) (x10_1 : List (List Int)) (x11_1 : Int) (x12_1 : Int) (x154000_1 : Int) (x154001_1 : Int) (x154002_1 : Int) (x155000_1 : Int) (x155001_1 : Int) (x161002_1 : List (S98)) (u161002 : Value), v2 = .int .i64 x2_1 /\ v11 = .int .i64 x11_1 /\ v12 = .int .i64 x12_1 /\ Aside0 (spec_flGo.l0 kq l1 x2_1 x10_1 x11_1 x12_1 a0_0 a0_1 l0_2 t155 t156 x161002_1 = some (r1, r2, r3, r4, r5, r6, r7)) /\ Aside0 (kq <= k) /\ Aside0 (Kd.S (Kd.slice 3 (Kd.int .i64)) 28 w' w.heap.size (fun _ => True) v10 x10_1) /\ Aside0 (Kd.R k98 98 w' w.heap.size (fun _ => True) u161002 x161002_1) /\ Aside0 (w'.heap[gb152]? = some (.cells #[.int .i64 a0_0, .int .i64 a0_1, (.slice A0_2 l0_2.length c0_2)] 33 (0, 0))) /\ Aside0 (w'.heap[gb153]? = some (.cells #[.int .i64 x154000_1, .int .i64 x154001_1, .int .i64 x154002_1] 61 (0, 0))) /\ Aside0 (w'.heap[gb154]? = some (.cells #[.int .i64 x155000_1, .int .i64 x155001_1, (.slice none 0 0)] 33 (0, 0))) /\ Aside0 (w'.heap[gb160]? = some (.cells #[.int .i64 t155, .int .i64 t156, u161002] 33 (0, 0))) /\ Aside0 (Below w.heap.size w w'))
 case atStart => exact ⟨(a2), (([] : List (List Int))), (0), (0), (0), (0), (0), (0), (0), (t157), (.slice Ao17 t157.length co17), RG, RG, RG, H', ⟨Nat.le_refl _⟩, ⟨by first | exact S_nil _ _ _ _ _ | exact N_nil _ _ _ _ _ | exact V_nil _ _ _ _ _ | exact Q_nil _ _ _ _ _ | exact R_nil _ _ _ _ _⟩, ⟨by (with_reducible repeat (first | apply R_alloc | apply R_drewN | apply R_drew)); exact R_mono (RQ gb160 2 (RQ gb160 1 (RQ gb160 0 (R_types HO159.1 BK160.1 (by decide)) _) _) _) (fun _ hk => trivial)⟩, ⟨by (with_reducible repeat (first | refine blk_drewN ?_ _ | refine blk_drew ?_ | refine blk_alloc ?_ _)); refine blk_far ?_ NB152_160.1 _; (with_reducible repeat (first | refine blk_drewN ?_ _ | refine blk_drew ?_ | refine blk_alloc ?_ _)); refine blk_far ?_ NB152_160.1 _; (with_reducible repeat (first | refine blk_drewN ?_ _ | refine blk_drew ?_ | refine blk_alloc ?_ _)); refine blk_far ?_ NB152_160.1 _; (with_reducible repeat (first | refine blk_drewN ?_ _ | refine blk_drew ?_ | refine blk_alloc ?_ _)); exact BK152.1⟩, ⟨by (with_reducible repeat (first | refine blk_drewN ?_ _ | refine blk_drew ?_ | refine blk_alloc ?_ _)); refine blk_far ?_ NB153_160.1 _; (with_reducible repeat (first | refine blk_drewN ?_ _ | refine blk_drew ?_ | refine blk_alloc ?_ _)); refine blk_far ?_ NB153_160.1 _; (with_reducible repeat (first | refine blk_drewN ?_ _ | refine blk_drew ?_ | refine blk_alloc ?_ _)); refine blk_far ?_ NB153_160.1 _; (with_reducible repeat (first | refine blk_drewN ?_ _ | refine blk_drew ?_ | refine blk_alloc ?_ _)); exact BK153.1⟩, ⟨by (with_reducible repeat (first | refine blk_drewN ?_ _ | refine blk_drew ?_ | refine blk_alloc ?_ _)); refine blk_far ?_ NB154_160.1 _; (with_reducible repeat (first | refine blk_drewN ?_ _ | refine blk_drew ?_ | refine blk_alloc ?_ _)); refine blk_far ?_ NB154_160.1 _; (with_reducible repeat (first | refine blk_drewN ?_ _ | refine blk_drew ?_ | refine blk_alloc ?_ _)); refine blk_far ?_ NB154_160.1 _; (with_reducible repeat (first | refine blk_drewN ?_ _ | refine blk_drew ?_ | refine blk_alloc ?_ _)); exact BK154.1⟩, ⟨by (with_reducible repeat (first | refine blk_drewN ?_ _ | refine blk_drew ?_ | refine blk_alloc ?_ _)); refine blk_put (cs := #[.int .i64 t155, .int .i64 t156, .slice none 0 0]) ?_ 2 _ rfl; (with_reducible repeat (first | refine blk_drewN ?_ _ | refine blk_drew ?_ | refine blk_alloc ?_ _)); refine blk_put (cs := #[.int .i64 t155, .int .i64 0, .slice none 0 0]) ?_ 1 _ rfl; (with_reducible repeat (first | refine blk_drewN ?_ _ | refine blk_drew ?_ | refine blk_alloc ?_ _)); refine blk_put (cs := #[.int .i64 0, .int .i64 0, .slice none 0 0]) ?_ 0 _ rfl; (with_reducible repeat (first | refine blk_drewN ?_ _ | refine blk_drew ?_ | refine blk_alloc ?_ _)); exact BK160.1⟩, ⟨BL HB.1⟩⟩
 clear H'
 try clear c1; clear hcz10_0 hcz10_1 hcz10_2 hcz16_0 hcz16_1 hcz16_2 hfz10_0 hfz10_1 hfz10_2 hfz16_0 hfz16_1 hfz16_2
 obtain ⟨x2_1, x10_1, x11_1, x12_1, x154000_1, x154001_1, x154002_1, x155000_1, x155001_1, x161002_1, u161002, rfl, rfl, rfl, HA, HK1, HO_10, HO_161002, BK152, BK153, BK154, BK160, HB⟩ := hrel
 cases gk with
 | zero => exact absurd HA.1 (by simp [spec_flGo.l0])
 | succ k1 => ?_
 have H := HA.1
 clear HA
 simp only [spec_flGo.l0] at H
 replace H := ifB H; rcases H with ⟨c18b0, H⟩ | ⟨c18b0, H⟩
 · generalize hy161 : ((([x12_1, x2_1] : List Int)) : List Int) = y161 at H
   have Ny161 := Aside0.mk hy161.symm; clear hy161
   replace H := ifP H; obtain ⟨c19, H⟩ := H
   have LMc19 := Aside0.mk c19
   clear c19
   replace H := nameB H; obtain ⟨y164, Ny164, H⟩ := H
   replace H := bindA H; obtain ⟨⟨t167, t168⟩, A20, H⟩ := H
   dsimp only at H
   replace H := ifQ H; rcases H with ⟨c21, H⟩ | ⟨c21, H⟩
   · have c21b0 := beq_iff_eq.mpr c21
     have c21b1 := bne_eq_false_iff_eq.mpr c21
     clear c21
     simp only [Option.some.injEq, Prod.mk.injEq] at H
     obtain ⟨rfl, rfl, rfl, rfl, rfl, rfl, rfl⟩ := H
     obtain ⟨hcz25_0, hcz25_1, hcz25_2, hfz25_0, hfz25_1, hfz25_2⟩ := cz3 BK152.1
     try go_wp2_with (first | ((with_reducible refine gate_dst (N := 26) rfl ?_); refine R_lit (Kd.int .i64) _ 3 ?hg (N := 26) ?hd (xs := ([x12_1, x2_1] : List Int)) (inner := [.int .i64 x12_1, .int .i64 x2_1]) (ok := fun _ => True) (okp := fun _ => True) ?hr ?hp (fun _ hk => hk) trivial (Below.refl _ _) (Nat.le_refl _) (by simp) ?_; (case hd => rfl); (case hg => rfl); (case hr => first | (go_simp; done) | (go_simp; rfl)); (case hp => exact (Reps.one (show Kd.M (Kd.int .i64) _ _ _ x12_1 [.int .i64 x12_1] from rfl) (Reps.one (show Kd.M (Kd.int .i64) _ _ _ x2_1 [.int .i64 x2_1] from rfl) (Reps.none _ _)))); intro v162 w26 ho27 hb hg_ hnew_; clear hg_ hnew_; (first | rw [<- Ny161.1] at ho27 | (simp only [Int.reduceToNat] at ho27; rw [<- Ny161.1] at ho27)); refine E8 (S_elder' (PS HO_10.1) (R_base ho27) hb) (rB HO_161002.1 hb) (R_lower ho27 (bZ HB.1)) (bB BK152.1 hb) (bB BK153.1 hb) (bB BK154.1 hb) (bB BK160.1 hb) (bS HB.1 hb) ?_; clear HO_10 HO_161002 BK152 BK153 BK154 BK160 HB; intro HO_10 HO_161002 HO163 BK152 BK153 BK154 BK160 HB; clear hb ho27; obtain ⟨Ao29, co29, eo29⟩ := R_slice HO163.1; subst eo29) | ((with_reducible refine gate_builtin (b := .append) (xs := #[.tmp 23, .tmp 27]) rfl ?_); at_builtin; refine S_append (Kd.slice 3 (Kd.int .i64)) (w0 := w) w.heap.size rfl (.tmp 23) (.tmp 27) 106 28 (.slice none 0 0) 24 rfl Try.underlying106 info28 rfl (by decide) (by omega) u10 x10_1 y161 [.slice Ao29 y161.length co29] (fun _ => True) (fun k_ => some k_ = (.slice Ao29 y161.length co29 : Value).ownBlock) rfl rfl ?aP (fun k_ hk_ => ((R_mono (ok' := fun k_ => ((fun _ => True)) k_ /\ some k_ ≠ (u10 : Value).ownBlock) (R_apart' (HO163.1) (S_typed HO_10.1) (by decide)) (fun k_ hk => ⟨trivial, hk.2⟩))).1 k_ hk_.symm) ?aF ?aO ?aB ?aS ?aL ?_; (case aP => exact M_row (R_mono (R_tight rfl (R_mono (ok' := fun k_ => ((fun _ => True)) k_ /\ some k_ ≠ (u10 : Value).ownBlock) (R_apart' (HO163.1) (S_typed HO_10.1) (by decide)) (fun k_ hk => ⟨trivial, hk.2⟩))) (fun _ h_ => h_))); (case aB => exact (BL HB.1)); (case aF => exact (fun _ _ => trivial)); (case aO => exact (SPE (S_mono HO_10.1 (fun k_ hk => ⟨trivial, fun e_ => hk.2 e_⟩)))); (case aS => exact (bZ HB.1)); (case aL => have := LMc19.1; omega); intro v165 w28 ho hb hg hat; rw [<- Ny164.1] at ho; refine E7 (R_over' (PR HO_161002.1) (S_typed (PS HO_10.1)) (by decide) hg) (bG BK152.1 hg (S_ne HO_10.1 BK152.1 (by decide))) (bG BK153.1 hg (S_ne HO_10.1 BK153.1 (by decide))) (bG BK154.1 hg (S_ne HO_10.1 BK154.1 (by decide))) (bG BK160.1 hg (S_ne HO_10.1 BK160.1 (by decide))) (hb) (ho) ?_; clear HO_161002 BK152 BK153 BK154 BK160 HB HO_10 HO163; intro HO_161002 BK152 BK153 BK154 BK160 HB HO166; clear ho hb hg hat; have hnb30 := NB160_153.1; have hnc30 := NB153_160.1; have hnb31 := NB160_154.1; have hnc31 := NB154_160.1; obtain ⟨hcz32_0, hcz32_1, hcz32_2, hfz32_0, hfz32_1, hfz32_2⟩ := cz3 BK160.1; obtain ⟨Ao33, co33, eo33⟩ := R_slice HO_161002.1; subst eo33) | ((with_reducible refine gate_callee (f := 78) rfl ?_); refine goesM (N := (some 32)) #[.agg #[.int .i64 t155, .int .i64 t156, .slice Ao33 x161002_1.length co33], .int .i64 x12_1, .int .i64 x2_1] Try.func78 ?_; (with_reducible refine (spec_boAt.calls t155 t156 _ _ x161002_1 x12_1 x2_1 t167 t168 _ ?side1 ?side2 A20.1).mono ?_); (case side1 => exact CB (R_reads' HO_161002.1).2.2); (case side2 => exact (R_reads' HO_161002.1).2.1); rintro e w34 ⟨rfl, hb⟩; refine ⟨_, rfl, ?_⟩; refine E7 (rB HO_161002.1 hb) (sB HO166.1 hb) (bB BK152.1 hb) (bB BK153.1 hb) (bB BK154.1 hb) (bB BK160.1 hb) (bS HB.1 hb) ?_; clear HO_161002 HO166 BK152 BK153 BK154 BK160 HB; intro HO_161002 HO166 BK152 BK153 BK154 BK160 HB; (try clear hb)) | ((with_reducible refine gate_dst (N := 13) rfl ?_); refine boxE (cs := #[.int .i64 0, .int .i64 0]) (t := 98) ?_; intro gb169 hg w35 hbox hb; refine E18 (R_below (R_elderB (PR HO_161002.1) gb169 (Nat.le_of_eq hg.symm)) hb) (sB HO166.1 hb) (bB BK152.1 hb) (bB BK153.1 hb) (bB BK154.1 hb) (bB BK160.1 hb) (bS HB.1 hb) (hbox) (gX HB.1 hg) (gX HB.1 hg) (nB BK152.1 hg) (nC BK152.1 hg) (nB BK153.1 hg) (nC BK153.1 hg) (nB BK154.1 hg) (nC BK154.1 hg) (nB BK160.1 hg) (nC BK160.1 hg) ?_; clear HO_161002 HO166 BK152 BK153 BK154 BK160 HB; intro HO_161002 HO166 BK152 BK153 BK154 BK160 HB BK169 GW169 GE169 NB152_169 NB169_152 NB153_169 NB169_153 NB154_169 NB169_154 NB160_169 NB169_160; clear hb hbox hg; have hnb36 := NB169_152.1; have hnc36 := NB152_169.1; have hnb37 := NB169_153.1; have hnc37 := NB153_169.1; have hnb38 := NB169_154.1; have hnc38 := NB154_169.1; have hnb39 := NB169_160.1; have hnc39 := NB160_169.1; obtain ⟨hcz40_0, hcz40_1, hfz40_0, hfz40_1⟩ := cz2 BK169.1))
     have n_ : (fun w41 : World => (Kd.R k98 98 w41 w.heap.size (fun k_ => k_ ≠ gb169) (.slice Ao33 x161002_1.length co33) x161002_1) /\ (Kd.S (Kd.slice 3 (Kd.int .i64)) 28 w41 w.heap.size (fun _ => True) v165 y164) /\ (w41.heap[gb152]? = some (.cells #[.int .i64 a0_0, .int .i64 a0_1, .slice A0_2 l0_2.length c0_2] 33 (0, 0))) /\ (w41.heap[gb153]? = some (.cells #[.int .i64 x154000_1, .int .i64 x154001_1, .int .i64 x154002_1] 61 (0, 0))) /\ (w41.heap[gb154]? = some (.cells #[.int .i64 x155000_1, .int .i64 x155001_1, .slice none 0 0] 33 (0, 0))) /\ (w41.heap[gb160]? = some (.cells #[.int .i64 t155, .int .i64 t156, .slice Ao33 x161002_1.length co33] 33 (0, 0))) /\ (w41.heap[gb169]? = some (.cells #[.int .i64 t167, .int .i64 t168] 98 (0, 0))) /\ (Below w.heap.size w w41)) ((w35.setCell ⟨gb169, 0, none⟩ (.int .i64 t167)).setCell ⟨gb169, 1, none⟩ (.int .i64 t168)) := ⟨by (with_reducible repeat (first | apply R_alloc | apply R_drewN | apply R_drew)); exact R_mono (RQ gb169 1 (RQ gb169 0 (R_mono HO_161002.1 (fun k_ hk => (⟨hk, hk.2⟩ : _ /\ k_ ≠ gb169))) _) _) (fun _ hk => hk.1.2), by (with_reducible repeat (first | apply S_alloc | apply S_drewN | apply S_drew)); exact S_mono (SQ gb169 1 (SQ gb169 0 (S_types HO166.1 BK169.1 (by decide)) _) _) (fun _ hk => trivial), by (with_reducible repeat (first | refine blk_drewN ?_ _ | refine blk_drew ?_ | refine blk_alloc ?_ _)); refine blk_far ?_ NB152_169.1 _; (with_reducible repeat (first | refine blk_drewN ?_ _ | refine blk_drew ?_ | refine blk_alloc ?_ _)); refine blk_far ?_ NB152_169.1 _; (with_reducible repeat (first | refine blk_drewN ?_ _ | refine blk_drew ?_ | refine blk_alloc ?_ _)); exact BK152.1, by (with_reducible repeat (first | refine blk_drewN ?_ _ | refine blk_drew ?_ | refine blk_alloc ?_ _)); refine blk_far ?_ NB153_169.1 _; (with_reducible repeat (first | refine blk_drewN ?_ _ | refine blk_drew ?_ | refine blk_alloc ?_ _)); refine blk_far ?_ NB153_169.1 _; (with_reducible repeat (first | refine blk_drewN ?_ _ | refine blk_drew ?_ | refine blk_alloc ?_ _)); exact BK153.1, by (with_reducible repeat (first | refine blk_drewN ?_ _ | refine blk_drew ?_ | refine blk_alloc ?_ _)); refine blk_far ?_ NB154_169.1 _; (with_reducible repeat (first | refine blk_drewN ?_ _ | refine blk_drew ?_ | refine blk_alloc ?_ _)); refine blk_far ?_ NB154_169.1 _; (with_reducible repeat (first | refine blk_drewN ?_ _ | refine blk_drew ?_ | refine blk_alloc ?_ _)); exact BK154.1, by (with_reducible repeat (first | refine blk_drewN ?_ _ | refine blk_drew ?_ | refine blk_alloc ?_ _)); refine blk_far ?_ NB160_169.1 _; (with_reducible repeat (first | refine blk_drewN ?_ _ | refine blk_drew ?_ | refine blk_alloc ?_ _)); refine blk_far ?_ NB160_169.1 _; (with_reducible repeat (first | refine blk_drewN ?_ _ | refine blk_drew ?_ | refine blk_alloc ?_ _)); exact BK160.1, by (with_reducible repeat (first | refine blk_drewN ?_ _ | refine blk_drew ?_ | refine blk_alloc ?_ _)); refine blk_put (cs := #[.int .i64 t167, .int .i64 0]) ?_ 1 _ rfl; (with_reducible repeat (first | refine blk_drewN ?_ _ | refine blk_drew ?_ | refine blk_alloc ?_ _)); refine blk_put (cs := #[.int .i64 0, .int .i64 0]) ?_ 0 _ rfl; (with_reducible repeat (first | refine blk_drewN ?_ _ | refine blk_drew ?_ | refine blk_alloc ?_ _)); exact BK169.1, BL HB.1⟩
     (try clear HO_161002)
     (try clear HO166)
     (try clear BK152)
     (try clear BK153)
     (try clear BK154)
     (try clear BK160)
     (try clear BK169)
     (try clear HB)
     generalize ((w35.setCell ⟨gb169, 0, none⟩ (.int .i64 t167)).setCell ⟨gb169, 1, none⟩ (.int .i64 t168)) = w41 at n_ ⊢
     obtain ⟨h0_, h1_, h2_, h3_, h4_, h5_, h6_, h7_⟩ := n_
     refine E8 h0_ h1_ h2_ h3_ h4_ h5_ h6_ h7_ ?_
     clear h0_ h1_ h2_ h3_ h4_ h5_ h6_ h7_
     intro HO_161002 HO166 BK152 BK153 BK154 BK160 BK169 HB
     refine E8 (R_drew HO_161002.1) (S_drew HO166.1) (blk_drew BK152.1) (blk_drew BK153.1) (blk_drew BK154.1) (blk_drew BK160.1) (blk_drew BK169.1) (below_drew1 HB.1) ?_
     clear HO_161002 HO166 BK152 BK153 BK154 BK160 BK169 HB
     intro HO_161002 HO166 BK152 BK153 BK154 BK160 BK169 HB
     refine start_ (n := 8) (S := fun w' => w'.cell? ⟨gb160, 0, none⟩ = some (.int .i64 t155) /\ w'.cell? ⟨gb160, 1, none⟩ = some (.int .i64 t156) /\ w'.cell? ⟨gb160, 2, none⟩ = some (.slice Ao33 x161002_1.length co33)) (ds := []) #[Zz,Zz,Zz,Zz,Zz,Zz,Zz,Zz] (by kernel_rfl) rfl rfl ⟨(blk_cell BK160.1 0).trans rfl, (blk_cell BK160.1 1).trans rfl, (blk_cell BK160.1 2).trans rfl⟩ (fun hHeld => ?_); refine with_tabW spec_flGo.tab10 spec_flGo.bits10 (fun HT_ HW_ => ?_)
     generalize w41.drew = w42 at HO_161002 HO166 BK152 BK153 BK154 BK160 BK169 HB hHeld ⊢
     refine pureF 0 (N := some 36) HT_.1 ?_
     refine pureF 1 (N := some 37) HT_.1 ?_
     refine pureF 2 (N := some 38) HT_.1 ?_
     refine pureF 4 (N := some 40) HT_.1 ?_
     refine takeE 3 (N := some 39) HT_.1 HW_.1 hHeld ?_
     refine one_ (i := 5) (N := none) #[Yy,Yy,Yy,Yy,Yy,Yy,Zz,Zz] rfl rfl (one_of HT_.1 (by kernel_rfl)) (by decide) (fun K hK => ?_)
     obtain ⟨hs43, hs44, hs45, hfs43, hfs44, hfs45⟩ := cz3 BK153.1
     have hns43_2 := NB154_153.1
     have hms43_2 := NB153_154.1
     refine skip_ (w1 := ?_) (by rfl) rfl ?_ ?_
     rotate_left
     · go_simp
       rfl
     refine hK.out _ _ ⟨(CF3 NB160_153.1 hHeld.1), (CF3 NB160_153.1 hHeld.2.1), (CF3 NB160_153.1 hHeld.2.2)⟩ (fun hHeld => ?_)
     clear hK K
     refine one_ (i := 6) (N := none) #[Yy,Yy,Yy,Yy,Yy,Yy,Yy,Zz] rfl rfl (one_of HT_.1 (by kernel_rfl)) (by decide) (fun K hK => ?_)
     obtain ⟨hs46, hs47, hs48, hfs46, hfs47, hfs48⟩ := cz3 BK154.1
     refine skip_ (w1 := ?_) (by rfl) rfl ?_ ?_
     rotate_left
     · go_simp
       rfl
     refine hK.out _ _ ⟨(CF3 NB160_154.1 hHeld.1), (CF3 NB160_154.1 hHeld.2.1), (CF3 NB160_154.1 hHeld.2.2)⟩ (fun hHeld => ?_)
     clear hK K
     refine pureF 7 (N := some 8) HT_.1 ?_
     refine done_ (done_of HT_.1 (by kernel_rfl)) ?_
     try go_wp2
     refine bodyPost_ret (results_list (rs := [.cell 6 61, .cell 7 33, .tmp 8]) rfl (by simp) (.cell gb153 61 #[.int .i64 2, .int .i64 x12_1, .int .i64 x2_1] (0, 0) _ rfl (PF1 NB153_154.1 BK153.1) Try.underlying61 rfl (by kernel_rfl) (.cell gb154 33 #[.int .i64 t155, .int .i64 t156, .slice Ao33 x161002_1.length co33] (0, 0) _ rfl (PF1 NB154_153.1 BK154.1) Try.underlying33 rfl (by kernel_rfl) (.tmp .nil)))) rfl ?_
     exact ⟨_, _, RF, by (with_reducible repeat (first | apply R_alloc | apply R_drewN | apply R_drew)); exact R_mono (RQ gb154 2 (RQ gb154 1 (RQ gb154 0 (R_far (p := ⟨gb153, 2, none⟩) (R_far (p := ⟨gb153, 1, none⟩) (R_far (p := ⟨gb153, 0, none⟩) (R_types (R_types HO_161002.1 BK153.1 (by decide)) BK154.1 (by decide)) (fun _ hk => hk.1.2) (.int .i64 2)) (fun _ hk => hk.1.2) (.int .i64 x12_1)) (fun _ hk => hk.1.2) (.int .i64 x2_1)) _) _) _) (fun _ hk => trivial), by (with_reducible repeat (first | apply S_alloc | apply S_drewN | apply S_drew)); exact S_mono (SQ gb154 2 (SQ gb154 1 (SQ gb154 0 (S_far (p := ⟨gb153, 2, none⟩) (S_far (p := ⟨gb153, 1, none⟩) (S_far (p := ⟨gb153, 0, none⟩) (S_types (S_types HO166.1 BK153.1 (by decide)) BK154.1 (by decide)) (fun _ hk => hk.1.2) (.int .i64 2)) (fun _ hk => hk.1.2) (.int .i64 x12_1)) (fun _ hk => hk.1.2) (.int .i64 x2_1)) _) _) _) (fun _ hk => trivial), BL HB.1⟩
   have c21b0 := beq_eq_false_iff_ne.mpr c21
   have c21b1 := bne_iff_ne.mpr c21
   replace H := bindA H; obtain ⟨t170, A49, H⟩ := H
   replace H := bindA H; obtain ⟨t171, A50, H⟩ := H
   replace H := bindA H; obtain ⟨t172, A51, H⟩ := H
   replace H := ifX H; rcases H with ⟨rfl, H⟩ | ⟨rfl, H⟩
   · have H' := Aside0.mk H
     clear H
     obtain ⟨hcz56_0, hcz56_1, hcz56_2, hfz56_0, hfz56_1, hfz56_2⟩ := cz3 BK152.1
     go_wp2_with (first | ((with_reducible refine gate_dst (N := 26) rfl ?_); refine R_lit (Kd.int .i64) _ 3 ?hg (N := 26) ?hd (xs := ([x12_1, x2_1] : List Int)) (inner := [.int .i64 x12_1, .int .i64 x2_1]) (ok := fun _ => True) (okp := fun _ => True) ?hr ?hp (fun _ hk => hk) trivial (Below.refl _ _) (Nat.le_refl _) (by simp) ?_; (case hd => rfl); (case hg => rfl); (case hr => first | (go_simp; done) | (go_simp; rfl)); (case hp => exact (Reps.one (show Kd.M (Kd.int .i64) _ _ _ x12_1 [.int .i64 x12_1] from rfl) (Reps.one (show Kd.M (Kd.int .i64) _ _ _ x2_1 [.int .i64 x2_1] from rfl) (Reps.none _ _)))); intro v162 w57 ho58 hb hg_ hnew_; clear hg_ hnew_; (first | rw [<- Ny161.1] at ho58 | (simp only [Int.reduceToNat] at ho58; rw [<- Ny161.1] at ho58)); refine E8 (S_elder' (PS HO_10.1) (R_base ho58) hb) (rB HO_161002.1 hb) (R_lower ho58 (bZ HB.1)) (bB BK152.1 hb) (bB BK153.1 hb) (bB BK154.1 hb) (bB BK160.1 hb) (bS HB.1 hb) ?_; clear HO_10 HO_161002 BK152 BK153 BK154 BK160 HB; intro HO_10 HO_161002 HO163 BK152 BK153 BK154 BK160 HB; clear hb ho58; obtain ⟨Ao60, co60, eo60⟩ := R_slice HO163.1; subst eo60) | ((with_reducible refine gate_builtin (b := .append) (xs := #[.tmp 23, .tmp 27]) rfl ?_); at_builtin; refine S_append (Kd.slice 3 (Kd.int .i64)) (w0 := w) w.heap.size rfl (.tmp 23) (.tmp 27) 106 28 (.slice none 0 0) 24 rfl Try.underlying106 info28 rfl (by decide) (by omega) u10 x10_1 y161 [.slice Ao60 y161.length co60] (fun _ => True) (fun k_ => some k_ = (.slice Ao60 y161.length co60 : Value).ownBlock) rfl rfl ?aP (fun k_ hk_ => ((R_mono (ok' := fun k_ => ((fun _ => True)) k_ /\ some k_ ≠ (u10 : Value).ownBlock) (R_apart' (HO163.1) (S_typed HO_10.1) (by decide)) (fun k_ hk => ⟨trivial, hk.2⟩))).1 k_ hk_.symm) ?aF ?aO ?aB ?aS ?aL ?_; (case aP => exact M_row (R_mono (R_tight rfl (R_mono (ok' := fun k_ => ((fun _ => True)) k_ /\ some k_ ≠ (u10 : Value).ownBlock) (R_apart' (HO163.1) (S_typed HO_10.1) (by decide)) (fun k_ hk => ⟨trivial, hk.2⟩))) (fun _ h_ => h_))); (case aB => exact (BL HB.1)); (case aF => exact (fun _ _ => trivial)); (case aO => exact (SPE (S_mono HO_10.1 (fun k_ hk => ⟨trivial, fun e_ => hk.2 e_⟩)))); (case aS => exact (bZ HB.1)); (case aL => have := LMc19.1; omega); intro v165 w59 ho hb hg hat; rw [<- Ny164.1] at ho; refine E7 (R_over' (PR HO_161002.1) (S_typed (PS HO_10.1)) (by decide) hg) (bG BK152.1 hg (S_ne HO_10.1 BK152.1 (by decide))) (bG BK153.1 hg (S_ne HO_10.1 BK153.1 (by decide))) (bG BK154.1 hg (S_ne HO_10.1 BK154.1 (by decide))) (bG BK160.1 hg (S_ne HO_10.1 BK160.1 (by decide))) (hb) (ho) ?_; clear HO_161002 BK152 BK153 BK154 BK160 HB HO_10 HO163; intro HO_161002 BK152 BK153 BK154 BK160 HB HO166; clear ho hb hg hat; have hnb61 := NB160_153.1; have hnc61 := NB153_160.1; have hnb62 := NB160_154.1; have hnc62 := NB154_160.1; obtain ⟨hcz63_0, hcz63_1, hcz63_2, hfz63_0, hfz63_1, hfz63_2⟩ := cz3 BK160.1; obtain ⟨Ao64, co64, eo64⟩ := R_slice HO_161002.1; subst eo64) | ((with_reducible refine gate_callee (f := 78) rfl ?_); refine goesM (N := (some 32)) #[.agg #[.int .i64 t155, .int .i64 t156, .slice Ao64 x161002_1.length co64], .int .i64 x12_1, .int .i64 x2_1] Try.func78 ?_; (with_reducible refine (spec_boAt.calls t155 t156 _ _ x161002_1 x12_1 x2_1 t167 t168 _ ?side1 ?side2 A20.1).mono ?_); (case side1 => exact CB (R_reads' HO_161002.1).2.2); (case side2 => exact (R_reads' HO_161002.1).2.1); rintro e w65 ⟨rfl, hb⟩; refine ⟨_, rfl, ?_⟩; refine E7 (rB HO_161002.1 hb) (sB HO166.1 hb) (bB BK152.1 hb) (bB BK153.1 hb) (bB BK154.1 hb) (bB BK160.1 hb) (bS HB.1 hb) ?_; clear HO_161002 HO166 BK152 BK153 BK154 BK160 HB; intro HO_161002 HO166 BK152 BK153 BK154 BK160 HB; (try clear hb)) | ((with_reducible refine gate_dst (N := 13) rfl ?_); refine boxE (cs := #[.int .i64 0, .int .i64 0]) (t := 98) ?_; intro gb169 hg w66 hbox hb; refine E18 (R_below (R_elderB (PR HO_161002.1) gb169 (Nat.le_of_eq hg.symm)) hb) (sB HO166.1 hb) (bB BK152.1 hb) (bB BK153.1 hb) (bB BK154.1 hb) (bB BK160.1 hb) (bS HB.1 hb) (hbox) (gX HB.1 hg) (gX HB.1 hg) (nB BK152.1 hg) (nC BK152.1 hg) (nB BK153.1 hg) (nC BK153.1 hg) (nB BK154.1 hg) (nC BK154.1 hg) (nB BK160.1 hg) (nC BK160.1 hg) ?_; clear HO_161002 HO166 BK152 BK153 BK154 BK160 HB; intro HO_161002 HO166 BK152 BK153 BK154 BK160 HB BK169 GW169 GE169 NB152_169 NB169_152 NB153_169 NB169_153 NB154_169 NB169_154 NB160_169 NB169_160; clear hb hbox hg; have hnb67 := NB169_152.1; have hnc67 := NB152_169.1; have hnb68 := NB169_153.1; have hnc68 := NB153_169.1; have hnb69 := NB169_154.1; have hnc69 := NB154_169.1; have hnb70 := NB169_160.1; have hnc70 := NB160_169.1; obtain ⟨hcz71_0, hcz71_1, hfz71_0, hfz71_1⟩ := cz2 BK169.1) | ((with_reducible refine gate_callee (f := 79) rfl ?_); refine goesM (N := (some 43)) #[.agg #[.int .i64 t167, .int .i64 t168], .int .i64 x11_1] Try.func79 ?_; (with_reducible refine (spec_paGoes.calls k1 t167 t168 x11_1 t170 _ A49.1).mono ?_); rintro e w72 ⟨rfl, hb⟩; refine ⟨_, rfl, ?_⟩; refine E8 (R_below (by (with_reducible repeat (first | apply R_alloc | apply R_drewN | apply R_drew)); exact (R_mono (RQ gb169 1 (RQ gb169 0 (R_mono HO_161002.1 (fun k_ hk => (⟨hk, hk.2⟩ : _ /\ k_ ≠ gb169))) _) _) (fun _ h_ => h_.1))) hb) (S_below (by (with_reducible repeat (first | apply S_alloc | apply S_drewN | apply S_drew)); exact (S_mono (SQ gb169 1 (SQ gb169 0 (S_types HO166.1 BK169.1 (by decide)) _) _) (fun _ h_ => h_.1))) hb) (blk_below (g := gb152) (o := .cells #[.int .i64 a0_0, .int .i64 a0_1, .slice A0_2 l0_2.length c0_2] 33 (0, 0)) (PF1 NB152_169.1 BK152.1) hb) (blk_below (g := gb153) (o := .cells #[.int .i64 x154000_1, .int .i64 x154001_1, .int .i64 x154002_1] 61 (0, 0)) (PF1 NB153_169.1 BK153.1) hb) (blk_below (g := gb154) (o := .cells #[.int .i64 x155000_1, .int .i64 x155001_1, .slice none 0 0] 33 (0, 0)) (PF1 NB154_169.1 BK154.1) hb) (blk_below (g := gb160) (o := .cells #[.int .i64 t155, .int .i64 t156, .slice Ao64 x161002_1.length co64] 33 (0, 0)) (PF1 NB160_169.1 BK160.1) hb) (blk_below (g := gb169) (o := .cells #[.int .i64 t167, .int .i64 t168] 98 (0, 0)) (PF0 BK169.1) hb) (bS HB.1 hb) ?_; clear HO_161002 HO166 BK152 BK153 BK154 BK160 BK169 HB; intro HO_161002 HO166 BK152 BK153 BK154 BK160 BK169 HB; (try clear hb); (try clear hk); obtain ⟨hcz73_0, hcz73_1, hcz73_2, hfz73_0, hfz73_1, hfz73_2⟩ := cz3 BK160.1; obtain ⟨hcz74_0, hcz74_1, hcz74_2, hfz74_0, hfz74_1, hfz74_2⟩ := cz3 BK152.1) | ((with_reducible refine gate_callee (f := 80) rfl ?_); refine goesM (N := (some 52)) #[.agg #[.int .i64 t155, .int .i64 t156, .slice Ao64 x161002_1.length co64], .slice A1 l1.length c1, .int .i64 (wrap64 ((wrap64 (x12_1 * a0_1)) + x2_1))] Try.func80 ?_; (with_reducible refine (spec_flPass.calls k1 t155 t156 (fun k_ => some k_ = (.slice Ao64 x161002_1.length co64 : Value).ownBlock) (.slice Ao64 x161002_1.length co64) x161002_1 _ _ l1 (wrap64 ((wrap64 (x12_1 * a0_1)) + x2_1)) t171 w _ ?side1 ?side2 ?side3 ?side4 A50.1).mono ?_); (case side1 => exact BL HB.1); (case side2 => exact R_tight rfl HO_161002.1); (case side3 => exact C_kept_came (Kd.heap_int .i64) HR1.1 (BL HB.1) (fun k_ hs_ => (fun e_ => R_base HO_161002.1 k_ e_.symm) hs_)); (case side4 => exact HC1.1); rintro e w75 ⟨rfl, hy0, hb, hkp⟩; refine ⟨_, rfl, ?_⟩; refine E8 (R_reok rfl hy0 (fun k_ e_ => HO_161002.1.1 k_ e_)) (blk_kept (PB BK152.1) hkp (fun hs_ => (fun e_ => (R_ne HO_161002.1 BK152.1 (by decide)) e_) hs_)) (blk_kept (PB BK153.1) hkp (fun hs_ => (fun e_ => (R_ne HO_161002.1 BK153.1 (by decide)) e_) hs_)) (blk_kept (PB BK154.1) hkp (fun hs_ => (fun e_ => (R_ne HO_161002.1 BK154.1 (by decide)) e_) hs_)) (blk_kept (PB BK160.1) hkp (fun hs_ => (fun e_ => (R_ne HO_161002.1 BK160.1 (by decide)) e_) hs_)) (S_mono (ok' := fun k_ => True) (S_keptB ((S_apart' HO166.1 (R_typed HO_161002.1) (by decide))) hkp (fun k_ hk_ hs_ => (hk_.2) hs_)) (fun k_ hk_ => trivial)) (blk_kept (PB BK169.1) hkp (fun hs_ => (fun e_ => (R_away HO_161002.1 (fun _ hk => hk.2)) e_) hs_)) (hb) ?_; clear HO_161002 BK152 BK153 BK154 BK160 HO166 BK169 HB; intro HO_161002 BK152 BK153 BK154 BK160 HO166 BK169 HB; (try clear hb); (try clear hkp); (try clear hy0); obtain ⟨hcz76_0, hcz76_1, hcz76_2, hfz76_0, hfz76_1, hfz76_2⟩ := cz3 BK152.1) | ((with_reducible refine gate_callee (f := 46) rfl ?_); refine goesM (N := (some 62)) #[.int .i64 (wrap64 (x2_1 + t170)), .int .i64 0, .int .i64 (wrap64 (a0_1 - 1))] Try.func46 ?_; (with_reducible refine (spec_l1In.calls (wrap64 (x2_1 + t170)) 0 (wrap64 (a0_1 - 1)) true _ A51.1).mono ?_); rintro e w' ⟨rfl, ⟨nd, rfl⟩⟩; refine ⟨_, rfl, ?_⟩))
     go_roundg k1
     case measure => have := HK1.1; omega
     case rel => exact ⟨(wrap64 (x2_1 + t170)), (y164), (wrap64 (-t170)), (wrap64 (x12_1 + 1)), (x154000_1), (x154001_1), (x154002_1), (x155000_1), (x155001_1), (t171), (.slice Ao64 x161002_1.length co64), RG, RG, RG, H', ⟨by have := HK1.1; omega⟩, ⟨PS HO166.1⟩, ⟨RPE (R_mono HO_161002.1 (fun _ hk => trivial))⟩, ⟨PB BK152.1⟩, ⟨PB BK153.1⟩, ⟨PB BK154.1⟩, ⟨PB BK160.1⟩, ⟨BL HB.1⟩⟩
   simp only [Option.some.injEq, Prod.mk.injEq] at H
   obtain ⟨rfl, rfl, rfl, rfl, rfl, rfl, rfl⟩ := H
   obtain ⟨hcz80_0, hcz80_1, hcz80_2, hfz80_0, hfz80_1, hfz80_2⟩ := cz3 BK152.1
   try go_wp2_with (first | ((with_reducible refine gate_dst (N := 26) rfl ?_); refine R_lit (Kd.int .i64) _ 3 ?hg (N := 26) ?hd (xs := ([x12_1, x2_1] : List Int)) (inner := [.int .i64 x12_1, .int .i64 x2_1]) (ok := fun _ => True) (okp := fun _ => True) ?hr ?hp (fun _ hk => hk) trivial (Below.refl _ _) (Nat.le_refl _) (by simp) ?_; (case hd => rfl); (case hg => rfl); (case hr => first | (go_simp; done) | (go_simp; rfl)); (case hp => exact (Reps.one (show Kd.M (Kd.int .i64) _ _ _ x12_1 [.int .i64 x12_1] from rfl) (Reps.one (show Kd.M (Kd.int .i64) _ _ _ x2_1 [.int .i64 x2_1] from rfl) (Reps.none _ _)))); intro v162 w81 ho82 hb hg_ hnew_; clear hg_ hnew_; (first | rw [<- Ny161.1] at ho82 | (simp only [Int.reduceToNat] at ho82; rw [<- Ny161.1] at ho82)); refine E8 (S_elder' (PS HO_10.1) (R_base ho82) hb) (rB HO_161002.1 hb) (R_lower ho82 (bZ HB.1)) (bB BK152.1 hb) (bB BK153.1 hb) (bB BK154.1 hb) (bB BK160.1 hb) (bS HB.1 hb) ?_; clear HO_10 HO_161002 BK152 BK153 BK154 BK160 HB; intro HO_10 HO_161002 HO163 BK152 BK153 BK154 BK160 HB; clear hb ho82; obtain ⟨Ao84, co84, eo84⟩ := R_slice HO163.1; subst eo84) | ((with_reducible refine gate_builtin (b := .append) (xs := #[.tmp 23, .tmp 27]) rfl ?_); at_builtin; refine S_append (Kd.slice 3 (Kd.int .i64)) (w0 := w) w.heap.size rfl (.tmp 23) (.tmp 27) 106 28 (.slice none 0 0) 24 rfl Try.underlying106 info28 rfl (by decide) (by omega) u10 x10_1 y161 [.slice Ao84 y161.length co84] (fun _ => True) (fun k_ => some k_ = (.slice Ao84 y161.length co84 : Value).ownBlock) rfl rfl ?aP (fun k_ hk_ => ((R_mono (ok' := fun k_ => ((fun _ => True)) k_ /\ some k_ ≠ (u10 : Value).ownBlock) (R_apart' (HO163.1) (S_typed HO_10.1) (by decide)) (fun k_ hk => ⟨trivial, hk.2⟩))).1 k_ hk_.symm) ?aF ?aO ?aB ?aS ?aL ?_; (case aP => exact M_row (R_mono (R_tight rfl (R_mono (ok' := fun k_ => ((fun _ => True)) k_ /\ some k_ ≠ (u10 : Value).ownBlock) (R_apart' (HO163.1) (S_typed HO_10.1) (by decide)) (fun k_ hk => ⟨trivial, hk.2⟩))) (fun _ h_ => h_))); (case aB => exact (BL HB.1)); (case aF => exact (fun _ _ => trivial)); (case aO => exact (SPE (S_mono HO_10.1 (fun k_ hk => ⟨trivial, fun e_ => hk.2 e_⟩)))); (case aS => exact (bZ HB.1)); (case aL => have := LMc19.1; omega); intro v165 w83 ho hb hg hat; rw [<- Ny164.1] at ho; refine E7 (R_over' (PR HO_161002.1) (S_typed (PS HO_10.1)) (by decide) hg) (bG BK152.1 hg (S_ne HO_10.1 BK152.1 (by decide))) (bG BK153.1 hg (S_ne HO_10.1 BK153.1 (by decide))) (bG BK154.1 hg (S_ne HO_10.1 BK154.1 (by decide))) (bG BK160.1 hg (S_ne HO_10.1 BK160.1 (by decide))) (hb) (ho) ?_; clear HO_161002 BK152 BK153 BK154 BK160 HB HO_10 HO163; intro HO_161002 BK152 BK153 BK154 BK160 HB HO166; clear ho hb hg hat; have hnb85 := NB160_153.1; have hnc85 := NB153_160.1; have hnb86 := NB160_154.1; have hnc86 := NB154_160.1; obtain ⟨hcz87_0, hcz87_1, hcz87_2, hfz87_0, hfz87_1, hfz87_2⟩ := cz3 BK160.1; obtain ⟨Ao88, co88, eo88⟩ := R_slice HO_161002.1; subst eo88) | ((with_reducible refine gate_callee (f := 78) rfl ?_); refine goesM (N := (some 32)) #[.agg #[.int .i64 t155, .int .i64 t156, .slice Ao88 x161002_1.length co88], .int .i64 x12_1, .int .i64 x2_1] Try.func78 ?_; (with_reducible refine (spec_boAt.calls t155 t156 _ _ x161002_1 x12_1 x2_1 t167 t168 _ ?side1 ?side2 A20.1).mono ?_); (case side1 => exact CB (R_reads' HO_161002.1).2.2); (case side2 => exact (R_reads' HO_161002.1).2.1); rintro e w89 ⟨rfl, hb⟩; refine ⟨_, rfl, ?_⟩; refine E7 (rB HO_161002.1 hb) (sB HO166.1 hb) (bB BK152.1 hb) (bB BK153.1 hb) (bB BK154.1 hb) (bB BK160.1 hb) (bS HB.1 hb) ?_; clear HO_161002 HO166 BK152 BK153 BK154 BK160 HB; intro HO_161002 HO166 BK152 BK153 BK154 BK160 HB; (try clear hb)) | ((with_reducible refine gate_dst (N := 13) rfl ?_); refine boxE (cs := #[.int .i64 0, .int .i64 0]) (t := 98) ?_; intro gb169 hg w90 hbox hb; refine E18 (R_below (R_elderB (PR HO_161002.1) gb169 (Nat.le_of_eq hg.symm)) hb) (sB HO166.1 hb) (bB BK152.1 hb) (bB BK153.1 hb) (bB BK154.1 hb) (bB BK160.1 hb) (bS HB.1 hb) (hbox) (gX HB.1 hg) (gX HB.1 hg) (nB BK152.1 hg) (nC BK152.1 hg) (nB BK153.1 hg) (nC BK153.1 hg) (nB BK154.1 hg) (nC BK154.1 hg) (nB BK160.1 hg) (nC BK160.1 hg) ?_; clear HO_161002 HO166 BK152 BK153 BK154 BK160 HB; intro HO_161002 HO166 BK152 BK153 BK154 BK160 HB BK169 GW169 GE169 NB152_169 NB169_152 NB153_169 NB169_153 NB154_169 NB169_154 NB160_169 NB169_160; clear hb hbox hg; have hnb91 := NB169_152.1; have hnc91 := NB152_169.1; have hnb92 := NB169_153.1; have hnc92 := NB153_169.1; have hnb93 := NB169_154.1; have hnc93 := NB154_169.1; have hnb94 := NB169_160.1; have hnc94 := NB160_169.1; obtain ⟨hcz95_0, hcz95_1, hfz95_0, hfz95_1⟩ := cz2 BK169.1) | ((with_reducible refine gate_callee (f := 79) rfl ?_); refine goesM (N := (some 43)) #[.agg #[.int .i64 t167, .int .i64 t168], .int .i64 x11_1] Try.func79 ?_; (with_reducible refine (spec_paGoes.calls k1 t167 t168 x11_1 t170 _ A49.1).mono ?_); rintro e w96 ⟨rfl, hb⟩; refine ⟨_, rfl, ?_⟩; refine E8 (R_below (by (with_reducible repeat (first | apply R_alloc | apply R_drewN | apply R_drew)); exact (R_mono (RQ gb169 1 (RQ gb169 0 (R_mono HO_161002.1 (fun k_ hk => (⟨hk, hk.2⟩ : _ /\ k_ ≠ gb169))) _) _) (fun _ h_ => h_.1))) hb) (S_below (by (with_reducible repeat (first | apply S_alloc | apply S_drewN | apply S_drew)); exact (S_mono (SQ gb169 1 (SQ gb169 0 (S_types HO166.1 BK169.1 (by decide)) _) _) (fun _ h_ => h_.1))) hb) (blk_below (g := gb152) (o := .cells #[.int .i64 a0_0, .int .i64 a0_1, .slice A0_2 l0_2.length c0_2] 33 (0, 0)) (PF1 NB152_169.1 BK152.1) hb) (blk_below (g := gb153) (o := .cells #[.int .i64 x154000_1, .int .i64 x154001_1, .int .i64 x154002_1] 61 (0, 0)) (PF1 NB153_169.1 BK153.1) hb) (blk_below (g := gb154) (o := .cells #[.int .i64 x155000_1, .int .i64 x155001_1, .slice none 0 0] 33 (0, 0)) (PF1 NB154_169.1 BK154.1) hb) (blk_below (g := gb160) (o := .cells #[.int .i64 t155, .int .i64 t156, .slice Ao88 x161002_1.length co88] 33 (0, 0)) (PF1 NB160_169.1 BK160.1) hb) (blk_below (g := gb169) (o := .cells #[.int .i64 t167, .int .i64 t168] 98 (0, 0)) (PF0 BK169.1) hb) (bS HB.1 hb) ?_; clear HO_161002 HO166 BK152 BK153 BK154 BK160 BK169 HB; intro HO_161002 HO166 BK152 BK153 BK154 BK160 BK169 HB; (try clear hb); (try clear hk); obtain ⟨hcz97_0, hcz97_1, hcz97_2, hfz97_0, hfz97_1, hfz97_2⟩ := cz3 BK160.1; obtain ⟨hcz98_0, hcz98_1, hcz98_2, hfz98_0, hfz98_1, hfz98_2⟩ := cz3 BK152.1) | ((with_reducible refine gate_callee (f := 80) rfl ?_); refine goesM (N := (some 52)) #[.agg #[.int .i64 t155, .int .i64 t156, .slice Ao88 x161002_1.length co88], .slice A1 l1.length c1, .int .i64 (wrap64 ((wrap64 (x12_1 * a0_1)) + x2_1))] Try.func80 ?_; (with_reducible refine (spec_flPass.calls k1 t155 t156 (fun k_ => some k_ = (.slice Ao88 x161002_1.length co88 : Value).ownBlock) (.slice Ao88 x161002_1.length co88) x161002_1 _ _ l1 (wrap64 ((wrap64 (x12_1 * a0_1)) + x2_1)) t171 w _ ?side1 ?side2 ?side3 ?side4 A50.1).mono ?_); (case side1 => exact BL HB.1); (case side2 => exact R_tight rfl HO_161002.1); (case side3 => exact C_kept_came (Kd.heap_int .i64) HR1.1 (BL HB.1) (fun k_ hs_ => (fun e_ => R_base HO_161002.1 k_ e_.symm) hs_)); (case side4 => exact HC1.1); rintro e w99 ⟨rfl, hy0, hb, hkp⟩; refine ⟨_, rfl, ?_⟩; refine E8 (R_reok rfl hy0 (fun k_ e_ => HO_161002.1.1 k_ e_)) (blk_kept (PB BK152.1) hkp (fun hs_ => (fun e_ => (R_ne HO_161002.1 BK152.1 (by decide)) e_) hs_)) (blk_kept (PB BK153.1) hkp (fun hs_ => (fun e_ => (R_ne HO_161002.1 BK153.1 (by decide)) e_) hs_)) (blk_kept (PB BK154.1) hkp (fun hs_ => (fun e_ => (R_ne HO_161002.1 BK154.1 (by decide)) e_) hs_)) (blk_kept (PB BK160.1) hkp (fun hs_ => (fun e_ => (R_ne HO_161002.1 BK160.1 (by decide)) e_) hs_)) (S_mono (ok' := fun k_ => True) (S_keptB ((S_apart' HO166.1 (R_typed HO_161002.1) (by decide))) hkp (fun k_ hk_ hs_ => (hk_.2) hs_)) (fun k_ hk_ => trivial)) (blk_kept (PB BK169.1) hkp (fun hs_ => (fun e_ => (R_away HO_161002.1 (fun _ hk => hk.2)) e_) hs_)) (hb) ?_; clear HO_161002 BK152 BK153 BK154 BK160 HO166 BK169 HB; intro HO_161002 BK152 BK153 BK154 BK160 HO166 BK169 HB; (try clear hb); (try clear hkp); (try clear hy0); obtain ⟨hcz100_0, hcz100_1, hcz100_2, hfz100_0, hfz100_1, hfz100_2⟩ := cz3 BK152.1) | ((with_reducible refine gate_callee (f := 46) rfl ?_); refine goesM (N := (some 62)) #[.int .i64 (wrap64 (x2_1 + t170)), .int .i64 0, .int .i64 (wrap64 (a0_1 - 1))] Try.func46 ?_; (with_reducible refine (spec_l1In.calls (wrap64 (x2_1 + t170)) 0 (wrap64 (a0_1 - 1)) false _ A51.1).mono ?_); rintro e w' ⟨rfl, ⟨nd, rfl⟩⟩; refine ⟨_, rfl, ?_⟩; (try (rw [drewN_self w99]; generalize hq_ : World.drewN w99 _ = w99; have n0_ : Aside0 (Kd.S (Kd.slice 3 (Kd.int .i64)) 28 w99 w.heap.size (fun _ => True) v165 y164) := ⟨by rw [<- hq_]; exact (PS HO166.1)⟩; have n1_ : Aside0 (Kd.R k98 98 w99 w.heap.size (fun k_ => k_ ≠ gb169) (.slice Ao88 x161002_1.length co88) t171) := ⟨by rw [<- hq_]; exact (RPE (R_mono HO_161002.1 (fun _ hk => hk.2)))⟩; have n2_ : Aside0 (w99.heap[gb152]? = some (.cells #[.int .i64 a0_0, .int .i64 a0_1, .slice A0_2 l0_2.length c0_2] 33 (0, 0))) := ⟨by rw [<- hq_]; exact (PB BK152.1)⟩; have n3_ : Aside0 (w99.heap[gb153]? = some (.cells #[.int .i64 x154000_1, .int .i64 x154001_1, .int .i64 x154002_1] 61 (0, 0))) := ⟨by rw [<- hq_]; exact (PB BK153.1)⟩; have n4_ : Aside0 (w99.heap[gb154]? = some (.cells #[.int .i64 x155000_1, .int .i64 x155001_1, .slice none 0 0] 33 (0, 0))) := ⟨by rw [<- hq_]; exact (PB BK154.1)⟩; have n5_ : Aside0 (w99.heap[gb160]? = some (.cells #[.int .i64 t155, .int .i64 t156, .slice Ao88 x161002_1.length co88] 33 (0, 0))) := ⟨by rw [<- hq_]; exact (PB BK160.1)⟩; have n6_ : Aside0 (w99.heap[gb169]? = some (.cells #[.int .i64 t167, .int .i64 t168] 98 (0, 0))) := ⟨by rw [<- hq_]; exact (PB BK169.1)⟩; have n7_ : Aside0 (Below w.heap.size w w99) := ⟨by rw [<- hq_]; exact (BL HB.1)⟩; clear HO166 HO_161002 BK152 BK153 BK154 BK160 BK169 HB hq_; have HO166 := n0_; have HO_161002 := n1_; have BK152 := n2_; have BK153 := n3_; have BK154 := n4_; have BK160 := n5_; have BK169 := n6_; have HB := n7_; clear n0_ n1_ n2_ n3_ n4_ n5_ n6_ n7_))))
   refine E8 (R_drew HO_161002.1) (S_drew HO166.1) (blk_drew BK152.1) (blk_drew BK153.1) (blk_drew BK154.1) (blk_drew BK160.1) (blk_drew BK169.1) (below_drew1 HB.1) ?_
   clear HO_161002 HO166 BK152 BK153 BK154 BK160 BK169 HB
   intro HO_161002 HO166 BK152 BK153 BK154 BK160 BK169 HB
   refine start_ (n := 8) (S := fun w' => w'.cell? ⟨gb160, 0, none⟩ = some (.int .i64 t155) /\ w'.cell? ⟨gb160, 1, none⟩ = some (.int .i64 t156) /\ w'.cell? ⟨gb160, 2, none⟩ = some (.slice Ao88 x161002_1.length co88)) (ds := []) #[Zz,Zz,Zz,Zz,Zz,Zz,Zz,Zz] (by kernel_rfl) rfl rfl ⟨(blk_cell BK160.1 0).trans rfl, (blk_cell BK160.1 1).trans rfl, (blk_cell BK160.1 2).trans rfl⟩ (fun hHeld => ?_); refine with_tabW spec_flGo.tab16 spec_flGo.bits16 (fun HT_ HW_ => ?_)
   generalize w99.drew = w101 at HO_161002 HO166 BK152 BK153 BK154 BK160 BK169 HB hHeld ⊢
   refine pureF 0 (N := some 64) HT_.1 ?_
   refine pureF 1 (N := some 65) HT_.1 ?_
   refine pureF 2 (N := some 66) HT_.1 ?_
   refine pureF 4 (N := some 68) HT_.1 ?_
   refine takeE 3 (N := some 67) HT_.1 HW_.1 hHeld ?_
   refine one_ (i := 5) (N := none) #[Yy,Yy,Yy,Yy,Yy,Yy,Zz,Zz] rfl rfl (one_of HT_.1 (by kernel_rfl)) (by decide) (fun K hK => ?_)
   obtain ⟨hs102, hs103, hs104, hfs102, hfs103, hfs104⟩ := cz3 BK153.1
   have hns102_2 := NB154_153.1
   have hms102_2 := NB153_154.1
   refine skip_ (w1 := ?_) (by rfl) rfl ?_ ?_
   rotate_left
   · go_simp
     rfl
   refine hK.out _ _ ⟨(CF3 NB160_153.1 hHeld.1), (CF3 NB160_153.1 hHeld.2.1), (CF3 NB160_153.1 hHeld.2.2)⟩ (fun hHeld => ?_)
   clear hK K
   refine one_ (i := 6) (N := none) #[Yy,Yy,Yy,Yy,Yy,Yy,Yy,Zz] rfl rfl (one_of HT_.1 (by kernel_rfl)) (by decide) (fun K hK => ?_)
   obtain ⟨hs105, hs106, hs107, hfs105, hfs106, hfs107⟩ := cz3 BK154.1
   refine skip_ (w1 := ?_) (by rfl) rfl ?_ ?_
   rotate_left
   · go_simp
     rfl
   refine hK.out _ _ ⟨(CF3 NB160_154.1 hHeld.1), (CF3 NB160_154.1 hHeld.2.1), (CF3 NB160_154.1 hHeld.2.2)⟩ (fun hHeld => ?_)
   clear hK K
   refine pureF 7 (N := some 8) HT_.1 ?_
   refine done_ (done_of HT_.1 (by kernel_rfl)) ?_
   try go_wp2
   refine bodyPost_ret (results_list (rs := [.cell 6 61, .cell 7 33, .tmp 8]) rfl (by simp) (.cell gb153 61 #[.int .i64 3, .int .i64 x12_1, .int .i64 (wrap64 (x2_1 + t170))] (0, 0) _ rfl (PF1 NB153_154.1 BK153.1) Try.underlying61 rfl (by kernel_rfl) (.cell gb154 33 #[.int .i64 t155, .int .i64 t156, .slice Ao88 x161002_1.length co88] (0, 0) _ rfl (PF1 NB154_153.1 BK154.1) Try.underlying33 rfl (by kernel_rfl) (.tmp .nil)))) rfl ?_
   exact ⟨_, _, RF, by (with_reducible repeat (first | apply R_alloc | apply R_drewN | apply R_drew)); exact R_mono (RQ gb154 2 (RQ gb154 1 (RQ gb154 0 (R_far (p := ⟨gb153, 2, none⟩) (R_far (p := ⟨gb153, 1, none⟩) (R_far (p := ⟨gb153, 0, none⟩) (R_types (R_types HO_161002.1 BK153.1 (by decide)) BK154.1 (by decide)) (fun _ hk => hk.1.2) (.int .i64 3)) (fun _ hk => hk.1.2) (.int .i64 x12_1)) (fun _ hk => hk.1.2) (.int .i64 (wrap64 (x2_1 + t170)))) _) _) _) (fun _ hk => trivial), by (with_reducible repeat (first | apply S_alloc | apply S_drewN | apply S_drew)); exact S_mono (SQ gb154 2 (SQ gb154 1 (SQ gb154 0 (S_far (p := ⟨gb153, 2, none⟩) (S_far (p := ⟨gb153, 1, none⟩) (S_far (p := ⟨gb153, 0, none⟩) (S_types (S_types HO166.1 BK153.1 (by decide)) BK154.1 (by decide)) (fun _ hk => hk.1.2) (.int .i64 3)) (fun _ hk => hk.1.2) (.int .i64 x12_1)) (fun _ hk => hk.1.2) (.int .i64 (wrap64 (x2_1 + t170)))) _) _) _) (fun _ hk => trivial), BL HB.1⟩
 simp only [Option.some.injEq, Prod.mk.injEq] at H
 obtain ⟨rfl, rfl, rfl, rfl, rfl, rfl, rfl⟩ := H
 obtain ⟨hcz111_0, hcz111_1, hcz111_2, hfz111_0, hfz111_1, hfz111_2⟩ := cz3 BK152.1
 try go_wp2
 refine E7 (S_drew HO_10.1) (R_drew HO_161002.1) (blk_drew BK152.1) (blk_drew BK153.1) (blk_drew BK154.1) (blk_drew BK160.1) (below_drew1 HB.1) ?_
 clear HO_10 HO_161002 BK152 BK153 BK154 BK160 HB
 intro HO_10 HO_161002 BK152 BK153 BK154 BK160 HB
 obtain ⟨Ao118, co118, eo118⟩ := R_slice HO_161002.1
 (first | subst eo118 | (injection eo118 with f1_ f2_ f3_; have f4_ := f1_.symm; have f5_ := f3_.symm; clear f1_ f2_ f3_; subst f4_; subst f5_))
 refine start_ (n := 9) (S := fun w' => w'.cell? ⟨gb152, 0, none⟩ = some (.int .i64 a0_0) /\ w'.cell? ⟨gb152, 1, none⟩ = some (.int .i64 a0_1) /\ w'.cell? ⟨gb152, 2, none⟩ = some (.slice A0_2 l0_2.length c0_2) /\ w'.cell? ⟨gb160, 0, none⟩ = some (.int .i64 t155) /\ w'.cell? ⟨gb160, 1, none⟩ = some (.int .i64 t156) /\ w'.cell? ⟨gb160, 2, none⟩ = some (.slice Ao118 x161002_1.length co118)) (ds := []) #[Zz,Zz,Zz,Zz,Zz,Zz,Zz,Zz,Zz] (by kernel_rfl) rfl rfl ⟨(blk_cell BK152.1 0).trans rfl, (blk_cell BK152.1 1).trans rfl, (blk_cell BK152.1 2).trans rfl, (blk_cell BK160.1 0).trans rfl, (blk_cell BK160.1 1).trans rfl, (blk_cell BK160.1 2).trans rfl⟩ (fun hHeld => ?_); refine with_tabW spec_flGo.tab17 spec_flGo.bits17 (fun HT_ HW_ => ?_)
 generalize wr.drew = w112 at HO_10 HO_161002 BK152 BK153 BK154 BK160 HB hHeld ⊢
 refine pureF 0 (N := some 69) HT_.1 ?_
 refine pureF 2 (N := some 71) HT_.1 ?_
 refine pureF 5 (N := some 74) HT_.1 ?_
 refine takeE 1 (N := some 70) HT_.1 HW_.1 hHeld ?_
 refine pureF 3 (N := some 72) HT_.1 ?_
 refine takeE 4 (N := some 73) HT_.1 HW_.1 hHeld ?_
 refine one_ (i := 6) (N := none) #[Yy,Yy,Yy,Yy,Yy,Yy,Yy,Zz,Zz] rfl rfl (one_of HT_.1 (by kernel_rfl)) (by decide) (fun K hK => ?_)
 obtain ⟨hs113, hs114, hs115, hfs113, hfs114, hfs115⟩ := cz3 BK153.1
 have hns113_2 := NB154_153.1
 have hms113_2 := NB153_154.1
 refine skip_ (w1 := ?_) (by rfl) rfl ?_ ?_
 rotate_left
 · go_simp
   rfl
 refine hK.out _ _ ⟨(CF3 NB152_153.1 hHeld.1), (CF3 NB152_153.1 hHeld.2.1), (CF3 NB152_153.1 hHeld.2.2.1), (CF3 NB160_153.1 hHeld.2.2.2.1), (CF3 NB160_153.1 hHeld.2.2.2.2.1), (CF3 NB160_153.1 hHeld.2.2.2.2.2)⟩ (fun hHeld => ?_)
 clear hK K
 refine one_ (i := 7) (N := none) #[Yy,Yy,Yy,Yy,Yy,Yy,Yy,Yy,Zz] rfl rfl (one_of HT_.1 (by kernel_rfl)) (by decide) (fun K hK => ?_)
 obtain ⟨hs116, hs117, hs119, hfs116, hfs117, hfs119⟩ := cz3 BK154.1
 refine skip_ (w1 := ?_) (by rfl) rfl ?_ ?_
 rotate_left
 · go_simp
   rfl
 refine hK.out _ _ ⟨(CF3 NB152_154.1 hHeld.1), (CF3 NB152_154.1 hHeld.2.1), (CF3 NB152_154.1 hHeld.2.2.1), (CF3 NB160_154.1 hHeld.2.2.2.1), (CF3 NB160_154.1 hHeld.2.2.2.2.1), (CF3 NB160_154.1 hHeld.2.2.2.2.2)⟩ (fun hHeld => ?_)
 clear hK K
 refine pureF 8 (N := some 8) HT_.1 ?_
 refine done_ (done_of HT_.1 (by kernel_rfl)) ?_
 try go_wp2
 refine bodyPost_ret (results_list (rs := [.cell 6 61, .cell 7 33, .tmp 8]) rfl (by simp) (.cell gb153 61 #[.int .i64 1, .int .i64 a0_0, .int .i64 x2_1] (0, 0) _ rfl (PF1 NB153_154.1 BK153.1) Try.underlying61 rfl (by kernel_rfl) (.cell gb154 33 #[.int .i64 t155, .int .i64 t156, .slice Ao118 x161002_1.length co118] (0, 0) _ rfl (PF1 NB154_153.1 BK154.1) Try.underlying33 rfl (by kernel_rfl) (.tmp .nil)))) rfl ?_
 exact ⟨_, _, RF, by (with_reducible repeat (first | apply R_alloc | apply R_drewN | apply R_drew)); exact R_mono (RQ gb154 2 (RQ gb154 1 (RQ gb154 0 (R_far (p := ⟨gb153, 2, none⟩) (R_far (p := ⟨gb153, 1, none⟩) (R_far (p := ⟨gb153, 0, none⟩) (R_types (R_types HO_161002.1 BK153.1 (by decide)) BK154.1 (by decide)) (fun _ hk => hk.1.2) (.int .i64 1)) (fun _ hk => hk.1.2) (.int .i64 a0_0)) (fun _ hk => hk.1.2) (.int .i64 x2_1)) _) _) _) (fun _ hk => trivial), by (with_reducible repeat (first | apply S_alloc | apply S_drewN | apply S_drew)); exact S_mono (SQ gb154 2 (SQ gb154 1 (SQ gb154 0 (S_far (p := ⟨gb153, 2, none⟩) (S_far (p := ⟨gb153, 1, none⟩) (S_far (p := ⟨gb153, 0, none⟩) (S_types (S_types HO_10.1 BK153.1 (by decide)) BK154.1 (by decide)) (fun _ hk => hk.1.2) (.int .i64 1)) (fun _ hk => hk.1.2) (.int .i64 a0_0)) (fun _ hk => hk.1.2) (.int .i64 x2_1)) _) _) _) (fun _ hk => trivial), BL HB.1⟩
/-! ### spec_ggGear: function 81 -/
open Kd
def spec_ggGear.f (a0_0 : Int) (a0_1 : Int) : Option (Bool) := if a0_0 = 6 then (some true) else (some (a0_0 == 7))
theorem spec_ggGear.calls (a0_0 : Int) (a0_1 : Int) (r : Bool) (w : World) (h : spec_ggGear.f a0_0 a0_1 = some r) :
 Calls Try.prog 81 #[.agg #[.int .i64 a0_0, .int .i64 a0_1]] w fun e w' => e = .returned (.bool r) /\ Below w.heap.size w w' := by
 have hu98 := Try.underlying98
 have HB := Aside0.mk (Below.refl w.heap.size w)
 have H := h
 clear h
 unfold spec_ggGear.f at H
 replace H := ifQ H; rcases H with ⟨c2, H⟩ | ⟨c2, H⟩
 · have c2b0 := beq_iff_eq.mpr c2
   have c2b1 := bne_eq_false_iff_eq.mpr c2
   clear c2
   obtain rfl := Option.some.inj H
   go_enter Try.func81, Try.ntmps81
   go_wp2_with (first | ((with_reducible refine gate_dst (N := 1) rfl ?_); refine boxE (cs := #[.int .i64 a0_0, .int .i64 a0_1]) (t := 98) ?_; intro gb173 hg w3 hbox hb; refine E4b HB.1 hg hbox hb ?_; clear HB; intro HB BK173 GW173 GE173; clear hb hbox hg; obtain ⟨hcz4_0, hcz4_1, hfz4_0, hfz4_1⟩ := cz2 BK173.1))
   go_ret
   exact ⟨RF, BL HB.1⟩
 have c2b0 := beq_eq_false_iff_ne.mpr c2
 have c2b1 := bne_iff_ne.mpr c2
 obtain rfl := Option.some.inj H
 go_enter Try.func81, Try.ntmps81
 go_wp2_with (first | ((with_reducible refine gate_dst (N := 1) rfl ?_); refine boxE (cs := #[.int .i64 a0_0, .int .i64 a0_1]) (t := 98) ?_; intro gb173 hg w5 hbox hb; refine E4b HB.1 hg hbox hb ?_; clear HB; intro HB BK173 GW173 GE173; clear hb hbox hg; obtain ⟨hcz6_0, hcz6_1, hfz6_0, hfz6_1⟩ := cz2 BK173.1))
 go_ret
 exact ⟨RF, BL HB.1⟩
end Go.Proofs.Ythnehlphifegaaa.P
