-- PRINTED by print.py (a twelfth state) out of the translation. Not trusted: Lean checks it.
import Derived.Test.YthnehlphifegaaaPx0
import Derived.Test.YthnehlphifegaaaPx7
namespace Go.Proofs.Ythnehlphifegaaa.P
open Go.RowKit Go.Proofs.YthnehlphifegaaaW.PrintWords Go.Proofs.YthnehlphifegaaaW.PrintLast Go.Proofs.YthnehlphifegaaaW.PrintMore
attribute [local go_sem] max2_int min2_int max_two min_two max_three min_three max_four min_four   -- for this text's walks alone
set_option linter.unusedVariables false
set_option linter.unusedSimpArgs false
set_option maxHeartbeats 8000000
set_option maxRecDepth 100000

/-! ### impl_turnGroup: function 76 -/
open Kd
def impl_turnGroup.l0 : Nat -> List Int -> Int -> Int -> Int -> Int -> Int -> List (S98) -> Option ((List (S98)))
 | 0, _, _, _, _, _, _, _ => none
 | k + 1, x1, x2, x9, x10, x389000, x389001, x389002 => if x10 < x9 then (if 0 <= x10 then (if x10 < (x389002.length : Int) then (if ((rd_T98 x389002 x10).f0) = 6 then (if x10 < (x1.length : Int) then (if 0 <= x2 then (if x2 < (x1.length : Int) then (if (rd x1 x10) = (rd x1 x2) then (impl_turnGroup.l0 k x1 x2 x9 (wrap64 (x10 + 1)) x389000 x389001 (x389002.set (x10 : Int).toNat (⟨(rd_T98 x389002 x10).f0, wrap64 (1 - ((rd_T98 x389002 x10).f1))⟩ : S98))) else (impl_turnGroup.l0 k x1 x2 x9 (wrap64 (x10 + 1)) x389000 x389001 x389002)) else (none)) else (none)) else (none)) else (impl_turnGroup.l0 k x1 x2 x9 (wrap64 (x10 + 1)) x389000 x389001 x389002)) else (none)) else (none)) else (some x389002)
def impl_turnGroup.f (k : Nat) (a0_0 : Int) (a0_1 : Int) (l0_2 : List (S98)) (l1 : List Int) (a2 : Int) : Option ((List (S98))) := impl_turnGroup.l0 k l1 a2 (l0_2.length : Int) 0 a0_0 a0_1 l0_2
theorem impl_turnGroup.mono_l : ∀ k, (∀ y0 y1 y2 y3 y4 y5 y6, LeO (impl_turnGroup.l0 k y0 y1 y2 y3 y4 y5 y6) (impl_turnGroup.l0 (k + 1) y0 y1 y2 y3 y4 y5 y6))
 | 0 => fun _ _ _ _ _ _ _ r h => by simp [impl_turnGroup.l0] at h
 | k + 1 => by
  have ih0 := impl_turnGroup.mono_l k
  intros
  first | unfold impl_turnGroup.l0
  exact LM1 ih0
theorem impl_turnGroup.mono : ∀ a0 a1 a2 a3 a4 k, LeO (impl_turnGroup.f k a0 a1 a2 a3 a4) (impl_turnGroup.f (k + 1) a0 a1 a2 a3 a4) := by
 intro a0 a1 a2 a3 a4 k
 have ih0 := impl_turnGroup.mono_l k
 unfold impl_turnGroup.f
 exact LM1 ih0
def impl_turnGroup.T4 : Bool × List (List Nat × List Nat) := (true, [([], []), ([0], [0]), ([], []), ([1, 2], [1, 2]), ([3], [3]), ([4], [4]), ([5], [5]), ([6], [6]), ([7], [7]), ([7], [7]), ([8, 9, 7], [7, 8, 9]), ([10, 7], [7, 10]), ([7], [7]), ([7], [7]), ([12, 13, 7], [7, 12, 13]), ([14, 7], [7, 14]), ([11, 15, 7], [7, 11, 15]), ([7, 16], [7, 16])])
def impl_turnGroup.B4 : List Nat := [0, 1, 0, 7, 15, 31, 63, 127, 255, 255, 1023, 2047, 255, 255, 12543, 28927, 65535, 131071]
theorem impl_turnGroup.tab4 : rtab .any (opsOf Try.f76 4) = impl_turnGroup.T4 := by kernel_rfl
theorem impl_turnGroup.bits4 : waitsOk impl_turnGroup.T4.2 impl_turnGroup.B4 = true := by kernel_rfl
def impl_turnGroup.T5 : Bool × List (List Nat × List Nat) := (true, [([], []), ([0], [0]), ([], []), ([], []), ([3], [3]), ([], []), ([4, 5], [4, 5]), ([6], [6]), ([7], [7]), ([8], [8]), ([1, 2, 0, 1, 2, 3, 4, 5, 6, 7, 8, 9], [1, 2]), ([10, 0, 1, 2, 3, 4, 5, 6, 7, 8, 9], [10]), ([11, 9, 0, 1, 2, 3, 4, 5, 6, 7, 8, 9], [9, 11])])
def impl_turnGroup.B5 : List Nat := [0, 1, 0, 0, 8, 0, 56, 120, 248, 504, 1023, 2047, 4095]
theorem impl_turnGroup.tab5 : rtab .any (opsOf Try.f76 5) = impl_turnGroup.T5 := by kernel_rfl
theorem impl_turnGroup.bits5 : waitsOk impl_turnGroup.T5.2 impl_turnGroup.B5 = true := by kernel_rfl
theorem impl_turnGroup.calls (k : Nat) (a0_0 : Int) (a0_1 : Int) (P0_2_ : Nat -> Prop) (u9000_ : Value) (l0_2 : List (S98)) (A1 : Option Addr) (c1 : Nat) (l1 : List Int) (a2 : Int) (r : List (S98)) (w0 w : World) (hB : Below w0.heap.size w0 w) (ho0_2 : Kd.R k98 98 w w0.heap.size P0_2_ u9000_ l0_2) (hr1 : ∀ W_, Kept w W_ (fun k_ => P0_2_ k_) -> Kd.C (Kd.int .i64) W_ A1 l1.length l1) (hc1 : l1.length <= c1) (h : impl_turnGroup.f k a0_0 a0_1 l0_2 l1 a2 = some r) :
 Calls Try.prog 76 #[.agg #[.int .i64 a0_0, .int .i64 a0_1, u9000_], .slice A1 l1.length c1, .int .i64 a2] w fun e w' => e = .returned (.tuple #[]) /\ Kd.R k98 98 w' w0.heap.size (fun k_ => (P0_2_ k_ ∨ w.heap.size <= k_)) u9000_ r /\ Below w0.heap.size w0 w' /\ Kept w w' (fun k_ => P0_2_ k_) := by
 have hu33 := Try.underlying33
 have HO0_2 := Aside0.mk (show Kd.R k98 98 w w0.heap.size (fun k_ => (P0_2_ k_ ∨ w.heap.size <= k_)) u9000_ l0_2 from R_mono ho0_2 (fun k_ hk => (.inl hk)))
 have HR1 := Aside0.mk hr1
 have HC1 := Aside0.mk hc1
 clear hr1 hc1
 have HK := Aside0.mk (Kept.refl w (fun k_ => P0_2_ k_))
 have HW0 := Aside0.mk hB.size
 have HB := Aside0.mk hB
 clear hB
 have H := h
 clear h
 unfold impl_turnGroup.f at H
 have H' := Aside0.mk H
 clear H
 obtain ⟨Ao4, co4, eo4⟩ := R_slice HO0_2.1
 subst eo4
 go_enter Try.func76, Try.ntmps76
 go_wp2_with (first | ((with_reducible refine gate_dst (N := 3) rfl ?_); refine boxE (cs := #[.int .i64 a0_0, .int .i64 a0_1, .slice Ao4 l0_2.length co4]) (t := 33) ?_; intro gb388 hg w5 hbox hb; refine E6 (rB HO0_2.1 hb) (Kept.below (S := (fun k_ => P0_2_ k_)) (KL HK.1) hb) (bS HB.1 hb) (hbox) ((by rw [hg]; exact (by first | exact HK.1.1 | exact (show Kept w _ (fun k_ => P0_2_ k_) from KL HK.1).1) : w.heap.size <= gb388)) (gwM hg (bZ HB.1) : w0.heap.size <= gb388) ?_; clear HO0_2 HK HB; intro HO0_2 HK HB BK388 GW388 GE388; clear hb hbox hg; obtain ⟨hcz6_0, hcz6_1, hcz6_2, hfz6_0, hfz6_1, hfz6_2⟩ := cz3 BK388.1))
 go_loopg [10] k (fun kq v10 w' => ∃ (x10_1 : Int) (x389002_1 : List (S98)), v10 = .int .i64 x10_1 /\ Aside0 (impl_turnGroup.l0 kq l1 a2 (l0_2.length : Int) x10_1 a0_0 a0_1 x389002_1 = some r) /\ Aside0 (kq <= k) /\ Aside0 (Kd.R k98 98 w' w0.heap.size (fun k_ => (P0_2_ k_ ∨ w.heap.size <= k_)) (.slice Ao4 l0_2.length co4) x389002_1) /\ Aside0 (w'.heap[gb388]? = some (.cells #[.int .i64 a0_0, .int .i64 a0_1, (.slice Ao4 l0_2.length co4)] 33 (0, 0))) /\ Aside0 (Kept w w' (fun k_ => P0_2_ k_)) /\ Aside0 (Below w0.heap.size w0 w'))
 case atStart => exact ⟨(0), (l0_2), RG, H', ⟨Nat.le_refl _⟩, ⟨PR HO0_2.1⟩, ⟨PB BK388.1⟩, ⟨KL HK.1⟩, ⟨BL HB.1⟩⟩
 clear H'
 try clear c1; clear hcz6_0 hcz6_1 hcz6_2 hfz6_0 hfz6_1 hfz6_2
 obtain ⟨x10_1, x389002_1, rfl, HA, HK1, HO_389002, BK388, HK, HB⟩ := hrel
 have hl389002_1 := (R_reads' HO_389002.1).1
 rw [hl389002_1] at HO_389002
 (try simp only [hl389002_1])
 (try simp only [hl389002_1] at BK388)
 cases gk with
 | zero => exact absurd HA.1 (by simp [impl_turnGroup.l0])
 | succ k1 => ?_
 have H := HA.1
 clear HA
 simp only [impl_turnGroup.l0] at H
 replace H := ifB H; rcases H with ⟨c7b0, H⟩ | ⟨c7b0, H⟩
 · replace H := ifN H; obtain ⟨c8b0, H⟩ := H
   replace H := ifN H; obtain ⟨c9b0, H⟩ := H
   replace H := ifQ H; rcases H with ⟨c10, H⟩ | ⟨c10, H⟩
   · have c10b0 := beq_iff_eq.mpr c10
     have c10b1 := bne_eq_false_iff_eq.mpr c10
     clear c10
     replace H := ifN H; obtain ⟨c11b0, H⟩ := H
     replace H := ifN H; obtain ⟨c12b0, H⟩ := H
     replace H := ifN H; obtain ⟨c13b0, H⟩ := H
     replace H := ifQ H; rcases H with ⟨c14, H⟩ | ⟨c14, H⟩
     · have c14b0 := beq_iff_eq.mpr c14
       have c14b1 := bne_eq_false_iff_eq.mpr c14
       clear c14
       generalize hy393 : ((x389002_1.set (x10_1 : Int).toNat (⟨(rd_T98 x389002_1 x10_1).f0, wrap64 (1 - ((rd_T98 x389002_1 x10_1).f1))⟩ : S98)) : List (S98)) = y393 at H
       have Ny393 := Aside0.mk hy393.symm; clear hy393
       have H' := Aside0.mk H
       clear H
       try go_wp2
       refine E4 (R_drew HO_389002.1) (blk_drew BK388.1) (Kept.drew HK.1) (below_drew1 HB.1) ?_
       clear HO_389002 BK388 HK HB
       intro HO_389002 BK388 HK HB
       have p389 : 0 <= (x10_1 : Int) := OD
       have q389 : x10_1 < (x389002_1.length : Int) := OD
       obtain ⟨ad389, e389, hx389_0, hx389_1⟩ := at_T98 (R_reads' HO_389002.1).2.2 x10_1 p389 q389
       cases e389
       replace p389 := eq_true p389
       replace q389 := eq_true q389
       have p390 : 0 <= (x10_1 : Int) := OD
       have q390 : x10_1 < (l1.length : Int) := OD
       obtain ⟨ad390, e390, hx390_0⟩ := Kd.at_int (C_kept_now HR1.1 HK.1) x10_1 p390 q390
       have hw390_0 := hx390_0
       cases e390
       replace p390 := eq_true p390
       replace q390 := eq_true q390
       have p391 : 0 <= (a2 : Int) := OD
       have q391 : a2 < (l1.length : Int) := OD
       obtain ⟨ad391, e391, hx391_0⟩ := Kd.at_int (C_kept_now HR1.1 HK.1) a2 p391 q391
       have hw391_0 := hx391_0
       obtain rfl : ad390 = ad391 := (by injection e391)
       replace p391 := eq_true p391
       replace q391 := eq_true q391
       refine start_ (n := 18) (S := fun w' => w'.cell? ⟨gb388, 0, none⟩ = some (.int .i64 a0_0) /\ w'.cell? ⟨gb388, 1, none⟩ = some (.int .i64 a0_1) /\ w'.cell? ⟨gb388, 2, none⟩ = some (.slice (some ad389) x389002_1.length co4) /\ w'.cell? (ad389.add ((x10_1).toNat * 2)) = some (.int .i64 ((rd_T98 x389002_1 x10_1).f0)) /\ w'.cell? ⟨(ad389.add ((x10_1).toNat * 2)).block, (ad389.add ((x10_1).toNat * 2)).off + 1, none⟩ = some (.int .i64 ((rd_T98 x389002_1 x10_1).f1)) /\ w'.cell? (ad390.add (x10_1).toNat) = some (.int .i64 (rd l1 x10_1)) /\ w'.cell? (ad390.add (a2).toNat) = some (.int .i64 (rd l1 a2))) (ds := []) #[Zz,Zz,Zz,Zz,Zz,Zz,Zz,Zz,Zz,Zz,Zz,Zz,Zz,Zz,Zz,Zz,Zz,Zz] (by kernel_rfl) rfl rfl ⟨(blk_cell BK388.1 0).trans rfl, (blk_cell BK388.1 1).trans rfl, (blk_cell BK388.1 2).trans rfl, hx389_0, hx389_1, (Kd.foot_int (HR1.1 _ (by repeat (first | exact HK.1 | apply Kept.alloc | apply Kept.drewN | apply Kept.drew))) x10_1 (of_eq_true p390) (of_eq_true q390)), (Kd.foot_int (HR1.1 _ (by repeat (first | exact HK.1 | apply Kept.alloc | apply Kept.drewN | apply Kept.drew))) a2 (of_eq_true p391) (of_eq_true q391))⟩ (fun hHeld => ?_); refine with_tabW impl_turnGroup.tab4 impl_turnGroup.bits4 (fun HT_ HW_ => ?_)
       generalize wr.drew = w16 at HO_389002 BK388 HK HB hx389_0 hx389_1 hx390_0 hx391_0 hHeld ⊢
       refine pureF 0 (N := some 13) HT_.1 ?_
       refine pureF 2 (N := some 15) HT_.1 ?_
       refine takeE 1 (N := some 14) HT_.1 HW_.1 hHeld ?_
       refine pureF 3 (N := some 16) HT_.1 ?_
       refine pureF 4 (N := some 17) HT_.1 ?_
       refine takeE 5 (N := some 18) HT_.1 HW_.1 hHeld ?_
       refine pureF 6 (N := some 19) HT_.1 ?_
       refine pureF 7 (N := some 20) HT_.1 ?_
       refine pureF 8 (N := some 21) HT_.1 ?_
       refine pureF 9 (N := some 22) HT_.1 ?_
       refine pureF 10 (N := some 23) HT_.1 ?_
       refine pureF 12 (N := some 25) HT_.1 ?_
       refine pureF 13 (N := some 26) HT_.1 ?_
       refine pureF 14 (N := some 27) HT_.1 ?_
       refine takeE 11 (N := some 24) HT_.1 HW_.1 hHeld ?_
       refine takeE 15 (N := some 28) HT_.1 HW_.1 hHeld ?_
       refine pureF 16 (N := some 29) HT_.1 ?_
       refine pureF 17 (N := some 30) HT_.1 ?_
       refine done_ (done_of HT_.1 (by kernel_rfl)) ?_
       try go_wp2
       refine E4 (R_drew HO_389002.1) (blk_drew BK388.1) (Kept.drew HK.1) (below_drew1 HB.1) ?_
       clear HO_389002 BK388 HK HB
       intro HO_389002 BK388 HK HB
       have p392 : 0 <= (x10_1 : Int) := OD
       have q392 : x10_1 < (x389002_1.length : Int) := OD
       obtain ⟨ad392, e392, hx392_0, hx392_1⟩ := at_T98 (R_reads' HO_389002.1).2.2 x10_1 p392 q392
       obtain rfl : ad389 = ad392 := (by injection e392)
       replace p392 := eq_true p392
       replace q392 := eq_true q392
       have p15 : 0 <= (x10_1 : Int) := OD
       have q15 : (x10_1 : Int) < ((x389002_1.length : Int) : Int) := OD
       obtain ⟨go15, co15, eo15, gb15, gl15, cl15, HG15⟩ := R_form HO_389002.1 (by omega)
       (first | cases eo15 | (injection eo15 with ea_ en_ ec_; (first | subst ea_ | (injection ea_ with ea_; subst ea_)); subst ec_; clear en_))
       have GB15 := Aside0.mk gb15
       have GG15 := Aside0.mk HG15
       clear gb15 gl15 HG15
       have HMgo15 := Aside0.mk (show (P0_2_ go15 ∨ w.heap.size <= go15) from (HO_389002.1.1 _ rfl))
       (first | simp only [add_plain] at hx389_0 | skip)
       (first | simp only [add_plain] at hx389_1 | skip)
       (first | simp only [add_plain] at hx392_0 | skip)
       (first | simp only [add_plain] at hx392_1 | skip)
       obtain ⟨ce15, hcl15, hM15, hcc15, hfr15⟩ := R_elem HO_389002.1 z98 (x10_1 : Int) p15 q15
       obtain rfl := k98_openM hM15
       have hx15_0 : World.cell? _ ⟨go15, (x10_1 : Int).toNat * 2, none⟩ = some (.int .i64 ((rd_T98 x389002_1 x10_1).f0)) := hcc15 0 _ rfl
       have hx15_1 : World.cell? _ ⟨go15, (x10_1 : Int).toNat * 2 + 1, none⟩ = some (.int .i64 ((rd_T98 x389002_1 x10_1).f1)) := hcc15 1 _ rfl
       have hf15_0 : World.frozen? _ ⟨go15, (x10_1 : Int).toNat * 2, none⟩ = false := hfr15 0
       have hf15_1 : World.frozen? _ ⟨go15, (x10_1 : Int).toNat * 2 + 1, none⟩ = false := hfr15 1
       (try clear hM15); clear hcl15 hcc15 hfr15
       replace p15 := eq_true p15
       replace q15 := eq_true q15
       obtain ⟨ce18, hcl18, hM18, hcc18, hfr18⟩ := R_elem HO_389002.1 z98 (x10_1 : Int) (OD) (by have h_ : (x10_1 : Int) < ((x389002_1.length : Int) : Int) := OD; first | exact h_ | (have e_ := (R_reads' HO_389002.1).1; omega) | simpa using h_)
       obtain rfl := k98_openM hM18
       have HP18 := (R_seg HO_389002.1 (x10_1 : Int) (OD) (by have h_ : (x10_1 : Int) < ((x389002_1.length : Int) : Int) := OD; first | exact h_ | (have e_ := (R_reads' HO_389002.1).1; omega) | simpa using h_) (seg := [.int .i64 (wrap64 (1 - ((rd_T98 x389002_1 x10_1).f1)))]) (j := 1) hcl18 hcc18 (show 2 <= 2 from by decide) (x' := (⟨(rd_T98 x389002_1 x10_1).f0, wrap64 (1 - ((rd_T98 x389002_1 x10_1).f1))⟩ : S98)) (k98_mkM _ _ _ (⟨(rd_T98 x389002_1 x10_1).f0, wrap64 (1 - ((rd_T98 x389002_1 x10_1).f1))⟩ : S98) ) (fun _ hk => hk)).1
       rw [<- Ny393.1] at HP18
       have HQ18 := Aside0.mk HP18
       (try clear hM18); clear hcl18 hcc18 hfr18 HP18
       refine start_ (n := 13) (S := fun w' => w'.cell? ⟨gb388, 0, none⟩ = some (.int .i64 a0_0) /\ w'.cell? ⟨gb388, 1, none⟩ = some (.int .i64 a0_1) /\ w'.cell? ⟨gb388, 2, none⟩ = some (.slice (some ⟨go15, 0, none⟩) x389002_1.length co4) /\ w'.cell? ⟨go15, ((x10_1).toNat * 2), none⟩ = some (.int .i64 ((rd_T98 x389002_1 x10_1).f0)) /\ w'.cell? ⟨go15, ((x10_1).toNat * 2) + 1, none⟩ = some (.int .i64 ((rd_T98 x389002_1 x10_1).f1))) (ds := [12]) #[Zz,Zz,Zz,Zz,Zz,Zz,Zz,Zz,Zz,Zz,Zz,Zz,Zz] (by kernel_rfl) rfl rfl ⟨(blk_cell BK388.1 0).trans rfl, (blk_cell BK388.1 1).trans rfl, (blk_cell BK388.1 2).trans rfl, hx392_0, hx392_1⟩ (fun hHeld => ?_); refine with_tabW impl_turnGroup.tab5 impl_turnGroup.bits5 (fun HT_ HW_ => ?_)
       generalize w16.drew = w17 at HO_389002 BK388 HK HB GG15 HQ18 hf15_0 hf15_1 hx15_0 hx15_1 hx389_0 hx389_1 hx392_0 hx392_1 hHeld ⊢
       refine pureF 0 (N := some 31) HT_.1 ?_
       refine pureF 2 (N := some 33) HT_.1 ?_
       refine pureF 3 (N := some 34) HT_.1 ?_
       refine pureF 5 (N := some 36) HT_.1 ?_
       refine takeE 1 (N := some 32) HT_.1 HW_.1 hHeld ?_
       refine takeE 4 (N := some 35) HT_.1 HW_.1 hHeld ?_
       refine pureF 6 (N := some 37) HT_.1 ?_
       refine pureF 7 (N := some 38) HT_.1 ?_
       refine takeE 8 (N := some 39) HT_.1 HW_.1 hHeld ?_
       refine pureF 9 (N := some 40) HT_.1 ?_
       refine pureF 10 (N := some 41) HT_.1 ?_
       refine pureF 11 (N := some 42) HT_.1 ?_
       refine last_ (i := 12) (N := none) #[Yy,Yy,Yy,Yy,Yy,Yy,Yy,Yy,Yy,Yy,Yy,Yy,Yy] rfl rfl (one_of HT_.1 (by kernel_rfl)) (by decide) (fun K hK => ?_)
       refine skip_ (w1 := ?_) (by rfl) rfl ?_ ?_
       rotate_left
       · go_simp
         rfl
       refine hK.out _ _ ?_
       clear hK K
       refine done_ (done_of HT_.1 (by kernel_rfl)) ?_
       try go_wp2
       (try simp only [<- hl389002_1])
       go_roundg k1
       case measure => have := HK1.1; omega
       case rel => exact ⟨(wrap64 (x10_1 + 1)), (y393), RG, H', ⟨by have := HK1.1; omega⟩, ⟨PR1 HQ18.1 hl389002_1⟩, ⟨by (try simp only [hl389002_1]); (with_reducible repeat (first | refine blk_drewN ?_ _ | refine blk_drew ?_ | refine blk_alloc ?_ _)); refine blk_far ?_ (by have h_ := R_ne HO_389002.1 BK388.1 (by decide); intro e_; exact h_ (by rw [e_]; rfl)) _; (with_reducible repeat (first | refine blk_drewN ?_ _ | refine blk_drew ?_ | refine blk_alloc ?_ _)); exact BK388.1⟩, ⟨by repeat (first | (with_reducible first | exact HK.1 | apply Kept.alloc | apply Kept.drewN | apply Kept.drew | refine Kept.setCell ?_ HMgo15.1 _ | refine Kept.setCell ?_ (.inr GW388.1) _) | exact HK.1)⟩, ⟨BL HB.1⟩⟩
     have c14b0 := beq_eq_false_iff_ne.mpr c14
     have c14b1 := bne_iff_ne.mpr c14
     have H' := Aside0.mk H
     clear H
     try go_wp2
     refine E4 (R_drew HO_389002.1) (blk_drew BK388.1) (Kept.drew HK.1) (below_drew1 HB.1) ?_
     clear HO_389002 BK388 HK HB
     intro HO_389002 BK388 HK HB
     have p389 : 0 <= (x10_1 : Int) := OD
     have q389 : x10_1 < (x389002_1.length : Int) := OD
     obtain ⟨ad389, e389, hx389_0, hx389_1⟩ := at_T98 (R_reads' HO_389002.1).2.2 x10_1 p389 q389
     cases e389
     replace p389 := eq_true p389
     replace q389 := eq_true q389
     have p390 : 0 <= (x10_1 : Int) := OD
     have q390 : x10_1 < (l1.length : Int) := OD
     obtain ⟨ad390, e390, hx390_0⟩ := Kd.at_int (C_kept_now HR1.1 HK.1) x10_1 p390 q390
     have hw390_0 := hx390_0
     cases e390
     replace p390 := eq_true p390
     replace q390 := eq_true q390
     have p391 : 0 <= (a2 : Int) := OD
     have q391 : a2 < (l1.length : Int) := OD
     obtain ⟨ad391, e391, hx391_0⟩ := Kd.at_int (C_kept_now HR1.1 HK.1) a2 p391 q391
     have hw391_0 := hx391_0
     obtain rfl : ad390 = ad391 := (by injection e391)
     replace p391 := eq_true p391
     replace q391 := eq_true q391
     refine start_ (n := 18) (S := fun w' => w'.cell? ⟨gb388, 0, none⟩ = some (.int .i64 a0_0) /\ w'.cell? ⟨gb388, 1, none⟩ = some (.int .i64 a0_1) /\ w'.cell? ⟨gb388, 2, none⟩ = some (.slice (some ad389) x389002_1.length co4) /\ w'.cell? (ad389.add ((x10_1).toNat * 2)) = some (.int .i64 ((rd_T98 x389002_1 x10_1).f0)) /\ w'.cell? ⟨(ad389.add ((x10_1).toNat * 2)).block, (ad389.add ((x10_1).toNat * 2)).off + 1, none⟩ = some (.int .i64 ((rd_T98 x389002_1 x10_1).f1)) /\ w'.cell? (ad390.add (x10_1).toNat) = some (.int .i64 (rd l1 x10_1)) /\ w'.cell? (ad390.add (a2).toNat) = some (.int .i64 (rd l1 a2))) (ds := []) #[Zz,Zz,Zz,Zz,Zz,Zz,Zz,Zz,Zz,Zz,Zz,Zz,Zz,Zz,Zz,Zz,Zz,Zz] (by kernel_rfl) rfl rfl ⟨(blk_cell BK388.1 0).trans rfl, (blk_cell BK388.1 1).trans rfl, (blk_cell BK388.1 2).trans rfl, hx389_0, hx389_1, (Kd.foot_int (HR1.1 _ (by repeat (first | exact HK.1 | apply Kept.alloc | apply Kept.drewN | apply Kept.drew))) x10_1 (of_eq_true p390) (of_eq_true q390)), (Kd.foot_int (HR1.1 _ (by repeat (first | exact HK.1 | apply Kept.alloc | apply Kept.drewN | apply Kept.drew))) a2 (of_eq_true p391) (of_eq_true q391))⟩ (fun hHeld => ?_); refine with_tabW impl_turnGroup.tab4 impl_turnGroup.bits4 (fun HT_ HW_ => ?_)
     generalize wr.drew = w19 at HO_389002 BK388 HK HB hx389_0 hx389_1 hx390_0 hx391_0 hHeld ⊢
     refine pureF 0 (N := some 13) HT_.1 ?_
     refine pureF 2 (N := some 15) HT_.1 ?_
     refine takeE 1 (N := some 14) HT_.1 HW_.1 hHeld ?_
     refine pureF 3 (N := some 16) HT_.1 ?_
     refine pureF 4 (N := some 17) HT_.1 ?_
     refine takeE 5 (N := some 18) HT_.1 HW_.1 hHeld ?_
     refine pureF 6 (N := some 19) HT_.1 ?_
     refine pureF 7 (N := some 20) HT_.1 ?_
     refine pureF 8 (N := some 21) HT_.1 ?_
     refine pureF 9 (N := some 22) HT_.1 ?_
     refine pureF 10 (N := some 23) HT_.1 ?_
     refine pureF 12 (N := some 25) HT_.1 ?_
     refine pureF 13 (N := some 26) HT_.1 ?_
     refine pureF 14 (N := some 27) HT_.1 ?_
     refine takeE 11 (N := some 24) HT_.1 HW_.1 hHeld ?_
     refine takeE 15 (N := some 28) HT_.1 HW_.1 hHeld ?_
     refine pureF 16 (N := some 29) HT_.1 ?_
     refine pureF 17 (N := some 30) HT_.1 ?_
     refine done_ (done_of HT_.1 (by kernel_rfl)) ?_
     try go_wp2
     (try simp only [<- hl389002_1])
     go_roundg k1
     case measure => have := HK1.1; omega
     case rel => exact ⟨(wrap64 (x10_1 + 1)), (x389002_1), RG, H', ⟨by have := HK1.1; omega⟩, ⟨PR1 HO_389002.1 hl389002_1⟩, ⟨PB1 BK388.1 hl389002_1⟩, ⟨KL HK.1⟩, ⟨BL HB.1⟩⟩
   have c10b0 := beq_eq_false_iff_ne.mpr c10
   have c10b1 := bne_iff_ne.mpr c10
   have H' := Aside0.mk H
   clear H
   try go_wp2
   refine E4 (R_drew HO_389002.1) (blk_drew BK388.1) (Kept.drew HK.1) (below_drew1 HB.1) ?_
   clear HO_389002 BK388 HK HB
   intro HO_389002 BK388 HK HB
   have p389 : 0 <= (x10_1 : Int) := OD
   have q389 : x10_1 < (x389002_1.length : Int) := OD
   obtain ⟨ad389, e389, hx389_0, hx389_1⟩ := at_T98 (R_reads' HO_389002.1).2.2 x10_1 p389 q389
   cases e389
   replace p389 := eq_true p389
   replace q389 := eq_true q389
   refine start_ (n := 18) (S := fun w' => w'.cell? ⟨gb388, 0, none⟩ = some (.int .i64 a0_0) /\ w'.cell? ⟨gb388, 1, none⟩ = some (.int .i64 a0_1) /\ w'.cell? ⟨gb388, 2, none⟩ = some (.slice (some ad389) x389002_1.length co4) /\ w'.cell? (ad389.add ((x10_1).toNat * 2)) = some (.int .i64 ((rd_T98 x389002_1 x10_1).f0)) /\ w'.cell? ⟨(ad389.add ((x10_1).toNat * 2)).block, (ad389.add ((x10_1).toNat * 2)).off + 1, none⟩ = some (.int .i64 ((rd_T98 x389002_1 x10_1).f1))) (ds := []) #[Zz,Zz,Zz,Zz,Zz,Zz,Zz,Zz,Zz,Zz,Zz,Zz,Zz,Zz,Zz,Zz,Zz,Zz] (by kernel_rfl) rfl rfl ⟨(blk_cell BK388.1 0).trans rfl, (blk_cell BK388.1 1).trans rfl, (blk_cell BK388.1 2).trans rfl, hx389_0, hx389_1⟩ (fun hHeld => ?_); refine with_tabW impl_turnGroup.tab4 impl_turnGroup.bits4 (fun HT_ HW_ => ?_)
   generalize wr.drew = w20 at HO_389002 BK388 HK HB hx389_0 hx389_1 hHeld ⊢
   refine pureF 0 (N := some 13) HT_.1 ?_
   refine pureF 2 (N := some 15) HT_.1 ?_
   refine takeE 1 (N := some 14) HT_.1 HW_.1 hHeld ?_
   refine pureF 3 (N := some 16) HT_.1 ?_
   refine pureF 4 (N := some 17) HT_.1 ?_
   refine takeE 5 (N := some 18) HT_.1 HW_.1 hHeld ?_
   refine pureF 6 (N := some 19) HT_.1 ?_
   refine pureF 7 (N := some 20) HT_.1 ?_
   refine pure_ (i := 8) (N := some 21) (v := undef) (a' := ?_) #[Yy,Yy,Yy,Yy,Yy,Yy,Yy,Yy,Yy,Zz,Zz,Zz,Zz,Zz,Zz,Zz,Zz,Zz] rfl rfl (any_of HT_.1 (by kernel_rfl)) (fun _ _ _ h => h) (Or.inr ⟨by rfl, rfl⟩) ?_ ?_
   rotate_left
   · simp only [Act.put, List.setIfInBounds_toArray, List.set_cons_zero, List.set_cons_succ, i64_w, i32_w]
     rfl
   refine pure_ (i := 9) (N := some 22) (v := undef) (a' := ?_) #[Yy,Yy,Yy,Yy,Yy,Yy,Yy,Yy,Yy,Yy,Zz,Zz,Zz,Zz,Zz,Zz,Zz,Zz] rfl rfl (any_of HT_.1 (by kernel_rfl)) (fun _ _ _ h => h) (Or.inr ⟨by rfl, rfl⟩) ?_ ?_
   rotate_left
   · simp only [Act.put, List.setIfInBounds_toArray, List.set_cons_zero, List.set_cons_succ, i64_w, i32_w]
     rfl
   refine pure_ (i := 10) (N := some 23) (v := undef) (a' := ?_) #[Yy,Yy,Yy,Yy,Yy,Yy,Yy,Yy,Yy,Yy,Yy,Zz,Zz,Zz,Zz,Zz,Zz,Zz] rfl rfl (any_of HT_.1 (by kernel_rfl)) (fun _ _ _ h => h) (Or.inr ⟨by rfl, rfl⟩) ?_ ?_
   rotate_left
   · simp only [Act.put, List.setIfInBounds_toArray, List.set_cons_zero, List.set_cons_succ, i64_w, i32_w]
     rfl
   refine pure_ (i := 11) (N := some 24) (v := undef) (a' := ?_) #[Yy,Yy,Yy,Yy,Yy,Yy,Yy,Yy,Yy,Yy,Yy,Yy,Zz,Zz,Zz,Zz,Zz,Zz] rfl rfl (any_of HT_.1 (by kernel_rfl)) (fun _ _ _ h => h) (Or.inr ⟨by rfl, rfl⟩) ?_ ?_
   rotate_left
   · simp only [Act.put, List.setIfInBounds_toArray, List.set_cons_zero, List.set_cons_succ, i64_w, i32_w]
     rfl
   refine pure_ (i := 12) (N := some 25) (v := undef) (a' := ?_) #[Yy,Yy,Yy,Yy,Yy,Yy,Yy,Yy,Yy,Yy,Yy,Yy,Yy,Zz,Zz,Zz,Zz,Zz] rfl rfl (any_of HT_.1 (by kernel_rfl)) (fun _ _ _ h => h) (Or.inr ⟨by rfl, rfl⟩) ?_ ?_
   rotate_left
   · simp only [Act.put, List.setIfInBounds_toArray, List.set_cons_zero, List.set_cons_succ, i64_w, i32_w]
     rfl
   refine pure_ (i := 13) (N := some 26) (v := undef) (a' := ?_) #[Yy,Yy,Yy,Yy,Yy,Yy,Yy,Yy,Yy,Yy,Yy,Yy,Yy,Yy,Zz,Zz,Zz,Zz] rfl rfl (any_of HT_.1 (by kernel_rfl)) (fun _ _ _ h => h) (Or.inr ⟨by rfl, rfl⟩) ?_ ?_
   rotate_left
   · simp only [Act.put, List.setIfInBounds_toArray, List.set_cons_zero, List.set_cons_succ, i64_w, i32_w]
     rfl
   refine pure_ (i := 14) (N := some 27) (v := undef) (a' := ?_) #[Yy,Yy,Yy,Yy,Yy,Yy,Yy,Yy,Yy,Yy,Yy,Yy,Yy,Yy,Yy,Zz,Zz,Zz] rfl rfl (any_of HT_.1 (by kernel_rfl)) (fun _ _ _ h => h) (Or.inr ⟨by rfl, rfl⟩) ?_ ?_
   rotate_left
   · simp only [Act.put, List.setIfInBounds_toArray, List.set_cons_zero, List.set_cons_succ, i64_w, i32_w]
     rfl
   refine pure_ (i := 15) (N := some 28) (v := undef) (a' := ?_) #[Yy,Yy,Yy,Yy,Yy,Yy,Yy,Yy,Yy,Yy,Yy,Yy,Yy,Yy,Yy,Yy,Zz,Zz] rfl rfl (any_of HT_.1 (by kernel_rfl)) (fun _ _ _ h => h) (Or.inr ⟨by rfl, rfl⟩) ?_ ?_
   rotate_left
   · simp only [Act.put, List.setIfInBounds_toArray, List.set_cons_zero, List.set_cons_succ, i64_w, i32_w]
     rfl
   refine pure_ (i := 16) (N := some 29) (v := undef) (a' := ?_) #[Yy,Yy,Yy,Yy,Yy,Yy,Yy,Yy,Yy,Yy,Yy,Yy,Yy,Yy,Yy,Yy,Yy,Zz] rfl rfl (any_of HT_.1 (by kernel_rfl)) (fun _ _ _ h => h) (Or.inr ⟨by rfl, rfl⟩) ?_ ?_
   rotate_left
   · simp only [Act.put, List.setIfInBounds_toArray, List.set_cons_zero, List.set_cons_succ, i64_w, i32_w]
     rfl
   refine pureF 17 (N := some 30) HT_.1 ?_
   refine done_ (done_of HT_.1 (by kernel_rfl)) ?_
   try go_wp2
   (try simp only [<- hl389002_1])
   go_roundg k1
   case measure => have := HK1.1; omega
   case rel => exact ⟨(wrap64 (x10_1 + 1)), (x389002_1), RG, H', ⟨by have := HK1.1; omega⟩, ⟨PR1 HO_389002.1 hl389002_1⟩, ⟨PB1 BK388.1 hl389002_1⟩, ⟨KL HK.1⟩, ⟨BL HB.1⟩⟩
 (try simp only [hl389002_1] at c7b0)
 obtain rfl := Option.some.inj H
 go_wp2
 first | go_end0 | ((try simp only [Exit.inBlock, Exit.then]); refine bodyPost_ret (results_none rfl _ _ _) rfl ?_)
 exact ⟨RF, (by first | exact (PR HO_389002.1) | (simp only [hl389002_1]; exact (PR HO_389002.1))), BL HB.1, KL HK.1⟩
/-! ### impl_drop: function 69 -/
open Kd
mutual
def impl_drop.l0 : Nat -> List Int -> Int -> List Int -> Int -> Int -> Int -> Int -> List (S98) -> Option (Int × Int × Int × List Int × (List (S98)))
 | 0, _, _, _, _, _, _, _, _ => none
 | k + 1, x1, x2, x8, x9, x10, x395000, x395001, x395002 => if x10 < x395000 then (if x8.length < 17592186044416 then ((some (x8 ++ [wrap64 ((wrap64 (x10 * x395001)) + x2)] : List Int)).bind fun y399 => (if 0 <= (wrap64 ((wrap64 (x10 * x395001)) + x2)) then (if (wrap64 ((wrap64 (x10 * x395001)) + x2)) < (x395002.length : Int) then ((impl_GoesTo.f k ((rd_T98 x395002 (wrap64 ((wrap64 (x10 * x395001)) + x2))).f0) ((rd_T98 x395002 (wrap64 ((wrap64 (x10 * x395001)) + x2))).f1) x9).bind fun bt404 => (if bt404.2 = true then (if ((rd_T98 x395002 (wrap64 ((wrap64 (x10 * x395001)) + x2))).f0) = 3 then (impl_drop.j1 k x1 x2 y399 x10 (wrap64 ((wrap64 (x10 * x395001)) + x2)) bt404.1 x395000 x395001 (x395002.set ((wrap64 ((wrap64 (x10 * x395001)) + x2)) : Int).toNat (⟨(rd_T98 x395002 (wrap64 ((wrap64 (x10 * x395001)) + x2))).f0, wrap64 (1 - ((rd_T98 x395002 (wrap64 ((wrap64 (x10 * x395001)) + x2))).f1))⟩ : S98)) ((rd_T98 x395002 (wrap64 ((wrap64 (x10 * x395001)) + x2))).f0) ((rd_T98 x395002 (wrap64 ((wrap64 (x10 * x395001)) + x2))).f1)) else (impl_drop.j1 k x1 x2 y399 x10 (wrap64 ((wrap64 (x10 * x395001)) + x2)) bt404.1 x395000 x395001 x395002 ((rd_T98 x395002 (wrap64 ((wrap64 (x10 * x395001)) + x2))).f0) ((rd_T98 x395002 (wrap64 ((wrap64 (x10 * x395001)) + x2))).f1))) else (some (2, x10, x2, y399, x395002)))) else (none)) else (none))) else (none)) else (some (1, x395000, x2, x8, x395002))
def impl_drop.j1 : Nat -> List Int -> Int -> List Int -> Int -> Int -> Int -> Int -> Int -> List (S98) -> Int -> Int -> Option (Int × Int × Int × List Int × (List (S98)))
 | 0, _, _, _, _, _, _, _, _, _, _, _ => none
 | k + 1, x1, x2, x8, x10, x11, x13, x395000, x395001, x395002, x404000, x404001 => if x404000 = 6 then ((impl_turnGroup.f k x395000 x395001 x395002 x1 x11).bind fun t407 => (if (wrap64 (x2 + x13)) < 0 then (some (3, x10, wrap64 (x2 + x13), x8, t407)) else (if (wrap64 (x2 + x13)) ≥ x395001 then (some (3, x10, wrap64 (x2 + x13), x8, t407)) else (impl_drop.l0 k x1 (wrap64 (x2 + x13)) x8 (wrap64 (-x13)) (wrap64 (x10 + 1)) x395000 x395001 t407)))) else (if (wrap64 (x2 + x13)) < 0 then (some (3, x10, wrap64 (x2 + x13), x8, x395002)) else (if (wrap64 (x2 + x13)) ≥ x395001 then (some (3, x10, wrap64 (x2 + x13), x8, x395002)) else (impl_drop.l0 k x1 (wrap64 (x2 + x13)) x8 (wrap64 (-x13)) (wrap64 (x10 + 1)) x395000 x395001 x395002)))
end
def impl_drop.f (k : Nat) (a0_0 : Int) (a0_1 : Int) (l0_2 : List (S98)) (l1 : List Int) (a2 : Int) : Option (Int × Int × Int × List Int × (List (S98))) := impl_drop.l0 k l1 a2 (([] : List Int)) 0 0 a0_0 a0_1 l0_2
theorem impl_drop.mono_l : ∀ k, (∀ y0 y1 y2 y3 y4 y5 y6 y7, LeO (impl_drop.l0 k y0 y1 y2 y3 y4 y5 y6 y7) (impl_drop.l0 (k + 1) y0 y1 y2 y3 y4 y5 y6 y7)) /\ (∀ y0 y1 y2 y3 y4 y5 y6 y7 y8 y9 y10, LeO (impl_drop.j1 k y0 y1 y2 y3 y4 y5 y6 y7 y8 y9 y10) (impl_drop.j1 (k + 1) y0 y1 y2 y3 y4 y5 y6 y7 y8 y9 y10))
 | 0 => by refine ⟨?_, ?_⟩ <;> (intros; intro r h; first | (simp [impl_drop.l0] at h; done) | (simp [impl_drop.j1] at h; done))
 | k + 1 => by
  obtain ⟨ih0, ih1⟩ := impl_drop.mono_l k
  refine ⟨?_, ?_⟩ <;> (
   intros
   first | unfold impl_drop.l0 | unfold impl_drop.j1
   exact LM4 ih0 ih1 impl_GoesTo.mono impl_turnGroup.mono)
theorem impl_drop.mono : ∀ a0 a1 a2 a3 a4 k, LeO (impl_drop.f k a0 a1 a2 a3 a4) (impl_drop.f (k + 1) a0 a1 a2 a3 a4) := by
 intro a0 a1 a2 a3 a4 k
 obtain ⟨ih0, ih1⟩ := impl_drop.mono_l k
 unfold impl_drop.f
 exact LM4 ih0 ih1 impl_GoesTo.mono impl_turnGroup.mono
theorem impl_drop.calls (k : Nat) (a0_0 : Int) (a0_1 : Int) (P0_2_ : Nat -> Prop) (u9000_ : Value) (l0_2 : List (S98)) (A1 : Option Addr) (c1 : Nat) (l1 : List Int) (a2 : Int) (r1 : Int) (r2 : Int) (r3 : Int) (r4 : List Int) (r5 : List (S98)) (w0 w : World) (hB : Below w0.heap.size w0 w) (ho0_2 : Kd.R k98 98 w w0.heap.size P0_2_ u9000_ l0_2) (hr1 : ∀ W_, Kept w W_ (fun k_ => P0_2_ k_) -> Kd.C (Kd.int .i64) W_ A1 l1.length l1) (hc1 : l1.length <= c1) (h : impl_drop.f k a0_0 a0_1 l0_2 l1 a2 = some (r1, r2, r3, r4, r5)) :
 Calls Try.prog 69 #[.agg #[.int .i64 a0_0, .int .i64 a0_1, u9000_], .slice A1 l1.length c1, .int .i64 a2] w fun e w' => ∃ v3_ : Value, e = .returned (.tuple #[.agg #[.int .i64 r1, .int .i64 r2, .int .i64 r3], v3_]) /\ Kd.R (Kd.int .i64) 3 w' w0.heap.size (fun k_ => (P0_2_ k_ ∨ w.heap.size <= k_)) v3_ r4 /\ Kd.R k98 98 w' w0.heap.size (fun k_ => (P0_2_ k_ ∨ w.heap.size <= k_)) u9000_ r5 /\ Below w0.heap.size w0 w' /\ Kept w w' (fun k_ => P0_2_ k_) := by
 have hu33 := Try.underlying33
 have hu61 := Try.underlying61
 have hu98 := Try.underlying98
 have HO0_2 := Aside0.mk (show Kd.R k98 98 w w0.heap.size (fun k_ => (P0_2_ k_ ∨ w.heap.size <= k_)) u9000_ l0_2 from R_mono ho0_2 (fun k_ hk => (.inl hk)))
 have HR1 := Aside0.mk hr1
 have HC1 := Aside0.mk hc1
 clear hr1 hc1
 have HK := Aside0.mk (Kept.refl w (fun k_ => P0_2_ k_))
 have HW0 := Aside0.mk hB.size
 have HB := Aside0.mk hB
 clear hB
 have H := h
 clear h
 unfold impl_drop.f at H
 generalize hy396 : ((([] : List Int)) : List Int) = y396 at H
 have Ny396 := Aside0.mk hy396.symm; clear hy396
 have H' := Aside0.mk H
 clear H
 obtain ⟨Ao4, co4, eo4⟩ := R_slice HO0_2.1
 subst eo4
 go_enter Try.func69, Try.ntmps69
 go_wp2_with (first | ((with_reducible refine gate_dst (N := 3) rfl ?_); refine boxE (cs := #[.int .i64 a0_0, .int .i64 a0_1, .slice Ao4 l0_2.length co4]) (t := 33) ?_; intro gb394 hg w5 hbox hb; refine E6 (rB HO0_2.1 hb) (Kept.below (S := (fun k_ => P0_2_ k_)) (KL HK.1) hb) (bS HB.1 hb) (hbox) ((by rw [hg]; exact (by first | exact HK.1.1 | exact (show Kept w _ (fun k_ => P0_2_ k_) from KL HK.1).1) : w.heap.size <= gb394)) (gwM hg (bZ HB.1) : w0.heap.size <= gb394) ?_; clear HO0_2 HK HB; intro HO0_2 HK HB BK394 GW394 GE394; clear hb hbox hg) | ((with_reducible refine gate_dst (N := 6) rfl ?_); refine boxE (cs := #[.int .i64 0, .int .i64 0, .int .i64 0]) (t := 61) ?_; intro gb395 hg w6 hbox hb; refine E9 (rB HO0_2.1 hb) (bB BK394.1 hb) (Kept.below (S := (fun k_ => P0_2_ k_)) (KL HK.1) hb) (bS HB.1 hb) (hbox) ((by rw [hg]; exact (by first | exact HK.1.1 | exact (show Kept w _ (fun k_ => P0_2_ k_) from KL HK.1).1) : w.heap.size <= gb395)) (gwM hg (bZ HB.1) : w0.heap.size <= gb395) (nB BK394.1 hg) (nC BK394.1 hg) ?_; clear HO0_2 BK394 HK HB; intro HO0_2 BK394 HK HB BK395 GW395 GE395 NB394_395 NB395_394; clear hb hbox hg) | ((with_reducible refine gate_dst (N := 15) rfl ?_); refine R_lit (Kd.int .i64) _ 3 ?hg (N := 15) ?hd (xs := ([] : List Int)) (inner := []) (ok := fun _ => True) (okp := fun _ => True) ?hr ?hp (fun _ hk => hk) trivial (Below.refl _ _) (Nat.le_refl _) (by simp) ?_; (case hd => rfl); (case hg => rfl); (case hr => first | (go_simp; done) | (go_simp; rfl)); (case hp => exact (Reps.none _ _)); intro v397 w7 ho8 hb hg_ hnew_; clear hg_ hnew_; (first | rw [<- Ny396.1] at ho8 | (simp only [Int.reduceToNat] at ho8; rw [<- Ny396.1] at ho8)); refine E6 (rB HO0_2.1 hb) (R_lower (R_newM (M := fun k_ => (P0_2_ k_ ∨ w.heap.size <= k_)) ho8 (by first | exact HK.1.1 | exact (show Kept w _ (fun k_ => P0_2_ k_) from KL HK.1).1) (fun k_ h_ => .inr h_)) (bZ HB.1)) (bB BK394.1 hb) (bB BK395.1 hb) (Kept.below (S := (fun k_ => P0_2_ k_)) (KL HK.1) hb) (bS HB.1 hb) ?_; clear HO0_2 BK394 BK395 HK HB; intro HO0_2 HO398 BK394 BK395 HK HB; clear hb ho8))
 go_loopg [2, 8, 9, 10] k (fun kq v2 v8 v9 v10 w' => ∃ (x2_1 : Int) (x8_1 : List Int) (x9_1 : Int) (x10_1 : Int) (x395002_1 : List (S98)) (x396000_1 : Int) (x396001_1 : Int) (x396002_1 : Int), v2 = .int .i64 x2_1 /\ v9 = .int .i64 x9_1 /\ v10 = .int .i64 x10_1 /\ Aside0 (impl_drop.l0 kq l1 x2_1 x8_1 x9_1 x10_1 a0_0 a0_1 x395002_1 = some (r1, r2, r3, r4, r5)) /\ Aside0 (kq <= k) /\ Aside0 (Kd.R (Kd.int .i64) 3 w' w0.heap.size (fun k_ => (P0_2_ k_ ∨ w.heap.size <= k_)) v8 x8_1) /\ Aside0 (Kd.R k98 98 w' w0.heap.size (fun k_ => (P0_2_ k_ ∨ w.heap.size <= k_)) (.slice Ao4 l0_2.length co4) x395002_1) /\ Aside0 (w'.heap[gb394]? = some (.cells #[.int .i64 a0_0, .int .i64 a0_1, (.slice Ao4 l0_2.length co4)] 33 (0, 0))) /\ Aside0 (w'.heap[gb395]? = some (.cells #[.int .i64 x396000_1, .int .i64 x396001_1, .int .i64 x396002_1] 61 (0, 0))) /\ Aside0 (Kept w w' (fun k_ => P0_2_ k_)) /\ Aside0 (Below w0.heap.size w0 w'))
 case atStart => exact ⟨(a2), (y396), (0), (0), (l0_2), (0), (0), (0), RG, RG, RG, H', ⟨Nat.le_refl _⟩, ⟨RPE (R_mono HO398.1 (fun _ hk => hk.1))⟩, ⟨PR HO0_2.1⟩, ⟨PB BK394.1⟩, ⟨PB BK395.1⟩, ⟨KL HK.1⟩, ⟨BL HB.1⟩⟩
 clear H'
 try clear c1
 obtain ⟨x2_1, x8_1, x9_1, x10_1, x395002_1, x396000_1, x396001_1, x396002_1, rfl, rfl, rfl, HA, HK1, HO_8, HO_395002, BK394, BK395, HK, HB⟩ := hrel
 have hl395002_1 := (R_reads' HO_395002.1).1
 rw [hl395002_1] at HO_395002
 (try simp only [hl395002_1])
 (try simp only [hl395002_1] at BK394)
 (try simp only [hl395002_1] at BK395)
 (try simp only [hl395002_1] at HO_8)
 cases gk with
 | zero => exact absurd HA.1 (by simp [impl_drop.l0])
 | succ k1 => ?_
 have H := HA.1
 clear HA
 simp only [impl_drop.l0] at H
 replace H := ifB H; rcases H with ⟨c9b0, H⟩ | ⟨c9b0, H⟩
 · replace H := ifP H; obtain ⟨c10, H⟩ := H
   have LMc10 := Aside0.mk c10
   clear c10
   replace H := nameB H; obtain ⟨y399, Ny399, H⟩ := H
   obtain ⟨ji11, hji11⟩ : ∃ j_ : Int, (wrap64 ((wrap64 (x10_1 * a0_1)) + x2_1)) = j_ := ⟨_, rfl⟩
   replace H : (if 0 <= (ji11) then (if (ji11) < (x395002_1.length : Int) then ((impl_GoesTo.f k1 ((rd_T98 x395002_1 (ji11)).f0) ((rd_T98 x395002_1 (ji11)).f1) x9_1).bind fun bt404 => (if bt404.2 = true then (if ((rd_T98 x395002_1 (ji11)).f0) = 3 then (impl_drop.j1 k1 l1 x2_1 y399 x10_1 ji11 bt404.1 a0_0 a0_1 (x395002_1.set ((ji11) : Int).toNat (⟨(rd_T98 x395002_1 (ji11)).f0, wrap64 (1 - ((rd_T98 x395002_1 (ji11)).f1))⟩ : S98)) ((rd_T98 x395002_1 (ji11)).f0) ((rd_T98 x395002_1 (ji11)).f1)) else (impl_drop.j1 k1 l1 x2_1 y399 x10_1 ji11 bt404.1 a0_0 a0_1 x395002_1 ((rd_T98 x395002_1 (ji11)).f0) ((rd_T98 x395002_1 (ji11)).f1))) else (some (2, x10_1, x2_1, y399, x395002_1)))) else (none)) else (none)) = some (r1, r2, r3, r4, r5) := by first | (rw [hji11] at H; exact H) | (simp only [hji11] at H ⊢; exact H)
   (try rw [hji11] at Ny399)
   have hji11w : (IntKind.i64.wrap ((wrap64 (x10_1 * a0_1)) + x2_1)) = ji11 := (i64_w _).trans hji11
   replace H := ifN H; obtain ⟨c12b0, H⟩ := H
   replace H := ifN H; obtain ⟨c13b0, H⟩ := H
   replace H := bindA H; obtain ⟨⟨t404, t405⟩, A14, H⟩ := H
   dsimp only at H
   replace H := ifX H; rcases H with ⟨rfl, H⟩ | ⟨rfl, H⟩
   · have HC16 := Aside0.mk H
     clear H
     have hnb17 := NB394_395.1
     have hnc17 := NB395_394.1
     obtain ⟨hcz18_0, hcz18_1, hcz18_2, hfz18_0, hfz18_1, hfz18_2⟩ := cz3 BK394.1
     go_upto_if 51 with (first | ((with_reducible refine gate_builtin (b := .append) (xs := #[.tmp 28, .tmp 30]) rfl ?_); at_builtin; refine R_append (Kd.int .i64) (w0 := w0) w0.heap.size rfl (.tmp 28) (.tmp 30) 28 3 (.int .i64 0) 8 rfl Try.underlying28 info3 rfl (by decide) (by omega) u8 x8_1 ji11 [.int .i64 ji11] (fun k_ => (P0_2_ k_ ∨ w.heap.size <= k_)) (fun _ => False) rfl rfl ?aP (fun _ hk => hk.elim) ?aF ?aO ?aB ?aS ?aL ?_; (case aP => exact rfl); (case aB => exact (BL HB.1)); (case aF => exact (fun k_ hk => (.inr (Nat.le_trans (by first | exact HK.1.1 | exact (show Kept w _ (fun k_ => P0_2_ k_) from KL HK.1).1) hk)))); (case aO => exact (PR HO_8.1)); (case aS => exact (bZ HB.1)); (case aL => have := LMc10.1; omega); intro v400 w19 ho hb hg hat; rw [<- Ny399.1] at ho; refine E6 (R_over' (PR HO_395002.1) (R_typed (PR HO_8.1)) (by decide) hg) (bG BK394.1 hg (R_ne HO_8.1 BK394.1 (by decide))) (bG BK395.1 hg (R_ne HO_8.1 BK395.1 (by decide))) (hb) (Kept.of_grown (S := (fun k_ => P0_2_ k_)) hg (KL HK.1) (fun k_ e_ => (HO_8.1.1 k_ e_))) (ho) ?_; clear HO_395002 BK394 BK395 HB HK HO_8; intro HO_395002 BK394 BK395 HB HK HO401; clear ho hb hg hat; obtain ⟨hcz20_0, hcz20_1, hcz20_2, hfz20_0, hfz20_1, hfz20_2⟩ := cz3 BK394.1; have p402 : 0 <= ((ji11) : Int) := OD; have q402 : (ji11) < (x395002_1.length : Int) := OD; obtain ⟨ad402, e402, hx402_0, hx402_1⟩ := at_T98 (R_reads' HO_395002.1).2.2 (ji11) p402 q402; cases e402; replace p402 := eq_true p402; replace q402 := eq_true q402) | ((with_reducible refine gate_dst (N := 12) rfl ?_); refine boxE (cs := #[.int .i64 0, .int .i64 0]) (t := 98) ?_; intro gb403 hg w21 hbox hb; refine E13 (R_below (R_elderB (PR HO_395002.1) gb403 (Nat.le_of_eq hg.symm)) hb) (rB HO401.1 hb) (bB BK394.1 hb) (bB BK395.1 hb) (Kept.below (S := (fun k_ => P0_2_ k_)) (KL HK.1) hb) (bS HB.1 hb) (hbox) ((by rw [hg]; exact (by first | exact HK.1.1 | exact (show Kept w _ (fun k_ => P0_2_ k_) from KL HK.1).1) : w.heap.size <= gb403)) (gwM hg (bZ HB.1) : w0.heap.size <= gb403) (nB BK394.1 hg) (nC BK394.1 hg) (nB BK395.1 hg) (nC BK395.1 hg) ?_; clear HO_395002 HO401 BK394 BK395 HK HB; intro HO_395002 HO401 BK394 BK395 HK HB BK403 GW403 GE403 NB394_403 NB403_394 NB395_403 NB403_395; clear hb hbox hg; have hnb22 := NB403_394.1; have hnc22 := NB394_403.1; have hnb23 := NB403_395.1; have hnc23 := NB395_403.1; obtain ⟨hcz24_0, hcz24_1, hfz24_0, hfz24_1⟩ := cz2 BK403.1) | ((with_reducible refine gate_callee (f := 75) rfl ?_); refine goesL_ (some 40) rfl rfl Try.func75 (by kernel_rfl) rfl #[.agg #[.int .i64 ((rd_T98 x395002_1 (ji11)).f0), .int .i64 ((rd_T98 x395002_1 (ji11)).f1)], .int .i64 x9_1] rfl (by (try simp only [List.map_toArray, List.map_cons, List.map_nil]); first | done | (simp only [hji11]; rfl) | rfl | (simp only [List.length_drop, List.length_take]; rfl)) ?_; (with_reducible refine (impl_GoesTo.calls k1 ((rd_T98 x395002_1 (ji11)).f0) ((rd_T98 x395002_1 (ji11)).f1) x9_1 t404 true _ A14.1).mono ?_); rintro e w25 ⟨rfl, hb⟩; refine ⟨_, rfl, ?_⟩; refine E7 (R_below (by (with_reducible repeat (first | apply R_alloc | apply R_drewN | apply R_drew)); exact (R_mono (RQ gb403 1 (RQ gb403 0 (R_mono HO_395002.1 (fun k_ hk => (⟨hk, hk.2⟩ : _ /\ k_ ≠ gb403))) _) _) (fun _ h_ => h_.1))) hb) (R_below (by (with_reducible repeat (first | apply R_alloc | apply R_drewN | apply R_drew)); exact (R_mono (RQ gb403 1 (RQ gb403 0 (R_types HO401.1 BK403.1 (by decide)) _) _) (fun _ h_ => h_.1))) hb) (blk_below (g := gb394) (o := .cells #[.int .i64 a0_0, .int .i64 a0_1, .slice (some ad402) x395002_1.length co4] 33 (0, 0)) (PF1 NB394_403.1 BK394.1) hb) (blk_below (g := gb395) (o := .cells #[.int .i64 x396000_1, .int .i64 x396001_1, .int .i64 x396002_1] 61 (0, 0)) (PF1 NB395_403.1 BK395.1) hb) (blk_below (g := gb403) (o := .cells #[.int .i64 ((rd_T98 x395002_1 (ji11)).f0), .int .i64 ((rd_T98 x395002_1 (ji11)).f1)] 98 (0, 0)) (PF0 BK403.1) hb) (Kept.below (S := (fun k_ => P0_2_ k_)) (KL HK.1) hb) (bS HB.1 hb) ?_; clear HO_395002 HO401 BK394 BK395 BK403 HK HB; intro HO_395002 HO401 BK394 BK395 BK403 HK HB; (try clear hb); (try clear hk); obtain ⟨hcz26_0, hcz26_1, hfz26_0, hfz26_1⟩ := cz2 BK403.1))
     (try simp only [Act.put, List.setIfInBounds_toArray, List.set_cons_zero, List.set_cons_succ])
     go_cut [] (fun wc => ∃ (kq : Nat) (x395002_15 : List (S98)) (x404001_15 : Int), Aside0 (impl_drop.j1 kq l1 x2_1 y399 x10_1 ji11 t404 a0_0 a0_1 x395002_15 ((rd_T98 x395002_1 (ji11)).f0) x404001_15 = some (r1, r2, r3, r4, r5)) /\ Aside0 (kq <= k1) /\ Aside0 (Kd.R (Kd.int .i64) 3 wc w0.heap.size (fun k_ => (P0_2_ k_ ∨ w.heap.size <= k_)) v400 y399) /\ Aside0 (Kd.R k98 98 wc w0.heap.size (fun k_ => (P0_2_ k_ ∨ w.heap.size <= k_) /\ k_ ≠ gb403) (.slice (some ad402) x395002_1.length co4) x395002_15) /\ Aside0 (wc.heap[gb394]? = some (.cells #[.int .i64 a0_0, .int .i64 a0_1, (.slice (some ad402) x395002_1.length co4)] 33 (0, 0))) /\ Aside0 (wc.heap[gb395]? = some (.cells #[.int .i64 x396000_1, .int .i64 x396001_1, .int .i64 x396002_1] 61 (0, 0))) /\ Aside0 (wc.heap[gb403]? = some (.cells #[.int .i64 ((rd_T98 x395002_1 (ji11)).f0), .int .i64 x404001_15] 98 (0, 0))) /\ Aside0 (Kept w wc (fun k_ => P0_2_ k_)) /\ Aside0 (Below w0.heap.size w0 wc))
     case first =>
      have H := HC16.1
      clear HC16
      replace H := ifQ H; rcases H with ⟨c27, H⟩ | ⟨c27, H⟩
      · have c27b0 := beq_iff_eq.mpr c27
        have c27b1 := bne_eq_false_iff_eq.mpr c27
        clear c27
        (first | rw [c27b0] | (simp only [i64_w, i32_w]; rw [c27b0]) | skip)
        generalize hy406 : ((x395002_1.set ((ji11) : Int).toNat (⟨(rd_T98 x395002_1 (ji11)).f0, wrap64 (1 - ((rd_T98 x395002_1 (ji11)).f1))⟩ : S98)) : List (S98)) = y406 at H
        have Ny406 := Aside0.mk hy406.symm; clear hy406
        have H' := Aside0.mk H
        clear H
        obtain ⟨hcz31_0, hcz31_1, hcz31_2, hfz31_0, hfz31_1, hfz31_2⟩ := cz3 BK394.1
        obtain ⟨hcz33_0, hcz33_1, hfz33_0, hfz33_1⟩ := cz2 BK403.1
        have p28 : 0 <= ((ji11) : Int) := OD
        have q28 : ((ji11) : Int) < ((x395002_1.length : Int) : Int) := OD
        obtain ⟨go28, co28, eo28, gb28, gl28, cl28, HG28⟩ := R_form HO_395002.1 (by omega)
        (first | cases eo28 | (injection eo28 with ea_ en_ ec_; (first | subst ea_ | (injection ea_ with ea_; subst ea_)); subst ec_; clear en_))
        have GB28 := Aside0.mk gb28
        have GG28 := Aside0.mk HG28
        clear gb28 gl28 HG28
        have HMgo28 := Aside0.mk (show (P0_2_ go28 ∨ w.heap.size <= go28) from (HO_395002.1.1 _ rfl).1)
        (first | simp only [add_plain] at hx402_0 | skip)
        (first | simp only [add_plain] at hx402_1 | skip)
        obtain ⟨ce28, hcl28, hM28, hcc28, hfr28⟩ := R_elem HO_395002.1 z98 ((ji11) : Int) p28 q28
        obtain rfl := k98_openM hM28
        have hx28_0 : w25.cell? ⟨go28, ((ji11) : Int).toNat * 2, none⟩ = some (.int .i64 ((rd_T98 x395002_1 (ji11)).f0)) := hcc28 0 _ rfl
        have hx28_1 : w25.cell? ⟨go28, ((ji11) : Int).toNat * 2 + 1, none⟩ = some (.int .i64 ((rd_T98 x395002_1 (ji11)).f1)) := hcc28 1 _ rfl
        have hf28_0 : w25.frozen? ⟨go28, ((ji11) : Int).toNat * 2, none⟩ = false := hfr28 0
        have hf28_1 : w25.frozen? ⟨go28, ((ji11) : Int).toNat * 2 + 1, none⟩ = false := hfr28 1
        (try clear hM28); clear hcl28 hcc28 hfr28
        replace p28 := eq_true p28
        replace q28 := eq_true q28
        have HX34 := Aside0.mk (show Kd.R k98 98 w25 w0.heap.size (fun k_ => (P0_2_ k_ ∨ w.heap.size <= k_) /\ k_ ≠ gb403) (.slice (some ⟨go28, 0, none⟩) x395002_1.length co4) x395002_1 from (PR HO_395002.1))
        obtain ⟨ce34, hcl34, hM34, hcc34, hfr34⟩ := R_elem HX34.1 z98 ((ji11) : Int) (OD) (by have h_ : ((ji11) : Int) < ((x395002_1.length : Int) : Int) := OD; first | exact h_ | (have e_ := (R_reads' HO_395002.1).1; omega) | simpa using h_)
        obtain rfl := k98_openM hM34
        have HP34 := R_seg HX34.1 ((ji11) : Int) (OD) (by have h_ : ((ji11) : Int) < ((x395002_1.length : Int) : Int) := OD; first | exact h_ | (have e_ := (R_reads' HO_395002.1).1; omega) | simpa using h_) (seg := [.int .i64 (wrap64 (1 - ((rd_T98 x395002_1 (ji11)).f1)))]) (j := 1) hcl34 hcc34 (show 2 <= 2 from by decide) (x' := (⟨(rd_T98 x395002_1 (ji11)).f0, wrap64 (1 - ((rd_T98 x395002_1 (ji11)).f1))⟩ : S98)) (k98_mkM _ _ _ (⟨(rd_T98 x395002_1 (ji11)).f0, wrap64 (1 - ((rd_T98 x395002_1 (ji11)).f1))⟩ : S98) ) (fun _ hk => hk)
        have hx34_1 := hcc34 1 _ rfl
        (try simp only [show (k98).sz = 2 from rfl, Nat.mul_one, Nat.add_zero] at hx34_1)
        have hf34_1 := hfr34 1
        (try simp only [show (k98).sz = 2 from rfl, Nat.mul_one, Nat.add_zero] at hf34_1)
        (try clear hM34); clear hcl34 hcc34 hfr34
        go_wp2_with (first | ((with_reducible refine gate_store (t := 3) (p := 59) rfl ?_); refine storeE (t := 3) (p := 59) (w1 := (w25.setCell ⟨go28, ((ji11) : Int).toNat * 2 + 1, none⟩ (.int .i64 (wrap64 (1 - ((rd_T98 x395002_1 (ji11)).f1)))))) ?_; intro w35 hw; have hg : w25.grownBy w35 (some go28) := (by rw [hw]; exact HP34.2); have hp_ : Kd.R k98 98 w35 w0.heap.size (fun k_ => (P0_2_ k_ ∨ w.heap.size <= k_) /\ k_ ≠ gb403) (.slice (some ⟨go28, 0, none⟩) x395002_1.length co4) y406 := (by rw [hw, Ny406.1]; exact HP34.1); clear HP34; refine E7 (hp_) (bG BK394.1 hg (R_ne HO_395002.1 BK394.1 (by decide))) (bG BK395.1 hg (R_ne HO_395002.1 BK395.1 (by decide))) (R_over' (v := (.slice (some ⟨go28, 0, none⟩) x395002_1.length co4)) (PR HO401.1) (R_typed HO_395002.1) (by decide) hg) (bG BK403.1 hg (R_away HO_395002.1 (fun _ hk => hk.2))) ((by rw [hw]; exact below_set (HB.1) GB28.1 : Below w0.heap.size w0 w35)) (Kept.of_grown (S := (fun k_ => P0_2_ k_)) hg (KL HK.1) (fun k_ e_ => (HO_395002.1.1 k_ e_).1)) ?_; clear HO_395002 BK394 BK395 HO401 BK403 HB HK; intro HO_395002 BK394 BK395 HO401 BK403 HB HK; clear hg hw hp_))
        go_meet
        case rel => exact ⟨_, (y406), ((rd_T98 x395002_1 (ji11)).f1), H', ⟨by have := HK1.1; first | omega | exact Nat.le_refl _⟩, ⟨PR1 HO401.1 hl395002_1⟩, ⟨PR1 HO_395002.1 hl395002_1⟩, ⟨PB1 BK394.1 hl395002_1⟩, ⟨PB1 BK395.1 hl395002_1⟩, ⟨PB1 BK403.1 hl395002_1⟩, ⟨KL HK.1⟩, ⟨BL HB.1⟩⟩
      have c27b0 := beq_eq_false_iff_ne.mpr c27
      have c27b1 := bne_iff_ne.mpr c27
      (first | rw [c27b0] | (simp only [i64_w, i32_w]; rw [c27b0]) | skip)
      have H' := Aside0.mk H
      clear H
      go_wp2
      go_meet
      case rel => exact ⟨_, (x395002_1), ((rd_T98 x395002_1 (ji11)).f1), H', ⟨by have := HK1.1; first | omega | exact Nat.le_refl _⟩, ⟨PR1 HO401.1 hl395002_1⟩, ⟨PR1 HO_395002.1 hl395002_1⟩, ⟨PB1 BK394.1 hl395002_1⟩, ⟨PB1 BK395.1 hl395002_1⟩, ⟨PB1 BK403.1 hl395002_1⟩, ⟨KL HK.1⟩, ⟨BL HB.1⟩⟩
     clear HC16
     try clear hx402_0; try clear hx402_1; try clear p402; try clear q402; clear c9b0 c12b0 c13b0 hcz18_0 hcz18_1 hcz18_2 hcz20_0 hcz20_1 hcz20_2 hcz24_0 hcz24_1 hcz26_0 hcz26_1 hfz18_0 hfz18_1 hfz18_2 hfz20_0 hfz20_1 hfz20_2 hfz24_0 hfz24_1 hfz26_0 hfz26_1
     obtain ⟨kq, x395002_15, x404001_15, HA, HJ15, HO_8, HO_395002, BK394, BK395, BK403, HK, HB⟩ := hcut
     have hl395002_15 := (R_reads' HO_395002.1).1
     rw [hl395002_15] at HO_395002
     (try simp only [hl395002_15])
     (try simp only [hl395002_15] at BK394)
     (try simp only [hl395002_15] at BK395)
     (try simp only [hl395002_15] at BK403)
     (try simp only [hl395002_15] at HO_8)
     cases kq with
     | zero => exact absurd HA.1 (by simp [impl_drop.j1])
     | succ kj15 => ?_
     have H := HA.1
     clear HA
     simp only [impl_drop.j1] at H
     replace H := ifQ H; rcases H with ⟨c36, H⟩ | ⟨c36, H⟩
     · have c36b0 := beq_iff_eq.mpr c36
       have c36b1 := bne_eq_false_iff_eq.mpr c36
       clear c36
       replace H := bindA H; obtain ⟨t407, A37, H⟩ := H
       replace H := ifB H; rcases H with ⟨c38b0, H⟩ | ⟨c38b0, H⟩
       · simp only [Option.some.injEq, Prod.mk.injEq] at H
         obtain ⟨rfl, rfl, rfl, rfl, rfl⟩ := H
         obtain ⟨hcz41_0, hcz41_1, hfz41_0, hfz41_1⟩ := cz2 BK403.1
         obtain ⟨hcz43_0, hcz43_1, hcz43_2, hfz43_0, hfz43_1, hfz43_2⟩ := cz3 BK394.1
         go_wp2_with (first | ((with_reducible refine gate_callee (f := 76) rfl ?_); refine goesL_ (some 66) rfl rfl Try.func76 (by kernel_rfl) rfl #[.agg #[.int .i64 a0_0, .int .i64 a0_1, .slice (some ad402) x395002_15.length co4], .slice A1 l1.length c1, .int .i64 ji11] rfl (by (try simp only [List.map_toArray, List.map_cons, List.map_nil]); first | done | (simp only [hji11]; rfl) | rfl | (simp only [List.length_drop, List.length_take]; rfl)) ?_; (with_reducible refine (impl_turnGroup.calls kj15 a0_0 a0_1 (fun k_ => some k_ = (.slice (some ad402) x395002_15.length co4 : Value).ownBlock) (.slice (some ad402) x395002_15.length co4) x395002_15 _ _ l1 ji11 t407 w0 _ ?side1 ?side2 ?side3 ?side4 A37.1).mono ?_); (case side1 => exact BL HB.1); (case side2 => exact R_tight rfl HO_395002.1); (case side3 => exact C_kept_call HR1.1 (KL HK.1) (fun k_ hs_ => (fun e_ => (HO_395002.1.1 k_ e_.symm).1) hs_)); (case side4 => exact HC1.1); rintro e w44 ⟨rfl, hy0, hb, hkp⟩; refine ⟨_, rfl, ?_⟩; refine E7 (R_mono (ok' := fun k_ => (P0_2_ k_ ∨ w.heap.size <= k_)) (R_keptB ((R_apart' HO_8.1 (R_typed HO_395002.1) (by decide))) hkp (fun k_ hk_ hs_ => (hk_.2) hs_)) (fun k_ hk_ => hk_.1.1)) (R_reok rfl hy0 (fun k_ e_ => HO_395002.1.1 k_ e_)) (blk_kept (PB BK394.1) hkp (fun hs_ => (fun e_ => (R_ne HO_395002.1 BK394.1 (by decide)) e_) hs_)) (blk_kept (PB BK395.1) hkp (fun hs_ => (fun e_ => (R_ne HO_395002.1 BK395.1 (by decide)) e_) hs_)) (blk_kept (PB BK403.1) hkp (fun hs_ => (fun e_ => (R_away HO_395002.1 (fun _ hk => hk.2)) e_) hs_)) (Kept.then_ (S := (fun k_ => P0_2_ k_)) (KL HK.1) hkp (fun k_ hs_ => (fun e_ => (HO_395002.1.1 k_ e_.symm).1) hs_)) (hb) ?_; clear HO_8 HO_395002 BK394 BK395 BK403 HK HB; intro HO_8 HO_395002 BK394 BK395 BK403 HK HB; (try clear hb); (try clear hkp); (try clear hy0); obtain ⟨hcz45_0, hcz45_1, hcz45_2, hfz45_0, hfz45_1, hfz45_2⟩ := cz3 BK395.1))
         refine bodyPost_ret (results_ct rfl _ _ gb395 61 #[.int .i64 3, .int .i64 x10_1, .int .i64 (wrap64 (x2_1 + t404))] (0, 0) _ rfl (PF0 BK395.1) Try.underlying61 rfl (by kernel_rfl)) rfl ?_
         exact ⟨_, by first | rfl | (simp [errW_none, errW_some] <;> rfl) | (simp only [<- hji11]; first | rfl | (simp [errW_none, errW_some] <;> rfl)) | (simp [*, errW_none, errW_some] <;> rfl), by (with_reducible repeat (first | apply R_alloc | apply R_drewN | apply R_drew)); exact R_mono (RQ gb395 2 (RQ gb395 1 (RQ gb395 0 (R_types HO_8.1 BK395.1 (by decide)) _) _) _) (fun _ hk => hk.1), (by first | exact (by (with_reducible repeat (first | apply R_alloc | apply R_drewN | apply R_drew)); exact R_mono (RQ gb395 2 (RQ gb395 1 (RQ gb395 0 (R_types HO_395002.1 BK395.1 (by decide)) _) _) _) (fun _ hk => hk.1.1)) | (simp only [hl395002_1, hl395002_15]; exact (by (with_reducible repeat (first | apply R_alloc | apply R_drewN | apply R_drew)); exact R_mono (RQ gb395 2 (RQ gb395 1 (RQ gb395 0 (R_types HO_395002.1 BK395.1 (by decide)) _) _) _) (fun _ hk => hk.1.1)))), BL HB.1, KL HK.1⟩
       replace H := ifQ H; rcases H with ⟨c46, H⟩ | ⟨c46, H⟩
       · have c46b0 : decide (a0_1 <= (wrap64 (x2_1 + t404))) = true := decide_eq_true c46
         clear c46
         simp only [Option.some.injEq, Prod.mk.injEq] at H
         obtain ⟨rfl, rfl, rfl, rfl, rfl⟩ := H
         obtain ⟨hcz49_0, hcz49_1, hfz49_0, hfz49_1⟩ := cz2 BK403.1
         obtain ⟨hcz51_0, hcz51_1, hcz51_2, hfz51_0, hfz51_1, hfz51_2⟩ := cz3 BK394.1
         go_wp2_with (first | ((with_reducible refine gate_callee (f := 76) rfl ?_); refine goesL_ (some 66) rfl rfl Try.func76 (by kernel_rfl) rfl #[.agg #[.int .i64 a0_0, .int .i64 a0_1, .slice (some ad402) x395002_15.length co4], .slice A1 l1.length c1, .int .i64 ji11] rfl (by (try simp only [List.map_toArray, List.map_cons, List.map_nil]); first | done | (simp only [hji11]; rfl) | rfl | (simp only [List.length_drop, List.length_take]; rfl)) ?_; (with_reducible refine (impl_turnGroup.calls kj15 a0_0 a0_1 (fun k_ => some k_ = (.slice (some ad402) x395002_15.length co4 : Value).ownBlock) (.slice (some ad402) x395002_15.length co4) x395002_15 _ _ l1 ji11 t407 w0 _ ?side1 ?side2 ?side3 ?side4 A37.1).mono ?_); (case side1 => exact BL HB.1); (case side2 => exact R_tight rfl HO_395002.1); (case side3 => exact C_kept_call HR1.1 (KL HK.1) (fun k_ hs_ => (fun e_ => (HO_395002.1.1 k_ e_.symm).1) hs_)); (case side4 => exact HC1.1); rintro e w52 ⟨rfl, hy0, hb, hkp⟩; refine ⟨_, rfl, ?_⟩; refine E7 (R_mono (ok' := fun k_ => (P0_2_ k_ ∨ w.heap.size <= k_)) (R_keptB ((R_apart' HO_8.1 (R_typed HO_395002.1) (by decide))) hkp (fun k_ hk_ hs_ => (hk_.2) hs_)) (fun k_ hk_ => hk_.1.1)) (R_reok rfl hy0 (fun k_ e_ => HO_395002.1.1 k_ e_)) (blk_kept (PB BK394.1) hkp (fun hs_ => (fun e_ => (R_ne HO_395002.1 BK394.1 (by decide)) e_) hs_)) (blk_kept (PB BK395.1) hkp (fun hs_ => (fun e_ => (R_ne HO_395002.1 BK395.1 (by decide)) e_) hs_)) (blk_kept (PB BK403.1) hkp (fun hs_ => (fun e_ => (R_away HO_395002.1 (fun _ hk => hk.2)) e_) hs_)) (Kept.then_ (S := (fun k_ => P0_2_ k_)) (KL HK.1) hkp (fun k_ hs_ => (fun e_ => (HO_395002.1.1 k_ e_.symm).1) hs_)) (hb) ?_; clear HO_8 HO_395002 BK394 BK395 BK403 HK HB; intro HO_8 HO_395002 BK394 BK395 BK403 HK HB; (try clear hb); (try clear hkp); (try clear hy0); obtain ⟨hcz53_0, hcz53_1, hcz53_2, hfz53_0, hfz53_1, hfz53_2⟩ := cz3 BK394.1; obtain ⟨hcz54_0, hcz54_1, hcz54_2, hfz54_0, hfz54_1, hfz54_2⟩ := cz3 BK395.1))
         refine bodyPost_ret (results_ct rfl _ _ gb395 61 #[.int .i64 3, .int .i64 x10_1, .int .i64 (wrap64 (x2_1 + t404))] (0, 0) _ rfl (PF0 BK395.1) Try.underlying61 rfl (by kernel_rfl)) rfl ?_
         exact ⟨_, by first | rfl | (simp [errW_none, errW_some] <;> rfl) | (simp only [<- hji11]; first | rfl | (simp [errW_none, errW_some] <;> rfl)) | (simp [*, errW_none, errW_some] <;> rfl), by (with_reducible repeat (first | apply R_alloc | apply R_drewN | apply R_drew)); exact R_mono (RQ gb395 2 (RQ gb395 1 (RQ gb395 0 (R_types HO_8.1 BK395.1 (by decide)) _) _) _) (fun _ hk => hk.1), (by first | exact (by (with_reducible repeat (first | apply R_alloc | apply R_drewN | apply R_drew)); exact R_mono (RQ gb395 2 (RQ gb395 1 (RQ gb395 0 (R_types HO_395002.1 BK395.1 (by decide)) _) _) _) (fun _ hk => hk.1.1)) | (simp only [hl395002_1, hl395002_15]; exact (by (with_reducible repeat (first | apply R_alloc | apply R_drewN | apply R_drew)); exact R_mono (RQ gb395 2 (RQ gb395 1 (RQ gb395 0 (R_types HO_395002.1 BK395.1 (by decide)) _) _) _) (fun _ hk => hk.1.1)))), BL HB.1, KL HK.1⟩
       have c46b0 : decide (a0_1 <= (wrap64 (x2_1 + t404))) = false := decide_eq_false c46
       clear c46
       have H' := Aside0.mk H
       clear H
       obtain ⟨hcz57_0, hcz57_1, hfz57_0, hfz57_1⟩ := cz2 BK403.1
       obtain ⟨hcz59_0, hcz59_1, hcz59_2, hfz59_0, hfz59_1, hfz59_2⟩ := cz3 BK394.1
       go_wp2_with (first | ((with_reducible refine gate_callee (f := 76) rfl ?_); refine goesL_ (some 66) rfl rfl Try.func76 (by kernel_rfl) rfl #[.agg #[.int .i64 a0_0, .int .i64 a0_1, .slice (some ad402) x395002_15.length co4], .slice A1 l1.length c1, .int .i64 ji11] rfl (by (try simp only [List.map_toArray, List.map_cons, List.map_nil]); first | done | (simp only [hji11]; rfl) | rfl | (simp only [List.length_drop, List.length_take]; rfl)) ?_; (with_reducible refine (impl_turnGroup.calls kj15 a0_0 a0_1 (fun k_ => some k_ = (.slice (some ad402) x395002_15.length co4 : Value).ownBlock) (.slice (some ad402) x395002_15.length co4) x395002_15 _ _ l1 ji11 t407 w0 _ ?side1 ?side2 ?side3 ?side4 A37.1).mono ?_); (case side1 => exact BL HB.1); (case side2 => exact R_tight rfl HO_395002.1); (case side3 => exact C_kept_call HR1.1 (KL HK.1) (fun k_ hs_ => (fun e_ => (HO_395002.1.1 k_ e_.symm).1) hs_)); (case side4 => exact HC1.1); rintro e w60 ⟨rfl, hy0, hb, hkp⟩; refine ⟨_, rfl, ?_⟩; refine E7 (R_mono (ok' := fun k_ => (P0_2_ k_ ∨ w.heap.size <= k_)) (R_keptB ((R_apart' HO_8.1 (R_typed HO_395002.1) (by decide))) hkp (fun k_ hk_ hs_ => (hk_.2) hs_)) (fun k_ hk_ => hk_.1.1)) (R_reok rfl hy0 (fun k_ e_ => HO_395002.1.1 k_ e_)) (blk_kept (PB BK394.1) hkp (fun hs_ => (fun e_ => (R_ne HO_395002.1 BK394.1 (by decide)) e_) hs_)) (blk_kept (PB BK395.1) hkp (fun hs_ => (fun e_ => (R_ne HO_395002.1 BK395.1 (by decide)) e_) hs_)) (blk_kept (PB BK403.1) hkp (fun hs_ => (fun e_ => (R_away HO_395002.1 (fun _ hk => hk.2)) e_) hs_)) (Kept.then_ (S := (fun k_ => P0_2_ k_)) (KL HK.1) hkp (fun k_ hs_ => (fun e_ => (HO_395002.1.1 k_ e_.symm).1) hs_)) (hb) ?_; clear HO_8 HO_395002 BK394 BK395 BK403 HK HB; intro HO_8 HO_395002 BK394 BK395 BK403 HK HB; (try clear hb); (try clear hkp); (try clear hy0); obtain ⟨hcz61_0, hcz61_1, hcz61_2, hfz61_0, hfz61_1, hfz61_2⟩ := cz3 BK394.1))
       (try simp only [<- hl395002_1, <- hl395002_15])
       go_roundg kj15
       case measure => have := HK1.1; have := HJ15.1; omega
       case rel => exact ⟨(wrap64 (x2_1 + t404)), (y399), (wrap64 (-t404)), (wrap64 (x10_1 + 1)), (t407), (x396000_1), (x396001_1), (x396002_1), RG, RG, RG, H', ⟨by have := HK1.1; have := HJ15.1; omega⟩, ⟨PR2 HO_8.1 hl395002_1 hl395002_15⟩, ⟨by (try simp only [hl395002_1]); (try simp only [hl395002_15]); (with_reducible repeat (first | apply R_alloc | apply R_drewN | apply R_drew)); exact R_mono HO_395002.1 (fun _ hk => hk.1)⟩, ⟨PB2 BK394.1 hl395002_1 hl395002_15⟩, ⟨PB2 BK395.1 hl395002_1 hl395002_15⟩, ⟨KL HK.1⟩, ⟨BL HB.1⟩⟩
     have c36b0 := beq_eq_false_iff_ne.mpr c36
     have c36b1 := bne_iff_ne.mpr c36
     replace H := ifB H; rcases H with ⟨c62b0, H⟩ | ⟨c62b0, H⟩
     · simp only [Option.some.injEq, Prod.mk.injEq] at H
       obtain ⟨rfl, rfl, rfl, rfl, rfl⟩ := H
       obtain ⟨hcz65_0, hcz65_1, hfz65_0, hfz65_1⟩ := cz2 BK403.1
       obtain ⟨hcz67_0, hcz67_1, hcz67_2, hfz67_0, hfz67_1, hfz67_2⟩ := cz3 BK395.1
       go_wp2
       refine bodyPost_ret (results_ct rfl _ _ gb395 61 #[.int .i64 3, .int .i64 x10_1, .int .i64 (wrap64 (x2_1 + t404))] (0, 0) _ rfl (PF0 BK395.1) Try.underlying61 rfl (by kernel_rfl)) rfl ?_
       exact ⟨_, by first | rfl | (simp [errW_none, errW_some] <;> rfl) | (simp only [<- hji11]; first | rfl | (simp [errW_none, errW_some] <;> rfl)) | (simp [*, errW_none, errW_some] <;> rfl), by (with_reducible repeat (first | apply R_alloc | apply R_drewN | apply R_drew)); exact R_mono (RQ gb395 2 (RQ gb395 1 (RQ gb395 0 (R_types HO_8.1 BK395.1 (by decide)) _) _) _) (fun _ hk => hk.1), (by first | exact (by (with_reducible repeat (first | apply R_alloc | apply R_drewN | apply R_drew)); exact R_mono (RQ gb395 2 (RQ gb395 1 (RQ gb395 0 (R_types HO_395002.1 BK395.1 (by decide)) _) _) _) (fun _ hk => hk.1.1)) | (simp only [hl395002_1, hl395002_15]; exact (by (with_reducible repeat (first | apply R_alloc | apply R_drewN | apply R_drew)); exact R_mono (RQ gb395 2 (RQ gb395 1 (RQ gb395 0 (R_types HO_395002.1 BK395.1 (by decide)) _) _) _) (fun _ hk => hk.1.1)))), BL HB.1, KL HK.1⟩
     replace H := ifQ H; rcases H with ⟨c68, H⟩ | ⟨c68, H⟩
     · have c68b0 : decide (a0_1 <= (wrap64 (x2_1 + t404))) = true := decide_eq_true c68
       clear c68
       simp only [Option.some.injEq, Prod.mk.injEq] at H
       obtain ⟨rfl, rfl, rfl, rfl, rfl⟩ := H
       obtain ⟨hcz71_0, hcz71_1, hfz71_0, hfz71_1⟩ := cz2 BK403.1
       obtain ⟨hcz73_0, hcz73_1, hcz73_2, hfz73_0, hfz73_1, hfz73_2⟩ := cz3 BK394.1
       obtain ⟨hcz74_0, hcz74_1, hcz74_2, hfz74_0, hfz74_1, hfz74_2⟩ := cz3 BK395.1
       go_wp2
       refine bodyPost_ret (results_ct rfl _ _ gb395 61 #[.int .i64 3, .int .i64 x10_1, .int .i64 (wrap64 (x2_1 + t404))] (0, 0) _ rfl (PF0 BK395.1) Try.underlying61 rfl (by kernel_rfl)) rfl ?_
       exact ⟨_, by first | rfl | (simp [errW_none, errW_some] <;> rfl) | (simp only [<- hji11]; first | rfl | (simp [errW_none, errW_some] <;> rfl)) | (simp [*, errW_none, errW_some] <;> rfl), by (with_reducible repeat (first | apply R_alloc | apply R_drewN | apply R_drew)); exact R_mono (RQ gb395 2 (RQ gb395 1 (RQ gb395 0 (R_types HO_8.1 BK395.1 (by decide)) _) _) _) (fun _ hk => hk.1), (by first | exact (by (with_reducible repeat (first | apply R_alloc | apply R_drewN | apply R_drew)); exact R_mono (RQ gb395 2 (RQ gb395 1 (RQ gb395 0 (R_types HO_395002.1 BK395.1 (by decide)) _) _) _) (fun _ hk => hk.1.1)) | (simp only [hl395002_1, hl395002_15]; exact (by (with_reducible repeat (first | apply R_alloc | apply R_drewN | apply R_drew)); exact R_mono (RQ gb395 2 (RQ gb395 1 (RQ gb395 0 (R_types HO_395002.1 BK395.1 (by decide)) _) _) _) (fun _ hk => hk.1.1)))), BL HB.1, KL HK.1⟩
     have c68b0 : decide (a0_1 <= (wrap64 (x2_1 + t404))) = false := decide_eq_false c68
     clear c68
     have H' := Aside0.mk H
     clear H
     obtain ⟨hcz77_0, hcz77_1, hfz77_0, hfz77_1⟩ := cz2 BK403.1
     obtain ⟨hcz79_0, hcz79_1, hcz79_2, hfz79_0, hfz79_1, hfz79_2⟩ := cz3 BK394.1
     go_wp2
     (try simp only [<- hl395002_1, <- hl395002_15])
     go_roundg kj15
     case measure => have := HK1.1; have := HJ15.1; omega
     case rel => exact ⟨(wrap64 (x2_1 + t404)), (y399), (wrap64 (-t404)), (wrap64 (x10_1 + 1)), (x395002_15), (x396000_1), (x396001_1), (x396002_1), RG, RG, RG, H', ⟨by have := HK1.1; have := HJ15.1; omega⟩, ⟨PR2 HO_8.1 hl395002_1 hl395002_15⟩, ⟨by (try simp only [hl395002_1]); (try simp only [hl395002_15]); (with_reducible repeat (first | apply R_alloc | apply R_drewN | apply R_drew)); exact R_mono HO_395002.1 (fun _ hk => hk.1)⟩, ⟨PB2 BK394.1 hl395002_1 hl395002_15⟩, ⟨PB2 BK395.1 hl395002_1 hl395002_15⟩, ⟨KL HK.1⟩, ⟨BL HB.1⟩⟩
   simp only [Option.some.injEq, Prod.mk.injEq] at H
   obtain ⟨rfl, rfl, rfl, rfl, rfl⟩ := H
   have hnb80 := NB394_395.1
   have hnc80 := NB395_394.1
   obtain ⟨hcz81_0, hcz81_1, hcz81_2, hfz81_0, hfz81_1, hfz81_2⟩ := cz3 BK394.1
   go_wp2_with (first | ((with_reducible refine gate_builtin (b := .append) (xs := #[.tmp 28, .tmp 30]) rfl ?_); at_builtin; refine R_append (Kd.int .i64) (w0 := w0) w0.heap.size rfl (.tmp 28) (.tmp 30) 28 3 (.int .i64 0) 8 rfl Try.underlying28 info3 rfl (by decide) (by omega) u8 x8_1 ji11 [.int .i64 ji11] (fun k_ => (P0_2_ k_ ∨ w.heap.size <= k_)) (fun _ => False) rfl rfl ?aP (fun _ hk => hk.elim) ?aF ?aO ?aB ?aS ?aL ?_; (case aP => exact rfl); (case aB => exact (BL HB.1)); (case aF => exact (fun k_ hk => (.inr (Nat.le_trans (by first | exact HK.1.1 | exact (show Kept w _ (fun k_ => P0_2_ k_) from KL HK.1).1) hk)))); (case aO => exact (PR HO_8.1)); (case aS => exact (bZ HB.1)); (case aL => have := LMc10.1; omega); intro v400 w82 ho hb hg hat; rw [<- Ny399.1] at ho; refine E6 (R_over' (PR HO_395002.1) (R_typed (PR HO_8.1)) (by decide) hg) (bG BK394.1 hg (R_ne HO_8.1 BK394.1 (by decide))) (bG BK395.1 hg (R_ne HO_8.1 BK395.1 (by decide))) (hb) (Kept.of_grown (S := (fun k_ => P0_2_ k_)) hg (KL HK.1) (fun k_ e_ => (HO_8.1.1 k_ e_))) (ho) ?_; clear HO_395002 BK394 BK395 HB HK HO_8; intro HO_395002 BK394 BK395 HB HK HO401; clear ho hb hg hat; obtain ⟨hcz83_0, hcz83_1, hcz83_2, hfz83_0, hfz83_1, hfz83_2⟩ := cz3 BK394.1; have p402 : 0 <= ((ji11) : Int) := OD; have q402 : (ji11) < (x395002_1.length : Int) := OD; obtain ⟨ad402, e402, hx402_0, hx402_1⟩ := at_T98 (R_reads' HO_395002.1).2.2 (ji11) p402 q402; cases e402; replace p402 := eq_true p402; replace q402 := eq_true q402) | ((with_reducible refine gate_dst (N := 12) rfl ?_); refine boxE (cs := #[.int .i64 0, .int .i64 0]) (t := 98) ?_; intro gb403 hg w84 hbox hb; refine E13 (R_below (R_elderB (PR HO_395002.1) gb403 (Nat.le_of_eq hg.symm)) hb) (rB HO401.1 hb) (bB BK394.1 hb) (bB BK395.1 hb) (Kept.below (S := (fun k_ => P0_2_ k_)) (KL HK.1) hb) (bS HB.1 hb) (hbox) ((by rw [hg]; exact (by first | exact HK.1.1 | exact (show Kept w _ (fun k_ => P0_2_ k_) from KL HK.1).1) : w.heap.size <= gb403)) (gwM hg (bZ HB.1) : w0.heap.size <= gb403) (nB BK394.1 hg) (nC BK394.1 hg) (nB BK395.1 hg) (nC BK395.1 hg) ?_; clear HO_395002 HO401 BK394 BK395 HK HB; intro HO_395002 HO401 BK394 BK395 HK HB BK403 GW403 GE403 NB394_403 NB403_394 NB395_403 NB403_395; clear hb hbox hg; have hnb85 := NB403_394.1; have hnc85 := NB394_403.1; have hnb86 := NB403_395.1; have hnc86 := NB395_403.1; obtain ⟨hcz87_0, hcz87_1, hfz87_0, hfz87_1⟩ := cz2 BK403.1) | ((with_reducible refine gate_callee (f := 75) rfl ?_); refine goesL_ (some 40) rfl rfl Try.func75 (by kernel_rfl) rfl #[.agg #[.int .i64 ((rd_T98 x395002_1 (ji11)).f0), .int .i64 ((rd_T98 x395002_1 (ji11)).f1)], .int .i64 x9_1] rfl (by (try simp only [List.map_toArray, List.map_cons, List.map_nil]); first | done | (simp only [hji11]; rfl) | rfl | (simp only [List.length_drop, List.length_take]; rfl)) ?_; (with_reducible refine (impl_GoesTo.calls k1 ((rd_T98 x395002_1 (ji11)).f0) ((rd_T98 x395002_1 (ji11)).f1) x9_1 t404 false _ A14.1).mono ?_); rintro e w88 ⟨rfl, hb⟩; refine ⟨_, rfl, ?_⟩; refine E7 (R_below (by (with_reducible repeat (first | apply R_alloc | apply R_drewN | apply R_drew)); exact (R_mono (RQ gb403 1 (RQ gb403 0 (R_mono HO_395002.1 (fun k_ hk => (⟨hk, hk.2⟩ : _ /\ k_ ≠ gb403))) _) _) (fun _ h_ => h_.1))) hb) (R_below (by (with_reducible repeat (first | apply R_alloc | apply R_drewN | apply R_drew)); exact (R_mono (RQ gb403 1 (RQ gb403 0 (R_types HO401.1 BK403.1 (by decide)) _) _) (fun _ h_ => h_.1))) hb) (blk_below (g := gb394) (o := .cells #[.int .i64 a0_0, .int .i64 a0_1, .slice (some ad402) x395002_1.length co4] 33 (0, 0)) (PF1 NB394_403.1 BK394.1) hb) (blk_below (g := gb395) (o := .cells #[.int .i64 x396000_1, .int .i64 x396001_1, .int .i64 x396002_1] 61 (0, 0)) (PF1 NB395_403.1 BK395.1) hb) (blk_below (g := gb403) (o := .cells #[.int .i64 ((rd_T98 x395002_1 (ji11)).f0), .int .i64 ((rd_T98 x395002_1 (ji11)).f1)] 98 (0, 0)) (PF0 BK403.1) hb) (Kept.below (S := (fun k_ => P0_2_ k_)) (KL HK.1) hb) (bS HB.1 hb) ?_; clear HO_395002 HO401 BK394 BK395 BK403 HK HB; intro HO_395002 HO401 BK394 BK395 BK403 HK HB; (try clear hb); (try clear hk); obtain ⟨hcz89_0, hcz89_1, hcz89_2, hfz89_0, hfz89_1, hfz89_2⟩ := cz3 BK395.1))
   refine bodyPost_ret (results_ct rfl _ _ gb395 61 #[.int .i64 2, .int .i64 x10_1, .int .i64 x2_1] (0, 0) _ rfl (PF0 BK395.1) Try.underlying61 rfl (by kernel_rfl)) rfl ?_
   exact ⟨_, by first | rfl | (simp [errW_none, errW_some] <;> rfl) | (simp only [<- hji11]; first | rfl | (simp [errW_none, errW_some] <;> rfl)) | (simp [*, errW_none, errW_some] <;> rfl), by (with_reducible repeat (first | apply R_alloc | apply R_drewN | apply R_drew)); exact R_mono (RQ gb395 2 (RQ gb395 1 (RQ gb395 0 (R_types HO401.1 BK395.1 (by decide)) _) _) _) (fun _ hk => hk.1), (by first | exact (by (with_reducible repeat (first | apply R_alloc | apply R_drewN | apply R_drew)); exact R_mono (RQ gb395 2 (RQ gb395 1 (RQ gb395 0 (R_types HO_395002.1 BK395.1 (by decide)) _) _) _) (fun _ hk => hk.1.1)) | (simp only [hl395002_1]; exact (by (with_reducible repeat (first | apply R_alloc | apply R_drewN | apply R_drew)); exact R_mono (RQ gb395 2 (RQ gb395 1 (RQ gb395 0 (R_types HO_395002.1 BK395.1 (by decide)) _) _) _) (fun _ hk => hk.1.1)))), BL HB.1, KL HK.1⟩
 simp only [Option.some.injEq, Prod.mk.injEq] at H
 obtain ⟨rfl, rfl, rfl, rfl, rfl⟩ := H
 have hnb90 := NB394_395.1
 have hnc90 := NB395_394.1
 obtain ⟨hcz91_0, hcz91_1, hcz91_2, hfz91_0, hfz91_1, hfz91_2⟩ := cz3 BK394.1
 obtain ⟨hcz92_0, hcz92_1, hcz92_2, hfz92_0, hfz92_1, hfz92_2⟩ := cz3 BK395.1
 go_wp2
 refine bodyPost_ret (results_ct rfl _ _ gb395 61 #[.int .i64 1, .int .i64 a0_0, .int .i64 x2_1] (0, 0) _ rfl (PF0 BK395.1) Try.underlying61 rfl (by kernel_rfl)) rfl ?_
 exact ⟨_, RF, by (with_reducible repeat (first | apply R_alloc | apply R_drewN | apply R_drew)); exact R_mono (RQ gb395 2 (RQ gb395 1 (RQ gb395 0 (R_types HO_8.1 BK395.1 (by decide)) _) _) _) (fun _ hk => hk.1), (by first | exact (by (with_reducible repeat (first | apply R_alloc | apply R_drewN | apply R_drew)); exact R_mono (RQ gb395 2 (RQ gb395 1 (RQ gb395 0 (R_types HO_395002.1 BK395.1 (by decide)) _) _) _) (fun _ hk => hk.1)) | (simp only [hl395002_1]; exact (by (with_reducible repeat (first | apply R_alloc | apply R_drewN | apply R_drew)); exact R_mono (RQ gb395 2 (RQ gb395 1 (RQ gb395 0 (R_types HO_395002.1 BK395.1 (by decide)) _) _) _) (fun _ hk => hk.1)))), BL HB.1, KL HK.1⟩
-- NOT PRINTED: function 55 (impl_stepOn)

end Go.Proofs.Ythnehlphifegaaa.P
