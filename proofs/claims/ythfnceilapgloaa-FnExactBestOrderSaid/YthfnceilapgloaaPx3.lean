-- PRINTED by print.py (a twelfth state) out of the translation. Not trusted: Lean checks it.
import Derived.Test.YthfnceilapgloaaPx0
import Derived.Test.YthfnceilapgloaaPx2
namespace Go.Proofs.Ythfnceilapgloaa.P
open Go.RowKit Go.Proofs.YthfnceilapgloaaW.PrintWords Go.Proofs.YthfnceilapgloaaW.PrintLast Go.Proofs.YthfnceilapgloaaW.PrintMore
attribute [local go_sem] max2_int min2_int max_two min_two max_three min_three max_four min_four   -- for this text's walks alone
set_option linter.unusedVariables false
set_option linter.unusedSimpArgs false
set_option maxHeartbeats 8000000
set_option maxRecDepth 100000

/-! ### spec_ddReorder: function 17 -/
open Kd
mutual
def spec_ddReorder.l0 : Nat -> List Int -> Int -> Int -> Int -> List Int -> Int -> List Int -> Option (Int × List Int)
 | 0, _, _, _, _, _, _, _ => none
 | k + 1, x1, x15, x16, x142000, x142001, x144000, x144001 => if x16 < x15 then (spec_ddReorder.l1 k x1 x16 0 x15 x16 x1 (x1.length : Int) 0 x142000 x142001 x144000 x144001) else (some (x144000, x144001))
def spec_ddReorder.l1 : Nat -> List Int -> Int -> Int -> Int -> Int -> List Int -> Int -> Int -> Int -> List Int -> Int -> List Int -> Option (Int × List Int)
 | 0, _, _, _, _, _, _, _, _, _, _, _, _ => none
 | k + 1, x1, x6, x7, x15, x16, x19, x20, x21, x142000, x142001, x144000, x144001 => if x21 < x20 then (if 0 <= x21 then (if x21 < (x19.length : Int) then ((spec_ttBit.f x6 x21).bind fun t145 => (if 0 <= (IntKind.u64.wrap (rd x19 x21)) then (spec_ddReorder.l1 k x1 x6 (wrap64 (x7 + (shl .i64 t145 (IntKind.u64.wrap (rd x19 x21))))) x15 x16 x19 x20 (wrap64 (x21 + 1)) x142000 x142001 x144000 x144001) else (none))) else (none)) else (none)) else (if 0 <= x7 then (if x7 < (x142001.length : Int) then (if x144001.length < 17592186044416 then (spec_ddReorder.l0 k x1 x15 (wrap64 (x16 + 1)) x142000 x142001 x144000 (x144001 ++ [rd x142001 x7])) else (none)) else (none)) else (none))
end
def spec_ddReorder.f (k : Nat) (a0_0 : Int) (l0_1 : List Int) (l1 : List Int) : Option (Int × List Int) := spec_ddReorder.l0 k l1 (l0_1.length : Int) 0 a0_0 l0_1 a0_0 ([] : List Int)
theorem spec_ddReorder.mono_l : ∀ k, (∀ y0 y1 y2 y3 y4 y5 y6, LeO (spec_ddReorder.l0 k y0 y1 y2 y3 y4 y5 y6) (spec_ddReorder.l0 (k + 1) y0 y1 y2 y3 y4 y5 y6)) /\ (∀ y0 y1 y2 y3 y4 y5 y6 y7 y8 y9 y10 y11, LeO (spec_ddReorder.l1 k y0 y1 y2 y3 y4 y5 y6 y7 y8 y9 y10 y11) (spec_ddReorder.l1 (k + 1) y0 y1 y2 y3 y4 y5 y6 y7 y8 y9 y10 y11))
 | 0 => by refine ⟨?_, ?_⟩ <;> (intros; intro r h; first | (simp [spec_ddReorder.l0] at h; done) | (simp [spec_ddReorder.l1] at h; done))
 | k + 1 => by
  obtain ⟨ih0, ih1⟩ := spec_ddReorder.mono_l k
  refine ⟨?_, ?_⟩ <;> (
   intros
   first | unfold spec_ddReorder.l0 | unfold spec_ddReorder.l1
   exact LM2 ih0 ih1)
theorem spec_ddReorder.mono : ∀ a0 a1 a2 k, LeO (spec_ddReorder.f k a0 a1 a2) (spec_ddReorder.f (k + 1) a0 a1 a2) := by
 intro a0 a1 a2 k
 obtain ⟨ih0, ih1⟩ := spec_ddReorder.mono_l k
 unfold spec_ddReorder.f
 exact LM2 ih0 ih1
def spec_ddReorder.T11 : Bool × List (List Nat × List Nat) := (true, [([], []), ([0], [0]), ([], []), ([2], [2]), ([], []), ([3, 4], [3, 4]), ([5], [5]), ([6], [6]), ([1, 7], [1, 7]), ([0, 1, 2, 3, 4, 5, 6, 7, 8], []), ([9, 8, 8, 0, 1, 2, 3, 4, 5, 6, 7, 8], [8, 9])])
def spec_ddReorder.B11 : List Nat := [0, 1, 0, 4, 0, 28, 60, 124, 255, 511, 1023]
theorem spec_ddReorder.tab11 : rtab .any (opsOf Try.f17 11) = spec_ddReorder.T11 := by kernel_rfl
theorem spec_ddReorder.bits11 : waitsOk spec_ddReorder.T11.2 spec_ddReorder.B11 = true := by kernel_rfl
theorem spec_ddReorder.calls (k : Nat) (a0_0 : Int) (A0_1 : Option Addr) (c0_1 : Nat) (l0_1 : List Int) (A1 : Option Addr) (c1 : Nat) (l1 : List Int) (r1 : Int) (r2 : List Int) (w : World) (hr0_1 : Kd.C (Kd.int .i64) w A0_1 l0_1.length l0_1) (hc0_1 : l0_1.length <= c0_1) (hr1 : Kd.C (Kd.int .i64) w A1 l1.length l1) (hc1 : l1.length <= c1) (h : spec_ddReorder.f k a0_0 l0_1 l1 = some (r1, r2)) :
 Calls Try.prog 17 #[.agg #[.int .i64 a0_0, .slice A0_1 l0_1.length c0_1], .slice A1 l1.length c1] w fun e w' => ∃ v1_ : Value, e = .returned (.agg #[.int .i64 r1, v1_]) /\ Kd.R (Kd.int .i64) 3 w' w.heap.size (fun _ => True) v1_ r2 /\ Below w.heap.size w w' := by
 have hu28 := Try.underlying28
 have HR0_1 := Aside0.mk hr0_1
 have HC0_1 := Aside0.mk hc0_1
 clear hr0_1 hc0_1
 have HR1 := Aside0.mk hr1
 have HC1 := Aside0.mk hc1
 clear hr1 hc1
 have HB := Aside0.mk (Below.refl w.heap.size w)
 have H := h
 clear h
 unfold spec_ddReorder.f at H
 have H' := Aside0.mk H
 clear H
 go_enter Try.func17, Try.ntmps17
 go_wp2_with (first | ((with_reducible refine gate_dst (N := 2) rfl ?_); refine boxE (cs := #[.int .i64 a0_0, .slice A0_1 l0_1.length c0_1]) (t := 28) ?_; intro gb141 hg w3 hbox hb; refine E4b HB.1 hg hbox hb ?_; clear HB; intro HB BK141 GW141 GE141; clear hb hbox hg) | ((with_reducible refine gate_dst (N := 4) rfl ?_); refine boxE (cs := #[.int .i64 0, .slice none 0 0]) (t := 28) ?_; intro gb142 hg w4 hbox hb; refine E7 (bB BK141.1 hb) (bS HB.1 hb) (hbox) (gX HB.1 hg) (gX HB.1 hg) (nB BK141.1 hg) (nC BK141.1 hg) ?_; clear BK141 HB; intro BK141 HB BK142 GW142 GE142 NB141_142 NB142_141; clear hb hbox hg; have hnb5 := NB141_142.1; have hnc5 := NB142_141.1; obtain ⟨hcz6_0, hcz6_1, hfz6_0, hfz6_1⟩ := cz2 BK141.1) | ((with_reducible refine gate_dst (N := 5) rfl ?_); refine boxE (cs := #[.int .i64 0, .slice none 0 0]) (t := 28) ?_; intro gb143 hg w7 hbox hb; refine E10 (bB BK141.1 hb) (bB BK142.1 hb) (bS HB.1 hb) (hbox) (gX HB.1 hg) (gX HB.1 hg) (nB BK141.1 hg) (nC BK141.1 hg) (nB BK142.1 hg) (nC BK142.1 hg) ?_; clear BK141 BK142 HB; intro BK141 BK142 HB BK143 GW143 GE143 NB141_143 NB143_141 NB142_143 NB143_142; clear hb hbox hg; have hnb8 := NB143_141.1; have hnc8 := NB141_143.1; have hnb9 := NB143_142.1; have hnc9 := NB142_143.1; obtain ⟨hcz10_0, hcz10_1, hfz10_0, hfz10_1⟩ := cz2 BK143.1; obtain ⟨hcz11_0, hcz11_1, hfz11_0, hfz11_1⟩ := cz2 BK141.1))
 go_loopg [16] k (fun kq v16 w' => ∃ (x16_1 : Int) (x144001_1 : List Int) (u144001 : Value), v16 = .int .i64 x16_1 /\ Aside0 (spec_ddReorder.l0 kq l1 (l0_1.length : Int) x16_1 a0_0 l0_1 a0_0 x144001_1 = some (r1, r2)) /\ Aside0 (kq <= k) /\ Aside0 (Kd.R (Kd.int .i64) 3 w' w.heap.size (fun _ => True) u144001 x144001_1) /\ Aside0 (w'.heap[gb141]? = some (.cells #[.int .i64 a0_0, (.slice A0_1 l0_1.length c0_1)] 28 (0, 0))) /\ Aside0 (w'.heap[gb142]? = some (.cells #[.int .i64 0, (.slice none 0 0)] 28 (0, 0))) /\ Aside0 (w'.heap[gb143]? = some (.cells #[.int .i64 a0_0, u144001] 28 (0, 0))) /\ Aside0 (Below w.heap.size w w'))
 case atStart => exact ⟨(0), (([] : List Int)), (.slice none 0 0), RG, H', ⟨Nat.le_refl _⟩, ⟨by first | exact R_nil _ _ _ _ _ | exact N_nil _ _ _ _ _ | exact V_nil _ _ _ _ _ | exact Q_nil _ _ _ _ _ | exact S_nil _ _ _ _ _⟩, ⟨by (with_reducible repeat (first | refine blk_drewN ?_ _ | refine blk_drew ?_ | refine blk_alloc ?_ _)); refine blk_far ?_ NB141_143.1 _; (with_reducible repeat (first | refine blk_drewN ?_ _ | refine blk_drew ?_ | refine blk_alloc ?_ _)); refine blk_far ?_ NB141_143.1 _; (with_reducible repeat (first | refine blk_drewN ?_ _ | refine blk_drew ?_ | refine blk_alloc ?_ _)); exact BK141.1⟩, ⟨by (with_reducible repeat (first | refine blk_drewN ?_ _ | refine blk_drew ?_ | refine blk_alloc ?_ _)); refine blk_far ?_ NB142_143.1 _; (with_reducible repeat (first | refine blk_drewN ?_ _ | refine blk_drew ?_ | refine blk_alloc ?_ _)); refine blk_far ?_ NB142_143.1 _; (with_reducible repeat (first | refine blk_drewN ?_ _ | refine blk_drew ?_ | refine blk_alloc ?_ _)); exact BK142.1⟩, ⟨by (with_reducible repeat (first | refine blk_drewN ?_ _ | refine blk_drew ?_ | refine blk_alloc ?_ _)); refine blk_put (cs := #[.int .i64 a0_0, .slice none 0 0]) ?_ 1 _ rfl; (with_reducible repeat (first | refine blk_drewN ?_ _ | refine blk_drew ?_ | refine blk_alloc ?_ _)); refine blk_put (cs := #[.int .i64 0, .slice none 0 0]) ?_ 0 _ rfl; (with_reducible repeat (first | refine blk_drewN ?_ _ | refine blk_drew ?_ | refine blk_alloc ?_ _)); exact BK143.1⟩, ⟨BL HB.1⟩⟩
 clear H'
 try clear c1; clear hcz10_0 hcz10_1 hcz11_0 hcz11_1 hcz6_0 hcz6_1 hfz10_0 hfz10_1 hfz11_0 hfz11_1 hfz6_0 hfz6_1
 obtain ⟨x16_1, x144001_1, u144001, rfl, HA, HK1, HO_144001, BK141, BK142, BK143, HB⟩ := hrel
 cases gk with
 | zero => exact absurd HA.1 (by simp [spec_ddReorder.l0])
 | succ k1 => ?_
 have H := HA.1
 clear HA
 simp only [spec_ddReorder.l0] at H
 replace H := ifB H; rcases H with ⟨c12b0, H⟩ | ⟨c12b0, H⟩
 · have H' := Aside0.mk H
   clear H
   go_wp2
   go_loopg [7, 21] k1 (fun kq v7 v21 w' => ∃ (x7_2 : Int) (x21_2 : Int), v7 = .int .i64 x7_2 /\ v21 = .int .i64 x21_2 /\ Aside0 (spec_ddReorder.l1 kq l1 x16_1 x7_2 (l0_1.length : Int) x16_1 l1 (l1.length : Int) x21_2 a0_0 l0_1 a0_0 x144001_1 = some (r1, r2)) /\ Aside0 (kq <= k1) /\ Aside0 (Kd.R (Kd.int .i64) 3 w' w.heap.size (fun _ => True) u144001 x144001_1) /\ Aside0 (w'.heap[gb141]? = some (.cells #[.int .i64 a0_0, (.slice A0_1 l0_1.length c0_1)] 28 (0, 0))) /\ Aside0 (w'.heap[gb142]? = some (.cells #[.int .i64 0, (.slice none 0 0)] 28 (0, 0))) /\ Aside0 (w'.heap[gb143]? = some (.cells #[.int .i64 a0_0, u144001] 28 (0, 0))) /\ Aside0 (Below w.heap.size w w'))
   case atStart => exact ⟨(0), (0), RG, RG, H', ⟨Nat.le_refl _⟩, ⟨PR HO_144001.1⟩, ⟨PB BK141.1⟩, ⟨PB BK142.1⟩, ⟨PB BK143.1⟩, ⟨BL HB.1⟩⟩
   clear H'
   try clear c12b0
   obtain ⟨x7_2, x21_2, rfl, rfl, HA, HK2, HO_144001, BK141, BK142, BK143, HB⟩ := hrel
   cases gk with
   | zero => exact absurd HA.1 (by simp [spec_ddReorder.l1])
   | succ k2 => ?_
   have H := HA.1
   clear HA
   simp only [spec_ddReorder.l1] at H
   replace H := ifB H; rcases H with ⟨c13b0, H⟩ | ⟨c13b0, H⟩
   · replace H := ifN H; obtain ⟨c14b0, H⟩ := H
     replace H := ifN H; obtain ⟨c15b0, H⟩ := H
     replace H := bindA H; obtain ⟨t145, A16, H⟩ := H
     obtain ⟨ji17, hji17⟩ : ∃ j_ : Int, (IntKind.u64.wrap (rd l1 x21_2)) = j_ := ⟨_, rfl⟩
     replace H : (if 0 <= (ji17) then (spec_ddReorder.l1 k2 l1 x16_1 (wrap64 (x7_2 + (shl .i64 t145 (ji17)))) (l0_1.length : Int) x16_1 l1 (l1.length : Int) (wrap64 (x21_2 + 1)) a0_0 l0_1 a0_0 x144001_1) else (none)) = some (r1, r2) := by first | (rw [hji17] at H; exact H) | (simp only [hji17] at H ⊢; exact H)
     (try rw [hji17] at A16)
     replace H := ifP H; obtain ⟨c18, H⟩ := H
     have c18b0 := eq_true c18
     have c18b1 := decide_eq_true c18
     clear c18
     obtain ⟨ji19, hji19⟩ : ∃ j_ : Int, (shl .i64 t145 (ji17)) = j_ := ⟨_, rfl⟩
     replace H : (spec_ddReorder.l1 k2 l1 x16_1 (wrap64 (x7_2 + (ji19))) (l0_1.length : Int) x16_1 l1 (l1.length : Int) (wrap64 (x21_2 + 1)) a0_0 l0_1 a0_0 x144001_1) = some (r1, r2) := by first | (rw [hji19] at H; exact H) | (simp only [hji19] at H ⊢; exact H)
     (try rw [hji19] at A16)
     have hji19_ : (IntKind.i64.wrap (t145 * 2 ^ min (ji17).toNat 64)) = ji19 := hji19
     have hji19z : (ji17) <= 64 -> (IntKind.i64.wrap (t145 * 2 ^ (ji17).toNat)) = ji19 := shl_small hji19
     have hji19y : (wrap64 (t145 * 2 ^ min (ji17).toNat 64)) = ji19 := (i64_w _).symm.trans hji19_
     have hji19x : (ji17) <= 64 -> (wrap64 (t145 * 2 ^ (ji17).toNat)) = ji19 := fun h_ => (i64_w _).symm.trans (hji19z h_)
     have H' := Aside0.mk H
     clear H
     have p144 : 0 <= (x21_2 : Int) := OD
     have q144 : x21_2 < (l1.length : Int) := OD
     obtain ⟨ad144, e144, hx144_0⟩ := Kd.at_int HR1.1 x21_2 p144 q144
     cases e144
     replace hx144_0 := (HB.1.cell (World.block_lt_of_cell? w _ hx144_0)).trans hx144_0
     replace p144 := eq_true p144
     replace q144 := eq_true q144
     go_wp2_with (first | ((with_reducible refine gate_callee (f := 28) rfl ?_); refine goesM (N := (some 29)) #[.int .i64 x16_1, .int .i64 x21_2] Try.func28 ?_; (with_reducible refine (spec_ttBit.calls x16_1 x21_2 t145 _ A16.1).mono ?_); rintro e w' ⟨rfl, ⟨nd, rfl⟩⟩; refine ⟨_, rfl, ?_⟩))
     go_roundg k2
     case measure => have := HK1.1; have := HK2.1; omega
     case rel => exact ⟨(wrap64 (x7_2 + (ji19))), (wrap64 (x21_2 + 1)), (by first | rfl | (simp; done) | (simp only [<- hji19] <;> (first | rfl | simp)) | (simp [*]; done)), RG, H', ⟨by have := HK1.1; have := HK2.1; omega⟩, ⟨PR HO_144001.1⟩, ⟨PB BK141.1⟩, ⟨PB BK142.1⟩, ⟨PB BK143.1⟩, ⟨BL HB.1⟩⟩
   replace H := ifN H; obtain ⟨c20b0, H⟩ := H
   replace H := ifN H; obtain ⟨c21b0, H⟩ := H
   replace H := ifP H; obtain ⟨c22, H⟩ := H
   have LMc22 := Aside0.mk c22
   clear c22
   generalize hy147 : ((x144001_1 ++ [rd l0_1 x7_2]) : List Int) = y147 at H
   have Ny147 := Aside0.mk hy147.symm; clear hy147
   have H' := Aside0.mk H
   clear H
   try go_wp2
   refine E5 (R_drew HO_144001.1) (blk_drew BK141.1) (blk_drew BK142.1) (blk_drew BK143.1) (below_drew1 HB.1) ?_
   clear HO_144001 BK141 BK142 BK143 HB
   intro HO_144001 BK141 BK142 BK143 HB
   have p146 : 0 <= (x7_2 : Int) := OD
   have q146 : x7_2 < (l0_1.length : Int) := OD
   obtain ⟨ad146, e146, hx146_0⟩ := Kd.at_int HR0_1.1 x7_2 p146 q146
   have hw146_0 := hx146_0
   cases e146
   replace hx146_0 := (HB.1.cell (World.block_lt_of_cell? w _ hx146_0)).trans hx146_0
   replace p146 := eq_true p146
   replace q146 := eq_true q146
   refine start_ (n := 11) (S := fun w' => w'.cell? ⟨gb143, 0, none⟩ = some (.int .i64 a0_0) /\ w'.cell? ⟨gb143, 1, none⟩ = some (u144001) /\ w'.cell? ⟨gb141, 0, none⟩ = some (.int .i64 a0_0) /\ w'.cell? ⟨gb141, 1, none⟩ = some (.slice (some ad146) l0_1.length c0_1) /\ w'.cell? (ad146.add (x7_2).toNat) = some (.int .i64 (rd l0_1 x7_2))) (ds := [10]) #[Zz,Zz,Zz,Zz,Zz,Zz,Zz,Zz,Zz,Zz,Zz] (by kernel_rfl) rfl rfl ⟨(blk_cell BK143.1 0).trans rfl, (blk_cell BK143.1 1).trans rfl, (blk_cell BK141.1 0).trans rfl, (blk_cell BK141.1 1).trans rfl, ((HB.1.cell (World.block_lt_of_cell? w _ hw146_0)).trans hw146_0)⟩ (fun hHeld => ?_); refine with_tabW spec_ddReorder.tab11 spec_ddReorder.bits11 (fun HT_ HW_ => ?_)
   generalize wr.drew = w23 at HO_144001 BK141 BK142 BK143 HB hx146_0 hHeld ⊢
   refine pureF 0 (N := some 35) HT_.1 ?_
   refine pureF 2 (N := some 37) HT_.1 ?_
   refine pureF 4 (N := some 39) HT_.1 ?_
   refine takeE 1 (N := some 36) HT_.1 HW_.1 hHeld ?_
   refine takeE 3 (N := some 38) HT_.1 HW_.1 hHeld ?_
   refine pureF 5 (N := some 40) HT_.1 ?_
   refine takeE 6 (N := some 41) HT_.1 HW_.1 hHeld ?_
   refine one_ (i := 7) (N := some 42) #[Yy,Yy,Yy,Yy,Yy,Yy,Yy,Yy,Zz,Zz,Zz] rfl rfl (one_of HT_.1 (by kernel_rfl)) (by decide) (fun K hK => ?_)
   refine value_ (w1 := ?_) (v := ?_) (by rfl) rfl ?_ ?_
   rotate_left 2
   · go_simp
     constructor
     · rfl
     rfl
   refine hK.out _ _ ⟨(blk_cell (blk_alloc BK143.1 _) 0).trans rfl, (blk_cell (blk_alloc BK143.1 _) 1).trans rfl, (blk_cell (blk_alloc BK141.1 _) 0).trans rfl, (blk_cell (blk_alloc BK141.1 _) 1).trans rfl, (World.cell?_alloc_lt _ _ _ (World.block_lt_of_cell? _ _ (((HB.1.cell (World.block_lt_of_cell? w _ hw146_0)).trans hw146_0)))).trans (((HB.1.cell (World.block_lt_of_cell? w _ hw146_0)).trans hw146_0))⟩ (fun hHeld => ?_)
   clear hK K
   refine norm_ (a' := ?_) ?_ ?_
   rotate_left
   · show Act.put _ (some 42) _ = _
     simp only [Act.put, List.setIfInBounds_toArray, List.set_cons_zero, List.set_cons_succ, i64_w, i32_w]
     rfl
   refine one_ (i := 8) (N := some 43) #[Yy,Yy,Yy,Yy,Yy,Yy,Yy,Yy,Yy,Zz,Zz] rfl rfl (one_of HT_.1 (by kernel_rfl)) (by decide) (fun K hK => ?_)
   refine R_append_step (Kd.int .i64) (w0 := w) w.heap.size (by rfl) (.tmp 36) (.tmp 42) 22 3 (.int .i64 0) 8 rfl Try.underlying22 info3 rfl (by decide) (by omega) u144001 x144001_1 (rd l0_1 x7_2) [.int .i64 (rd l0_1 x7_2)] (fun _ => True) (fun _ => False) rfl rfl ?aP (fun _ hk => hk.elim) ?aF ?aO ?aB ?aS ?aL ?_
   (case aP => exact rfl)
   (case aB => exact (BL HB.1))
   (case aF => exact (fun _ _ => trivial))
   (case aO => exact (PR HO_144001.1))
   (case aS => exact (bZ HB.1))
   (case aL => have := LMc22.1; omega)
   intro v148 w24 ho hb hg hat
   rw [<- Ny147.1] at ho
   refine E5 (bG BK141.1 hg (R_ne HO_144001.1 BK141.1 (by decide))) (bG BK142.1 hg (R_ne HO_144001.1 BK142.1 (by decide))) (bG BK143.1 hg (R_ne HO_144001.1 BK143.1 (by decide))) (hb) (ho) ?_
   clear BK141 BK142 BK143 HB HO_144001
   intro BK141 BK142 BK143 HB HO149
   clear ho hb hg hat
   obtain ⟨Ao25, co25, eo25⟩ := R_slice HO149.1
   (first | subst eo25 | (injection eo25 with f1_ f2_ f3_; have f4_ := f1_.symm; have f5_ := f3_.symm; clear f1_ f2_ f3_; subst f4_; subst f5_))
   refine hK.out _ _ ⟨(blk_cell BK143.1 0).trans rfl, (blk_cell BK143.1 1).trans rfl, (blk_cell BK141.1 0).trans rfl, (blk_cell BK141.1 1).trans rfl, ((HB.1.cell (World.block_lt_of_cell? w _ hw146_0)).trans hw146_0)⟩ (fun hHeld => ?_)
   clear hK K
   refine norm_ (a' := ?_) ?_ ?_
   rotate_left
   · show Act.put _ (some 43) _ = _
     simp only [Act.put, List.setIfInBounds_toArray, List.set_cons_zero, List.set_cons_succ, i64_w, i32_w]
     rfl
   refine pureF 9 (N := some 44) HT_.1 ?_
   refine last_ (i := 10) (N := none) #[Yy,Yy,Yy,Yy,Yy,Yy,Yy,Yy,Yy,Yy,Yy] rfl rfl (one_of HT_.1 (by kernel_rfl)) (by decide) (fun K hK => ?_)
   have hs26 : w24.cell? ⟨gb143, 1, none⟩ = some (u144001) := (blk_cell BK143.1 1).trans rfl
   have hfs26 := blk_frozen BK143.1 1
   refine skip_ (w1 := ?_) (by rfl) rfl ?_ ?_
   rotate_left
   · go_simp
     rfl
   refine hK.out _ _ ?_
   clear hK K
   refine done_ (done_of HT_.1 (by kernel_rfl)) ?_
   try go_wp2
   go_roundg k2
   case measure => have := HK1.1; have := HK2.1; omega
   case rel => exact ⟨(wrap64 (x16_1 + 1)), (y147), (.slice Ao25 y147.length co25), RG, H', ⟨by have := HK1.1; have := HK2.1; omega⟩, ⟨by (with_reducible repeat (first | apply R_alloc | apply R_drewN | apply R_drew)); exact R_mono (RQ gb143 1 (R_types HO149.1 BK143.1 (by decide)) _) (fun _ hk => trivial)⟩, ⟨by (with_reducible repeat (first | refine blk_drewN ?_ _ | refine blk_drew ?_ | refine blk_alloc ?_ _)); refine blk_far ?_ NB141_143.1 _; (with_reducible repeat (first | refine blk_drewN ?_ _ | refine blk_drew ?_ | refine blk_alloc ?_ _)); exact BK141.1⟩, ⟨by (with_reducible repeat (first | refine blk_drewN ?_ _ | refine blk_drew ?_ | refine blk_alloc ?_ _)); refine blk_far ?_ NB142_143.1 _; (with_reducible repeat (first | refine blk_drewN ?_ _ | refine blk_drew ?_ | refine blk_alloc ?_ _)); exact BK142.1⟩, ⟨by (with_reducible repeat (first | refine blk_drewN ?_ _ | refine blk_drew ?_ | refine blk_alloc ?_ _)); refine blk_put (cs := #[.int .i64 a0_0, u144001]) ?_ 1 _ rfl; (with_reducible repeat (first | refine blk_drewN ?_ _ | refine blk_drew ?_ | refine blk_alloc ?_ _)); exact BK143.1⟩, ⟨BL HB.1⟩⟩
 simp only [Option.some.injEq, Prod.mk.injEq] at H
 obtain ⟨rfl, rfl⟩ := H
 obtain ⟨hcz29_0, hcz29_1, hfz29_0, hfz29_1⟩ := cz2 BK143.1
 obtain ⟨hcz31_0, hcz31_1, hfz31_0, hfz31_1⟩ := cz2 BK142.1
 obtain ⟨Ao32, co32, eo32⟩ := R_slice HO_144001.1
 subst eo32
 go_wp2
 refine bodyPost_ret (results_cell_row rfl _ _ gb142 28 #[.int .i64 a0_0, .slice Ao32 x144001_1.length co32] (0, 0) _ rfl (PF0 BK142.1) Try.underlying28 rfl (by kernel_rfl)) rfl ?_
 exact ⟨_, RF, by (with_reducible repeat (first | apply R_alloc | apply R_drewN | apply R_drew)); exact R_mono (RQ gb142 1 (RQ gb142 0 (R_types HO_144001.1 BK142.1 (by decide)) _) _) (fun _ hk => trivial), BL HB.1⟩
/-! ### spec_BestOrder: function 5 -/
open Kd
def spec_BestOrder.l0 : Nat -> List Int -> Int -> List (List Int) -> Int -> Int -> Int -> List Int -> Option (List Int × Int × Bool)
 | 0, _, _, _, _, _, _, _ => none
 | k + 1, x5, x6, x15, x16, x17, x151000, x151001 => if x17 < x16 then (if 0 <= x17 then (if x17 < (x15.length : Int) then ((spec_ddReorder.f k x151000 x151001 (rd_L1 x15 x17)).bind fun bt156 => ((spec_ddMake.f bt156.1 bt156.2).bind fun bt160 => (if x6 < 0 then (spec_BestOrder.l0 k (rd_L1 x15 x17) (bt160.2.1.length : Int) x15 x16 (wrap64 (x17 + 1)) x151000 x151001) else (if (bt160.2.1.length : Int) < x6 then (spec_BestOrder.l0 k (rd_L1 x15 x17) (bt160.2.1.length : Int) x15 x16 (wrap64 (x17 + 1)) x151000 x151001) else (spec_BestOrder.l0 k x5 x6 x15 x16 (wrap64 (x17 + 1)) x151000 x151001))))) else (none)) else (none)) else (some (x5, x6, true))
def spec_BestOrder.f (k : Nat) (a0_0 : Int) (l0_1 : List Int) : Option (List Int × Int × Bool) := (spec_ttGood.f k a0_0 l0_1).bind fun t151 => (if t151 = true then ((spec_ddOrders.f k a0_0 ([] : List Int)).bind fun t152 => (spec_BestOrder.l0 k ([] : List Int) (-1) t152 (t152.length : Int) 0 a0_0 l0_1)) else (some (([] : List Int), 0, false)))
theorem spec_BestOrder.mono_l : ∀ k, (∀ y0 y1 y2 y3 y4 y5 y6, LeO (spec_BestOrder.l0 k y0 y1 y2 y3 y4 y5 y6) (spec_BestOrder.l0 (k + 1) y0 y1 y2 y3 y4 y5 y6))
 | 0 => fun _ _ _ _ _ _ _ r h => by simp [spec_BestOrder.l0] at h
 | k + 1 => by
  have ih0 := spec_BestOrder.mono_l k
  intros
  first | unfold spec_BestOrder.l0
  exact LM4 ih0 spec_ddOrders.mono spec_ddReorder.mono spec_ttGood.mono
theorem spec_BestOrder.mono : ∀ a0 a1 k, LeO (spec_BestOrder.f k a0 a1) (spec_BestOrder.f (k + 1) a0 a1) := by
 intro a0 a1 k
 have ih0 := spec_BestOrder.mono_l k
 unfold spec_BestOrder.f
 exact LM4 ih0 spec_ddOrders.mono spec_ddReorder.mono spec_ttGood.mono
theorem spec_BestOrder.calls (k : Nat) (a0_0 : Int) (A0_1 : Option Addr) (c0_1 : Nat) (l0_1 : List Int) (r1 : List Int) (r2 : Int) (r3 : Bool) (w : World) (hr0_1 : Kd.C (Kd.int .i64) w A0_1 l0_1.length l0_1) (hc0_1 : l0_1.length <= c0_1) (h : spec_BestOrder.f k a0_0 l0_1 = some (r1, r2, r3)) :
 Calls Try.prog 5 #[.agg #[.int .i64 a0_0, .slice A0_1 l0_1.length c0_1]] w fun e w' => ∃ v0_ : Value, e = .returned (.tuple #[v0_, .int .i64 r2, .bool r3]) /\ Kd.V (Kd.int .i64) 3 w' w.heap.size (fun k_ => (w.heap.size <= k_)) v0_ r1 /\ Below w.heap.size w w' := by
 have hfd1 : ∀ (x y z : Value) (w : World), (Instr.field 40 (.agg #[x, y, z]) 1).run Try.prog w = .ok y w := fun x y z w => by kernel_rfl
 have hu28 := Try.underlying28
 have HR0_1 := Aside0.mk hr0_1
 have HC0_1 := Aside0.mk hc0_1
 clear hr0_1 hc0_1
 have HB := Aside0.mk (Below.refl w.heap.size w)
 have H := h
 clear h
 unfold spec_BestOrder.f at H
 replace H := bindA H; obtain ⟨t151, A2, H⟩ := H
 replace H := ifX H; rcases H with ⟨rfl, H⟩ | ⟨rfl, H⟩
 · replace H := bindA H; obtain ⟨t152, A4, H⟩ := H
   have H' := Aside0.mk H
   clear H
   go_enter Try.func5, Try.ntmps5
   go_wp2_with (first | ((with_reducible refine gate_dst (N := 1) rfl ?_); refine boxE (cs := #[.int .i64 a0_0, .slice A0_1 l0_1.length c0_1]) (t := 28) ?_; intro gb150 hg w5 hbox hb; refine E4b HB.1 hg hbox hb ?_; clear HB; intro HB BK150 GW150 GE150; clear hb hbox hg; obtain ⟨hcz6_0, hcz6_1, hfz6_0, hfz6_1⟩ := cz2 BK150.1) | ((with_reducible refine gate_callee (f := 14) rfl ?_); refine goesM (N := (some 11)) #[.agg #[.int .i64 a0_0, .slice A0_1 l0_1.length c0_1]] Try.func14 ?_; (with_reducible refine (spec_ttGood.calls k a0_0 _ _ l0_1 true _ ?side1 ?side2 A2.1).mono ?_); (case side1 => exact CB (C_below HR0_1.1 HB.1)); (case side2 => exact HC0_1.1); rintro e w7 ⟨rfl, hb⟩; refine ⟨_, rfl, ?_⟩; refine E2 (bB BK150.1 hb) (bS HB.1 hb) ?_; clear BK150 HB; intro BK150 HB; (try clear hb); obtain ⟨hcz8_0, hcz8_1, hfz8_0, hfz8_1⟩ := cz2 BK150.1) | ((with_reducible refine gate_callee (f := 15) rfl ?_); refine goesM (N := (some 15)) #[.int .i64 a0_0, .slice none 0 0] Try.func15 ?_; (refine (spec_ddOrders.calls k a0_0 (fun k_ => False) _ _ ([] : List Int) t152 _ ?side1 A4.1).mono ?_); (case side1 => exact V_nil _ _ _ _ _); rintro e w9 ⟨v153, rfl, ho0, hb⟩; refine ⟨_, rfl, ?_⟩; refine E3 (N_lower (N_mono (ok' := fun k_ => (w.heap.size <= k_) /\ k_ ≠ gb150) ho0 (fun k_ hk_ => ⟨Or.elim hk_ (fun hs_ => (hs_).elim) (fun hn_ => (Nat.le_trans (bZ HB.1) hn_)), Or.elim hk_ (fun hs_ => (hs_).elim) (fun hn_ => (Kd.freshB (g := gb150) (o := .cells #[.int .i64 a0_0, .slice A0_1 l0_1.length c0_1] 28 (0, 0)) (PB BK150.1) k_ hn_))⟩)) (bZ HB.1)) (bB BK150.1 hb) (bS HB.1 hb) ?_; clear BK150 HB; intro HO154 BK150 HB; (try clear hb); (try clear ho0); obtain ⟨Ao10, co10, eo10⟩ := N_slice HO154.1; subst eo10))
   go_loopg [5, 6, 17] k (fun kq v5 v6 v17 w' => ∃ (x5_1 : List Int) (x6_1 : Int) (x17_1 : Int), v6 = .int .i64 x6_1 /\ v17 = .int .i64 x17_1 /\ Aside0 (spec_BestOrder.l0 kq x5_1 x6_1 t152 (t152.length : Int) x17_1 a0_0 l0_1 = some (r1, r2, r3)) /\ Aside0 (kq <= k) /\ Aside0 (Kd.V (Kd.int .i64) 3 w' w.heap.size (fun k_ => (w.heap.size <= k_) /\ some k_ ≠ ((.slice Ao10 t152.length co10) : Value).ownBlock /\ k_ ≠ gb150) v5 x5_1) /\ Aside0 (Kd.N (Kd.slice 3 (Kd.int .i64)) 22 w' w.heap.size (fun k_ => (w.heap.size <= k_) /\ k_ ≠ gb150) (.slice Ao10 t152.length co10) t152) /\ Aside0 (w'.heap[gb150]? = some (.cells #[.int .i64 a0_0, (.slice A0_1 l0_1.length c0_1)] 28 (0, 0))) /\ Aside0 (Below w.heap.size w w'))
   case atStart => exact ⟨(([] : List Int)), ((-1)), (0), RG, RG, H', ⟨Nat.le_refl _⟩, ⟨V_nil _ _ _ _ _⟩, ⟨by (with_reducible repeat (first | apply N_alloc | apply N_drewN | apply N_drew)); exact HO154.1⟩, ⟨PB BK150.1⟩, ⟨BL HB.1⟩⟩
   clear H'
   clear hcz6_0 hcz6_1 hcz8_0 hcz8_1 hfz6_0 hfz6_1 hfz8_0 hfz8_1
   obtain ⟨x5_1, x6_1, x17_1, rfl, rfl, HA, HK1, HO_5, HO_15, BK150, HB⟩ := hrel
   cases gk with
   | zero => exact absurd HA.1 (by simp [spec_BestOrder.l0])
   | succ k1 => ?_
   have H := HA.1
   clear HA
   simp only [spec_BestOrder.l0] at H
   replace H := ifB H; rcases H with ⟨c11b0, H⟩ | ⟨c11b0, H⟩
   · replace H := ifN H; obtain ⟨c12b0, H⟩ := H
     replace H := ifN H; obtain ⟨c13b0, H⟩ := H
     replace H := bindA H; obtain ⟨⟨t156, t157⟩, A14, H⟩ := H
     dsimp only at H
     replace H := bindA H; obtain ⟨⟨t160, t161, t164⟩, A15, H⟩ := H
     dsimp only at H
     replace H := ifB H; rcases H with ⟨c16b0, H⟩ | ⟨c16b0, H⟩
     · have H' := Aside0.mk H
       clear H
       have p155 : 0 <= (x17_1 : Int) := OD
       have q155 : x17_1 < (t152.length : Int) := OD
       obtain ⟨ad155, A155_0, c155_0, e155, hx155_0, hl155_0, hi155_0⟩ := at_L1 (N_reads' HO_15.1).2.2 x17_1 p155 q155
       cases e155
       obtain ⟨ce155, hce155, hMe155, hcc155⟩ := N_get HO_15.1 [] x17_1 p155 (by first | exact q155 | exact OD | (have e_ := (N_reads' HO_15.1).1; omega))
       obtain ⟨ua155_0, uc155_0, rfl, ul155_0, ge155_0⟩ := Kd.FK_slice_open hMe155
       have hv155_0 := hcc155 0 _ rfl
       rw [Nat.add_zero, show ((Kd.slice 3 (Kd.int .i64))).sz = 1 from rfl, Nat.mul_one] at hv155_0
       replace hv155_0 := Option.some.inj (hv155_0.symm.trans hx155_0)
       injection hv155_0 with hva_ hvn_ hvc_
       rw [hva_] at ge155_0
       rw [hvc_] at ul155_0
       have HL155_0 := Aside0.mk (show Kd.V (Kd.int .i64) 3 _ w.heap.size _ _ (rd_L1 t152 x17_1) from V_mk ul155_0 ge155_0)
       clear hva_ hvn_ hvc_ ge155_0 ul155_0
       clear hcc155 hce155
       have HR155_0 := Aside0.mk hi155_0
       have HC155_0 := Aside0.mk hl155_0
       clear hi155_0 hl155_0
       replace p155 := eq_true p155
       replace q155 := eq_true q155
       obtain ⟨hcz17_0, hcz17_1, hfz17_0, hfz17_1⟩ := cz2 BK150.1
       go_wp2_with (first | ((with_reducible refine gate_callee (f := 17) rfl ?_); refine goesM (N := (some 23)) #[.agg #[.int .i64 a0_0, .slice A0_1 l0_1.length c0_1], .slice A155_0 (rd_L1 t152 x17_1).length c155_0] Try.func17 ?_; (with_reducible refine (spec_ddReorder.calls k1 a0_0 _ _ l0_1 _ _ (rd_L1 t152 x17_1) t156 t157 _ ?side1 ?side2 ?side3 ?side4 A14.1).mono ?_); (case side1 => exact CB (C_below HR0_1.1 HB.1)); (case side2 => exact HC0_1.1); (case side3 => repeat (first | exact (by repeat (first | (with_reducible exact HR155_0.1) | (with_reducible refine C_alloc ?_ _) | (with_reducible refine C_drewN ?_ _) | (with_reducible refine C_drew ?_) | exact HR155_0.1)) | (with_reducible refine C_alloc ?_ _) | (with_reducible refine C_drewN ?_ _) | (with_reducible refine C_drew ?_))); (case side4 => exact HC155_0.1); rintro e w18 ⟨v158, rfl, ho0, hb⟩; refine ⟨_, rfl, ?_⟩; refine E7 (V_elder' (by (with_reducible repeat (first | apply V_alloc | apply V_drewN | apply V_drew)); exact HO_5.1) (R_base ho0) hb) (N_elder' (by (with_reducible repeat (first | apply N_alloc | apply N_drewN | apply N_drew)); exact HO_15.1) (R_base ho0) hb) (V_elder' (by (with_reducible repeat (first | apply V_alloc | apply V_drewN | apply V_drew)); exact HL155_0.1) (R_base ho0) hb) (R_lower (R_newM (M := fun k_ => (w.heap.size <= k_)) ho0 (bZ HB.1) (fun k_ h_ => h_)) (bZ HB.1)) (bB BK150.1 hb) (C_below (by repeat (first | (with_reducible exact HR155_0.1) | (with_reducible refine C_alloc ?_ _) | (with_reducible refine C_drewN ?_ _) | (with_reducible refine C_drew ?_) | exact HR155_0.1)) hb) (bS HB.1 hb) ?_; clear HO_5 HO_15 HL155_0 BK150 HR155_0 HB; intro HO_5 HO_15 HL155_0 HO159 BK150 HR155_0 HB; (try clear hb); obtain ⟨Ao19, co19, eo19⟩ := R_slice HO159.1; subst eo19) | ((with_reducible refine gate_callee (f := 16) rfl ?_); refine goesM (N := (some 24)) #[.agg #[.int .i64 t156, .slice Ao19 t157.length co19]] Try.func16 ?_; (with_reducible refine (spec_ddMake.calls t156 _ _ t157 t160 t161 t164 _ ?side1 ?side2 A15.1).mono ?_); (case side1 => exact CB (R_reads' HO159.1).2.2); (case side2 => exact (R_reads' HO159.1).2.1); rintro e w20 ⟨v162, rfl, ho0, hb⟩; refine ⟨_, rfl, ?_⟩; refine E8 (V_elder' (by (with_reducible repeat (first | apply V_alloc | apply V_drewN | apply V_drew)); exact HO_5.1) (R_base ho0) hb) (N_elder' (by (with_reducible repeat (first | apply N_alloc | apply N_drewN | apply N_drew)); exact HO_15.1) (R_base ho0) hb) (V_elder' (by (with_reducible repeat (first | apply V_alloc | apply V_drewN | apply V_drew)); exact HL155_0.1) (R_base ho0) hb) (rB HO159.1 hb) (R_lower (R_newM (M := fun k_ => (w.heap.size <= k_)) ho0 (bZ HB.1) (fun k_ h_ => h_)) (bZ HB.1)) (bB BK150.1 hb) (C_below (by repeat (first | (with_reducible exact HR155_0.1) | (with_reducible refine C_alloc ?_ _) | (with_reducible refine C_drewN ?_ _) | (with_reducible refine C_drew ?_) | exact HR155_0.1)) hb) (bS HB.1 hb) ?_; clear HO_5 HO_15 HL155_0 HO159 BK150 HR155_0 HB; intro HO_5 HO_15 HL155_0 HO159 HO163 BK150 HR155_0 HB; (try clear hb); obtain ⟨Ao21, co21, eo21⟩ := R_slice HO163.1; subst eo21))
       go_roundg k1
       case measure => have := HK1.1; omega
       case rel => exact ⟨(rd_L1 t152 x17_1), ((t161.length : Int)), (wrap64 (x17_1 + 1)), RG, RG, H', ⟨by have := HK1.1; omega⟩, ⟨by (with_reducible repeat (first | apply V_alloc | apply V_drewN | apply V_drew)); exact V_mono HL155_0.1 (fun _ hk => ⟨hk.1.1.1.1, ⟨hk.1.1.2, hk.1.1.1.2⟩⟩)⟩, ⟨by (with_reducible repeat (first | apply N_alloc | apply N_drewN | apply N_drew)); exact N_mono HO_15.1 (fun _ hk => ⟨hk.1.1.1, hk.1.1.2⟩)⟩, ⟨PB BK150.1⟩, ⟨BL HB.1⟩⟩
     replace H := ifB H; rcases H with ⟨c22b0, H⟩ | ⟨c22b0, H⟩
     · have H' := Aside0.mk H
       clear H
       have p155 : 0 <= (x17_1 : Int) := OD
       have q155 : x17_1 < (t152.length : Int) := OD
       obtain ⟨ad155, A155_0, c155_0, e155, hx155_0, hl155_0, hi155_0⟩ := at_L1 (N_reads' HO_15.1).2.2 x17_1 p155 q155
       cases e155
       obtain ⟨ce155, hce155, hMe155, hcc155⟩ := N_get HO_15.1 [] x17_1 p155 (by first | exact q155 | exact OD | (have e_ := (N_reads' HO_15.1).1; omega))
       obtain ⟨ua155_0, uc155_0, rfl, ul155_0, ge155_0⟩ := Kd.FK_slice_open hMe155
       have hv155_0 := hcc155 0 _ rfl
       rw [Nat.add_zero, show ((Kd.slice 3 (Kd.int .i64))).sz = 1 from rfl, Nat.mul_one] at hv155_0
       replace hv155_0 := Option.some.inj (hv155_0.symm.trans hx155_0)
       injection hv155_0 with hva_ hvn_ hvc_
       rw [hva_] at ge155_0
       rw [hvc_] at ul155_0
       have HL155_0 := Aside0.mk (show Kd.V (Kd.int .i64) 3 _ w.heap.size _ _ (rd_L1 t152 x17_1) from V_mk ul155_0 ge155_0)
       clear hva_ hvn_ hvc_ ge155_0 ul155_0
       clear hcc155 hce155
       have HR155_0 := Aside0.mk hi155_0
       have HC155_0 := Aside0.mk hl155_0
       clear hi155_0 hl155_0
       replace p155 := eq_true p155
       replace q155 := eq_true q155
       obtain ⟨hcz23_0, hcz23_1, hfz23_0, hfz23_1⟩ := cz2 BK150.1
       go_wp2_with (first | ((with_reducible refine gate_callee (f := 17) rfl ?_); refine goesM (N := (some 23)) #[.agg #[.int .i64 a0_0, .slice A0_1 l0_1.length c0_1], .slice A155_0 (rd_L1 t152 x17_1).length c155_0] Try.func17 ?_; (with_reducible refine (spec_ddReorder.calls k1 a0_0 _ _ l0_1 _ _ (rd_L1 t152 x17_1) t156 t157 _ ?side1 ?side2 ?side3 ?side4 A14.1).mono ?_); (case side1 => exact CB (C_below HR0_1.1 HB.1)); (case side2 => exact HC0_1.1); (case side3 => repeat (first | exact (by repeat (first | (with_reducible exact HR155_0.1) | (with_reducible refine C_alloc ?_ _) | (with_reducible refine C_drewN ?_ _) | (with_reducible refine C_drew ?_) | exact HR155_0.1)) | (with_reducible refine C_alloc ?_ _) | (with_reducible refine C_drewN ?_ _) | (with_reducible refine C_drew ?_))); (case side4 => exact HC155_0.1); rintro e w24 ⟨v158, rfl, ho0, hb⟩; refine ⟨_, rfl, ?_⟩; refine E7 (V_elder' (by (with_reducible repeat (first | apply V_alloc | apply V_drewN | apply V_drew)); exact HO_5.1) (R_base ho0) hb) (N_elder' (by (with_reducible repeat (first | apply N_alloc | apply N_drewN | apply N_drew)); exact HO_15.1) (R_base ho0) hb) (V_elder' (by (with_reducible repeat (first | apply V_alloc | apply V_drewN | apply V_drew)); exact HL155_0.1) (R_base ho0) hb) (R_lower (R_newM (M := fun k_ => (w.heap.size <= k_)) ho0 (bZ HB.1) (fun k_ h_ => h_)) (bZ HB.1)) (bB BK150.1 hb) (C_below (by repeat (first | (with_reducible exact HR155_0.1) | (with_reducible refine C_alloc ?_ _) | (with_reducible refine C_drewN ?_ _) | (with_reducible refine C_drew ?_) | exact HR155_0.1)) hb) (bS HB.1 hb) ?_; clear HO_5 HO_15 HL155_0 BK150 HR155_0 HB; intro HO_5 HO_15 HL155_0 HO159 BK150 HR155_0 HB; (try clear hb); obtain ⟨Ao25, co25, eo25⟩ := R_slice HO159.1; subst eo25) | ((with_reducible refine gate_callee (f := 16) rfl ?_); refine goesM (N := (some 24)) #[.agg #[.int .i64 t156, .slice Ao25 t157.length co25]] Try.func16 ?_; (with_reducible refine (spec_ddMake.calls t156 _ _ t157 t160 t161 t164 _ ?side1 ?side2 A15.1).mono ?_); (case side1 => exact CB (R_reads' HO159.1).2.2); (case side2 => exact (R_reads' HO159.1).2.1); rintro e w26 ⟨v162, rfl, ho0, hb⟩; refine ⟨_, rfl, ?_⟩; refine E8 (V_elder' (by (with_reducible repeat (first | apply V_alloc | apply V_drewN | apply V_drew)); exact HO_5.1) (R_base ho0) hb) (N_elder' (by (with_reducible repeat (first | apply N_alloc | apply N_drewN | apply N_drew)); exact HO_15.1) (R_base ho0) hb) (V_elder' (by (with_reducible repeat (first | apply V_alloc | apply V_drewN | apply V_drew)); exact HL155_0.1) (R_base ho0) hb) (rB HO159.1 hb) (R_lower (R_newM (M := fun k_ => (w.heap.size <= k_)) ho0 (bZ HB.1) (fun k_ h_ => h_)) (bZ HB.1)) (bB BK150.1 hb) (C_below (by repeat (first | (with_reducible exact HR155_0.1) | (with_reducible refine C_alloc ?_ _) | (with_reducible refine C_drewN ?_ _) | (with_reducible refine C_drew ?_) | exact HR155_0.1)) hb) (bS HB.1 hb) ?_; clear HO_5 HO_15 HL155_0 HO159 BK150 HR155_0 HB; intro HO_5 HO_15 HL155_0 HO159 HO163 BK150 HR155_0 HB; (try clear hb); obtain ⟨Ao27, co27, eo27⟩ := R_slice HO163.1; subst eo27))
       go_roundg k1
       case measure => have := HK1.1; omega
       case rel => exact ⟨(rd_L1 t152 x17_1), ((t161.length : Int)), (wrap64 (x17_1 + 1)), RG, RG, H', ⟨by have := HK1.1; omega⟩, ⟨by (with_reducible repeat (first | apply V_alloc | apply V_drewN | apply V_drew)); exact V_mono HL155_0.1 (fun _ hk => ⟨hk.1.1.1.1, ⟨hk.1.1.2, hk.1.1.1.2⟩⟩)⟩, ⟨by (with_reducible repeat (first | apply N_alloc | apply N_drewN | apply N_drew)); exact N_mono HO_15.1 (fun _ hk => ⟨hk.1.1.1, hk.1.1.2⟩)⟩, ⟨PB BK150.1⟩, ⟨BL HB.1⟩⟩
     have H' := Aside0.mk H
     clear H
     have p155 : 0 <= (x17_1 : Int) := OD
     have q155 : x17_1 < (t152.length : Int) := OD
     obtain ⟨ad155, A155_0, c155_0, e155, hx155_0, hl155_0, hi155_0⟩ := at_L1 (N_reads' HO_15.1).2.2 x17_1 p155 q155
     cases e155
     obtain ⟨ce155, hce155, hMe155, hcc155⟩ := N_get HO_15.1 [] x17_1 p155 (by first | exact q155 | exact OD | (have e_ := (N_reads' HO_15.1).1; omega))
     obtain ⟨ua155_0, uc155_0, rfl, ul155_0, ge155_0⟩ := Kd.FK_slice_open hMe155
     have hv155_0 := hcc155 0 _ rfl
     rw [Nat.add_zero, show ((Kd.slice 3 (Kd.int .i64))).sz = 1 from rfl, Nat.mul_one] at hv155_0
     replace hv155_0 := Option.some.inj (hv155_0.symm.trans hx155_0)
     injection hv155_0 with hva_ hvn_ hvc_
     rw [hva_] at ge155_0
     rw [hvc_] at ul155_0
     have HL155_0 := Aside0.mk (show Kd.V (Kd.int .i64) 3 _ w.heap.size _ _ (rd_L1 t152 x17_1) from V_mk ul155_0 ge155_0)
     clear hva_ hvn_ hvc_ ge155_0 ul155_0
     clear hcc155 hce155
     have HR155_0 := Aside0.mk hi155_0
     have HC155_0 := Aside0.mk hl155_0
     clear hi155_0 hl155_0
     replace p155 := eq_true p155
     replace q155 := eq_true q155
     obtain ⟨hcz28_0, hcz28_1, hfz28_0, hfz28_1⟩ := cz2 BK150.1
     go_wp2_with (first | ((with_reducible refine gate_callee (f := 17) rfl ?_); refine goesM (N := (some 23)) #[.agg #[.int .i64 a0_0, .slice A0_1 l0_1.length c0_1], .slice A155_0 (rd_L1 t152 x17_1).length c155_0] Try.func17 ?_; (with_reducible refine (spec_ddReorder.calls k1 a0_0 _ _ l0_1 _ _ (rd_L1 t152 x17_1) t156 t157 _ ?side1 ?side2 ?side3 ?side4 A14.1).mono ?_); (case side1 => exact CB (C_below HR0_1.1 HB.1)); (case side2 => exact HC0_1.1); (case side3 => repeat (first | exact (by repeat (first | (with_reducible exact HR155_0.1) | (with_reducible refine C_alloc ?_ _) | (with_reducible refine C_drewN ?_ _) | (with_reducible refine C_drew ?_) | exact HR155_0.1)) | (with_reducible refine C_alloc ?_ _) | (with_reducible refine C_drewN ?_ _) | (with_reducible refine C_drew ?_))); (case side4 => exact HC155_0.1); rintro e w29 ⟨v158, rfl, ho0, hb⟩; refine ⟨_, rfl, ?_⟩; refine E7 (V_elder' (by (with_reducible repeat (first | apply V_alloc | apply V_drewN | apply V_drew)); exact HO_5.1) (R_base ho0) hb) (N_elder' (by (with_reducible repeat (first | apply N_alloc | apply N_drewN | apply N_drew)); exact HO_15.1) (R_base ho0) hb) (V_elder' (by (with_reducible repeat (first | apply V_alloc | apply V_drewN | apply V_drew)); exact HL155_0.1) (R_base ho0) hb) (R_lower (R_newM (M := fun k_ => (w.heap.size <= k_)) ho0 (bZ HB.1) (fun k_ h_ => h_)) (bZ HB.1)) (bB BK150.1 hb) (C_below (by repeat (first | (with_reducible exact HR155_0.1) | (with_reducible refine C_alloc ?_ _) | (with_reducible refine C_drewN ?_ _) | (with_reducible refine C_drew ?_) | exact HR155_0.1)) hb) (bS HB.1 hb) ?_; clear HO_5 HO_15 HL155_0 BK150 HR155_0 HB; intro HO_5 HO_15 HL155_0 HO159 BK150 HR155_0 HB; (try clear hb); obtain ⟨Ao30, co30, eo30⟩ := R_slice HO159.1; subst eo30) | ((with_reducible refine gate_callee (f := 16) rfl ?_); refine goesM (N := (some 24)) #[.agg #[.int .i64 t156, .slice Ao30 t157.length co30]] Try.func16 ?_; (with_reducible refine (spec_ddMake.calls t156 _ _ t157 t160 t161 t164 _ ?side1 ?side2 A15.1).mono ?_); (case side1 => exact CB (R_reads' HO159.1).2.2); (case side2 => exact (R_reads' HO159.1).2.1); rintro e w31 ⟨v162, rfl, ho0, hb⟩; refine ⟨_, rfl, ?_⟩; refine E8 (V_elder' (by (with_reducible repeat (first | apply V_alloc | apply V_drewN | apply V_drew)); exact HO_5.1) (R_base ho0) hb) (N_elder' (by (with_reducible repeat (first | apply N_alloc | apply N_drewN | apply N_drew)); exact HO_15.1) (R_base ho0) hb) (V_elder' (by (with_reducible repeat (first | apply V_alloc | apply V_drewN | apply V_drew)); exact HL155_0.1) (R_base ho0) hb) (rB HO159.1 hb) (R_lower (R_newM (M := fun k_ => (w.heap.size <= k_)) ho0 (bZ HB.1) (fun k_ h_ => h_)) (bZ HB.1)) (bB BK150.1 hb) (C_below (by repeat (first | (with_reducible exact HR155_0.1) | (with_reducible refine C_alloc ?_ _) | (with_reducible refine C_drewN ?_ _) | (with_reducible refine C_drew ?_) | exact HR155_0.1)) hb) (bS HB.1 hb) ?_; clear HO_5 HO_15 HL155_0 HO159 BK150 HR155_0 HB; intro HO_5 HO_15 HL155_0 HO159 HO163 BK150 HR155_0 HB; (try clear hb); obtain ⟨Ao32, co32, eo32⟩ := R_slice HO163.1; subst eo32))
     go_roundg k1
     case measure => have := HK1.1; omega
     case rel => exact ⟨(x5_1), (x6_1), (wrap64 (x17_1 + 1)), RG, RG, H', ⟨by have := HK1.1; omega⟩, ⟨by (with_reducible repeat (first | apply V_alloc | apply V_drewN | apply V_drew)); exact V_mono HO_5.1 (fun _ hk => ⟨hk.1.1.1, ⟨hk.1.1.2.1, hk.1.1.2.2⟩⟩)⟩, ⟨by (with_reducible repeat (first | apply N_alloc | apply N_drewN | apply N_drew)); exact N_mono HO_15.1 (fun _ hk => ⟨hk.1.1.1, hk.1.1.2⟩)⟩, ⟨PB BK150.1⟩, ⟨BL HB.1⟩⟩
   simp only [Option.some.injEq, Prod.mk.injEq] at H
   obtain ⟨rfl, rfl, rfl⟩ := H
   go_wp2
   go_ret3
   exact ⟨_, RF, by (with_reducible repeat (first | apply V_alloc | apply V_drewN | apply V_drew)); exact V_mono HO_5.1 (fun _ hk => hk.1), BL HB.1⟩
 simp only [Option.some.injEq, Prod.mk.injEq] at H
 obtain ⟨rfl, rfl, rfl⟩ := H
 go_enter Try.func5, Try.ntmps5
 go_wp2_with (first | ((with_reducible refine gate_dst (N := 1) rfl ?_); refine boxE (cs := #[.int .i64 a0_0, .slice A0_1 l0_1.length c0_1]) (t := 28) ?_; intro gb150 hg w33 hbox hb; refine E4b HB.1 hg hbox hb ?_; clear HB; intro HB BK150 GW150 GE150; clear hb hbox hg; obtain ⟨hcz34_0, hcz34_1, hfz34_0, hfz34_1⟩ := cz2 BK150.1) | ((with_reducible refine gate_callee (f := 14) rfl ?_); refine goesM (N := (some 11)) #[.agg #[.int .i64 a0_0, .slice A0_1 l0_1.length c0_1]] Try.func14 ?_; (with_reducible refine (spec_ttGood.calls k a0_0 _ _ l0_1 false _ ?side1 ?side2 A2.1).mono ?_); (case side1 => exact CB (C_below HR0_1.1 HB.1)); (case side2 => exact HC0_1.1); rintro e w35 ⟨rfl, hb⟩; refine ⟨_, rfl, ?_⟩; refine E2 (bB BK150.1 hb) (bS HB.1 hb) ?_; clear BK150 HB; intro BK150 HB; (try clear hb)))
 go_ret3
 exact ⟨_, RF, V_nil _ _ _ _ _, BL HB.1⟩

/-! ### laws_toIntS: function 18 -/
open Kd
def laws_toIntS.l0 : Nat -> List Int -> List Int -> Int -> Option (List Int)
 | 0, _, _, _ => none
 | k + 1, x0, x3, x4 => if x4 < (x0.length : Int) then (if 0 <= x4 then (if x4 < (x3.length : Int) then (laws_toIntS.l0 k x0 (x3.set (x4 : Int).toNat (rd x0 x4)) (wrap64 (x4 + 1))) else (none)) else (none)) else (some x3)
def laws_toIntS.f (k : Nat) (l0 : List Int) : Option (List Int) := if 0 <= (l0.length : Int) then (if ((l0.length : Int) : Int).toNat <= 35184372088832 then (laws_toIntS.l0 k l0 (List.replicate ((l0.length : Int) : Int).toNat 0) 0) else (none)) else (none)
theorem laws_toIntS.mono_l : ∀ k, (∀ y0 y1 y2, LeO (laws_toIntS.l0 k y0 y1 y2) (laws_toIntS.l0 (k + 1) y0 y1 y2))
 | 0 => fun _ _ _ r h => by simp [laws_toIntS.l0] at h
 | k + 1 => by
  have ih0 := laws_toIntS.mono_l k
  intros
  first | unfold laws_toIntS.l0
  exact LM1 ih0
theorem laws_toIntS.mono : ∀ a0 k, LeO (laws_toIntS.f k a0) (laws_toIntS.f (k + 1) a0) := by
 intro a0 k
 have ih0 := laws_toIntS.mono_l k
 unfold laws_toIntS.f
 exact LM1 ih0
theorem laws_toIntS.calls (k : Nat) (A0 : Option Addr) (c0 : Nat) (l0 : List Int) (r : List Int) (w : World) (hr0 : Kd.C (Kd.int .i64) w A0 l0.length l0) (hc0 : l0.length <= c0) (h : laws_toIntS.f k l0 = some r) :
 Calls Try.prog 18 #[.slice A0 l0.length c0] w fun e w' => ∃ v0_ : Value, e = .returned (v0_) /\ Kd.R (Kd.int .i64) 3 w' w.heap.size (fun _ => True) v0_ r /\ Below w.heap.size w w' := by
 have HR0 := Aside0.mk hr0
 have HC0 := Aside0.mk hc0
 clear hr0 hc0
 have HB := Aside0.mk (Below.refl w.heap.size w)
 have H := h
 clear h
 unfold laws_toIntS.f at H
 replace H := ifP H; obtain ⟨c2, H⟩ := H
 have c2b0 := eq_true c2
 have c2b1 := decide_eq_true c2
 clear c2
 replace H := ifP H; obtain ⟨c3, H⟩ := H
 have c3b0 := eq_true c3
 have c3b1 := decide_eq_true c3
 clear c3
 generalize hy165 : ((List.replicate ((l0.length : Int) : Int).toNat 0) : List Int) = y165 at H
 have Ny165 := Aside0.mk hy165.symm; clear hy165
 have H' := Aside0.mk H
 clear H
 go_enter Try.func18, Try.ntmps18
 go_wp2_with (first | ((with_reducible refine gate_dst (N := 7) rfl ?_); refine R_make (Kd.int .i64) _ 3 rfl (N := 7) rfl 22 _ _ rfl (l0.length : Int) rfl rfl Try.underlying22 (.int .i64 0) 8 info3 rfl (by decide) (by omega) 0 (ok := fun _ => True) (okp := fun _ => True) rfl (fun _ hk => hk) trivial (OD) (Nat.le_trans (Nat.mul_le_mul_right _ (OD : (l0.length : Int).toNat <= 35184372088832)) (by omega)) (Below.refl _ _) (Nat.le_refl _) ?_; intro v166 w4 ho5 hb hg_ hnew_; clear hg_ hnew_; (first | rw [<- Ny165.1] at ho5 | (simp only [Int.reduceToNat] at ho5; rw [<- Ny165.1] at ho5)); refine E2 (R_lower ho5 (bZ HB.1)) (bS HB.1 hb) ?_; clear HB; intro HO167 HB; clear hb ho5))
 go_loopg [4] k (fun kq v4 w' => ∃ (x3_1 : List Int) (x4_1 : Int), v4 = .int .i64 x4_1 /\ Aside0 (laws_toIntS.l0 kq l0 x3_1 x4_1 = some r) /\ Aside0 (kq <= k) /\ Aside0 (Kd.R (Kd.int .i64) 3 w' w.heap.size (fun _ => True) v166 x3_1) /\ Aside0 (Below w.heap.size w w'))
 case atStart => exact ⟨(y165), (0), RG, H', ⟨Nat.le_refl _⟩, ⟨PR HO167.1⟩, ⟨BL HB.1⟩⟩
 clear H'
 clear c2b0 c2b1 c3b0 c3b1
 obtain ⟨x3_1, x4_1, rfl, HA, HK1, HO_3, HB⟩ := hrel
 cases gk with
 | zero => exact absurd HA.1 (by simp [laws_toIntS.l0])
 | succ k1 => ?_
 have H := HA.1
 clear HA
 simp only [laws_toIntS.l0] at H
 replace H := ifB H; rcases H with ⟨c6b0, H⟩ | ⟨c6b0, H⟩
 · replace H := ifN H; obtain ⟨c7b0, H⟩ := H
   replace H := ifN H; obtain ⟨c8b0, H⟩ := H
   generalize hy169 : ((x3_1.set (x4_1 : Int).toNat (rd l0 x4_1)) : List Int) = y169 at H
   have Ny169 := Aside0.mk hy169.symm; clear hy169
   have H' := Aside0.mk H
   clear H
   have p168 : 0 <= (x4_1 : Int) := OD
   have q168 : x4_1 < (l0.length : Int) := OD
   obtain ⟨ad168, e168, hx168_0⟩ := Kd.at_int HR0.1 x4_1 p168 q168
   cases e168
   replace hx168_0 := (HB.1.cell (World.block_lt_of_cell? w _ hx168_0)).trans hx168_0
   replace p168 := eq_true p168
   replace q168 := eq_true q168
   have p9 : 0 <= (x4_1 : Int) := OD
   have q9 : (x4_1 : Int) < ((x3_1.length : Int) : Int) := OD
   obtain ⟨go9, co9, eo9, gb9, gl9, cl9, HG9⟩ := R_form HO_3.1 (by omega)
   (first | cases eo9 | (injection eo9 with ea_ en_ ec_; (first | subst ea_ | (injection ea_ with ea_; subst ea_)); subst ec_; clear en_))
   have GB9 := Aside0.mk gb9
   have GG9 := Aside0.mk HG9
   clear gb9 gl9 HG9
   obtain ⟨hx9_0, hf9_0⟩ := R_celln 0 HO_3.1 (x4_1 : Int) p9 q9
   replace p9 := eq_true p9
   replace q9 := eq_true q9
   have HP10 := R_putg HO_3.1 (x4_1 : Int) (rd l0 x4_1)
   go_wp2_with (first | ((with_reducible refine gate_store (t := 3) (p := 20) rfl ?_); refine storeE (t := 3) (p := 20) (w1 := (wr.setCell ⟨go9, (x4_1 : Int).toNat, none⟩ (.int .i64 (rd l0 x4_1)))) ?_; intro w11 hw; have hg : wr.grownBy w11 (some go9) := (by rw [hw]; exact HP10.2); have hp_ : Kd.R (Kd.int .i64) 3 w11 w.heap.size (fun _ => True) (.slice (some ⟨go9, 0, none⟩) x3_1.length co9) y169 := (by rw [hw, Ny169.1]; exact HP10.1); clear HP10; refine E2 (hp_) ((by rw [hw]; exact below_set (HB.1) GB9.1 : Below w.heap.size w w11)) ?_; clear HO_3 HB; intro HO_3 HB; clear hg hw hp_))
   go_roundg k1
   case measure => have := HK1.1; omega
   case rel => exact ⟨(y169), (wrap64 (x4_1 + 1)), RG, H', ⟨by have := HK1.1; omega⟩, ⟨PR HO_3.1⟩, ⟨BL HB.1⟩⟩
 obtain rfl := Option.some.inj H
 go_wp2
 go_ret
 exact ⟨_, RF, RPE (HO_3.1), BL HB.1⟩
/-! ### laws_toTable: function 6 -/
open Kd
def laws_toTable.f (k : Nat) (a0_0 : Int) (l0_1 : List Int) : Option (Int × List Int) := (laws_toIntS.f k l0_1).bind fun t173 => (some (a0_0, t173))
theorem laws_toTable.mono : ∀ a0 a1 k, LeO (laws_toTable.f k a0 a1) (laws_toTable.f (k + 1) a0 a1) := by
 intro a0 a1 k
 unfold laws_toTable.f
 repeat' first
  | (with_reducible exact laws_toIntS.mono _ _)
  | (with_reducible exact LeO.refl _)
  | (with_reducible exact LeO.none _)
  | (with_reducible refine LeO.ite ?_ ?_)
  | (with_reducible refine LeO.bind ?_ (fun _ => ?_))
  | exact laws_toIntS.mono _ _
  | exact LeO.none _
  | refine LeO.ite ?_ ?_
  | refine LeO.bind ?_ (fun _ => ?_)
theorem laws_toTable.calls (k : Nat) (a0_0 : Int) (A0_1 : Option Addr) (c0_1 : Nat) (l0_1 : List Int) (r1 : Int) (r2 : List Int) (w : World) (hr0_1 : Kd.C (Kd.int .i64) w A0_1 l0_1.length l0_1) (hc0_1 : l0_1.length <= c0_1) (h : laws_toTable.f k a0_0 l0_1 = some (r1, r2)) :
 Calls Try.prog 6 #[.agg #[.int .i64 a0_0, .slice A0_1 l0_1.length c0_1]] w fun e w' => ∃ v1_ : Value, e = .returned (.agg #[.int .i64 r1, v1_]) /\ Kd.R (Kd.int .i64) 3 w' w.heap.size (fun _ => True) v1_ r2 /\ Below w.heap.size w w' := by
 have hu24 := Try.underlying24
 have hu28 := Try.underlying28
 have HR0_1 := Aside0.mk hr0_1
 have HC0_1 := Aside0.mk hc0_1
 clear hr0_1 hc0_1
 have HB := Aside0.mk (Below.refl w.heap.size w)
 have H := h
 clear h
 unfold laws_toTable.f at H
 replace H := bindA H; obtain ⟨t173, A2, H⟩ := H
 simp only [Option.some.injEq, Prod.mk.injEq] at H
 obtain ⟨rfl, rfl⟩ := H
 go_enter Try.func6, Try.ntmps6
 go_wp2_with (first | ((with_reducible refine gate_dst (N := 1) rfl ?_); refine boxE (cs := #[.int .i64 a0_0, .slice A0_1 l0_1.length c0_1]) (t := 24) ?_; intro gb170 hg w3 hbox hb; refine E4b HB.1 hg hbox hb ?_; clear HB; intro HB BK170 GW170 GE170; clear hb hbox hg) | ((with_reducible refine gate_dst (N := 2) rfl ?_); refine boxE (cs := #[.int .i64 0, .slice none 0 0]) (t := 28) ?_; intro gb171 hg w4 hbox hb; refine E7 (bB BK170.1 hb) (bS HB.1 hb) (hbox) (gX HB.1 hg) (gX HB.1 hg) (nB BK170.1 hg) (nC BK170.1 hg) ?_; clear BK170 HB; intro BK170 HB BK171 GW171 GE171 NB170_171 NB171_170; clear hb hbox hg) | ((with_reducible refine gate_dst (N := 3) rfl ?_); refine boxE (cs := #[.int .i64 0, .slice none 0 0]) (t := 28) ?_; intro gb172 hg w5 hbox hb; refine E10 (bB BK170.1 hb) (bB BK171.1 hb) (bS HB.1 hb) (hbox) (gX HB.1 hg) (gX HB.1 hg) (nB BK170.1 hg) (nC BK170.1 hg) (nB BK171.1 hg) (nC BK171.1 hg) ?_; clear BK170 BK171 HB; intro BK170 BK171 HB BK172 GW172 GE172 NB170_172 NB172_170 NB171_172 NB172_171; clear hb hbox hg; have hnb6 := NB170_171.1; have hnc6 := NB171_170.1; have hnb7 := NB170_172.1; have hnc7 := NB172_170.1; obtain ⟨hcz8_0, hcz8_1, hfz8_0, hfz8_1⟩ := cz2 BK170.1; have hnb9 := NB172_171.1; have hnc9 := NB171_172.1; obtain ⟨hcz10_0, hcz10_1, hfz10_0, hfz10_1⟩ := cz2 BK172.1) | ((with_reducible refine gate_callee (f := 18) rfl ?_); refine goesM (N := (some 9)) #[.slice A0_1 l0_1.length c0_1] Try.func18 ?_; (with_reducible refine (laws_toIntS.calls k _ _ l0_1 t173 _ ?side1 ?side2 A2.1).mono ?_); (case side1 => exact C_below HR0_1.1 (BL HB.1)); (case side2 => exact HC0_1.1); rintro e w11 ⟨v174, rfl, ho0, hb⟩; refine ⟨_, rfl, ?_⟩; refine E5 (R_lower ho0 (bZ HB.1)) (blk_below (g := gb170) (o := .cells #[.int .i64 a0_0, .slice A0_1 l0_1.length c0_1] 24 (0, 0)) (PF1 NB170_172.1 BK170.1) hb) (blk_below (g := gb171) (o := .cells #[.int .i64 0, .slice none 0 0] 28 (0, 0)) (PF1 NB171_172.1 BK171.1) hb) (blk_below (g := gb172) (o := .cells #[.int .i64 a0_0, .slice none 0 0] 28 (0, 0)) (PF0 BK172.1) hb) (bS HB.1 hb) ?_; clear BK170 BK171 BK172 HB; intro HO175 BK170 BK171 BK172 HB; (try clear hb); (try clear ho0); obtain ⟨Ao12, co12, eo12⟩ := R_slice HO175.1; subst eo12; obtain ⟨hcz13_0, hcz13_1, hfz13_0, hfz13_1⟩ := cz2 BK172.1; obtain ⟨hcz14_0, hcz14_1, hfz14_0, hfz14_1⟩ := cz2 BK171.1))
 refine bodyPost_ret (results_cell_row rfl _ _ gb171 28 #[.int .i64 a0_0, .slice Ao12 t173.length co12] (0, 0) _ rfl (PF1 NB171_172.1 BK171.1) Try.underlying28 rfl (by kernel_rfl)) rfl ?_
 exact ⟨_, RF, by (with_reducible repeat (first | apply R_alloc | apply R_drewN | apply R_drew)); exact R_mono (RQ gb171 1 (RQ gb171 0 (R_far (p := ⟨gb172, 1, none⟩) (R_types (R_types HO175.1 BK172.1 (by decide)) BK171.1 (by decide)) (fun _ hk => hk.1.2) (.slice Ao12 t173.length co12)) _) _) (fun _ hk => trivial), BL HB.1⟩

/-! ### impl_areBits: function 29 -/
open Kd
def impl_areBits.l0 : Nat -> List Int -> Int -> Int -> Option (Bool)
 | 0, _, _, _ => none
 | k + 1, x5, x6, x7 => if x7 < x6 then (if 0 <= x7 then (if x7 < (x5.length : Int) then (if (rd x5 x7) = 0 then (impl_areBits.l0 k x5 x6 (wrap64 (x7 + 1))) else (if (rd x5 x7) = 1 then (impl_areBits.l0 k x5 x6 (wrap64 (x7 + 1))) else (some false))) else (none)) else (none)) else (some true)
def impl_areBits.f (k : Nat) (l0 : List Int) : Option (Bool) := impl_areBits.l0 k l0 (l0.length : Int) 0
theorem impl_areBits.mono_l : ∀ k, (∀ y0 y1 y2, LeO (impl_areBits.l0 k y0 y1 y2) (impl_areBits.l0 (k + 1) y0 y1 y2))
 | 0 => fun _ _ _ r h => by simp [impl_areBits.l0] at h
 | k + 1 => by
  have ih0 := impl_areBits.mono_l k
  intros
  first | unfold impl_areBits.l0
  exact LM1 ih0
theorem impl_areBits.mono : ∀ a0 k, LeO (impl_areBits.f k a0) (impl_areBits.f (k + 1) a0) := by
 intro a0 k
 have ih0 := impl_areBits.mono_l k
 unfold impl_areBits.f
 exact LM1 ih0
theorem impl_areBits.calls (k : Nat) (A0 : Option Addr) (c0 : Nat) (l0 : List Int) (r : Bool) (w : World) (hr0 : Kd.C (Kd.int .i64) w A0 l0.length l0) (hc0 : l0.length <= c0) (h : impl_areBits.f k l0 = some r) :
 Calls Try.prog 29 #[.slice A0 l0.length c0] w fun e w' => e = .returned (.bool r) /\ Drawn0 w w' := by
 have HR0 := Aside0.mk hr0
 have HC0 := Aside0.mk hc0
 clear hr0 hc0
 have H := h
 clear h
 unfold impl_areBits.f at H
 have H' := Aside0.mk H
 clear H
 go_enter Try.func29, Try.ntmps29
 go_wp2
 go_loopg [7] k (fun kq v7 w' => ∃ (x7_1 : Int), v7 = .int .i64 x7_1 /\ Aside0 (impl_areBits.l0 kq l0 (l0.length : Int) x7_1 = some r) /\ Aside0 (kq <= k) /\ Drawn0 w w')
 case atStart => exact ⟨(0), RG, H', ⟨Nat.le_refl _⟩, DR⟩
 clear H'
 obtain ⟨x7_1, rfl, HA, HK1, ⟨m1, rfl⟩⟩ := hrel
 cases gk with
 | zero => exact absurd HA.1 (by simp [impl_areBits.l0])
 | succ k1 => ?_
 have H := HA.1
 clear HA
 simp only [impl_areBits.l0] at H
 replace H := ifB H; rcases H with ⟨c2b0, H⟩ | ⟨c2b0, H⟩
 · replace H := ifN H; obtain ⟨c3b0, H⟩ := H
   replace H := ifN H; obtain ⟨c4b0, H⟩ := H
   replace H := ifQ H; rcases H with ⟨c5, H⟩ | ⟨c5, H⟩
   · have c5b0 := beq_iff_eq.mpr c5
     have c5b1 := bne_eq_false_iff_eq.mpr c5
     clear c5
     have H' := Aside0.mk H
     clear H
     have p176 : 0 <= (x7_1 : Int) := OD
     have q176 : x7_1 < (l0.length : Int) := OD
     obtain ⟨ad176, e176, hx176_0⟩ := Kd.at_int HR0.1 x7_1 p176 q176
     cases e176
     replace p176 := eq_true p176
     replace q176 := eq_true q176
     go_wp2
     go_roundg k1
     case measure => have := HK1.1; omega
     case rel => exact ⟨(wrap64 (x7_1 + 1)), RG, H', ⟨by have := HK1.1; omega⟩, DR⟩
   have c5b0 := beq_eq_false_iff_ne.mpr c5
   have c5b1 := bne_iff_ne.mpr c5
   replace H := ifQ H; rcases H with ⟨c6, H⟩ | ⟨c6, H⟩
   · have c6b0 := beq_iff_eq.mpr c6
     have c6b1 := bne_eq_false_iff_eq.mpr c6
     clear c6
     have H' := Aside0.mk H
     clear H
     have p176 : 0 <= (x7_1 : Int) := OD
     have q176 : x7_1 < (l0.length : Int) := OD
     obtain ⟨ad176, e176, hx176_0⟩ := Kd.at_int HR0.1 x7_1 p176 q176
     cases e176
     replace p176 := eq_true p176
     replace q176 := eq_true q176
     go_wp2
     go_roundg k1
     case measure => have := HK1.1; omega
     case rel => exact ⟨(wrap64 (x7_1 + 1)), RG, H', ⟨by have := HK1.1; omega⟩, DR⟩
   have c6b0 := beq_eq_false_iff_ne.mpr c6
   have c6b1 := bne_iff_ne.mpr c6
   obtain rfl := Option.some.inj H
   have p176 : 0 <= (x7_1 : Int) := OD
   have q176 : x7_1 < (l0.length : Int) := OD
   obtain ⟨ad176, e176, hx176_0⟩ := Kd.at_int HR0.1 x7_1 p176 q176
   cases e176
   replace p176 := eq_true p176
   replace q176 := eq_true q176
   go_wp2
   go_ret
   exact ⟨RG, DR⟩
 obtain rfl := Option.some.inj H
 go_wp2
 go_ret
 exact ⟨RG, DR⟩
/-! ### impl_IsTable: function 19 -/
open Kd
def impl_IsTable.f (k : Nat) (a0_0 : Int) (l0_1 : List Int) : Option (Bool) := if a0_0 ≥ 0 then (if a0_0 <= 4 then (if 0 <= a0_0 then (if (l0_1.length : Int) = (shl .i64 1 a0_0) then ((impl_areBits.f k l0_1).bind fun t178 => (some t178)) else (some false)) else (none)) else (some false)) else (some false)
theorem impl_IsTable.mono : ∀ a0 a1 k, LeO (impl_IsTable.f k a0 a1) (impl_IsTable.f (k + 1) a0 a1) := by
 intro a0 a1 k
 unfold impl_IsTable.f
 repeat' first
  | (with_reducible exact impl_areBits.mono _ _)
  | (with_reducible exact LeO.refl _)
  | (with_reducible exact LeO.none _)
  | (with_reducible refine LeO.ite ?_ ?_)
  | (with_reducible refine LeO.bind ?_ (fun _ => ?_))
  | exact impl_areBits.mono _ _
  | exact LeO.none _
  | refine LeO.ite ?_ ?_
  | refine LeO.bind ?_ (fun _ => ?_)
theorem impl_IsTable.calls (k : Nat) (a0_0 : Int) (A0_1 : Option Addr) (c0_1 : Nat) (l0_1 : List Int) (r : Bool) (w : World) (hr0_1 : Kd.C (Kd.int .i64) w A0_1 l0_1.length l0_1) (hc0_1 : l0_1.length <= c0_1) (h : impl_IsTable.f k a0_0 l0_1 = some r) :
 Calls Try.prog 19 #[.agg #[.int .i64 a0_0, .slice A0_1 l0_1.length c0_1]] w fun e w' => e = .returned (.bool r) /\ Below w.heap.size w w' := by
 have hu28 := Try.underlying28
 have HR0_1 := Aside0.mk hr0_1
 have HC0_1 := Aside0.mk hc0_1
 clear hr0_1 hc0_1
 have HB := Aside0.mk (Below.refl w.heap.size w)
 have H := h
 clear h
 unfold impl_IsTable.f at H
 replace H := ifQ H; rcases H with ⟨c2, H⟩ | ⟨c2, H⟩
 · have c2b0 : decide (0 <= a0_0) = true := decide_eq_true c2
   clear c2
   replace H := ifB H; rcases H with ⟨c3b0, H⟩ | ⟨c3b0, H⟩
   · replace H := ifP H; obtain ⟨c4, H⟩ := H
     have c4b0 := eq_true c4
     have c4b1 := decide_eq_true c4
     clear c4
     obtain ⟨ji5, hji5⟩ : ∃ j_ : Int, (shl .i64 1 a0_0) = j_ := ⟨_, rfl⟩
     replace H : (if (l0_1.length : Int) = (ji5) then ((impl_areBits.f k l0_1).bind fun t178 => (some t178)) else (some false)) = some r := by first | (rw [hji5] at H; exact H) | (simp only [hji5] at H ⊢; exact H)
     have hji5_ : (IntKind.i64.wrap (1 * 2 ^ min a0_0.toNat 64)) = ji5 := hji5
     have hji5z : a0_0 <= 64 -> (IntKind.i64.wrap (1 * 2 ^ a0_0.toNat)) = ji5 := shl_small hji5
     have hji5u : (IntKind.i64.wrap (2 ^ min a0_0.toNat 64)) = ji5 := by have h_ := hji5_; rw [Int.one_mul] at h_; exact h_
     have hji5v : a0_0 <= 64 -> (IntKind.i64.wrap (2 ^ a0_0.toNat)) = ji5 := fun hle_ => by have h_ := hji5z hle_; rw [Int.one_mul] at h_; exact h_
     have hji5y : (wrap64 (1 * 2 ^ min a0_0.toNat 64)) = ji5 := (i64_w _).symm.trans hji5_
     have hji5x : a0_0 <= 64 -> (wrap64 (1 * 2 ^ a0_0.toNat)) = ji5 := fun h_ => (i64_w _).symm.trans (hji5z h_)
     replace H := ifQ H; rcases H with ⟨c6, H⟩ | ⟨c6, H⟩
     · have c6b0 := beq_iff_eq.mpr c6
       have c6b1 := bne_eq_false_iff_eq.mpr c6
       clear c6
       replace H := bindA H; obtain ⟨t178, A7, H⟩ := H
       obtain rfl := Option.some.inj H
       go_enter Try.func19, Try.ntmps19
       go_wp2_with (first | ((with_reducible refine gate_dst (N := 1) rfl ?_); (try (refine gate_guard (by rfl) ?_; dsimp only)); refine boxE (cs := #[.int .i64 a0_0, .slice A0_1 l0_1.length c0_1]) (t := 28) ?_; intro gb177 hg w8 hbox hb; refine E4b HB.1 hg hbox hb ?_; clear HB; intro HB BK177 GW177 GE177; clear hb hbox hg; obtain ⟨hcz9_0, hcz9_1, hfz9_0, hfz9_1⟩ := cz2 BK177.1) | (go_at_call 29; (with_reducible refine (impl_areBits.calls k _ _ l0_1 t178 _ ?side1 ?side2 A7.1).mono ?_); (case side1 => exact CB (C_below HR0_1.1 HB.1)); (case side2 => exact HC0_1.1); rintro e w' ⟨rfl, ⟨nd, rfl⟩⟩; (try first | exact ⟨rfl, _, World.drewN_drewN _ _ _⟩ | exact ⟨rfl, _, Eq.trans (World.drewN_drewN _ _ _) (congrArg (World.drewN _) (Nat.add_assoc _ _ _))⟩)))
       repeat (go_quiet (first | ((with_reducible refine gate_dst (N := 1) rfl ?_); (try (refine gate_guard (by rfl) ?_; dsimp only)); refine boxE (cs := #[.int .i64 a0_0, .slice A0_1 l0_1.length c0_1]) (t := 28) ?_; intro gb177 hg w8 hbox hb; refine E4b HB.1 hg hbox hb ?_; clear HB; intro HB BK177 GW177 GE177; clear hb hbox hg; obtain ⟨hcz9_0, hcz9_1, hfz9_0, hfz9_1⟩ := cz2 BK177.1) | (go_at_call 29; (with_reducible refine (impl_areBits.calls k _ _ l0_1 t178 _ ?side1 ?side2 A7.1).mono ?_); (case side1 => exact CB (C_below HR0_1.1 HB.1)); (case side2 => exact HC0_1.1); rintro e w' ⟨rfl, ⟨nd, rfl⟩⟩; (try first | exact ⟨rfl, _, World.drewN_drewN _ _ _⟩ | exact ⟨rfl, _, Eq.trans (World.drewN_drewN _ _ _) (congrArg (World.drewN _) (Nat.add_assoc _ _ _))⟩))); try go_wp2_with (first | ((with_reducible refine gate_dst (N := 1) rfl ?_); (try (refine gate_guard (by rfl) ?_; dsimp only)); refine boxE (cs := #[.int .i64 a0_0, .slice A0_1 l0_1.length c0_1]) (t := 28) ?_; intro gb177 hg w8 hbox hb; refine E4b HB.1 hg hbox hb ?_; clear HB; intro HB BK177 GW177 GE177; clear hb hbox hg; obtain ⟨hcz9_0, hcz9_1, hfz9_0, hfz9_1⟩ := cz2 BK177.1) | (go_at_call 29; (with_reducible refine (impl_areBits.calls k _ _ l0_1 t178 _ ?side1 ?side2 A7.1).mono ?_); (case side1 => exact CB (C_below HR0_1.1 HB.1)); (case side2 => exact HC0_1.1); rintro e w' ⟨rfl, ⟨nd, rfl⟩⟩; (try first | exact ⟨rfl, _, World.drewN_drewN _ _ _⟩ | exact ⟨rfl, _, Eq.trans (World.drewN_drewN _ _ _) (congrArg (World.drewN _) (Nat.add_assoc _ _ _))⟩))))
       go_ret
       exact ⟨by first | rfl | (simp [errW_none, errW_some] <;> rfl) | (simp only [<- hji5]; first | rfl | (simp [errW_none, errW_some] <;> rfl)) | (simp [*, errW_none, errW_some] <;> rfl), BL HB.1⟩
     have c6b0 := beq_eq_false_iff_ne.mpr c6
     have c6b1 := bne_iff_ne.mpr c6
     obtain rfl := Option.some.inj H
     go_enter Try.func19, Try.ntmps19
     go_wp2_with (first | ((with_reducible refine gate_dst (N := 1) rfl ?_); (try (refine gate_guard (by rfl) ?_; dsimp only)); refine boxE (cs := #[.int .i64 a0_0, .slice A0_1 l0_1.length c0_1]) (t := 28) ?_; intro gb177 hg w10 hbox hb; refine E4b HB.1 hg hbox hb ?_; clear HB; intro HB BK177 GW177 GE177; clear hb hbox hg; obtain ⟨hcz11_0, hcz11_1, hfz11_0, hfz11_1⟩ := cz2 BK177.1))
     repeat (go_quiet (first | ((with_reducible refine gate_dst (N := 1) rfl ?_); (try (refine gate_guard (by rfl) ?_; dsimp only)); refine boxE (cs := #[.int .i64 a0_0, .slice A0_1 l0_1.length c0_1]) (t := 28) ?_; intro gb177 hg w10 hbox hb; refine E4b HB.1 hg hbox hb ?_; clear HB; intro HB BK177 GW177 GE177; clear hb hbox hg; obtain ⟨hcz11_0, hcz11_1, hfz11_0, hfz11_1⟩ := cz2 BK177.1)); try go_wp2_with (first | ((with_reducible refine gate_dst (N := 1) rfl ?_); (try (refine gate_guard (by rfl) ?_; dsimp only)); refine boxE (cs := #[.int .i64 a0_0, .slice A0_1 l0_1.length c0_1]) (t := 28) ?_; intro gb177 hg w10 hbox hb; refine E4b HB.1 hg hbox hb ?_; clear HB; intro HB BK177 GW177 GE177; clear hb hbox hg; obtain ⟨hcz11_0, hcz11_1, hfz11_0, hfz11_1⟩ := cz2 BK177.1)))
     go_ret
     exact ⟨by first | rfl | (simp [errW_none, errW_some] <;> rfl) | (simp only [<- hji5]; first | rfl | (simp [errW_none, errW_some] <;> rfl)) | (simp [*, errW_none, errW_some] <;> rfl), BL HB.1⟩
   obtain rfl := Option.some.inj H
   go_enter Try.func19, Try.ntmps19
   go_wp2_with (first | ((with_reducible refine gate_dst (N := 1) rfl ?_); (try (refine gate_guard (by rfl) ?_; dsimp only)); refine boxE (cs := #[.int .i64 a0_0, .slice A0_1 l0_1.length c0_1]) (t := 28) ?_; intro gb177 hg w12 hbox hb; refine E4b HB.1 hg hbox hb ?_; clear HB; intro HB BK177 GW177 GE177; clear hb hbox hg; obtain ⟨hcz13_0, hcz13_1, hfz13_0, hfz13_1⟩ := cz2 BK177.1))
   repeat (go_quiet (first | ((with_reducible refine gate_dst (N := 1) rfl ?_); (try (refine gate_guard (by rfl) ?_; dsimp only)); refine boxE (cs := #[.int .i64 a0_0, .slice A0_1 l0_1.length c0_1]) (t := 28) ?_; intro gb177 hg w12 hbox hb; refine E4b HB.1 hg hbox hb ?_; clear HB; intro HB BK177 GW177 GE177; clear hb hbox hg; obtain ⟨hcz13_0, hcz13_1, hfz13_0, hfz13_1⟩ := cz2 BK177.1)); try go_wp2_with (first | ((with_reducible refine gate_dst (N := 1) rfl ?_); (try (refine gate_guard (by rfl) ?_; dsimp only)); refine boxE (cs := #[.int .i64 a0_0, .slice A0_1 l0_1.length c0_1]) (t := 28) ?_; intro gb177 hg w12 hbox hb; refine E4b HB.1 hg hbox hb ?_; clear HB; intro HB BK177 GW177 GE177; clear hb hbox hg; obtain ⟨hcz13_0, hcz13_1, hfz13_0, hfz13_1⟩ := cz2 BK177.1)))
   go_ret
   exact ⟨RF, BL HB.1⟩
 have c2b0 : decide (0 <= a0_0) = false := decide_eq_false c2
 clear c2
 obtain rfl := Option.some.inj H
 go_enter Try.func19, Try.ntmps19
 go_wp2_with (first | ((with_reducible refine gate_dst (N := 1) rfl ?_); (try (refine gate_guard (by rfl) ?_; dsimp only)); refine boxE (cs := #[.int .i64 a0_0, .slice A0_1 l0_1.length c0_1]) (t := 28) ?_; intro gb177 hg w14 hbox hb; refine E4b HB.1 hg hbox hb ?_; clear HB; intro HB BK177 GW177 GE177; clear hb hbox hg; obtain ⟨hcz15_0, hcz15_1, hfz15_0, hfz15_1⟩ := cz2 BK177.1))
 repeat (go_quiet (first | ((with_reducible refine gate_dst (N := 1) rfl ?_); (try (refine gate_guard (by rfl) ?_; dsimp only)); refine boxE (cs := #[.int .i64 a0_0, .slice A0_1 l0_1.length c0_1]) (t := 28) ?_; intro gb177 hg w14 hbox hb; refine E4b HB.1 hg hbox hb ?_; clear HB; intro HB BK177 GW177 GE177; clear hb hbox hg; obtain ⟨hcz15_0, hcz15_1, hfz15_0, hfz15_1⟩ := cz2 BK177.1)); try go_wp2_with (first | ((with_reducible refine gate_dst (N := 1) rfl ?_); (try (refine gate_guard (by rfl) ?_; dsimp only)); refine boxE (cs := #[.int .i64 a0_0, .slice A0_1 l0_1.length c0_1]) (t := 28) ?_; intro gb177 hg w14 hbox hb; refine E4b HB.1 hg hbox hb ?_; clear HB; intro HB BK177 GW177 GE177; clear hb hbox hg; obtain ⟨hcz15_0, hcz15_1, hfz15_0, hfz15_1⟩ := cz2 BK177.1)))
 go_ret
 exact ⟨RF, BL HB.1⟩
end Go.Proofs.Ythfnceilapgloaa.P
