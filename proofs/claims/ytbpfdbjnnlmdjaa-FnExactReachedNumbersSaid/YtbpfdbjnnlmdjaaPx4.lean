import Derived.Test.YtbpfdbjnnlmdjaaPx0
import Derived.Test.YtbpfdbjnnlmdjaaPx3
namespace Go.Proofs.Ytbpfdbjnnlmdjaa.P
open Go.RowKit Go.Proofs.YtbpfdbjnnlmdjaaW.PrintWords Go.Proofs.YtbpfdbjnnlmdjaaW.PrintLast Go.Proofs.YtbpfdbjnnlmdjaaW.PrintMore
attribute [local go_sem] max2_int min2_int max_two min_two max_three min_three max_four min_four
set_option linter.unusedVariables false
set_option linter.unusedSimpArgs false
set_option maxHeartbeats 8000000
set_option maxRecDepth 100000
theorem foot_inner3 {w W : World} {S : Nat -> Prop} {ad : Addr} {n : Nat} {xs : List (List Int)} {i : Int} {A : Option Addr} {c : Nat}
 (hr : ∀ W_, Kept w W_ S -> Kd.C (Kd.slice 3 (Kd.int .i64)) W_ (some ad) n xs) (hk : Kept w W S) (h0 : 0 <= i) (h1 : i < n)
 (hx : W.cell? (ad.add i.toNat) = some (.slice A (rd_L3 xs i).length c)) : ∀ W_, Kept w W_ S -> Kd.C (Kd.int .i64) W_ A (rd_L3 xs i).length (rd_L3 xs i) := by
 obtain ⟨ad1, A1, c1, e1, hw, _, _⟩ := at_L3 (hr w (Kept.refl w S)) i h0 h1
 cases e1
 have hne : ¬ S (ad.add i.toNat).block := by
  intro hS
  obtain ⟨ad2, A2, c2, e2, hw2, _, _⟩ := at_L3 (hr _ ((Kept.refl w S).setCell (p := ad.add i.toNat) (.inl hS) (.int .i64 0))) i h0 h1
  cases e2
  rw [World.cell?_setCell_same' _ _ _ (by rw [hw]; rfl)] at hw2
  cases hw2
 have a1 := cell_kept hw hk hne
 rw [a1] at hx
 injection hx with hx
 injection hx with hA _ _
 intro W_ hk_
 obtain ⟨ad2, A2, c2, e2, hw2, _, hC2⟩ := at_L3 (hr W_ hk_) i h0 h1
 cases e2
 have a2 := cell_kept hw hk_ hne
 rw [a2] at hw2
 injection hw2 with hw2
 injection hw2 with hA2 _ _
 rw [<- hA, hA2]
 exact hC2
open Kd
mutual
def impl_setBits.l0 : Nat -> List Int -> List (List Int) -> Int -> Int -> Int -> Int -> List (S83) -> Option ((List (S83)))
 | 0, _, _, _, _, _, _, _ => none
 | k + 1, x2, x10, x11, x12, x460000, x460001, x460002 => if x12 < x11 then (if 0 <= x12 then (if x12 < (x10.length : Int) then (if 0 < ((rd_L3 x10 x12).length : Int) then (if 0 <= (rd (rd_L3 x10 x12) 0) then (if (rd (rd_L3 x10 x12) 0) < (x460002.length : Int) then (if x12 < (x2.length : Int) then (if ((rd_T83 x460002 (rd (rd_L3 x10 x12) 0)).f1) = (rd x2 x12) then (impl_setBits.l0 k x2 x10 x11 (wrap64 (x12 + 1)) x460000 x460001 x460002) else (impl_setBits.l1 k x2 x10 x11 x12 (rd_L3 x10 x12) ((rd_L3 x10 x12).length : Int) 0 x460000 x460001 x460002)) else (none)) else (none)) else (none)) else (none)) else (none)) else (none)) else (some x460002)
def impl_setBits.l1 : Nat -> List Int -> List (List Int) -> Int -> Int -> List Int -> Int -> Int -> Int -> Int -> List (S83) -> Option ((List (S83)))
 | 0, _, _, _, _, _, _, _, _, _, _ => none
 | k + 1, x2, x10, x11, x12, x30, x31, x32, x460000, x460001, x460002 => if x32 < x31 then (if 0 <= x32 then (if x32 < (x30.length : Int) then (if 0 <= (rd x30 x32) then (if (rd x30 x32) < (x460002.length : Int) then (impl_setBits.l1 k x2 x10 x11 x12 x30 x31 (wrap64 (x32 + 1)) x460000 x460001 (x460002.set ((rd x30 x32) : Int).toNat (⟨(rd_T83 x460002 (rd x30 x32)).f0, wrap64 (1 - ((rd_T83 x460002 (rd x30 x32)).f1))⟩ : S83))) else (none)) else (none)) else (none)) else (none)) else (impl_setBits.l0 k x2 x10 x11 (wrap64 (x12 + 1)) x460000 x460001 x460002)
end
def impl_setBits.f (k : Nat) (a0_0 : Int) (a0_1 : Int) (l0_2 : List (S83)) (l1 : List (List Int)) (l2 : List Int) : Option ((List (S83))) := impl_setBits.l0 k l2 l1 (l1.length : Int) 0 a0_0 a0_1 l0_2
theorem impl_setBits.mono_l : ∀ k, (∀ y0 y1 y2 y3 y4 y5 y6, LeO (impl_setBits.l0 k y0 y1 y2 y3 y4 y5 y6) (impl_setBits.l0 (k + 1) y0 y1 y2 y3 y4 y5 y6)) /\ (∀ y0 y1 y2 y3 y4 y5 y6 y7 y8 y9, LeO (impl_setBits.l1 k y0 y1 y2 y3 y4 y5 y6 y7 y8 y9) (impl_setBits.l1 (k + 1) y0 y1 y2 y3 y4 y5 y6 y7 y8 y9))
 | 0 => by refine ⟨?_, ?_⟩ <;> (intros; intro r h; first | (simp [impl_setBits.l0] at h; done) | (simp [impl_setBits.l1] at h; done))
 | k + 1 => by
  obtain ⟨ih0, ih1⟩ := impl_setBits.mono_l k
  refine ⟨?_, ?_⟩ <;> (
   intros
   first | unfold impl_setBits.l0 | unfold impl_setBits.l1
   exact LM2 ih0 ih1)
theorem impl_setBits.mono : ∀ a0 a1 a2 a3 a4 k, LeO (impl_setBits.f k a0 a1 a2 a3 a4) (impl_setBits.f (k + 1) a0 a1 a2 a3 a4) := by
 intro a0 a1 a2 a3 a4 k
 obtain ⟨ih0, ih1⟩ := impl_setBits.mono_l k
 unfold impl_setBits.f
 exact LM2 ih0 ih1
def impl_setBits.T4 : Bool × List (List Nat × List Nat) := (true, [([], []), ([0], [0]), ([], []), ([2], [2]), ([3], [3]), ([1, 4], [1, 4]), ([5], [5]), ([6], [6]), ([], []), ([], []), ([8, 9], [8, 9]), ([10], [10]), ([7, 11], [7, 11])])
def impl_setBits.B4 : List Nat := [0, 1, 0, 4, 12, 31, 63, 127, 0, 0, 768, 1792, 4095]
theorem impl_setBits.tab4 : rtab .any (opsOf Try.f76 4) = impl_setBits.T4 := by kernel_rfl
theorem impl_setBits.bits4 : waitsOk impl_setBits.T4.2 impl_setBits.B4 = true := by kernel_rfl
def impl_setBits.T8 : Bool × List (List Nat × List Nat) := (true, [([], []), ([0], [0]), ([], []), ([], []), ([3], [3]), ([], []), ([4, 5], [4, 5]), ([6], [6]), ([7], [7]), ([8], [8]), ([1, 2, 0, 1, 2, 3, 4, 5, 6, 7, 8, 9], [1, 2]), ([10, 0, 1, 2, 3, 4, 5, 6, 7, 8, 9], [10]), ([11, 9, 0, 1, 2, 3, 4, 5, 6, 7, 8, 9], [9, 11])])
def impl_setBits.B8 : List Nat := [0, 1, 0, 0, 8, 0, 56, 120, 248, 504, 1023, 2047, 4095]
theorem impl_setBits.tab8 : rtab .any (opsOf Try.f76 8) = impl_setBits.T8 := by kernel_rfl
theorem impl_setBits.bits8 : waitsOk impl_setBits.T8.2 impl_setBits.B8 = true := by kernel_rfl
theorem impl_setBits.calls (k : Nat) (a0_0 : Int) (a0_1 : Int) (P0_2_ : Nat -> Prop) (u9000_ : Value) (l0_2 : List (S83)) (A1 : Option Addr) (c1 : Nat) (l1 : List (List Int)) (A2 : Option Addr) (c2 : Nat) (l2 : List Int) (r : List (S83)) (w0 w : World) (hB : Below w0.heap.size w0 w) (ho0_2 : Kd.R k83 83 w w0.heap.size P0_2_ u9000_ l0_2) (hr1 : ∀ W_, Kept w W_ (fun k_ => P0_2_ k_) -> Kd.C (Kd.slice 3 (Kd.int .i64)) W_ A1 l1.length l1) (hc1 : l1.length <= c1) (hr2 : ∀ W_, Kept w W_ (fun k_ => P0_2_ k_) -> Kd.C (Kd.int .i64) W_ A2 l2.length l2) (hc2 : l2.length <= c2) (h : impl_setBits.f k a0_0 a0_1 l0_2 l1 l2 = some r) :
 Calls Try.prog 76 #[.agg #[.int .i64 a0_0, .int .i64 a0_1, u9000_], .slice A1 l1.length c1, .slice A2 l2.length c2] w fun e w' => e = .returned (.tuple #[]) /\ Kd.R k83 83 w' w0.heap.size (fun k_ => (P0_2_ k_ ∨ w.heap.size <= k_)) u9000_ r /\ Below w0.heap.size w0 w' /\ Kept w w' (fun k_ => P0_2_ k_) := by
 have hu30 := Try.underlying30
 have HO0_2 := Aside0.mk (show Kd.R k83 83 w w0.heap.size (fun k_ => (P0_2_ k_ ∨ w.heap.size <= k_)) u9000_ l0_2 from R_mono ho0_2 (fun k_ hk => (.inl hk)))
 have HR1 := Aside0.mk hr1
 have HC1 := Aside0.mk hc1
 clear hr1 hc1
 have HR2 := Aside0.mk hr2
 have HC2 := Aside0.mk hc2
 clear hr2 hc2
 have HK := Aside0.mk (Kept.refl w (fun k_ => P0_2_ k_))
 have HW0 := Aside0.mk hB.size
 have HB := Aside0.mk hB
 clear hB
 have H := h
 clear h
 unfold impl_setBits.f at H
 have H' := Aside0.mk H
 clear H
 obtain ⟨Ao4, co4, eo4⟩ := R_slice HO0_2.1
 subst eo4
 go_enter Try.func76, Try.ntmps76
 go_wp2_with (first | ((with_reducible refine gate_dst (N := 3) rfl ?_); refine boxE (cs := #[.int .i64 a0_0, .int .i64 a0_1, .slice Ao4 l0_2.length co4]) (t := 30) ?_; intro gb459 hg w5 hbox hb; refine E6 (rB HO0_2.1 hb) (Kept.below (S := (fun k_ => P0_2_ k_)) (KL HK.1) hb) (bS HB.1 hb) (hbox) ((by rw [hg]; exact (by first | exact HK.1.1 | exact (show Kept w _ (fun k_ => P0_2_ k_) from KL HK.1).1) : w.heap.size <= gb459)) (gwM hg (bZ HB.1) : w0.heap.size <= gb459) ?_; clear HO0_2 HK HB; intro HO0_2 HK HB BK459 GW459 GE459; clear hb hbox hg))
 go_loopg [12] k (fun kq v12 w' => ∃ (x12_1 : Int) (x460002_1 : List (S83)), v12 = .int .i64 x12_1 /\ Aside0 (impl_setBits.l0 kq l2 l1 (l1.length : Int) x12_1 a0_0 a0_1 x460002_1 = some r) /\ Aside0 (kq <= k) /\ Aside0 (Kd.R k83 83 w' w0.heap.size (fun k_ => (P0_2_ k_ ∨ w.heap.size <= k_)) (.slice Ao4 l0_2.length co4) x460002_1) /\ Aside0 (w'.heap[gb459]? = some (.cells #[.int .i64 a0_0, .int .i64 a0_1, (.slice Ao4 l0_2.length co4)] 30 (0, 0))) /\ Aside0 (Kept w w' (fun k_ => P0_2_ k_)) /\ Aside0 (Below w0.heap.size w0 w'))
 case atStart => exact ⟨(0), (l0_2), RG, H', ⟨Nat.le_refl _⟩, ⟨PR HO0_2.1⟩, ⟨PB BK459.1⟩, ⟨KL HK.1⟩, ⟨BL HB.1⟩⟩
 clear H'
 try clear c1; try clear c2
 obtain ⟨x12_1, x460002_1, rfl, HA, HK1, HO_460002, BK459, HK, HB⟩ := hrel
 have hl460002_1 := (R_reads' HO_460002.1).1
 rw [hl460002_1] at HO_460002
 (try simp only [hl460002_1])
 (try simp only [hl460002_1] at BK459)
 cases gk with
 | zero => exact absurd HA.1 (by simp [impl_setBits.l0])
 | succ k1 => ?_
 have H := HA.1
 clear HA
 simp only [impl_setBits.l0] at H
 replace H := ifB H; rcases H with ⟨c6b0, H⟩ | ⟨c6b0, H⟩
 · replace H := ifN H; obtain ⟨c7b0, H⟩ := H
   replace H := ifN H; obtain ⟨c8b0, H⟩ := H
   replace H := ifP H; obtain ⟨c9, H⟩ := H
   have c9b0 := decide_eq_true c9
   have c9b1 : decide (0 < (rd_L3 l1 x12_1).length) = true := decide_eq_true (by omega)
   clear c9
   replace H := ifN H; obtain ⟨c10b0, H⟩ := H
   replace H := ifN H; obtain ⟨c11b0, H⟩ := H
   replace H := ifN H; obtain ⟨c12b0, H⟩ := H
   replace H := ifQ H; rcases H with ⟨c13, H⟩ | ⟨c13, H⟩
   · have c13b0 := beq_iff_eq.mpr c13
     have c13b1 := bne_eq_false_iff_eq.mpr c13
     clear c13
     have H' := Aside0.mk H
     clear H
     have p460 : 0 <= (x12_1 : Int) := OD
     have q460 : x12_1 < (l1.length : Int) := OD
     obtain ⟨ad460, A460_0, c460_0, e460, hx460_0, hl460_0, hi460_0⟩ := at_L3 (C_kept_now HR1.1 HK.1) x12_1 p460 q460
     cases e460
     have HR460_0 := Aside0.mk hi460_0
     have HS460_0 := Aside0.mk (foot_inner3 HR1.1 HK.1 p460 q460 hx460_0)
     have HC460_0 := Aside0.mk hl460_0
     clear hi460_0 hl460_0
     replace p460 := eq_true p460
     replace q460 := eq_true q460
     try go_wp2
     refine E5 (R_drew HO_460002.1) (blk_drew BK459.1) (C_drew HR460_0.1) (Kept.drew HK.1) (below_drew1 HB.1) ?_
     clear HO_460002 BK459 HR460_0 HK HB
     intro HO_460002 BK459 HR460_0 HK HB
     have p461 : 0 <= (0 : Int) := (by omega)
     have q461 : 0 < ((rd_L3 l1 x12_1).length : Int) := OD
     obtain ⟨ad461, e461, hx461_0⟩ := Kd.at_int (by repeat (first | (with_reducible exact HR460_0.1) | (with_reducible refine C_alloc ?_ _) | (with_reducible refine C_drewN ?_ _) | (with_reducible refine C_drew ?_) | exact HR460_0.1)) 0 p461 q461
     cases e461
     have qi461 : (0 < (rd_L3 l1 x12_1).length) = True := eq_true (by omega)
     (try rw [show ((0 : Int)).toNat = 0 from rfl] at hx461_0)
     (try rw [Addr.add_zero'] at hx461_0)
     replace p461 := eq_true p461
     replace q461 := eq_true q461
     have p462 : 0 <= ((rd (rd_L3 l1 x12_1) 0) : Int) := OD
     have q462 : (rd (rd_L3 l1 x12_1) 0) < (x460002_1.length : Int) := OD
     obtain ⟨ad462, e462, hx462_0, hx462_1⟩ := at_T83 (R_reads' HO_460002.1).2.2 (rd (rd_L3 l1 x12_1) 0) p462 q462
     cases e462
     replace p462 := eq_true p462
     replace q462 := eq_true q462
     have p463 : 0 <= (x12_1 : Int) := OD
     have q463 : x12_1 < (l2.length : Int) := OD
     obtain ⟨ad463, e463, hx463_0⟩ := Kd.at_int (C_kept_now HR2.1 HK.1) x12_1 p463 q463
     have hw463_0 := hx463_0
     cases e463
     replace p463 := eq_true p463
     replace q463 := eq_true q463
     refine start_ (n := 13) (S := fun w' => w'.cell? ⟨gb459, 0, none⟩ = some (.int .i64 a0_0) /\ w'.cell? ⟨gb459, 1, none⟩ = some (.int .i64 a0_1) /\ w'.cell? ⟨gb459, 2, none⟩ = some (.slice (some ad462) x460002_1.length co4) /\ w'.cell? ad461 = some (.int .i64 (rd (rd_L3 l1 x12_1) 0)) /\ w'.cell? (ad462.add (((rd (rd_L3 l1 x12_1) 0)).toNat * 2)) = some (.int .i64 ((rd_T83 x460002_1 (rd (rd_L3 l1 x12_1) 0)).f0)) /\ w'.cell? ⟨(ad462.add (((rd (rd_L3 l1 x12_1) 0)).toNat * 2)).block, (ad462.add (((rd (rd_L3 l1 x12_1) 0)).toNat * 2)).off + 1, none⟩ = some (.int .i64 ((rd_T83 x460002_1 (rd (rd_L3 l1 x12_1) 0)).f1)) /\ w'.cell? (ad463.add (x12_1).toNat) = some (.int .i64 (rd l2 x12_1))) (ds := []) #[Zz,Zz,Zz,Zz,Zz,Zz,Zz,Zz,Zz,Zz,Zz,Zz,Zz] (by kernel_rfl) rfl rfl ⟨(blk_cell BK459.1 0).trans rfl, (blk_cell BK459.1 1).trans rfl, (blk_cell BK459.1 2).trans rfl, hx461_0, hx462_0, hx462_1, (Kd.foot_int (HR2.1 _ (by repeat (first | exact HK.1 | apply Kept.alloc | apply Kept.drewN | apply Kept.drew))) x12_1 (of_eq_true p463) (of_eq_true q463))⟩ (fun hHeld => ?_); refine with_tabW impl_setBits.tab4 impl_setBits.bits4 (fun HT_ HW_ => ?_)
     generalize wr.drew = w14 at HO_460002 BK459 HR460_0 HK HB hx461_0 hx462_0 hx462_1 hx463_0 hHeld ⊢
     refine pureF 0 (N := some 17) HT_.1 ?_
     refine pureF 2 (N := some 19) HT_.1 ?_
     refine pureF 3 (N := some 20) HT_.1 ?_
     refine pureF 8 (N := some 25) HT_.1 ?_
     refine pureF 9 (N := some 26) HT_.1 ?_
     refine pureF 10 (N := some 27) HT_.1 ?_
     refine takeE 1 (N := some 18) HT_.1 HW_.1 hHeld ?_
     refine takeE 4 (N := some 21) HT_.1 HW_.1 hHeld ?_
     refine pureF 5 (N := some 22) HT_.1 ?_
     refine pureF 6 (N := some 23) HT_.1 ?_
     refine takeE 7 (N := some 24) HT_.1 HW_.1 hHeld ?_
     refine takeE 11 (N := some 28) HT_.1 HW_.1 hHeld ?_
     refine pureF 12 (N := some 29) HT_.1 ?_
     refine done_ (done_of HT_.1 (by kernel_rfl)) ?_
     try go_wp2
     (try simp only [<- hl460002_1])
     go_roundg k1
     case measure => have := HK1.1; omega
     case rel => exact ⟨(wrap64 (x12_1 + 1)), (x460002_1), RG, H', ⟨by have := HK1.1; omega⟩, ⟨PR1 HO_460002.1 hl460002_1⟩, ⟨PB1 BK459.1 hl460002_1⟩, ⟨KL HK.1⟩, ⟨BL HB.1⟩⟩
   have c13b0 := beq_eq_false_iff_ne.mpr c13
   have c13b1 := bne_iff_ne.mpr c13
   have H' := Aside0.mk H
   clear H
   have p460 : 0 <= (x12_1 : Int) := OD
   have q460 : x12_1 < (l1.length : Int) := OD
   obtain ⟨ad460, A460_0, c460_0, e460, hx460_0, hl460_0, hi460_0⟩ := at_L3 (C_kept_now HR1.1 HK.1) x12_1 p460 q460
   cases e460
   have HR460_0 := Aside0.mk hi460_0
   have HS460_0 := Aside0.mk (foot_inner3 HR1.1 HK.1 p460 q460 hx460_0)
   have HC460_0 := Aside0.mk hl460_0
   clear hi460_0 hl460_0
   replace p460 := eq_true p460
   replace q460 := eq_true q460
   try go_wp2
   refine E5 (R_drew HO_460002.1) (blk_drew BK459.1) (C_drew HR460_0.1) (Kept.drew HK.1) (below_drew1 HB.1) ?_
   clear HO_460002 BK459 HR460_0 HK HB
   intro HO_460002 BK459 HR460_0 HK HB
   have p461 : 0 <= (0 : Int) := (by omega)
   have q461 : 0 < ((rd_L3 l1 x12_1).length : Int) := OD
   obtain ⟨ad461, e461, hx461_0⟩ := Kd.at_int (by repeat (first | (with_reducible exact HR460_0.1) | (with_reducible refine C_alloc ?_ _) | (with_reducible refine C_drewN ?_ _) | (with_reducible refine C_drew ?_) | exact HR460_0.1)) 0 p461 q461
   cases e461
   have qi461 : (0 < (rd_L3 l1 x12_1).length) = True := eq_true (by omega)
   (try rw [show ((0 : Int)).toNat = 0 from rfl] at hx461_0)
   (try rw [Addr.add_zero'] at hx461_0)
   replace p461 := eq_true p461
   replace q461 := eq_true q461
   have p462 : 0 <= ((rd (rd_L3 l1 x12_1) 0) : Int) := OD
   have q462 : (rd (rd_L3 l1 x12_1) 0) < (x460002_1.length : Int) := OD
   obtain ⟨ad462, e462, hx462_0, hx462_1⟩ := at_T83 (R_reads' HO_460002.1).2.2 (rd (rd_L3 l1 x12_1) 0) p462 q462
   cases e462
   replace p462 := eq_true p462
   replace q462 := eq_true q462
   have p463 : 0 <= (x12_1 : Int) := OD
   have q463 : x12_1 < (l2.length : Int) := OD
   obtain ⟨ad463, e463, hx463_0⟩ := Kd.at_int (C_kept_now HR2.1 HK.1) x12_1 p463 q463
   have hw463_0 := hx463_0
   cases e463
   replace p463 := eq_true p463
   replace q463 := eq_true q463
   refine start_ (n := 13) (S := fun w' => w'.cell? ⟨gb459, 0, none⟩ = some (.int .i64 a0_0) /\ w'.cell? ⟨gb459, 1, none⟩ = some (.int .i64 a0_1) /\ w'.cell? ⟨gb459, 2, none⟩ = some (.slice (some ad462) x460002_1.length co4) /\ w'.cell? ad461 = some (.int .i64 (rd (rd_L3 l1 x12_1) 0)) /\ w'.cell? (ad462.add (((rd (rd_L3 l1 x12_1) 0)).toNat * 2)) = some (.int .i64 ((rd_T83 x460002_1 (rd (rd_L3 l1 x12_1) 0)).f0)) /\ w'.cell? ⟨(ad462.add (((rd (rd_L3 l1 x12_1) 0)).toNat * 2)).block, (ad462.add (((rd (rd_L3 l1 x12_1) 0)).toNat * 2)).off + 1, none⟩ = some (.int .i64 ((rd_T83 x460002_1 (rd (rd_L3 l1 x12_1) 0)).f1)) /\ w'.cell? (ad463.add (x12_1).toNat) = some (.int .i64 (rd l2 x12_1))) (ds := []) #[Zz,Zz,Zz,Zz,Zz,Zz,Zz,Zz,Zz,Zz,Zz,Zz,Zz] (by kernel_rfl) rfl rfl ⟨(blk_cell BK459.1 0).trans rfl, (blk_cell BK459.1 1).trans rfl, (blk_cell BK459.1 2).trans rfl, hx461_0, hx462_0, hx462_1, (Kd.foot_int (HR2.1 _ (by repeat (first | exact HK.1 | apply Kept.alloc | apply Kept.drewN | apply Kept.drew))) x12_1 (of_eq_true p463) (of_eq_true q463))⟩ (fun hHeld => ?_); refine with_tabW impl_setBits.tab4 impl_setBits.bits4 (fun HT_ HW_ => ?_)
   generalize wr.drew = w15 at HO_460002 BK459 HR460_0 HK HB hx461_0 hx462_0 hx462_1 hx463_0 hHeld ⊢
   refine pureF 0 (N := some 17) HT_.1 ?_
   refine pureF 2 (N := some 19) HT_.1 ?_
   refine pureF 3 (N := some 20) HT_.1 ?_
   refine pureF 8 (N := some 25) HT_.1 ?_
   refine pureF 9 (N := some 26) HT_.1 ?_
   refine pureF 10 (N := some 27) HT_.1 ?_
   refine takeE 1 (N := some 18) HT_.1 HW_.1 hHeld ?_
   refine takeE 4 (N := some 21) HT_.1 HW_.1 hHeld ?_
   refine pureF 5 (N := some 22) HT_.1 ?_
   refine pureF 6 (N := some 23) HT_.1 ?_
   refine takeE 7 (N := some 24) HT_.1 HW_.1 hHeld ?_
   refine takeE 11 (N := some 28) HT_.1 HW_.1 hHeld ?_
   refine pureF 12 (N := some 29) HT_.1 ?_
   refine done_ (done_of HT_.1 (by kernel_rfl)) ?_
   try go_wp2
   generalize Value.pointer (some ⟨(ad462.add (((rd (rd_L3 l1 x12_1) 0)).toNat * 2)).block, (ad462.add (((rd (rd_L3 l1 x12_1) 0)).toNat * 2)).off + 1, none⟩) = p23_
   generalize Value.pointer (some (ad462.add (((rd (rd_L3 l1 x12_1) 0)).toNat * 2))) = p22_
   go_loopg [32] k1 (fun kq v32 w' => ∃ (x32_2 : Int) (x460002_2 : List (S83)), v32 = .int .i64 x32_2 /\ Aside0 (impl_setBits.l1 kq l2 l1 (l1.length : Int) x12_1 (rd_L3 l1 x12_1) ((rd_L3 l1 x12_1).length : Int) x32_2 a0_0 a0_1 x460002_2 = some r) /\ Aside0 (kq <= k1) /\ Aside0 (Kd.R k83 83 w' w0.heap.size (fun k_ => (P0_2_ k_ ∨ w.heap.size <= k_)) (.slice (some ad462) x460002_1.length co4) x460002_2) /\ Aside0 (w'.heap[gb459]? = some (.cells #[.int .i64 a0_0, .int .i64 a0_1, (.slice (some ad462) x460002_1.length co4)] 30 (0, 0))) /\ Aside0 (Kd.C (Kd.int .i64) w' (some ad461) (rd_L3 l1 x12_1).length (rd_L3 l1 x12_1)) /\ Aside0 (Kept w w' (fun k_ => P0_2_ k_)) /\ Aside0 (Below w0.heap.size w0 w'))
   case atStart => exact ⟨(0), (x460002_1), RG, H', ⟨Nat.le_refl _⟩, ⟨PR1 HO_460002.1 hl460002_1⟩, ⟨PB1 BK459.1 hl460002_1⟩, ⟨by repeat (first | (with_reducible exact HR460_0.1) | (with_reducible refine C_alloc ?_ _) | (with_reducible refine C_drewN ?_ _) | (with_reducible refine C_drew ?_) | exact HR460_0.1)⟩, ⟨KL HK.1⟩, ⟨BL HB.1⟩⟩
   clear H'
   try clear c13; try clear hx460_0; try clear hx461_0; try clear hx462_0; try clear hx462_1; try clear hx463_0; try clear p460; try clear p461; try clear p462; try clear p463; try clear q460; try clear q461; try clear q462; try clear q463; clear c6b0 c7b0 c8b0 c9b0 c9b1 c10b0 c11b0 c12b0 c13b0 c13b1
   obtain ⟨x32_2, x460002_2, rfl, HA, HK2, HO_460002, BK459, HR460_0, HK, HB⟩ := hrel
   have hl460002_2 := (R_reads' HO_460002.1).1
   rw [hl460002_2] at HO_460002
   (try simp only [hl460002_2])
   (try simp only [hl460002_2] at BK459)
   cases gk with
   | zero => exact absurd HA.1 (by simp [impl_setBits.l1])
   | succ k2 => ?_
   have H := HA.1
   clear HA
   simp only [impl_setBits.l1] at H
   replace H := ifB H; rcases H with ⟨c16b0, H⟩ | ⟨c16b0, H⟩
   · replace H := ifN H; obtain ⟨c17b0, H⟩ := H
     replace H := ifN H; obtain ⟨c18b0, H⟩ := H
     replace H := ifN H; obtain ⟨c19b0, H⟩ := H
     replace H := ifN H; obtain ⟨c20b0, H⟩ := H
     generalize hy466 : ((x460002_2.set ((rd (rd_L3 l1 x12_1) x32_2) : Int).toNat (⟨(rd_T83 x460002_2 (rd (rd_L3 l1 x12_1) x32_2)).f0, wrap64 (1 - ((rd_T83 x460002_2 (rd (rd_L3 l1 x12_1) x32_2)).f1))⟩ : S83)) : List (S83)) = y466 at H
     have Ny466 := Aside0.mk hy466.symm; clear hy466
     have H' := Aside0.mk H
     clear H
     have p464 : 0 <= (x32_2 : Int) := OD
     have q464 : x32_2 < ((rd_L3 l1 x12_1).length : Int) := OD
     obtain ⟨ad464, e464, hx464_0⟩ := Kd.at_int HR460_0.1 x32_2 p464 q464
     obtain rfl : ad461 = ad464 := (by injection e464)
     replace p464 := eq_true p464
     replace q464 := eq_true q464
     try go_wp2
     refine E5 (R_drew HO_460002.1) (blk_drew BK459.1) (C_drew HR460_0.1) (Kept.drew HK.1) (below_drew1 HB.1) ?_
     clear HO_460002 BK459 HR460_0 HK HB
     intro HO_460002 BK459 HR460_0 HK HB
     have p465 : 0 <= ((rd (rd_L3 l1 x12_1) x32_2) : Int) := OD
     have q465 : (rd (rd_L3 l1 x12_1) x32_2) < (x460002_2.length : Int) := OD
     obtain ⟨ad465, e465, hx465_0, hx465_1⟩ := at_T83 (R_reads' HO_460002.1).2.2 (rd (rd_L3 l1 x12_1) x32_2) p465 q465
     obtain rfl : ad462 = ad465 := (by injection e465)
     replace p465 := eq_true p465
     replace q465 := eq_true q465
     have p21 : 0 <= ((rd (rd_L3 l1 x12_1) x32_2) : Int) := OD
     have q21 : ((rd (rd_L3 l1 x12_1) x32_2) : Int) < ((x460002_2.length : Int) : Int) := OD
     obtain ⟨go21, co21, eo21, gb21, gl21, cl21, HG21⟩ := R_form HO_460002.1 (by omega)
     (first | cases eo21 | (injection eo21 with ea_ en_ ec_; (first | subst ea_ | (injection ea_ with ea_; subst ea_)); subst ec_; clear en_))
     have GB21 := Aside0.mk gb21
     have GG21 := Aside0.mk HG21
     clear gb21 gl21 HG21
     have HMgo21 := Aside0.mk (show (P0_2_ go21 ∨ w.heap.size <= go21) from (HO_460002.1.1 _ rfl))
     (first | simp only [add_plain] at hx462_0 | skip)
     (first | simp only [add_plain] at hx462_1 | skip)
     (first | simp only [add_plain] at hx465_0 | skip)
     (first | simp only [add_plain] at hx465_1 | skip)
     obtain ⟨ce21, hcl21, hM21, hcc21, hfr21⟩ := R_elem HO_460002.1 z83 ((rd (rd_L3 l1 x12_1) x32_2) : Int) p21 q21
     obtain rfl := k83_openM hM21
     have hx21_0 : World.cell? _ ⟨go21, ((rd (rd_L3 l1 x12_1) x32_2) : Int).toNat * 2, none⟩ = some (.int .i64 ((rd_T83 x460002_2 (rd (rd_L3 l1 x12_1) x32_2)).f0)) := hcc21 0 _ rfl
     have hx21_1 : World.cell? _ ⟨go21, ((rd (rd_L3 l1 x12_1) x32_2) : Int).toNat * 2 + 1, none⟩ = some (.int .i64 ((rd_T83 x460002_2 (rd (rd_L3 l1 x12_1) x32_2)).f1)) := hcc21 1 _ rfl
     have hf21_0 : World.frozen? _ ⟨go21, ((rd (rd_L3 l1 x12_1) x32_2) : Int).toNat * 2, none⟩ = false := hfr21 0
     have hf21_1 : World.frozen? _ ⟨go21, ((rd (rd_L3 l1 x12_1) x32_2) : Int).toNat * 2 + 1, none⟩ = false := hfr21 1
     (try clear hM21); clear hcl21 hcc21 hfr21
     replace p21 := eq_true p21
     replace q21 := eq_true q21
     obtain ⟨ce23, hcl23, hM23, hcc23, hfr23⟩ := R_elem HO_460002.1 z83 ((rd (rd_L3 l1 x12_1) x32_2) : Int) (OD) (by have h_ : ((rd (rd_L3 l1 x12_1) x32_2) : Int) < ((x460002_2.length : Int) : Int) := OD; first | exact h_ | (have e_ := (R_reads' HO_460002.1).1; omega) | simpa using h_)
     obtain rfl := k83_openM hM23
     have HP23 := (R_seg HO_460002.1 ((rd (rd_L3 l1 x12_1) x32_2) : Int) (OD) (by have h_ : ((rd (rd_L3 l1 x12_1) x32_2) : Int) < ((x460002_2.length : Int) : Int) := OD; first | exact h_ | (have e_ := (R_reads' HO_460002.1).1; omega) | simpa using h_) (seg := [.int .i64 (wrap64 (1 - ((rd_T83 x460002_2 (rd (rd_L3 l1 x12_1) x32_2)).f1)))]) (j := 1) hcl23 hcc23 (show 2 <= 2 from by decide) (x' := (⟨(rd_T83 x460002_2 (rd (rd_L3 l1 x12_1) x32_2)).f0, wrap64 (1 - ((rd_T83 x460002_2 (rd (rd_L3 l1 x12_1) x32_2)).f1))⟩ : S83)) (k83_mkM _ _ _ (⟨(rd_T83 x460002_2 (rd (rd_L3 l1 x12_1) x32_2)).f0, wrap64 (1 - ((rd_T83 x460002_2 (rd (rd_L3 l1 x12_1) x32_2)).f1))⟩ : S83) ) (fun _ hk => hk)).1
     rw [<- Ny466.1] at HP23
     have HQ23 := Aside0.mk HP23
     (try clear hM23); clear hcl23 hcc23 hfr23 HP23
     refine start_ (n := 13) (S := fun w' => w'.cell? ⟨gb459, 0, none⟩ = some (.int .i64 a0_0) /\ w'.cell? ⟨gb459, 1, none⟩ = some (.int .i64 a0_1) /\ w'.cell? ⟨gb459, 2, none⟩ = some (.slice (some ⟨go21, 0, none⟩) x460002_2.length co4) /\ w'.cell? ⟨go21, ((rd (rd_L3 l1 x12_1) x32_2)).toNat * 2, none⟩ = some (.int .i64 ((rd_T83 x460002_2 (rd (rd_L3 l1 x12_1) x32_2)).f0)) /\ w'.cell? ⟨go21, ((rd (rd_L3 l1 x12_1) x32_2)).toNat * 2 + 1, none⟩ = some (.int .i64 ((rd_T83 x460002_2 (rd (rd_L3 l1 x12_1) x32_2)).f1))) (ds := [12]) #[Zz,Zz,Zz,Zz,Zz,Zz,Zz,Zz,Zz,Zz,Zz,Zz,Zz] (by kernel_rfl) rfl rfl ⟨(blk_cell BK459.1 0).trans rfl, (blk_cell BK459.1 1).trans rfl, (blk_cell BK459.1 2).trans rfl, hx465_0, hx465_1⟩ (fun hHeld => ?_); refine with_tabW impl_setBits.tab8 impl_setBits.bits8 (fun HT_ HW_ => ?_)
     generalize wr.drew = w22 at HO_460002 BK459 HR460_0 HK HB GG21 HQ23 hf21_0 hf21_1 hx21_0 hx21_1 hx465_0 hx465_1 hHeld ⊢
     refine pureF 0 (N := some 36) HT_.1 ?_
     refine pureF 2 (N := some 38) HT_.1 ?_
     refine pureF 3 (N := some 39) HT_.1 ?_
     refine pureF 5 (N := some 41) HT_.1 ?_
     refine takeE 1 (N := some 37) HT_.1 HW_.1 hHeld ?_
     refine takeE 4 (N := some 40) HT_.1 HW_.1 hHeld ?_
     refine pureF 6 (N := some 42) HT_.1 ?_
     refine pureF 7 (N := some 43) HT_.1 ?_
     refine takeE 8 (N := some 44) HT_.1 HW_.1 hHeld ?_
     refine pureF 9 (N := some 45) HT_.1 ?_
     refine pureF 10 (N := some 46) HT_.1 ?_
     refine pureF 11 (N := some 47) HT_.1 ?_
     refine last_ (i := 12) (N := none) #[Yy,Yy,Yy,Yy,Yy,Yy,Yy,Yy,Yy,Yy,Yy,Yy,Yy] rfl rfl (one_of HT_.1 (by kernel_rfl)) (by decide) (fun K hK => ?_)
     refine skip_ (w1 := ?_) (by rfl) rfl ?_ ?_
     rotate_left
     · go_simp
       rfl
     refine hK.out _ _ ?_
     clear hK K
     refine done_ (done_of HT_.1 (by kernel_rfl)) ?_
     try go_wp2
     (try simp only [<- hl460002_2])
     go_roundg k2
     case measure => have := HK1.1; have := HK2.1; omega
     case rel => exact ⟨(wrap64 (x32_2 + 1)), (y466), RG, H', ⟨by have := HK1.1; have := HK2.1; omega⟩, ⟨PR2 HQ23.1 hl460002_1 hl460002_2⟩, ⟨by (try simp only [hl460002_1]); (try simp only [hl460002_2]); (with_reducible repeat (first | refine blk_drewN ?_ _ | refine blk_drew ?_ | refine blk_alloc ?_ _)); refine blk_far ?_ (by have h_ := R_ne HO_460002.1 BK459.1 (by decide); intro e_; exact h_ (by rw [e_]; rfl)) _; (with_reducible repeat (first | refine blk_drewN ?_ _ | refine blk_drew ?_ | refine blk_alloc ?_ _)); exact BK459.1⟩, ⟨HS460_0.1 _ (by repeat (first | (with_reducible first | exact HK.1 | apply Kept.alloc | apply Kept.drewN | apply Kept.drew | refine Kept.setCell ?_ HMgo21.1 _ | refine Kept.setCell ?_ (.inr GW459.1) _) | exact HK.1))⟩, ⟨by repeat (first | (with_reducible first | exact HK.1 | apply Kept.alloc | apply Kept.drewN | apply Kept.drew | refine Kept.setCell ?_ HMgo21.1 _ | refine Kept.setCell ?_ (.inr GW459.1) _) | exact HK.1)⟩, ⟨BL HB.1⟩⟩
   have H' := Aside0.mk H
   clear H
   go_wp2
   (try simp only [<- hl460002_1, <- hl460002_2])
   go_roundg k2
   case measure => have := HK1.1; have := HK2.1; omega
   case rel => exact ⟨(wrap64 (x12_1 + 1)), (x460002_2), RG, H', ⟨by have := HK1.1; have := HK2.1; omega⟩, ⟨PR2 HO_460002.1 hl460002_1 hl460002_2⟩, ⟨PB2 BK459.1 hl460002_1 hl460002_2⟩, ⟨KL HK.1⟩, ⟨BL HB.1⟩⟩
 obtain rfl := Option.some.inj H
 go_wp2
 first | go_end0 | ((try simp only [Exit.inBlock, Exit.then]); refine bodyPost_ret (results_none rfl _ _ _) rfl ?_)
 exact ⟨RF, (by first | exact (PR HO_460002.1) | (simp only [hl460002_1]; exact (PR HO_460002.1))), BL HB.1, KL HK.1⟩
def impl_bitList.l0 : Nat -> Int -> List Int -> Int -> Int -> Option (List Int)
 | 0, _, _, _, _ => none
 | k + 1, x0, x5, x10, x11 => if x11 < x10 then (if 0 <= x11 then (if x11 < (x5.length : Int) then (impl_bitList.l0 k x0 (x5.set (x11 : Int).toNat (Go.bits .and .i64 (shr .i64 x0 x11) 1)) x10 (wrap64 (x11 + 1))) else (none)) else (none)) else (some x5)
def impl_bitList.f (k : Nat) (a0 : Int) (a1 : Int) : Option (List Int) := if 0 <= a1 then (if (a1 : Int).toNat <= 35184372088832 then ((some (List.replicate (a1 : Int).toNat 0 : List Int)).bind fun y467 => (impl_bitList.l0 k a0 y467 (y467.length : Int) 0)) else (none)) else (none)
theorem impl_bitList.mono_l : ∀ k, (∀ y0 y1 y2 y3, LeO (impl_bitList.l0 k y0 y1 y2 y3) (impl_bitList.l0 (k + 1) y0 y1 y2 y3))
 | 0 => fun _ _ _ _ r h => by simp [impl_bitList.l0] at h
 | k + 1 => by
  have ih0 := impl_bitList.mono_l k
  intros
  first | unfold impl_bitList.l0
  exact LM1 ih0
theorem impl_bitList.mono : ∀ a0 a1 k, LeO (impl_bitList.f k a0 a1) (impl_bitList.f (k + 1) a0 a1) := by
 intro a0 a1 k
 have ih0 := impl_bitList.mono_l k
 unfold impl_bitList.f
 exact LM1 ih0
theorem impl_bitList.calls (k : Nat) (a0 : Int) (a1 : Int) (r : List Int) (w : World) (h : impl_bitList.f k a0 a1 = some r) :
 Calls Try.prog 77 #[.int .i64 a0, .int .i64 a1] w fun e w' => ∃ v0_ : Value, e = .returned (v0_) /\ Kd.R (Kd.int .i64) 3 w' w.heap.size (fun _ => True) v0_ r /\ Below w.heap.size w w' := by
 have HB := Aside0.mk (Below.refl w.heap.size w)
 have H := h
 clear h
 unfold impl_bitList.f at H
 replace H := ifP H; obtain ⟨c3, H⟩ := H
 have c3b0 := eq_true c3
 have c3b1 := decide_eq_true c3
 clear c3
 replace H := ifP H; obtain ⟨c4, H⟩ := H
 have c4b0 := eq_true c4
 have c4b1 := decide_eq_true c4
 clear c4
 replace H := nameB H; obtain ⟨y467, Ny467, H⟩ := H
 have H' := Aside0.mk H
 clear H
 go_enter Try.func77, Try.ntmps77
 go_wp2_with (first | ((with_reducible refine gate_dst (N := 8) rfl ?_); refine R_make (Kd.int .i64) _ 3 rfl (N := 8) rfl 38 _ _ rfl a1 rfl rfl Try.underlying38 (.int .i64 0) 8 info3 rfl (by decide) (by omega) 0 (ok := fun _ => True) (okp := fun _ => True) rfl (fun _ hk => hk) trivial (OD) (Nat.le_trans (Nat.mul_le_mul_right _ (OD : a1.toNat <= 35184372088832)) (by omega)) (Below.refl _ _) (Nat.le_refl _) ?_; intro v468 w5 ho6 hb hg_ hnew_; clear hg_ hnew_; (first | rw [<- Ny467.1] at ho6 | (simp only [Int.reduceToNat] at ho6; rw [<- Ny467.1] at ho6)); refine E2 (R_lower ho6 (bZ HB.1)) (bS HB.1 hb) ?_; clear HB; intro HO469 HB; clear hb ho6; obtain ⟨Ao7, co7, eo7⟩ := R_slice HO469.1; subst eo7))
 go_loopg [11] k (fun kq v11 w' => ∃ (x5_1 : List Int) (x11_1 : Int), v11 = .int .i64 x11_1 /\ Aside0 (impl_bitList.l0 kq a0 x5_1 (y467.length : Int) x11_1 = some r) /\ Aside0 (kq <= k) /\ Aside0 (Kd.R (Kd.int .i64) 3 w' w.heap.size (fun _ => True) (.slice Ao7 y467.length co7) x5_1) /\ Aside0 (Below w.heap.size w w'))
 case atStart => exact ⟨(y467), (0), RG, H', ⟨Nat.le_refl _⟩, ⟨PR HO469.1⟩, ⟨BL HB.1⟩⟩
 clear H'
 clear c3b0 c3b1 c4b0 c4b1
 obtain ⟨x5_1, x11_1, rfl, HA, HK1, HO_5, HB⟩ := hrel
 have hl5_1 := (R_reads' HO_5.1).1
 rw [hl5_1] at HO_5
 (try simp only [hl5_1])
 cases gk with
 | zero => exact absurd HA.1 (by simp [impl_bitList.l0])
 | succ k1 => ?_
 have H := HA.1
 clear HA
 simp only [impl_bitList.l0] at H
 replace H := ifB H; rcases H with ⟨c8b0, H⟩ | ⟨c8b0, H⟩
 · replace H := ifP H; obtain ⟨c9, H⟩ := H
   have c9b0 := eq_true c9
   have c9b1 := decide_eq_true c9
   clear c9
   obtain ⟨ji10, hji10⟩ : ∃ j_ : Int, (shr .i64 a0 x11_1) = j_ := ⟨_, rfl⟩
   replace H : (if x11_1 < (x5_1.length : Int) then (impl_bitList.l0 k1 a0 (x5_1.set (x11_1 : Int).toNat (Go.bits .and .i64 (ji10) 1)) (y467.length : Int) (wrap64 (x11_1 + 1))) else (none)) = some r := by first | (rw [hji10] at H; exact H) | (simp only [hji10] at H ⊢; exact H)
   have hji10_ : (a0 / 2 ^ min x11_1.toNat 64) = ji10 := hji10
   have hji10z : x11_1 <= 64 -> (a0 / 2 ^ x11_1.toNat) = ji10 := shr_small hji10
   replace H := ifN H; obtain ⟨c11b0, H⟩ := H
   generalize hy470 : ((x5_1.set (x11_1 : Int).toNat (Go.bits .and .i64 (ji10) 1)) : List Int) = y470 at H
   have Ny470 := Aside0.mk hy470.symm; clear hy470
   have H' := Aside0.mk H
   clear H
   have p12 : 0 <= (x11_1 : Int) := OD
   have q12 : (x11_1 : Int) < ((x5_1.length : Int) : Int) := OD
   obtain ⟨go12, co12, eo12, gb12, gl12, cl12, HG12⟩ := R_form HO_5.1 (by omega)
   (first | cases eo12 | (injection eo12 with ea_ en_ ec_; (first | subst ea_ | (injection ea_ with ea_; subst ea_)); subst ec_; clear en_))
   have GB12 := Aside0.mk gb12
   have GG12 := Aside0.mk HG12
   clear gb12 gl12 HG12
   obtain ⟨hx12_0, hf12_0⟩ := R_celln 0 HO_5.1 (x11_1 : Int) p12 q12
   replace p12 := eq_true p12
   replace q12 := eq_true q12
   have HP13 := R_putg HO_5.1 (x11_1 : Int) (Go.bits .and .i64 (ji10) 1)
   go_wp2_with (first | ((with_reducible refine gate_store (t := 3) (p := 20) rfl ?_); refine storeE (t := 3) (p := 20) (w1 := (wr.setCell ⟨go12, (x11_1 : Int).toNat, none⟩ (.int .i64 (Go.bits .and .i64 (ji10) 1)))) ?_; intro w14 hw; have hg : wr.grownBy w14 (some go12) := (by rw [hw]; exact HP13.2); have hp_ : Kd.R (Kd.int .i64) 3 w14 w.heap.size (fun _ => True) (.slice (some ⟨go12, 0, none⟩) x5_1.length co7) y470 := (by rw [hw, Ny470.1]; exact HP13.1); clear HP13; refine E2 (hp_) ((by rw [hw]; exact below_set (HB.1) GB12.1 : Below w.heap.size w w14)) ?_; clear HO_5 HB; intro HO_5 HB; clear hg hw hp_))
   (try simp only [<- hl5_1])
   go_roundg k1
   case measure => have := HK1.1; omega
   case rel => exact ⟨(y470), (wrap64 (x11_1 + 1)), RG, H', ⟨by have := HK1.1; omega⟩, ⟨PR1 HO_5.1 hl5_1⟩, ⟨BL HB.1⟩⟩
 (try simp only [hl5_1] at c8b0)
 obtain rfl := Option.some.inj H
 go_wp2
 go_ret
 exact ⟨_, RF, RPE (HO_5.1), BL HB.1⟩
mutual
def impl_GoesTo.j0 : Nat -> Int -> Bool -> Int -> Int -> Option (Int × Bool)
 | 0, _, _, _, _ => none
 | k + 1, x1, x21, x472000, x472001 => if x21 = true then (some (0, false)) else (if x472000 = 1 then (some ((-1), true)) else (if x472000 = 2 then (some (1, true)) else (if x472000 = 3 then (impl_GoesTo.j1 k x1 x472000 (x472000 == 3) x472000 x472001) else (impl_GoesTo.j1 k x1 x472000 (x472000 == 6) x472000 x472001))))
def impl_GoesTo.j1 : Nat -> Int -> Int -> Bool -> Int -> Int -> Option (Int × Bool)
 | 0, _, _, _, _, _ => none
 | k + 1, x1, x23, x28, x472000, x472001 => if x28 = true then (some (wrap64 ((wrap64 (2 * x472001)) - 1), true)) else (if x23 = 4 then (some (wrap64 (-x1), true)) else (some (0, true)))
end
def impl_GoesTo.f (k : Nat) (a0_0 : Int) (a0_1 : Int) (a1 : Int) : Option (Int × Bool) := (impl_IsCell.f a0_0 a0_1).bind fun t472 => (if t472 = true then (if a1 < (-1) then (impl_GoesTo.j0 k a1 true a0_0 a0_1) else (if a1 > 1 then (impl_GoesTo.j0 k a1 true a0_0 a0_1) else (impl_GoesTo.j0 k a1 (a0_0 == 5) a0_0 a0_1))) else (impl_GoesTo.j0 k a1 true a0_0 a0_1))
theorem impl_GoesTo.mono_l : ∀ k, (∀ y0 y1 y2 y3, LeO (impl_GoesTo.j0 k y0 y1 y2 y3) (impl_GoesTo.j0 (k + 1) y0 y1 y2 y3)) /\ (∀ y0 y1 y2 y3 y4, LeO (impl_GoesTo.j1 k y0 y1 y2 y3 y4) (impl_GoesTo.j1 (k + 1) y0 y1 y2 y3 y4))
 | 0 => by refine ⟨?_, ?_⟩ <;> (intros; intro r h; first | (simp [impl_GoesTo.j0] at h; done) | (simp [impl_GoesTo.j1] at h; done))
 | k + 1 => by
  obtain ⟨ih0, ih1⟩ := impl_GoesTo.mono_l k
  refine ⟨?_, ?_⟩ <;> (
   intros
   first | unfold impl_GoesTo.j0 | unfold impl_GoesTo.j1
   exact LM2 ih0 ih1)
theorem impl_GoesTo.mono : ∀ a0 a1 a2 k, LeO (impl_GoesTo.f k a0 a1 a2) (impl_GoesTo.f (k + 1) a0 a1 a2) := by
 intro a0 a1 a2 k
 obtain ⟨ih0, ih1⟩ := impl_GoesTo.mono_l k
 unfold impl_GoesTo.f
 exact LM2 ih0 ih1
theorem impl_GoesTo.calls (k : Nat) (a0_0 : Int) (a0_1 : Int) (a1 : Int) (r1 : Int) (r2 : Bool) (w : World) (h : impl_GoesTo.f k a0_0 a0_1 a1 = some (r1, r2)) :
 Calls Try.prog 89 #[.agg #[.int .i64 a0_0, .int .i64 a0_1], .int .i64 a1] w fun e w' => e = .returned (.tuple #[.int .i64 r1, .bool r2]) /\ Below w.heap.size w w' := by
 have hu83 := Try.underlying83
 have HB := Aside0.mk (Below.refl w.heap.size w)
 have H := h
 clear h
 unfold impl_GoesTo.f at H
 have HC3 := Aside0.mk H
 clear H
 go_enter Try.func89, Try.ntmps89
 go_upto_region 1 with (first | ((with_reducible refine gate_dst (N := 2) rfl ?_); refine boxE (cs := #[.int .i64 a0_0, .int .i64 a0_1]) (t := 83) ?_; intro gb471 hg w4 hbox hb; refine E4b HB.1 hg hbox hb ?_; clear HB; intro HB BK471 GW471 GE471; clear hb hbox hg))
 (try simp only [Act.put, List.setIfInBounds_toArray, List.set_cons_zero, List.set_cons_succ])
 go_cut [21] (fun v21 wc => ∃ (kq : Nat) (x21_2 : Bool), v21 = .bool x21_2 /\ Aside0 (impl_GoesTo.j0 kq a1 x21_2 a0_0 a0_1 = some (r1, r2)) /\ Aside0 (kq <= k) /\ Aside0 (wc.heap[gb471]? = some (.cells #[.int .i64 a0_0, .int .i64 a0_1] 83 (0, 0))) /\ Aside0 (Below w.heap.size w wc))
 case first =>
  have H := HC3.1
  clear HC3
  replace H := bindA H; obtain ⟨t472, A5, H⟩ := H
  replace H := ifX H; rcases H with ⟨rfl, H⟩ | ⟨rfl, H⟩
  · replace H := ifB H; rcases H with ⟨c7b0, H⟩ | ⟨c7b0, H⟩
    · (first | rw [c7b0] | (simp only [i64_w, i32_w]; rw [c7b0]) | skip)
      have H' := Aside0.mk H
      clear H
      obtain ⟨hcz8_0, hcz8_1, hfz8_0, hfz8_1⟩ := cz2 BK471.1
      go_wp2_with (first | ((with_reducible refine gate_callee (f := 99) rfl ?_); refine goesM (N := (some 7)) #[.agg #[.int .i64 a0_0, .int .i64 a0_1]] Try.func99 ?_; (with_reducible refine (impl_IsCell.calls a0_0 a0_1 true _ A5.1).mono ?_); rintro e w9 ⟨rfl, hb⟩; refine ⟨_, rfl, ?_⟩; refine E2 (bB BK471.1 hb) (bS HB.1 hb) ?_; clear BK471 HB; intro BK471 HB; (try clear hb)))
      go_meet
      case rel => exact ⟨_, (true), RG, H', ⟨by first | omega | exact Nat.le_refl _⟩, ⟨PB BK471.1⟩, ⟨BL HB.1⟩⟩
    (first | rw [c7b0] | (simp only [i64_w, i32_w]; rw [c7b0]) | skip)
    replace H := ifQ H; rcases H with ⟨c10, H⟩ | ⟨c10, H⟩
    · have c10b0 : decide (1 < a1) = true := decide_eq_true c10
      clear c10
      have H' := Aside0.mk H
      clear H
      obtain ⟨hcz11_0, hcz11_1, hfz11_0, hfz11_1⟩ := cz2 BK471.1
      go_wp2_with (first | ((with_reducible refine gate_callee (f := 99) rfl ?_); refine goesM (N := (some 7)) #[.agg #[.int .i64 a0_0, .int .i64 a0_1]] Try.func99 ?_; (with_reducible refine (impl_IsCell.calls a0_0 a0_1 true _ A5.1).mono ?_); rintro e w12 ⟨rfl, hb⟩; refine ⟨_, rfl, ?_⟩; refine E2 (bB BK471.1 hb) (bS HB.1 hb) ?_; clear BK471 HB; intro BK471 HB; (try clear hb)))
      go_meet
      case rel => exact ⟨_, (true), RG, H', ⟨by first | omega | exact Nat.le_refl _⟩, ⟨PB BK471.1⟩, ⟨BL HB.1⟩⟩
    have c10b0 : decide (1 < a1) = false := decide_eq_false c10
    clear c10
    have H' := Aside0.mk H
    clear H
    obtain ⟨hcz13_0, hcz13_1, hfz13_0, hfz13_1⟩ := cz2 BK471.1
    go_wp2_with (first | ((with_reducible refine gate_callee (f := 99) rfl ?_); refine goesM (N := (some 7)) #[.agg #[.int .i64 a0_0, .int .i64 a0_1]] Try.func99 ?_; (with_reducible refine (impl_IsCell.calls a0_0 a0_1 true _ A5.1).mono ?_); rintro e w14 ⟨rfl, hb⟩; refine ⟨_, rfl, ?_⟩; refine E2 (bB BK471.1 hb) (bS HB.1 hb) ?_; clear BK471 HB; intro BK471 HB; (try clear hb); obtain ⟨hcz15_0, hcz15_1, hfz15_0, hfz15_1⟩ := cz2 BK471.1))
    go_meet
    case rel => exact ⟨_, ((a0_0 == 5)), RG, H', ⟨by first | omega | exact Nat.le_refl _⟩, ⟨PB BK471.1⟩, ⟨BL HB.1⟩⟩
  have H' := Aside0.mk H
  clear H
  obtain ⟨hcz16_0, hcz16_1, hfz16_0, hfz16_1⟩ := cz2 BK471.1
  go_wp2_with (first | ((with_reducible refine gate_callee (f := 99) rfl ?_); refine goesM (N := (some 7)) #[.agg #[.int .i64 a0_0, .int .i64 a0_1]] Try.func99 ?_; (with_reducible refine (impl_IsCell.calls a0_0 a0_1 false _ A5.1).mono ?_); rintro e w17 ⟨rfl, hb⟩; refine ⟨_, rfl, ?_⟩; refine E2 (bB BK471.1 hb) (bS HB.1 hb) ?_; clear BK471 HB; intro BK471 HB; (try clear hb)))
  go_meet
  case rel => exact ⟨_, (true), RG, H', ⟨by first | omega | exact Nat.le_refl _⟩, ⟨PB BK471.1⟩, ⟨BL HB.1⟩⟩
 clear HC3
 obtain ⟨kq, x21_2, rfl, HA, HJ2, BK471, HB⟩ := hcut
 cases kq with
 | zero => exact absurd HA.1 (by simp [impl_GoesTo.j0])
 | succ kj2 => ?_
 have H := HA.1
 clear HA
 simp only [impl_GoesTo.j0] at H
 replace H := ifX H; rcases H with ⟨rfl, H⟩ | ⟨rfl, H⟩
 · simp only [Option.some.injEq, Prod.mk.injEq] at H
   obtain ⟨rfl, rfl⟩ := H
   go_wp2
   go_ret2
   exact ⟨RF, BL HB.1⟩
 replace H := ifQ H; rcases H with ⟨c19, H⟩ | ⟨c19, H⟩
 · have c19b0 := beq_iff_eq.mpr c19
   have c19b1 := bne_eq_false_iff_eq.mpr c19
   clear c19
   simp only [Option.some.injEq, Prod.mk.injEq] at H
   obtain ⟨rfl, rfl⟩ := H
   obtain ⟨hcz20_0, hcz20_1, hfz20_0, hfz20_1⟩ := cz2 BK471.1
   go_wp2
   go_ret2
   exact ⟨RF, BL HB.1⟩
 have c19b0 := beq_eq_false_iff_ne.mpr c19
 have c19b1 := bne_iff_ne.mpr c19
 replace H := ifQ H; rcases H with ⟨c21, H⟩ | ⟨c21, H⟩
 · have c21b0 := beq_iff_eq.mpr c21
   have c21b1 := bne_eq_false_iff_eq.mpr c21
   clear c21
   simp only [Option.some.injEq, Prod.mk.injEq] at H
   obtain ⟨rfl, rfl⟩ := H
   obtain ⟨hcz22_0, hcz22_1, hfz22_0, hfz22_1⟩ := cz2 BK471.1
   go_wp2
   go_ret2
   exact ⟨RF, BL HB.1⟩
 have c21b0 := beq_eq_false_iff_ne.mpr c21
 have c21b1 := bne_iff_ne.mpr c21
 have HC23 := Aside0.mk H
 clear H
 obtain ⟨hcz24_0, hcz24_1, hfz24_0, hfz24_1⟩ := cz2 BK471.1
 go_upto_if 28 with (fail)
 go_cut [28] (fun v28 wc => ∃ (kq : Nat) (x28_22 : Bool), v28 = .bool x28_22 /\ Aside0 (impl_GoesTo.j1 kq a1 a0_0 x28_22 a0_0 a0_1 = some (r1, r2)) /\ Aside0 (kq <= kj2) /\ Aside0 (wc.heap[gb471]? = some (.cells #[.int .i64 a0_0, .int .i64 a0_1] 83 (0, 0))) /\ Aside0 (Below w.heap.size w wc))
 case first =>
  have H := HC23.1
  clear HC23
  replace H := ifQ H; rcases H with ⟨c25, H⟩ | ⟨c25, H⟩
  · have c25b0 := beq_iff_eq.mpr c25
    have c25b1 := bne_eq_false_iff_eq.mpr c25
    clear c25
    (first | rw [c25b0] | (simp only [i64_w, i32_w]; rw [c25b0]) | skip)
    have H' := Aside0.mk H
    clear H
    go_wp2
    go_meet
    case rel => exact ⟨_, ((a0_0 == 3)), RG, H', ⟨by have := HJ2.1; first | omega | exact Nat.le_refl _⟩, ⟨PB BK471.1⟩, ⟨BL HB.1⟩⟩
  have c25b0 := beq_eq_false_iff_ne.mpr c25
  have c25b1 := bne_iff_ne.mpr c25
  (first | rw [c25b0] | (simp only [i64_w, i32_w]; rw [c25b0]) | skip)
  have H' := Aside0.mk H
  clear H
  go_wp2
  go_meet
  case rel => exact ⟨_, ((a0_0 == 6)), RG, H', ⟨by have := HJ2.1; first | omega | exact Nat.le_refl _⟩, ⟨PB BK471.1⟩, ⟨BL HB.1⟩⟩
 clear HC23
 try clear c19; try clear c21; clear c19b0 c19b1 c21b0 c21b1 hcz24_0 hcz24_1 hfz24_0 hfz24_1
 obtain ⟨kq, x28_22, rfl, HA, HJ22, BK471, HB⟩ := hcut
 cases kq with
 | zero => exact absurd HA.1 (by simp [impl_GoesTo.j1])
 | succ kj22 => ?_
 have H := HA.1
 clear HA
 simp only [impl_GoesTo.j1] at H
 replace H := ifX H; rcases H with ⟨rfl, H⟩ | ⟨rfl, H⟩
 · simp only [Option.some.injEq, Prod.mk.injEq] at H
   obtain ⟨rfl, rfl⟩ := H
   obtain ⟨hcz27_0, hcz27_1, hfz27_0, hfz27_1⟩ := cz2 BK471.1
   go_wp2
   go_ret2
   exact ⟨RF, BL HB.1⟩
 replace H := ifQ H; rcases H with ⟨c28, H⟩ | ⟨c28, H⟩
 · have c28b0 := beq_iff_eq.mpr c28
   have c28b1 := bne_eq_false_iff_eq.mpr c28
   clear c28
   simp only [Option.some.injEq, Prod.mk.injEq] at H
   obtain ⟨rfl, rfl⟩ := H
   go_wp2
   go_ret2
   exact ⟨RF, BL HB.1⟩
 have c28b0 := beq_eq_false_iff_ne.mpr c28
 have c28b1 := bne_iff_ne.mpr c28
 simp only [Option.some.injEq, Prod.mk.injEq] at H
 obtain ⟨rfl, rfl⟩ := H
 go_wp2
 go_ret2
 exact ⟨RF, BL HB.1⟩
def impl_turnGroup.l0 : Nat -> List Int -> Int -> Int -> Int -> Int -> Int -> List (S83) -> Option ((List (S83)))
 | 0, _, _, _, _, _, _, _ => none
 | k + 1, x1, x2, x9, x10, x474000, x474001, x474002 => if x10 < x9 then (if 0 <= x10 then (if x10 < (x474002.length : Int) then (if ((rd_T83 x474002 x10).f0) = 6 then (if x10 < (x1.length : Int) then (if 0 <= x2 then (if x2 < (x1.length : Int) then (if (rd x1 x10) = (rd x1 x2) then (impl_turnGroup.l0 k x1 x2 x9 (wrap64 (x10 + 1)) x474000 x474001 (x474002.set (x10 : Int).toNat (⟨(rd_T83 x474002 x10).f0, wrap64 (1 - ((rd_T83 x474002 x10).f1))⟩ : S83))) else (impl_turnGroup.l0 k x1 x2 x9 (wrap64 (x10 + 1)) x474000 x474001 x474002)) else (none)) else (none)) else (none)) else (impl_turnGroup.l0 k x1 x2 x9 (wrap64 (x10 + 1)) x474000 x474001 x474002)) else (none)) else (none)) else (some x474002)
def impl_turnGroup.f (k : Nat) (a0_0 : Int) (a0_1 : Int) (l0_2 : List (S83)) (l1 : List Int) (a2 : Int) : Option ((List (S83))) := impl_turnGroup.l0 k l1 a2 (l0_2.length : Int) 0 a0_0 a0_1 l0_2
theorem impl_turnGroup.mono_l : ∀ k, (∀ y0 y1 y2 y3 y4 y5 y6, LeO (impl_turnGroup.l0 k y0 y1 y2 y3 y4 y5 y6) (impl_turnGroup.l0 (k + 1) y0 y1 y2 y3 y4 y5 y6))
 | 0 => fun _ _ _ _ _ _ _ r h => by simp [impl_turnGroup.l0] at h
 | k + 1 => by
  have ih0 := impl_turnGroup.mono_l k
  intros
  first | unfold impl_turnGroup.l0
  exact LM1 ih0
theorem impl_turnGroup.mono : ∀ a0 a1 a2 a3 a4 k, LeO (impl_turnGroup.f k a0 a1 a2 a3 a4) (impl_turnGroup.f (k + 1) a0 a1 a2 a3 a4) := by
 intro a0 a1 a2 a3 a4 k
 have ih0 := impl_turnGroup.mono_l k
 unfold impl_turnGroup.f
 exact LM1 ih0
def impl_turnGroup.T4 : Bool × List (List Nat × List Nat) := (true, [([], []), ([0], [0]), ([], []), ([1, 2], [1, 2]), ([3], [3]), ([4], [4]), ([5], [5]), ([6], [6]), ([7], [7]), ([7], [7]), ([8, 9, 7], [7, 8, 9]), ([10, 7], [7, 10]), ([7], [7]), ([7], [7]), ([12, 13, 7], [7, 12, 13]), ([14, 7], [7, 14]), ([11, 15, 7], [7, 11, 15]), ([7, 16], [7, 16])])
def impl_turnGroup.B4 : List Nat := [0, 1, 0, 7, 15, 31, 63, 127, 255, 255, 1023, 2047, 255, 255, 12543, 28927, 65535, 131071]
theorem impl_turnGroup.tab4 : rtab .any (opsOf Try.f90 4) = impl_turnGroup.T4 := by kernel_rfl
theorem impl_turnGroup.bits4 : waitsOk impl_turnGroup.T4.2 impl_turnGroup.B4 = true := by kernel_rfl
def impl_turnGroup.T5 : Bool × List (List Nat × List Nat) := (true, [([], []), ([0], [0]), ([], []), ([], []), ([3], [3]), ([], []), ([4, 5], [4, 5]), ([6], [6]), ([7], [7]), ([8], [8]), ([1, 2, 0, 1, 2, 3, 4, 5, 6, 7, 8, 9], [1, 2]), ([10, 0, 1, 2, 3, 4, 5, 6, 7, 8, 9], [10]), ([11, 9, 0, 1, 2, 3, 4, 5, 6, 7, 8, 9], [9, 11])])
def impl_turnGroup.B5 : List Nat := [0, 1, 0, 0, 8, 0, 56, 120, 248, 504, 1023, 2047, 4095]
theorem impl_turnGroup.tab5 : rtab .any (opsOf Try.f90 5) = impl_turnGroup.T5 := by kernel_rfl
theorem impl_turnGroup.bits5 : waitsOk impl_turnGroup.T5.2 impl_turnGroup.B5 = true := by kernel_rfl
theorem impl_turnGroup.calls (k : Nat) (a0_0 : Int) (a0_1 : Int) (P0_2_ : Nat -> Prop) (u9000_ : Value) (l0_2 : List (S83)) (A1 : Option Addr) (c1 : Nat) (l1 : List Int) (a2 : Int) (r : List (S83)) (w0 w : World) (hB : Below w0.heap.size w0 w) (ho0_2 : Kd.R k83 83 w w0.heap.size P0_2_ u9000_ l0_2) (hr1 : ∀ W_, Kept w W_ (fun k_ => P0_2_ k_) -> Kd.C (Kd.int .i64) W_ A1 l1.length l1) (hc1 : l1.length <= c1) (h : impl_turnGroup.f k a0_0 a0_1 l0_2 l1 a2 = some r) :
 Calls Try.prog 90 #[.agg #[.int .i64 a0_0, .int .i64 a0_1, u9000_], .slice A1 l1.length c1, .int .i64 a2] w fun e w' => e = .returned (.tuple #[]) /\ Kd.R k83 83 w' w0.heap.size (fun k_ => (P0_2_ k_ ∨ w.heap.size <= k_)) u9000_ r /\ Below w0.heap.size w0 w' /\ Kept w w' (fun k_ => P0_2_ k_) := by
 have hu30 := Try.underlying30
 have HO0_2 := Aside0.mk (show Kd.R k83 83 w w0.heap.size (fun k_ => (P0_2_ k_ ∨ w.heap.size <= k_)) u9000_ l0_2 from R_mono ho0_2 (fun k_ hk => (.inl hk)))
 have HR1 := Aside0.mk hr1
 have HC1 := Aside0.mk hc1
 clear hr1 hc1
 have HK := Aside0.mk (Kept.refl w (fun k_ => P0_2_ k_))
 have HW0 := Aside0.mk hB.size
 have HB := Aside0.mk hB
 clear hB
 have H := h
 clear h
 unfold impl_turnGroup.f at H
 have H' := Aside0.mk H
 clear H
 obtain ⟨Ao4, co4, eo4⟩ := R_slice HO0_2.1
 subst eo4
 go_enter Try.func90, Try.ntmps90
 go_wp2_with (first | ((with_reducible refine gate_dst (N := 3) rfl ?_); refine boxE (cs := #[.int .i64 a0_0, .int .i64 a0_1, .slice Ao4 l0_2.length co4]) (t := 30) ?_; intro gb473 hg w5 hbox hb; refine E6 (rB HO0_2.1 hb) (Kept.below (S := (fun k_ => P0_2_ k_)) (KL HK.1) hb) (bS HB.1 hb) (hbox) ((by rw [hg]; exact (by first | exact HK.1.1 | exact (show Kept w _ (fun k_ => P0_2_ k_) from KL HK.1).1) : w.heap.size <= gb473)) (gwM hg (bZ HB.1) : w0.heap.size <= gb473) ?_; clear HO0_2 HK HB; intro HO0_2 HK HB BK473 GW473 GE473; clear hb hbox hg; obtain ⟨hcz6_0, hcz6_1, hcz6_2, hfz6_0, hfz6_1, hfz6_2⟩ := cz3 BK473.1))
 go_loopg [10] k (fun kq v10 w' => ∃ (x10_1 : Int) (x474002_1 : List (S83)), v10 = .int .i64 x10_1 /\ Aside0 (impl_turnGroup.l0 kq l1 a2 (l0_2.length : Int) x10_1 a0_0 a0_1 x474002_1 = some r) /\ Aside0 (kq <= k) /\ Aside0 (Kd.R k83 83 w' w0.heap.size (fun k_ => (P0_2_ k_ ∨ w.heap.size <= k_)) (.slice Ao4 l0_2.length co4) x474002_1) /\ Aside0 (w'.heap[gb473]? = some (.cells #[.int .i64 a0_0, .int .i64 a0_1, (.slice Ao4 l0_2.length co4)] 30 (0, 0))) /\ Aside0 (Kept w w' (fun k_ => P0_2_ k_)) /\ Aside0 (Below w0.heap.size w0 w'))
 case atStart => exact ⟨(0), (l0_2), RG, H', ⟨Nat.le_refl _⟩, ⟨PR HO0_2.1⟩, ⟨PB BK473.1⟩, ⟨KL HK.1⟩, ⟨BL HB.1⟩⟩
 clear H'
 try clear c1; clear hcz6_0 hcz6_1 hcz6_2 hfz6_0 hfz6_1 hfz6_2
 obtain ⟨x10_1, x474002_1, rfl, HA, HK1, HO_474002, BK473, HK, HB⟩ := hrel
 have hl474002_1 := (R_reads' HO_474002.1).1
 rw [hl474002_1] at HO_474002
 (try simp only [hl474002_1])
 (try simp only [hl474002_1] at BK473)
 cases gk with
 | zero => exact absurd HA.1 (by simp [impl_turnGroup.l0])
 | succ k1 => ?_
 have H := HA.1
 clear HA
 simp only [impl_turnGroup.l0] at H
 replace H := ifB H; rcases H with ⟨c7b0, H⟩ | ⟨c7b0, H⟩
 · replace H := ifN H; obtain ⟨c8b0, H⟩ := H
   replace H := ifN H; obtain ⟨c9b0, H⟩ := H
   replace H := ifQ H; rcases H with ⟨c10, H⟩ | ⟨c10, H⟩
   · have c10b0 := beq_iff_eq.mpr c10
     have c10b1 := bne_eq_false_iff_eq.mpr c10
     clear c10
     replace H := ifN H; obtain ⟨c11b0, H⟩ := H
     replace H := ifN H; obtain ⟨c12b0, H⟩ := H
     replace H := ifN H; obtain ⟨c13b0, H⟩ := H
     replace H := ifQ H; rcases H with ⟨c14, H⟩ | ⟨c14, H⟩
     · have c14b0 := beq_iff_eq.mpr c14
       have c14b1 := bne_eq_false_iff_eq.mpr c14
       clear c14
       generalize hy478 : ((x474002_1.set (x10_1 : Int).toNat (⟨(rd_T83 x474002_1 x10_1).f0, wrap64 (1 - ((rd_T83 x474002_1 x10_1).f1))⟩ : S83)) : List (S83)) = y478 at H
       have Ny478 := Aside0.mk hy478.symm; clear hy478
       have H' := Aside0.mk H
       clear H
       try go_wp2
       refine E4 (R_drew HO_474002.1) (blk_drew BK473.1) (Kept.drew HK.1) (below_drew1 HB.1) ?_
       clear HO_474002 BK473 HK HB
       intro HO_474002 BK473 HK HB
       have p474 : 0 <= (x10_1 : Int) := OD
       have q474 : x10_1 < (x474002_1.length : Int) := OD
       obtain ⟨ad474, e474, hx474_0, hx474_1⟩ := at_T83 (R_reads' HO_474002.1).2.2 x10_1 p474 q474
       cases e474
       replace p474 := eq_true p474
       replace q474 := eq_true q474
       have p475 : 0 <= (x10_1 : Int) := OD
       have q475 : x10_1 < (l1.length : Int) := OD
       obtain ⟨ad475, e475, hx475_0⟩ := Kd.at_int (C_kept_now HR1.1 HK.1) x10_1 p475 q475
       have hw475_0 := hx475_0
       cases e475
       replace p475 := eq_true p475
       replace q475 := eq_true q475
       have p476 : 0 <= (a2 : Int) := OD
       have q476 : a2 < (l1.length : Int) := OD
       obtain ⟨ad476, e476, hx476_0⟩ := Kd.at_int (C_kept_now HR1.1 HK.1) a2 p476 q476
       have hw476_0 := hx476_0
       obtain rfl : ad475 = ad476 := (by injection e476)
       replace p476 := eq_true p476
       replace q476 := eq_true q476
       refine start_ (n := 18) (S := fun w' => w'.cell? ⟨gb473, 0, none⟩ = some (.int .i64 a0_0) /\ w'.cell? ⟨gb473, 1, none⟩ = some (.int .i64 a0_1) /\ w'.cell? ⟨gb473, 2, none⟩ = some (.slice (some ad474) x474002_1.length co4) /\ w'.cell? (ad474.add ((x10_1).toNat * 2)) = some (.int .i64 ((rd_T83 x474002_1 x10_1).f0)) /\ w'.cell? ⟨(ad474.add ((x10_1).toNat * 2)).block, (ad474.add ((x10_1).toNat * 2)).off + 1, none⟩ = some (.int .i64 ((rd_T83 x474002_1 x10_1).f1)) /\ w'.cell? (ad475.add (x10_1).toNat) = some (.int .i64 (rd l1 x10_1)) /\ w'.cell? (ad475.add (a2).toNat) = some (.int .i64 (rd l1 a2))) (ds := []) #[Zz,Zz,Zz,Zz,Zz,Zz,Zz,Zz,Zz,Zz,Zz,Zz,Zz,Zz,Zz,Zz,Zz,Zz] (by kernel_rfl) rfl rfl ⟨(blk_cell BK473.1 0).trans rfl, (blk_cell BK473.1 1).trans rfl, (blk_cell BK473.1 2).trans rfl, hx474_0, hx474_1, (Kd.foot_int (HR1.1 _ (by repeat (first | exact HK.1 | apply Kept.alloc | apply Kept.drewN | apply Kept.drew))) x10_1 (of_eq_true p475) (of_eq_true q475)), (Kd.foot_int (HR1.1 _ (by repeat (first | exact HK.1 | apply Kept.alloc | apply Kept.drewN | apply Kept.drew))) a2 (of_eq_true p476) (of_eq_true q476))⟩ (fun hHeld => ?_); refine with_tabW impl_turnGroup.tab4 impl_turnGroup.bits4 (fun HT_ HW_ => ?_)
       generalize wr.drew = w16 at HO_474002 BK473 HK HB hx474_0 hx474_1 hx475_0 hx476_0 hHeld ⊢
       refine pureF 0 (N := some 13) HT_.1 ?_
       refine pureF 2 (N := some 15) HT_.1 ?_
       refine takeE 1 (N := some 14) HT_.1 HW_.1 hHeld ?_
       refine pureF 3 (N := some 16) HT_.1 ?_
       refine pureF 4 (N := some 17) HT_.1 ?_
       refine takeE 5 (N := some 18) HT_.1 HW_.1 hHeld ?_
       refine pureF 6 (N := some 19) HT_.1 ?_
       refine pureF 7 (N := some 20) HT_.1 ?_
       refine pureF 8 (N := some 21) HT_.1 ?_
       refine pureF 9 (N := some 22) HT_.1 ?_
       refine pureF 10 (N := some 23) HT_.1 ?_
       refine pureF 12 (N := some 25) HT_.1 ?_
       refine pureF 13 (N := some 26) HT_.1 ?_
       refine pureF 14 (N := some 27) HT_.1 ?_
       refine takeE 11 (N := some 24) HT_.1 HW_.1 hHeld ?_
       refine takeE 15 (N := some 28) HT_.1 HW_.1 hHeld ?_
       refine pureF 16 (N := some 29) HT_.1 ?_
       refine pureF 17 (N := some 30) HT_.1 ?_
       refine done_ (done_of HT_.1 (by kernel_rfl)) ?_
       try go_wp2
       refine E4 (R_drew HO_474002.1) (blk_drew BK473.1) (Kept.drew HK.1) (below_drew1 HB.1) ?_
       clear HO_474002 BK473 HK HB
       intro HO_474002 BK473 HK HB
       have p477 : 0 <= (x10_1 : Int) := OD
       have q477 : x10_1 < (x474002_1.length : Int) := OD
       obtain ⟨ad477, e477, hx477_0, hx477_1⟩ := at_T83 (R_reads' HO_474002.1).2.2 x10_1 p477 q477
       obtain rfl : ad474 = ad477 := (by injection e477)
       replace p477 := eq_true p477
       replace q477 := eq_true q477
       have p15 : 0 <= (x10_1 : Int) := OD
       have q15 : (x10_1 : Int) < ((x474002_1.length : Int) : Int) := OD
       obtain ⟨go15, co15, eo15, gb15, gl15, cl15, HG15⟩ := R_form HO_474002.1 (by omega)
       (first | cases eo15 | (injection eo15 with ea_ en_ ec_; (first | subst ea_ | (injection ea_ with ea_; subst ea_)); subst ec_; clear en_))
       have GB15 := Aside0.mk gb15
       have GG15 := Aside0.mk HG15
       clear gb15 gl15 HG15
       have HMgo15 := Aside0.mk (show (P0_2_ go15 ∨ w.heap.size <= go15) from (HO_474002.1.1 _ rfl))
       (first | simp only [add_plain] at hx474_0 | skip)
       (first | simp only [add_plain] at hx474_1 | skip)
       (first | simp only [add_plain] at hx477_0 | skip)
       (first | simp only [add_plain] at hx477_1 | skip)
       obtain ⟨ce15, hcl15, hM15, hcc15, hfr15⟩ := R_elem HO_474002.1 z83 (x10_1 : Int) p15 q15
       obtain rfl := k83_openM hM15
       have hx15_0 : World.cell? _ ⟨go15, (x10_1 : Int).toNat * 2, none⟩ = some (.int .i64 ((rd_T83 x474002_1 x10_1).f0)) := hcc15 0 _ rfl
       have hx15_1 : World.cell? _ ⟨go15, (x10_1 : Int).toNat * 2 + 1, none⟩ = some (.int .i64 ((rd_T83 x474002_1 x10_1).f1)) := hcc15 1 _ rfl
       have hf15_0 : World.frozen? _ ⟨go15, (x10_1 : Int).toNat * 2, none⟩ = false := hfr15 0
       have hf15_1 : World.frozen? _ ⟨go15, (x10_1 : Int).toNat * 2 + 1, none⟩ = false := hfr15 1
       (try clear hM15); clear hcl15 hcc15 hfr15
       replace p15 := eq_true p15
       replace q15 := eq_true q15
       obtain ⟨ce18, hcl18, hM18, hcc18, hfr18⟩ := R_elem HO_474002.1 z83 (x10_1 : Int) (OD) (by have h_ : (x10_1 : Int) < ((x474002_1.length : Int) : Int) := OD; first | exact h_ | (have e_ := (R_reads' HO_474002.1).1; omega) | simpa using h_)
       obtain rfl := k83_openM hM18
       have HP18 := (R_seg HO_474002.1 (x10_1 : Int) (OD) (by have h_ : (x10_1 : Int) < ((x474002_1.length : Int) : Int) := OD; first | exact h_ | (have e_ := (R_reads' HO_474002.1).1; omega) | simpa using h_) (seg := [.int .i64 (wrap64 (1 - ((rd_T83 x474002_1 x10_1).f1)))]) (j := 1) hcl18 hcc18 (show 2 <= 2 from by decide) (x' := (⟨(rd_T83 x474002_1 x10_1).f0, wrap64 (1 - ((rd_T83 x474002_1 x10_1).f1))⟩ : S83)) (k83_mkM _ _ _ (⟨(rd_T83 x474002_1 x10_1).f0, wrap64 (1 - ((rd_T83 x474002_1 x10_1).f1))⟩ : S83) ) (fun _ hk => hk)).1
       rw [<- Ny478.1] at HP18
       have HQ18 := Aside0.mk HP18
       (try clear hM18); clear hcl18 hcc18 hfr18 HP18
       refine start_ (n := 13) (S := fun w' => w'.cell? ⟨gb473, 0, none⟩ = some (.int .i64 a0_0) /\ w'.cell? ⟨gb473, 1, none⟩ = some (.int .i64 a0_1) /\ w'.cell? ⟨gb473, 2, none⟩ = some (.slice (some ⟨go15, 0, none⟩) x474002_1.length co4) /\ w'.cell? ⟨go15, ((x10_1).toNat * 2), none⟩ = some (.int .i64 ((rd_T83 x474002_1 x10_1).f0)) /\ w'.cell? ⟨go15, ((x10_1).toNat * 2) + 1, none⟩ = some (.int .i64 ((rd_T83 x474002_1 x10_1).f1))) (ds := [12]) #[Zz,Zz,Zz,Zz,Zz,Zz,Zz,Zz,Zz,Zz,Zz,Zz,Zz] (by kernel_rfl) rfl rfl ⟨(blk_cell BK473.1 0).trans rfl, (blk_cell BK473.1 1).trans rfl, (blk_cell BK473.1 2).trans rfl, hx477_0, hx477_1⟩ (fun hHeld => ?_); refine with_tabW impl_turnGroup.tab5 impl_turnGroup.bits5 (fun HT_ HW_ => ?_)
       generalize w16.drew = w17 at HO_474002 BK473 HK HB GG15 HQ18 hf15_0 hf15_1 hx15_0 hx15_1 hx474_0 hx474_1 hx477_0 hx477_1 hHeld ⊢
       refine pureF 0 (N := some 31) HT_.1 ?_
       refine pureF 2 (N := some 33) HT_.1 ?_
       refine pureF 3 (N := some 34) HT_.1 ?_
       refine pureF 5 (N := some 36) HT_.1 ?_
       refine takeE 1 (N := some 32) HT_.1 HW_.1 hHeld ?_
       refine takeE 4 (N := some 35) HT_.1 HW_.1 hHeld ?_
       refine pureF 6 (N := some 37) HT_.1 ?_
       refine pureF 7 (N := some 38) HT_.1 ?_
       refine takeE 8 (N := some 39) HT_.1 HW_.1 hHeld ?_
       refine pureF 9 (N := some 40) HT_.1 ?_
       refine pureF 10 (N := some 41) HT_.1 ?_
       refine pureF 11 (N := some 42) HT_.1 ?_
       refine last_ (i := 12) (N := none) #[Yy,Yy,Yy,Yy,Yy,Yy,Yy,Yy,Yy,Yy,Yy,Yy,Yy] rfl rfl (one_of HT_.1 (by kernel_rfl)) (by decide) (fun K hK => ?_)
       refine skip_ (w1 := ?_) (by rfl) rfl ?_ ?_
       rotate_left
       · go_simp
         rfl
       refine hK.out _ _ ?_
       clear hK K
       refine done_ (done_of HT_.1 (by kernel_rfl)) ?_
       try go_wp2
       (try simp only [<- hl474002_1])
       go_roundg k1
       case measure => have := HK1.1; omega
       case rel => exact ⟨(wrap64 (x10_1 + 1)), (y478), RG, H', ⟨by have := HK1.1; omega⟩, ⟨PR1 HQ18.1 hl474002_1⟩, ⟨by (try simp only [hl474002_1]); (with_reducible repeat (first | refine blk_drewN ?_ _ | refine blk_drew ?_ | refine blk_alloc ?_ _)); refine blk_far ?_ (by have h_ := R_ne HO_474002.1 BK473.1 (by decide); intro e_; exact h_ (by rw [e_]; rfl)) _; (with_reducible repeat (first | refine blk_drewN ?_ _ | refine blk_drew ?_ | refine blk_alloc ?_ _)); exact BK473.1⟩, ⟨by repeat (first | (with_reducible first | exact HK.1 | apply Kept.alloc | apply Kept.drewN | apply Kept.drew | refine Kept.setCell ?_ HMgo15.1 _ | refine Kept.setCell ?_ (.inr GW473.1) _) | exact HK.1)⟩, ⟨BL HB.1⟩⟩
     have c14b0 := beq_eq_false_iff_ne.mpr c14
     have c14b1 := bne_iff_ne.mpr c14
     have H' := Aside0.mk H
     clear H
     try go_wp2
     refine E4 (R_drew HO_474002.1) (blk_drew BK473.1) (Kept.drew HK.1) (below_drew1 HB.1) ?_
     clear HO_474002 BK473 HK HB
     intro HO_474002 BK473 HK HB
     have p474 : 0 <= (x10_1 : Int) := OD
     have q474 : x10_1 < (x474002_1.length : Int) := OD
     obtain ⟨ad474, e474, hx474_0, hx474_1⟩ := at_T83 (R_reads' HO_474002.1).2.2 x10_1 p474 q474
     cases e474
     replace p474 := eq_true p474
     replace q474 := eq_true q474
     have p475 : 0 <= (x10_1 : Int) := OD
     have q475 : x10_1 < (l1.length : Int) := OD
     obtain ⟨ad475, e475, hx475_0⟩ := Kd.at_int (C_kept_now HR1.1 HK.1) x10_1 p475 q475
     have hw475_0 := hx475_0
     cases e475
     replace p475 := eq_true p475
     replace q475 := eq_true q475
     have p476 : 0 <= (a2 : Int) := OD
     have q476 : a2 < (l1.length : Int) := OD
     obtain ⟨ad476, e476, hx476_0⟩ := Kd.at_int (C_kept_now HR1.1 HK.1) a2 p476 q476
     have hw476_0 := hx476_0
     obtain rfl : ad475 = ad476 := (by injection e476)
     replace p476 := eq_true p476
     replace q476 := eq_true q476
     refine start_ (n := 18) (S := fun w' => w'.cell? ⟨gb473, 0, none⟩ = some (.int .i64 a0_0) /\ w'.cell? ⟨gb473, 1, none⟩ = some (.int .i64 a0_1) /\ w'.cell? ⟨gb473, 2, none⟩ = some (.slice (some ad474) x474002_1.length co4) /\ w'.cell? (ad474.add ((x10_1).toNat * 2)) = some (.int .i64 ((rd_T83 x474002_1 x10_1).f0)) /\ w'.cell? ⟨(ad474.add ((x10_1).toNat * 2)).block, (ad474.add ((x10_1).toNat * 2)).off + 1, none⟩ = some (.int .i64 ((rd_T83 x474002_1 x10_1).f1)) /\ w'.cell? (ad475.add (x10_1).toNat) = some (.int .i64 (rd l1 x10_1)) /\ w'.cell? (ad475.add (a2).toNat) = some (.int .i64 (rd l1 a2))) (ds := []) #[Zz,Zz,Zz,Zz,Zz,Zz,Zz,Zz,Zz,Zz,Zz,Zz,Zz,Zz,Zz,Zz,Zz,Zz] (by kernel_rfl) rfl rfl ⟨(blk_cell BK473.1 0).trans rfl, (blk_cell BK473.1 1).trans rfl, (blk_cell BK473.1 2).trans rfl, hx474_0, hx474_1, (Kd.foot_int (HR1.1 _ (by repeat (first | exact HK.1 | apply Kept.alloc | apply Kept.drewN | apply Kept.drew))) x10_1 (of_eq_true p475) (of_eq_true q475)), (Kd.foot_int (HR1.1 _ (by repeat (first | exact HK.1 | apply Kept.alloc | apply Kept.drewN | apply Kept.drew))) a2 (of_eq_true p476) (of_eq_true q476))⟩ (fun hHeld => ?_); refine with_tabW impl_turnGroup.tab4 impl_turnGroup.bits4 (fun HT_ HW_ => ?_)
     generalize wr.drew = w19 at HO_474002 BK473 HK HB hx474_0 hx474_1 hx475_0 hx476_0 hHeld ⊢
     refine pureF 0 (N := some 13) HT_.1 ?_
     refine pureF 2 (N := some 15) HT_.1 ?_
     refine takeE 1 (N := some 14) HT_.1 HW_.1 hHeld ?_
     refine pureF 3 (N := some 16) HT_.1 ?_
     refine pureF 4 (N := some 17) HT_.1 ?_
     refine takeE 5 (N := some 18) HT_.1 HW_.1 hHeld ?_
     refine pureF 6 (N := some 19) HT_.1 ?_
     refine pureF 7 (N := some 20) HT_.1 ?_
     refine pureF 8 (N := some 21) HT_.1 ?_
     refine pureF 9 (N := some 22) HT_.1 ?_
     refine pureF 10 (N := some 23) HT_.1 ?_
     refine pureF 12 (N := some 25) HT_.1 ?_
     refine pureF 13 (N := some 26) HT_.1 ?_
     refine pureF 14 (N := some 27) HT_.1 ?_
     refine takeE 11 (N := some 24) HT_.1 HW_.1 hHeld ?_
     refine takeE 15 (N := some 28) HT_.1 HW_.1 hHeld ?_
     refine pureF 16 (N := some 29) HT_.1 ?_
     refine pureF 17 (N := some 30) HT_.1 ?_
     refine done_ (done_of HT_.1 (by kernel_rfl)) ?_
     try go_wp2
     (try simp only [<- hl474002_1])
     go_roundg k1
     case measure => have := HK1.1; omega
     case rel => exact ⟨(wrap64 (x10_1 + 1)), (x474002_1), RG, H', ⟨by have := HK1.1; omega⟩, ⟨PR1 HO_474002.1 hl474002_1⟩, ⟨PB1 BK473.1 hl474002_1⟩, ⟨KL HK.1⟩, ⟨BL HB.1⟩⟩
   have c10b0 := beq_eq_false_iff_ne.mpr c10
   have c10b1 := bne_iff_ne.mpr c10
   have H' := Aside0.mk H
   clear H
   try go_wp2
   refine E4 (R_drew HO_474002.1) (blk_drew BK473.1) (Kept.drew HK.1) (below_drew1 HB.1) ?_
   clear HO_474002 BK473 HK HB
   intro HO_474002 BK473 HK HB
   have p474 : 0 <= (x10_1 : Int) := OD
   have q474 : x10_1 < (x474002_1.length : Int) := OD
   obtain ⟨ad474, e474, hx474_0, hx474_1⟩ := at_T83 (R_reads' HO_474002.1).2.2 x10_1 p474 q474
   cases e474
   replace p474 := eq_true p474
   replace q474 := eq_true q474
   refine start_ (n := 18) (S := fun w' => w'.cell? ⟨gb473, 0, none⟩ = some (.int .i64 a0_0) /\ w'.cell? ⟨gb473, 1, none⟩ = some (.int .i64 a0_1) /\ w'.cell? ⟨gb473, 2, none⟩ = some (.slice (some ad474) x474002_1.length co4) /\ w'.cell? (ad474.add ((x10_1).toNat * 2)) = some (.int .i64 ((rd_T83 x474002_1 x10_1).f0)) /\ w'.cell? ⟨(ad474.add ((x10_1).toNat * 2)).block, (ad474.add ((x10_1).toNat * 2)).off + 1, none⟩ = some (.int .i64 ((rd_T83 x474002_1 x10_1).f1))) (ds := []) #[Zz,Zz,Zz,Zz,Zz,Zz,Zz,Zz,Zz,Zz,Zz,Zz,Zz,Zz,Zz,Zz,Zz,Zz] (by kernel_rfl) rfl rfl ⟨(blk_cell BK473.1 0).trans rfl, (blk_cell BK473.1 1).trans rfl, (blk_cell BK473.1 2).trans rfl, hx474_0, hx474_1⟩ (fun hHeld => ?_); refine with_tabW impl_turnGroup.tab4 impl_turnGroup.bits4 (fun HT_ HW_ => ?_)
   generalize wr.drew = w20 at HO_474002 BK473 HK HB hx474_0 hx474_1 hHeld ⊢
   refine pureF 0 (N := some 13) HT_.1 ?_
   refine pureF 2 (N := some 15) HT_.1 ?_
   refine takeE 1 (N := some 14) HT_.1 HW_.1 hHeld ?_
   refine pureF 3 (N := some 16) HT_.1 ?_
   refine pureF 4 (N := some 17) HT_.1 ?_
   refine takeE 5 (N := some 18) HT_.1 HW_.1 hHeld ?_
   refine pureF 6 (N := some 19) HT_.1 ?_
   refine pureF 7 (N := some 20) HT_.1 ?_
   refine pure_ (i := 8) (N := some 21) (v := undef) (a' := ?_) #[Yy,Yy,Yy,Yy,Yy,Yy,Yy,Yy,Yy,Zz,Zz,Zz,Zz,Zz,Zz,Zz,Zz,Zz] rfl rfl (any_of HT_.1 (by kernel_rfl)) (fun _ _ _ h => h) (Or.inr ⟨by rfl, rfl⟩) ?_ ?_
   rotate_left
   · simp only [Act.put, List.setIfInBounds_toArray, List.set_cons_zero, List.set_cons_succ, i64_w, i32_w]
     rfl
   refine pure_ (i := 9) (N := some 22) (v := undef) (a' := ?_) #[Yy,Yy,Yy,Yy,Yy,Yy,Yy,Yy,Yy,Yy,Zz,Zz,Zz,Zz,Zz,Zz,Zz,Zz] rfl rfl (any_of HT_.1 (by kernel_rfl)) (fun _ _ _ h => h) (Or.inr ⟨by rfl, rfl⟩) ?_ ?_
   rotate_left
   · simp only [Act.put, List.setIfInBounds_toArray, List.set_cons_zero, List.set_cons_succ, i64_w, i32_w]
     rfl
   refine pure_ (i := 10) (N := some 23) (v := undef) (a' := ?_) #[Yy,Yy,Yy,Yy,Yy,Yy,Yy,Yy,Yy,Yy,Yy,Zz,Zz,Zz,Zz,Zz,Zz,Zz] rfl rfl (any_of HT_.1 (by kernel_rfl)) (fun _ _ _ h => h) (Or.inr ⟨by rfl, rfl⟩) ?_ ?_
   rotate_left
   · simp only [Act.put, List.setIfInBounds_toArray, List.set_cons_zero, List.set_cons_succ, i64_w, i32_w]
     rfl
   refine pure_ (i := 11) (N := some 24) (v := undef) (a' := ?_) #[Yy,Yy,Yy,Yy,Yy,Yy,Yy,Yy,Yy,Yy,Yy,Yy,Zz,Zz,Zz,Zz,Zz,Zz] rfl rfl (any_of HT_.1 (by kernel_rfl)) (fun _ _ _ h => h) (Or.inr ⟨by rfl, rfl⟩) ?_ ?_
   rotate_left
   · simp only [Act.put, List.setIfInBounds_toArray, List.set_cons_zero, List.set_cons_succ, i64_w, i32_w]
     rfl
   refine pure_ (i := 12) (N := some 25) (v := undef) (a' := ?_) #[Yy,Yy,Yy,Yy,Yy,Yy,Yy,Yy,Yy,Yy,Yy,Yy,Yy,Zz,Zz,Zz,Zz,Zz] rfl rfl (any_of HT_.1 (by kernel_rfl)) (fun _ _ _ h => h) (Or.inr ⟨by rfl, rfl⟩) ?_ ?_
   rotate_left
   · simp only [Act.put, List.setIfInBounds_toArray, List.set_cons_zero, List.set_cons_succ, i64_w, i32_w]
     rfl
   refine pure_ (i := 13) (N := some 26) (v := undef) (a' := ?_) #[Yy,Yy,Yy,Yy,Yy,Yy,Yy,Yy,Yy,Yy,Yy,Yy,Yy,Yy,Zz,Zz,Zz,Zz] rfl rfl (any_of HT_.1 (by kernel_rfl)) (fun _ _ _ h => h) (Or.inr ⟨by rfl, rfl⟩) ?_ ?_
   rotate_left
   · simp only [Act.put, List.setIfInBounds_toArray, List.set_cons_zero, List.set_cons_succ, i64_w, i32_w]
     rfl
   refine pure_ (i := 14) (N := some 27) (v := undef) (a' := ?_) #[Yy,Yy,Yy,Yy,Yy,Yy,Yy,Yy,Yy,Yy,Yy,Yy,Yy,Yy,Yy,Zz,Zz,Zz] rfl rfl (any_of HT_.1 (by kernel_rfl)) (fun _ _ _ h => h) (Or.inr ⟨by rfl, rfl⟩) ?_ ?_
   rotate_left
   · simp only [Act.put, List.setIfInBounds_toArray, List.set_cons_zero, List.set_cons_succ, i64_w, i32_w]
     rfl
   refine pure_ (i := 15) (N := some 28) (v := undef) (a' := ?_) #[Yy,Yy,Yy,Yy,Yy,Yy,Yy,Yy,Yy,Yy,Yy,Yy,Yy,Yy,Yy,Yy,Zz,Zz] rfl rfl (any_of HT_.1 (by kernel_rfl)) (fun _ _ _ h => h) (Or.inr ⟨by rfl, rfl⟩) ?_ ?_
   rotate_left
   · simp only [Act.put, List.setIfInBounds_toArray, List.set_cons_zero, List.set_cons_succ, i64_w, i32_w]
     rfl
   refine pure_ (i := 16) (N := some 29) (v := undef) (a' := ?_) #[Yy,Yy,Yy,Yy,Yy,Yy,Yy,Yy,Yy,Yy,Yy,Yy,Yy,Yy,Yy,Yy,Yy,Zz] rfl rfl (any_of HT_.1 (by kernel_rfl)) (fun _ _ _ h => h) (Or.inr ⟨by rfl, rfl⟩) ?_ ?_
   rotate_left
   · simp only [Act.put, List.setIfInBounds_toArray, List.set_cons_zero, List.set_cons_succ, i64_w, i32_w]
     rfl
   refine pureF 17 (N := some 30) HT_.1 ?_
   refine done_ (done_of HT_.1 (by kernel_rfl)) ?_
   try go_wp2
   (try simp only [<- hl474002_1])
   go_roundg k1
   case measure => have := HK1.1; omega
   case rel => exact ⟨(wrap64 (x10_1 + 1)), (x474002_1), RG, H', ⟨by have := HK1.1; omega⟩, ⟨PR1 HO_474002.1 hl474002_1⟩, ⟨PB1 BK473.1 hl474002_1⟩, ⟨KL HK.1⟩, ⟨BL HB.1⟩⟩
 (try simp only [hl474002_1] at c7b0)
 obtain rfl := Option.some.inj H
 go_wp2
 first | go_end0 | ((try simp only [Exit.inBlock, Exit.then]); refine bodyPost_ret (results_none rfl _ _ _) rfl ?_)
 exact ⟨RF, (by first | exact (PR HO_474002.1) | (simp only [hl474002_1]; exact (PR HO_474002.1))), BL HB.1, KL HK.1⟩
mutual
def impl_drop.l0 : Nat -> List Int -> Int -> List Int -> Int -> Int -> Int -> Int -> List (S83) -> Option (Int × Int × Int × List Int × (List (S83)))
 | 0, _, _, _, _, _, _, _, _ => none
 | k + 1, x1, x2, x8, x9, x10, x480000, x480001, x480002 => if x10 < x480000 then (if x8.length < 17592186044416 then ((some (x8 ++ [wrap64 ((wrap64 (x10 * x480001)) + x2)] : List Int)).bind fun y484 => (if 0 <= (wrap64 ((wrap64 (x10 * x480001)) + x2)) then (if (wrap64 ((wrap64 (x10 * x480001)) + x2)) < (x480002.length : Int) then ((impl_GoesTo.f k ((rd_T83 x480002 (wrap64 ((wrap64 (x10 * x480001)) + x2))).f0) ((rd_T83 x480002 (wrap64 ((wrap64 (x10 * x480001)) + x2))).f1) x9).bind fun bt489 => (if bt489.2 = true then (if ((rd_T83 x480002 (wrap64 ((wrap64 (x10 * x480001)) + x2))).f0) = 3 then (impl_drop.j1 k x1 x2 y484 x10 (wrap64 ((wrap64 (x10 * x480001)) + x2)) bt489.1 x480000 x480001 (x480002.set ((wrap64 ((wrap64 (x10 * x480001)) + x2)) : Int).toNat (⟨(rd_T83 x480002 (wrap64 ((wrap64 (x10 * x480001)) + x2))).f0, wrap64 (1 - ((rd_T83 x480002 (wrap64 ((wrap64 (x10 * x480001)) + x2))).f1))⟩ : S83)) ((rd_T83 x480002 (wrap64 ((wrap64 (x10 * x480001)) + x2))).f0) ((rd_T83 x480002 (wrap64 ((wrap64 (x10 * x480001)) + x2))).f1)) else (impl_drop.j1 k x1 x2 y484 x10 (wrap64 ((wrap64 (x10 * x480001)) + x2)) bt489.1 x480000 x480001 x480002 ((rd_T83 x480002 (wrap64 ((wrap64 (x10 * x480001)) + x2))).f0) ((rd_T83 x480002 (wrap64 ((wrap64 (x10 * x480001)) + x2))).f1))) else (some (2, x10, x2, y484, x480002)))) else (none)) else (none))) else (none)) else (some (1, x480000, x2, x8, x480002))
def impl_drop.j1 : Nat -> List Int -> Int -> List Int -> Int -> Int -> Int -> Int -> Int -> List (S83) -> Int -> Int -> Option (Int × Int × Int × List Int × (List (S83)))
 | 0, _, _, _, _, _, _, _, _, _, _, _ => none
 | k + 1, x1, x2, x8, x10, x11, x13, x480000, x480001, x480002, x489000, x489001 => if x489000 = 6 then ((impl_turnGroup.f k x480000 x480001 x480002 x1 x11).bind fun t492 => (if (wrap64 (x2 + x13)) < 0 then (some (3, x10, wrap64 (x2 + x13), x8, t492)) else (if (wrap64 (x2 + x13)) ≥ x480001 then (some (3, x10, wrap64 (x2 + x13), x8, t492)) else (impl_drop.l0 k x1 (wrap64 (x2 + x13)) x8 (wrap64 (-x13)) (wrap64 (x10 + 1)) x480000 x480001 t492)))) else (if (wrap64 (x2 + x13)) < 0 then (some (3, x10, wrap64 (x2 + x13), x8, x480002)) else (if (wrap64 (x2 + x13)) ≥ x480001 then (some (3, x10, wrap64 (x2 + x13), x8, x480002)) else (impl_drop.l0 k x1 (wrap64 (x2 + x13)) x8 (wrap64 (-x13)) (wrap64 (x10 + 1)) x480000 x480001 x480002)))
end
def impl_drop.f (k : Nat) (a0_0 : Int) (a0_1 : Int) (l0_2 : List (S83)) (l1 : List Int) (a2 : Int) : Option (Int × Int × Int × List Int × (List (S83))) := impl_drop.l0 k l1 a2 (([] : List Int)) 0 0 a0_0 a0_1 l0_2
theorem impl_drop.mono_l : ∀ k, (∀ y0 y1 y2 y3 y4 y5 y6 y7, LeO (impl_drop.l0 k y0 y1 y2 y3 y4 y5 y6 y7) (impl_drop.l0 (k + 1) y0 y1 y2 y3 y4 y5 y6 y7)) /\ (∀ y0 y1 y2 y3 y4 y5 y6 y7 y8 y9 y10, LeO (impl_drop.j1 k y0 y1 y2 y3 y4 y5 y6 y7 y8 y9 y10) (impl_drop.j1 (k + 1) y0 y1 y2 y3 y4 y5 y6 y7 y8 y9 y10))
 | 0 => by refine ⟨?_, ?_⟩ <;> (intros; intro r h; first | (simp [impl_drop.l0] at h; done) | (simp [impl_drop.j1] at h; done))
 | k + 1 => by
  obtain ⟨ih0, ih1⟩ := impl_drop.mono_l k
  refine ⟨?_, ?_⟩ <;> (
   intros
   first | unfold impl_drop.l0 | unfold impl_drop.j1
   exact LM4 ih0 ih1 impl_GoesTo.mono impl_turnGroup.mono)
theorem impl_drop.mono : ∀ a0 a1 a2 a3 a4 k, LeO (impl_drop.f k a0 a1 a2 a3 a4) (impl_drop.f (k + 1) a0 a1 a2 a3 a4) := by
 intro a0 a1 a2 a3 a4 k
 obtain ⟨ih0, ih1⟩ := impl_drop.mono_l k
 unfold impl_drop.f
 exact LM4 ih0 ih1 impl_GoesTo.mono impl_turnGroup.mono
theorem impl_drop.calls (k : Nat) (a0_0 : Int) (a0_1 : Int) (P0_2_ : Nat -> Prop) (u9000_ : Value) (l0_2 : List (S83)) (A1 : Option Addr) (c1 : Nat) (l1 : List Int) (a2 : Int) (r1 : Int) (r2 : Int) (r3 : Int) (r4 : List Int) (r5 : List (S83)) (w0 w : World) (hB : Below w0.heap.size w0 w) (ho0_2 : Kd.R k83 83 w w0.heap.size P0_2_ u9000_ l0_2) (hr1 : ∀ W_, Kept w W_ (fun k_ => P0_2_ k_) -> Kd.C (Kd.int .i64) W_ A1 l1.length l1) (hc1 : l1.length <= c1) (h : impl_drop.f k a0_0 a0_1 l0_2 l1 a2 = some (r1, r2, r3, r4, r5)) :
 Calls Try.prog 78 #[.agg #[.int .i64 a0_0, .int .i64 a0_1, u9000_], .slice A1 l1.length c1, .int .i64 a2] w fun e w' => ∃ v3_ : Value, e = .returned (.tuple #[.agg #[.int .i64 r1, .int .i64 r2, .int .i64 r3], v3_]) /\ Kd.R (Kd.int .i64) 3 w' w0.heap.size (fun k_ => (P0_2_ k_ ∨ w.heap.size <= k_)) v3_ r4 /\ Kd.R k83 83 w' w0.heap.size (fun k_ => (P0_2_ k_ ∨ w.heap.size <= k_)) u9000_ r5 /\ Below w0.heap.size w0 w' /\ Kept w w' (fun k_ => P0_2_ k_) := by
 have hu30 := Try.underlying30
 have hu54 := Try.underlying54
 have hu83 := Try.underlying83
 have HO0_2 := Aside0.mk (show Kd.R k83 83 w w0.heap.size (fun k_ => (P0_2_ k_ ∨ w.heap.size <= k_)) u9000_ l0_2 from R_mono ho0_2 (fun k_ hk => (.inl hk)))
 have HR1 := Aside0.mk hr1
 have HC1 := Aside0.mk hc1
 clear hr1 hc1
 have HK := Aside0.mk (Kept.refl w (fun k_ => P0_2_ k_))
 have HW0 := Aside0.mk hB.size
 have HB := Aside0.mk hB
 clear hB
 have H := h
 clear h
 unfold impl_drop.f at H
 generalize hy481 : ((([] : List Int)) : List Int) = y481 at H
 have Ny481 := Aside0.mk hy481.symm; clear hy481
 have H' := Aside0.mk H
 clear H
 obtain ⟨Ao4, co4, eo4⟩ := R_slice HO0_2.1
 subst eo4
 go_enter Try.func78, Try.ntmps78
 go_wp2_with (first | ((with_reducible refine gate_dst (N := 3) rfl ?_); refine boxE (cs := #[.int .i64 a0_0, .int .i64 a0_1, .slice Ao4 l0_2.length co4]) (t := 30) ?_; intro gb479 hg w5 hbox hb; refine E6 (rB HO0_2.1 hb) (Kept.below (S := (fun k_ => P0_2_ k_)) (KL HK.1) hb) (bS HB.1 hb) (hbox) ((by rw [hg]; exact (by first | exact HK.1.1 | exact (show Kept w _ (fun k_ => P0_2_ k_) from KL HK.1).1) : w.heap.size <= gb479)) (gwM hg (bZ HB.1) : w0.heap.size <= gb479) ?_; clear HO0_2 HK HB; intro HO0_2 HK HB BK479 GW479 GE479; clear hb hbox hg) | ((with_reducible refine gate_dst (N := 6) rfl ?_); refine boxE (cs := #[.int .i64 0, .int .i64 0, .int .i64 0]) (t := 54) ?_; intro gb480 hg w6 hbox hb; refine E9 (rB HO0_2.1 hb) (bB BK479.1 hb) (Kept.below (S := (fun k_ => P0_2_ k_)) (KL HK.1) hb) (bS HB.1 hb) (hbox) ((by rw [hg]; exact (by first | exact HK.1.1 | exact (show Kept w _ (fun k_ => P0_2_ k_) from KL HK.1).1) : w.heap.size <= gb480)) (gwM hg (bZ HB.1) : w0.heap.size <= gb480) (nB BK479.1 hg) (nC BK479.1 hg) ?_; clear HO0_2 BK479 HK HB; intro HO0_2 BK479 HK HB BK480 GW480 GE480 NB479_480 NB480_479; clear hb hbox hg) | ((with_reducible refine gate_dst (N := 15) rfl ?_); refine R_lit (Kd.int .i64) _ 3 ?hg (N := 15) ?hd (xs := ([] : List Int)) (inner := []) (ok := fun _ => True) (okp := fun _ => True) ?hr ?hp (fun _ hk => hk) trivial (Below.refl _ _) (Nat.le_refl _) (by simp) ?_; (case hd => rfl); (case hg => rfl); (case hr => first | (go_simp; done) | (go_simp; rfl)); (case hp => exact (Reps.none _ _)); intro v482 w7 ho8 hb hg_ hnew_; clear hg_ hnew_; (first | rw [<- Ny481.1] at ho8 | (simp only [Int.reduceToNat] at ho8; rw [<- Ny481.1] at ho8)); refine E6 (rB HO0_2.1 hb) (R_lower (R_newM (M := fun k_ => (P0_2_ k_ ∨ w.heap.size <= k_)) ho8 (by first | exact HK.1.1 | exact (show Kept w _ (fun k_ => P0_2_ k_) from KL HK.1).1) (fun k_ h_ => .inr h_)) (bZ HB.1)) (bB BK479.1 hb) (bB BK480.1 hb) (Kept.below (S := (fun k_ => P0_2_ k_)) (KL HK.1) hb) (bS HB.1 hb) ?_; clear HO0_2 BK479 BK480 HK HB; intro HO0_2 HO483 BK479 BK480 HK HB; clear hb ho8))
 go_loopg [2, 8, 9, 10] k (fun kq v2 v8 v9 v10 w' => ∃ (x2_1 : Int) (x8_1 : List Int) (x9_1 : Int) (x10_1 : Int) (x480002_1 : List (S83)) (x481000_1 : Int) (x481001_1 : Int) (x481002_1 : Int), v2 = .int .i64 x2_1 /\ v9 = .int .i64 x9_1 /\ v10 = .int .i64 x10_1 /\ Aside0 (impl_drop.l0 kq l1 x2_1 x8_1 x9_1 x10_1 a0_0 a0_1 x480002_1 = some (r1, r2, r3, r4, r5)) /\ Aside0 (kq <= k) /\ Aside0 (Kd.R (Kd.int .i64) 3 w' w0.heap.size (fun k_ => (P0_2_ k_ ∨ w.heap.size <= k_)) v8 x8_1) /\ Aside0 (Kd.R k83 83 w' w0.heap.size (fun k_ => (P0_2_ k_ ∨ w.heap.size <= k_)) (.slice Ao4 l0_2.length co4) x480002_1) /\ Aside0 (w'.heap[gb479]? = some (.cells #[.int .i64 a0_0, .int .i64 a0_1, (.slice Ao4 l0_2.length co4)] 30 (0, 0))) /\ Aside0 (w'.heap[gb480]? = some (.cells #[.int .i64 x481000_1, .int .i64 x481001_1, .int .i64 x481002_1] 54 (0, 0))) /\ Aside0 (Kept w w' (fun k_ => P0_2_ k_)) /\ Aside0 (Below w0.heap.size w0 w'))
 case atStart => exact ⟨(a2), (y481), (0), (0), (l0_2), (0), (0), (0), RG, RG, RG, H', ⟨Nat.le_refl _⟩, ⟨RPE (R_mono HO483.1 (fun _ hk => hk.1))⟩, ⟨PR HO0_2.1⟩, ⟨PB BK479.1⟩, ⟨PB BK480.1⟩, ⟨KL HK.1⟩, ⟨BL HB.1⟩⟩
 clear H'
 try clear c1
 obtain ⟨x2_1, x8_1, x9_1, x10_1, x480002_1, x481000_1, x481001_1, x481002_1, rfl, rfl, rfl, HA, HK1, HO_8, HO_480002, BK479, BK480, HK, HB⟩ := hrel
 have hl480002_1 := (R_reads' HO_480002.1).1
 rw [hl480002_1] at HO_480002
 (try simp only [hl480002_1])
 (try simp only [hl480002_1] at BK479)
 (try simp only [hl480002_1] at BK480)
 (try simp only [hl480002_1] at HO_8)
 cases gk with
 | zero => exact absurd HA.1 (by simp [impl_drop.l0])
 | succ k1 => ?_
 have H := HA.1
 clear HA
 simp only [impl_drop.l0] at H
 replace H := ifB H; rcases H with ⟨c9b0, H⟩ | ⟨c9b0, H⟩
 · replace H := ifP H; obtain ⟨c10, H⟩ := H
   have LMc10 := Aside0.mk c10
   clear c10
   replace H := nameB H; obtain ⟨y484, Ny484, H⟩ := H
   obtain ⟨ji11, hji11⟩ : ∃ j_ : Int, (wrap64 ((wrap64 (x10_1 * a0_1)) + x2_1)) = j_ := ⟨_, rfl⟩
   replace H : (if 0 <= (ji11) then (if (ji11) < (x480002_1.length : Int) then ((impl_GoesTo.f k1 ((rd_T83 x480002_1 (ji11)).f0) ((rd_T83 x480002_1 (ji11)).f1) x9_1).bind fun bt489 => (if bt489.2 = true then (if ((rd_T83 x480002_1 (ji11)).f0) = 3 then (impl_drop.j1 k1 l1 x2_1 y484 x10_1 ji11 bt489.1 a0_0 a0_1 (x480002_1.set ((ji11) : Int).toNat (⟨(rd_T83 x480002_1 (ji11)).f0, wrap64 (1 - ((rd_T83 x480002_1 (ji11)).f1))⟩ : S83)) ((rd_T83 x480002_1 (ji11)).f0) ((rd_T83 x480002_1 (ji11)).f1)) else (impl_drop.j1 k1 l1 x2_1 y484 x10_1 ji11 bt489.1 a0_0 a0_1 x480002_1 ((rd_T83 x480002_1 (ji11)).f0) ((rd_T83 x480002_1 (ji11)).f1))) else (some (2, x10_1, x2_1, y484, x480002_1)))) else (none)) else (none)) = some (r1, r2, r3, r4, r5) := by first | (rw [hji11] at H; exact H) | (simp only [hji11] at H ⊢; exact H)
   (try rw [hji11] at Ny484)
   have hji11w : (IntKind.i64.wrap ((wrap64 (x10_1 * a0_1)) + x2_1)) = ji11 := (i64_w _).trans hji11
   replace H := ifN H; obtain ⟨c12b0, H⟩ := H
   replace H := ifN H; obtain ⟨c13b0, H⟩ := H
   replace H := bindA H; obtain ⟨⟨t489, t490⟩, A14, H⟩ := H
   dsimp only at H
   replace H := ifX H; rcases H with ⟨rfl, H⟩ | ⟨rfl, H⟩
   · have HC16 := Aside0.mk H
     clear H
     have hnb17 := NB479_480.1
     have hnc17 := NB480_479.1
     obtain ⟨hcz18_0, hcz18_1, hcz18_2, hfz18_0, hfz18_1, hfz18_2⟩ := cz3 BK479.1
     go_upto_if 51 with (first | ((with_reducible refine gate_builtin (b := .append) (xs := #[.tmp 28, .tmp 30]) rfl ?_); at_builtin; refine R_append (Kd.int .i64) (w0 := w0) w0.heap.size rfl (.tmp 28) (.tmp 30) 38 3 (.int .i64 0) 8 rfl Try.underlying38 info3 rfl (by decide) (by omega) u8 x8_1 ji11 [.int .i64 ji11] (fun k_ => (P0_2_ k_ ∨ w.heap.size <= k_)) (fun _ => False) rfl rfl ?aP (fun _ hk => hk.elim) ?aF ?aO ?aB ?aS ?aL ?_; (case aP => exact rfl); (case aB => exact (BL HB.1)); (case aF => exact (fun k_ hk => (.inr (Nat.le_trans (by first | exact HK.1.1 | exact (show Kept w _ (fun k_ => P0_2_ k_) from KL HK.1).1) hk)))); (case aO => exact (PR HO_8.1)); (case aS => exact (bZ HB.1)); (case aL => have := LMc10.1; omega); intro v485 w19 ho hb hg hat; rw [<- Ny484.1] at ho; refine E6 (R_over' (PR HO_480002.1) (R_typed (PR HO_8.1)) (by decide) hg) (bG BK479.1 hg (R_ne HO_8.1 BK479.1 (by decide))) (bG BK480.1 hg (R_ne HO_8.1 BK480.1 (by decide))) (hb) (Kept.of_grown (S := (fun k_ => P0_2_ k_)) hg (KL HK.1) (fun k_ e_ => (HO_8.1.1 k_ e_))) (ho) ?_; clear HO_480002 BK479 BK480 HB HK HO_8; intro HO_480002 BK479 BK480 HB HK HO486; clear ho hb hg hat; obtain ⟨hcz20_0, hcz20_1, hcz20_2, hfz20_0, hfz20_1, hfz20_2⟩ := cz3 BK479.1; have p487 : 0 <= ((ji11) : Int) := OD; have q487 : (ji11) < (x480002_1.length : Int) := OD; obtain ⟨ad487, e487, hx487_0, hx487_1⟩ := at_T83 (R_reads' HO_480002.1).2.2 (ji11) p487 q487; cases e487; replace p487 := eq_true p487; replace q487 := eq_true q487) | ((with_reducible refine gate_dst (N := 12) rfl ?_); refine boxE (cs := #[.int .i64 0, .int .i64 0]) (t := 83) ?_; intro gb488 hg w21 hbox hb; refine E13 (R_below (R_elderB (PR HO_480002.1) gb488 (Nat.le_of_eq hg.symm)) hb) (rB HO486.1 hb) (bB BK479.1 hb) (bB BK480.1 hb) (Kept.below (S := (fun k_ => P0_2_ k_)) (KL HK.1) hb) (bS HB.1 hb) (hbox) ((by rw [hg]; exact (by first | exact HK.1.1 | exact (show Kept w _ (fun k_ => P0_2_ k_) from KL HK.1).1) : w.heap.size <= gb488)) (gwM hg (bZ HB.1) : w0.heap.size <= gb488) (nB BK479.1 hg) (nC BK479.1 hg) (nB BK480.1 hg) (nC BK480.1 hg) ?_; clear HO_480002 HO486 BK479 BK480 HK HB; intro HO_480002 HO486 BK479 BK480 HK HB BK488 GW488 GE488 NB479_488 NB488_479 NB480_488 NB488_480; clear hb hbox hg; have hnb22 := NB488_479.1; have hnc22 := NB479_488.1; have hnb23 := NB488_480.1; have hnc23 := NB480_488.1; obtain ⟨hcz24_0, hcz24_1, hfz24_0, hfz24_1⟩ := cz2 BK488.1) | ((with_reducible refine gate_callee (f := 89) rfl ?_); refine goesL_ (some 40) rfl rfl Try.func89 (by kernel_rfl) rfl #[.agg #[.int .i64 ((rd_T83 x480002_1 (ji11)).f0), .int .i64 ((rd_T83 x480002_1 (ji11)).f1)], .int .i64 x9_1] rfl (by (try simp only [List.map_toArray, List.map_cons, List.map_nil]); first | done | (simp only [hji11]; rfl) | rfl | (simp only [List.length_drop, List.length_take]; rfl)) ?_; (with_reducible refine (impl_GoesTo.calls k1 ((rd_T83 x480002_1 (ji11)).f0) ((rd_T83 x480002_1 (ji11)).f1) x9_1 t489 true _ A14.1).mono ?_); rintro e w25 ⟨rfl, hb⟩; refine ⟨_, rfl, ?_⟩; refine E7 (R_below (by (with_reducible repeat (first | apply R_alloc | apply R_drewN | apply R_drew)); exact (R_mono (RQ gb488 1 (RQ gb488 0 (R_mono HO_480002.1 (fun k_ hk => (⟨hk, hk.2⟩ : _ /\ k_ ≠ gb488))) _) _) (fun _ h_ => h_.1))) hb) (R_below (by (with_reducible repeat (first | apply R_alloc | apply R_drewN | apply R_drew)); exact (R_mono (RQ gb488 1 (RQ gb488 0 (R_types HO486.1 BK488.1 (by decide)) _) _) (fun _ h_ => h_.1))) hb) (blk_below (g := gb479) (o := .cells #[.int .i64 a0_0, .int .i64 a0_1, .slice (some ad487) x480002_1.length co4] 30 (0, 0)) (PF1 NB479_488.1 BK479.1) hb) (blk_below (g := gb480) (o := .cells #[.int .i64 x481000_1, .int .i64 x481001_1, .int .i64 x481002_1] 54 (0, 0)) (PF1 NB480_488.1 BK480.1) hb) (blk_below (g := gb488) (o := .cells #[.int .i64 ((rd_T83 x480002_1 (ji11)).f0), .int .i64 ((rd_T83 x480002_1 (ji11)).f1)] 83 (0, 0)) (PF0 BK488.1) hb) (Kept.below (S := (fun k_ => P0_2_ k_)) (KL HK.1) hb) (bS HB.1 hb) ?_; clear HO_480002 HO486 BK479 BK480 BK488 HK HB; intro HO_480002 HO486 BK479 BK480 BK488 HK HB; (try clear hb); (try clear hk); obtain ⟨hcz26_0, hcz26_1, hfz26_0, hfz26_1⟩ := cz2 BK488.1))
     (try simp only [Act.put, List.setIfInBounds_toArray, List.set_cons_zero, List.set_cons_succ])
     go_cut [] (fun wc => ∃ (kq : Nat) (x480002_15 : List (S83)) (x489001_15 : Int), Aside0 (impl_drop.j1 kq l1 x2_1 y484 x10_1 ji11 t489 a0_0 a0_1 x480002_15 ((rd_T83 x480002_1 (ji11)).f0) x489001_15 = some (r1, r2, r3, r4, r5)) /\ Aside0 (kq <= k1) /\ Aside0 (Kd.R (Kd.int .i64) 3 wc w0.heap.size (fun k_ => (P0_2_ k_ ∨ w.heap.size <= k_)) v485 y484) /\ Aside0 (Kd.R k83 83 wc w0.heap.size (fun k_ => (P0_2_ k_ ∨ w.heap.size <= k_) /\ k_ ≠ gb488) (.slice (some ad487) x480002_1.length co4) x480002_15) /\ Aside0 (wc.heap[gb479]? = some (.cells #[.int .i64 a0_0, .int .i64 a0_1, (.slice (some ad487) x480002_1.length co4)] 30 (0, 0))) /\ Aside0 (wc.heap[gb480]? = some (.cells #[.int .i64 x481000_1, .int .i64 x481001_1, .int .i64 x481002_1] 54 (0, 0))) /\ Aside0 (wc.heap[gb488]? = some (.cells #[.int .i64 ((rd_T83 x480002_1 (ji11)).f0), .int .i64 x489001_15] 83 (0, 0))) /\ Aside0 (Kept w wc (fun k_ => P0_2_ k_)) /\ Aside0 (Below w0.heap.size w0 wc))
     case first =>
      have H := HC16.1
      clear HC16
      replace H := ifQ H; rcases H with ⟨c27, H⟩ | ⟨c27, H⟩
      · have c27b0 := beq_iff_eq.mpr c27
        have c27b1 := bne_eq_false_iff_eq.mpr c27
        clear c27
        (first | rw [c27b0] | (simp only [i64_w, i32_w]; rw [c27b0]) | skip)
        generalize hy491 : ((x480002_1.set ((ji11) : Int).toNat (⟨(rd_T83 x480002_1 (ji11)).f0, wrap64 (1 - ((rd_T83 x480002_1 (ji11)).f1))⟩ : S83)) : List (S83)) = y491 at H
        have Ny491 := Aside0.mk hy491.symm; clear hy491
        have H' := Aside0.mk H
        clear H
        obtain ⟨hcz31_0, hcz31_1, hcz31_2, hfz31_0, hfz31_1, hfz31_2⟩ := cz3 BK479.1
        obtain ⟨hcz33_0, hcz33_1, hfz33_0, hfz33_1⟩ := cz2 BK488.1
        have p28 : 0 <= ((ji11) : Int) := OD
        have q28 : ((ji11) : Int) < ((x480002_1.length : Int) : Int) := OD
        obtain ⟨go28, co28, eo28, gb28, gl28, cl28, HG28⟩ := R_form HO_480002.1 (by omega)
        (first | cases eo28 | (injection eo28 with ea_ en_ ec_; (first | subst ea_ | (injection ea_ with ea_; subst ea_)); subst ec_; clear en_))
        have GB28 := Aside0.mk gb28
        have GG28 := Aside0.mk HG28
        clear gb28 gl28 HG28
        have HMgo28 := Aside0.mk (show (P0_2_ go28 ∨ w.heap.size <= go28) from (HO_480002.1.1 _ rfl).1)
        (first | simp only [add_plain] at hx487_0 | skip)
        (first | simp only [add_plain] at hx487_1 | skip)
        obtain ⟨ce28, hcl28, hM28, hcc28, hfr28⟩ := R_elem HO_480002.1 z83 ((ji11) : Int) p28 q28
        obtain rfl := k83_openM hM28
        have hx28_0 : w25.cell? ⟨go28, ((ji11) : Int).toNat * 2, none⟩ = some (.int .i64 ((rd_T83 x480002_1 (ji11)).f0)) := hcc28 0 _ rfl
        have hx28_1 : w25.cell? ⟨go28, ((ji11) : Int).toNat * 2 + 1, none⟩ = some (.int .i64 ((rd_T83 x480002_1 (ji11)).f1)) := hcc28 1 _ rfl
        have hf28_0 : w25.frozen? ⟨go28, ((ji11) : Int).toNat * 2, none⟩ = false := hfr28 0
        have hf28_1 : w25.frozen? ⟨go28, ((ji11) : Int).toNat * 2 + 1, none⟩ = false := hfr28 1
        (try clear hM28); clear hcl28 hcc28 hfr28
        replace p28 := eq_true p28
        replace q28 := eq_true q28
        have HX34 := Aside0.mk (show Kd.R k83 83 w25 w0.heap.size (fun k_ => (P0_2_ k_ ∨ w.heap.size <= k_) /\ k_ ≠ gb488) (.slice (some ⟨go28, 0, none⟩) x480002_1.length co4) x480002_1 from (PR HO_480002.1))
        obtain ⟨ce34, hcl34, hM34, hcc34, hfr34⟩ := R_elem HX34.1 z83 ((ji11) : Int) (OD) (by have h_ : ((ji11) : Int) < ((x480002_1.length : Int) : Int) := OD; first | exact h_ | (have e_ := (R_reads' HO_480002.1).1; omega) | simpa using h_)
        obtain rfl := k83_openM hM34
        have HP34 := R_seg HX34.1 ((ji11) : Int) (OD) (by have h_ : ((ji11) : Int) < ((x480002_1.length : Int) : Int) := OD; first | exact h_ | (have e_ := (R_reads' HO_480002.1).1; omega) | simpa using h_) (seg := [.int .i64 (wrap64 (1 - ((rd_T83 x480002_1 (ji11)).f1)))]) (j := 1) hcl34 hcc34 (show 2 <= 2 from by decide) (x' := (⟨(rd_T83 x480002_1 (ji11)).f0, wrap64 (1 - ((rd_T83 x480002_1 (ji11)).f1))⟩ : S83)) (k83_mkM _ _ _ (⟨(rd_T83 x480002_1 (ji11)).f0, wrap64 (1 - ((rd_T83 x480002_1 (ji11)).f1))⟩ : S83) ) (fun _ hk => hk)
        have hx34_1 := hcc34 1 _ rfl
        (try simp only [show (k83).sz = 2 from rfl, Nat.mul_one, Nat.add_zero] at hx34_1)
        have hf34_1 := hfr34 1
        (try simp only [show (k83).sz = 2 from rfl, Nat.mul_one, Nat.add_zero] at hf34_1)
        (try clear hM34); clear hcl34 hcc34 hfr34
        go_wp2_with (first | ((with_reducible refine gate_store (t := 3) (p := 59) rfl ?_); refine storeE (t := 3) (p := 59) (w1 := (w25.setCell ⟨go28, ((ji11) : Int).toNat * 2 + 1, none⟩ (.int .i64 (wrap64 (1 - ((rd_T83 x480002_1 (ji11)).f1)))))) ?_; intro w35 hw; have hg : w25.grownBy w35 (some go28) := (by rw [hw]; exact HP34.2); have hp_ : Kd.R k83 83 w35 w0.heap.size (fun k_ => (P0_2_ k_ ∨ w.heap.size <= k_) /\ k_ ≠ gb488) (.slice (some ⟨go28, 0, none⟩) x480002_1.length co4) y491 := (by rw [hw, Ny491.1]; exact HP34.1); clear HP34; refine E7 (hp_) (bG BK479.1 hg (R_ne HO_480002.1 BK479.1 (by decide))) (bG BK480.1 hg (R_ne HO_480002.1 BK480.1 (by decide))) (R_over' (v := (.slice (some ⟨go28, 0, none⟩) x480002_1.length co4)) (PR HO486.1) (R_typed HO_480002.1) (by decide) hg) (bG BK488.1 hg (R_away HO_480002.1 (fun _ hk => hk.2))) ((by rw [hw]; exact below_set (HB.1) GB28.1 : Below w0.heap.size w0 w35)) (Kept.of_grown (S := (fun k_ => P0_2_ k_)) hg (KL HK.1) (fun k_ e_ => (HO_480002.1.1 k_ e_).1)) ?_; clear HO_480002 BK479 BK480 HO486 BK488 HB HK; intro HO_480002 BK479 BK480 HO486 BK488 HB HK; clear hg hw hp_))
        go_meet
        case rel => exact ⟨_, (y491), ((rd_T83 x480002_1 (ji11)).f1), H', ⟨by have := HK1.1; first | omega | exact Nat.le_refl _⟩, ⟨PR1 HO486.1 hl480002_1⟩, ⟨PR1 HO_480002.1 hl480002_1⟩, ⟨PB1 BK479.1 hl480002_1⟩, ⟨PB1 BK480.1 hl480002_1⟩, ⟨PB1 BK488.1 hl480002_1⟩, ⟨KL HK.1⟩, ⟨BL HB.1⟩⟩
      have c27b0 := beq_eq_false_iff_ne.mpr c27
      have c27b1 := bne_iff_ne.mpr c27
      (first | rw [c27b0] | (simp only [i64_w, i32_w]; rw [c27b0]) | skip)
      have H' := Aside0.mk H
      clear H
      go_wp2
      go_meet
      case rel => exact ⟨_, (x480002_1), ((rd_T83 x480002_1 (ji11)).f1), H', ⟨by have := HK1.1; first | omega | exact Nat.le_refl _⟩, ⟨PR1 HO486.1 hl480002_1⟩, ⟨PR1 HO_480002.1 hl480002_1⟩, ⟨PB1 BK479.1 hl480002_1⟩, ⟨PB1 BK480.1 hl480002_1⟩, ⟨PB1 BK488.1 hl480002_1⟩, ⟨KL HK.1⟩, ⟨BL HB.1⟩⟩
     clear HC16
     try clear hx487_0; try clear hx487_1; try clear p487; try clear q487; clear c9b0 c12b0 c13b0 hcz18_0 hcz18_1 hcz18_2 hcz20_0 hcz20_1 hcz20_2 hcz24_0 hcz24_1 hcz26_0 hcz26_1 hfz18_0 hfz18_1 hfz18_2 hfz20_0 hfz20_1 hfz20_2 hfz24_0 hfz24_1 hfz26_0 hfz26_1
     obtain ⟨kq, x480002_15, x489001_15, HA, HJ15, HO_8, HO_480002, BK479, BK480, BK488, HK, HB⟩ := hcut
     have hl480002_15 := (R_reads' HO_480002.1).1
     rw [hl480002_15] at HO_480002
     (try simp only [hl480002_15])
     (try simp only [hl480002_15] at BK479)
     (try simp only [hl480002_15] at BK480)
     (try simp only [hl480002_15] at BK488)
     (try simp only [hl480002_15] at HO_8)
     cases kq with
     | zero => exact absurd HA.1 (by simp [impl_drop.j1])
     | succ kj15 => ?_
     have H := HA.1
     clear HA
     simp only [impl_drop.j1] at H
     replace H := ifQ H; rcases H with ⟨c36, H⟩ | ⟨c36, H⟩
     · have c36b0 := beq_iff_eq.mpr c36
       have c36b1 := bne_eq_false_iff_eq.mpr c36
       clear c36
       replace H := bindA H; obtain ⟨t492, A37, H⟩ := H
       replace H := ifB H; rcases H with ⟨c38b0, H⟩ | ⟨c38b0, H⟩
       · simp only [Option.some.injEq, Prod.mk.injEq] at H
         obtain ⟨rfl, rfl, rfl, rfl, rfl⟩ := H
         obtain ⟨hcz41_0, hcz41_1, hfz41_0, hfz41_1⟩ := cz2 BK488.1
         obtain ⟨hcz43_0, hcz43_1, hcz43_2, hfz43_0, hfz43_1, hfz43_2⟩ := cz3 BK479.1
         go_wp2_with (first | ((with_reducible refine gate_callee (f := 90) rfl ?_); refine goesL_ (some 66) rfl rfl Try.func90 (by kernel_rfl) rfl #[.agg #[.int .i64 a0_0, .int .i64 a0_1, .slice (some ad487) x480002_15.length co4], .slice A1 l1.length c1, .int .i64 ji11] rfl (by (try simp only [List.map_toArray, List.map_cons, List.map_nil]); first | done | (simp only [hji11]; rfl) | rfl | (simp only [List.length_drop, List.length_take]; rfl)) ?_; (with_reducible refine (impl_turnGroup.calls kj15 a0_0 a0_1 (fun k_ => some k_ = (.slice (some ad487) x480002_15.length co4 : Value).ownBlock) (.slice (some ad487) x480002_15.length co4) x480002_15 _ _ l1 ji11 t492 w0 _ ?side1 ?side2 ?side3 ?side4 A37.1).mono ?_); (case side1 => exact BL HB.1); (case side2 => exact R_tight rfl HO_480002.1); (case side3 => exact C_kept_call HR1.1 (KL HK.1) (fun k_ hs_ => (fun e_ => (HO_480002.1.1 k_ e_.symm).1) hs_)); (case side4 => exact HC1.1); rintro e w44 ⟨rfl, hy0, hb, hkp⟩; refine ⟨_, rfl, ?_⟩; refine E7 (R_mono (ok' := fun k_ => (P0_2_ k_ ∨ w.heap.size <= k_)) (R_keptB ((R_apart' HO_8.1 (R_typed HO_480002.1) (by decide))) hkp (fun k_ hk_ hs_ => (hk_.2) hs_)) (fun k_ hk_ => hk_.1.1)) (R_reok rfl hy0 (fun k_ e_ => HO_480002.1.1 k_ e_)) (blk_kept (PB BK479.1) hkp (fun hs_ => (fun e_ => (R_ne HO_480002.1 BK479.1 (by decide)) e_) hs_)) (blk_kept (PB BK480.1) hkp (fun hs_ => (fun e_ => (R_ne HO_480002.1 BK480.1 (by decide)) e_) hs_)) (blk_kept (PB BK488.1) hkp (fun hs_ => (fun e_ => (R_away HO_480002.1 (fun _ hk => hk.2)) e_) hs_)) (Kept.then_ (S := (fun k_ => P0_2_ k_)) (KL HK.1) hkp (fun k_ hs_ => (fun e_ => (HO_480002.1.1 k_ e_.symm).1) hs_)) (hb) ?_; clear HO_8 HO_480002 BK479 BK480 BK488 HK HB; intro HO_8 HO_480002 BK479 BK480 BK488 HK HB; (try clear hb); (try clear hkp); (try clear hy0); obtain ⟨hcz45_0, hcz45_1, hcz45_2, hfz45_0, hfz45_1, hfz45_2⟩ := cz3 BK480.1))
         refine bodyPost_ret (results_ct rfl _ _ gb480 54 #[.int .i64 3, .int .i64 x10_1, .int .i64 (wrap64 (x2_1 + t489))] (0, 0) _ rfl (PF0 BK480.1) Try.underlying54 rfl (by kernel_rfl)) rfl ?_
         exact ⟨_, by first | rfl | (simp [errW_none, errW_some] <;> rfl) | (simp only [<- hji11]; first | rfl | (simp [errW_none, errW_some] <;> rfl)) | (simp [*, errW_none, errW_some] <;> rfl), by (with_reducible repeat (first | apply R_alloc | apply R_drewN | apply R_drew)); exact R_mono (RQ gb480 2 (RQ gb480 1 (RQ gb480 0 (R_types HO_8.1 BK480.1 (by decide)) _) _) _) (fun _ hk => hk.1), (by first | exact (by (with_reducible repeat (first | apply R_alloc | apply R_drewN | apply R_drew)); exact R_mono (RQ gb480 2 (RQ gb480 1 (RQ gb480 0 (R_types HO_480002.1 BK480.1 (by decide)) _) _) _) (fun _ hk => hk.1.1)) | (simp only [hl480002_1, hl480002_15]; exact (by (with_reducible repeat (first | apply R_alloc | apply R_drewN | apply R_drew)); exact R_mono (RQ gb480 2 (RQ gb480 1 (RQ gb480 0 (R_types HO_480002.1 BK480.1 (by decide)) _) _) _) (fun _ hk => hk.1.1)))), BL HB.1, KL HK.1⟩
       replace H := ifQ H; rcases H with ⟨c46, H⟩ | ⟨c46, H⟩
       · have c46b0 : decide (a0_1 <= (wrap64 (x2_1 + t489))) = true := decide_eq_true c46
         clear c46
         simp only [Option.some.injEq, Prod.mk.injEq] at H
         obtain ⟨rfl, rfl, rfl, rfl, rfl⟩ := H
         obtain ⟨hcz49_0, hcz49_1, hfz49_0, hfz49_1⟩ := cz2 BK488.1
         obtain ⟨hcz51_0, hcz51_1, hcz51_2, hfz51_0, hfz51_1, hfz51_2⟩ := cz3 BK479.1
         go_wp2_with (first | ((with_reducible refine gate_callee (f := 90) rfl ?_); refine goesL_ (some 66) rfl rfl Try.func90 (by kernel_rfl) rfl #[.agg #[.int .i64 a0_0, .int .i64 a0_1, .slice (some ad487) x480002_15.length co4], .slice A1 l1.length c1, .int .i64 ji11] rfl (by (try simp only [List.map_toArray, List.map_cons, List.map_nil]); first | done | (simp only [hji11]; rfl) | rfl | (simp only [List.length_drop, List.length_take]; rfl)) ?_; (with_reducible refine (impl_turnGroup.calls kj15 a0_0 a0_1 (fun k_ => some k_ = (.slice (some ad487) x480002_15.length co4 : Value).ownBlock) (.slice (some ad487) x480002_15.length co4) x480002_15 _ _ l1 ji11 t492 w0 _ ?side1 ?side2 ?side3 ?side4 A37.1).mono ?_); (case side1 => exact BL HB.1); (case side2 => exact R_tight rfl HO_480002.1); (case side3 => exact C_kept_call HR1.1 (KL HK.1) (fun k_ hs_ => (fun e_ => (HO_480002.1.1 k_ e_.symm).1) hs_)); (case side4 => exact HC1.1); rintro e w52 ⟨rfl, hy0, hb, hkp⟩; refine ⟨_, rfl, ?_⟩; refine E7 (R_mono (ok' := fun k_ => (P0_2_ k_ ∨ w.heap.size <= k_)) (R_keptB ((R_apart' HO_8.1 (R_typed HO_480002.1) (by decide))) hkp (fun k_ hk_ hs_ => (hk_.2) hs_)) (fun k_ hk_ => hk_.1.1)) (R_reok rfl hy0 (fun k_ e_ => HO_480002.1.1 k_ e_)) (blk_kept (PB BK479.1) hkp (fun hs_ => (fun e_ => (R_ne HO_480002.1 BK479.1 (by decide)) e_) hs_)) (blk_kept (PB BK480.1) hkp (fun hs_ => (fun e_ => (R_ne HO_480002.1 BK480.1 (by decide)) e_) hs_)) (blk_kept (PB BK488.1) hkp (fun hs_ => (fun e_ => (R_away HO_480002.1 (fun _ hk => hk.2)) e_) hs_)) (Kept.then_ (S := (fun k_ => P0_2_ k_)) (KL HK.1) hkp (fun k_ hs_ => (fun e_ => (HO_480002.1.1 k_ e_.symm).1) hs_)) (hb) ?_; clear HO_8 HO_480002 BK479 BK480 BK488 HK HB; intro HO_8 HO_480002 BK479 BK480 BK488 HK HB; (try clear hb); (try clear hkp); (try clear hy0); obtain ⟨hcz53_0, hcz53_1, hcz53_2, hfz53_0, hfz53_1, hfz53_2⟩ := cz3 BK479.1; obtain ⟨hcz54_0, hcz54_1, hcz54_2, hfz54_0, hfz54_1, hfz54_2⟩ := cz3 BK480.1))
         refine bodyPost_ret (results_ct rfl _ _ gb480 54 #[.int .i64 3, .int .i64 x10_1, .int .i64 (wrap64 (x2_1 + t489))] (0, 0) _ rfl (PF0 BK480.1) Try.underlying54 rfl (by kernel_rfl)) rfl ?_
         exact ⟨_, by first | rfl | (simp [errW_none, errW_some] <;> rfl) | (simp only [<- hji11]; first | rfl | (simp [errW_none, errW_some] <;> rfl)) | (simp [*, errW_none, errW_some] <;> rfl), by (with_reducible repeat (first | apply R_alloc | apply R_drewN | apply R_drew)); exact R_mono (RQ gb480 2 (RQ gb480 1 (RQ gb480 0 (R_types HO_8.1 BK480.1 (by decide)) _) _) _) (fun _ hk => hk.1), (by first | exact (by (with_reducible repeat (first | apply R_alloc | apply R_drewN | apply R_drew)); exact R_mono (RQ gb480 2 (RQ gb480 1 (RQ gb480 0 (R_types HO_480002.1 BK480.1 (by decide)) _) _) _) (fun _ hk => hk.1.1)) | (simp only [hl480002_1, hl480002_15]; exact (by (with_reducible repeat (first | apply R_alloc | apply R_drewN | apply R_drew)); exact R_mono (RQ gb480 2 (RQ gb480 1 (RQ gb480 0 (R_types HO_480002.1 BK480.1 (by decide)) _) _) _) (fun _ hk => hk.1.1)))), BL HB.1, KL HK.1⟩
       have c46b0 : decide (a0_1 <= (wrap64 (x2_1 + t489))) = false := decide_eq_false c46
       clear c46
       have H' := Aside0.mk H
       clear H
       obtain ⟨hcz57_0, hcz57_1, hfz57_0, hfz57_1⟩ := cz2 BK488.1
       obtain ⟨hcz59_0, hcz59_1, hcz59_2, hfz59_0, hfz59_1, hfz59_2⟩ := cz3 BK479.1
       go_wp2_with (first | ((with_reducible refine gate_callee (f := 90) rfl ?_); refine goesL_ (some 66) rfl rfl Try.func90 (by kernel_rfl) rfl #[.agg #[.int .i64 a0_0, .int .i64 a0_1, .slice (some ad487) x480002_15.length co4], .slice A1 l1.length c1, .int .i64 ji11] rfl (by (try simp only [List.map_toArray, List.map_cons, List.map_nil]); first | done | (simp only [hji11]; rfl) | rfl | (simp only [List.length_drop, List.length_take]; rfl)) ?_; (with_reducible refine (impl_turnGroup.calls kj15 a0_0 a0_1 (fun k_ => some k_ = (.slice (some ad487) x480002_15.length co4 : Value).ownBlock) (.slice (some ad487) x480002_15.length co4) x480002_15 _ _ l1 ji11 t492 w0 _ ?side1 ?side2 ?side3 ?side4 A37.1).mono ?_); (case side1 => exact BL HB.1); (case side2 => exact R_tight rfl HO_480002.1); (case side3 => exact C_kept_call HR1.1 (KL HK.1) (fun k_ hs_ => (fun e_ => (HO_480002.1.1 k_ e_.symm).1) hs_)); (case side4 => exact HC1.1); rintro e w60 ⟨rfl, hy0, hb, hkp⟩; refine ⟨_, rfl, ?_⟩; refine E7 (R_mono (ok' := fun k_ => (P0_2_ k_ ∨ w.heap.size <= k_)) (R_keptB ((R_apart' HO_8.1 (R_typed HO_480002.1) (by decide))) hkp (fun k_ hk_ hs_ => (hk_.2) hs_)) (fun k_ hk_ => hk_.1.1)) (R_reok rfl hy0 (fun k_ e_ => HO_480002.1.1 k_ e_)) (blk_kept (PB BK479.1) hkp (fun hs_ => (fun e_ => (R_ne HO_480002.1 BK479.1 (by decide)) e_) hs_)) (blk_kept (PB BK480.1) hkp (fun hs_ => (fun e_ => (R_ne HO_480002.1 BK480.1 (by decide)) e_) hs_)) (blk_kept (PB BK488.1) hkp (fun hs_ => (fun e_ => (R_away HO_480002.1 (fun _ hk => hk.2)) e_) hs_)) (Kept.then_ (S := (fun k_ => P0_2_ k_)) (KL HK.1) hkp (fun k_ hs_ => (fun e_ => (HO_480002.1.1 k_ e_.symm).1) hs_)) (hb) ?_; clear HO_8 HO_480002 BK479 BK480 BK488 HK HB; intro HO_8 HO_480002 BK479 BK480 BK488 HK HB; (try clear hb); (try clear hkp); (try clear hy0); obtain ⟨hcz61_0, hcz61_1, hcz61_2, hfz61_0, hfz61_1, hfz61_2⟩ := cz3 BK479.1))
       (try simp only [<- hl480002_1, <- hl480002_15])
       go_roundg kj15
       case measure => have := HK1.1; have := HJ15.1; omega
       case rel => exact ⟨(wrap64 (x2_1 + t489)), (y484), (wrap64 (-t489)), (wrap64 (x10_1 + 1)), (t492), (x481000_1), (x481001_1), (x481002_1), RG, RG, RG, H', ⟨by have := HK1.1; have := HJ15.1; omega⟩, ⟨PR2 HO_8.1 hl480002_1 hl480002_15⟩, ⟨by (try simp only [hl480002_1]); (try simp only [hl480002_15]); (with_reducible repeat (first | apply R_alloc | apply R_drewN | apply R_drew)); exact R_mono HO_480002.1 (fun _ hk => hk.1)⟩, ⟨PB2 BK479.1 hl480002_1 hl480002_15⟩, ⟨PB2 BK480.1 hl480002_1 hl480002_15⟩, ⟨KL HK.1⟩, ⟨BL HB.1⟩⟩
     have c36b0 := beq_eq_false_iff_ne.mpr c36
     have c36b1 := bne_iff_ne.mpr c36
     replace H := ifB H; rcases H with ⟨c62b0, H⟩ | ⟨c62b0, H⟩
     · simp only [Option.some.injEq, Prod.mk.injEq] at H
       obtain ⟨rfl, rfl, rfl, rfl, rfl⟩ := H
       obtain ⟨hcz65_0, hcz65_1, hfz65_0, hfz65_1⟩ := cz2 BK488.1
       obtain ⟨hcz67_0, hcz67_1, hcz67_2, hfz67_0, hfz67_1, hfz67_2⟩ := cz3 BK480.1
       go_wp2
       refine bodyPost_ret (results_ct rfl _ _ gb480 54 #[.int .i64 3, .int .i64 x10_1, .int .i64 (wrap64 (x2_1 + t489))] (0, 0) _ rfl (PF0 BK480.1) Try.underlying54 rfl (by kernel_rfl)) rfl ?_
       exact ⟨_, by first | rfl | (simp [errW_none, errW_some] <;> rfl) | (simp only [<- hji11]; first | rfl | (simp [errW_none, errW_some] <;> rfl)) | (simp [*, errW_none, errW_some] <;> rfl), by (with_reducible repeat (first | apply R_alloc | apply R_drewN | apply R_drew)); exact R_mono (RQ gb480 2 (RQ gb480 1 (RQ gb480 0 (R_types HO_8.1 BK480.1 (by decide)) _) _) _) (fun _ hk => hk.1), (by first | exact (by (with_reducible repeat (first | apply R_alloc | apply R_drewN | apply R_drew)); exact R_mono (RQ gb480 2 (RQ gb480 1 (RQ gb480 0 (R_types HO_480002.1 BK480.1 (by decide)) _) _) _) (fun _ hk => hk.1.1)) | (simp only [hl480002_1, hl480002_15]; exact (by (with_reducible repeat (first | apply R_alloc | apply R_drewN | apply R_drew)); exact R_mono (RQ gb480 2 (RQ gb480 1 (RQ gb480 0 (R_types HO_480002.1 BK480.1 (by decide)) _) _) _) (fun _ hk => hk.1.1)))), BL HB.1, KL HK.1⟩
     replace H := ifQ H; rcases H with ⟨c68, H⟩ | ⟨c68, H⟩
     · have c68b0 : decide (a0_1 <= (wrap64 (x2_1 + t489))) = true := decide_eq_true c68
       clear c68
       simp only [Option.some.injEq, Prod.mk.injEq] at H
       obtain ⟨rfl, rfl, rfl, rfl, rfl⟩ := H
       obtain ⟨hcz71_0, hcz71_1, hfz71_0, hfz71_1⟩ := cz2 BK488.1
       obtain ⟨hcz73_0, hcz73_1, hcz73_2, hfz73_0, hfz73_1, hfz73_2⟩ := cz3 BK479.1
       obtain ⟨hcz74_0, hcz74_1, hcz74_2, hfz74_0, hfz74_1, hfz74_2⟩ := cz3 BK480.1
       go_wp2
       refine bodyPost_ret (results_ct rfl _ _ gb480 54 #[.int .i64 3, .int .i64 x10_1, .int .i64 (wrap64 (x2_1 + t489))] (0, 0) _ rfl (PF0 BK480.1) Try.underlying54 rfl (by kernel_rfl)) rfl ?_
       exact ⟨_, by first | rfl | (simp [errW_none, errW_some] <;> rfl) | (simp only [<- hji11]; first | rfl | (simp [errW_none, errW_some] <;> rfl)) | (simp [*, errW_none, errW_some] <;> rfl), by (with_reducible repeat (first | apply R_alloc | apply R_drewN | apply R_drew)); exact R_mono (RQ gb480 2 (RQ gb480 1 (RQ gb480 0 (R_types HO_8.1 BK480.1 (by decide)) _) _) _) (fun _ hk => hk.1), (by first | exact (by (with_reducible repeat (first | apply R_alloc | apply R_drewN | apply R_drew)); exact R_mono (RQ gb480 2 (RQ gb480 1 (RQ gb480 0 (R_types HO_480002.1 BK480.1 (by decide)) _) _) _) (fun _ hk => hk.1.1)) | (simp only [hl480002_1, hl480002_15]; exact (by (with_reducible repeat (first | apply R_alloc | apply R_drewN | apply R_drew)); exact R_mono (RQ gb480 2 (RQ gb480 1 (RQ gb480 0 (R_types HO_480002.1 BK480.1 (by decide)) _) _) _) (fun _ hk => hk.1.1)))), BL HB.1, KL HK.1⟩
     have c68b0 : decide (a0_1 <= (wrap64 (x2_1 + t489))) = false := decide_eq_false c68
     clear c68
     have H' := Aside0.mk H
     clear H
     obtain ⟨hcz77_0, hcz77_1, hfz77_0, hfz77_1⟩ := cz2 BK488.1
     obtain ⟨hcz79_0, hcz79_1, hcz79_2, hfz79_0, hfz79_1, hfz79_2⟩ := cz3 BK479.1
     go_wp2
     (try simp only [<- hl480002_1, <- hl480002_15])
     go_roundg kj15
     case measure => have := HK1.1; have := HJ15.1; omega
     case rel => exact ⟨(wrap64 (x2_1 + t489)), (y484), (wrap64 (-t489)), (wrap64 (x10_1 + 1)), (x480002_15), (x481000_1), (x481001_1), (x481002_1), RG, RG, RG, H', ⟨by have := HK1.1; have := HJ15.1; omega⟩, ⟨PR2 HO_8.1 hl480002_1 hl480002_15⟩, ⟨by (try simp only [hl480002_1]); (try simp only [hl480002_15]); (with_reducible repeat (first | apply R_alloc | apply R_drewN | apply R_drew)); exact R_mono HO_480002.1 (fun _ hk => hk.1)⟩, ⟨PB2 BK479.1 hl480002_1 hl480002_15⟩, ⟨PB2 BK480.1 hl480002_1 hl480002_15⟩, ⟨KL HK.1⟩, ⟨BL HB.1⟩⟩
   simp only [Option.some.injEq, Prod.mk.injEq] at H
   obtain ⟨rfl, rfl, rfl, rfl, rfl⟩ := H
   have hnb80 := NB479_480.1
   have hnc80 := NB480_479.1
   obtain ⟨hcz81_0, hcz81_1, hcz81_2, hfz81_0, hfz81_1, hfz81_2⟩ := cz3 BK479.1
   go_wp2_with (first | ((with_reducible refine gate_builtin (b := .append) (xs := #[.tmp 28, .tmp 30]) rfl ?_); at_builtin; refine R_append (Kd.int .i64) (w0 := w0) w0.heap.size rfl (.tmp 28) (.tmp 30) 38 3 (.int .i64 0) 8 rfl Try.underlying38 info3 rfl (by decide) (by omega) u8 x8_1 ji11 [.int .i64 ji11] (fun k_ => (P0_2_ k_ ∨ w.heap.size <= k_)) (fun _ => False) rfl rfl ?aP (fun _ hk => hk.elim) ?aF ?aO ?aB ?aS ?aL ?_; (case aP => exact rfl); (case aB => exact (BL HB.1)); (case aF => exact (fun k_ hk => (.inr (Nat.le_trans (by first | exact HK.1.1 | exact (show Kept w _ (fun k_ => P0_2_ k_) from KL HK.1).1) hk)))); (case aO => exact (PR HO_8.1)); (case aS => exact (bZ HB.1)); (case aL => have := LMc10.1; omega); intro v485 w82 ho hb hg hat; rw [<- Ny484.1] at ho; refine E6 (R_over' (PR HO_480002.1) (R_typed (PR HO_8.1)) (by decide) hg) (bG BK479.1 hg (R_ne HO_8.1 BK479.1 (by decide))) (bG BK480.1 hg (R_ne HO_8.1 BK480.1 (by decide))) (hb) (Kept.of_grown (S := (fun k_ => P0_2_ k_)) hg (KL HK.1) (fun k_ e_ => (HO_8.1.1 k_ e_))) (ho) ?_; clear HO_480002 BK479 BK480 HB HK HO_8; intro HO_480002 BK479 BK480 HB HK HO486; clear ho hb hg hat; obtain ⟨hcz83_0, hcz83_1, hcz83_2, hfz83_0, hfz83_1, hfz83_2⟩ := cz3 BK479.1; have p487 : 0 <= ((ji11) : Int) := OD; have q487 : (ji11) < (x480002_1.length : Int) := OD; obtain ⟨ad487, e487, hx487_0, hx487_1⟩ := at_T83 (R_reads' HO_480002.1).2.2 (ji11) p487 q487; cases e487; replace p487 := eq_true p487; replace q487 := eq_true q487) | ((with_reducible refine gate_dst (N := 12) rfl ?_); refine boxE (cs := #[.int .i64 0, .int .i64 0]) (t := 83) ?_; intro gb488 hg w84 hbox hb; refine E13 (R_below (R_elderB (PR HO_480002.1) gb488 (Nat.le_of_eq hg.symm)) hb) (rB HO486.1 hb) (bB BK479.1 hb) (bB BK480.1 hb) (Kept.below (S := (fun k_ => P0_2_ k_)) (KL HK.1) hb) (bS HB.1 hb) (hbox) ((by rw [hg]; exact (by first | exact HK.1.1 | exact (show Kept w _ (fun k_ => P0_2_ k_) from KL HK.1).1) : w.heap.size <= gb488)) (gwM hg (bZ HB.1) : w0.heap.size <= gb488) (nB BK479.1 hg) (nC BK479.1 hg) (nB BK480.1 hg) (nC BK480.1 hg) ?_; clear HO_480002 HO486 BK479 BK480 HK HB; intro HO_480002 HO486 BK479 BK480 HK HB BK488 GW488 GE488 NB479_488 NB488_479 NB480_488 NB488_480; clear hb hbox hg; have hnb85 := NB488_479.1; have hnc85 := NB479_488.1; have hnb86 := NB488_480.1; have hnc86 := NB480_488.1; obtain ⟨hcz87_0, hcz87_1, hfz87_0, hfz87_1⟩ := cz2 BK488.1) | ((with_reducible refine gate_callee (f := 89) rfl ?_); refine goesL_ (some 40) rfl rfl Try.func89 (by kernel_rfl) rfl #[.agg #[.int .i64 ((rd_T83 x480002_1 (ji11)).f0), .int .i64 ((rd_T83 x480002_1 (ji11)).f1)], .int .i64 x9_1] rfl (by (try simp only [List.map_toArray, List.map_cons, List.map_nil]); first | done | (simp only [hji11]; rfl) | rfl | (simp only [List.length_drop, List.length_take]; rfl)) ?_; (with_reducible refine (impl_GoesTo.calls k1 ((rd_T83 x480002_1 (ji11)).f0) ((rd_T83 x480002_1 (ji11)).f1) x9_1 t489 false _ A14.1).mono ?_); rintro e w88 ⟨rfl, hb⟩; refine ⟨_, rfl, ?_⟩; refine E7 (R_below (by (with_reducible repeat (first | apply R_alloc | apply R_drewN | apply R_drew)); exact (R_mono (RQ gb488 1 (RQ gb488 0 (R_mono HO_480002.1 (fun k_ hk => (⟨hk, hk.2⟩ : _ /\ k_ ≠ gb488))) _) _) (fun _ h_ => h_.1))) hb) (R_below (by (with_reducible repeat (first | apply R_alloc | apply R_drewN | apply R_drew)); exact (R_mono (RQ gb488 1 (RQ gb488 0 (R_types HO486.1 BK488.1 (by decide)) _) _) (fun _ h_ => h_.1))) hb) (blk_below (g := gb479) (o := .cells #[.int .i64 a0_0, .int .i64 a0_1, .slice (some ad487) x480002_1.length co4] 30 (0, 0)) (PF1 NB479_488.1 BK479.1) hb) (blk_below (g := gb480) (o := .cells #[.int .i64 x481000_1, .int .i64 x481001_1, .int .i64 x481002_1] 54 (0, 0)) (PF1 NB480_488.1 BK480.1) hb) (blk_below (g := gb488) (o := .cells #[.int .i64 ((rd_T83 x480002_1 (ji11)).f0), .int .i64 ((rd_T83 x480002_1 (ji11)).f1)] 83 (0, 0)) (PF0 BK488.1) hb) (Kept.below (S := (fun k_ => P0_2_ k_)) (KL HK.1) hb) (bS HB.1 hb) ?_; clear HO_480002 HO486 BK479 BK480 BK488 HK HB; intro HO_480002 HO486 BK479 BK480 BK488 HK HB; (try clear hb); (try clear hk); obtain ⟨hcz89_0, hcz89_1, hcz89_2, hfz89_0, hfz89_1, hfz89_2⟩ := cz3 BK480.1))
   refine bodyPost_ret (results_ct rfl _ _ gb480 54 #[.int .i64 2, .int .i64 x10_1, .int .i64 x2_1] (0, 0) _ rfl (PF0 BK480.1) Try.underlying54 rfl (by kernel_rfl)) rfl ?_
   exact ⟨_, by first | rfl | (simp [errW_none, errW_some] <;> rfl) | (simp only [<- hji11]; first | rfl | (simp [errW_none, errW_some] <;> rfl)) | (simp [*, errW_none, errW_some] <;> rfl), by (with_reducible repeat (first | apply R_alloc | apply R_drewN | apply R_drew)); exact R_mono (RQ gb480 2 (RQ gb480 1 (RQ gb480 0 (R_types HO486.1 BK480.1 (by decide)) _) _) _) (fun _ hk => hk.1), (by first | exact (by (with_reducible repeat (first | apply R_alloc | apply R_drewN | apply R_drew)); exact R_mono (RQ gb480 2 (RQ gb480 1 (RQ gb480 0 (R_types HO_480002.1 BK480.1 (by decide)) _) _) _) (fun _ hk => hk.1.1)) | (simp only [hl480002_1]; exact (by (with_reducible repeat (first | apply R_alloc | apply R_drewN | apply R_drew)); exact R_mono (RQ gb480 2 (RQ gb480 1 (RQ gb480 0 (R_types HO_480002.1 BK480.1 (by decide)) _) _) _) (fun _ hk => hk.1.1)))), BL HB.1, KL HK.1⟩
 simp only [Option.some.injEq, Prod.mk.injEq] at H
 obtain ⟨rfl, rfl, rfl, rfl, rfl⟩ := H
 have hnb90 := NB479_480.1
 have hnc90 := NB480_479.1
 obtain ⟨hcz91_0, hcz91_1, hcz91_2, hfz91_0, hfz91_1, hfz91_2⟩ := cz3 BK479.1
 obtain ⟨hcz92_0, hcz92_1, hcz92_2, hfz92_0, hfz92_1, hfz92_2⟩ := cz3 BK480.1
 go_wp2
 refine bodyPost_ret (results_ct rfl _ _ gb480 54 #[.int .i64 1, .int .i64 a0_0, .int .i64 x2_1] (0, 0) _ rfl (PF0 BK480.1) Try.underlying54 rfl (by kernel_rfl)) rfl ?_
 exact ⟨_, RF, by (with_reducible repeat (first | apply R_alloc | apply R_drewN | apply R_drew)); exact R_mono (RQ gb480 2 (RQ gb480 1 (RQ gb480 0 (R_types HO_8.1 BK480.1 (by decide)) _) _) _) (fun _ hk => hk.1), (by first | exact (by (with_reducible repeat (first | apply R_alloc | apply R_drewN | apply R_drew)); exact R_mono (RQ gb480 2 (RQ gb480 1 (RQ gb480 0 (R_types HO_480002.1 BK480.1 (by decide)) _) _) _) (fun _ hk => hk.1)) | (simp only [hl480002_1]; exact (by (with_reducible repeat (first | apply R_alloc | apply R_drewN | apply R_drew)); exact R_mono (RQ gb480 2 (RQ gb480 1 (RQ gb480 0 (R_types HO_480002.1 BK480.1 (by decide)) _) _) _) (fun _ hk => hk.1)))), BL HB.1, KL HK.1⟩
mutual
def impl_numbersAfter.l0 : Nat -> List (List Int) -> List Int -> List (List Int) -> List Int -> Int -> Int -> Int -> Int -> List (S83) -> Option ((List (List Int)))
 | 0, _, _, _, _, _, _, _, _, _ => none
 | k + 1, x5, x6, x7, x21, x22, x23, x494000, x494001, x494002 => if x23 < x22 then (if 0 <= x23 then (if x23 < (x21.length : Int) then (if 0 <= (shl .i64 1 (x5.length : Int)) then (if (shl .i64 1 (x5.length : Int) : Int).toNat <= 35184372088832 then (if x23 < (x7.length : Int) then ((some (x7.set (x23 : Int).toNat (List.replicate (shl .i64 1 (x5.length : Int) : Int).toNat 0) : List (List Int))).bind fun y501 => (impl_numbersAfter.l1 k x5 x6 y501 x23 (rd x21 x23) x21 x22 x23 ((rd_L3 y501 x23).length : Int) 0 x494000 x494001 x494002)) else (none)) else (none)) else (none)) else (none)) else (none)) else (some x7)
def impl_numbersAfter.l1 : Nat -> List (List Int) -> List Int -> List (List Int) -> Int -> Int -> List Int -> Int -> Int -> Int -> Int -> Int -> Int -> List (S83) -> Option ((List (List Int)))
 | 0, _, _, _, _, _, _, _, _, _, _, _, _, _ => none
 | k + 1, x5, x6, x7, x8, x9, x21, x22, x23, x39, x40, x494000, x494001, x494002 => if x40 < x39 then ((impl_copyBoard.f x494000 x494001 x494002).bind fun bt503 => ((impl_bitList.f k x40 (x5.length : Int)).bind fun t509 => ((impl_setBits.f k bt503.1 bt503.2.1 bt503.2.2 x5 t509).bind fun t512 => ((impl_drop.f k bt503.1 bt503.2.1 t512 x6 x9).bind fun bt513 => (if 0 <= (x5.length : Int) then (if ((x5.length : Int) : Int).toNat <= 35184372088832 then (impl_numbersAfter.l2 k x5 x6 x7 x8 x9 x40 (List.replicate ((x5.length : Int) : Int).toNat 0) x21 x22 x23 x39 x40 (x5.length : Int) 0 x494000 x494001 x494002 bt503.1 bt503.2.1 bt513.2.2.2.2) else (none)) else (none)))))) else (impl_numbersAfter.l0 k x5 x6 x7 x21 x22 (wrap64 (x23 + 1)) x494000 x494001 x494002)
def impl_numbersAfter.l2 : Nat -> List (List Int) -> List Int -> List (List Int) -> Int -> Int -> Int -> List Int -> List Int -> Int -> Int -> Int -> Int -> Int -> Int -> Int -> Int -> List (S83) -> Int -> Int -> List (S83) -> Option ((List (List Int)))
 | 0, _, _, _, _, _, _, _, _, _, _, _, _, _, _, _, _, _, _, _, _ => none
 | k + 1, x5, x6, x7, x8, x9, x10, x12, x21, x22, x23, x39, x40, x60, x61, x494000, x494001, x494002, x509000, x509001, x509002 => if x61 < x60 then (if 0 <= x61 then (if x61 < (x5.length : Int) then (if 0 < ((rd_L3 x5 x61).length : Int) then (if 0 <= (rd (rd_L3 x5 x61) 0) then (if (rd (rd_L3 x5 x61) 0) < (x509002.length : Int) then (if x61 < (x12.length : Int) then (impl_numbersAfter.l2 k x5 x6 x7 x8 x9 x10 (x12.set (x61 : Int).toNat ((rd_T83 x509002 (rd (rd_L3 x5 x61) 0)).f1)) x21 x22 x23 x39 x40 x60 (wrap64 (x61 + 1)) x494000 x494001 x494002 x509000 x509001 x509002) else (none)) else (none)) else (none)) else (none)) else (none)) else (none)) else (if 0 <= x8 then (if x8 < (x7.length : Int) then ((impl_numberOf.f k x12).bind fun t528 => (if 0 <= x10 then (if x10 < ((rd_L3 x7 x8).length : Int) then (impl_numbersAfter.l1 k x5 x6 (x7.set (x8 : Int).toNat ((rd_L3 x7 x8).set (x10 : Int).toNat t528)) x8 x9 x21 x22 x23 x39 (wrap64 (x40 + 1)) x494000 x494001 x494002) else (none)) else (none))) else (none)) else (none))
end
def impl_numbersAfter.g (k : Nat) (a0_0 : Int) (a0_1 : Int) (l0_2 : List (S83)) (l1 : List Int) (l2 : List (List Int)) (l3 : List Int) : Option ((List (List Int))) := if 0 <= (l1.length : Int) then (if ((l1.length : Int) : Int).toNat <= 11728124029610 then (impl_numbersAfter.l0 k l2 l3 (List.replicate ((l1.length : Int) : Int).toNat []) l1 (l1.length : Int) 0 a0_0 a0_1 l0_2) else (none)) else (none)
def impl_numbersAfter.f (k : Nat) (a0_0 : Int) (a0_1 : Int) (l0_2 : List (S83)) (l1 : List Int) : Option ((List (List Int))) := (impl_unitsOf.f k a0_0 a0_1 l0_2).bind fun l2 => ((impl_groupNumbers.f k a0_0 a0_1 l0_2).bind fun l3 => (impl_numbersAfter.g k a0_0 a0_1 l0_2 l1 l2 l3))
theorem impl_numbersAfter.mono_l : ∀ k, (∀ y0 y1 y2 y3 y4 y5 y6 y7 y8, LeO (impl_numbersAfter.l0 k y0 y1 y2 y3 y4 y5 y6 y7 y8) (impl_numbersAfter.l0 (k + 1) y0 y1 y2 y3 y4 y5 y6 y7 y8)) /\ (∀ y0 y1 y2 y3 y4 y5 y6 y7 y8 y9 y10 y11 y12, LeO (impl_numbersAfter.l1 k y0 y1 y2 y3 y4 y5 y6 y7 y8 y9 y10 y11 y12) (impl_numbersAfter.l1 (k + 1) y0 y1 y2 y3 y4 y5 y6 y7 y8 y9 y10 y11 y12)) /\ (∀ y0 y1 y2 y3 y4 y5 y6 y7 y8 y9 y10 y11 y12 y13 y14 y15 y16 y17 y18 y19, LeO (impl_numbersAfter.l2 k y0 y1 y2 y3 y4 y5 y6 y7 y8 y9 y10 y11 y12 y13 y14 y15 y16 y17 y18 y19) (impl_numbersAfter.l2 (k + 1) y0 y1 y2 y3 y4 y5 y6 y7 y8 y9 y10 y11 y12 y13 y14 y15 y16 y17 y18 y19))
 | 0 => by refine ⟨?_, ?_, ?_⟩ <;> (intros; intro r h; first | (simp [impl_numbersAfter.l0] at h; done) | (simp [impl_numbersAfter.l1] at h; done) | (simp [impl_numbersAfter.l2] at h; done))
 | k + 1 => by
  obtain ⟨ih0, ih1, ih2⟩ := impl_numbersAfter.mono_l k
  refine ⟨?_, ?_, ?_⟩ <;> (
   intros
   first | unfold impl_numbersAfter.l0 | unfold impl_numbersAfter.l1 | unfold impl_numbersAfter.l2
   exact LM7 ih0 ih1 ih2 impl_bitList.mono impl_drop.mono impl_numberOf.mono impl_setBits.mono)
theorem impl_numbersAfter.gmono : ∀ a0 a1 a2 a3 a4 a5 k, LeO (impl_numbersAfter.g k a0 a1 a2 a3 a4 a5) (impl_numbersAfter.g (k + 1) a0 a1 a2 a3 a4 a5) := by
 intro a0 a1 a2 a3 a4 a5 k
 obtain ⟨ih0, ih1, ih2⟩ := impl_numbersAfter.mono_l k
 unfold impl_numbersAfter.g
 repeat' first
  | (with_reducible exact ih0 _ _ _ _ _ _ _ _ _)
  | (with_reducible exact ih1 _ _ _ _ _ _ _ _ _ _ _ _ _)
  | (with_reducible exact ih2 _ _ _ _ _ _ _ _ _ _ _ _ _ _ _ _ _ _ _ _)
  | (with_reducible exact impl_bitList.mono _ _ _)
  | (with_reducible exact impl_drop.mono _ _ _ _ _ _)
  | (with_reducible exact impl_numberOf.mono _ _)
  | (with_reducible exact impl_setBits.mono _ _ _ _ _ _)
  | (with_reducible exact LeO.refl _)
  | (with_reducible exact LeO.none _)
  | (with_reducible refine LeO.ite ?_ ?_)
  | (with_reducible refine LeO.bind ?_ (fun _ => ?_))
  | exact ih0 _ _ _ _ _ _ _ _ _
  | exact ih1 _ _ _ _ _ _ _ _ _ _ _ _ _
  | exact ih2 _ _ _ _ _ _ _ _ _ _ _ _ _ _ _ _ _ _ _ _
  | exact impl_bitList.mono _ _ _
  | exact impl_drop.mono _ _ _ _ _ _
  | exact impl_numberOf.mono _ _
  | exact impl_setBits.mono _ _ _ _ _ _
  | exact LeO.none _
  | refine LeO.ite ?_ ?_
  | refine LeO.bind ?_ (fun _ => ?_)
def impl_numbersAfter.T18 : Bool × List (List Nat × List Nat) := (true, [([], []), ([], []), ([], []), ([2], [2]), ([], []), ([], []), ([4, 5], [4, 5]), ([6], [6]), ([7], [7]), ([8], [8]), ([3, 9], [3, 9]), ([10], [10]), ([11], [11]), ([0, 1, 0, 1, 2, 3, 4, 5, 6, 7, 8, 9, 10, 11, 12], [0, 1]), ([13, 12, 0, 1, 2, 3, 4, 5, 6, 7, 8, 9, 10, 11, 12], [12, 13])])
def impl_numbersAfter.B18 : List Nat := [0, 0, 0, 4, 0, 0, 48, 112, 240, 496, 1020, 2044, 4092, 8191, 16383]
theorem impl_numbersAfter.tab18 : rtab .any (opsOf Try.f48 18) = impl_numbersAfter.T18 := by kernel_rfl
theorem impl_numbersAfter.bits18 : waitsOk impl_numbersAfter.T18.2 impl_numbersAfter.B18 = true := by kernel_rfl
def impl_numbersAfter.T20 : Bool × List (List Nat × List Nat) := (true, [([], []), ([], []), ([0, 1], [0, 1]), ([2], [2]), ([], []), ([], []), ([5], [5]), ([3, 4, 0, 1, 2, 3, 4, 5, 6], [3, 4]), ([7, 6, 6, 0, 1, 2, 3, 4, 5, 6], [6, 7])])
def impl_numbersAfter.B20 : List Nat := [0, 0, 3, 7, 0, 0, 32, 127, 255]
theorem impl_numbersAfter.tab20 : rtab .any (opsOf Try.f48 20) = impl_numbersAfter.T20 := by kernel_rfl
theorem impl_numbersAfter.bits20 : waitsOk impl_numbersAfter.T20.2 impl_numbersAfter.B20 = true := by kernel_rfl
theorem impl_numbersAfter.mono : ∀ a0_ a1_ a2_ a3_ k, LeO (impl_numbersAfter.f k a0_ a1_ a2_ a3_) (impl_numbersAfter.f (k + 1) a0_ a1_ a2_ a3_) := by
 intro a0_ a1_ a2_ a3_ k
 unfold impl_numbersAfter.f
 refine LeO.bind (impl_unitsOf.mono _ _ _ _) (fun _ => ?_)
 refine LeO.bind (impl_groupNumbers.mono _ _ _ _) (fun _ => ?_)
 exact impl_numbersAfter.gmono _ _ _ _ _ _ _
theorem impl_numbersAfter.calls (k : Nat) (a0_0 : Int) (a0_1 : Int) (A0_2 : Option Addr) (c0_2 : Nat) (l0_2 : List (S83)) (A1 : Option Addr) (c1 : Nat) (l1 : List Int) (r : List (List Int)) (w : World) (hr0_2 : Kd.C k83 w A0_2 l0_2.length l0_2) (hc0_2 : l0_2.length <= c0_2) (hr1 : Kd.C (Kd.int .i64) w A1 l1.length l1) (hc1 : l1.length <= c1) (h : impl_numbersAfter.f k a0_0 a0_1 l0_2 l1 = some r) :
 Calls Try.prog 48 #[.agg #[.int .i64 a0_0, .int .i64 a0_1, .slice A0_2 l0_2.length c0_2], .slice A1 l1.length c1] w fun e w' => ∃ v0_ : Value, e = .returned (v0_) /\ Kd.S (Kd.slice 3 (Kd.int .i64)) 38 w' w.heap.size (fun _ => True) v0_ r /\ Below w.heap.size w w' := by
 have hu30 := Try.underlying30
 have HR0_2 := Aside0.mk hr0_2
 have HC0_2 := Aside0.mk hc0_2
 clear hr0_2 hc0_2
 have HR1 := Aside0.mk hr1
 have HC1 := Aside0.mk hc1
 clear hr1 hc1
 have HB := Aside0.mk (Below.refl w.heap.size w)
 have H := h
 clear h
 unfold impl_numbersAfter.f at H
 replace H := bindA H; obtain ⟨l2, AL0, H⟩ := H
 replace H := bindA H; obtain ⟨l3, AL1, H⟩ := H
 unfold impl_numbersAfter.g at H
 replace H := ifP H; obtain ⟨c5, H⟩ := H
 have c5b0 := eq_true c5
 have c5b1 := decide_eq_true c5
 clear c5
 replace H := ifP H; obtain ⟨c6, H⟩ := H
 have c6b0 := eq_true c6
 have c6b1 := decide_eq_true c6
 clear c6
 generalize hy494 : ((List.replicate ((l1.length : Int) : Int).toNat []) : List (List Int)) = y494 at H
 have Ny494 := Aside0.mk hy494.symm; clear hy494
 have H' := Aside0.mk H
 clear H
 go_enter Try.func48, Try.ntmps48
 go_wp2_with (first | ((with_reducible refine gate_callee (f := 61) rfl ?_); refine goesM (N := some 15) #[.agg #[.int .i64 a0_0, .int .i64 a0_1, .slice A0_2 l0_2.length c0_2]] Try.func61 ?_; (with_reducible refine (impl_unitsOf.calls k a0_0 a0_1 _ _ l0_2 l2 _ ?side1 ?side2 AL0.1).mono ?_); (case side1 => exact CB (C_below HR0_2.1 HB.1)); (case side2 => exact HC0_2.1); rintro e wl0 ⟨vl0, rfl, ho0, hb⟩; refine ⟨_, rfl, ?_⟩; obtain ⟨A2, c2, el2⟩ := S_slice ho0; subst el2; refine E4 (S_reads' ho0).2.2 (S_reads' ho0).2.1 (bB BK493.1 hb) (bS HB.1 hb) ?_; clear BK493 HB; intro HR2 HC2 BK493 HB; clear hb ho0; obtain ⟨hczl0_0, hczl0_1, hczl0_2, hfzl0_0, hfzl0_1, hfzl0_2⟩ := cz3 BK493.1) | ((with_reducible refine gate_callee (f := 74) rfl ?_); refine goesM (N := some 17) #[.agg #[.int .i64 a0_0, .int .i64 a0_1, .slice A0_2 l0_2.length c0_2]] Try.func74 ?_; (with_reducible refine (impl_groupNumbers.calls k a0_0 a0_1 _ _ l0_2 l3 _ ?side1 ?side2 AL1.1).mono ?_); (case side1 => exact CB (C_below HR0_2.1 HB.1)); (case side2 => exact HC0_2.1); rintro e w ⟨vl1, rfl, ho0, hb⟩; refine ⟨_, rfl, ?_⟩; obtain ⟨A3, c3, el3⟩ := R_slice ho0; subst el3; refine E8 (bS HB.1 hb) (C_below HR0_2.1 (bS HB.1 hb)) (C_below HR1.1 (bS HB.1 hb)) (C_below HR2.1 hb) (R_reads' ho0).2.2 (R_reads' ho0).2.1 (bB BK493.1 hb) (Below.refl w.heap.size w) ?_; clear HR0_2 HR1 HR2 BK493 HB; intro HW HR0_2 HR1 HR2 HR3 HC3 BK493 HB; clear hb ho0) | ((with_reducible refine gate_dst (N := 2) rfl ?_); refine boxE (cs := #[.int .i64 a0_0, .int .i64 a0_1, .slice A0_2 l0_2.length c0_2]) (t := 30) ?_; intro gb493 hg w7 hbox hb; refine E4b HB.1 hg hbox hb ?_; clear HB; intro HB BK493 GW493 GE493; clear hb hbox hg; obtain ⟨hczb_0, hczb_1, hczb_2, hfzb_0, hfzb_1, hfzb_2⟩ := cz3 BK493.1) | ((with_reducible refine gate_dst (N := 20) rfl ?_); refine S_make (Kd.slice 3 (Kd.int .i64)) _ 38 rfl (N := 20) rfl 60 _ _ rfl (l1.length : Int) rfl rfl Try.underlying60 (.slice none 0 0) 24 info38 rfl (by decide) (by omega) [] (ok := fun _ => True) (okp := fun _ => True) ⟨_, rfl, R_nil _ _ _ _ _⟩ (fun _ hk => hk) trivial (OD) (Nat.le_trans (Nat.mul_le_mul_right _ (OD : (l1.length : Int).toNat <= 11728124029610)) (by omega)) (Below.refl _ _) (Nat.le_refl _) ?_; intro v495 w8 ho9 hb hg_ hnew_; clear hg_ hnew_; (first | rw [<- Ny494.1] at ho9 | (simp only [Int.reduceToNat] at ho9; rw [<- Ny494.1] at ho9)); refine E3 (S_lower ho9 (bZ HB.1)) (bB BK493.1 hb) (bS HB.1 hb) ?_; clear BK493 HB; intro HO496 BK493 HB; clear hb ho9))
 go_loopg [23] k (fun kq v23 w' => ∃ (x7_1 : List (List Int)) (x23_1 : Int), v23 = .int .i64 x23_1 /\ Aside0 (impl_numbersAfter.l0 kq l2 l3 x7_1 l1 (l1.length : Int) x23_1 a0_0 a0_1 l0_2 = some r) /\ Aside0 (kq <= k) /\ Aside0 (Kd.S (Kd.slice 3 (Kd.int .i64)) 38 w' w.heap.size (fun _ => True) v495 x7_1) /\ Aside0 (w'.heap[gb493]? = some (.cells #[.int .i64 a0_0, .int .i64 a0_1, (.slice A0_2 l0_2.length c0_2)] 30 (0, 0))) /\ Aside0 (Below w.heap.size w w'))
 case atStart => exact ⟨(y494), (0), RG, H', ⟨Nat.le_refl _⟩, ⟨PS HO496.1⟩, ⟨PB BK493.1⟩, ⟨BL HB.1⟩⟩
 clear H'
 try clear c1; try clear c2; try clear c3; clear c5b0 c5b1 c6b0 c6b1
 obtain ⟨x7_1, x23_1, rfl, HA, HK1, HO_7, BK493, HB⟩ := hrel
 cases gk with
 | zero => exact absurd HA.1 (by simp [impl_numbersAfter.l0])
 | succ k1 => ?_
 have H := HA.1
 clear HA
 simp only [impl_numbersAfter.l0] at H
 replace H := ifB H; rcases H with ⟨c10b0, H⟩ | ⟨c10b0, H⟩
 · replace H := ifN H; obtain ⟨c11b0, H⟩ := H
   replace H := ifN H; obtain ⟨c12b0, H⟩ := H
   obtain ⟨ji13, hji13⟩ : ∃ j_ : Int, (shl .i64 1 (l2.length : Int)) = j_ := ⟨_, rfl⟩
   replace H : (if 0 <= (ji13) then (if (ji13 : Int).toNat <= 35184372088832 then (if x23_1 < (x7_1.length : Int) then ((some (x7_1.set (x23_1 : Int).toNat (List.replicate (ji13 : Int).toNat 0) : List (List Int))).bind fun y501 => (impl_numbersAfter.l1 k1 l2 l3 y501 x23_1 (rd l1 x23_1) l1 (l1.length : Int) x23_1 ((rd_L3 y501 x23_1).length : Int) 0 a0_0 a0_1 l0_2)) else (none)) else (none)) else (none)) = some r := by first | (rw [hji13] at H; exact H) | (simp only [hji13] at H ⊢; exact H)
   have hji13_ : (IntKind.i64.wrap (1 * 2 ^ min (l2.length : Int).toNat 64)) = ji13 := hji13
   have hji13z : (l2.length : Int) <= 64 -> (IntKind.i64.wrap (1 * 2 ^ (l2.length : Int).toNat)) = ji13 := shl_small hji13
   have hji13p : (IntKind.i64.wrap (1 * 2 ^ min l2.length 64)) = ji13 := hji13_
   have hji13q : (l2.length : Int) <= 64 -> (IntKind.i64.wrap (1 * 2 ^ l2.length)) = ji13 := hji13z
   have hji13r : (IntKind.i64.wrap (2 ^ min l2.length 64)) = ji13 := by have h_ := hji13p; rw [Int.one_mul] at h_; exact h_
   have hji13s : (l2.length : Int) <= 64 -> (IntKind.i64.wrap (2 ^ l2.length)) = ji13 := fun hle_ => by have h_ := hji13q hle_; rw [Int.one_mul] at h_; exact h_
   have hji13u : (IntKind.i64.wrap (2 ^ min (l2.length : Int).toNat 64)) = ji13 := by have h_ := hji13_; rw [Int.one_mul] at h_; exact h_
   have hji13v : (l2.length : Int) <= 64 -> (IntKind.i64.wrap (2 ^ (l2.length : Int).toNat)) = ji13 := fun hle_ => by have h_ := hji13z hle_; rw [Int.one_mul] at h_; exact h_
   have hji13y : (wrap64 (1 * 2 ^ min (l2.length : Int).toNat 64)) = ji13 := (i64_w _).symm.trans hji13_
   have hji13x : (l2.length : Int) <= 64 -> (wrap64 (1 * 2 ^ (l2.length : Int).toNat)) = ji13 := fun h_ => (i64_w _).symm.trans (hji13z h_)
   replace H := ifP H; obtain ⟨c14, H⟩ := H
   have c14b0 := eq_true c14
   have c14b1 := decide_eq_true c14
   clear c14
   replace H := ifP H; obtain ⟨c15, H⟩ := H
   have c15b0 := eq_true c15
   have c15b1 := decide_eq_true c15
   clear c15
   generalize hy498 : ((List.replicate (ji13 : Int).toNat 0) : List Int) = y498 at H
   have Ny498 := Aside0.mk hy498.symm; clear hy498
   replace H := ifN H; obtain ⟨c16b0, H⟩ := H
   replace H := nameB H; obtain ⟨y501, Ny501, H⟩ := H
   have H' := Aside0.mk H
   clear H
   have p497 : 0 <= (x23_1 : Int) := OD
   have q497 : x23_1 < (l1.length : Int) := OD
   obtain ⟨ad497, e497, hx497_0⟩ := Kd.at_int HR1.1 x23_1 p497 q497
   cases e497
   replace hx497_0 := (HB.1.cell (World.block_lt_of_cell? w _ hx497_0)).trans hx497_0
   replace p497 := eq_true p497
   replace q497 := eq_true q497
   go_wp2_with (first | ((with_reducible refine gate_dst (N := 33) rfl ?_); refine R_make (Kd.int .i64) _ 3 rfl (N := 33) rfl 38 _ _ rfl ji13 rfl rfl Try.underlying38 (.int .i64 0) 8 info3 rfl (by decide) (by omega) 0 (ok := fun _ => True) (okp := fun _ => True) rfl (fun _ hk => hk) trivial (OD) (Nat.le_trans (Nat.mul_le_mul_right _ (OD : ji13.toNat <= 35184372088832)) (by omega)) (Below.refl _ _) (Nat.le_refl _) ?_; intro v499 w18 ho19 hb hg_ hnew_; clear hg_ hnew_; (first | rw [<- Ny498.1] at ho19 | (simp only [Int.reduceToNat] at ho19; rw [<- Ny498.1] at ho19)); refine E4 (S_elder' (PS HO_7.1) (R_base ho19) hb) (R_lower ho19 (bZ HB.1)) (bB BK493.1 hb) (bS HB.1 hb) ?_; clear HO_7 BK493 HB; intro HO_7 HO500 BK493 HB; clear hb ho19; obtain ⟨As499, cs499, es499⟩ := R_slice HO500.1; subst es499; have p17 : 0 <= (x23_1 : Int) := OD; have q17 : (x23_1 : Int) < ((x7_1.length : Int) : Int) := OD; obtain ⟨go17, co17, eo17, gb17, gl17, cl17, HG17⟩ := S_form HO_7.1 (by omega); (first | cases eo17 | (injection eo17 with ea_ en_ ec_; (first | subst ea_ | (injection ea_ with ea_; subst ea_)); subst ec_; clear en_)); have GB17 := Aside0.mk gb17; have GG17 := Aside0.mk HG17; clear gb17 gl17 HG17; obtain ⟨_, ce17, hcl17, hM17, hcc17, hfr17, _, _⟩ := S_elem HO_7.1 [] (x23_1 : Int) p17 q17; obtain ⟨ve17_0, rfl, ge17_0⟩ := hM17; have hx17_0 := hcc17 0 _ rfl; have hf17_0 := hfr17 0; (try simp only [show ((Kd.slice 3 (Kd.int .i64))).sz = 1 from rfl, Nat.mul_one, Nat.add_zero] at hx17_0); (try simp only [show ((Kd.slice 3 (Kd.int .i64))).sz = 1 from rfl, Nat.mul_one, Nat.add_zero] at hf17_0); (try clear hM17); clear hcl17 hcc17 hfr17; replace p17 := eq_true p17; replace q17 := eq_true q17; have n_ := Aside0.mk (S_mono (ok' := (fun k_ => some k_ ≠ ((.slice As499 y498.length cs499) : Value).ownBlock)) HO_7.1 (fun k_ hk => hk.2)); clear HO_7; have HO_7 := n_; clear n_; have HX20 := Aside0.mk (show Kd.S (Kd.slice 3 (Kd.int .i64)) 38 w18 w.heap.size (fun k_ => ((fun _ => True)) k_ /\ ¬ ((fun k_ => some k_ = ((.slice As499 y498.length cs499) : Value).ownBlock)) k_) (.slice (some ⟨go17, 0, none⟩) x7_1.length co17) x7_1 from (SPE (S_mono HO_7.1 (fun k_ hk => ⟨trivial, fun e_ => hk e_⟩)))); obtain ⟨oki20, ce20, hcl20, hM20, hcc20, hfr20, hoki20, hH20⟩ := S_elem HX20.1 [] (x23_1 : Int) (OD) (by have h_ : (x23_1 : Int) < ((x7_1.length : Int) : Int) := OD; first | exact h_ | (have e_ := (S_reads' HO_7.1).1; omega) | simpa using h_); obtain ⟨ve20_0, rfl, ge20_0⟩ := hM20; have HP20 := S_seg hH20 (OD) (by have h_ : (x23_1 : Int) < ((x7_1.length : Int) : Int) := OD; first | exact h_ | (have e_ := (S_reads' HO_7.1).1; omega) | simpa using h_) (seg := [(.slice As499 y498.length cs499)]) (j := 0) (show 1 <= 1 from by decide) (x' := y498) (M_row (R_mono (R_tight rfl (R_mono (ok' := fun k_ => ((fun _ => True)) k_ /\ k_ ≠ go17) (R_apart' (HO500.1) (S_typed HO_7.1) (by decide)) (fun k_ hk => ⟨trivial, fun e_ => (hk.2) (by rw [e_]; rfl)⟩))) (fun _ h_ => Or.inr (h_)))) (fun _ hk => hk) (fun k_ hk_ => ((R_mono (ok' := fun k_ => ((fun _ => True)) k_ /\ k_ ≠ go17) (R_apart' (HO500.1) (S_typed HO_7.1) (by decide)) (fun k_ hk => ⟨trivial, fun e_ => (hk.2) (by rw [e_]; rfl)⟩))).1 k_ hk_.symm); have hx20_0 := hcc20 0 _ rfl; (try simp only [show ((Kd.slice 3 (Kd.int .i64))).sz = 1 from rfl, Nat.mul_one, Nat.add_zero] at hx20_0); have hf20_0 := hfr20 0; (try simp only [show ((Kd.slice 3 (Kd.int .i64))).sz = 1 from rfl, Nat.mul_one, Nat.add_zero] at hf20_0); clear hcl20 hcc20 hfr20 hoki20 hH20; (try simp only [show ((Kd.slice 3 (Kd.int .i64))).sz = 1 from rfl, Nat.mul_one, Nat.add_zero] at HP20)) | ((with_reducible refine gate_store (t := 38) (p := 34) rfl ?_); refine storeE (t := 38) (p := 34) (w1 := (w18.setCell ⟨go17, (x23_1 : Int).toNat, none⟩ ((.slice As499 y498.length cs499)))) ?_; intro w21 hw; have hg : w18.grownBy w21 (some go17) := (by rw [hw]; exact HP20.2); have hp_ : Kd.S (Kd.slice 3 (Kd.int .i64)) 38 w21 w.heap.size (fun _ => True) (.slice (some ⟨go17, 0, none⟩) x7_1.length co17) y501 := (by rw [hw, Ny501.1]; exact HP20.1); clear HP20; refine E3 (hp_) (bG BK493.1 hg (S_ne HO_7.1 BK493.1 (by decide))) ((by rw [hw]; exact below_set (HB.1) GB17.1 : Below w.heap.size w w21)) ?_; clear HO_7 BK493 HB HO500; intro HO_7 BK493 HB; clear hg hw hp_; have p502 : 0 <= (x23_1 : Int) := OD; have q502 : x23_1 < (y501.length : Int) := (by have h_ : (x23_1 : Int) < ((x7_1.length : Int) : Int) := OD; first | (have e_ := (S_reads' HO_7.1).1; omega) | simpa only [Ny501.1, List.length_set] using h_); have ql502 : ((x23_1 : Int) < ((x7_1.length : Int) : Int)) = True := eq_true (OD); obtain ⟨ad502, A502_0, c502_0, e502, hx502_0, hl502_0, hi502_0⟩ := at_L3 (S_reads' HO_7.1).2.2 x23_1 p502 q502; obtain rfl : (⟨go17, 0, none⟩ : Addr) = ad502 := (by injection e502); obtain ⟨ce502, hce502, hMe502, hcc502⟩ := S_get HO_7.1 [] x23_1 p502 (by first | exact q502 | exact OD | (have e_ := (S_reads' HO_7.1).1; omega)); obtain ⟨ve502_0, rfl, ge502_0⟩ := hMe502; have hv502_0 := hcc502 0 _ rfl; rw [Nat.add_zero, show ((Kd.slice 3 (Kd.int .i64))).sz = 1 from rfl, Nat.mul_one] at hv502_0; replace hv502_0 := Option.some.inj (hv502_0.symm.trans hx502_0); rw [hv502_0] at ge502_0; have HL502_0 := Aside0.mk (show Kd.R (Kd.int .i64) 3 _ _ _ _ (rd_L3 y501 x23_1) from ge502_0); clear hv502_0 ge502_0; have HX502_0 := Aside0.mk hx502_0; clear hcc502 hce502; (first | simp only [add_plain] at hx502_0 | simp only [add_at] at hx502_0 | simp only [Addr.add, Nat.zero_add] at hx502_0 | skip); have HR502_0 := Aside0.mk hi502_0; have HC502_0 := Aside0.mk hl502_0; clear hi502_0 hl502_0; replace p502 := eq_true p502; replace q502 := eq_true q502))
   go_loopg [40] k1 (fun kq v40 w' => ∃ (x7_2 : List (List Int)) (x40_2 : Int), v40 = .int .i64 x40_2 /\ Aside0 (impl_numbersAfter.l1 kq l2 l3 x7_2 x23_1 (rd l1 x23_1) l1 (l1.length : Int) x23_1 ((rd_L3 y501 x23_1).length : Int) x40_2 a0_0 a0_1 l0_2 = some r) /\ Aside0 (kq <= k1) /\ Aside0 (Kd.S (Kd.slice 3 (Kd.int .i64)) 38 w' w.heap.size (fun _ => True) (.slice (some ⟨go17, 0, none⟩) x7_1.length co17) x7_2) /\ Aside0 (w'.heap[gb493]? = some (.cells #[.int .i64 a0_0, .int .i64 a0_1, (.slice A0_2 l0_2.length c0_2)] 30 (0, 0))) /\ Aside0 (Below w.heap.size w w'))
   case atStart => exact ⟨(y501), (0), RG, H', ⟨Nat.le_refl _⟩, ⟨PS HO_7.1⟩, ⟨PB BK493.1⟩, ⟨BL HB.1⟩⟩
   clear H'
   try clear p17; try clear q17; try clear hx17_0; try clear hx20_0; try clear hx497_0; try clear hx502_0; try clear p497; try clear p502; try clear q497; try clear q502; clear c10b0 c11b0 c12b0 c14b0 c14b1 c15b0 c15b1 c16b0
   obtain ⟨x7_2, x40_2, rfl, HA, HK2, HO_7, BK493, HB⟩ := hrel
   have hl7_2 := (S_reads' HO_7.1).1
   rw [hl7_2] at HO_7
   (try simp only [hl7_2])
   (try simp only [hl7_2] at BK493)
   cases gk with
   | zero => exact absurd HA.1 (by simp [impl_numbersAfter.l1])
   | succ k2 => ?_
   have H := HA.1
   clear HA
   simp only [impl_numbersAfter.l1] at H
   replace H := ifB H; rcases H with ⟨c22b0, H⟩ | ⟨c22b0, H⟩
   · replace H := bindA H; obtain ⟨⟨t503, t504, t505⟩, A23, H⟩ := H
     dsimp only at H
     replace H := bindA H; obtain ⟨t509, A24, H⟩ := H
     replace H := bindA H; obtain ⟨t512, A25, H⟩ := H
     replace H := bindA H; obtain ⟨⟨t513, t514, t515, t516, t519⟩, A26, H⟩ := H
     dsimp only at H
     replace H := ifP H; obtain ⟨c27, H⟩ := H
     have c27b0 := eq_true c27
     have c27b1 := decide_eq_true c27
     clear c27
     replace H := ifP H; obtain ⟨c28, H⟩ := H
     have c28b0 := eq_true c28
     have c28b1 := decide_eq_true c28
     clear c28
     generalize hy520 : ((List.replicate ((l2.length : Int) : Int).toNat 0) : List Int) = y520 at H
     have Ny520 := Aside0.mk hy520.symm; clear hy520
     have H' := Aside0.mk H
     clear H
     obtain ⟨hcz29_0, hcz29_1, hcz29_2, hfz29_0, hfz29_1, hfz29_2⟩ := cz3 BK493.1
     try go_wp2_with (first | ((with_reducible refine gate_callee (f := 75) rfl ?_); refine goesM (N := (some 44)) #[.agg #[.int .i64 a0_0, .int .i64 a0_1, .slice A0_2 l0_2.length c0_2]] Try.func75 ?_; (with_reducible refine (impl_copyBoard.calls a0_0 a0_1 _ _ l0_2 t503 t504 t505 _ ?side1 ?side2 A23.1).mono ?_); (case side1 => exact CB (C_below HR0_2.1 HB.1)); (case side2 => exact HC0_2.1); rintro e w30 ⟨v506, rfl, ho0, hb⟩; refine ⟨_, rfl, ?_⟩; refine E4 (sB HO_7.1 hb) (R_lower ho0 (bZ HB.1)) (bB BK493.1 hb) (bS HB.1 hb) ?_; clear HO_7 BK493 HB; intro HO_7 HO507 BK493 HB; (try clear hb); (try clear ho0)) | ((with_reducible refine gate_dst (N := 11) rfl ?_); refine boxE (cs := #[.int .i64 0, .int .i64 0, .slice none 0 0]) (t := 30) ?_; intro gb508 hg w31 hbox hb; refine E9 (sB HO_7.1 hb) (rB HO507.1 hb) (bB BK493.1 hb) (bS HB.1 hb) (hbox) (gX HB.1 hg) (gX HB.1 hg) (nB BK493.1 hg) (nC BK493.1 hg) ?_; clear HO_7 HO507 BK493 HB; intro HO_7 HO507 BK493 HB BK508 GW508 GE508 NB493_508 NB508_493; clear hb hbox hg; have hnb32 := NB508_493.1; have hnc32 := NB493_508.1; obtain ⟨hcz33_0, hcz33_1, hcz33_2, hfz33_0, hfz33_1, hfz33_2⟩ := cz3 BK508.1; obtain ⟨Ao34, co34, eo34⟩ := R_slice HO507.1; subst eo34))
     have n_ : (fun w35 : World => (Kd.S (Kd.slice 3 (Kd.int .i64)) 38 w35 w.heap.size (fun _ => True) (.slice (some ⟨go17, 0, none⟩) x7_2.length co17) x7_2) /\ (Kd.R k83 83 w35 w.heap.size (fun _ => True) (.slice Ao34 t505.length co34) t505) /\ (w35.heap[gb493]? = some (.cells #[.int .i64 a0_0, .int .i64 a0_1, .slice A0_2 l0_2.length c0_2] 30 (0, 0))) /\ (w35.heap[gb508]? = some (.cells #[.int .i64 t503, .int .i64 t504, .slice Ao34 t505.length co34] 30 (0, 0))) /\ (Below w.heap.size w w35)) (((w31.setCell ⟨gb508, 0, none⟩ (.int .i64 t503)).setCell ⟨gb508, 1, none⟩ (.int .i64 t504)).setCell ⟨gb508, 2, none⟩ (.slice Ao34 t505.length co34)) := ⟨by (with_reducible repeat (first | apply S_alloc | apply S_drewN | apply S_drew)); exact S_mono (SQ gb508 2 (SQ gb508 1 (SQ gb508 0 (S_types HO_7.1 BK508.1 (by decide)) _) _) _) (fun _ hk => trivial), by (with_reducible repeat (first | apply R_alloc | apply R_drewN | apply R_drew)); exact R_mono (RQ gb508 2 (RQ gb508 1 (RQ gb508 0 (R_types HO507.1 BK508.1 (by decide)) _) _) _) (fun _ hk => trivial), by (with_reducible repeat (first | refine blk_drewN ?_ _ | refine blk_drew ?_ | refine blk_alloc ?_ _)); refine blk_far ?_ NB493_508.1 _; (with_reducible repeat (first | refine blk_drewN ?_ _ | refine blk_drew ?_ | refine blk_alloc ?_ _)); refine blk_far ?_ NB493_508.1 _; (with_reducible repeat (first | refine blk_drewN ?_ _ | refine blk_drew ?_ | refine blk_alloc ?_ _)); refine blk_far ?_ NB493_508.1 _; (with_reducible repeat (first | refine blk_drewN ?_ _ | refine blk_drew ?_ | refine blk_alloc ?_ _)); exact BK493.1, by (with_reducible repeat (first | refine blk_drewN ?_ _ | refine blk_drew ?_ | refine blk_alloc ?_ _)); refine blk_put (cs := #[.int .i64 t503, .int .i64 t504, .slice none 0 0]) ?_ 2 _ rfl; (with_reducible repeat (first | refine blk_drewN ?_ _ | refine blk_drew ?_ | refine blk_alloc ?_ _)); refine blk_put (cs := #[.int .i64 t503, .int .i64 0, .slice none 0 0]) ?_ 1 _ rfl; (with_reducible repeat (first | refine blk_drewN ?_ _ | refine blk_drew ?_ | refine blk_alloc ?_ _)); refine blk_put (cs := #[.int .i64 0, .int .i64 0, .slice none 0 0]) ?_ 0 _ rfl; (with_reducible repeat (first | refine blk_drewN ?_ _ | refine blk_drew ?_ | refine blk_alloc ?_ _)); exact BK508.1, BL HB.1⟩
     (try clear HO_7)
     (try clear HO507)
     (try clear BK493)
     (try clear BK508)
     (try clear HB)
     generalize (((w31.setCell ⟨gb508, 0, none⟩ (.int .i64 t503)).setCell ⟨gb508, 1, none⟩ (.int .i64 t504)).setCell ⟨gb508, 2, none⟩ (.slice Ao34 t505.length co34)) = w35 at n_ ⊢
     obtain ⟨h0_, h1_, h2_, h3_, h4_⟩ := n_
     refine E5 h0_ h1_ h2_ h3_ h4_ ?_
     clear h0_ h1_ h2_ h3_ h4_
     intro HO_7 HO507 BK493 BK508 HB
     refine E5 (S_drew HO_7.1) (R_drew HO507.1) (blk_drew BK493.1) (blk_drew BK508.1) (below_drew1 HB.1) ?_
     clear HO_7 HO507 BK493 BK508 HB
     intro HO_7 HO507 BK493 BK508 HB
     refine start_ (n := 7) (S := fun w' => w'.cell? ⟨gb508, 0, none⟩ = some (.int .i64 t503) /\ w'.cell? ⟨gb508, 1, none⟩ = some (.int .i64 t504) /\ w'.cell? ⟨gb508, 2, none⟩ = some (.slice Ao34 t505.length co34)) (ds := []) #[Zz,Zz,Zz,Zz,Zz,Zz,Zz] (by kernel_rfl) rfl rfl ⟨(blk_cell BK508.1 0).trans rfl, (blk_cell BK508.1 1).trans rfl, (blk_cell BK508.1 2).trans rfl⟩ (fun hHeld => ?_)
     generalize w35.drew = w36 at HO_7 HO507 BK493 BK508 HB hHeld ⊢
     refine pure_ (i := 1) (N := some 46) (v := ?_) (a' := ?_) #[Zz,Yy,Zz,Zz,Zz,Zz,Zz] rfl rfl (by kernel_rfl) (fun _ _ _ h => h) (Or.inl ⟨by rfl, ?_⟩) ?_ ?_
     rotate_left
     · intro w'
       go_simp
       with_reducible rfl
     rotate_left
     · simp only [Act.put, List.setIfInBounds_toArray, List.set_cons_zero, List.set_cons_succ, i64_w, i32_w]
       rfl
     refine pure_ (i := 2) (N := some 47) (v := ?_) (a' := ?_) #[Zz,Yy,Yy,Zz,Zz,Zz,Zz] rfl rfl (by kernel_rfl) (fun _ _ _ h => h) (Or.inl ⟨by rfl, ?_⟩) ?_ ?_
     rotate_left
     · intro w'
       go_simp
       with_reducible rfl
     rotate_left
     · simp only [Act.put, List.setIfInBounds_toArray, List.set_cons_zero, List.set_cons_succ, i64_w, i32_w]
       rfl
     refine pure_ (i := 3) (N := some 48) (v := ?_) (a' := ?_) #[Zz,Yy,Yy,Yy,Zz,Zz,Zz] rfl rfl (by kernel_rfl) (fun _ _ _ h => h) (Or.inl ⟨by rfl, ?_⟩) ?_ ?_
     rotate_left
     · intro w'
       go_simp
       with_reducible rfl
     rotate_left
     · simp only [Act.put, List.setIfInBounds_toArray, List.set_cons_zero, List.set_cons_succ, i64_w, i32_w]
       rfl
     refine pure_ (i := 4) (N := some 49) (v := ?_) (a' := ?_) #[Zz,Yy,Yy,Yy,Yy,Zz,Zz] rfl rfl (by kernel_rfl) (fun _ _ _ h => h) (Or.inl ⟨by rfl, ?_⟩) ?_ ?_
     rotate_left
     · intro w'
       go_simp
       with_reducible rfl
     rotate_left
     · simp only [Act.put, List.setIfInBounds_toArray, List.set_cons_zero, List.set_cons_succ, i64_w, i32_w]
       rfl
     refine takeF 0 (N := some 45) hHeld ?_
     refine one_ (i := 5) (N := some 50) #[Yy,Yy,Yy,Yy,Yy,Yy,Zz] rfl rfl (by kernel_rfl) (by decide) (fun K hK => ?_)
     refine goes_ Try.func77 (by kernel_rfl) rfl #[.int .i64 x40_2, .int .i64 (l2.length : Int)] (by rfl) rfl rfl (by (try simp only [List.map_toArray, List.map_cons, List.map_nil]); first | done | rfl | (simp only [List.length_drop, List.length_take]; rfl)) ?_
     with_reducible refine (impl_bitList.calls k2 x40_2 (l2.length : Int) t509 _ A24.1).mono ?_
     rintro e w37 ⟨v510, rfl, ho0, hb⟩
     refine ⟨_, rfl, ?_⟩
     refine E6 (S_elder' (PS HO_7.1) (R_base ho0) hb) (rB HO507.1 hb) (R_lower ho0 (bZ HB.1)) (bB BK493.1 hb) (bB BK508.1 hb) (bS HB.1 hb) ?_
     clear HO_7 HO507 BK493 BK508 HB
     intro HO_7 HO507 HO511 BK493 BK508 HB
     (try clear hb)
     (try clear hb2)
     (try clear hk)
     (try clear hi)
     (try clear ho0)
     obtain ⟨Ao38, co38, eo38⟩ := R_slice HO511.1
     (first | subst eo38 | (injection eo38 with f1_ f2_ f3_; have f4_ := f1_.symm; have f5_ := f3_.symm; clear f1_ f2_ f3_; subst f4_; subst f5_))
     refine hK.out _ _ ⟨(blk_cell BK508.1 0).trans rfl, (blk_cell BK508.1 1).trans rfl, (blk_cell BK508.1 2).trans rfl⟩ (fun hHeld => ?_)
     clear hK K
     refine norm_ (a' := ?_) ?_ ?_
     rotate_left
     · show Act.put _ (some 50) _ = _
       simp only [Act.put, List.setIfInBounds_toArray, List.set_cons_zero, List.set_cons_succ, i64_w, i32_w]
       rfl
     refine one_ (i := 6) (N := some 51) #[Yy,Yy,Yy,Yy,Yy,Yy,Yy] rfl rfl (by kernel_rfl) (by decide) (fun K hK => ?_)
     refine goes_ Try.func76 (by kernel_rfl) rfl #[.agg #[.int .i64 t503, .int .i64 t504, .slice Ao34 t505.length co34], .slice A2 l2.length c2, .slice Ao38 t509.length co38] (by rfl) rfl rfl (by (try simp only [List.map_toArray, List.map_cons, List.map_nil]); first | done | rfl | (simp only [List.length_drop, List.length_take]; rfl)) ?_
     with_reducible refine (impl_setBits.calls k2 t503 t504 (fun k_ => some k_ = (.slice Ao34 t505.length co34 : Value).ownBlock) (.slice Ao34 t505.length co34) t505 _ _ l2 _ _ t509 t512 w _ ?side1 ?side2 ?side3 ?side4 ?side5 ?side6 A25.1).mono ?_
     (case side1 => exact BL HB.1)
     (case side2 => exact R_tight rfl HO507.1)
     (case side3 => exact C_kept_came (Kd.heap_slice 3 (Kd.heap_int .i64)) HR2.1 (BL HB.1) (fun k_ hs_ => (fun e_ => R_base HO507.1 k_ e_.symm) hs_))
     (case side4 => exact HC2.1)
     (case side5 => exact C_kept_own ((R_apart' HO511.1 (R_typed HO507.1) (by decide))) (fun k_ hk_ hs_ => (hk_.2) hs_))
     (case side6 => exact (R_reads' HO511.1).2.1)
     rintro e w39 ⟨rfl, hy0, hb, hkp⟩
     refine ⟨_, rfl, ?_⟩
     refine E6 (S_mono (ok' := fun k_ => some k_ ≠ (.slice Ao38 t509.length co38 : Value).ownBlock) (S_keptB ((S_apart' HO_7.1 (R_typed HO507.1) (by decide))) hkp (fun k_ hk_ hs_ => (hk_.2) hs_)) (fun k_ hk_ => hk_.1.1.2)) (blk_kept (PB BK493.1) hkp (fun hs_ => (fun e_ => (R_ne HO507.1 BK493.1 (by decide)) e_) hs_)) (R_reok rfl hy0 (fun k_ e_ => HO507.1.1 k_ e_)) (blk_kept (PB BK508.1) hkp (fun hs_ => (fun e_ => (R_ne HO507.1 BK508.1 (by decide)) e_) hs_)) (R_mono (ok' := fun k_ => True) (R_keptB ((R_apart' HO511.1 (R_typed HO507.1) (by decide))) hkp (fun k_ hk_ hs_ => (hk_.2) hs_)) (fun k_ hk_ => trivial)) (hb) ?_
     clear HO_7 BK493 HO507 BK508 HO511 HB
     intro HO_7 BK493 HO507 BK508 HO511 HB
     (try clear hb)
     (try clear hkp)
     (try clear hy0)
     refine hK.out _ _ ⟨(blk_cell BK508.1 0).trans rfl, (blk_cell BK508.1 1).trans rfl, (blk_cell BK508.1 2).trans rfl⟩ (fun hHeld => ?_)
     clear hK K
     refine norm_ (a' := ?_) ?_ ?_
     rotate_left
     · show Act.put _ (some 51) _ = _
       simp only [Act.put, List.setIfInBounds_toArray, List.set_cons_zero, List.set_cons_succ, i64_w, i32_w]
       rfl
     refine done_ (by kernel_rfl) ?_
     obtain ⟨hcz40_0, hcz40_1, hcz40_2, hfz40_0, hfz40_1, hfz40_2⟩ := cz3 BK508.1
     try go_wp2_with (first | ((with_reducible refine gate_callee (f := 78) rfl ?_); refine goesM (N := (some 55)) #[.agg #[.int .i64 t503, .int .i64 t504, .slice Ao34 t505.length co34], .slice A3 l3.length c3, .int .i64 (rd l1 x23_1)] Try.func78 ?_; (with_reducible refine (impl_drop.calls k2 t503 t504 (fun k_ => some k_ = (.slice Ao34 t505.length co34 : Value).ownBlock) (.slice Ao34 t505.length co34) t512 _ _ l3 (rd l1 x23_1) t513 t514 t515 t516 t519 w _ ?side1 ?side2 ?side3 ?side4 A26.1).mono ?_); (case side1 => exact BL HB.1); (case side2 => exact R_tight rfl HO507.1); (case side3 => exact C_kept_came (Kd.heap_int .i64) HR3.1 (BL HB.1) (fun k_ hs_ => (fun e_ => R_base HO507.1 k_ e_.symm) hs_)); (case side4 => exact HC3.1); rintro e w41 ⟨v517, rfl, ho0, hy0, hb, hkp⟩; refine ⟨_, rfl, ?_⟩; refine E7 (S_mono (ok' := fun k_ => some k_ ≠ (.slice Ao38 t509.length co38 : Value).ownBlock /\ some k_ ≠ (v517 : Value).ownBlock) (S_keptB ((S_apart' HO_7.1 (R_typed HO507.1) (by decide))) hkp (fun k_ hk_ hs_ => (hk_.2) hs_)) (fun k_ hk_ => ⟨hk_.1.1, fun e_ => Or.elim (ho0.1 k_ e_.symm) (fun hs_ => hk_.2.1 hs_) (fun hn_ => Nat.not_le.2 hk_.2.2 hn_)⟩)) (blk_kept (PB BK493.1) hkp (fun hs_ => (fun e_ => (R_ne HO507.1 BK493.1 (by decide)) e_) hs_)) (R_reok rfl hy0 (fun k_ e_ => HO507.1.1 k_ e_)) (blk_kept (PB BK508.1) hkp (fun hs_ => (fun e_ => (R_ne HO507.1 BK508.1 (by decide)) e_) hs_)) (R_mono (ok' := fun k_ => some k_ ≠ (v517 : Value).ownBlock) (R_keptB ((R_apart' HO511.1 (R_typed HO507.1) (by decide))) hkp (fun k_ hk_ hs_ => (hk_.2) hs_)) (fun k_ hk_ => fun e_ => Or.elim (ho0.1 k_ e_.symm) (fun hs_ => hk_.2.1 hs_) (fun hn_ => Nat.not_le.2 hk_.2.2 hn_))) (R_mono (ok' := fun k_ => some k_ ≠ (.slice Ao38 t509.length co38 : Value).ownBlock) ho0 (fun k_ hk_ => Or.elim hk_ (fun hs_ => fun e_ => ((((R_apart' HO511.1 (R_typed HO507.1) (by decide))).1 k_ e_.symm).2) hs_) (fun hn_ => (Kd.fresh' (R_lt (PR HO511.1)) k_ hn_)))) (hb) ?_; clear HO_7 BK493 HO507 BK508 HO511 HB; intro HO_7 BK493 HO507 BK508 HO511 HO518 HB; (try clear hb); (try clear hkp); (try clear ho0); (try clear hy0)) | ((with_reducible refine gate_dst (N := 58) rfl ?_); refine R_make (Kd.int .i64) _ 3 rfl (N := 58) rfl 38 _ _ rfl (l2.length : Int) rfl rfl Try.underlying38 (.int .i64 0) 8 info3 rfl (by decide) (by omega) 0 (ok := fun _ => True) (okp := fun _ => True) rfl (fun _ hk => hk) trivial (OD) (Nat.le_trans (Nat.mul_le_mul_right _ (OD : (l2.length : Int).toNat <= 35184372088832)) (by omega)) (Below.refl _ _) (Nat.le_refl _) ?_; intro v521 w42 ho43 hb hg_ hnew_; clear hg_ hnew_; (first | rw [<- Ny520.1] at ho43 | (simp only [Int.reduceToNat] at ho43; rw [<- Ny520.1] at ho43)); refine E8 (S_elder' (PS HO_7.1) (R_base ho43) hb) (rB HO507.1 hb) (R_elder' (PR HO511.1) (R_base ho43) hb) (R_elder' (PR HO518.1) (R_base ho43) hb) (R_lower (R_new' (R_new' ho43 (R_lt (PR HO511.1))) (R_lt (PR HO518.1))) (bZ HB.1)) (bB BK493.1 hb) (bB BK508.1 hb) (bS HB.1 hb) ?_; clear HO_7 HO507 HO511 HO518 BK493 BK508 HB; intro HO_7 HO507 HO511 HO518 HO522 BK493 BK508 HB; clear hb ho43))
     go_loopg [61] k2 (fun kq v61 w' => ∃ (x12_3 : List Int) (x61_3 : Int), v61 = .int .i64 x61_3 /\ Aside0 (impl_numbersAfter.l2 kq l2 l3 x7_2 x23_1 (rd l1 x23_1) x40_2 x12_3 l1 (l1.length : Int) x23_1 ((rd_L3 y501 x23_1).length : Int) x40_2 (l2.length : Int) x61_3 a0_0 a0_1 l0_2 t503 t504 t519 = some r) /\ Aside0 (kq <= k2) /\ Aside0 (Kd.S (Kd.slice 3 (Kd.int .i64)) 38 w' w.heap.size (fun k_ => some k_ ≠ (v521 : Value).ownBlock) (.slice (some ⟨go17, 0, none⟩) x7_2.length co17) x7_2) /\ Aside0 (Kd.R (Kd.int .i64) 3 w' w.heap.size (fun _ => True) v521 x12_3) /\ Aside0 (Kd.R k83 83 w' w.heap.size (fun _ => True) (.slice Ao34 t505.length co34) t519) /\ Aside0 (w'.heap[gb493]? = some (.cells #[.int .i64 a0_0, .int .i64 a0_1, (.slice A0_2 l0_2.length c0_2)] 30 (0, 0))) /\ Aside0 (w'.heap[gb508]? = some (.cells #[.int .i64 t503, .int .i64 t504, (.slice Ao34 t505.length co34)] 30 (0, 0))) /\ Aside0 (Below w.heap.size w w'))
     case atStart => exact ⟨(y520), (0), RG, H', ⟨Nat.le_refl _⟩, ⟨by (try simp only [hl7_2]); (with_reducible repeat (first | apply S_alloc | apply S_drewN | apply S_drew)); exact S_mono HO_7.1 (fun _ hk => hk.2)⟩, ⟨by (try simp only [hl7_2]); (with_reducible repeat (first | apply R_alloc | apply R_drewN | apply R_drew)); exact R_mono HO522.1 (fun _ hk => trivial)⟩, ⟨PR1 HO507.1 hl7_2⟩, ⟨PB1 BK493.1 hl7_2⟩, ⟨PB1 BK508.1 hl7_2⟩, ⟨BL HB.1⟩⟩
     clear H'
     try clear c2; try clear c3; clear c22b0 c27b0 c27b1 c28b0 c28b1 hcz29_0 hcz29_1 hcz29_2 hcz33_0 hcz33_1 hcz33_2 hcz40_0 hcz40_1 hcz40_2 hfz29_0 hfz29_1 hfz29_2 hfz33_0 hfz33_1 hfz33_2 hfz40_0 hfz40_1 hfz40_2
     obtain ⟨x12_3, x61_3, rfl, HA, HK3, HO_7, HO_12, HO_509002, BK493, BK508, HB⟩ := hrel
     have hl509002_3 := (R_reads' HO_509002.1).1
     rw [hl509002_3] at HO_509002
     (try simp only [hl509002_3])
     (try simp only [hl509002_3] at BK493)
     (try simp only [hl509002_3] at BK508)
     (try simp only [hl509002_3] at HO_7)
     (try simp only [hl509002_3] at HO_12)
     cases gk with
     | zero => exact absurd HA.1 (by simp [impl_numbersAfter.l2])
     | succ k3 => ?_
     have H := HA.1
     clear HA
     simp only [impl_numbersAfter.l2] at H
     replace H := ifB H; rcases H with ⟨c44b0, H⟩ | ⟨c44b0, H⟩
     · replace H := ifN H; obtain ⟨c45b0, H⟩ := H
       replace H := ifN H; obtain ⟨c46b0, H⟩ := H
       replace H := ifP H; obtain ⟨c47, H⟩ := H
       have c47b0 := decide_eq_true c47
       have c47b1 : decide (0 < (rd_L3 l2 x61_3).length) = true := decide_eq_true (by omega)
       clear c47
       replace H := ifN H; obtain ⟨c48b0, H⟩ := H
       replace H := ifN H; obtain ⟨c49b0, H⟩ := H
       replace H := ifN H; obtain ⟨c50b0, H⟩ := H
       generalize hy526 : ((x12_3.set (x61_3 : Int).toNat ((rd_T83 t519 (rd (rd_L3 l2 x61_3) 0)).f1)) : List Int) = y526 at H
       have Ny526 := Aside0.mk hy526.symm; clear hy526
       have H' := Aside0.mk H
       clear H
       try go_wp2
       refine E6 (S_drew HO_7.1) (R_drew HO_12.1) (R_drew HO_509002.1) (blk_drew BK493.1) (blk_drew BK508.1) (below_drew1 HB.1) ?_
       clear HO_7 HO_12 HO_509002 BK493 BK508 HB
       intro HO_7 HO_12 HO_509002 BK493 BK508 HB
       have p523 : 0 <= (x61_3 : Int) := OD
       have q523 : x61_3 < (l2.length : Int) := OD
       obtain ⟨ad523, A523_0, c523_0, e523, hx523_0, hl523_0, hi523_0⟩ := at_L3 HR2.1 x61_3 p523 q523
       have hw523_0 := hx523_0
       cases e523
       replace hx523_0 := (HB.1.cell (World.block_lt_of_cell? w _ hx523_0)).trans hx523_0
       have HR523_0 := Aside0.mk hi523_0
       have HC523_0 := Aside0.mk hl523_0
       clear hi523_0 hl523_0
       replace p523 := eq_true p523
       replace q523 := eq_true q523
       have p524 : 0 <= (0 : Int) := (by omega)
       have q524 : 0 < ((rd_L3 l2 x61_3).length : Int) := OD
       obtain ⟨ad524, e524, hx524_0⟩ := Kd.at_int HR523_0.1 0 p524 q524
       have hw524_0 := hx524_0
       (try rw [show ((0 : Int)).toNat = 0 from rfl] at hw524_0)
       (try rw [show 0 * 1 = 0 from rfl] at hw524_0)
       (try rw [Addr.add_zero'] at hw524_0)
       cases e524
       have qi524 : (0 < (rd_L3 l2 x61_3).length) = True := eq_true (by omega)
       (try rw [show ((0 : Int)).toNat = 0 from rfl] at hx524_0)
       (try rw [Addr.add_zero'] at hx524_0)
       replace hx524_0 := (HB.1.cell (World.block_lt_of_cell? w _ hx524_0)).trans hx524_0
       replace p524 := eq_true p524
       replace q524 := eq_true q524
       have p525 : 0 <= ((rd (rd_L3 l2 x61_3) 0) : Int) := OD
       have q525 : (rd (rd_L3 l2 x61_3) 0) < (t519.length : Int) := OD
       obtain ⟨ad525, e525, hx525_0, hx525_1⟩ := at_T83 (R_reads' HO_509002.1).2.2 (rd (rd_L3 l2 x61_3) 0) p525 q525
       cases e525
       replace p525 := eq_true p525
       replace q525 := eq_true q525
       have p51 : 0 <= (x61_3 : Int) := OD
       have q51 : (x61_3 : Int) < ((x12_3.length : Int) : Int) := OD
       obtain ⟨go51, co51, eo51, gb51, gl51, cl51, HG51⟩ := R_form HO_12.1 (by omega)
       (first | cases eo51 | (injection eo51 with ea_ en_ ec_; (first | subst ea_ | (injection ea_ with ea_; subst ea_)); subst ec_; clear en_))
       have GB51 := Aside0.mk gb51
       have GG51 := Aside0.mk HG51
       clear gb51 gl51 HG51
       obtain ⟨hx51_0, hf51_0⟩ := R_celln 0 HO_12.1 (x61_3 : Int) p51 q51
       replace p51 := eq_true p51
       replace q51 := eq_true q51
       have HP53 := R_putn HO_12.1 (x61_3 : Int) ((rd_T83 t519 (rd (rd_L3 l2 x61_3) 0)).f1)
       rw [<- Ny526.1] at HP53
       have HQ53 := Aside0.mk HP53
       clear HP53
       refine start_ (n := 15) (S := fun w' => w'.cell? ⟨gb508, 0, none⟩ = some (.int .i64 t503) /\ w'.cell? ⟨gb508, 1, none⟩ = some (.int .i64 t504) /\ w'.cell? ⟨gb508, 2, none⟩ = some (.slice (some ad525) t519.length co34) /\ w'.cell? (ad523.add (x61_3).toNat) = some (.slice (some ad524) (rd_L3 l2 x61_3).length c523_0) /\ w'.cell? ad524 = some (.int .i64 (rd (rd_L3 l2 x61_3) 0)) /\ w'.cell? (ad525.add (((rd (rd_L3 l2 x61_3) 0)).toNat * 2)) = some (.int .i64 ((rd_T83 t519 (rd (rd_L3 l2 x61_3) 0)).f0)) /\ w'.cell? ⟨(ad525.add (((rd (rd_L3 l2 x61_3) 0)).toNat * 2)).block, (ad525.add (((rd (rd_L3 l2 x61_3) 0)).toNat * 2)).off + 1, none⟩ = some (.int .i64 ((rd_T83 t519 (rd (rd_L3 l2 x61_3) 0)).f1))) (ds := [14]) #[Zz,Zz,Zz,Zz,Zz,Zz,Zz,Zz,Zz,Zz,Zz,Zz,Zz,Zz,Zz] (by kernel_rfl) rfl rfl ⟨(blk_cell BK508.1 0).trans rfl, (blk_cell BK508.1 1).trans rfl, (blk_cell BK508.1 2).trans rfl, ((HB.1.cell (World.block_lt_of_cell? w _ hw523_0)).trans hw523_0), ((HB.1.cell (World.block_lt_of_cell? w _ hw524_0)).trans hw524_0), hx525_0, hx525_1⟩ (fun hHeld => ?_); refine with_tabW impl_numbersAfter.tab18 impl_numbersAfter.bits18 (fun HT_ HW_ => ?_)
       generalize wr.drew = w52 at HO_7 HO_12 HO_509002 BK493 BK508 HB GG51 HQ53 HR523_0 hf51_0 hx51_0 hx523_0 hx524_0 hx525_0 hx525_1 hHeld ⊢
       refine pureF 0 (N := some 64) HT_.1 ?_
       refine pureF 1 (N := some 65) HT_.1 ?_
       refine pureF 2 (N := some 66) HT_.1 ?_
       refine pureF 4 (N := some 68) HT_.1 ?_
       refine pureF 5 (N := some 69) HT_.1 ?_
       refine pureF 6 (N := some 70) HT_.1 ?_
       refine takeE 3 (N := some 67) HT_.1 HW_.1 hHeld ?_
       refine takeE 7 (N := some 71) HT_.1 HW_.1 hHeld ?_
       refine pureF 8 (N := some 72) HT_.1 ?_
       refine takeE 9 (N := some 73) HT_.1 HW_.1 hHeld ?_
       refine pureF 10 (N := some 74) HT_.1 ?_
       refine pureF 11 (N := some 75) HT_.1 ?_
       refine takeE 12 (N := some 76) HT_.1 HW_.1 hHeld ?_
       refine pureF 13 (N := some 77) HT_.1 ?_
       refine last_ (i := 14) (N := none) #[Yy,Yy,Yy,Yy,Yy,Yy,Yy,Yy,Yy,Yy,Yy,Yy,Yy,Yy,Yy] rfl rfl (one_of HT_.1 (by kernel_rfl)) (by decide) (fun K hK => ?_)
       refine skip_ (w1 := ?_) (by rfl) rfl ?_ ?_
       rotate_left
       · go_simp
         rfl
       refine hK.out _ _ ?_
       clear hK K
       refine done_ (done_of HT_.1 (by kernel_rfl)) ?_
       try go_wp2
       (try simp only [<- hl509002_3])
       go_roundg k3
       case measure => have := HK1.1; have := HK2.1; have := HK3.1; omega
       case rel => exact ⟨(y526), (wrap64 (x61_3 + 1)), RG, H', ⟨by have := HK1.1; have := HK2.1; have := HK3.1; omega⟩, ⟨by (try simp only [hl7_2]); (try simp only [hl509002_3]); (with_reducible repeat (first | apply S_alloc | apply S_drewN | apply S_drew)); exact S_mono (S_far (p := ⟨go51, (x61_3 : Int).toNat, none⟩) (S_mono HO_7.1 (fun k_ hk => (⟨hk, fun e_ => hk (by rw [e_]; rfl)⟩ : _ /\ k_ ≠ go51))) (fun _ hk => hk.2) (.int .i64 ((rd_T83 t519 (rd (rd_L3 l2 x61_3) 0)).f1))) (fun _ hk => hk.1)⟩, ⟨PR2 HQ53.1 hl7_2 hl509002_3⟩, ⟨by (try simp only [hl7_2]); (try simp only [hl509002_3]); (with_reducible repeat (first | apply R_alloc | apply R_drewN | apply R_drew)); exact R_mono (R_far (p := ⟨go51, (x61_3 : Int).toNat, none⟩) (R_types HO_509002.1 GG51.1 (by decide)) (fun _ hk => hk.2) (.int .i64 ((rd_T83 t519 (rd (rd_L3 l2 x61_3) 0)).f1))) (fun _ hk => trivial)⟩, ⟨by (try simp only [hl7_2]); (try simp only [hl509002_3]); (with_reducible repeat (first | refine blk_drewN ?_ _ | refine blk_drew ?_ | refine blk_alloc ?_ _)); refine blk_far ?_ (by have h_ := R_ne HO_12.1 BK493.1 (by decide); intro e_; exact h_ (by rw [e_]; rfl)) _; (with_reducible repeat (first | refine blk_drewN ?_ _ | refine blk_drew ?_ | refine blk_alloc ?_ _)); exact BK493.1⟩, ⟨by (try simp only [hl7_2]); (try simp only [hl509002_3]); (with_reducible repeat (first | refine blk_drewN ?_ _ | refine blk_drew ?_ | refine blk_alloc ?_ _)); refine blk_far ?_ (by have h_ := R_ne HO_12.1 BK508.1 (by decide); intro e_; exact h_ (by rw [e_]; rfl)) _; (with_reducible repeat (first | refine blk_drewN ?_ _ | refine blk_drew ?_ | refine blk_alloc ?_ _)); exact BK508.1⟩, ⟨BL HB.1⟩⟩
     replace H := ifN H; obtain ⟨c54b0, H⟩ := H
     replace H := ifN H; obtain ⟨c55b0, H⟩ := H
     replace H := bindA H; obtain ⟨t528, A56, H⟩ := H
     replace H := ifN H; obtain ⟨c57b0, H⟩ := H
     replace H := ifN H; obtain ⟨c58b0, H⟩ := H
     generalize hy529 : (((rd_L3 x7_2 x23_1).set (x40_2 : Int).toNat t528) : List Int) = y529 at H
     have Ny529 := Aside0.mk hy529.symm; clear hy529
     generalize hy531 : ((x7_2.set (x23_1 : Int).toNat y529) : List (List Int)) = y531 at H
     have Ny531 := Aside0.mk hy531.symm; clear hy531
     have H' := Aside0.mk H
     clear H
     try go_wp2
     refine E6 (S_drew HO_7.1) (R_drew HO_12.1) (R_drew HO_509002.1) (blk_drew BK493.1) (blk_drew BK508.1) (below_drew1 HB.1) ?_
     clear HO_7 HO_12 HO_509002 BK493 BK508 HB
     intro HO_7 HO_12 HO_509002 BK493 BK508 HB
     have p527 : 0 <= (x23_1 : Int) := OD
     have q527 : x23_1 < (x7_2.length : Int) := OD
     obtain ⟨ad527, A527_0, c527_0, e527, hx527_0, hl527_0, hi527_0⟩ := at_L3 (S_reads' HO_7.1).2.2 x23_1 p527 q527
     obtain rfl : (⟨go17, 0, none⟩ : Addr) = ad527 := (by injection e527)
     obtain ⟨ce527, hce527, hMe527, hcc527⟩ := S_get HO_7.1 [] x23_1 p527 (by first | exact q527 | exact OD | (have e_ := (S_reads' HO_7.1).1; omega))
     obtain ⟨ve527_0, rfl, ge527_0⟩ := hMe527
     have hv527_0 := hcc527 0 _ rfl
     rw [Nat.add_zero, show ((Kd.slice 3 (Kd.int .i64))).sz = 1 from rfl, Nat.mul_one] at hv527_0
     replace hv527_0 := Option.some.inj (hv527_0.symm.trans hx527_0)
     rw [hv527_0] at ge527_0
     have HL527_0 := Aside0.mk (show Kd.R (Kd.int .i64) 3 _ _ _ _ (rd_L3 x7_2 x23_1) from ge527_0)
     clear hv527_0 ge527_0
     have HX527_0 := Aside0.mk hx527_0
     clear hcc527 hce527
     (first | simp only [add_plain] at hx527_0 | simp only [add_at] at hx527_0 | simp only [Addr.add, Nat.zero_add] at hx527_0 | skip)
     have HR527_0 := Aside0.mk hi527_0
     have HC527_0 := Aside0.mk hl527_0
     clear hi527_0 hl527_0
     replace p527 := eq_true p527
     replace q527 := eq_true q527
     obtain ⟨Ao61, co61, eo61⟩ := R_slice HO_12.1
     (first | subst eo61 | (injection eo61 with f1_ f2_ f3_; have f4_ := f1_.symm; have f5_ := f3_.symm; clear f1_ f2_ f3_; subst f4_; subst f5_))
     refine start_ (n := 9) (S := fun w' => w'.cell? ⟨go17, (x23_1).toNat, none⟩ = some (.slice A527_0 (rd_L3 x7_2 x23_1).length c527_0)) (ds := [8]) #[Zz,Zz,Zz,Zz,Zz,Zz,Zz,Zz,Zz] (by kernel_rfl) rfl rfl (hx527_0) (fun hHeld => ?_); refine with_tabW impl_numbersAfter.tab20 impl_numbersAfter.bits20 (fun HT_ HW_ => ?_)
     generalize wr.drew = w60 at HO_7 HO_12 HO_509002 BK493 BK508 HB HL527_0 HR527_0 HX527_0 hx527_0 hHeld ⊢
     refine pureF 0 (N := some 79) HT_.1 ?_
     refine pureF 1 (N := some 80) HT_.1 ?_
     refine pureF 2 (N := some 81) HT_.1 ?_
     refine pureF 4 (N := some 83) HT_.1 ?_
     refine pureF 5 (N := some 84) HT_.1 ?_
     refine take_ (i := 3) (N := some 82) (v := ?_) (a' := ?_) #[Yy,Yy,Yy,Yy,Yy,Yy,Zz,Zz,Zz] rfl rfl (take_ofW HT_.1 HW_.1 (by kernel_rfl)) (fun _ _ _ h => h) (Or.inl ⟨by rfl, ?_⟩) hHeld ?_ ?_
     rotate_left
     · intro w' s0
       go_simp
       with_reducible rfl
     rotate_left
     · simp only [Act.put, List.setIfInBounds_toArray, List.set_cons_zero, List.set_cons_succ, i64_w, i32_w]
       rfl
     refine one_ (i := 6) (N := some 85) #[Yy,Yy,Yy,Yy,Yy,Yy,Yy,Zz,Zz] rfl rfl (one_of HT_.1 (by kernel_rfl)) (by decide) (fun K hK => ?_)
     refine goes_ Try.func49 (by kernel_rfl) rfl #[.slice Ao61 x12_3.length co61] (by rfl) rfl rfl (by (try simp only [List.map_toArray, List.map_cons, List.map_nil]); first | done | rfl | (simp only [List.length_drop, List.length_take]; rfl)) ?_
     with_reducible refine (impl_numberOf.calls k3 _ _ x12_3 t528 _ ?side1 ?side2 A56.1).mono ?_
     (case side1 => exact CB (R_reads' HO_12.1).2.2)
     (case side2 => exact (R_reads' HO_12.1).2.1)
     rintro e w' ⟨rfl, ⟨nd, rfl⟩⟩
     refine ⟨_, rfl, ?_⟩
     have p59 : 0 <= (x40_2 : Int) := OD
     have q59 : (x40_2 : Int) < (((rd_L3 x7_2 x23_1).length : Int) : Int) := OD
     obtain ⟨go59, co59, eo59, gb59, gl59, cl59, HG59⟩ := R_form HL527_0.1 (by omega)
     (first | cases eo59 | (injection eo59 with ea_ en_ ec_; (first | subst ea_ | (injection ea_ with ea_; subst ea_)); subst ec_; clear en_))
     have GB59 := Aside0.mk gb59
     have GG59 := Aside0.mk HG59
     clear gb59 gl59 HG59
     obtain ⟨hx59_0, hf59_0⟩ := R_celln 0 HL527_0.1 (x40_2 : Int) p59 q59
     replace p59 := eq_true p59
     replace q59 := eq_true q59
     have hq62 : (x23_1 : Int) < (x7_2.length : Int) := (by have h_ : (x23_1 : Int) < ((x7_2.length : Int) : Int) := OD; first | exact h_ | (have e_ := (S_reads' HO_7.1).1; omega) | simpa only [List.length_set, List.length_set] using h_)
     obtain ⟨oki62, ce62, hcl62, hM62, hcc62, hok62, hbk62⟩ := S_borrow HO_7.1 [] (x23_1 : Int) (OD) hq62
     obtain ⟨ve62_0, rfl, ge62_0⟩ := hM62
     have hv62 := hcc62 0 _ rfl
     rw [Nat.add_zero, show ((Kd.slice 3 (Kd.int .i64))).sz = 1 from rfl, Nat.mul_one] at hv62
     replace hv62 := Option.some.inj (hv62.symm.trans HX527_0.1)
     subst hv62
     clear hcc62 hcl62
     replace ge62_0 := (show Kd.R (Kd.int .i64) 3 _ _ _ _ (rd_L3 x7_2 x23_1) from ge62_0)
     have HP62 := R_putg ge62_0 (x40_2 : Int) t528
     rw [<- Ny529.1] at HP62
     have HS62 := hbk62 HP62.2 (fun k_ e_ => by injection e_ with e_; subst e_; exact ge62_0.1 _ rfl) (x' := y529) (M_row HP62.1)
     rw [<- Ny531.1] at HS62
     have HQ62 := Aside0.mk HS62
     clear HP62 HS62 hbk62 hok62
     refine hK.out _ _ (hHeld) (fun hHeld => ?_)
     clear hK K
     refine norm_ (a' := ?_) ?_ ?_
     rotate_left
     · show Act.put _ (some 85) _ = _
       simp only [Act.put, List.setIfInBounds_toArray, List.set_cons_zero, List.set_cons_succ, i64_w, i32_w]
       rfl
     refine pureF 7 (N := some 86) HT_.1 ?_
     refine last_ (i := 8) (N := none) #[Yy,Yy,Yy,Yy,Yy,Yy,Yy,Yy,Yy] rfl rfl (one_of HT_.1 (by kernel_rfl)) (by decide) (fun K hK => ?_)
     refine skip_ (w1 := ?_) (by rfl) rfl ?_ ?_
     rotate_left
     · go_simp
       rfl
     refine hK.out _ _ ?_
     clear hK K
     refine done_ (done_of HT_.1 (by kernel_rfl)) ?_
     try go_wp2
     (try simp only [<- hl7_2, <- hl509002_3])
     go_roundg k3
     case measure => have := HK1.1; have := HK2.1; have := HK3.1; omega
     case rel => exact ⟨(y531), (wrap64 (x40_2 + 1)), RG, H', ⟨by have := HK1.1; have := HK2.1; have := HK3.1; omega⟩, ⟨by (try simp only [hl7_2]); (try simp only [hl509002_3]); (with_reducible repeat (first | apply S_alloc | apply S_drewN | apply S_drew)); exact S_mono HQ62.1 (fun _ hk => trivial)⟩, ⟨by (try simp only [hl7_2]); (try simp only [hl509002_3]); (with_reducible repeat (first | refine blk_drewN ?_ _ | refine blk_drew ?_ | refine blk_alloc ?_ _)); refine blk_far ?_ (by have h_ := R_ne HL527_0.1 BK493.1 (by decide); intro e_; exact h_ (by rw [e_]; rfl)) _; (with_reducible repeat (first | refine blk_drewN ?_ _ | refine blk_drew ?_ | refine blk_alloc ?_ _)); exact BK493.1⟩, ⟨BL HB.1⟩⟩
   have H' := Aside0.mk H
   clear H
   go_wp2
   (try simp only [<- hl7_2])
   go_roundg k2
   case measure => have := HK1.1; have := HK2.1; omega
   case rel => exact ⟨(x7_2), (wrap64 (x23_1 + 1)), RG, H', ⟨by have := HK1.1; have := HK2.1; omega⟩, ⟨PS1 HO_7.1 hl7_2⟩, ⟨PB1 BK493.1 hl7_2⟩, ⟨BL HB.1⟩⟩
 obtain rfl := Option.some.inj H
 go_wp2
 go_ret
 exact ⟨_, RF, S_lower (PS HO_7.1) (below_size HW.1), below_step HW.1 (BL HB.1)⟩
def laws_eqCell.f (a0_0 : Int) (a0_1 : Int) (a1_0 : Int) (a1_1 : Int) : Option (Bool) := if a0_0 = a1_0 then (if a0_1 = a1_1 then (some true) else (some false)) else (some false)
theorem laws_eqCell.calls (a0_0 : Int) (a0_1 : Int) (a1_0 : Int) (a1_1 : Int) (r : Bool) (w : World) (h : laws_eqCell.f a0_0 a0_1 a1_0 a1_1 = some r) :
 Calls Try.prog 79 #[.agg #[.int .i64 a0_0, .int .i64 a0_1], .agg #[.int .i64 a1_0, .int .i64 a1_1]] w fun e w' => e = .returned (.bool r) /\ Below w.heap.size w w' := by
 have hu83 := Try.underlying83
 have HB := Aside0.mk (Below.refl w.heap.size w)
 have H := h
 clear h
 unfold laws_eqCell.f at H
 replace H := ifQ H; rcases H with ⟨c3, H⟩ | ⟨c3, H⟩
 · have c3b0 := beq_iff_eq.mpr c3
   have c3b1 := bne_eq_false_iff_eq.mpr c3
   clear c3
   replace H := ifQ H; rcases H with ⟨c4, H⟩ | ⟨c4, H⟩
   · have c4b0 := beq_iff_eq.mpr c4
     have c4b1 := bne_eq_false_iff_eq.mpr c4
     clear c4
     obtain rfl := Option.some.inj H
     go_enter Try.func79, Try.ntmps79
     go_wp2_with (first | ((with_reducible refine gate_dst (N := 2) rfl ?_); refine boxE (cs := #[.int .i64 a0_0, .int .i64 a0_1]) (t := 83) ?_; intro gb560 hg w5 hbox hb; refine E4b HB.1 hg hbox hb ?_; clear HB; intro HB BK560 GW560 GE560; clear hb hbox hg) | ((with_reducible refine gate_dst (N := 3) rfl ?_); refine boxE (cs := #[.int .i64 a1_0, .int .i64 a1_1]) (t := 83) ?_; intro gb561 hg w6 hbox hb; refine E7 (bB BK560.1 hb) (bS HB.1 hb) (hbox) (gX HB.1 hg) (gX HB.1 hg) (nB BK560.1 hg) (nC BK560.1 hg) ?_; clear BK560 HB; intro BK560 HB BK561 GW561 GE561 NB560_561 NB561_560; clear hb hbox hg; have hnb7 := NB560_561.1; have hnc7 := NB561_560.1; obtain ⟨hcz8_0, hcz8_1, hfz8_0, hfz8_1⟩ := cz2 BK560.1; obtain ⟨hcz9_0, hcz9_1, hfz9_0, hfz9_1⟩ := cz2 BK561.1))
     go_ret
     exact ⟨RF, BL HB.1⟩
   have c4b0 := beq_eq_false_iff_ne.mpr c4
   have c4b1 := bne_iff_ne.mpr c4
   obtain rfl := Option.some.inj H
   go_enter Try.func79, Try.ntmps79
   go_wp2_with (first | ((with_reducible refine gate_dst (N := 2) rfl ?_); refine boxE (cs := #[.int .i64 a0_0, .int .i64 a0_1]) (t := 83) ?_; intro gb560 hg w10 hbox hb; refine E4b HB.1 hg hbox hb ?_; clear HB; intro HB BK560 GW560 GE560; clear hb hbox hg) | ((with_reducible refine gate_dst (N := 3) rfl ?_); refine boxE (cs := #[.int .i64 a1_0, .int .i64 a1_1]) (t := 83) ?_; intro gb561 hg w11 hbox hb; refine E7 (bB BK560.1 hb) (bS HB.1 hb) (hbox) (gX HB.1 hg) (gX HB.1 hg) (nB BK560.1 hg) (nC BK560.1 hg) ?_; clear BK560 HB; intro BK560 HB BK561 GW561 GE561 NB560_561 NB561_560; clear hb hbox hg; have hnb12 := NB560_561.1; have hnc12 := NB561_560.1; obtain ⟨hcz13_0, hcz13_1, hfz13_0, hfz13_1⟩ := cz2 BK560.1; obtain ⟨hcz14_0, hcz14_1, hfz14_0, hfz14_1⟩ := cz2 BK561.1))
   go_ret
   exact ⟨RF, BL HB.1⟩
 have c3b0 := beq_eq_false_iff_ne.mpr c3
 have c3b1 := bne_iff_ne.mpr c3
 obtain rfl := Option.some.inj H
 go_enter Try.func79, Try.ntmps79
 go_wp2_with (first | ((with_reducible refine gate_dst (N := 2) rfl ?_); refine boxE (cs := #[.int .i64 a0_0, .int .i64 a0_1]) (t := 83) ?_; intro gb560 hg w15 hbox hb; refine E4b HB.1 hg hbox hb ?_; clear HB; intro HB BK560 GW560 GE560; clear hb hbox hg) | ((with_reducible refine gate_dst (N := 3) rfl ?_); refine boxE (cs := #[.int .i64 a1_0, .int .i64 a1_1]) (t := 83) ?_; intro gb561 hg w16 hbox hb; refine E7 (bB BK560.1 hb) (bS HB.1 hb) (hbox) (gX HB.1 hg) (gX HB.1 hg) (nB BK560.1 hg) (nC BK560.1 hg) ?_; clear BK560 HB; intro BK560 HB BK561 GW561 GE561 NB560_561 NB561_560; clear hb hbox hg; have hnb17 := NB560_561.1; have hnc17 := NB561_560.1; obtain ⟨hcz18_0, hcz18_1, hfz18_0, hfz18_1⟩ := cz2 BK560.1; obtain ⟨hcz19_0, hcz19_1, hfz19_0, hfz19_1⟩ := cz2 BK561.1))
 go_ret
 exact ⟨RF, BL HB.1⟩
end Go.Proofs.Ytbpfdbjnnlmdjaa.P
