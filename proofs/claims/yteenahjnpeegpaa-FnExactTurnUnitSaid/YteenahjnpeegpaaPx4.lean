-- PRINTED by print.py (a twelfth state) out of the translation. Not trusted: Lean checks it.
import Derived.Test.YteenahjnpeegpaaPx0
import Derived.Test.YteenahjnpeegpaaPx3
import Derived.Test.YteenahjnpeegpaaMapW
namespace Go.Proofs.Yteenahjnpeegpaa.P
open Go.RowKit Go.Proofs.YteenahjnpeegpaaW.PrintWords Go.Proofs.YteenahjnpeegpaaW.PrintLast Go.Proofs.YteenahjnpeegpaaW.PrintMore
attribute [local go_sem] max2_int min2_int max_two min_two max_three min_three max_four min_four   -- for this text's walks alone
set_option linter.unusedVariables false
set_option linter.unusedSimpArgs false

/-! ### impl_groupNumbers: function 29 -/
open Kd
mutual
def impl_groupNumbers.l0 : Nat -> List Int -> Int -> Int -> Int -> Int -> List (S45) -> Option (List Int)
 | 0, _, _, _, _, _, _ => none
 | k + 1, x3, x17, x18, x267000, x267001, x267002 => if x18 < x17 then (if 0 <= x18 then (if x18 < (x3.length : Int) then (impl_groupNumbers.l0 k (x3.set (x18 : Int).toNat (-1)) x17 (wrap64 (x18 + 1)) x267000 x267001 x267002) else (none)) else (none)) else (impl_groupNumbers.l1 k x3 0 x267002 (x267002.length : Int) 0 x267000 x267001 x267002)
def impl_groupNumbers.l1 : Nat -> List Int -> Int -> List (S45) -> Int -> Int -> Int -> Int -> List (S45) -> Option (List Int)
 | 0, _, _, _, _, _, _, _, _ => none
 | k + 1, x3, x5, x26, x27, x28, x267000, x267001, x267002 => if x28 < x27 then (if 0 <= x28 then (if x28 < (x26.length : Int) then ((impl_isGeared.f ((rd_T45 x26 x28).f0) ((rd_T45 x26 x28).f1)).bind fun t273 => (if t273 = true then (if x28 < (x3.length : Int) then (impl_groupNumbers.j2 k x3 x5 x28 x26 x27 x28 (decide ((rd x3 x28) ≥ 0)) x267000 x267001 x267002) else (none)) else (impl_groupNumbers.j2 k x3 x5 x28 x26 x27 x28 true x267000 x267001 x267002))) else (none)) else (none)) else (some x3)
def impl_groupNumbers.j2 : Nat -> List Int -> Int -> Int -> List (S45) -> Int -> Int -> Bool -> Int -> Int -> List (S45) -> Option (List Int)
 | 0, _, _, _, _, _, _, _, _, _, _ => none
 | k + 1, x3, x5, x6, x26, x27, x28, x42, x267000, x267001, x267002 => if x42 = true then (impl_groupNumbers.l1 k x3 x5 x26 x27 (wrap64 (x28 + 1)) x267000 x267001 x267002) else (if 0 <= x6 then (if x6 < (x3.length : Int) then (impl_groupNumbers.l2 k (x3.set (x6 : Int).toNat x5) x5 (([x6] : List Int)) x26 x27 x28 x267000 x267001 x267002) else (none)) else (none))
def impl_groupNumbers.l2 : Nat -> List Int -> Int -> List Int -> List (S45) -> Int -> Int -> Int -> Int -> List (S45) -> Option (List Int)
 | 0, _, _, _, _, _, _, _, _, _ => none
 | k + 1, x3, x5, x8, x26, x27, x28, x267000, x267001, x267002 => if (x8.length : Int) > 0 then (if 0 < (x8.length : Int) then (if 1 <= (x8.length : Int) then ((impl_besideOf.f k x267000 x267001 x267002 (rd x8 0)).bind fun t283 => (impl_groupNumbers.l3 k x3 x5 (x8.drop (1 : Int).toNat) x26 x27 x28 t283 (t283.length : Int) 0 x267000 x267001 x267002)) else (none)) else (none)) else (impl_groupNumbers.l1 k x3 (wrap64 (x5 + 1)) x26 x27 (wrap64 (x28 + 1)) x267000 x267001 x267002)
def impl_groupNumbers.l3 : Nat -> List Int -> Int -> List Int -> List (S45) -> Int -> Int -> List Int -> Int -> Int -> Int -> Int -> List (S45) -> Option (List Int)
 | 0, _, _, _, _, _, _, _, _, _, _, _, _ => none
 | k + 1, x3, x5, x8, x26, x27, x28, x59, x60, x61, x267000, x267001, x267002 => if x61 < x60 then (if 0 <= x61 then (if x61 < (x59.length : Int) then (if 0 <= (rd x59 x61) then (if (rd x59 x61) < (x267002.length : Int) then ((impl_isGeared.f ((rd_T45 x267002 (rd x59 x61)).f0) ((rd_T45 x267002 (rd x59 x61)).f1)).bind fun t288 => (if t288 = true then (if (rd x59 x61) < (x3.length : Int) then (if (rd x3 (rd x59 x61)) < 0 then (if x8.length < 17592186044416 then (impl_groupNumbers.l3 k (x3.set ((rd x59 x61) : Int).toNat x5) x5 (x8 ++ [rd x59 x61]) x26 x27 x28 x59 x60 (wrap64 (x61 + 1)) x267000 x267001 x267002) else (none)) else (impl_groupNumbers.l3 k x3 x5 x8 x26 x27 x28 x59 x60 (wrap64 (x61 + 1)) x267000 x267001 x267002)) else (none)) else (impl_groupNumbers.l3 k x3 x5 x8 x26 x27 x28 x59 x60 (wrap64 (x61 + 1)) x267000 x267001 x267002))) else (none)) else (none)) else (none)) else (none)) else (impl_groupNumbers.l2 k x3 x5 x8 x26 x27 x28 x267000 x267001 x267002)
end
def impl_groupNumbers.f (k : Nat) (a0_0 : Int) (a0_1 : Int) (l0_2 : List (S45)) : Option (List Int) := if 0 <= (l0_2.length : Int) then (if ((l0_2.length : Int) : Int).toNat <= 35184372088832 then ((some (List.replicate ((l0_2.length : Int) : Int).toNat 0 : List Int)).bind fun y267 => (impl_groupNumbers.l0 k y267 (y267.length : Int) 0 a0_0 a0_1 l0_2)) else (none)) else (none)
theorem impl_groupNumbers.mono_l : ∀ k, (∀ y0 y1 y2 y3 y4 y5, LeO (impl_groupNumbers.l0 k y0 y1 y2 y3 y4 y5) (impl_groupNumbers.l0 (k + 1) y0 y1 y2 y3 y4 y5)) /\ (∀ y0 y1 y2 y3 y4 y5 y6 y7, LeO (impl_groupNumbers.l1 k y0 y1 y2 y3 y4 y5 y6 y7) (impl_groupNumbers.l1 (k + 1) y0 y1 y2 y3 y4 y5 y6 y7)) /\ (∀ y0 y1 y2 y3 y4 y5 y6 y7 y8 y9, LeO (impl_groupNumbers.j2 k y0 y1 y2 y3 y4 y5 y6 y7 y8 y9) (impl_groupNumbers.j2 (k + 1) y0 y1 y2 y3 y4 y5 y6 y7 y8 y9)) /\ (∀ y0 y1 y2 y3 y4 y5 y6 y7 y8, LeO (impl_groupNumbers.l2 k y0 y1 y2 y3 y4 y5 y6 y7 y8) (impl_groupNumbers.l2 (k + 1) y0 y1 y2 y3 y4 y5 y6 y7 y8)) /\ (∀ y0 y1 y2 y3 y4 y5 y6 y7 y8 y9 y10 y11, LeO (impl_groupNumbers.l3 k y0 y1 y2 y3 y4 y5 y6 y7 y8 y9 y10 y11) (impl_groupNumbers.l3 (k + 1) y0 y1 y2 y3 y4 y5 y6 y7 y8 y9 y10 y11))
 | 0 => by refine ⟨?_, ?_, ?_, ?_, ?_⟩ <;> (intros; intro r h; first | (simp [impl_groupNumbers.l0] at h; done) | (simp [impl_groupNumbers.l1] at h; done) | (simp [impl_groupNumbers.j2] at h; done) | (simp [impl_groupNumbers.l2] at h; done) | (simp [impl_groupNumbers.l3] at h; done))
 | k + 1 => by
  obtain ⟨ih0, ih1, ih2, ih3, ih4⟩ := impl_groupNumbers.mono_l k
  refine ⟨?_, ?_, ?_, ?_, ?_⟩ <;> (
   intros
   first | unfold impl_groupNumbers.l0 | unfold impl_groupNumbers.l1 | unfold impl_groupNumbers.j2 | unfold impl_groupNumbers.l2 | unfold impl_groupNumbers.l3
   exact LM6 ih0 ih1 ih2 ih3 ih4 impl_besideOf.mono)
theorem impl_groupNumbers.mono : ∀ a0 a1 a2 k, LeO (impl_groupNumbers.f k a0 a1 a2) (impl_groupNumbers.f (k + 1) a0 a1 a2) := by
 intro a0 a1 a2 k
 obtain ⟨ih0, ih1, ih2, ih3, ih4⟩ := impl_groupNumbers.mono_l k
 unfold impl_groupNumbers.f
 exact LM6 ih0 ih1 ih2 ih3 ih4 impl_besideOf.mono
set_option maxHeartbeats 8000000 in
set_option maxRecDepth 100000 in
theorem impl_groupNumbers.calls (k : Nat) (a0_0 : Int) (a0_1 : Int) (A0_2 : Option Addr) (c0_2 : Nat) (l0_2 : List (S45)) (r : List Int) (w : World) (hr0_2 : Kd.C k45 w A0_2 l0_2.length l0_2) (hc0_2 : l0_2.length <= c0_2) (h : impl_groupNumbers.f k a0_0 a0_1 l0_2 = some r) :
 Calls Try.prog 29 #[.agg #[.int .i64 a0_0, .int .i64 a0_1, .slice A0_2 l0_2.length c0_2]] w fun e w' => ∃ v0_ : Value, e = .returned (v0_) /\ Kd.R (Kd.int .i64) 3 w' w.heap.size (fun _ => True) v0_ r /\ Below w.heap.size w w' := by
 have hu28 := Try.underlying28
 have hu45 := Try.underlying45
 have HR0_2 := Aside0.mk hr0_2
 have HC0_2 := Aside0.mk hc0_2
 clear hr0_2 hc0_2
 have HB := Aside0.mk (Below.refl w.heap.size w)
 have H := h
 clear h
 unfold impl_groupNumbers.f at H
 replace H := ifP H; obtain ⟨c2, H⟩ := H
 have c2b0 := eq_true c2
 have c2b1 := decide_eq_true c2
 clear c2
 replace H := ifP H; obtain ⟨c3, H⟩ := H
 have c3b0 := eq_true c3
 have c3b1 := decide_eq_true c3
 clear c3
 replace H := nameB H; obtain ⟨y267, Ny267, H⟩ := H
 have H' := Aside0.mk H
 clear H
 go_enter Try.func29, Try.ntmps29
 go_wp2_with (first | ((with_reducible refine gate_dst (N := 1) rfl ?_); refine boxE (cs := #[.int .i64 a0_0, .int .i64 a0_1, .slice A0_2 l0_2.length c0_2]) (t := 28) ?_; intro gb266 hg w4 hbox hb; refine E4b HB.1 hg hbox hb ?_; clear HB; intro HB BK266 GW266 GE266; clear hb hbox hg; obtain ⟨hcz5_0, hcz5_1, hcz5_2, hfz5_0, hfz5_1, hfz5_2⟩ := cz3 BK266.1) | ((with_reducible refine gate_dst (N := 15) rfl ?_); refine R_make (Kd.int .i64) _ 3 rfl (N := 15) rfl 42 _ _ rfl (l0_2.length : Int) rfl rfl Try.underlying42 (.int .i64 0) 8 info3 rfl (by decide) (by omega) 0 (ok := fun _ => True) (okp := fun _ => True) rfl (fun _ hk => hk) trivial (OD) (Nat.le_trans (Nat.mul_le_mul_right _ (OD : (l0_2.length : Int).toNat <= 35184372088832)) (by omega)) (Below.refl _ _) (Nat.le_refl _) ?_; intro v268 w6 ho7 hb hg_ hnew_; clear hg_ hnew_; (first | rw [<- Ny267.1] at ho7 | (simp only [Int.reduceToNat] at ho7; rw [<- Ny267.1] at ho7)); refine E3 (R_lower ho7 (bZ HB.1)) (bB BK266.1 hb) (bS HB.1 hb) ?_; clear BK266 HB; intro HO269 BK266 HB; clear hb ho7; obtain ⟨Ao8, co8, eo8⟩ := R_slice HO269.1; subst eo8))
 go_loopg [18] k (fun kq v18 w' => ∃ (x3_1 : List Int) (x18_1 : Int), v18 = .int .i64 x18_1 /\ Aside0 (impl_groupNumbers.l0 kq x3_1 (y267.length : Int) x18_1 a0_0 a0_1 l0_2 = some r) /\ Aside0 (kq <= k) /\ Aside0 (Kd.R (Kd.int .i64) 3 w' w.heap.size (fun _ => True) (.slice Ao8 y267.length co8) x3_1) /\ Aside0 (w'.heap[gb266]? = some (.cells #[.int .i64 a0_0, .int .i64 a0_1, (.slice A0_2 l0_2.length c0_2)] 28 (0, 0))) /\ Aside0 (Below w.heap.size w w'))
 case atStart => exact ⟨(y267), (0), RG, H', ⟨Nat.le_refl _⟩, ⟨PR HO269.1⟩, ⟨PB BK266.1⟩, ⟨BL HB.1⟩⟩
 clear H'
 clear c2b0 c2b1 c3b0 c3b1 hcz5_0 hcz5_1 hcz5_2 hfz5_0 hfz5_1 hfz5_2
 obtain ⟨x3_1, x18_1, rfl, HA, HK1, HO_3, BK266, HB⟩ := hrel
 have hl3_1 := (R_reads' HO_3.1).1
 rw [hl3_1] at HO_3
 (try simp only [hl3_1])
 (try simp only [hl3_1] at BK266)
 cases gk with
 | zero => exact absurd HA.1 (by simp [impl_groupNumbers.l0])
 | succ k1 => ?_
 have H := HA.1
 clear HA
 simp only [impl_groupNumbers.l0] at H
 replace H := ifB H; rcases H with ⟨c9b0, H⟩ | ⟨c9b0, H⟩
 · replace H := ifN H; obtain ⟨c10b0, H⟩ := H
   replace H := ifN H; obtain ⟨c11b0, H⟩ := H
   generalize hy270 : ((x3_1.set (x18_1 : Int).toNat (-1)) : List Int) = y270 at H
   have Ny270 := Aside0.mk hy270.symm; clear hy270
   have H' := Aside0.mk H
   clear H
   have p12 : 0 <= (x18_1 : Int) := OD
   have q12 : (x18_1 : Int) < ((x3_1.length : Int) : Int) := OD
   obtain ⟨go12, co12, eo12, gb12, gl12, cl12, HG12⟩ := R_form HO_3.1 (by omega)
   (first | cases eo12 | (injection eo12 with ea_ en_ ec_; (first | subst ea_ | (injection ea_ with ea_; subst ea_)); subst ec_; clear en_))
   have GB12 := Aside0.mk gb12
   have GG12 := Aside0.mk HG12
   clear gb12 gl12 HG12
   obtain ⟨hx12_0, hf12_0⟩ := R_celln 0 HO_3.1 (x18_1 : Int) p12 q12
   replace p12 := eq_true p12
   replace q12 := eq_true q12
   have HP13 := R_putg HO_3.1 (x18_1 : Int) (-1)
   go_wp2_with (first | ((with_reducible refine gate_store (t := 3) (p := 23) rfl ?_); refine storeE (t := 3) (p := 23) (w1 := (wr.setCell ⟨go12, (x18_1 : Int).toNat, none⟩ (.int .i64 (-1)))) ?_; intro w14 hw; have hg : wr.grownBy w14 (some go12) := (by rw [hw]; exact HP13.2); have hp_ : Kd.R (Kd.int .i64) 3 w14 w.heap.size (fun _ => True) (.slice (some ⟨go12, 0, none⟩) x3_1.length co8) y270 := (by rw [hw, Ny270.1]; exact HP13.1); clear HP13; refine E3 (hp_) (bG BK266.1 hg (R_ne HO_3.1 BK266.1 (by decide))) ((by rw [hw]; exact below_set (HB.1) GB12.1 : Below w.heap.size w w14)) ?_; clear HO_3 BK266 HB; intro HO_3 BK266 HB; clear hg hw hp_))
   (try simp only [<- hl3_1])
   go_roundg k1
   case measure => have := HK1.1; omega
   case rel => exact ⟨(y270), (wrap64 (x18_1 + 1)), RG, H', ⟨by have := HK1.1; omega⟩, ⟨PR1 HO_3.1 hl3_1⟩, ⟨PB1 BK266.1 hl3_1⟩, ⟨BL HB.1⟩⟩
 (try simp only [hl3_1] at c9b0)
 have H' := Aside0.mk H
 clear H
 obtain ⟨hcz15_0, hcz15_1, hcz15_2, hfz15_0, hfz15_1, hfz15_2⟩ := cz3 BK266.1
 go_wp2
 go_loopg [5, 28] k1 (fun kq v5 v28 w' => ∃ (x3_2 : List Int) (x5_2 : Int) (x28_2 : Int), v5 = .int .i64 x5_2 /\ v28 = .int .i64 x28_2 /\ Aside0 (impl_groupNumbers.l1 kq x3_2 x5_2 l0_2 (l0_2.length : Int) x28_2 a0_0 a0_1 l0_2 = some r) /\ Aside0 (kq <= k1) /\ Aside0 (Kd.R (Kd.int .i64) 3 w' w.heap.size (fun _ => True) (.slice Ao8 x3_1.length co8) x3_2) /\ Aside0 (w'.heap[gb266]? = some (.cells #[.int .i64 a0_0, .int .i64 a0_1, (.slice A0_2 l0_2.length c0_2)] 28 (0, 0))) /\ Aside0 (Below w.heap.size w w'))
 case atStart => exact ⟨(x3_1), (0), (0), RG, RG, H', ⟨Nat.le_refl _⟩, ⟨PR1 HO_3.1 hl3_1⟩, ⟨PB1 BK266.1 hl3_1⟩, ⟨BL HB.1⟩⟩
 clear H'
 clear c9b0 hcz15_0 hcz15_1 hcz15_2 hfz15_0 hfz15_1 hfz15_2
 obtain ⟨x3_2, x5_2, x28_2, rfl, rfl, HA, HK2, HO_3, BK266, HB⟩ := hrel
 have hl3_2 := (R_reads' HO_3.1).1
 rw [hl3_2] at HO_3
 (try simp only [hl3_2])
 (try simp only [hl3_2] at BK266)
 cases gk with
 | zero => exact absurd HA.1 (by simp [impl_groupNumbers.l1])
 | succ k2 => ?_
 have H := HA.1
 clear HA
 simp only [impl_groupNumbers.l1] at H
 replace H := ifB H; rcases H with ⟨c16b0, H⟩ | ⟨c16b0, H⟩
 · replace H := ifN H; obtain ⟨c17b0, H⟩ := H
   replace H := ifN H; obtain ⟨c18b0, H⟩ := H
   have HC19 := Aside0.mk H
   clear H
   have p271 : 0 <= (x28_2 : Int) := OD
   have q271 : x28_2 < (l0_2.length : Int) := OD
   obtain ⟨ad271, e271, hx271_0, hx271_1⟩ := at_T45 HR0_2.1 x28_2 p271 q271
   cases e271
   replace hx271_0 := (HB.1.cell (World.block_lt_of_cell? w _ hx271_0)).trans hx271_0
   replace hx271_1 := (HB.1.cell (World.block_lt_of_cell? w _ hx271_1)).trans hx271_1
   replace p271 := eq_true p271
   replace q271 := eq_true q271
   go_upto_region 11 with (first | ((with_reducible refine gate_dst (N := 7) rfl ?_); refine boxE (cs := #[.int .i64 0, .int .i64 0]) (t := 45) ?_; intro gb272 hg w20 hbox hb; refine E8 (rB HO_3.1 hb) (bB BK266.1 hb) (bS HB.1 hb) (hbox) (gX HB.1 hg) (gX HB.1 hg) (nB BK266.1 hg) (nC BK266.1 hg) ?_; clear HO_3 BK266 HB; intro HO_3 BK266 HB BK272 GW272 GE272 NB266_272 NB272_266; clear hb hbox hg; have hnb21 := NB272_266.1; have hnc21 := NB266_272.1; obtain ⟨hcz22_0, hcz22_1, hfz22_0, hfz22_1⟩ := cz2 BK272.1))
   (try simp only [Act.put, List.setIfInBounds_toArray, List.set_cons_zero, List.set_cons_succ])
   go_cut [42] (fun v42 wc => ∃ (kq : Nat) (x42_18 : Bool), v42 = .bool x42_18 /\ Aside0 (impl_groupNumbers.j2 kq x3_2 x5_2 x28_2 l0_2 (l0_2.length : Int) x28_2 x42_18 a0_0 a0_1 l0_2 = some r) /\ Aside0 (kq <= k2) /\ Aside0 (Kd.R (Kd.int .i64) 3 wc w.heap.size (fun _ => True) (.slice Ao8 x3_2.length co8) x3_2) /\ Aside0 (wc.heap[gb266]? = some (.cells #[.int .i64 a0_0, .int .i64 a0_1, (.slice (some ad271) l0_2.length c0_2)] 28 (0, 0))) /\ Aside0 (wc.heap[gb272]? = some (.cells #[.int .i64 ((rd_T45 l0_2 x28_2).f0), .int .i64 ((rd_T45 l0_2 x28_2).f1)] 45 (0, 0))) /\ Aside0 (Below w.heap.size w wc))
   case first =>
    have H := HC19.1
    clear HC19
    replace H := bindA H; obtain ⟨t273, A23, H⟩ := H
    replace H := ifX H; rcases H with ⟨rfl, H⟩ | ⟨rfl, H⟩
    · replace H := ifN H; obtain ⟨c25b0, H⟩ := H
      (first | rw [c25b0] | (simp only [i64_w, i32_w]; rw [c25b0]) | skip)
      have H' := Aside0.mk H
      clear H
      obtain ⟨hcz27_0, hcz27_1, hfz27_0, hfz27_1⟩ := cz2 BK272.1
      go_wp2_with (first | ((with_reducible refine gate_callee (f := 35) rfl ?_); refine goesM (N := (some 34)) #[.agg #[.int .i64 ((rd_T45 l0_2 x28_2).f0), .int .i64 ((rd_T45 l0_2 x28_2).f1)]] Try.func35 ?_; (with_reducible refine (impl_isGeared.calls ((rd_T45 l0_2 x28_2).f0) ((rd_T45 l0_2 x28_2).f1) true _ A23.1).mono ?_); rintro e w28 ⟨rfl, hb⟩; refine ⟨_, rfl, ?_⟩; refine E4 (R_below (by (with_reducible repeat (first | apply R_alloc | apply R_drewN | apply R_drew)); exact (R_mono (RQ gb272 1 (RQ gb272 0 (R_types HO_3.1 BK272.1 (by decide)) _) _) (fun _ h_ => h_.1))) hb) (blk_below (g := gb266) (o := .cells #[.int .i64 a0_0, .int .i64 a0_1, .slice (some ad271) l0_2.length c0_2] 28 (0, 0)) (PF1 NB266_272.1 BK266.1) hb) (blk_below (g := gb272) (o := .cells #[.int .i64 ((rd_T45 l0_2 x28_2).f0), .int .i64 ((rd_T45 l0_2 x28_2).f1)] 45 (0, 0)) (PF0 BK272.1) hb) (bS HB.1 hb) ?_; clear HO_3 BK266 BK272 HB; intro HO_3 BK266 BK272 HB; (try clear hb); have p274 : 0 <= (x28_2 : Int) := OD; have q274 : x28_2 < (x3_2.length : Int) := OD; obtain ⟨ad274, e274, hx274_0⟩ := Kd.at_int (R_reads' HO_3.1).2.2 x28_2 p274 q274; cases e274; replace p274 := eq_true p274; replace q274 := eq_true q274))
      go_meet
      case rel => exact ⟨_, (decide ((rd x3_2 x28_2) ≥ 0)), RG, H', ⟨by have := HK1.1; have := HK2.1; first | omega | exact Nat.le_refl _⟩, ⟨PR2 HO_3.1 hl3_1 hl3_2⟩, ⟨PB2 BK266.1 hl3_1 hl3_2⟩, ⟨PB2 BK272.1 hl3_1 hl3_2⟩, ⟨BL HB.1⟩⟩
    have H' := Aside0.mk H
    clear H
    obtain ⟨hcz30_0, hcz30_1, hfz30_0, hfz30_1⟩ := cz2 BK272.1
    go_wp2_with (first | ((with_reducible refine gate_callee (f := 35) rfl ?_); refine goesM (N := (some 34)) #[.agg #[.int .i64 ((rd_T45 l0_2 x28_2).f0), .int .i64 ((rd_T45 l0_2 x28_2).f1)]] Try.func35 ?_; (with_reducible refine (impl_isGeared.calls ((rd_T45 l0_2 x28_2).f0) ((rd_T45 l0_2 x28_2).f1) false _ A23.1).mono ?_); rintro e w31 ⟨rfl, hb⟩; refine ⟨_, rfl, ?_⟩; refine E4 (R_below (by (with_reducible repeat (first | apply R_alloc | apply R_drewN | apply R_drew)); exact (R_mono (RQ gb272 1 (RQ gb272 0 (R_types HO_3.1 BK272.1 (by decide)) _) _) (fun _ h_ => h_.1))) hb) (blk_below (g := gb266) (o := .cells #[.int .i64 a0_0, .int .i64 a0_1, .slice (some ad271) l0_2.length c0_2] 28 (0, 0)) (PF1 NB266_272.1 BK266.1) hb) (blk_below (g := gb272) (o := .cells #[.int .i64 ((rd_T45 l0_2 x28_2).f0), .int .i64 ((rd_T45 l0_2 x28_2).f1)] 45 (0, 0)) (PF0 BK272.1) hb) (bS HB.1 hb) ?_; clear HO_3 BK266 BK272 HB; intro HO_3 BK266 BK272 HB; (try clear hb)))
    go_meet
    case rel => exact ⟨_, (true), RG, H', ⟨by have := HK1.1; have := HK2.1; first | omega | exact Nat.le_refl _⟩, ⟨PR2 HO_3.1 hl3_1 hl3_2⟩, ⟨PB2 BK266.1 hl3_1 hl3_2⟩, ⟨PB2 BK272.1 hl3_1 hl3_2⟩, ⟨BL HB.1⟩⟩
   clear HC19
   try clear hx271_0; try clear hx271_1; try clear p271; try clear q271; clear c16b0 c17b0 c18b0 hcz22_0 hcz22_1 hfz22_0 hfz22_1
   obtain ⟨kq, x42_18, rfl, HA, HJ18, HO_3, BK266, BK272, HB⟩ := hcut
   cases kq with
   | zero => exact absurd HA.1 (by simp [impl_groupNumbers.j2])
   | succ kj18 => ?_
   have H := HA.1
   clear HA
   simp only [impl_groupNumbers.j2] at H
   replace H := ifX H; rcases H with ⟨rfl, H⟩ | ⟨rfl, H⟩
   · have H' := Aside0.mk H
     clear H
     go_wp2
     (try simp only [<- hl3_2])
     go_roundg kj18
     case measure => have := HK1.1; have := HK2.1; have := HJ18.1; omega
     case rel => exact ⟨(x3_2), (x5_2), (wrap64 (x28_2 + 1)), RG, RG, H', ⟨by have := HK1.1; have := HK2.1; have := HJ18.1; omega⟩, ⟨PR2 HO_3.1 hl3_1 hl3_2⟩, ⟨PB2 BK266.1 hl3_1 hl3_2⟩, ⟨BL HB.1⟩⟩
   replace H := ifN H; obtain ⟨c33b0, H⟩ := H
   replace H := ifN H; obtain ⟨c34b0, H⟩ := H
   generalize hy275 : ((x3_2.set (x28_2 : Int).toNat x5_2) : List Int) = y275 at H
   have Ny275 := Aside0.mk hy275.symm; clear hy275
   generalize hy276 : ((([x28_2] : List Int)) : List Int) = y276 at H
   have Ny276 := Aside0.mk hy276.symm; clear hy276
   have H' := Aside0.mk H
   clear H
   have p35 : 0 <= (x28_2 : Int) := OD
   have q35 : (x28_2 : Int) < ((x3_2.length : Int) : Int) := OD
   obtain ⟨go35, co35, eo35, gb35, gl35, cl35, HG35⟩ := R_form HO_3.1 (by omega)
   (first | cases eo35 | (injection eo35 with ea_ en_ ec_; (first | subst ea_ | (injection ea_ with ea_; subst ea_)); subst ec_; clear en_))
   have GB35 := Aside0.mk gb35
   have GG35 := Aside0.mk HG35
   clear gb35 gl35 HG35
   obtain ⟨hx35_0, hf35_0⟩ := R_celln 0 HO_3.1 (x28_2 : Int) p35 q35
   replace p35 := eq_true p35
   replace q35 := eq_true q35
   have HP36 := R_putg HO_3.1 (x28_2 : Int) x5_2
   go_wp2_with (first | ((with_reducible refine gate_store (t := 3) (p := 46) rfl ?_); refine storeE (t := 3) (p := 46) (w1 := (wc.setCell ⟨go35, (x28_2 : Int).toNat, none⟩ (.int .i64 x5_2))) ?_; intro w37 hw; have hg : wc.grownBy w37 (some go35) := (by rw [hw]; exact HP36.2); have hp_ : Kd.R (Kd.int .i64) 3 w37 w.heap.size (fun _ => True) (.slice (some ⟨go35, 0, none⟩) x3_2.length co8) y275 := (by rw [hw, Ny275.1]; exact HP36.1); clear HP36; refine E4 (hp_) (bG BK266.1 hg (R_ne HO_3.1 BK266.1 (by decide))) (bG BK272.1 hg (R_ne HO_3.1 BK272.1 (by decide))) ((by rw [hw]; exact below_set (HB.1) GB35.1 : Below w.heap.size w w37)) ?_; clear HO_3 BK266 BK272 HB; intro HO_3 BK266 BK272 HB; clear hg hw hp_) | ((with_reducible refine gate_dst (N := 48) rfl ?_); refine R_lit (Kd.int .i64) _ 3 ?hg (N := 48) ?hd (xs := ([x28_2] : List Int)) (inner := [.int .i64 x28_2]) (ok := fun _ => True) (okp := fun _ => True) ?hr ?hp (fun _ hk => hk) trivial (Below.refl _ _) (Nat.le_refl _) (by simp) ?_; (case hd => rfl); (case hg => rfl); (case hr => first | (go_simp; done) | (go_simp; rfl)); (case hp => exact (Reps.one (show Kd.M (Kd.int .i64) _ _ _ x28_2 [.int .i64 x28_2] from rfl) (Reps.none _ _))); intro v277 w38 ho39 hb hg_ hnew_; clear hg_ hnew_; (first | rw [<- Ny276.1] at ho39 | (simp only [Int.reduceToNat] at ho39; rw [<- Ny276.1] at ho39)); refine E5 (R_elder' (PR HO_3.1) (R_base ho39) hb) (R_lower (R_new' ho39 (R_lt (PR HO_3.1))) (bZ HB.1)) (bB BK266.1 hb) (bB BK272.1 hb) (bS HB.1 hb) ?_; clear HO_3 BK266 BK272 HB; intro HO_3 HO278 BK266 BK272 HB; clear hb ho39))
   go_loopg [8] kj18 (fun kq v8 w' => ∃ (x3_4 : List Int) (x8_4 : List Int), Aside0 (impl_groupNumbers.l2 kq x3_4 x5_2 x8_4 l0_2 (l0_2.length : Int) x28_2 a0_0 a0_1 l0_2 = some r) /\ Aside0 (kq <= kj18) /\ Aside0 (Kd.R (Kd.int .i64) 3 w' w.heap.size (fun k_ => some k_ ≠ (v8 : Value).ownBlock) (.slice (some ⟨go35, 0, none⟩) x3_2.length co8) x3_4) /\ Aside0 (Kd.Q (Kd.int .i64) 3 w' w.heap.size (fun k_ => some k_ ≠ ((.slice (some ⟨go35, 0, none⟩) x3_2.length co8) : Value).ownBlock) v8 x8_4) /\ Aside0 (w'.heap[gb266]? = some (.cells #[.int .i64 a0_0, .int .i64 a0_1, (.slice (some ad271) l0_2.length c0_2)] 28 (0, 0))) /\ Aside0 (w'.heap[gb272]? = some (.cells #[.int .i64 ((rd_T45 l0_2 x28_2).f0), .int .i64 ((rd_T45 l0_2 x28_2).f1)] 45 (0, 0))) /\ Aside0 (Below w.heap.size w w'))
   case atStart => exact ⟨(y275), (y276), H', ⟨Nat.le_refl _⟩, ⟨by (try simp only [hl3_1]); (try simp only [hl3_2]); (with_reducible repeat (first | apply R_alloc | apply R_drewN | apply R_drew)); exact R_mono HO_3.1 (fun _ hk => hk.2)⟩, ⟨Q_of_R (by (try simp only [hl3_1]); (try simp only [hl3_2]); (with_reducible repeat (first | apply R_alloc | apply R_drewN | apply R_drew)); exact R_mono HO278.1 (fun _ hk => hk.2))⟩, ⟨PB2 BK266.1 hl3_1 hl3_2⟩, ⟨PB2 BK272.1 hl3_1 hl3_2⟩, ⟨BL HB.1⟩⟩
   clear H'
   try clear p35; try clear q35; try clear hx35_0; clear c33b0 c34b0
   obtain ⟨x3_4, x8_4, HA, HK4, HO_3, HO_8, BK266, BK272, HB⟩ := hrel
   have hl3_4 := (R_reads' HO_3.1).1
   rw [hl3_4] at HO_3
   (try simp only [hl3_4])
   (try simp only [hl3_4] at BK266)
   (try simp only [hl3_4] at BK272)
   (try simp only [hl3_4] at HO_8)
   cases gk with
   | zero => exact absurd HA.1 (by simp [impl_groupNumbers.l2])
   | succ k4 => ?_
   have H := HA.1
   clear HA
   simp only [impl_groupNumbers.l2] at H
   replace H := ifQ H; rcases H with ⟨c40, H⟩ | ⟨c40, H⟩
   · have c40b0 : decide (0 < (x8_4.length : Int)) = true := decide_eq_true c40
     have c40b1 : decide (0 < x8_4.length) = true := decide_eq_true (by omega)
     clear c40
     replace H := ifP H; obtain ⟨c41, H⟩ := H
     have c41b0 := decide_eq_true c41
     have c41b1 : decide (0 < x8_4.length) = true := decide_eq_true (by omega)
     clear c41
     replace H := ifP H; obtain ⟨c42, H⟩ := H
     have c42b0 := eq_true c42
     have c42b1 := decide_eq_true c42
     clear c42
     generalize hy280 : ((x8_4.drop (1 : Int).toNat) : List Int) = y280 at H
     have Ny280 := Aside0.mk hy280.symm; clear hy280
     replace H := bindA H; obtain ⟨t283, A43, H⟩ := H
     have H' := Aside0.mk H
     clear H
     obtain ⟨Ao44, co44, eo44, _⟩ := Q_slice HO_8.1
     subst eo44
     have p279 : 0 <= (0 : Int) := (by omega)
     have q279 : 0 < (x8_4.length : Int) := OD
     obtain ⟨ad279, e279, hx279_0⟩ := Kd.at_int (Q_reads' HO_8.1).2.2 0 p279 q279
     cases e279
     have qi279 : (0 < x8_4.length) = True := eq_true (by omega)
     (try rw [show ((0 : Int)).toNat = 0 from rfl] at hx279_0)
     (try rw [Addr.add_zero'] at hx279_0)
     replace p279 := eq_true p279
     replace q279 := eq_true q279
     have q45 : (1 : Int) <= ((x8_4.length : Int) : Int) := OD
     obtain ⟨i045, hi045, _, hsz45, _⟩ := info_parts info3
     have hcut45 := cut_from (P := Try.prog) 42 3 .i64 Try.underlying42 hi045 1 hsz45 (some ad279) x8_4.length co44 1 (by omega) q45
     have hr45 := Q_drop (k := (1 : Int).toNat) HO_8.1 (by omega)
     obtain ⟨A45, hA45⟩ : ∃ A1, A1 = (if co44 = (1 : Int).toNat then (some ad279) else ((some ad279) : Option Addr).map (·.add ((1 : Int).toNat * 1))) := ⟨_, rfl⟩
     obtain ⟨c45, hc45⟩ : ∃ c1, c1 = co44 - (1 : Int).toNat := ⟨_, rfl⟩
     have hy45 : y280.length = x8_4.length - (1 : Int).toNat := (by rw [Ny280.1, List.length_drop])
     rw [<- Ny280.1] at hr45
     rw [<- hy45, <- hA45, <- hc45] at hcut45
     replace hr45 : Kd.Q (Kd.int .i64) 3 wr w.heap.size (fun k_ => some k_ ≠ (.slice (some ⟨go35, 0, none⟩) x3_4.length co8 : Value).ownBlock) (.slice A45 y280.length c45) y280 := (by rw [hA45, hc45, hy45]; exact hr45)
     have HE45 : Aside0 ((Value.slice A45 y280.length c45).ownBlock = (.slice (some ad279) x8_4.length co44 : Value).ownBlock) := ⟨by rw [hA45]; split <;> (cases ((some ad279) : Option Addr) <;> rfl)⟩
     clear hy45 hi045 hsz45 HO_8 hA45 hc45
     have HO282 := Aside0.mk hr45
     clear hr45
     replace q45 := eq_true q45
     have n_ := Aside0.mk (R_mono (ok' := fun k_ => some k_ ≠ (.slice A45 y280.length c45 : Value).ownBlock) HO_3.1 (fun k_ hk => (by rw [HE45.1]; exact hk)))
     clear HO_3
     have HO_3 := n_
     clear n_
     obtain ⟨hcz47_0, hcz47_1, hcz47_2, hfz47_0, hfz47_1, hfz47_2⟩ := cz3 BK266.1
     go_wp2_with (first | ((with_reducible refine gate_callee (f := 36) rfl ?_); refine goesM (N := (some 59)) #[.agg #[.int .i64 a0_0, .int .i64 a0_1, .slice (some ad271) l0_2.length c0_2], .int .i64 (rd x8_4 0)] Try.func36 ?_; (with_reducible refine (impl_besideOf.calls k4 a0_0 a0_1 _ _ l0_2 (rd x8_4 0) t283 _ ?side1 ?side2 A43.1).mono ?_); (case side1 => exact CB (C_below HR0_2.1 HB.1)); (case side2 => exact HC0_2.1); rintro e w48 ⟨v284, rfl, ho0, hb⟩; refine ⟨_, rfl, ?_⟩; refine E6 (R_elder' (PR HO_3.1) (R_base ho0) hb) (Q_elder' (by (with_reducible repeat (first | apply Q_alloc | apply Q_drewN | apply Q_drew)); exact HO282.1) (R_base ho0) hb) (R_lower (R_new' (R_new' ho0 (R_lt (PR HO_3.1))) (Q_lt (by (with_reducible repeat (first | apply Q_alloc | apply Q_drewN | apply Q_drew)); exact HO282.1))) (bZ HB.1)) (bB BK266.1 hb) (bB BK272.1 hb) (bS HB.1 hb) ?_; clear HO_3 HO282 BK266 BK272 HB; intro HO_3 HO282 HO285 BK266 BK272 HB; (try clear hb); (try clear ho0); obtain ⟨Ao49, co49, eo49⟩ := R_slice HO285.1; subst eo49))
     go_loopg [8, 61] k4 (fun kq v8 v61 w' => ∃ (x3_5 : List Int) (x8_5 : List Int) (x61_5 : Int), v61 = .int .i64 x61_5 /\ Aside0 (impl_groupNumbers.l3 kq x3_5 x5_2 x8_5 l0_2 (l0_2.length : Int) x28_2 t283 (t283.length : Int) x61_5 a0_0 a0_1 l0_2 = some r) /\ Aside0 (kq <= k4) /\ Aside0 (Kd.R (Kd.int .i64) 3 w' w.heap.size (fun k_ => some k_ ≠ (v8 : Value).ownBlock /\ some k_ ≠ ((.slice Ao49 t283.length co49) : Value).ownBlock) (.slice (some ⟨go35, 0, none⟩) x3_4.length co8) x3_5) /\ Aside0 (Kd.Q (Kd.int .i64) 3 w' w.heap.size (fun k_ => some k_ ≠ ((.slice (some ⟨go35, 0, none⟩) x3_4.length co8) : Value).ownBlock /\ some k_ ≠ ((.slice Ao49 t283.length co49) : Value).ownBlock) v8 x8_5) /\ Aside0 (Kd.R (Kd.int .i64) 3 w' w.heap.size (fun k_ => some k_ ≠ ((.slice (some ⟨go35, 0, none⟩) x3_4.length co8) : Value).ownBlock /\ some k_ ≠ (v8 : Value).ownBlock) (.slice Ao49 t283.length co49) t283) /\ Aside0 (w'.heap[gb266]? = some (.cells #[.int .i64 a0_0, .int .i64 a0_1, (.slice (some ad271) l0_2.length c0_2)] 28 (0, 0))) /\ Aside0 (w'.heap[gb272]? = some (.cells #[.int .i64 ((rd_T45 l0_2 x28_2).f0), .int .i64 ((rd_T45 l0_2 x28_2).f1)] 45 (0, 0))) /\ Aside0 (Below w.heap.size w w'))
     case atStart => exact ⟨(x3_4), (y280), (0), RG, H', ⟨Nat.le_refl _⟩, ⟨PR3 HO_3.1 hl3_1 hl3_2 hl3_4⟩, ⟨by (try simp only [hl3_1]); (try simp only [hl3_2]); (try simp only [hl3_4]); (with_reducible repeat (first | apply Q_alloc | apply Q_drewN | apply Q_drew)); exact HO282.1⟩, ⟨by (try simp only [hl3_1]); (try simp only [hl3_2]); (try simp only [hl3_4]); (with_reducible repeat (first | apply R_alloc | apply R_drewN | apply R_drew)); exact R_mono HO285.1 (fun _ hk => ⟨hk.1.2, hk.2⟩)⟩, ⟨PB3 BK266.1 hl3_1 hl3_2 hl3_4⟩, ⟨PB3 BK272.1 hl3_1 hl3_2 hl3_4⟩, ⟨BL HB.1⟩⟩
     clear H'
     try clear c1; try clear c45; try clear q45; try clear hx279_0; try clear p279; try clear q279; clear c40b0 c40b1 c41b0 c41b1 c42b0 c42b1 hcz47_0 hcz47_1 hcz47_2 hfz47_0 hfz47_1 hfz47_2
     obtain ⟨x3_5, x8_5, x61_5, rfl, HA, HK5, HO_3, HO_8, HO_59, BK266, BK272, HB⟩ := hrel
     have hl3_5 := (R_reads' HO_3.1).1
     rw [hl3_5] at HO_3
     (try simp only [hl3_5])
     (try simp only [hl3_5] at BK266)
     (try simp only [hl3_5] at BK272)
     (try simp only [hl3_5] at HO_8)
     (try simp only [hl3_5] at HO_59)
     cases gk with
     | zero => exact absurd HA.1 (by simp [impl_groupNumbers.l3])
     | succ k5 => ?_
     have H := HA.1
     clear HA
     simp only [impl_groupNumbers.l3] at H
     replace H := ifB H; rcases H with ⟨c50b0, H⟩ | ⟨c50b0, H⟩
     · replace H := ifN H; obtain ⟨c51b0, H⟩ := H
       replace H := ifN H; obtain ⟨c52b0, H⟩ := H
       replace H := ifN H; obtain ⟨c53b0, H⟩ := H
       replace H := ifN H; obtain ⟨c54b0, H⟩ := H
       replace H := bindA H; obtain ⟨t288, A55, H⟩ := H
       replace H := ifX H; rcases H with ⟨rfl, H⟩ | ⟨rfl, H⟩
       · replace H := ifN H; obtain ⟨c57b0, H⟩ := H
         replace H := ifB H; rcases H with ⟨c58b0, H⟩ | ⟨c58b0, H⟩
         · generalize hy290 : ((x3_5.set ((rd t283 x61_5) : Int).toNat x5_2) : List Int) = y290 at H
           have Ny290 := Aside0.mk hy290.symm; clear hy290
           replace H := ifP H; obtain ⟨c60, H⟩ := H
           have LMc60 := Aside0.mk c60
           clear c60
           generalize hy291 : ((x8_5 ++ [rd t283 x61_5]) : List Int) = y291 at H
           have Ny291 := Aside0.mk hy291.symm; clear hy291
           have H' := Aside0.mk H
           clear H
           have p286 : 0 <= (x61_5 : Int) := OD
           have q286 : x61_5 < (t283.length : Int) := OD
           obtain ⟨ad286, e286, hx286_0⟩ := Kd.at_int (R_reads' HO_59.1).2.2 x61_5 p286 q286
           cases e286
           replace p286 := eq_true p286
           replace q286 := eq_true q286
           obtain ⟨hcz62_0, hcz62_1, hcz62_2, hfz62_0, hfz62_1, hfz62_2⟩ := cz3 BK266.1
           have p287 : 0 <= ((rd t283 x61_5) : Int) := OD
           have q287 : (rd t283 x61_5) < (l0_2.length : Int) := OD
           obtain ⟨ad287, e287, hx287_0, hx287_1⟩ := at_T45 HR0_2.1 (rd t283 x61_5) p287 q287
           obtain rfl : ad271 = ad287 := (by injection e287)
           replace hx287_0 := (HB.1.cell (World.block_lt_of_cell? w _ hx287_0)).trans hx287_0
           replace hx287_1 := (HB.1.cell (World.block_lt_of_cell? w _ hx287_1)).trans hx287_1
           replace p287 := eq_true p287
           replace q287 := eq_true q287
           go_wp2_with (first | ((with_reducible refine gate_callee (f := 35) rfl ?_); refine goesM (N := (some 70)) #[.agg #[.int .i64 ((rd_T45 l0_2 (rd t283 x61_5)).f0), .int .i64 ((rd_T45 l0_2 (rd t283 x61_5)).f1)]] Try.func35 ?_; (with_reducible refine (impl_isGeared.calls ((rd_T45 l0_2 (rd t283 x61_5)).f0) ((rd_T45 l0_2 (rd t283 x61_5)).f1) true _ A55.1).mono ?_); rintro e w63 ⟨rfl, hb⟩; refine ⟨_, rfl, ?_⟩; refine E6 (rB HO_3.1 hb) (Q_below (by (with_reducible repeat (first | apply Q_alloc | apply Q_drewN | apply Q_drew)); exact HO_8.1) hb) (rB HO_59.1 hb) (bB BK266.1 hb) (bB BK272.1 hb) (bS HB.1 hb) ?_; clear HO_3 HO_8 HO_59 BK266 BK272 HB; intro HO_3 HO_8 HO_59 BK266 BK272 HB; (try clear hb); have p289 : 0 <= ((rd t283 x61_5) : Int) := OD; have q289 : (rd t283 x61_5) < (x3_5.length : Int) := OD; obtain ⟨ad289, e289, hx289_0⟩ := Kd.at_int (R_reads' HO_3.1).2.2 (rd t283 x61_5) p289 q289; obtain rfl : (⟨go35, 0, none⟩ : Addr) = ad289 := (by injection e289); (first | simp only [add_plain] at hx289_0 | simp only [add_at] at hx289_0 | simp only [Addr.add, Nat.zero_add] at hx289_0 | skip); replace p289 := eq_true p289; replace q289 := eq_true q289; have p59 : 0 <= ((rd t283 x61_5) : Int) := OD; have q59 : ((rd t283 x61_5) : Int) < ((x3_5.length : Int) : Int) := OD; obtain ⟨hx59_0, hf59_0⟩ := R_celln 0 HO_3.1 ((rd t283 x61_5) : Int) p59 q59; replace p59 := eq_true p59; replace q59 := eq_true q59; obtain ⟨hy64_, hz64_⟩ := R_celln 0 HO_3.1 ((rd t283 x61_5) : Int) (OD) (OD); have HP64 := R_putg HO_3.1 ((rd t283 x61_5) : Int) x5_2) | ((with_reducible refine gate_store (t := 3) (p := 81) rfl ?_); refine storeE (t := 3) (p := 81) (w1 := (w63.setCell ⟨go35, ((rd t283 x61_5) : Int).toNat, none⟩ (.int .i64 x5_2))) ?_; intro w65 hw; have hg : w63.grownBy w65 (some go35) := (by rw [hw]; exact HP64.2); have hp_ : Kd.R (Kd.int .i64) 3 w65 w.heap.size (fun k_ => some k_ ≠ (u8 : Value).ownBlock /\ some k_ ≠ (.slice (some ad286) t283.length co49 : Value).ownBlock) (.slice (some ⟨go35, 0, none⟩) x3_5.length co8) y290 := (by rw [hw, Ny290.1]; exact HP64.1); clear HP64; refine E6 (hp_) (Q_after (v := (.slice (some ⟨go35, 0, none⟩) x3_5.length co8)) (v1 := (.slice (some ⟨go35, 0, none⟩) x3_5.length co8)) (ok := (fun k_ => some k_ ≠ (.slice (some ad286) t283.length co49 : Value).ownBlock)) (by (with_reducible repeat (first | apply Q_alloc | apply Q_drewN | apply Q_drew)); exact Q_mono HO_8.1 (fun _ hk => ⟨hk.2, hk.1⟩)) hg (.inl rfl)) (R_after (v := (.slice (some ⟨go35, 0, none⟩) x3_5.length co8)) (v1 := (.slice (some ⟨go35, 0, none⟩) x3_5.length co8)) (ok := (fun k_ => some k_ ≠ (u8 : Value).ownBlock)) (RPE (R_mono HO_59.1 (fun _ hk => ⟨hk.2, hk.1⟩))) hg (.inl rfl)) (bG BK266.1 hg (R_ne HO_3.1 BK266.1 (by decide))) (bG BK272.1 hg (R_ne HO_3.1 BK272.1 (by decide))) ((by rw [hw]; exact below_set (HB.1) GB35.1 : Below w.heap.size w w65)) ?_; clear HO_3 HO_8 HO_59 BK266 BK272 HB; intro HO_3 HO_8 HO_59 BK266 BK272 HB; clear hg hw hp_) | ((with_reducible refine gate_builtin (b := .append) (xs := #[.tmp 82, .tmp 84]) rfl ?_); at_builtin; refine Q_append (Kd.int .i64) (w0 := w) w.heap.size rfl (.tmp 82) (.tmp 84) 42 3 (.int .i64 0) 8 rfl Try.underlying42 info3 rfl (by decide) (by omega) u8 x8_5 (rd t283 x61_5) [.int .i64 (rd t283 x61_5)] (fun k_ => some k_ ≠ (.slice (some ⟨go35, 0, none⟩) x3_5.length co8 : Value).ownBlock /\ some k_ ≠ (.slice (some ad286) t283.length co49 : Value).ownBlock) (fun _ => False) rfl rfl ?aP (fun _ hk => hk.elim) ?aF ?aO ?aB ?aS ?aL ?_; (case aP => exact rfl); (case aB => exact (BL HB.1)); (case aF => exact (fun k_ hk => ⟨Kd.fresh' (R_lt (PR HO_3.1)) k_ hk, Kd.fresh' (R_lt (PR HO_59.1)) k_ hk⟩)); (case aO => exact (by (with_reducible repeat (first | apply Q_alloc | apply Q_drewN | apply Q_drew)); exact Q_mono HO_8.1 (fun _ hk => ⟨hk.2, hk.1⟩))); (case aS => exact (bZ HB.1)); (case aL => have := LMc60.1; omega); intro v292 w66 ho hb hg hat; rw [<- Ny291.1] at ho; refine E6 (R_after (ok := (fun k_ => some k_ ≠ (.slice (some ad286) t283.length co49 : Value).ownBlock)) (RPE (R_mono HO_3.1 (fun _ hk => ⟨hk.2, hk.1⟩))) hg hat) (R_after (ok := (fun k_ => some k_ ≠ (.slice (some ⟨go35, 0, none⟩) x3_5.length co8 : Value).ownBlock)) (RPE (R_mono HO_59.1 (fun _ hk => ⟨hk.2, hk.1⟩))) hg hat) (bG BK266.1 hg (Q_ne HO_8.1 BK266.1 (by decide))) (bG BK272.1 hg (Q_ne HO_8.1 BK272.1 (by decide))) (hb) (ho) ?_; clear HO_3 HO_59 BK266 BK272 HB HO_8; intro HO_3 HO_59 BK266 BK272 HB HO293; clear ho hb hg hat))
           (try simp only [<- hl3_5])
           go_roundg k5
           case measure => have := HK1.1; have := HK2.1; have := HJ18.1; have := HK4.1; have := HK5.1; omega
           case rel => exact ⟨(y290), (y291), (wrap64 (x61_5 + 1)), RG, H', ⟨by have := HK1.1; have := HK2.1; have := HJ18.1; have := HK4.1; have := HK5.1; omega⟩, ⟨by (try simp only [hl3_1]); (try simp only [hl3_2]); (try simp only [hl3_4]); (try simp only [hl3_5]); (with_reducible repeat (first | apply R_alloc | apply R_drewN | apply R_drew)); exact R_mono HO_3.1 (fun _ hk => ⟨hk.2, hk.1⟩)⟩, ⟨by (try simp only [hl3_1]); (try simp only [hl3_2]); (try simp only [hl3_4]); (try simp only [hl3_5]); (with_reducible repeat (first | apply Q_alloc | apply Q_drewN | apply Q_drew)); exact HO293.1⟩, ⟨PR4 HO_59.1 hl3_1 hl3_2 hl3_4 hl3_5⟩, ⟨PB4 BK266.1 hl3_1 hl3_2 hl3_4 hl3_5⟩, ⟨PB4 BK272.1 hl3_1 hl3_2 hl3_4 hl3_5⟩, ⟨BL HB.1⟩⟩
         have H' := Aside0.mk H
         clear H
         have p286 : 0 <= (x61_5 : Int) := OD
         have q286 : x61_5 < (t283.length : Int) := OD
         obtain ⟨ad286, e286, hx286_0⟩ := Kd.at_int (R_reads' HO_59.1).2.2 x61_5 p286 q286
         cases e286
         replace p286 := eq_true p286
         replace q286 := eq_true q286
         obtain ⟨hcz68_0, hcz68_1, hcz68_2, hfz68_0, hfz68_1, hfz68_2⟩ := cz3 BK266.1
         have p287 : 0 <= ((rd t283 x61_5) : Int) := OD
         have q287 : (rd t283 x61_5) < (l0_2.length : Int) := OD
         obtain ⟨ad287, e287, hx287_0, hx287_1⟩ := at_T45 HR0_2.1 (rd t283 x61_5) p287 q287
         obtain rfl : ad271 = ad287 := (by injection e287)
         replace hx287_0 := (HB.1.cell (World.block_lt_of_cell? w _ hx287_0)).trans hx287_0
         replace hx287_1 := (HB.1.cell (World.block_lt_of_cell? w _ hx287_1)).trans hx287_1
         replace p287 := eq_true p287
         replace q287 := eq_true q287
         go_wp2_with (first | ((with_reducible refine gate_callee (f := 35) rfl ?_); refine goesM (N := (some 70)) #[.agg #[.int .i64 ((rd_T45 l0_2 (rd t283 x61_5)).f0), .int .i64 ((rd_T45 l0_2 (rd t283 x61_5)).f1)]] Try.func35 ?_; (with_reducible refine (impl_isGeared.calls ((rd_T45 l0_2 (rd t283 x61_5)).f0) ((rd_T45 l0_2 (rd t283 x61_5)).f1) true _ A55.1).mono ?_); rintro e w69 ⟨rfl, hb⟩; refine ⟨_, rfl, ?_⟩; refine E6 (rB HO_3.1 hb) (Q_below (by (with_reducible repeat (first | apply Q_alloc | apply Q_drewN | apply Q_drew)); exact HO_8.1) hb) (rB HO_59.1 hb) (bB BK266.1 hb) (bB BK272.1 hb) (bS HB.1 hb) ?_; clear HO_3 HO_8 HO_59 BK266 BK272 HB; intro HO_3 HO_8 HO_59 BK266 BK272 HB; (try clear hb); have p289 : 0 <= ((rd t283 x61_5) : Int) := OD; have q289 : (rd t283 x61_5) < (x3_5.length : Int) := OD; obtain ⟨ad289, e289, hx289_0⟩ := Kd.at_int (R_reads' HO_3.1).2.2 (rd t283 x61_5) p289 q289; obtain rfl : (⟨go35, 0, none⟩ : Addr) = ad289 := (by injection e289); (first | simp only [add_plain] at hx289_0 | simp only [add_at] at hx289_0 | simp only [Addr.add, Nat.zero_add] at hx289_0 | skip); replace p289 := eq_true p289; replace q289 := eq_true q289))
         (try simp only [<- hl3_5])
         go_roundg k5
         case measure => have := HK1.1; have := HK2.1; have := HJ18.1; have := HK4.1; have := HK5.1; omega
         case rel => exact ⟨(x3_5), (x8_5), (wrap64 (x61_5 + 1)), RG, H', ⟨by have := HK1.1; have := HK2.1; have := HJ18.1; have := HK4.1; have := HK5.1; omega⟩, ⟨PR4 HO_3.1 hl3_1 hl3_2 hl3_4 hl3_5⟩, ⟨by (try simp only [hl3_1]); (try simp only [hl3_2]); (try simp only [hl3_4]); (try simp only [hl3_5]); (with_reducible repeat (first | apply Q_alloc | apply Q_drewN | apply Q_drew)); exact HO_8.1⟩, ⟨PR4 HO_59.1 hl3_1 hl3_2 hl3_4 hl3_5⟩, ⟨PB4 BK266.1 hl3_1 hl3_2 hl3_4 hl3_5⟩, ⟨PB4 BK272.1 hl3_1 hl3_2 hl3_4 hl3_5⟩, ⟨BL HB.1⟩⟩
       have H' := Aside0.mk H
       clear H
       have p286 : 0 <= (x61_5 : Int) := OD
       have q286 : x61_5 < (t283.length : Int) := OD
       obtain ⟨ad286, e286, hx286_0⟩ := Kd.at_int (R_reads' HO_59.1).2.2 x61_5 p286 q286
       cases e286
       replace p286 := eq_true p286
       replace q286 := eq_true q286
       obtain ⟨hcz71_0, hcz71_1, hcz71_2, hfz71_0, hfz71_1, hfz71_2⟩ := cz3 BK266.1
       have p287 : 0 <= ((rd t283 x61_5) : Int) := OD
       have q287 : (rd t283 x61_5) < (l0_2.length : Int) := OD
       obtain ⟨ad287, e287, hx287_0, hx287_1⟩ := at_T45 HR0_2.1 (rd t283 x61_5) p287 q287
       obtain rfl : ad271 = ad287 := (by injection e287)
       replace hx287_0 := (HB.1.cell (World.block_lt_of_cell? w _ hx287_0)).trans hx287_0
       replace hx287_1 := (HB.1.cell (World.block_lt_of_cell? w _ hx287_1)).trans hx287_1
       replace p287 := eq_true p287
       replace q287 := eq_true q287
       go_wp2_with (first | ((with_reducible refine gate_callee (f := 35) rfl ?_); refine goesM (N := (some 70)) #[.agg #[.int .i64 ((rd_T45 l0_2 (rd t283 x61_5)).f0), .int .i64 ((rd_T45 l0_2 (rd t283 x61_5)).f1)]] Try.func35 ?_; (with_reducible refine (impl_isGeared.calls ((rd_T45 l0_2 (rd t283 x61_5)).f0) ((rd_T45 l0_2 (rd t283 x61_5)).f1) false _ A55.1).mono ?_); rintro e w72 ⟨rfl, hb⟩; refine ⟨_, rfl, ?_⟩; refine E6 (rB HO_3.1 hb) (Q_below (by (with_reducible repeat (first | apply Q_alloc | apply Q_drewN | apply Q_drew)); exact HO_8.1) hb) (rB HO_59.1 hb) (bB BK266.1 hb) (bB BK272.1 hb) (bS HB.1 hb) ?_; clear HO_3 HO_8 HO_59 BK266 BK272 HB; intro HO_3 HO_8 HO_59 BK266 BK272 HB; (try clear hb)))
       (try simp only [<- hl3_5])
       go_roundg k5
       case measure => have := HK1.1; have := HK2.1; have := HJ18.1; have := HK4.1; have := HK5.1; omega
       case rel => exact ⟨(x3_5), (x8_5), (wrap64 (x61_5 + 1)), RG, H', ⟨by have := HK1.1; have := HK2.1; have := HJ18.1; have := HK4.1; have := HK5.1; omega⟩, ⟨PR4 HO_3.1 hl3_1 hl3_2 hl3_4 hl3_5⟩, ⟨by (try simp only [hl3_1]); (try simp only [hl3_2]); (try simp only [hl3_4]); (try simp only [hl3_5]); (with_reducible repeat (first | apply Q_alloc | apply Q_drewN | apply Q_drew)); exact HO_8.1⟩, ⟨PR4 HO_59.1 hl3_1 hl3_2 hl3_4 hl3_5⟩, ⟨PB4 BK266.1 hl3_1 hl3_2 hl3_4 hl3_5⟩, ⟨PB4 BK272.1 hl3_1 hl3_2 hl3_4 hl3_5⟩, ⟨BL HB.1⟩⟩
     (try simp only [hl3_1, hl3_2, hl3_4, hl3_5] at c50b0)
     have H' := Aside0.mk H
     clear H
     go_wp2
     (try simp only [<- hl3_4, <- hl3_5])
     go_roundg k5
     case measure => have := HK1.1; have := HK2.1; have := HJ18.1; have := HK4.1; have := HK5.1; omega
     case rel => exact ⟨(x3_5), (x8_5), H', ⟨by have := HK1.1; have := HK2.1; have := HJ18.1; have := HK4.1; have := HK5.1; omega⟩, ⟨by (try simp only [hl3_1]); (try simp only [hl3_2]); (try simp only [hl3_4]); (try simp only [hl3_5]); (with_reducible repeat (first | apply R_alloc | apply R_drewN | apply R_drew)); exact R_mono HO_3.1 (fun _ hk => hk.1)⟩, ⟨by (try simp only [hl3_1]); (try simp only [hl3_2]); (try simp only [hl3_4]); (try simp only [hl3_5]); (with_reducible repeat (first | apply Q_alloc | apply Q_drewN | apply Q_drew)); exact Q_mono HO_8.1 (fun _ hk => hk.1)⟩, ⟨PB4 BK266.1 hl3_1 hl3_2 hl3_4 hl3_5⟩, ⟨PB4 BK272.1 hl3_1 hl3_2 hl3_4 hl3_5⟩, ⟨BL HB.1⟩⟩
   have c40b0 : decide (0 < (x8_4.length : Int)) = false := decide_eq_false c40
   have c40b1 : decide (0 < x8_4.length) = false := decide_eq_false (by omega)
   clear c40
   (try simp only [hl3_1, hl3_2, hl3_4] at c40b1)
   have H' := Aside0.mk H
   clear H
   obtain ⟨Ao73, co73, eo73, _⟩ := Q_slice HO_8.1
   subst eo73
   go_wp2
   (try simp only [<- hl3_2, <- hl3_4])
   go_roundg k4
   case measure => have := HK1.1; have := HK2.1; have := HJ18.1; have := HK4.1; omega
   case rel => exact ⟨(x3_4), (wrap64 (x5_2 + 1)), (wrap64 (x28_2 + 1)), RG, RG, H', ⟨by have := HK1.1; have := HK2.1; have := HJ18.1; have := HK4.1; omega⟩, ⟨by (try simp only [hl3_1]); (try simp only [hl3_2]); (try simp only [hl3_4]); (with_reducible repeat (first | apply R_alloc | apply R_drewN | apply R_drew)); exact R_mono HO_3.1 (fun _ hk => trivial)⟩, ⟨PB3 BK266.1 hl3_1 hl3_2 hl3_4⟩, ⟨BL HB.1⟩⟩
 (try simp only [hl3_1, hl3_2] at c16b0)
 obtain rfl := Option.some.inj H
 go_wp2
 go_ret
 exact ⟨_, RF, RPE (HO_3.1), BL HB.1⟩
/-! ### impl_unitsOf: function 19 -/
open Kd
def impl_unitsOf.l0 : Nat -> List Int -> List (List Int) -> List (S45) -> Int -> Int -> List (Int × Int) -> Option ((List (List Int)))
 | 0, _, _, _, _, _, _ => none
 | k + 1, x3, x5, x15, x16, x17, xm => if x17 < x16 then (if 0 <= x17 then (if x17 < (x15.length : Int) then (if ((rd_T45 x15 x17).f0) = 3 then (if x5.length < 5864062014805 then (impl_unitsOf.l0 k x3 (x5 ++ [(([x17] : List Int))]) x15 x16 (wrap64 (x17 + 1)) xm) else (none)) else (if ((rd_T45 x15 x17).f0) = 6 then (if x17 < (x3.length : Int) then (if wrap64 (rd x3 x17) = (rd x3 x17) then (if mhas xm (rd x3 x17) = true then (if 0 <= (mget xm (rd x3 x17)) then (if (mget xm (rd x3 x17)) < (x5.length : Int) then (if (rd_L3 x5 (mget xm (rd x3 x17))).length < 17592186044416 then (impl_unitsOf.l0 k x3 (x5.set ((mget xm (rd x3 x17)) : Int).toNat ((rd_L3 x5 (mget xm (rd x3 x17))) ++ [x17])) x15 x16 (wrap64 (x17 + 1)) xm) else (none)) else (none)) else (none)) else (if xm.length < 17592186044416 then (if x5.length < 5864062014805 then ((some (x5 ++ [[]] : List (List Int))).bind fun y318 => (if 0 <= (x5.length : Int) then (if (x5.length : Int) < (y318.length : Int) then (if (rd_L3 y318 (x5.length : Int)).length < 17592186044416 then (impl_unitsOf.l0 k x3 (y318.set ((x5.length : Int) : Int).toNat ((rd_L3 y318 (x5.length : Int)) ++ [x17])) x15 x16 (wrap64 (x17 + 1)) (((rd x3 x17), (x5.length : Int)) :: xm)) else (none)) else (none)) else (none))) else (none)) else (none))) else (none)) else (none)) else (impl_unitsOf.l0 k x3 x5 x15 x16 (wrap64 (x17 + 1)) xm))) else (none)) else (none)) else (some x5)
def impl_unitsOf.f (k : Nat) (a0_0 : Int) (a0_1 : Int) (l0_2 : List (S45)) : Option ((List (List Int))) := (impl_groupNumbers.f k a0_0 a0_1 l0_2).bind fun t295 => (impl_unitsOf.l0 k t295 (([] : List (List Int))) l0_2 (l0_2.length : Int) 0 ([] : List (Int × Int)))
theorem impl_unitsOf.mono_l : ∀ k, (∀ y0 y1 y2 y3 y4 y5, LeO (impl_unitsOf.l0 k y0 y1 y2 y3 y4 y5) (impl_unitsOf.l0 (k + 1) y0 y1 y2 y3 y4 y5))
 | 0 => fun _ _ _ _ _ _ r h => by simp [impl_unitsOf.l0] at h
 | k + 1 => by
  have ih0 := impl_unitsOf.mono_l k
  intros
  first | unfold impl_unitsOf.l0
  exact LM2 ih0 impl_groupNumbers.mono
theorem impl_unitsOf.mono : ∀ a0 a1 a2 k, LeO (impl_unitsOf.f k a0 a1 a2) (impl_unitsOf.f (k + 1) a0 a1 a2) := by
 intro a0 a1 a2 k
 have ih0 := impl_unitsOf.mono_l k
 unfold impl_unitsOf.f
 exact LM2 ih0 impl_groupNumbers.mono
theorem impl_unitsOf.zero3 (w : World) : (zeroValue 3).run Try.prog w = .ok (.int .i64 0) w := by kernel_rfl
set_option maxHeartbeats 8000000 in
set_option maxRecDepth 100000 in
theorem impl_unitsOf.calls (k : Nat) (a0_0 : Int) (a0_1 : Int) (A0_2 : Option Addr) (c0_2 : Nat) (l0_2 : List (S45)) (r : List (List Int)) (w : World) (hr0_2 : Kd.C k45 w A0_2 l0_2.length l0_2) (hc0_2 : l0_2.length <= c0_2) (h : impl_unitsOf.f k a0_0 a0_1 l0_2 = some r) :
 Calls Try.prog 19 #[.agg #[.int .i64 a0_0, .int .i64 a0_1, .slice A0_2 l0_2.length c0_2]] w fun e w' => ∃ v0_ : Value, e = .returned (v0_) /\ Kd.S (Kd.slice 3 (Kd.int .i64)) 42 w' w.heap.size (fun _ => True) v0_ r /\ Below w.heap.size w w' := by
 have hu28 := Try.underlying28
 have hu45 := Try.underlying45
 have HR0_2 := Aside0.mk hr0_2
 have HC0_2 := Aside0.mk hc0_2
 clear hr0_2 hc0_2
 have HB := Aside0.mk (Below.refl w.heap.size w)
 have H := h
 clear h
 unfold impl_unitsOf.f at H
 replace H := bindA H; obtain ⟨t295, A2, H⟩ := H
 generalize hy299 : ((([] : List (List Int))) : List (List Int)) = y299 at H
 have Ny299 := Aside0.mk hy299.symm; clear hy299
 have H' := Aside0.mk H
 clear H
 go_enter Try.func19, Try.ntmps19
 go_wp2_with (first | ((with_reducible refine gate_dst (N := 1) rfl ?_); refine boxE (cs := #[.int .i64 a0_0, .int .i64 a0_1, .slice A0_2 l0_2.length c0_2]) (t := 28) ?_; intro gb294 hg w3 hbox hb; refine E4b HB.1 hg hbox hb ?_; clear HB; intro HB BK294 GW294 GE294; clear hb hbox hg; obtain ⟨hcz4_0, hcz4_1, hcz4_2, hfz4_0, hfz4_1, hfz4_2⟩ := cz3 BK294.1) | ((with_reducible refine gate_callee (f := 29) rfl ?_); refine goesM (N := (some 11)) #[.agg #[.int .i64 a0_0, .int .i64 a0_1, .slice A0_2 l0_2.length c0_2]] Try.func29 ?_; (with_reducible refine (impl_groupNumbers.calls k a0_0 a0_1 _ _ l0_2 t295 _ ?side1 ?side2 A2.1).mono ?_); (case side1 => exact CB (C_below HR0_2.1 HB.1)); (case side2 => exact HC0_2.1); rintro e w5 ⟨v296, rfl, ho0, hb⟩; refine ⟨_, rfl, ?_⟩; refine E3 (R_lower ho0 (bZ HB.1)) (bB BK294.1 hb) (bS HB.1 hb) ?_; clear BK294 HB; intro HO297 BK294 HB; (try clear hb); (try clear ho0)) | ((with_reducible refine gate_dst (N := 12) rfl ?_); refine map_event ?hg (N := 12) ?hd ?hr ?_; (case hd => rfl); (case hg => rfl); (case hr => first | (go_simp; done) | (go_simp; rfl) | rfl); intro gb298 hg w6 hbox hb; have n0_ := Aside0.mk (rB HO297.1 hb); have n1_ := Aside0.mk (bB BK294.1 hb); have n2_ := Aside0.mk (bS HB.1 hb); have n3_ := Aside0.mk (hbox); have n4_ := Aside0.mk (gX HB.1 hg); have n5_ := Aside0.mk (gX HB.1 hg); have n6_ := Aside0.mk (nB BK294.1 hg); have n7_ := Aside0.mk (nC BK294.1 hg); clear HO297; clear BK294; clear HB; have HO297 := n0_; have BK294 := n1_; have HB := n2_; have HM298 : Aside0 (MapO Try.prog 3 (.map #[] 0) []) := ⟨mapO_made _ _⟩; have BK298 := n3_; have GW298 := n4_; have GE298 := n5_; have NB294_298 := n6_; have NB298_294 := n7_; clear n0_ n1_ n2_ n3_ n4_ n5_ n6_ n7_; clear hb hbox hg; have hnb7 := NB294_298.1; have hnc7 := NB298_294.1; obtain ⟨hcz8_0, hcz8_1, hcz8_2, hfz8_0, hfz8_1, hfz8_2⟩ := cz3 BK294.1) | ((with_reducible refine gate_dst (N := 13) rfl ?_); refine S_lit (Kd.slice 3 (Kd.int .i64)) _ 42 ?hg (N := 13) ?hd (xs := ([] : List (List Int))) (inner := []) (ok := fun _ => True) (okp := fun _ => True) ?hr ?hp (fun _ hk => hk) trivial (Below.refl _ _) (Nat.le_refl _) (by simp) ?_; (case hd => rfl); (case hg => rfl); (case hr => first | (go_simp; done) | (go_simp; rfl)); (case hp => exact (Reps.none _ _)); intro v300 w10 ho11 hb hg_ hnew_; clear hg_ hnew_; (first | rw [<- Ny299.1] at ho11 | (simp only [Int.reduceToNat] at ho11; rw [<- Ny299.1] at ho11)); refine E5 (rB HO297.1 hb) (S_lower (S_new' ho11 (R_lt (PR HO297.1))) (bZ HB.1)) (bB BK294.1 hb) (bB BK298.1 hb) (bS HB.1 hb) ?_; clear HO297 BK294 BK298 HB; intro HO297 HO301 BK294 BK298 HB; clear hb ho11; obtain ⟨hcz12_0, hcz12_1, hcz12_2, hfz12_0, hfz12_1, hfz12_2⟩ := cz3 BK294.1))
 go_loopg [5, 17] k (fun kq v5 v17 w' => ∃ (x5_1 : List (List Int)) (x17_1 : Int) (xm_1 : List (Int × Int)) (om_1 : Obj), v17 = .int .i64 x17_1 /\ Aside0 (impl_unitsOf.l0 kq t295 x5_1 l0_2 (l0_2.length : Int) x17_1 xm_1 = some r) /\ Aside0 (kq <= k) /\ Aside0 (Kd.R (Kd.int .i64) 3 w' w.heap.size (fun _ => True) v296 t295) /\ Aside0 (Kd.S (Kd.slice 3 (Kd.int .i64)) 42 w' w.heap.size (fun k_ => some k_ ≠ (v296 : Value).ownBlock) v5 x5_1) /\ Aside0 (w'.heap[gb294]? = some (.cells #[.int .i64 a0_0, .int .i64 a0_1, (.slice A0_2 l0_2.length c0_2)] 28 (0, 0))) /\ Aside0 (w'.heap[gb298]? = some om_1) /\ Aside0 (MapO Try.prog 3 om_1 xm_1) /\ Aside0 (Below w.heap.size w w'))
 case atStart => exact ⟨(y299), (0), ([]), (.map #[] 0), RG, H', ⟨Nat.le_refl _⟩, ⟨PR HO297.1⟩, ⟨SPE (S_mono HO301.1 (fun _ hk => hk.2))⟩, ⟨PB BK294.1⟩, ⟨PB BK298.1⟩, HM298, ⟨BL HB.1⟩⟩
 clear H'
 clear hcz12_0 hcz12_1 hcz12_2 hcz4_0 hcz4_1 hcz4_2 hcz8_0 hcz8_1 hcz8_2 hfz12_0 hfz12_1 hfz12_2 hfz4_0 hfz4_1 hfz4_2 hfz8_0 hfz8_1 hfz8_2
 obtain ⟨x5_1, x17_1, xm_1, om_1, rfl, HA, HK1, HO_3, HO_5, BK294, BK298, HM298, HB⟩ := hrel
 cases gk with
 | zero => exact absurd HA.1 (by simp [impl_unitsOf.l0])
 | succ k1 => ?_
 have H := HA.1
 clear HA
 simp only [impl_unitsOf.l0] at H
 replace H := ifB H; rcases H with ⟨c13b0, H⟩ | ⟨c13b0, H⟩
 · replace H := ifN H; obtain ⟨c14b0, H⟩ := H
   replace H := ifN H; obtain ⟨c15b0, H⟩ := H
   replace H := ifQ H; rcases H with ⟨c16, H⟩ | ⟨c16, H⟩
   · have c16b0 := beq_iff_eq.mpr c16
     have c16b1 := bne_eq_false_iff_eq.mpr c16
     clear c16
     generalize hy304 : ((([x17_1] : List Int)) : List Int) = y304 at H
     have Ny304 := Aside0.mk hy304.symm; clear hy304
     replace H := ifP H; obtain ⟨c17, H⟩ := H
     have LMc17 := Aside0.mk c17
     clear c17
     generalize hy307 : ((x5_1 ++ [y304]) : List (List Int)) = y307 at H
     have Ny307 := Aside0.mk hy307.symm; clear hy307
     have H' := Aside0.mk H
     clear H
     have p302 : 0 <= (x17_1 : Int) := OD
     have q302 : x17_1 < (l0_2.length : Int) := OD
     obtain ⟨ad302, e302, hx302_0, hx302_1⟩ := at_T45 HR0_2.1 x17_1 p302 q302
     cases e302
     replace hx302_0 := (HB.1.cell (World.block_lt_of_cell? w _ hx302_0)).trans hx302_0
     replace hx302_1 := (HB.1.cell (World.block_lt_of_cell? w _ hx302_1)).trans hx302_1
     replace p302 := eq_true p302
     replace q302 := eq_true q302
     go_wp2_with (first | ((with_reducible refine gate_dst (N := 7) rfl ?_); refine boxE (cs := #[.int .i64 0, .int .i64 0]) (t := 45) ?_; intro gb303 hg w18 hbox hb; refine E12 (rB HO_3.1 hb) (sB HO_5.1 hb) (bB BK294.1 hb) (bB BK298.1 hb) (bS HB.1 hb) (hbox) (gX HB.1 hg) (gX HB.1 hg) (nB BK294.1 hg) (nC BK294.1 hg) (nB BK298.1 hg) (nC BK298.1 hg) ?_; clear HO_3 HO_5 BK294 BK298 HB; intro HO_3 HO_5 BK294 BK298 HB BK303 GW303 GE303 NB294_303 NB303_294 NB298_303 NB303_298; clear hb hbox hg; have hnb19 := NB303_294.1; have hnc19 := NB294_303.1; have hnb20 := NB303_298.1; have hnc20 := NB298_303.1; obtain ⟨hcz21_0, hcz21_1, hfz21_0, hfz21_1⟩ := cz2 BK303.1) | ((with_reducible refine gate_dst (N := 39) rfl ?_); refine look_event (b := gb298) (om := om_1) (mm := xm_1) rfl (.tmp 34) (.tmp 38) 54 3 rfl Try.underlying54 Try.underlying3 ?hz (by first | exact BK298.1 | (refine obj_far ?_ NB298_303.1 _; refine obj_far ?_ NB298_303.1 _; exact BK298.1)) HM298.1 ?hm (rd t295 x17_1) ?hx HKY.1 ?_; (case hz => exact impl_unitsOf.zero3 _); (case hm => rfl); (case hx => first | rfl | (go_simp; done) | (go_simp; rfl))) | ((with_reducible refine gate_dst (N := 28) rfl ?_); refine R_lit (Kd.int .i64) _ 3 ?hg (N := 28) ?hd (xs := ([x17_1] : List Int)) (inner := [.int .i64 x17_1]) (ok := fun _ => True) (okp := fun _ => True) ?hr ?hp (fun _ hk => hk) trivial (Below.refl _ _) (Nat.le_refl _) (by simp) ?_; (case hd => rfl); (case hg => rfl); (case hr => first | (go_simp; done) | (go_simp; rfl)); (case hp => exact (Reps.one (show Kd.M (Kd.int .i64) _ _ _ x17_1 [.int .i64 x17_1] from rfl) (Reps.none _ _))); intro v305 w22 ho23 hb hg_ hnew_; clear hg_ hnew_; (first | rw [<- Ny304.1] at ho23 | (simp only [Int.reduceToNat] at ho23; rw [<- Ny304.1] at ho23)); refine E7 (R_elder' (by (with_reducible repeat (first | apply R_alloc | apply R_drewN | apply R_drew)); exact (R_mono (RQ gb303 1 (RQ gb303 0 (R_types HO_3.1 BK303.1 (by decide)) _) _) (fun _ h_ => h_.1))) (R_base ho23) hb) (S_elder' (by (with_reducible repeat (first | apply S_alloc | apply S_drewN | apply S_drew)); exact (S_mono (SQ gb303 1 (SQ gb303 0 (S_types HO_5.1 BK303.1 (by decide)) _) _) (fun _ h_ => h_.1))) (R_base ho23) hb) (R_lower (R_new' ho23 (R_lt (by (with_reducible repeat (first | apply R_alloc | apply R_drewN | apply R_drew)); exact (R_mono (RQ gb303 1 (RQ gb303 0 (R_types HO_3.1 BK303.1 (by decide)) _) _) (fun _ h_ => h_.1))))) (bZ HB.1)) (blk_below (g := gb294) (o := .cells #[.int .i64 a0_0, .int .i64 a0_1, .slice (some ad302) l0_2.length c0_2] 28 (0, 0)) (PF1 NB294_303.1 BK294.1) hb) (blk_below (g := gb298) (o := om_1) (by (with_reducible repeat (first | refine blk_drewN ?_ _ | refine blk_drew ?_ | refine blk_alloc ?_ _)); refine obj_far ?_ NB298_303.1 _; (with_reducible repeat (first | refine blk_drewN ?_ _ | refine blk_drew ?_ | refine blk_alloc ?_ _)); refine obj_far ?_ NB298_303.1 _; (with_reducible repeat (first | refine blk_drewN ?_ _ | refine blk_drew ?_ | refine blk_alloc ?_ _)); exact BK298.1) hb) (blk_below (g := gb303) (o := .cells #[.int .i64 ((rd_T45 l0_2 x17_1).f0), .int .i64 ((rd_T45 l0_2 x17_1).f1)] 45 (0, 0)) (PF0 BK303.1) hb) (bS HB.1 hb) ?_; clear HO_3 HO_5 BK294 BK298 BK303 HB; intro HO_3 HO_5 HO306 BK294 BK298 BK303 HB; clear hb ho23; obtain ⟨Ao25, co25, eo25⟩ := R_slice HO306.1; subst eo25) | ((with_reducible refine gate_builtin (b := .append) (xs := #[.tmp 26, .tmp 29]) rfl ?_); at_builtin; refine S_append (Kd.slice 3 (Kd.int .i64)) (w0 := w) w.heap.size rfl (.tmp 26) (.tmp 29) 38 42 (.slice none 0 0) 24 rfl Try.underlying38 info42 rfl (by decide) (by omega) u5 x5_1 y304 [.slice Ao25 y304.length co25] (fun k_ => some k_ ≠ (v296 : Value).ownBlock) (fun k_ => some k_ = (.slice Ao25 y304.length co25 : Value).ownBlock) rfl rfl ?aP (fun k_ hk_ => ((R_mono (ok' := fun k_ => ((fun k_ => some k_ ≠ (v296 : Value).ownBlock)) k_ /\ some k_ ≠ (u5 : Value).ownBlock) (R_apart' (HO306.1) (S_typed HO_5.1) (by decide)) (fun k_ hk => ⟨hk.1.2, hk.2⟩))).1 k_ hk_.symm) ?aF ?aO ?aB ?aS ?aL ?_; (case aP => exact M_row (R_mono (R_tight rfl (R_mono (ok' := fun k_ => ((fun k_ => some k_ ≠ (v296 : Value).ownBlock)) k_ /\ some k_ ≠ (u5 : Value).ownBlock) (R_apart' (HO306.1) (S_typed HO_5.1) (by decide)) (fun k_ hk => ⟨hk.1.2, hk.2⟩))) (fun _ h_ => h_))); (case aB => exact (BL HB.1)); (case aF => exact (fun k_ hk => Kd.fresh' (R_lt (PR HO_3.1)) k_ hk)); (case aO => exact (SPE (S_mono HO_5.1 (fun k_ hk => ⟨hk.1, fun e_ => hk.2 e_⟩)))); (case aS => exact (bZ HB.1)); (case aL => have := LMc17.1; omega); intro v308 w24 ho hb hg hat; rw [<- Ny307.1] at ho; refine E6 (R_over' (PR HO_3.1) (S_typed (PS HO_5.1)) (by decide) hg) (bG BK294.1 hg (S_ne HO_5.1 BK294.1 (by decide))) (bG BK298.1 hg (map_ne (S_R HO_5.1) BK298.1 HM298.1)) (bG BK303.1 hg (S_ne HO_5.1 BK303.1 (by decide))) (hb) (ho) ?_; clear HO_3 BK294 BK298 BK303 HB HO_5 HO306; intro HO_3 BK294 BK298 BK303 HB HO309; clear ho hb hg hat))
     go_roundg k1
     case measure => have := HK1.1; omega
     case rel => exact ⟨(y307), (wrap64 (x17_1 + 1)), (xm_1), (om_1), RG, H', ⟨by have := HK1.1; omega⟩, ⟨RPE (R_mono HO_3.1 (fun _ hk => trivial))⟩, ⟨PS HO309.1⟩, ⟨PB BK294.1⟩, ⟨PB BK298.1⟩, HM298, ⟨BL HB.1⟩⟩
   have c16b0 := beq_eq_false_iff_ne.mpr c16
   have c16b1 := bne_iff_ne.mpr c16
   replace H := ifQ H; rcases H with ⟨c26, H⟩ | ⟨c26, H⟩
   · have c26b0 := beq_iff_eq.mpr c26
     have c26b1 := bne_eq_false_iff_eq.mpr c26
     clear c26
     replace H := ifN H; obtain ⟨c27b0, H⟩ := H
     have c_k : wrap64 (rd t295 x17_1) = (rd t295 x17_1) := by
      apply Classical.byContradiction; intro h_; rw [if_neg h_] at H; exact absurd H (by simp)
     rw [if_pos c_k] at H
     have HKY := Aside0.mk c_k
     clear c_k
     replace H := ifQ H; rcases H with ⟨c28, H⟩ | ⟨c28, H⟩
     · have c28b0 : mhas xm_1 (rd t295 x17_1) = true := c28
       have c28b1 : (!mhas xm_1 (rd t295 x17_1)) = false := by rw [c28]; rfl
       clear c28
       replace H := ifN H; obtain ⟨c29b0, H⟩ := H
       replace H := ifN H; obtain ⟨c30b0, H⟩ := H
       replace H := ifP H; obtain ⟨c31, H⟩ := H
       have LMc31 := Aside0.mk c31
       clear c31
       generalize hy312 : (((rd_L3 x5_1 (mget xm_1 (rd t295 x17_1))) ++ [x17_1]) : List Int) = y312 at H
       have Ny312 := Aside0.mk hy312.symm; clear hy312
       generalize hy315 : ((x5_1.set ((mget xm_1 (rd t295 x17_1)) : Int).toNat y312) : List (List Int)) = y315 at H
       have Ny315 := Aside0.mk hy315.symm; clear hy315
       have H' := Aside0.mk H
       clear H
       have p302 : 0 <= (x17_1 : Int) := OD
       have q302 : x17_1 < (l0_2.length : Int) := OD
       obtain ⟨ad302, e302, hx302_0, hx302_1⟩ := at_T45 HR0_2.1 x17_1 p302 q302
       cases e302
       replace hx302_0 := (HB.1.cell (World.block_lt_of_cell? w _ hx302_0)).trans hx302_0
       replace hx302_1 := (HB.1.cell (World.block_lt_of_cell? w _ hx302_1)).trans hx302_1
       replace p302 := eq_true p302
       replace q302 := eq_true q302
       go_wp2_with (first | ((with_reducible refine gate_dst (N := 7) rfl ?_); refine boxE (cs := #[.int .i64 0, .int .i64 0]) (t := 45) ?_; intro gb303 hg w33 hbox hb; refine E12 (rB HO_3.1 hb) (sB HO_5.1 hb) (bB BK294.1 hb) (bB BK298.1 hb) (bS HB.1 hb) (hbox) (gX HB.1 hg) (gX HB.1 hg) (nB BK294.1 hg) (nC BK294.1 hg) (nB BK298.1 hg) (nC BK298.1 hg) ?_; clear HO_3 HO_5 BK294 BK298 HB; intro HO_3 HO_5 BK294 BK298 HB BK303 GW303 GE303 NB294_303 NB303_294 NB298_303 NB303_298; clear hb hbox hg; have hnb34 := NB303_294.1; have hnc34 := NB294_303.1; have hnb35 := NB303_298.1; have hnc35 := NB298_303.1; obtain ⟨hcz36_0, hcz36_1, hfz36_0, hfz36_1⟩ := cz2 BK303.1) | ((with_reducible refine gate_dst (N := 39) rfl ?_); refine look_event (b := gb298) (om := om_1) (mm := xm_1) rfl (.tmp 34) (.tmp 38) 54 3 rfl Try.underlying54 Try.underlying3 ?hz (by first | exact BK298.1 | (refine obj_far ?_ NB298_303.1 _; refine obj_far ?_ NB298_303.1 _; exact BK298.1)) HM298.1 ?hm (rd t295 x17_1) ?hx HKY.1 ?_; (case hz => exact impl_unitsOf.zero3 _); (case hm => rfl); (case hx => first | rfl | (go_simp; done) | (go_simp; rfl))) | ((with_reducible refine gate_store (t := 45) (p := 7) rfl ?_); refine storeE (t := 45) (p := 7) (w1 := ((w33.setCell ⟨gb303, 0, none⟩ (.int .i64 ((rd_T45 l0_2 x17_1).f0))).setCell ⟨gb303, 1, none⟩ (.int .i64 ((rd_T45 l0_2 x17_1).f1)))) ?_; intro w37 hw; have n0_ : Aside0 (Kd.R (Kd.int .i64) 3 w37 w.heap.size (fun _ => True) v296 t295) := ⟨(by rw [hw]; exact (by (with_reducible repeat (first | apply R_alloc | apply R_drewN | apply R_drew)); exact R_mono (RQ gb303 1 (RQ gb303 0 (R_types HO_3.1 BK303.1 (by decide)) _) _) (fun _ hk => trivial)))⟩; have n1_ : Aside0 (Kd.S (Kd.slice 3 (Kd.int .i64)) 42 w37 w.heap.size (fun k_ => some k_ ≠ (v296 : Value).ownBlock) u5 x5_1) := ⟨(by rw [hw]; exact (by (with_reducible repeat (first | apply S_alloc | apply S_drewN | apply S_drew)); exact S_mono (SQ gb303 1 (SQ gb303 0 (S_types HO_5.1 BK303.1 (by decide)) _) _) (fun _ hk => hk.1)))⟩; have n2_ : Aside0 (w37.heap[gb294]? = some (.cells #[.int .i64 a0_0, .int .i64 a0_1, .slice (some ad302) l0_2.length c0_2] 28 (0, 0))) := ⟨(by rw [hw]; exact (PF1 NB294_303.1 BK294.1))⟩; have n3_ : Aside0 (w37.heap[gb298]? = some om_1) := ⟨(by rw [hw]; exact (by (with_reducible repeat (first | refine blk_drewN ?_ _ | refine blk_drew ?_ | refine blk_alloc ?_ _)); refine obj_far ?_ NB298_303.1 _; (with_reducible repeat (first | refine blk_drewN ?_ _ | refine blk_drew ?_ | refine blk_alloc ?_ _)); refine obj_far ?_ NB298_303.1 _; (with_reducible repeat (first | refine blk_drewN ?_ _ | refine blk_drew ?_ | refine blk_alloc ?_ _)); exact BK298.1))⟩; have n4_ : Aside0 (w37.heap[gb303]? = some (.cells #[.int .i64 ((rd_T45 l0_2 x17_1).f0), .int .i64 ((rd_T45 l0_2 x17_1).f1)] 45 (0, 0))) := ⟨(by rw [hw]; exact (PF0 BK303.1))⟩; have n5_ : Aside0 (Below w.heap.size w w37) := ⟨(by rw [hw]; exact (BL HB.1))⟩; clear hw; clear HO_3; clear HO_5; clear BK294; clear BK298; clear BK303; clear HB; have HO_3 := n0_; have HO_5 := n1_; have BK294 := n2_; have BK298 := n3_; have BK303 := n4_; have HB := n5_; clear n0_ n1_ n2_ n3_ n4_ n5_; obtain ⟨hcz38_0, hcz38_1, hfz38_0, hfz38_1⟩ := cz2 BK303.1; obtain ⟨Ao39, co39, eo39⟩ := R_slice HO_3.1; subst eo39; have p310 : 0 <= (x17_1 : Int) := OD; have q310 : x17_1 < (t295.length : Int) := OD; obtain ⟨ad310, e310, hx310_0⟩ := Kd.at_int (R_reads' HO_3.1).2.2 x17_1 p310 q310; cases e310; replace p310 := eq_true p310; replace q310 := eq_true q310; have hnb40 := NB298_294.1; have hnc40 := NB294_298.1; obtain ⟨Ao42, co42, eo42⟩ := S_slice HO_5.1; subst eo42; have p311 : 0 <= ((mget xm_1 (rd t295 x17_1)) : Int) := OD; have q311 : (mget xm_1 (rd t295 x17_1)) < (x5_1.length : Int) := OD; obtain ⟨ad311, A311_0, c311_0, e311, hx311_0, hl311_0, hi311_0⟩ := at_L3 (S_reads' HO_5.1).2.2 (mget xm_1 (rd t295 x17_1)) p311 q311; cases e311; obtain ⟨ce311, hce311, hMe311, hcc311⟩ := S_get HO_5.1 [] (mget xm_1 (rd t295 x17_1)) p311 (by first | exact q311 | exact OD | (have e_ := (S_reads' HO_5.1).1; omega)); obtain ⟨ve311_0, rfl, ge311_0⟩ := hMe311; have hv311_0 := hcc311 0 _ rfl; rw [Nat.add_zero, show ((Kd.slice 3 (Kd.int .i64))).sz = 1 from rfl, Nat.mul_one] at hv311_0; replace hv311_0 := Option.some.inj (hv311_0.symm.trans hx311_0); rw [hv311_0] at ge311_0; have HL311_0 := Aside0.mk (show Kd.R (Kd.int .i64) 3 _ _ _ _ (rd_L3 x5_1 (mget xm_1 (rd t295 x17_1))) from ge311_0); clear hv311_0 ge311_0; have HX311_0 := Aside0.mk hx311_0; clear hcc311 hce311; have HR311_0 := Aside0.mk hi311_0; have HC311_0 := Aside0.mk hl311_0; clear hi311_0 hl311_0; replace p311 := eq_true p311; replace q311 := eq_true q311; obtain ⟨go43, co43, eo43, gb43, gl43, cl43, HG43⟩ := S_form HO_5.1 (by have h_ : ((mget xm_1 (rd t295 x17_1)) : Int) < ((x5_1.length : Int) : Int) := OD; have h2_ : 0 <= ((mget xm_1 (rd t295 x17_1)) : Int) := (OD); omega); (first | cases eo43 | (injection eo43 with ea_ en_ ec_; (first | subst ea_ | (injection ea_ with ea_; subst ea_)); subst ec_; clear en_)); have GB43 := Aside0.mk gb43; have GG43 := Aside0.mk HG43; clear gb43 gl43 HG43; (first | simp only [add_plain] at hx311_0 | skip); obtain ⟨oki43, ce43, hcl43, hM43, hcc43, _, _, hH43⟩ := S_elem HO_5.1 [] ((mget xm_1 (rd t295 x17_1)) : Int) (OD) (by have h_ : ((mget xm_1 (rd t295 x17_1)) : Int) < ((x5_1.length : Int) : Int) := OD; first | exact h_ | (have e_ := (S_reads' HO_5.1).1; omega) | simpa using h_); obtain ⟨ve43_0, rfl, ge43_0⟩ := hM43; have hv43 := hcc43 0 _ rfl; have hX43 := HX311_0.1; (try simp only [add_plain] at hX43); (try simp only [Nat.add_zero] at hv43); (try rw [show ((Kd.slice 3 (Kd.int .i64))).sz = 1 from rfl, Nat.mul_one] at hv43); replace hv43 := Option.some.inj (hv43.symm.trans hX43); subst hv43; clear hX43 hcc43 hcl43; have UU43 := Aside0.mk (show Kd.R (Kd.int .i64) 3 _ w.heap.size oki43 (.slice A311_0 (rd_L3 x5_1 (mget xm_1 (rd t295 x17_1))).length c311_0) (rd_L3 x5_1 (mget xm_1 (rd t295 x17_1))) from ge43_0); have HH43 := Aside0.mk hH43; have HN43 := Aside0.mk (S_reads' HO_5.1).1; clear hH43 ge43_0) | ((with_reducible refine gate_builtin (b := .append) (xs := #[.tmp 60, .tmp 62]) rfl ?_); at_builtin; refine R_append (Kd.int .i64) (w0 := w) w.heap.size rfl (.tmp 60) (.tmp 62) 42 3 (.int .i64 0) 8 rfl Try.underlying42 info3 rfl (by decide) (by omega) (.slice A311_0 (rd_L3 x5_1 (mget xm_1 (rd t295 x17_1))).length c311_0) (rd_L3 x5_1 (mget xm_1 (rd t295 x17_1))) x17_1 [.int .i64 x17_1] (fun k_ => oki43 k_ ∨ ((fun k_ => some k_ ≠ (.slice (some ad310) t295.length co39 : Value).ownBlock)) k_ /\ w37.heap.size <= k_) (fun _ => False) rfl rfl ?aP (fun _ hk => hk.elim) ?aF ?aO ?aB ?aS ?aL ?_; (case aP => exact rfl); (case aB => exact (BL HB.1)); (case aF => exact (fun k_ hk => .inr ⟨Kd.fresh' (R_lt (PR HO_3.1)) k_ hk, hk⟩)); (case aO => exact (RPE (R_mono UU43.1 (fun _ hk => .inl hk)))); (case aS => exact (bZ HB.1)); (case aL => have := LMc31.1; omega); intro v313 w44 ho hb hg hat; rw [<- Ny312.1] at ho; refine E7 (R_grown2 (PR HO_3.1) rfl hg (fun k_ e_ => (HL311_0.1.1 k_ e_).1)) (bG BK294.1 hg (R_ne HL311_0.1 BK294.1 (by decide))) (bG BK298.1 hg (map_ne HL311_0.1 BK298.1 HM298.1)) (bG BK303.1 hg (R_ne HL311_0.1 BK303.1 (by decide))) (hb) (H_grown (H_widen (by repeat (first | exact HH43.1 | refine H_alloc ?_ _ | refine H_drewN ?_ _ | refine H_drew ?_))) hg (fun k_ e_ => .inl (UU43.1.1 k_ e_))) (ho) ?_; clear HO_3 BK294 BK298 BK303 HB HH43 HO_5 UU43 HL311_0; intro HO_3 BK294 BK298 BK303 HB HH43 HO314; clear ho hb hg hat; have p32 : 0 <= ((mget xm_1 (rd t295 x17_1)) : Int) := OD; have q32 : ((mget xm_1 (rd t295 x17_1)) : Int) < ((x5_1.length : Int) : Int) := OD; replace p32 := eq_true p32; replace q32 := eq_true q32; obtain ⟨Ao47, co47, eo47⟩ := R_slice HO314.1; subst eo47; obtain ⟨_, _, hraw45, _, _, hcc45, _⟩ := H_raw HH43.1 (OD) (by have h_ : ((mget xm_1 (rd t295 x17_1)) : Int) < ((x5_1.length : Int) : Int) := OD; first | exact h_ | (have e_ := (HN43.1); omega) | simpa using h_); obtain ⟨_, hfr45⟩ := H_at HH43.1 (OD) (by have h_ : ((mget xm_1 (rd t295 x17_1)) : Int) < ((x5_1.length : Int) : Int) := OD; first | exact h_ | (have e_ := (HN43.1); omega) | simpa using h_); have hx45_0 := hcc45 0 _ rfl; have hf45_0 := hfr45 0; (try simp only [Nat.add_zero] at hx45_0 hf45_0); (try rw [show ((Kd.slice 3 (Kd.int .i64))).sz = 1 from rfl, Nat.mul_one] at hx45_0); (try rw [show ((Kd.slice 3 (Kd.int .i64))).sz = 1 from rfl, Nat.mul_one] at hf45_0); (try simp only [Go.IntWalk.toNatUp] at hx45_0 hf45_0); have HP45 := S_seg0 HH43.1 (OD) (by have h_ : ((mget xm_1 (rd t295 x17_1)) : Int) < ((x5_1.length : Int) : Int) := OD; first | exact h_ | (have e_ := (HN43.1); omega) | simpa using h_) (seg := [.slice Ao47 y312.length co47]) (j := 0) (show 1 <= 1 from by decide) (x' := y312) (M_row HO314.1) (fun _ hk => hk); (try simp only [show ((Kd.slice 3 (Kd.int .i64))).sz = 1 from rfl, Nat.mul_one, Nat.add_zero] at HP45); clear hcc45 hfr45) | ((with_reducible refine gate_store (t := 42) (p := 64) rfl ?_); refine storeE (t := 42) (p := 64) (w1 := (w44.setCell ⟨go43, ((mget xm_1 (rd t295 x17_1)) : Int).toNat, none⟩ (.slice Ao47 y312.length co47))) ?_; intro w46 hw; have hg : w44.grownBy w46 (some go43) := (by rw [hw]; exact HP45.2); have hp_ : Kd.S (Kd.slice 3 (Kd.int .i64)) 42 w46 w.heap.size (fun k_ => some k_ ≠ (.slice (some ad310) t295.length co39 : Value).ownBlock) (.slice (some ⟨go43, 0, none⟩) x5_1.length co42) y315 := (by rw [hw, Ny315.1]; exact HP45.1); clear HP45; refine E6 (R_over' (v := (.slice (some ⟨go43, 0, none⟩) x5_1.length co42)) (PR HO_3.1) (R_typed hraw45) (by decide) hg) (bG BK294.1 hg (R_ne hraw45 BK294.1 (by decide))) (bG BK298.1 hg (map_ne hraw45 BK298.1 HM298.1)) (bG BK303.1 hg (R_ne hraw45 BK303.1 (by decide))) ((by rw [hw]; exact below_set HB.1 GB43.1 : Below w.heap.size w w46)) (hp_) ?_; clear HO_3 BK294 BK298 BK303 HB HO314 HH43; intro HO_3 BK294 BK298 BK303 HB HO_5; clear hg hw hp_ hraw45))
       go_roundg k1
       case measure => have := HK1.1; omega
       case rel => exact ⟨(y315), (wrap64 (x17_1 + 1)), (xm_1), (om_1), RG, H', ⟨by have := HK1.1; omega⟩, ⟨PR HO_3.1⟩, ⟨PS HO_5.1⟩, ⟨PB BK294.1⟩, ⟨PB BK298.1⟩, HM298, ⟨BL HB.1⟩⟩
     have c28b0 : mhas xm_1 (rd t295 x17_1) = false := by simpa using c28
     have c28b1 : (!mhas xm_1 (rd t295 x17_1)) = true := by rw [c28b0]; rfl
     have c_m : xm_1.length < 17592186044416 := by
      apply Classical.byContradiction; intro h_; rw [if_neg h_] at H; exact absurd H (by simp)
     rw [if_pos c_m] at H
     have HML := Aside0.mk c_m
     clear c_m
     replace H := ifP H; obtain ⟨c48, H⟩ := H
     have LMc48 := Aside0.mk c48
     clear c48
     replace H := nameB H; obtain ⟨y318, Ny318, H⟩ := H
     replace H := ifP H; obtain ⟨c49, H⟩ := H
     have c49b0 := decide_eq_true c49
     have c49b1 : decide (0 <= x5_1.length) = true := decide_eq_true (by omega)
     clear c49
     replace H := ifP H; obtain ⟨c50, H⟩ := H
     have c50b0 := decide_eq_true c50
     have c50b1 : decide (x5_1.length < y318.length) = true := decide_eq_true (Int.ofNat_lt.mp c50)
     clear c50
     replace H := ifP H; obtain ⟨c51, H⟩ := H
     have LMc51 := Aside0.mk c51
     clear c51
     generalize hy322 : (((rd_L3 y318 (x5_1.length : Int)) ++ [x17_1]) : List Int) = y322 at H
     have Ny322 := Aside0.mk hy322.symm; clear hy322
     generalize hy325 : ((y318.set ((x5_1.length : Int) : Int).toNat y322) : List (List Int)) = y325 at H
     have Ny325 := Aside0.mk hy325.symm; clear hy325
     have H' := Aside0.mk H
     clear H
     have p302 : 0 <= (x17_1 : Int) := OD
     have q302 : x17_1 < (l0_2.length : Int) := OD
     obtain ⟨ad302, e302, hx302_0, hx302_1⟩ := at_T45 HR0_2.1 x17_1 p302 q302
     cases e302
     replace hx302_0 := (HB.1.cell (World.block_lt_of_cell? w _ hx302_0)).trans hx302_0
     replace hx302_1 := (HB.1.cell (World.block_lt_of_cell? w _ hx302_1)).trans hx302_1
     replace p302 := eq_true p302
     replace q302 := eq_true q302
     go_wp2_with (first | ((with_reducible refine gate_dst (N := 7) rfl ?_); refine boxE (cs := #[.int .i64 0, .int .i64 0]) (t := 45) ?_; intro gb303 hg w53 hbox hb; refine E12 (rB HO_3.1 hb) (sB HO_5.1 hb) (bB BK294.1 hb) (bB BK298.1 hb) (bS HB.1 hb) (hbox) (gX HB.1 hg) (gX HB.1 hg) (nB BK294.1 hg) (nC BK294.1 hg) (nB BK298.1 hg) (nC BK298.1 hg) ?_; clear HO_3 HO_5 BK294 BK298 HB; intro HO_3 HO_5 BK294 BK298 HB BK303 GW303 GE303 NB294_303 NB303_294 NB298_303 NB303_298; clear hb hbox hg; have hnb54 := NB303_294.1; have hnc54 := NB294_303.1; have hnb55 := NB303_298.1; have hnc55 := NB298_303.1; obtain ⟨hcz56_0, hcz56_1, hfz56_0, hfz56_1⟩ := cz2 BK303.1; obtain ⟨Ao57, co57, eo57⟩ := R_slice HO_3.1; subst eo57; have p310 : 0 <= (x17_1 : Int) := OD; have q310 : x17_1 < (t295.length : Int) := OD; obtain ⟨ad310, e310, hx310_0⟩ := Kd.at_int (R_reads' HO_3.1).2.2 x17_1 p310 q310; cases e310; have hn310_0 : ad310.block ≠ gb303 := Kd.own_blk (R_ne HO_3.1 BK303.1 (by decide)); have hn310_1 : ad310.block ≠ gb303 := Kd.own_blk (R_ne HO_3.1 BK303.1 (by decide)); replace hx310_0 := (cell_far (p := ⟨gb303, 0, none⟩) (by first | (rw [add_block]; exact hn310_0) | (show (Addr.add _ _).block ≠ _; rw [add_block]; exact hn310_0) | exact hn310_0) (.int .i64 ((rd_T45 l0_2 x17_1).f0))).trans hx310_0; replace hx310_0 := (cell_far (p := ⟨gb303, 1, none⟩) (by first | (rw [add_block]; exact hn310_1) | (show (Addr.add _ _).block ≠ _; rw [add_block]; exact hn310_1) | exact hn310_1) (.int .i64 ((rd_T45 l0_2 x17_1).f1))).trans hx310_0; clear hn310_0; clear hn310_1; replace p310 := eq_true p310; replace q310 := eq_true q310; have hnb58 := NB298_294.1; have hnc58 := NB294_298.1; obtain ⟨Ao60, co60, eo60⟩ := S_slice HO_5.1; subst eo60; have p316 : 0 <= (x17_1 : Int) := OD; have q316 : x17_1 < (t295.length : Int) := OD; obtain ⟨ad316, e316, hx316_0⟩ := Kd.at_int (R_reads' HO_3.1).2.2 x17_1 p316 q316; obtain rfl : ad310 = ad316 := (by injection e316); have hn316_0 : ad310.block ≠ gb303 := Kd.own_blk (R_ne HO_3.1 BK303.1 (by decide)); have hn316_1 : ad310.block ≠ gb303 := Kd.own_blk (R_ne HO_3.1 BK303.1 (by decide)); replace hx316_0 := (cell_far (p := ⟨gb303, 0, none⟩) (by first | (rw [add_block]; exact hn316_0) | (show (Addr.add _ _).block ≠ _; rw [add_block]; exact hn316_0) | exact hn316_0) (.int .i64 ((rd_T45 l0_2 x17_1).f0))).trans hx316_0; replace hx316_0 := (cell_far (p := ⟨gb303, 1, none⟩) (by first | (rw [add_block]; exact hn316_1) | (show (Addr.add _ _).block ≠ _; rw [add_block]; exact hn316_1) | exact hn316_1) (.int .i64 ((rd_T45 l0_2 x17_1).f1))).trans hx316_0; clear hn316_0; clear hn316_1; replace p316 := eq_true p316; replace q316 := eq_true q316) | ((with_reducible refine gate_dst (N := 39) rfl ?_); refine look_event (b := gb298) (om := om_1) (mm := xm_1) rfl (.tmp 34) (.tmp 38) 54 3 rfl Try.underlying54 Try.underlying3 ?hz (by first | exact BK298.1 | (refine obj_far ?_ NB298_303.1 _; refine obj_far ?_ NB298_303.1 _; exact BK298.1)) HM298.1 ?hm (rd t295 x17_1) ?hx HKY.1 ?_; (case hz => exact impl_unitsOf.zero3 _); (case hm => rfl); (case hx => first | rfl | (go_simp; done) | (go_simp; rfl))) | ((with_reducible refine gate_put (T := 54) (m := .tmp 46) (x := .tmp 50) (v := .tmp 51) rfl ?_); refine put_event (b := gb298) (om := om_1) (mm := xm_1) rfl (.tmp 46) (.tmp 50) (.tmp 51) 54 3 rfl rfl Try.underlying54 Try.underlying3 (by (with_reducible repeat (first | refine blk_drewN ?_ _ | refine blk_drew ?_ | refine blk_alloc ?_ _)); refine obj_far ?_ NB298_303.1 _; (with_reducible repeat (first | refine blk_drewN ?_ _ | refine blk_drew ?_ | refine blk_alloc ?_ _)); refine obj_far ?_ NB298_303.1 _; (with_reducible repeat (first | refine blk_drewN ?_ _ | refine blk_drew ?_ | refine blk_alloc ?_ _)); exact BK298.1) HM298.1 HML.1 ?hm (rd t295 x17_1) (x5_1.length : Int) ?hx ?hv HKY.1 ?hw ?_; (case hm => rfl); (case hx => first | rfl | (go_simp; done) | (go_simp; rfl)); (case hv => first | rfl | (go_simp; done) | (go_simp; rfl)); (case hw => (have := LMc48.1; exact wrap64_nat (by omega))); intro w61 om2_ hbm hM2_ hg; have n0_ := Aside0.mk (R_put (g := gb298) (om := om_1) (by (with_reducible repeat (first | apply R_alloc | apply R_drewN | apply R_drew)); exact (R_mono (RQ gb303 1 (RQ gb303 0 (R_types HO_3.1 BK303.1 (by decide)) _) _) (fun _ h_ => h_.1))) (by (with_reducible repeat (first | refine blk_drewN ?_ _ | refine blk_drew ?_ | refine blk_alloc ?_ _)); refine obj_far ?_ NB298_303.1 _; (with_reducible repeat (first | refine blk_drewN ?_ _ | refine blk_drew ?_ | refine blk_alloc ?_ _)); refine obj_far ?_ NB298_303.1 _; (with_reducible repeat (first | refine blk_drewN ?_ _ | refine blk_drew ?_ | refine blk_alloc ?_ _)); exact BK298.1) HM298.1 hg); have n1_ := Aside0.mk (S_put (g := gb298) (om := om_1) (by (with_reducible repeat (first | apply S_alloc | apply S_drewN | apply S_drew)); exact (S_mono (SQ gb303 1 (SQ gb303 0 (S_types HO_5.1 BK303.1 (by decide)) _) _) (fun _ h_ => h_.1))) (by (with_reducible repeat (first | refine blk_drewN ?_ _ | refine blk_drew ?_ | refine blk_alloc ?_ _)); refine obj_far ?_ NB298_303.1 _; (with_reducible repeat (first | refine blk_drewN ?_ _ | refine blk_drew ?_ | refine blk_alloc ?_ _)); refine obj_far ?_ NB298_303.1 _; (with_reducible repeat (first | refine blk_drewN ?_ _ | refine blk_drew ?_ | refine blk_alloc ?_ _)); exact BK298.1) HM298.1 hg); have n2_ := Aside0.mk (blk_grown (g := gb294) (o := .cells #[.int .i64 a0_0, .int .i64 a0_1, .slice (some ad302) l0_2.length c0_2] 28 (0, 0)) (PF1 NB294_303.1 BK294.1) hg (fun e_ => NB294_298.1 (Option.some.inj e_))); have n3_ := Aside0.mk (hbm); have n4_ := Aside0.mk (blk_grown (g := gb303) (o := .cells #[.int .i64 ((rd_T45 l0_2 x17_1).f0), .int .i64 ((rd_T45 l0_2 x17_1).f1)] 45 (0, 0)) (PF0 BK303.1) hg (fun e_ => NB303_298.1 (Option.some.inj e_))); have n5_ := Aside0.mk (pw_below_grown (BL HB.1) _ (bZ HB.1) hg (fun k_ e_ => by cases e_; exact GE298.1)); clear HO_3; clear HO_5; clear BK294; clear BK298; clear BK303; clear HB; clear HM298; have HO_3 := n0_; have HO_5 := n1_; have BK294 := n2_; have BK298 := n3_; have BK303 := n4_; have HB := n5_; have HM298 := Aside0.mk hM2_; clear n0_ n1_ n2_ n3_ n4_ n5_; clear hbm hM2_ hg) | ((with_reducible refine gate_builtin (b := .append) (xs := #[.tmp 52, .tmp 53]) rfl ?_); at_builtin; refine S_append (Kd.slice 3 (Kd.int .i64)) (w0 := w) w.heap.size rfl (.tmp 52) (.tmp 53) 38 42 (.slice none 0 0) 24 rfl Try.underlying38 info42 rfl (by decide) (by omega) (.slice Ao60 x5_1.length co60) x5_1 [] [.slice none 0 0] (fun k_ => some k_ ≠ (.slice (some ad310) t295.length co57 : Value).ownBlock) (fun _ => False) rfl rfl ?aP (fun _ hk => hk.elim) ?aF ?aO ?aB ?aS ?aL ?_; (case aP => exact ⟨_, rfl, R_nil _ _ _ _ _⟩); (case aB => exact (BL HB.1)); (case aF => exact (fun k_ hk => Kd.fresh' (R_lt (PR HO_3.1)) k_ hk)); (case aO => exact (SPE (S_mono HO_5.1 (fun k_ hk => ⟨hk, fun e_ => e_⟩)))); (case aS => exact (bZ HB.1)); (case aL => have := LMc48.1; omega); intro v319 w62 ho hb hg hat; rw [<- Ny318.1] at ho; have n0_ := Aside0.mk (R_over' (PR HO_3.1) (S_typed (PS HO_5.1)) (by decide) hg); have n1_ := Aside0.mk (bG BK294.1 hg (S_ne HO_5.1 BK294.1 (by decide))); have n2_ := Aside0.mk (bG BK298.1 hg (map_ne (S_R HO_5.1) BK298.1 HM298.1)); have n3_ := Aside0.mk (bG BK303.1 hg (S_ne HO_5.1 BK303.1 (by decide))); have n5_ := Aside0.mk (hb); have n6_ := Aside0.mk (ho); clear HO_3; clear BK294; clear BK298; clear BK303; clear HB; clear HO_5; have HO_3 := n0_; have BK294 := n1_; have BK298 := n2_; have BK303 := n3_; have HB := n5_; have HO320 := n6_; clear n0_ n1_ n2_ n3_ n5_ n6_; clear ho hb hg hat; obtain ⟨Ao63, co63, eo63⟩ := S_slice HO320.1; subst eo63; have p321 : 0 <= ((x5_1.length : Int) : Int) := OD; have q321 : (x5_1.length : Int) < (y318.length : Int) := OD; obtain ⟨ad321, A321_0, c321_0, e321, hx321_0, hl321_0, hi321_0⟩ := at_L3 (S_reads' HO320.1).2.2 (x5_1.length : Int) p321 q321; cases e321; obtain ⟨ce321, hce321, hMe321, hcc321⟩ := S_get HO320.1 [] (x5_1.length : Int) p321 (by first | exact q321 | exact OD | (have e_ := (S_reads' HO320.1).1; omega)); obtain ⟨ve321_0, rfl, ge321_0⟩ := hMe321; have hv321_0 := hcc321 0 _ rfl; rw [Nat.add_zero, show ((Kd.slice 3 (Kd.int .i64))).sz = 1 from rfl, Nat.mul_one] at hv321_0; replace hv321_0 := Option.some.inj (hv321_0.symm.trans hx321_0); rw [hv321_0] at ge321_0; have HL321_0 := Aside0.mk (show Kd.R (Kd.int .i64) 3 _ _ _ _ (rd_L3 y318 (x5_1.length : Int)) from ge321_0); clear hv321_0 ge321_0; have HX321_0 := Aside0.mk hx321_0; clear hcc321 hce321; have HR321_0 := Aside0.mk hi321_0; have HC321_0 := Aside0.mk hl321_0; clear hi321_0 hl321_0; (try simp only [Go.IntWalk.toNatUp] at hx321_0); replace p321 := eq_true p321; replace q321 := eq_true q321; obtain ⟨go64, co64, eo64, gb64, gl64, cl64, HG64⟩ := S_form HO320.1 (by have h_ : ((x5_1.length : Int) : Int) < ((y318.length : Int) : Int) := OD; have h2_ : 0 <= ((x5_1.length : Int) : Int) := (OD); omega); (first | cases eo64 | (injection eo64 with ea_ en_ ec_; (first | subst ea_ | (injection ea_ with ea_; subst ea_)); subst ec_; clear en_)); have GB64 := Aside0.mk gb64; have GG64 := Aside0.mk HG64; clear gb64 gl64 HG64; (first | simp only [add_plain] at hx321_0 | skip); obtain ⟨oki64, ce64, hcl64, hM64, hcc64, _, _, hH64⟩ := S_elem HO320.1 [] ((x5_1.length : Int) : Int) (OD) (by have h_ : ((x5_1.length : Int) : Int) < ((y318.length : Int) : Int) := OD; first | exact h_ | (have e_ := (S_reads' HO320.1).1; omega) | simpa using h_); obtain ⟨ve64_0, rfl, ge64_0⟩ := hM64; have hv64 := hcc64 0 _ rfl; have hX64 := HX321_0.1; (try simp only [add_plain] at hX64); (try simp only [Nat.add_zero] at hv64); (try rw [show ((Kd.slice 3 (Kd.int .i64))).sz = 1 from rfl, Nat.mul_one] at hv64); replace hv64 := Option.some.inj (hv64.symm.trans hX64); subst hv64; clear hX64 hcc64 hcl64; have UU64 := Aside0.mk (show Kd.R (Kd.int .i64) 3 _ w.heap.size oki64 (.slice A321_0 (rd_L3 y318 (x5_1.length : Int)).length c321_0) (rd_L3 y318 (x5_1.length : Int)) from ge64_0); have HH64 := Aside0.mk hH64; have HN64 := Aside0.mk (S_reads' HO320.1).1; clear hH64 ge64_0) | ((with_reducible refine gate_builtin (b := .append) (xs := #[.tmp 60, .tmp 62]) rfl ?_); at_builtin; refine R_append (Kd.int .i64) (w0 := w) w.heap.size rfl (.tmp 60) (.tmp 62) 42 3 (.int .i64 0) 8 rfl Try.underlying42 info3 rfl (by decide) (by omega) (.slice A321_0 (rd_L3 y318 (x5_1.length : Int)).length c321_0) (rd_L3 y318 (x5_1.length : Int)) x17_1 [.int .i64 x17_1] (fun k_ => oki64 k_ ∨ ((fun k_ => some k_ ≠ (.slice (some ad310) t295.length co57 : Value).ownBlock)) k_ /\ w62.heap.size <= k_) (fun _ => False) rfl rfl ?aP (fun _ hk => hk.elim) ?aF ?aO ?aB ?aS ?aL ?_; (case aP => exact rfl); (case aB => exact (BL HB.1)); (case aF => exact (fun k_ hk => .inr ⟨Kd.fresh' (R_lt (PR HO_3.1)) k_ hk, hk⟩)); (case aO => exact (RPE (R_mono UU64.1 (fun _ hk => .inl hk)))); (case aS => exact (bZ HB.1)); (case aL => have := LMc51.1; omega); intro v323 w65 ho hb hg hat; rw [<- Ny322.1] at ho; have n0_ := Aside0.mk (R_grown2 (PR HO_3.1) rfl hg (fun k_ e_ => (HL321_0.1.1 k_ e_).1)); have n1_ := Aside0.mk (bG BK294.1 hg (R_ne HL321_0.1 BK294.1 (by decide))); have n2_ := Aside0.mk (bG BK298.1 hg (map_ne HL321_0.1 BK298.1 HM298.1)); have n3_ := Aside0.mk (bG BK303.1 hg (R_ne HL321_0.1 BK303.1 (by decide))); have n5_ := Aside0.mk (hb); have n6_ := Aside0.mk (H_grown (H_widen (by repeat (first | exact HH64.1 | refine H_alloc ?_ _ | refine H_drewN ?_ _ | refine H_drew ?_))) hg (fun k_ e_ => .inl (UU64.1.1 k_ e_))); have n7_ := Aside0.mk (ho); clear HO_3; clear BK294; clear BK298; clear BK303; clear HB; clear HH64; clear HO320; clear UU64; clear HL321_0; have HO_3 := n0_; have BK294 := n1_; have BK298 := n2_; have BK303 := n3_; have HB := n5_; have HH64 := n6_; have HO324 := n7_; clear n0_ n1_ n2_ n3_ n5_ n6_ n7_; clear ho hb hg hat; have p52 : 0 <= ((x5_1.length : Int) : Int) := OD; have q52 : ((x5_1.length : Int) : Int) < ((y318.length : Int) : Int) := OD; replace p52 := eq_true p52; replace q52 := eq_true q52; obtain ⟨Ao68, co68, eo68⟩ := R_slice HO324.1; subst eo68; obtain ⟨_, _, hraw66, _, _, hcc66, _⟩ := H_raw HH64.1 (OD) (by have h_ : ((x5_1.length : Int) : Int) < ((y318.length : Int) : Int) := OD; first | exact h_ | (have e_ := (HN64.1); omega) | simpa using h_); obtain ⟨_, hfr66⟩ := H_at HH64.1 (OD) (by have h_ : ((x5_1.length : Int) : Int) < ((y318.length : Int) : Int) := OD; first | exact h_ | (have e_ := (HN64.1); omega) | simpa using h_); have hx66_0 := hcc66 0 _ rfl; have hf66_0 := hfr66 0; (try simp only [Nat.add_zero] at hx66_0 hf66_0); (try rw [show ((Kd.slice 3 (Kd.int .i64))).sz = 1 from rfl, Nat.mul_one] at hx66_0); (try rw [show ((Kd.slice 3 (Kd.int .i64))).sz = 1 from rfl, Nat.mul_one] at hf66_0); (try simp only [Go.IntWalk.toNatUp] at hx66_0 hf66_0); have HP66 := S_seg0 HH64.1 (OD) (by have h_ : ((x5_1.length : Int) : Int) < ((y318.length : Int) : Int) := OD; first | exact h_ | (have e_ := (HN64.1); omega) | simpa using h_) (seg := [.slice Ao68 y322.length co68]) (j := 0) (show 1 <= 1 from by decide) (x' := y322) (M_row HO324.1) (fun _ hk => hk); (try simp only [show ((Kd.slice 3 (Kd.int .i64))).sz = 1 from rfl, Nat.mul_one, Nat.add_zero] at HP66); clear hcc66 hfr66) | ((with_reducible refine gate_store (t := 42) (p := 64) rfl ?_); refine storeE (t := 42) (p := 64) (w1 := (w65.setCell ⟨go64, ((x5_1.length : Int) : Int).toNat, none⟩ (.slice Ao68 y322.length co68))) ?_; intro w67 hw; have hg : w65.grownBy w67 (some go64) := (by rw [hw]; exact HP66.2); have hp_ : Kd.S (Kd.slice 3 (Kd.int .i64)) 42 w67 w.heap.size (fun k_ => some k_ ≠ (.slice (some ad310) t295.length co57 : Value).ownBlock) (.slice (some ⟨go64, 0, none⟩) y318.length co63) y325 := (by rw [hw, Ny325.1]; exact HP66.1); clear HP66; have n0_ := Aside0.mk (R_over' (v := (.slice (some ⟨go64, 0, none⟩) y318.length co63)) (PR HO_3.1) (R_typed hraw66) (by decide) hg); have n1_ := Aside0.mk (bG BK294.1 hg (R_ne hraw66 BK294.1 (by decide))); have n2_ := Aside0.mk (bG BK298.1 hg (map_ne hraw66 BK298.1 HM298.1)); have n3_ := Aside0.mk (bG BK303.1 hg (R_ne hraw66 BK303.1 (by decide))); have n5_ := Aside0.mk ((by rw [hw]; exact below_set HB.1 GB64.1 : Below w.heap.size w w67)); have n6_ := Aside0.mk (hp_); clear HO_3; clear BK294; clear BK298; clear BK303; clear HB; clear HO324; clear HH64; have HO_3 := n0_; have BK294 := n1_; have BK298 := n2_; have BK303 := n3_; have HB := n5_; have HO320 := n6_; clear n0_ n1_ n2_ n3_ n5_ n6_; clear hg hw hp_ hraw66))
     go_roundg k1
     case measure => have := HK1.1; omega
     case rel => exact ⟨(y325), (wrap64 (x17_1 + 1)), (((rd t295 x17_1), (x5_1.length : Int)) :: xm_1), (_), RG, H', ⟨by have := HK1.1; omega⟩, ⟨PR HO_3.1⟩, ⟨PS HO320.1⟩, ⟨PB BK294.1⟩, ⟨PB BK298.1⟩, HM298, ⟨BL HB.1⟩⟩
   have c26b0 := beq_eq_false_iff_ne.mpr c26
   have c26b1 := bne_iff_ne.mpr c26
   have H' := Aside0.mk H
   clear H
   have p302 : 0 <= (x17_1 : Int) := OD
   have q302 : x17_1 < (l0_2.length : Int) := OD
   obtain ⟨ad302, e302, hx302_0, hx302_1⟩ := at_T45 HR0_2.1 x17_1 p302 q302
   cases e302
   replace hx302_0 := (HB.1.cell (World.block_lt_of_cell? w _ hx302_0)).trans hx302_0
   replace hx302_1 := (HB.1.cell (World.block_lt_of_cell? w _ hx302_1)).trans hx302_1
   replace p302 := eq_true p302
   replace q302 := eq_true q302
   go_wp2_with (first | ((with_reducible refine gate_dst (N := 7) rfl ?_); refine boxE (cs := #[.int .i64 0, .int .i64 0]) (t := 45) ?_; intro gb303 hg w69 hbox hb; refine E12 (rB HO_3.1 hb) (sB HO_5.1 hb) (bB BK294.1 hb) (bB BK298.1 hb) (bS HB.1 hb) (hbox) (gX HB.1 hg) (gX HB.1 hg) (nB BK294.1 hg) (nC BK294.1 hg) (nB BK298.1 hg) (nC BK298.1 hg) ?_; clear HO_3 HO_5 BK294 BK298 HB; intro HO_3 HO_5 BK294 BK298 HB BK303 GW303 GE303 NB294_303 NB303_294 NB298_303 NB303_298; clear hb hbox hg; have hnb70 := NB303_294.1; have hnc70 := NB294_303.1; have hnb71 := NB303_298.1; have hnc71 := NB298_303.1; obtain ⟨hcz72_0, hcz72_1, hfz72_0, hfz72_1⟩ := cz2 BK303.1) | ((with_reducible refine gate_dst (N := 39) rfl ?_); refine look_event (b := gb298) (om := om_1) (mm := xm_1) rfl (.tmp 34) (.tmp 38) 54 3 rfl Try.underlying54 Try.underlying3 ?hz (by first | exact BK298.1 | (refine obj_far ?_ NB298_303.1 _; refine obj_far ?_ NB298_303.1 _; exact BK298.1)) HM298.1 ?hm (rd t295 x17_1) ?hx HKY.1 ?_; (case hz => exact impl_unitsOf.zero3 _); (case hm => rfl); (case hx => first | rfl | (go_simp; done) | (go_simp; rfl))))
   go_roundg k1
   case measure => have := HK1.1; omega
   case rel => exact ⟨(x5_1), (wrap64 (x17_1 + 1)), (xm_1), (om_1), RG, H', ⟨by have := HK1.1; omega⟩, ⟨by (with_reducible repeat (first | apply R_alloc | apply R_drewN | apply R_drew)); exact R_mono (RQ gb303 1 (RQ gb303 0 (R_types HO_3.1 BK303.1 (by decide)) _) _) (fun _ hk => trivial)⟩, ⟨by (with_reducible repeat (first | apply S_alloc | apply S_drewN | apply S_drew)); exact S_mono (SQ gb303 1 (SQ gb303 0 (S_types HO_5.1 BK303.1 (by decide)) _) _) (fun _ hk => hk.1)⟩, ⟨by (with_reducible repeat (first | refine blk_drewN ?_ _ | refine blk_drew ?_ | refine blk_alloc ?_ _)); refine blk_far ?_ NB294_303.1 _; (with_reducible repeat (first | refine blk_drewN ?_ _ | refine blk_drew ?_ | refine blk_alloc ?_ _)); refine blk_far ?_ NB294_303.1 _; (with_reducible repeat (first | refine blk_drewN ?_ _ | refine blk_drew ?_ | refine blk_alloc ?_ _)); exact BK294.1⟩, ⟨by (with_reducible repeat (first | refine blk_drewN ?_ _ | refine blk_drew ?_ | refine blk_alloc ?_ _)); refine obj_far ?_ NB298_303.1 _; (with_reducible repeat (first | refine blk_drewN ?_ _ | refine blk_drew ?_ | refine blk_alloc ?_ _)); refine obj_far ?_ NB298_303.1 _; (with_reducible repeat (first | refine blk_drewN ?_ _ | refine blk_drew ?_ | refine blk_alloc ?_ _)); exact BK298.1⟩, HM298, ⟨BL HB.1⟩⟩
 obtain rfl := Option.some.inj H
 go_wp2
 go_ret
 exact ⟨_, RF, SPE (S_mono HO_5.1 (fun _ hk => trivial)), BL HB.1⟩
/-! ### impl_copyBoard: function 20 -/
open Kd
def impl_copyBoard.f (a0_0 : Int) (a0_1 : Int) (l0_2 : List (S45)) : Option (Int × Int × (List (S45))) := (some (([] : List (S45)) : List (S45))).bind fun y328 => (if y328.length + l0_2.length < 8796093022208 then (some (a0_0, a0_1, (y328 ++ l0_2))) else (none))
def impl_copyBoard.T1 : Bool × List (List Nat × List Nat) := (true, [([], []), ([0], [0]), ([], []), ([2], [2]), ([], []), ([], []), ([5], [5]), ([4, 6], [4, 6]), ([1, 3, 7], [1, 3, 7]), ([8, 7, 0, 1, 2, 3, 4, 5, 6, 7, 8], [8])])
def impl_copyBoard.B1 : List Nat := [0, 1, 0, 4, 0, 0, 32, 112, 255, 511]
theorem impl_copyBoard.tab1 : rtab .any (opsOf Try.f20 1) = impl_copyBoard.T1 := by kernel_rfl
theorem impl_copyBoard.bits1 : waitsOk impl_copyBoard.T1.2 impl_copyBoard.B1 = true := by kernel_rfl
set_option maxHeartbeats 8000000 in
set_option maxRecDepth 100000 in
theorem impl_copyBoard.calls (a0_0 : Int) (a0_1 : Int) (A0_2 : Option Addr) (c0_2 : Nat) (l0_2 : List (S45)) (r1 : Int) (r2 : Int) (r3 : List (S45)) (w : World) (hr0_2 : Kd.C k45 w A0_2 l0_2.length l0_2) (hc0_2 : l0_2.length <= c0_2) (h : impl_copyBoard.f a0_0 a0_1 l0_2 = some (r1, r2, r3)) :
 Calls Try.prog 20 #[.agg #[.int .i64 a0_0, .int .i64 a0_1, .slice A0_2 l0_2.length c0_2]] w fun e w' => ∃ v2_ : Value, e = .returned (.agg #[.int .i64 r1, .int .i64 r2, v2_]) /\ Kd.R k45 45 w' w.heap.size (fun _ => True) v2_ r3 /\ Below w.heap.size w w' := by
 have hu28 := Try.underlying28
 have HR0_2 := Aside0.mk hr0_2
 have HC0_2 := Aside0.mk hc0_2
 clear hr0_2 hc0_2
 have HB := Aside0.mk (Below.refl w.heap.size w)
 have H := h
 clear h
 unfold impl_copyBoard.f at H
 replace H := nameB H; obtain ⟨y328, Ny328, H⟩ := H
 replace H := ifP H; obtain ⟨c2, H⟩ := H
 have LMc2 := Aside0.mk c2
 clear c2
 generalize hy331 : ((y328 ++ l0_2) : List (S45)) = y331 at H
 have Ny331 := Aside0.mk hy331.symm; clear hy331
 simp only [Option.some.injEq, Prod.mk.injEq] at H
 obtain ⟨rfl, rfl, rfl⟩ := H
 go_enter Try.func20, Try.ntmps20
 try go_wp2_with (first | ((with_reducible refine gate_dst (N := 1) rfl ?_); refine boxE (cs := #[.int .i64 a0_0, .int .i64 a0_1, .slice A0_2 l0_2.length c0_2]) (t := 28) ?_; intro gb326 hg w3 hbox hb; refine E4b HB.1 hg hbox hb ?_; clear HB; intro HB BK326 GW326 GE326; clear hb hbox hg) | ((with_reducible refine gate_dst (N := 2) rfl ?_); refine boxE (cs := #[.int .i64 0, .int .i64 0, .slice none 0 0]) (t := 28) ?_; intro gb327 hg w4 hbox hb; refine E7 (bB BK326.1 hb) (bS HB.1 hb) (hbox) (gX HB.1 hg) (gX HB.1 hg) (nB BK326.1 hg) (nC BK326.1 hg) ?_; clear BK326 HB; intro BK326 HB BK327 GW327 GE327 NB326_327 NB327_326; clear hb hbox hg))
 refine E3 (blk_drew BK326.1) (blk_drew BK327.1) (below_drew1 HB.1) ?_
 clear BK326 BK327 HB
 intro BK326 BK327 HB
 refine start_ (n := 10) (S := fun w' => w'.cell? ⟨gb326, 0, none⟩ = some (.int .i64 a0_0) /\ w'.cell? ⟨gb326, 1, none⟩ = some (.int .i64 a0_1) /\ w'.cell? ⟨gb326, 2, none⟩ = some (.slice A0_2 l0_2.length c0_2)) (ds := []) #[Zz,Zz,Zz,Zz,Zz,Zz,Zz,Zz,Zz,Zz] (by kernel_rfl) rfl rfl ⟨(blk_cell BK326.1 0).trans rfl, (blk_cell BK326.1 1).trans rfl, (blk_cell BK326.1 2).trans rfl⟩ (fun hHeld => ?_); refine with_tabW impl_copyBoard.tab1 impl_copyBoard.bits1 (fun HT_ HW_ => ?_)
 generalize w4.drew = w5 at BK326 BK327 HB hHeld ⊢
 refine pureF 0 (N := some 3) HT_.1 ?_
 refine pureF 2 (N := some 5) HT_.1 ?_
 refine pureF 5 (N := some 8) HT_.1 ?_
 refine takeE 1 (N := some 4) HT_.1 HW_.1 hHeld ?_
 refine takeE 3 (N := some 6) HT_.1 HW_.1 hHeld ?_
 refine takeE 6 (N := some 9) HT_.1 HW_.1 hHeld ?_
 refine one_ (i := 4) (N := some 7) #[Yy,Yy,Yy,Yy,Yy,Yy,Yy,Zz,Zz,Zz] rfl rfl (one_of HT_.1 (by kernel_rfl)) (by decide) (fun K hK => ?_)
 refine R_lit_step k45 _ 45 ?hg (N := 7) ?hd (xs := ([] : List (S45))) (inner := []) (ok := fun _ => True) (okp := fun _ => True) ?hr ?hp (fun _ hk => hk) trivial (Below.refl _ _) (Nat.le_refl _) (by simp) ?_; (case hd => rfl); (case hg => rfl); (case hr => first | (go_simp; done) | (go_simp; rfl)); (case hp => exact (Reps.none _ _))
 intro v329 w6 ho7 hb hg_ hnew_
 clear hg_ hnew_
 (first | rw [<- Ny328.1] at ho7 | (simp only [Int.reduceToNat] at ho7; rw [<- Ny328.1] at ho7))
 refine E4 (R_lower ho7 (bZ HB.1)) (bB BK326.1 hb) (bB BK327.1 hb) (bS HB.1 hb) ?_
 clear BK326 BK327 HB
 intro HO330 BK326 BK327 HB
 clear hb ho7
 refine hK.out _ _ ⟨(blk_cell BK326.1 0).trans rfl, (blk_cell BK326.1 1).trans rfl, (blk_cell BK326.1 2).trans rfl⟩ (fun hHeld => ?_)
 clear hK K
 refine norm_ (a' := ?_) ?_ ?_
 rotate_left
 · show Act.put _ (some 7) _ = _
   simp only [Act.put, List.setIfInBounds_toArray, List.set_cons_zero, List.set_cons_succ, i64_w, i32_w]
   rfl
 refine one_ (i := 7) (N := some 10) #[Yy,Yy,Yy,Yy,Yy,Yy,Yy,Yy,Zz,Zz] rfl rfl (one_of HT_.1 (by kernel_rfl)) (by decide) (fun K hK => ?_)
 refine R_append_rows_step k45 (w0 := w) w.heap.size (by rfl) (.tmp 7) (.tmp 9) 26 45 (.agg #[(.int .i64 0), (.int .i64 0)]) 16 rfl Try.underlying26 info45 rfl (by decide) (by omega) v329 y328 l0_2 _ _ _ (fun _ => True) (fun _ => False) rfl rfl ?aO ?aR (fun _ _ h => h) (fun _ h => h.elim) ?aF ?aB ?aS ?aL ?_
 (case aR => repeat (first | exact (C_below HR0_2.1 HB.1) | (with_reducible refine C_alloc ?_ _) | (with_reducible refine C_drewN ?_ _) | (with_reducible refine C_drew ?_)))
 (case aB => exact (BL HB.1))
 (case aF => exact (fun _ _ => trivial))
 (case aO => exact (PR HO330.1))
 (case aS => exact (bZ HB.1))
 (case aL => have := LMc2.1; omega)
 intro v332 w8 ho hb hg hat
 rw [<- Ny331.1] at ho
 refine E4 (bG BK326.1 hg (R_ne HO330.1 BK326.1 (by decide))) (bG BK327.1 hg (R_ne HO330.1 BK327.1 (by decide))) (hb) (ho) ?_
 clear BK326 BK327 HB HO330
 intro BK326 BK327 HB HO333
 clear ho hb hg hat
 obtain ⟨Ao9, co9, eo9⟩ := R_slice HO333.1
 (first | subst eo9 | (injection eo9 with f1_ f2_ f3_; have f4_ := f1_.symm; have f5_ := f3_.symm; clear f1_ f2_ f3_; subst f4_; subst f5_))
 refine hK.out _ _ ⟨(blk_cell BK326.1 0).trans rfl, (blk_cell BK326.1 1).trans rfl, (blk_cell BK326.1 2).trans rfl⟩ (fun hHeld => ?_)
 clear hK K
 refine norm_ (a' := ?_) ?_ ?_
 rotate_left
 · show Act.put _ (some 10) _ = _
   simp only [Act.put, List.setIfInBounds_toArray, List.set_cons_zero, List.set_cons_succ, i64_w, i32_w]
   rfl
 refine pureF 8 (N := some 11) HT_.1 ?_
 refine one_ (i := 9) (N := none) #[Yy,Yy,Yy,Yy,Yy,Yy,Yy,Yy,Yy,Yy] rfl rfl (one_of HT_.1 (by kernel_rfl)) (by decide) (fun K hK => ?_)
 obtain ⟨hs10, hs11, hs12, hfs10, hfs11, hfs12⟩ := cz3 BK327.1
 have hns10_0 := NB326_327.1
 have hms10_0 := NB327_326.1
 refine skip_ (w1 := ?_) (by rfl) rfl ?_ ?_
 rotate_left
 · go_simp
   rfl
 refine hK.out _ _ ⟨(CF3 NB326_327.1 hHeld.1), (CF3 NB326_327.1 hHeld.2.1), (CF3 NB326_327.1 hHeld.2.2)⟩ (fun hHeld => ?_)
 clear hK K
 refine done_ (done_of HT_.1 (by kernel_rfl)) ?_
 try go_wp2
 refine bodyPost_ret (results_cell_row rfl _ _ gb327 28 #[.int .i64 a0_0, .int .i64 a0_1, .slice Ao9 y331.length co9] (0, 0) _ rfl (PF0 BK327.1) Try.underlying28 rfl (by kernel_rfl)) rfl ?_
 exact ⟨_, RF, by (with_reducible repeat (first | apply R_alloc | apply R_drewN | apply R_drew)); exact R_mono (RQ gb327 2 (RQ gb327 1 (RQ gb327 0 (R_types HO333.1 BK327.1 (by decide)) _) _) _) (fun _ hk => trivial), BL HB.1⟩
/-! ### impl_TurnUnit: function 7 -/
open Kd
mutual
def impl_TurnUnit.j0 : Nat -> Int -> List (List Int) -> Bool -> Int -> Int -> List (S45) -> Option (Int × Int × (List (S45)) × Bool)
 | 0, _, _, _, _, _, _ => none
 | k + 1, x1, x6, x23, x335000, x335001, x335002 => if x23 = true then (some (0, 0, ([] : List (S45)), false)) else ((impl_copyBoard.f x335000 x335001 x335002).bind fun bt340 => (if 0 <= x1 then (if x1 < (x6.length : Int) then (impl_TurnUnit.l0 k (rd_L3 x6 x1) ((rd_L3 x6 x1).length : Int) 0 bt340.1 bt340.2.1 bt340.2.2) else (none)) else (none)))
def impl_TurnUnit.l0 : Nat -> List Int -> Int -> Int -> Int -> Int -> List (S45) -> Option (Int × Int × (List (S45)) × Bool)
 | 0, _, _, _, _, _, _ => none
 | k + 1, x30, x31, x32, x346000, x346001, x346002 => if x32 < x31 then (if 0 <= x32 then (if x32 < (x30.length : Int) then (if 0 <= (rd x30 x32) then (if (rd x30 x32) < (x346002.length : Int) then (impl_TurnUnit.l0 k x30 x31 (wrap64 (x32 + 1)) x346000 x346001 (x346002.set ((rd x30 x32) : Int).toNat (⟨(rd_T45 x346002 (rd x30 x32)).f0, wrap64 (1 - ((rd_T45 x346002 (rd x30 x32)).f1))⟩ : S45))) else (none)) else (none)) else (none)) else (none)) else (some (x346000, x346001, x346002, true))
end
def impl_TurnUnit.f (k : Nat) (a0_0 : Int) (a0_1 : Int) (l0_2 : List (S45)) (a1 : Int) : Option (Int × Int × (List (S45)) × Bool) := (impl_IsBoard.f k a0_0 a0_1 l0_2).bind fun t336 => (if t336 = true then ((impl_unitsOf.f k a0_0 a0_1 l0_2).bind fun t337 => (if a1 < 0 then (impl_TurnUnit.j0 k a1 t337 true a0_0 a0_1 l0_2) else (impl_TurnUnit.j0 k a1 t337 (decide (a1 ≥ (t337.length : Int))) a0_0 a0_1 l0_2))) else (some (0, 0, ([] : List (S45)), false)))
theorem impl_TurnUnit.mono_l : ∀ k, (∀ y0 y1 y2 y3 y4 y5, LeO (impl_TurnUnit.j0 k y0 y1 y2 y3 y4 y5) (impl_TurnUnit.j0 (k + 1) y0 y1 y2 y3 y4 y5)) /\ (∀ y0 y1 y2 y3 y4 y5, LeO (impl_TurnUnit.l0 k y0 y1 y2 y3 y4 y5) (impl_TurnUnit.l0 (k + 1) y0 y1 y2 y3 y4 y5))
 | 0 => by refine ⟨?_, ?_⟩ <;> (intros; intro r h; first | (simp [impl_TurnUnit.j0] at h; done) | (simp [impl_TurnUnit.l0] at h; done))
 | k + 1 => by
  obtain ⟨ih0, ih1⟩ := impl_TurnUnit.mono_l k
  refine ⟨?_, ?_⟩ <;> (
   intros
   first | unfold impl_TurnUnit.j0 | unfold impl_TurnUnit.l0
   exact LM4 ih0 ih1 impl_IsBoard.mono impl_unitsOf.mono)
theorem impl_TurnUnit.mono : ∀ a0 a1 a2 a3 k, LeO (impl_TurnUnit.f k a0 a1 a2 a3) (impl_TurnUnit.f (k + 1) a0 a1 a2 a3) := by
 intro a0 a1 a2 a3 k
 obtain ⟨ih0, ih1⟩ := impl_TurnUnit.mono_l k
 unfold impl_TurnUnit.f
 exact LM4 ih0 ih1 impl_IsBoard.mono impl_unitsOf.mono
def impl_TurnUnit.T10 : Bool × List (List Nat × List Nat) := (true, [([], []), ([0], [0]), ([], []), ([], []), ([3], [3]), ([], []), ([4, 5], [4, 5]), ([6], [6]), ([7], [7]), ([8], [8]), ([1, 2, 0, 1, 2, 3, 4, 5, 6, 7, 8, 9], [1, 2]), ([10, 0, 1, 2, 3, 4, 5, 6, 7, 8, 9], [10]), ([11, 9, 0, 1, 2, 3, 4, 5, 6, 7, 8, 9], [9, 11])])
def impl_TurnUnit.B10 : List Nat := [0, 1, 0, 0, 8, 0, 56, 120, 248, 504, 1023, 2047, 4095]
theorem impl_TurnUnit.tab10 : rtab .any (opsOf Try.f7 10) = impl_TurnUnit.T10 := by kernel_rfl
theorem impl_TurnUnit.bits10 : waitsOk impl_TurnUnit.T10.2 impl_TurnUnit.B10 = true := by kernel_rfl
set_option maxHeartbeats 8000000 in
set_option maxRecDepth 100000 in
theorem impl_TurnUnit.calls (k : Nat) (a0_0 : Int) (a0_1 : Int) (A0_2 : Option Addr) (c0_2 : Nat) (l0_2 : List (S45)) (a1 : Int) (r1 : Int) (r2 : Int) (r3 : List (S45)) (r4 : Bool) (w : World) (hr0_2 : Kd.C k45 w A0_2 l0_2.length l0_2) (hc0_2 : l0_2.length <= c0_2) (h : impl_TurnUnit.f k a0_0 a0_1 l0_2 a1 = some (r1, r2, r3, r4)) :
 Calls Try.prog 7 #[.agg #[.int .i64 a0_0, .int .i64 a0_1, .slice A0_2 l0_2.length c0_2], .int .i64 a1] w fun e w' => ∃ v2_ : Value, e = .returned (.tuple #[.agg #[.int .i64 r1, .int .i64 r2, v2_], .bool r4]) /\ Kd.R k45 45 w' w.heap.size (fun _ => True) v2_ r3 /\ Below w.heap.size w w' := by
 have hu28 := Try.underlying28
 have HR0_2 := Aside0.mk hr0_2
 have HC0_2 := Aside0.mk hc0_2
 clear hr0_2 hc0_2
 have HB := Aside0.mk (Below.refl w.heap.size w)
 have H := h
 clear h
 unfold impl_TurnUnit.f at H
 replace H := bindA H; obtain ⟨t336, A3, H⟩ := H
 replace H := ifX H; rcases H with ⟨rfl, H⟩ | ⟨rfl, H⟩
 · replace H := bindA H; obtain ⟨t337, A5, H⟩ := H
   have HC6 := Aside0.mk H
   clear H
   go_enter Try.func7, Try.ntmps7
   go_upto_region 4 with (first | ((with_reducible refine gate_dst (N := 2) rfl ?_); (try (refine gate_guard (by rfl) ?_; dsimp only)); refine boxE (cs := #[.int .i64 a0_0, .int .i64 a0_1, .slice A0_2 l0_2.length c0_2]) (t := 28) ?_; intro gb334 hg w7 hbox hb; refine E4b HB.1 hg hbox hb ?_; clear HB; intro HB BK334 GW334 GE334; clear hb hbox hg) | ((with_reducible refine gate_dst (N := 4) rfl ?_); (try (refine gate_guard (by rfl) ?_; dsimp only)); refine boxE (cs := #[.int .i64 0, .int .i64 0, .slice none 0 0]) (t := 28) ?_; intro gb335 hg w8 hbox hb; refine E7 (bB BK334.1 hb) (bS HB.1 hb) (hbox) (gX HB.1 hg) (gX HB.1 hg) (nB BK334.1 hg) (nC BK334.1 hg) ?_; clear BK334 HB; intro BK334 HB BK335 GW335 GE335 NB334_335 NB335_334; clear hb hbox hg; have hnb9 := NB334_335.1; have hnc9 := NB335_334.1; obtain ⟨hcz10_0, hcz10_1, hcz10_2, hfz10_0, hfz10_1, hfz10_2⟩ := cz3 BK334.1) | ((with_reducible refine gate_callee (f := 18) rfl ?_); refine goesM (N := (some 11)) #[.agg #[.int .i64 a0_0, .int .i64 a0_1, .slice A0_2 l0_2.length c0_2]] Try.func18 ?_; (with_reducible refine (impl_IsBoard.calls k a0_0 a0_1 _ _ l0_2 true _ ?side1 ?side2 A3.1).mono ?_); (case side1 => exact CB (C_below HR0_2.1 HB.1)); (case side2 => exact HC0_2.1); rintro e w11 ⟨rfl, hb⟩; refine ⟨_, rfl, ?_⟩; refine E3 (bB BK334.1 hb) (bB BK335.1 hb) (bS HB.1 hb) ?_; clear BK334 BK335 HB; intro BK334 BK335 HB; (try clear hb); obtain ⟨hcz12_0, hcz12_1, hcz12_2, hfz12_0, hfz12_1, hfz12_2⟩ := cz3 BK334.1) | ((with_reducible refine gate_callee (f := 19) rfl ?_); refine goesM (N := (some 15)) #[.agg #[.int .i64 a0_0, .int .i64 a0_1, .slice A0_2 l0_2.length c0_2]] Try.func19 ?_; (with_reducible refine (impl_unitsOf.calls k a0_0 a0_1 _ _ l0_2 t337 _ ?side1 ?side2 A5.1).mono ?_); (case side1 => exact CB (C_below HR0_2.1 HB.1)); (case side2 => exact HC0_2.1); rintro e w13 ⟨v338, rfl, ho0, hb⟩; refine ⟨_, rfl, ?_⟩; refine E4 (S_lower ho0 (bZ HB.1)) (bB BK334.1 hb) (bB BK335.1 hb) (bS HB.1 hb) ?_; clear BK334 BK335 HB; intro HO339 BK334 BK335 HB; (try clear hb); (try clear ho0)))
   (try simp only [Act.put, List.setIfInBounds_toArray, List.set_cons_zero, List.set_cons_succ])
   go_cut [23] (fun v23 wc => ∃ (kq : Nat) (x23_5 : Bool), v23 = .bool x23_5 /\ Aside0 (impl_TurnUnit.j0 kq a1 t337 x23_5 a0_0 a0_1 l0_2 = some (r1, r2, r3, r4)) /\ Aside0 (kq <= k) /\ Aside0 (Kd.S (Kd.slice 3 (Kd.int .i64)) 42 wc w.heap.size (fun _ => True) v338 t337) /\ Aside0 (wc.heap[gb334]? = some (.cells #[.int .i64 a0_0, .int .i64 a0_1, (.slice A0_2 l0_2.length c0_2)] 28 (0, 0))) /\ Aside0 (wc.heap[gb335]? = some (.cells #[.int .i64 0, .int .i64 0, (.slice none 0 0)] 28 (0, 0))) /\ Aside0 (Below w.heap.size w wc))
   case first =>
    have H := HC6.1
    clear HC6
    replace H := ifB H; rcases H with ⟨c14b0, H⟩ | ⟨c14b0, H⟩
    · (first | rw [c14b0] | (simp only [i64_w, i32_w]; rw [c14b0]) | skip)
      have H' := Aside0.mk H
      clear H
      go_wp2
      go_meet
      case rel => exact ⟨_, (true), RG, H', ⟨by first | omega | exact Nat.le_refl _⟩, ⟨PS HO339.1⟩, ⟨PB BK334.1⟩, ⟨PB BK335.1⟩, ⟨BL HB.1⟩⟩
    (first | rw [c14b0] | (simp only [i64_w, i32_w]; rw [c14b0]) | skip)
    have H' := Aside0.mk H
    clear H
    obtain ⟨Ao15, co15, eo15⟩ := S_slice HO339.1
    subst eo15
    go_wp2
    go_meet
    case rel => exact ⟨_, (decide (a1 ≥ (t337.length : Int))), RG, H', ⟨by first | omega | exact Nat.le_refl _⟩, ⟨PS HO339.1⟩, ⟨PB BK334.1⟩, ⟨PB BK335.1⟩, ⟨BL HB.1⟩⟩
   clear HC6
   clear hcz10_0 hcz10_1 hcz10_2 hcz12_0 hcz12_1 hcz12_2 hfz10_0 hfz10_1 hfz10_2 hfz12_0 hfz12_1 hfz12_2
   obtain ⟨kq, x23_5, rfl, HA, HJ5, HO_6, BK334, BK335, HB⟩ := hcut
   cases kq with
   | zero => exact absurd HA.1 (by simp [impl_TurnUnit.j0])
   | succ kj5 => ?_
   have H := HA.1
   clear HA
   simp only [impl_TurnUnit.j0] at H
   replace H := ifX H; rcases H with ⟨rfl, H⟩ | ⟨rfl, H⟩
   · simp only [Option.some.injEq, Prod.mk.injEq] at H
     obtain ⟨rfl, rfl, rfl, rfl⟩ := H
     obtain ⟨hcz18_0, hcz18_1, hcz18_2, hfz18_0, hfz18_1, hfz18_2⟩ := cz3 BK335.1
     go_wp2
     refine bodyPost_ret (results_ct rfl _ _ gb335 28 #[.int .i64 0, .int .i64 0, .slice none 0 0] (0, 0) _ rfl (PF0 BK335.1) Try.underlying28 rfl (by kernel_rfl)) rfl ?_
     exact ⟨_, RF, by first | exact R_nil _ _ _ _ _ | exact N_nil _ _ _ _ _ | exact V_nil _ _ _ _ _ | exact Q_nil _ _ _ _ _ | exact S_nil _ _ _ _ _, BL HB.1⟩
   replace H := bindA H; obtain ⟨⟨t340, t341, t342⟩, A19, H⟩ := H
   dsimp only at H
   replace H := ifN H; obtain ⟨c20b0, H⟩ := H
   replace H := ifN H; obtain ⟨c21b0, H⟩ := H
   have H' := Aside0.mk H
   clear H
   obtain ⟨hcz23_0, hcz23_1, hcz23_2, hfz23_0, hfz23_1, hfz23_2⟩ := cz3 BK334.1
   go_wp2_with (first | ((with_reducible refine gate_callee (f := 20) rfl ?_); refine goesM (N := (some 26)) #[.agg #[.int .i64 a0_0, .int .i64 a0_1, .slice A0_2 l0_2.length c0_2]] Try.func20 ?_; (with_reducible refine (impl_copyBoard.calls a0_0 a0_1 _ _ l0_2 t340 t341 t342 _ ?side1 ?side2 A19.1).mono ?_); (case side1 => exact CB (C_below HR0_2.1 HB.1)); (case side2 => exact HC0_2.1); rintro e w24 ⟨v343, rfl, ho0, hb⟩; refine ⟨_, rfl, ?_⟩; refine E5 (sB HO_6.1 hb) (R_lower ho0 (bZ HB.1)) (bB BK334.1 hb) (bB BK335.1 hb) (bS HB.1 hb) ?_; clear HO_6 BK334 BK335 HB; intro HO_6 HO344 BK334 BK335 HB; (try clear hb); (try clear ho0)) | ((with_reducible refine gate_dst (N := 7) rfl ?_); (try (refine gate_guard (by rfl) ?_; dsimp only)); refine boxE (cs := #[.int .i64 0, .int .i64 0, .slice none 0 0]) (t := 28) ?_; intro gb345 hg w25 hbox hb; refine E12 (sB HO_6.1 hb) (rB HO344.1 hb) (bB BK334.1 hb) (bB BK335.1 hb) (bS HB.1 hb) (hbox) (gX HB.1 hg) (gX HB.1 hg) (nB BK334.1 hg) (nC BK334.1 hg) (nB BK335.1 hg) (nC BK335.1 hg) ?_; clear HO_6 HO344 BK334 BK335 HB; intro HO_6 HO344 BK334 BK335 HB BK345 GW345 GE345 NB334_345 NB345_334 NB335_345 NB345_335; clear hb hbox hg; have hnb26 := NB345_334.1; have hnc26 := NB334_345.1; have hnb27 := NB345_335.1; have hnc27 := NB335_345.1; obtain ⟨hcz28_0, hcz28_1, hcz28_2, hfz28_0, hfz28_1, hfz28_2⟩ := cz3 BK345.1; obtain ⟨Ao29, co29, eo29⟩ := R_slice HO344.1; subst eo29) | ((with_reducible refine gate_store (t := 28) (p := 7) rfl ?_); refine storeE (t := 28) (p := 7) (w1 := (((w25.setCell ⟨gb345, 0, none⟩ (.int .i64 t340)).setCell ⟨gb345, 1, none⟩ (.int .i64 t341)).setCell ⟨gb345, 2, none⟩ (.slice Ao29 t342.length co29))) ?_; intro w30 hw; have n0_ : Aside0 (Kd.S (Kd.slice 3 (Kd.int .i64)) 42 w30 w.heap.size (fun _ => True) v338 t337) := ⟨(by rw [hw]; exact (by (with_reducible repeat (first | apply S_alloc | apply S_drewN | apply S_drew)); exact S_mono (SQ gb345 2 (SQ gb345 1 (SQ gb345 0 (S_types HO_6.1 BK345.1 (by decide)) _) _) _) (fun _ hk => trivial)))⟩; have n1_ : Aside0 (Kd.R k45 45 w30 w.heap.size (fun _ => True) (.slice Ao29 t342.length co29) t342) := ⟨(by rw [hw]; exact (by (with_reducible repeat (first | apply R_alloc | apply R_drewN | apply R_drew)); exact R_mono (RQ gb345 2 (RQ gb345 1 (RQ gb345 0 (R_types HO344.1 BK345.1 (by decide)) _) _) _) (fun _ hk => trivial)))⟩; have n2_ : Aside0 (w30.heap[gb334]? = some (.cells #[.int .i64 a0_0, .int .i64 a0_1, .slice A0_2 l0_2.length c0_2] 28 (0, 0))) := ⟨(by rw [hw]; exact (PF1 NB334_345.1 BK334.1))⟩; have n3_ : Aside0 (w30.heap[gb335]? = some (.cells #[.int .i64 0, .int .i64 0, .slice none 0 0] 28 (0, 0))) := ⟨(by rw [hw]; exact (PF1 NB335_345.1 BK335.1))⟩; have n4_ : Aside0 (w30.heap[gb345]? = some (.cells #[.int .i64 t340, .int .i64 t341, .slice Ao29 t342.length co29] 28 (0, 0))) := ⟨(by rw [hw]; exact (PF0 BK345.1))⟩; have n5_ : Aside0 (Below w.heap.size w w30) := ⟨(by rw [hw]; exact (BL HB.1))⟩; clear hw; clear HO_6; clear HO344; clear BK334; clear BK335; clear BK345; clear HB; have HO_6 := n0_; have HO344 := n1_; have BK334 := n2_; have BK335 := n3_; have BK345 := n4_; have HB := n5_; clear n0_ n1_ n2_ n3_ n4_ n5_; obtain ⟨Ao31, co31, eo31⟩ := S_slice HO_6.1; subst eo31; have p346 : 0 <= (a1 : Int) := OD; have q346 : a1 < (t337.length : Int) := OD; obtain ⟨ad346, A346_0, c346_0, e346, hx346_0, hl346_0, hi346_0⟩ := at_L3 (S_reads' HO_6.1).2.2 a1 p346 q346; cases e346; obtain ⟨ce346, hce346, hMe346, hcc346⟩ := S_get HO_6.1 [] a1 p346 (by first | exact q346 | exact OD | (have e_ := (S_reads' HO_6.1).1; omega)); obtain ⟨ve346_0, rfl, ge346_0⟩ := hMe346; have hv346_0 := hcc346 0 _ rfl; rw [Nat.add_zero, show ((Kd.slice 3 (Kd.int .i64))).sz = 1 from rfl, Nat.mul_one] at hv346_0; replace hv346_0 := Option.some.inj (hv346_0.symm.trans hx346_0); rw [hv346_0] at ge346_0; have HL346_0 := Aside0.mk (show Kd.R (Kd.int .i64) 3 _ _ _ _ (rd_L3 t337 a1) from ge346_0); clear hv346_0 ge346_0; clear hcc346 hce346; have HR346_0 := Aside0.mk hi346_0; have HC346_0 := Aside0.mk hl346_0; clear hi346_0 hl346_0; replace p346 := eq_true p346; replace q346 := eq_true q346))
   go_loopg [32] kj5 (fun kq v32 w' => ∃ (x32_2 : Int) (x346002_2 : List (S45)) (u346002 : Value), v32 = .int .i64 x32_2 /\ Aside0 (impl_TurnUnit.l0 kq (rd_L3 t337 a1) ((rd_L3 t337 a1).length : Int) x32_2 t340 t341 x346002_2 = some (r1, r2, r3, r4)) /\ Aside0 (kq <= kj5) /\ Aside0 (Kd.R k45 45 w' w.heap.size (fun _ => True) u346002 x346002_2) /\ Aside0 (w'.heap[gb334]? = some (.cells #[.int .i64 a0_0, .int .i64 a0_1, (.slice A0_2 l0_2.length c0_2)] 28 (0, 0))) /\ Aside0 (w'.heap[gb335]? = some (.cells #[.int .i64 0, .int .i64 0, (.slice none 0 0)] 28 (0, 0))) /\ Aside0 (w'.heap[gb345]? = some (.cells #[.int .i64 t340, .int .i64 t341, u346002] 28 (0, 0))) /\ Aside0 (Kd.R (Kd.int .i64) 3 w' w.heap.size (fun _ => True) (.slice A346_0 (rd_L3 t337 a1).length c346_0) (rd_L3 t337 a1)) /\ Aside0 (Below w.heap.size w w'))
   case atStart => exact ⟨(0), (t342), (.slice Ao29 t342.length co29), RG, H', ⟨Nat.le_refl _⟩, ⟨PR HO344.1⟩, ⟨PB BK334.1⟩, ⟨PB BK335.1⟩, ⟨PB BK345.1⟩, ⟨by repeat (first | (with_reducible exact R_mono HL346_0.1 (fun _ _ => trivial)) | (with_reducible refine R_alloc ?_ _) | (with_reducible refine R_drewN ?_ _) | (with_reducible refine R_drew ?_) | exact R_mono HL346_0.1 (fun _ _ => trivial))⟩, ⟨BL HB.1⟩⟩
   clear H'
   try clear hx346_0; try clear p346; try clear q346; clear c20b0 c21b0 hcz23_0 hcz23_1 hcz23_2 hcz28_0 hcz28_1 hcz28_2 hfz23_0 hfz23_1 hfz23_2 hfz28_0 hfz28_1 hfz28_2
   obtain ⟨x32_2, x346002_2, u346002, rfl, HA, HK2, HO_346002, BK334, BK335, BK345, HR346_0, HB⟩ := hrel
   cases gk with
   | zero => exact absurd HA.1 (by simp [impl_TurnUnit.l0])
   | succ k2 => ?_
   have H := HA.1
   clear HA
   simp only [impl_TurnUnit.l0] at H
   replace H := ifB H; rcases H with ⟨c32b0, H⟩ | ⟨c32b0, H⟩
   · replace H := ifN H; obtain ⟨c33b0, H⟩ := H
     replace H := ifN H; obtain ⟨c34b0, H⟩ := H
     replace H := ifN H; obtain ⟨c35b0, H⟩ := H
     replace H := ifN H; obtain ⟨c36b0, H⟩ := H
     generalize hy349 : ((x346002_2.set ((rd (rd_L3 t337 a1) x32_2) : Int).toNat (⟨(rd_T45 x346002_2 (rd (rd_L3 t337 a1) x32_2)).f0, wrap64 (1 - ((rd_T45 x346002_2 (rd (rd_L3 t337 a1) x32_2)).f1))⟩ : S45)) : List (S45)) = y349 at H
     have Ny349 := Aside0.mk hy349.symm; clear hy349
     have H' := Aside0.mk H
     clear H
     have p347 : 0 <= (x32_2 : Int) := OD
     have q347 : x32_2 < ((rd_L3 t337 a1).length : Int) := OD
     obtain ⟨ad347, e347, hx347_0⟩ := Kd.at_int (R_reads' HR346_0.1).2.2 x32_2 p347 q347
     cases e347

     replace p347 := eq_true p347
     replace q347 := eq_true q347
     try go_wp2
     refine E6 (R_drew HO_346002.1) (blk_drew BK334.1) (blk_drew BK335.1) (blk_drew BK345.1) (R_drew HR346_0.1) (below_drew1 HB.1) ?_
     clear HO_346002 BK334 BK335 BK345 HR346_0 HB
     intro HO_346002 BK334 BK335 BK345 HR346_0 HB
     obtain ⟨Ao39, co39, eo39⟩ := R_slice HO_346002.1
     (first | subst eo39 | (injection eo39 with f1_ f2_ f3_; have f4_ := f1_.symm; have f5_ := f3_.symm; clear f1_ f2_ f3_; subst f4_; subst f5_))
     have p348 : 0 <= ((rd (rd_L3 t337 a1) x32_2) : Int) := OD
     have q348 : (rd (rd_L3 t337 a1) x32_2) < (x346002_2.length : Int) := OD
     obtain ⟨ad348, e348, hx348_0, hx348_1⟩ := at_T45 (R_reads' HO_346002.1).2.2 (rd (rd_L3 t337 a1) x32_2) p348 q348
     cases e348
     replace p348 := eq_true p348
     replace q348 := eq_true q348
     have p37 : 0 <= ((rd (rd_L3 t337 a1) x32_2) : Int) := OD
     have q37 : ((rd (rd_L3 t337 a1) x32_2) : Int) < ((x346002_2.length : Int) : Int) := OD
     obtain ⟨go37, co37, eo37, gb37, gl37, cl37, HG37⟩ := R_form HO_346002.1 (by omega)
     (first | cases eo37 | (injection eo37 with ea_ en_ ec_; (first | subst ea_ | (injection ea_ with ea_; subst ea_)); subst ec_; clear en_))
     have GB37 := Aside0.mk gb37
     have GG37 := Aside0.mk HG37
     clear gb37 gl37 HG37
     (first | simp only [add_plain] at hx348_0 | skip)
     (first | simp only [add_plain] at hx348_1 | skip)
     obtain ⟨ce37, hcl37, hM37, hcc37, hfr37⟩ := R_elem HO_346002.1 z45 ((rd (rd_L3 t337 a1) x32_2) : Int) p37 q37
     obtain rfl := k45_openM hM37
     have hx37_0 : World.cell? _ ⟨go37, ((rd (rd_L3 t337 a1) x32_2) : Int).toNat * 2, none⟩ = some (.int .i64 ((rd_T45 x346002_2 (rd (rd_L3 t337 a1) x32_2)).f0)) := hcc37 0 _ rfl
     have hx37_1 : World.cell? _ ⟨go37, ((rd (rd_L3 t337 a1) x32_2) : Int).toNat * 2 + 1, none⟩ = some (.int .i64 ((rd_T45 x346002_2 (rd (rd_L3 t337 a1) x32_2)).f1)) := hcc37 1 _ rfl
     have hf37_0 : World.frozen? _ ⟨go37, ((rd (rd_L3 t337 a1) x32_2) : Int).toNat * 2, none⟩ = false := hfr37 0
     have hf37_1 : World.frozen? _ ⟨go37, ((rd (rd_L3 t337 a1) x32_2) : Int).toNat * 2 + 1, none⟩ = false := hfr37 1
     (try clear hM37); clear hcl37 hcc37 hfr37
     replace p37 := eq_true p37
     replace q37 := eq_true q37
     obtain ⟨ce40, hcl40, hM40, hcc40, hfr40⟩ := R_elem HO_346002.1 z45 ((rd (rd_L3 t337 a1) x32_2) : Int) (OD) (by have h_ : ((rd (rd_L3 t337 a1) x32_2) : Int) < ((x346002_2.length : Int) : Int) := OD; first | exact h_ | (have e_ := (R_reads' HO_346002.1).1; omega) | simpa using h_)
     obtain rfl := k45_openM hM40
     have HP40 := (R_seg HO_346002.1 ((rd (rd_L3 t337 a1) x32_2) : Int) (OD) (by have h_ : ((rd (rd_L3 t337 a1) x32_2) : Int) < ((x346002_2.length : Int) : Int) := OD; first | exact h_ | (have e_ := (R_reads' HO_346002.1).1; omega) | simpa using h_) (seg := [.int .i64 (wrap64 (1 - ((rd_T45 x346002_2 (rd (rd_L3 t337 a1) x32_2)).f1)))]) (j := 1) hcl40 hcc40 (show 2 <= 2 from by decide) (x' := (⟨(rd_T45 x346002_2 (rd (rd_L3 t337 a1) x32_2)).f0, wrap64 (1 - ((rd_T45 x346002_2 (rd (rd_L3 t337 a1) x32_2)).f1))⟩ : S45)) (k45_mkM _ _ _ (⟨(rd_T45 x346002_2 (rd (rd_L3 t337 a1) x32_2)).f0, wrap64 (1 - ((rd_T45 x346002_2 (rd (rd_L3 t337 a1) x32_2)).f1))⟩ : S45) ) (fun _ hk => hk)).1
     rw [<- Ny349.1] at HP40
     have HQ40 := Aside0.mk HP40
     (try clear hM40); clear hcl40 hcc40 hfr40 HP40
     refine start_ (n := 13) (S := fun w' => w'.cell? ⟨gb345, 0, none⟩ = some (.int .i64 t340) /\ w'.cell? ⟨gb345, 1, none⟩ = some (.int .i64 t341) /\ w'.cell? ⟨gb345, 2, none⟩ = some (.slice (some ⟨go37, 0, none⟩) x346002_2.length co39) /\ w'.cell? ⟨go37, (rd (rd_L3 t337 a1) x32_2).toNat * 2, none⟩ = some (.int .i64 ((rd_T45 x346002_2 (rd (rd_L3 t337 a1) x32_2)).f0)) /\ w'.cell? ⟨go37, (rd (rd_L3 t337 a1) x32_2).toNat * 2 + 1, none⟩ = some (.int .i64 ((rd_T45 x346002_2 (rd (rd_L3 t337 a1) x32_2)).f1))) (ds := [12]) #[Zz,Zz,Zz,Zz,Zz,Zz,Zz,Zz,Zz,Zz,Zz,Zz,Zz] (by kernel_rfl) rfl rfl ⟨(blk_cell BK345.1 0).trans rfl, (blk_cell BK345.1 1).trans rfl, (blk_cell BK345.1 2).trans rfl, hx348_0, hx348_1⟩ (fun hHeld => ?_); refine with_tabW impl_TurnUnit.tab10 impl_TurnUnit.bits10 (fun HT_ HW_ => ?_)
     generalize wr.drew = w38 at HO_346002 BK334 BK335 BK345 HR346_0 HB GG37 HQ40 hf37_0 hf37_1 hx348_0 hx348_1 hx37_0 hx37_1 hHeld ⊢
     refine pureF 0 (N := some 36) HT_.1 ?_
     refine pureF 2 (N := some 38) HT_.1 ?_
     refine pureF 3 (N := some 39) HT_.1 ?_
     refine pureF 5 (N := some 41) HT_.1 ?_
     refine takeE 1 (N := some 37) HT_.1 HW_.1 hHeld ?_
     refine takeE 4 (N := some 40) HT_.1 HW_.1 hHeld ?_
     refine pureF 6 (N := some 42) HT_.1 ?_
     refine pureF 7 (N := some 43) HT_.1 ?_
     refine takeE 8 (N := some 44) HT_.1 HW_.1 hHeld ?_
     refine pureF 9 (N := some 45) HT_.1 ?_
     refine pureF 10 (N := some 46) HT_.1 ?_
     refine pureF 11 (N := some 47) HT_.1 ?_
     refine last_ (i := 12) (N := none) #[Yy,Yy,Yy,Yy,Yy,Yy,Yy,Yy,Yy,Yy,Yy,Yy,Yy] rfl rfl (one_of HT_.1 (by kernel_rfl)) (by decide) (fun K hK => ?_)
     refine skip_ (w1 := ?_) (by rfl) rfl ?_ ?_
     rotate_left
     · go_simp
       rfl
     refine hK.out _ _ ?_
     clear hK K
     refine done_ (done_of HT_.1 (by kernel_rfl)) ?_
     try go_wp2
     go_roundg k2
     case measure => have := HJ5.1; have := HK2.1; omega
     case rel => exact ⟨(wrap64 (x32_2 + 1)), (y349), (.slice (some ⟨go37, 0, none⟩) x346002_2.length co39), RG, H', ⟨by have := HJ5.1; have := HK2.1; omega⟩, ⟨PR HQ40.1⟩, ⟨by (with_reducible repeat (first | refine blk_drewN ?_ _ | refine blk_drew ?_ | refine blk_alloc ?_ _)); refine blk_far ?_ (by have h_ := R_ne HO_346002.1 BK334.1 (by decide); intro e_; exact h_ (by rw [e_]; rfl)) _; (with_reducible repeat (first | refine blk_drewN ?_ _ | refine blk_drew ?_ | refine blk_alloc ?_ _)); exact BK334.1⟩, ⟨by (with_reducible repeat (first | refine blk_drewN ?_ _ | refine blk_drew ?_ | refine blk_alloc ?_ _)); refine blk_far ?_ (by have h_ := R_ne HO_346002.1 BK335.1 (by decide); intro e_; exact h_ (by rw [e_]; rfl)) _; (with_reducible repeat (first | refine blk_drewN ?_ _ | refine blk_drew ?_ | refine blk_alloc ?_ _)); exact BK335.1⟩, ⟨by (with_reducible repeat (first | refine blk_drewN ?_ _ | refine blk_drew ?_ | refine blk_alloc ?_ _)); refine blk_far ?_ (by have h_ := R_ne HO_346002.1 BK345.1 (by decide); intro e_; exact h_ (by rw [e_]; rfl)) _; (with_reducible repeat (first | refine blk_drewN ?_ _ | refine blk_drew ?_ | refine blk_alloc ?_ _)); exact BK345.1⟩, ⟨by (obtain ⟨cs_, hcs_⟩ := R_typed HO_346002.1 _ rfl); (with_reducible repeat (first | refine R_drewN ?_ _ | refine R_drew ?_ | refine R_alloc ?_ _)); exact R_set HR346_0.1 hcs_ (by decide) _ _⟩, ⟨BL HB.1⟩⟩
   simp only [Option.some.injEq, Prod.mk.injEq] at H
   obtain ⟨rfl, rfl, rfl, rfl⟩ := H
   obtain ⟨hcz43_0, hcz43_1, hcz43_2, hfz43_0, hfz43_1, hfz43_2⟩ := cz3 BK345.1
   obtain ⟨hcz45_0, hcz45_1, hcz45_2, hfz45_0, hfz45_1, hfz45_2⟩ := cz3 BK335.1
   obtain ⟨Ao46, co46, eo46⟩ := R_slice HO_346002.1
   subst eo46
   go_wp2
   refine bodyPost_ret (results_ct rfl _ _ gb335 28 #[.int .i64 t340, .int .i64 t341, .slice Ao46 x346002_2.length co46] (0, 0) _ rfl (PF0 BK335.1) Try.underlying28 rfl (by kernel_rfl)) rfl ?_
   exact ⟨_, RF, by (with_reducible repeat (first | apply R_alloc | apply R_drewN | apply R_drew)); exact R_mono (RQ gb335 2 (RQ gb335 1 (RQ gb335 0 (R_types HO_346002.1 BK335.1 (by decide)) _) _) _) (fun _ hk => trivial), BL HB.1⟩
 simp only [Option.some.injEq, Prod.mk.injEq] at H
 obtain ⟨rfl, rfl, rfl, rfl⟩ := H
 go_enter Try.func7, Try.ntmps7
 go_wp2_with (first | ((with_reducible refine gate_dst (N := 2) rfl ?_); (try (refine gate_guard (by rfl) ?_; dsimp only)); refine boxE (cs := #[.int .i64 a0_0, .int .i64 a0_1, .slice A0_2 l0_2.length c0_2]) (t := 28) ?_; intro gb334 hg w47 hbox hb; refine E4b HB.1 hg hbox hb ?_; clear HB; intro HB BK334 GW334 GE334; clear hb hbox hg) | ((with_reducible refine gate_dst (N := 4) rfl ?_); (try (refine gate_guard (by rfl) ?_; dsimp only)); refine boxE (cs := #[.int .i64 0, .int .i64 0, .slice none 0 0]) (t := 28) ?_; intro gb335 hg w48 hbox hb; refine E7 (bB BK334.1 hb) (bS HB.1 hb) (hbox) (gX HB.1 hg) (gX HB.1 hg) (nB BK334.1 hg) (nC BK334.1 hg) ?_; clear BK334 HB; intro BK334 HB BK335 GW335 GE335 NB334_335 NB335_334; clear hb hbox hg; have hnb49 := NB334_335.1; have hnc49 := NB335_334.1; obtain ⟨hcz50_0, hcz50_1, hcz50_2, hfz50_0, hfz50_1, hfz50_2⟩ := cz3 BK334.1) | ((with_reducible refine gate_callee (f := 18) rfl ?_); refine goesM (N := (some 11)) #[.agg #[.int .i64 a0_0, .int .i64 a0_1, .slice A0_2 l0_2.length c0_2]] Try.func18 ?_; (with_reducible refine (impl_IsBoard.calls k a0_0 a0_1 _ _ l0_2 false _ ?side1 ?side2 A3.1).mono ?_); (case side1 => exact CB (C_below HR0_2.1 HB.1)); (case side2 => exact HC0_2.1); rintro e w51 ⟨rfl, hb⟩; refine ⟨_, rfl, ?_⟩; refine E3 (bB BK334.1 hb) (bB BK335.1 hb) (bS HB.1 hb) ?_; clear BK334 BK335 HB; intro BK334 BK335 HB; (try clear hb); obtain ⟨hcz52_0, hcz52_1, hcz52_2, hfz52_0, hfz52_1, hfz52_2⟩ := cz3 BK335.1))
 refine bodyPost_ret (results_ct rfl _ _ gb335 28 #[.int .i64 0, .int .i64 0, .slice none 0 0] (0, 0) _ rfl (PF0 BK335.1) Try.underlying28 rfl (by kernel_rfl)) rfl ?_
 exact ⟨_, RF, by first | exact R_nil _ _ _ _ _ | exact N_nil _ _ _ _ _ | exact V_nil _ _ _ _ _ | exact Q_nil _ _ _ _ _ | exact S_nil _ _ _ _ _, BL HB.1⟩

/-! ### laws_eqCell: function 30 -/
open Kd
def laws_eqCell.f (a0_0 : Int) (a0_1 : Int) (a1_0 : Int) (a1_1 : Int) : Option (Bool) := if a0_0 = a1_0 then (if a0_1 = a1_1 then (some true) else (some false)) else (some false)
set_option maxHeartbeats 8000000 in
set_option maxRecDepth 100000 in
theorem laws_eqCell.calls (a0_0 : Int) (a0_1 : Int) (a1_0 : Int) (a1_1 : Int) (r : Bool) (w : World) (h : laws_eqCell.f a0_0 a0_1 a1_0 a1_1 = some r) :
 Calls Try.prog 30 #[.agg #[.int .i64 a0_0, .int .i64 a0_1], .agg #[.int .i64 a1_0, .int .i64 a1_1]] w fun e w' => e = .returned (.bool r) /\ Below w.heap.size w w' := by
 have hu45 := Try.underlying45
 have HB := Aside0.mk (Below.refl w.heap.size w)
 have H := h
 clear h
 unfold laws_eqCell.f at H
 replace H := ifQ H; rcases H with ⟨c3, H⟩ | ⟨c3, H⟩
 · have c3b0 := beq_iff_eq.mpr c3
   have c3b1 := bne_eq_false_iff_eq.mpr c3
   clear c3
   replace H := ifQ H; rcases H with ⟨c4, H⟩ | ⟨c4, H⟩
   · have c4b0 := beq_iff_eq.mpr c4
     have c4b1 := bne_eq_false_iff_eq.mpr c4
     clear c4
     obtain rfl := Option.some.inj H
     go_enter Try.func30, Try.ntmps30
     go_wp2_with (first | ((with_reducible refine gate_dst (N := 2) rfl ?_); refine boxE (cs := #[.int .i64 a0_0, .int .i64 a0_1]) (t := 45) ?_; intro gb350 hg w5 hbox hb; refine E4b HB.1 hg hbox hb ?_; clear HB; intro HB BK350 GW350 GE350; clear hb hbox hg) | ((with_reducible refine gate_dst (N := 3) rfl ?_); refine boxE (cs := #[.int .i64 a1_0, .int .i64 a1_1]) (t := 45) ?_; intro gb351 hg w6 hbox hb; refine E7 (bB BK350.1 hb) (bS HB.1 hb) (hbox) (gX HB.1 hg) (gX HB.1 hg) (nB BK350.1 hg) (nC BK350.1 hg) ?_; clear BK350 HB; intro BK350 HB BK351 GW351 GE351 NB350_351 NB351_350; clear hb hbox hg; have hnb7 := NB350_351.1; have hnc7 := NB351_350.1; obtain ⟨hcz8_0, hcz8_1, hfz8_0, hfz8_1⟩ := cz2 BK350.1; obtain ⟨hcz9_0, hcz9_1, hfz9_0, hfz9_1⟩ := cz2 BK351.1))
     go_ret
     exact ⟨RF, BL HB.1⟩
   have c4b0 := beq_eq_false_iff_ne.mpr c4
   have c4b1 := bne_iff_ne.mpr c4
   obtain rfl := Option.some.inj H
   go_enter Try.func30, Try.ntmps30
   go_wp2_with (first | ((with_reducible refine gate_dst (N := 2) rfl ?_); refine boxE (cs := #[.int .i64 a0_0, .int .i64 a0_1]) (t := 45) ?_; intro gb350 hg w10 hbox hb; refine E4b HB.1 hg hbox hb ?_; clear HB; intro HB BK350 GW350 GE350; clear hb hbox hg) | ((with_reducible refine gate_dst (N := 3) rfl ?_); refine boxE (cs := #[.int .i64 a1_0, .int .i64 a1_1]) (t := 45) ?_; intro gb351 hg w11 hbox hb; refine E7 (bB BK350.1 hb) (bS HB.1 hb) (hbox) (gX HB.1 hg) (gX HB.1 hg) (nB BK350.1 hg) (nC BK350.1 hg) ?_; clear BK350 HB; intro BK350 HB BK351 GW351 GE351 NB350_351 NB351_350; clear hb hbox hg; have hnb12 := NB350_351.1; have hnc12 := NB351_350.1; obtain ⟨hcz13_0, hcz13_1, hfz13_0, hfz13_1⟩ := cz2 BK350.1; obtain ⟨hcz14_0, hcz14_1, hfz14_0, hfz14_1⟩ := cz2 BK351.1))
   go_ret
   exact ⟨RF, BL HB.1⟩
 have c3b0 := beq_eq_false_iff_ne.mpr c3
 have c3b1 := bne_iff_ne.mpr c3
 obtain rfl := Option.some.inj H
 go_enter Try.func30, Try.ntmps30
 go_wp2_with (first | ((with_reducible refine gate_dst (N := 2) rfl ?_); refine boxE (cs := #[.int .i64 a0_0, .int .i64 a0_1]) (t := 45) ?_; intro gb350 hg w15 hbox hb; refine E4b HB.1 hg hbox hb ?_; clear HB; intro HB BK350 GW350 GE350; clear hb hbox hg) | ((with_reducible refine gate_dst (N := 3) rfl ?_); refine boxE (cs := #[.int .i64 a1_0, .int .i64 a1_1]) (t := 45) ?_; intro gb351 hg w16 hbox hb; refine E7 (bB BK350.1 hb) (bS HB.1 hb) (hbox) (gX HB.1 hg) (gX HB.1 hg) (nB BK350.1 hg) (nC BK350.1 hg) ?_; clear BK350 HB; intro BK350 HB BK351 GW351 GE351 NB350_351 NB351_350; clear hb hbox hg; have hnb17 := NB350_351.1; have hnc17 := NB351_350.1; obtain ⟨hcz18_0, hcz18_1, hfz18_0, hfz18_1⟩ := cz2 BK350.1; obtain ⟨hcz19_0, hcz19_1, hfz19_0, hfz19_1⟩ := cz2 BK351.1))
 go_ret
 exact ⟨RF, BL HB.1⟩
end Go.Proofs.Yteenahjnpeegpaa.P
