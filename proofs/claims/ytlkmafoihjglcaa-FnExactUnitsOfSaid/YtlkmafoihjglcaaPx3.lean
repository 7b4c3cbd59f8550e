-- PRINTED by print.py (a twelfth state) out of the translation. Not trusted: Lean checks it.
import Derived.Test.YtlkmafoihjglcaaPx0
import Derived.Test.YtlkmafoihjglcaaPx2
import Derived.Test.YtlkmafoihjglcaaMapW
namespace Go.Proofs.Ytlkmafoihjglcaa.P
open Go.RowKit Go.Proofs.YtlkmafoihjglcaaW.PrintWords Go.Proofs.YtlkmafoihjglcaaW.PrintLast Go.Proofs.YtlkmafoihjglcaaW.PrintMore
attribute [local go_sem] max2_int min2_int max_two min_two max_three min_three max_four min_four   -- for this text's walks alone
set_option linter.unusedVariables false
set_option linter.unusedSimpArgs false
set_option maxHeartbeats 8000000
set_option maxRecDepth 100000

/-! ### impl_groupNumbers: function 29 -/
open Kd
mutual
def impl_groupNumbers.l0 : Nat -> List Int -> Int -> Int -> Int -> Int -> List (S49) -> Option (List Int)
 | 0, _, _, _, _, _, _ => none
 | k + 1, x3, x17, x18, x238000, x238001, x238002 => if x18 < x17 then (if 0 <= x18 then (if x18 < (x3.length : Int) then (impl_groupNumbers.l0 k (x3.set (x18 : Int).toNat (-1)) x17 (wrap64 (x18 + 1)) x238000 x238001 x238002) else (none)) else (none)) else (impl_groupNumbers.l1 k x3 0 x238002 (x238002.length : Int) 0 x238000 x238001 x238002)
def impl_groupNumbers.l1 : Nat -> List Int -> Int -> List (S49) -> Int -> Int -> Int -> Int -> List (S49) -> Option (List Int)
 | 0, _, _, _, _, _, _, _, _ => none
 | k + 1, x3, x5, x26, x27, x28, x238000, x238001, x238002 => if x28 < x27 then (if 0 <= x28 then (if x28 < (x26.length : Int) then ((impl_isGeared.f ((rd_T49 x26 x28).f0) ((rd_T49 x26 x28).f1)).bind fun t244 => (if t244 = true then (if x28 < (x3.length : Int) then (impl_groupNumbers.j2 k x3 x5 x28 x26 x27 x28 (decide ((rd x3 x28) ≥ 0)) x238000 x238001 x238002) else (none)) else (impl_groupNumbers.j2 k x3 x5 x28 x26 x27 x28 true x238000 x238001 x238002))) else (none)) else (none)) else (some x3)
def impl_groupNumbers.j2 : Nat -> List Int -> Int -> Int -> List (S49) -> Int -> Int -> Bool -> Int -> Int -> List (S49) -> Option (List Int)
 | 0, _, _, _, _, _, _, _, _, _, _ => none
 | k + 1, x3, x5, x6, x26, x27, x28, x42, x238000, x238001, x238002 => if x42 = true then (impl_groupNumbers.l1 k x3 x5 x26 x27 (wrap64 (x28 + 1)) x238000 x238001 x238002) else (if 0 <= x6 then (if x6 < (x3.length : Int) then (impl_groupNumbers.l2 k (x3.set (x6 : Int).toNat x5) x5 (([x6] : List Int)) x26 x27 x28 x238000 x238001 x238002) else (none)) else (none))
def impl_groupNumbers.l2 : Nat -> List Int -> Int -> List Int -> List (S49) -> Int -> Int -> Int -> Int -> List (S49) -> Option (List Int)
 | 0, _, _, _, _, _, _, _, _, _ => none
 | k + 1, x3, x5, x8, x26, x27, x28, x238000, x238001, x238002 => if (x8.length : Int) > 0 then (if 0 < (x8.length : Int) then (if 1 <= (x8.length : Int) then ((impl_besideOf.f k x238000 x238001 x238002 (rd x8 0)).bind fun t254 => (impl_groupNumbers.l3 k x3 x5 (x8.drop (1 : Int).toNat) x26 x27 x28 t254 (t254.length : Int) 0 x238000 x238001 x238002)) else (none)) else (none)) else (impl_groupNumbers.l1 k x3 (wrap64 (x5 + 1)) x26 x27 (wrap64 (x28 + 1)) x238000 x238001 x238002)
def impl_groupNumbers.l3 : Nat -> List Int -> Int -> List Int -> List (S49) -> Int -> Int -> List Int -> Int -> Int -> Int -> Int -> List (S49) -> Option (List Int)
 | 0, _, _, _, _, _, _, _, _, _, _, _, _ => none
 | k + 1, x3, x5, x8, x26, x27, x28, x59, x60, x61, x238000, x238001, x238002 => if x61 < x60 then (if 0 <= x61 then (if x61 < (x59.length : Int) then (if 0 <= (rd x59 x61) then (if (rd x59 x61) < (x238002.length : Int) then ((impl_isGeared.f ((rd_T49 x238002 (rd x59 x61)).f0) ((rd_T49 x238002 (rd x59 x61)).f1)).bind fun t259 => (if t259 = true then (if (rd x59 x61) < (x3.length : Int) then (if (rd x3 (rd x59 x61)) < 0 then (if x8.length < 17592186044416 then (impl_groupNumbers.l3 k (x3.set ((rd x59 x61) : Int).toNat x5) x5 (x8 ++ [rd x59 x61]) x26 x27 x28 x59 x60 (wrap64 (x61 + 1)) x238000 x238001 x238002) else (none)) else (impl_groupNumbers.l3 k x3 x5 x8 x26 x27 x28 x59 x60 (wrap64 (x61 + 1)) x238000 x238001 x238002)) else (none)) else (impl_groupNumbers.l3 k x3 x5 x8 x26 x27 x28 x59 x60 (wrap64 (x61 + 1)) x238000 x238001 x238002))) else (none)) else (none)) else (none)) else (none)) else (impl_groupNumbers.l2 k x3 x5 x8 x26 x27 x28 x238000 x238001 x238002)
end
def impl_groupNumbers.f (k : Nat) (a0_0 : Int) (a0_1 : Int) (l0_2 : List (S49)) : Option (List Int) := if 0 <= (l0_2.length : Int) then (if ((l0_2.length : Int) : Int).toNat <= 35184372088832 then ((some (List.replicate ((l0_2.length : Int) : Int).toNat 0 : List Int)).bind fun y238 => (impl_groupNumbers.l0 k y238 (y238.length : Int) 0 a0_0 a0_1 l0_2)) else (none)) else (none)
theorem impl_groupNumbers.mono_l : ∀ k, (∀ y0 y1 y2 y3 y4 y5, LeO (impl_groupNumbers.l0 k y0 y1 y2 y3 y4 y5) (impl_groupNumbers.l0 (k + 1) y0 y1 y2 y3 y4 y5)) /\ (∀ y0 y1 y2 y3 y4 y5 y6 y7, LeO (impl_groupNumbers.l1 k y0 y1 y2 y3 y4 y5 y6 y7) (impl_groupNumbers.l1 (k + 1) y0 y1 y2 y3 y4 y5 y6 y7)) /\ (∀ y0 y1 y2 y3 y4 y5 y6 y7 y8 y9, LeO (impl_groupNumbers.j2 k y0 y1 y2 y3 y4 y5 y6 y7 y8 y9) (impl_groupNumbers.j2 (k + 1) y0 y1 y2 y3 y4 y5 y6 y7 y8 y9)) /\ (∀ y0 y1 y2 y3 y4 y5 y6 y7 y8, LeO (impl_groupNumbers.l2 k y0 y1 y2 y3 y4 y5 y6 y7 y8) (impl_groupNumbers.l2 (k + 1) y0 y1 y2 y3 y4 y5 y6 y7 y8)) /\ (∀ y0 y1 y2 y3 y4 y5 y6 y7 y8 y9 y10 y11, LeO (impl_groupNumbers.l3 k y0 y1 y2 y3 y4 y5 y6 y7 y8 y9 y10 y11) (impl_groupNumbers.l3 (k + 1) y0 y1 y2 y3 y4 y5 y6 y7 y8 y9 y10 y11))
 | 0 => by refine ⟨?_, ?_, ?_, ?_, ?_⟩ <;> (intros; intro r h; first | (simp [impl_groupNumbers.l0] at h; done) | (simp [impl_groupNumbers.l1] at h; done) | (simp [impl_groupNumbers.j2] at h; done) | (simp [impl_groupNumbers.l2] at h; done) | (simp [impl_groupNumbers.l3] at h; done))
 | k + 1 => by
  obtain ⟨ih0, ih1, ih2, ih3, ih4⟩ := impl_groupNumbers.mono_l k
  refine ⟨?_, ?_, ?_, ?_, ?_⟩ <;> (
   intros
   first | unfold impl_groupNumbers.l0 | unfold impl_groupNumbers.l1 | unfold impl_groupNumbers.j2 | unfold impl_groupNumbers.l2 | unfold impl_groupNumbers.l3
   exact LM6 ih0 ih1 ih2 ih3 ih4 impl_besideOf.mono)
theorem impl_groupNumbers.mono : ∀ a0 a1 a2 k, LeO (impl_groupNumbers.f k a0 a1 a2) (impl_groupNumbers.f (k + 1) a0 a1 a2) := by
 intro a0 a1 a2 k
 obtain ⟨ih0, ih1, ih2, ih3, ih4⟩ := impl_groupNumbers.mono_l k
 unfold impl_groupNumbers.f
 exact LM6 ih0 ih1 ih2 ih3 ih4 impl_besideOf.mono
theorem impl_groupNumbers.calls (k : Nat) (a0_0 : Int) (a0_1 : Int) (A0_2 : Option Addr) (c0_2 : Nat) (l0_2 : List (S49)) (r : List Int) (w : World) (hr0_2 : Kd.C k49 w A0_2 l0_2.length l0_2) (hc0_2 : l0_2.length <= c0_2) (h : impl_groupNumbers.f k a0_0 a0_1 l0_2 = some r) :
 Calls Try.prog 29 #[.agg #[.int .i64 a0_0, .int .i64 a0_1, .slice A0_2 l0_2.length c0_2]] w fun e w' => ∃ v0_ : Value, e = .returned (v0_) /\ Kd.R (Kd.int .i64) 3 w' w.heap.size (fun _ => True) v0_ r /\ Below w.heap.size w w' := by
 have hu31 := Try.underlying31
 have hu49 := Try.underlying49
 have HR0_2 := Aside0.mk hr0_2
 have HC0_2 := Aside0.mk hc0_2
 clear hr0_2 hc0_2
 have HB := Aside0.mk (Below.refl w.heap.size w)
 have H := h
 clear h
 unfold impl_groupNumbers.f at H
 replace H := ifP H; obtain ⟨c2, H⟩ := H
 have c2b0 := eq_true c2
 have c2b1 := decide_eq_true c2
 clear c2
 replace H := ifP H; obtain ⟨c3, H⟩ := H
 have c3b0 := eq_true c3
 have c3b1 := decide_eq_true c3
 clear c3
 replace H := nameB H; obtain ⟨y238, Ny238, H⟩ := H
 have H' := Aside0.mk H
 clear H
 go_enter Try.func29, Try.ntmps29
 go_wp2_with (first | ((with_reducible refine gate_dst (N := 1) rfl ?_); refine boxE (cs := #[.int .i64 a0_0, .int .i64 a0_1, .slice A0_2 l0_2.length c0_2]) (t := 31) ?_; intro gb237 hg w4 hbox hb; refine E4b HB.1 hg hbox hb ?_; clear HB; intro HB BK237 GW237 GE237; clear hb hbox hg; obtain ⟨hcz5_0, hcz5_1, hcz5_2, hfz5_0, hfz5_1, hfz5_2⟩ := cz3 BK237.1) | ((with_reducible refine gate_dst (N := 15) rfl ?_); refine R_make (Kd.int .i64) _ 3 rfl (N := 15) rfl 43 _ _ rfl (l0_2.length : Int) rfl rfl Try.underlying43 (.int .i64 0) 8 info3 rfl (by decide) (by omega) 0 (ok := fun _ => True) (okp := fun _ => True) rfl (fun _ hk => hk) trivial (OD) (Nat.le_trans (Nat.mul_le_mul_right _ (OD : (l0_2.length : Int).toNat <= 35184372088832)) (by omega)) (Below.refl _ _) (Nat.le_refl _) ?_; intro v239 w6 ho7 hb hg_ hnew_; clear hg_ hnew_; (first | rw [<- Ny238.1] at ho7 | (simp only [Int.reduceToNat] at ho7; rw [<- Ny238.1] at ho7)); refine E3 (R_lower ho7 (bZ HB.1)) (bB BK237.1 hb) (bS HB.1 hb) ?_; clear BK237 HB; intro HO240 BK237 HB; clear hb ho7; obtain ⟨Ao8, co8, eo8⟩ := R_slice HO240.1; subst eo8))
 go_loopg [18] k (fun kq v18 w' => ∃ (x3_1 : List Int) (x18_1 : Int), v18 = .int .i64 x18_1 /\ Aside0 (impl_groupNumbers.l0 kq x3_1 (y238.length : Int) x18_1 a0_0 a0_1 l0_2 = some r) /\ Aside0 (kq <= k) /\ Aside0 (Kd.R (Kd.int .i64) 3 w' w.heap.size (fun _ => True) (.slice Ao8 y238.length co8) x3_1) /\ Aside0 (w'.heap[gb237]? = some (.cells #[.int .i64 a0_0, .int .i64 a0_1, (.slice A0_2 l0_2.length c0_2)] 31 (0, 0))) /\ Aside0 (Below w.heap.size w w'))
 case atStart => exact ⟨(y238), (0), RG, H', ⟨Nat.le_refl _⟩, ⟨PR HO240.1⟩, ⟨PB BK237.1⟩, ⟨BL HB.1⟩⟩
 clear H'
 clear c2b0 c2b1 c3b0 c3b1 hcz5_0 hcz5_1 hcz5_2 hfz5_0 hfz5_1 hfz5_2
 obtain ⟨x3_1, x18_1, rfl, HA, HK1, HO_3, BK237, HB⟩ := hrel
 have hl3_1 := (R_reads' HO_3.1).1
 rw [hl3_1] at HO_3
 (try simp only [hl3_1])
 (try simp only [hl3_1] at BK237)
 cases gk with
 | zero => exact absurd HA.1 (by simp [impl_groupNumbers.l0])
 | succ k1 => ?_
 have H := HA.1
 clear HA
 simp only [impl_groupNumbers.l0] at H
 replace H := ifB H; rcases H with ⟨c9b0, H⟩ | ⟨c9b0, H⟩
 · replace H := ifN H; obtain ⟨c10b0, H⟩ := H
   replace H := ifN H; obtain ⟨c11b0, H⟩ := H
   generalize hy241 : ((x3_1.set (x18_1 : Int).toNat (-1)) : List Int) = y241 at H
   have Ny241 := Aside0.mk hy241.symm; clear hy241
   have H' := Aside0.mk H
   clear H
   have p12 : 0 <= (x18_1 : Int) := OD
   have q12 : (x18_1 : Int) < ((x3_1.length : Int) : Int) := OD
   obtain ⟨go12, co12, eo12, gb12, gl12, cl12, HG12⟩ := R_form HO_3.1 (by omega)
   (first | cases eo12 | (injection eo12 with ea_ en_ ec_; (first | subst ea_ | (injection ea_ with ea_; subst ea_)); subst ec_; clear en_))
   have GB12 := Aside0.mk gb12
   have GG12 := Aside0.mk HG12
   clear gb12 gl12 HG12
   obtain ⟨hx12_0, hf12_0⟩ := R_celln 0 HO_3.1 (x18_1 : Int) p12 q12
   replace p12 := eq_true p12
   replace q12 := eq_true q12
   have HP13 := R_putg HO_3.1 (x18_1 : Int) (-1)
   go_wp2_with (first | ((with_reducible refine gate_store (t := 3) (p := 23) rfl ?_); refine storeE (t := 3) (p := 23) (w1 := (wr.setCell ⟨go12, (x18_1 : Int).toNat, none⟩ (.int .i64 (-1)))) ?_; intro w14 hw; have hg : wr.grownBy w14 (some go12) := (by rw [hw]; exact HP13.2); have hp_ : Kd.R (Kd.int .i64) 3 w14 w.heap.size (fun _ => True) (.slice (some ⟨go12, 0, none⟩) x3_1.length co8) y241 := (by rw [hw, Ny241.1]; exact HP13.1); clear HP13; refine E3 (hp_) (bG BK237.1 hg (R_ne HO_3.1 BK237.1 (by decide))) ((by rw [hw]; exact below_set (HB.1) GB12.1 : Below w.heap.size w w14)) ?_; clear HO_3 BK237 HB; intro HO_3 BK237 HB; clear hg hw hp_))
   (try simp only [<- hl3_1])
   go_roundg k1
   case measure => have := HK1.1; omega
   case rel => exact ⟨(y241), (wrap64 (x18_1 + 1)), RG, H', ⟨by have := HK1.1; omega⟩, ⟨PR1 HO_3.1 hl3_1⟩, ⟨PB1 BK237.1 hl3_1⟩, ⟨BL HB.1⟩⟩
 (try simp only [hl3_1] at c9b0)
 have H' := Aside0.mk H
 clear H
 obtain ⟨hcz15_0, hcz15_1, hcz15_2, hfz15_0, hfz15_1, hfz15_2⟩ := cz3 BK237.1
 go_wp2
 go_loopg [5, 28] k1 (fun kq v5 v28 w' => ∃ (x3_2 : List Int) (x5_2 : Int) (x28_2 : Int), v5 = .int .i64 x5_2 /\ v28 = .int .i64 x28_2 /\ Aside0 (impl_groupNumbers.l1 kq x3_2 x5_2 l0_2 (l0_2.length : Int) x28_2 a0_0 a0_1 l0_2 = some r) /\ Aside0 (kq <= k1) /\ Aside0 (Kd.R (Kd.int .i64) 3 w' w.heap.size (fun _ => True) (.slice Ao8 x3_1.length co8) x3_2) /\ Aside0 (w'.heap[gb237]? = some (.cells #[.int .i64 a0_0, .int .i64 a0_1, (.slice A0_2 l0_2.length c0_2)] 31 (0, 0))) /\ Aside0 (Below w.heap.size w w'))
 case atStart => exact ⟨(x3_1), (0), (0), RG, RG, H', ⟨Nat.le_refl _⟩, ⟨PR1 HO_3.1 hl3_1⟩, ⟨PB1 BK237.1 hl3_1⟩, ⟨BL HB.1⟩⟩
 clear H'
 clear c9b0 hcz15_0 hcz15_1 hcz15_2 hfz15_0 hfz15_1 hfz15_2
 obtain ⟨x3_2, x5_2, x28_2, rfl, rfl, HA, HK2, HO_3, BK237, HB⟩ := hrel
 have hl3_2 := (R_reads' HO_3.1).1
 rw [hl3_2] at HO_3
 (try simp only [hl3_2])
 (try simp only [hl3_2] at BK237)
 cases gk with
 | zero => exact absurd HA.1 (by simp [impl_groupNumbers.l1])
 | succ k2 => ?_
 have H := HA.1
 clear HA
 simp only [impl_groupNumbers.l1] at H
 replace H := ifB H; rcases H with ⟨c16b0, H⟩ | ⟨c16b0, H⟩
 · replace H := ifN H; obtain ⟨c17b0, H⟩ := H
   replace H := ifN H; obtain ⟨c18b0, H⟩ := H
   have HC19 := Aside0.mk H
   clear H
   have p242 : 0 <= (x28_2 : Int) := OD
   have q242 : x28_2 < (l0_2.length : Int) := OD
   obtain ⟨ad242, e242, hx242_0, hx242_1⟩ := at_T49 HR0_2.1 x28_2 p242 q242
   cases e242
   replace hx242_0 := (HB.1.cell (World.block_lt_of_cell? w _ hx242_0)).trans hx242_0
   replace hx242_1 := (HB.1.cell (World.block_lt_of_cell? w _ hx242_1)).trans hx242_1
   replace p242 := eq_true p242
   replace q242 := eq_true q242
   go_upto_region 11 with (first | ((with_reducible refine gate_dst (N := 7) rfl ?_); refine boxE (cs := #[.int .i64 0, .int .i64 0]) (t := 49) ?_; intro gb243 hg w20 hbox hb; refine E8 (rB HO_3.1 hb) (bB BK237.1 hb) (bS HB.1 hb) (hbox) (gX HB.1 hg) (gX HB.1 hg) (nB BK237.1 hg) (nC BK237.1 hg) ?_; clear HO_3 BK237 HB; intro HO_3 BK237 HB BK243 GW243 GE243 NB237_243 NB243_237; clear hb hbox hg; have hnb21 := NB243_237.1; have hnc21 := NB237_243.1; obtain ⟨hcz22_0, hcz22_1, hfz22_0, hfz22_1⟩ := cz2 BK243.1))
   (try simp only [Act.put, List.setIfInBounds_toArray, List.set_cons_zero, List.set_cons_succ])
   go_cut [42] (fun v42 wc => ∃ (kq : Nat) (x42_18 : Bool), v42 = .bool x42_18 /\ Aside0 (impl_groupNumbers.j2 kq x3_2 x5_2 x28_2 l0_2 (l0_2.length : Int) x28_2 x42_18 a0_0 a0_1 l0_2 = some r) /\ Aside0 (kq <= k2) /\ Aside0 (Kd.R (Kd.int .i64) 3 wc w.heap.size (fun _ => True) (.slice Ao8 x3_2.length co8) x3_2) /\ Aside0 (wc.heap[gb237]? = some (.cells #[.int .i64 a0_0, .int .i64 a0_1, (.slice (some ad242) l0_2.length c0_2)] 31 (0, 0))) /\ Aside0 (wc.heap[gb243]? = some (.cells #[.int .i64 ((rd_T49 l0_2 x28_2).f0), .int .i64 ((rd_T49 l0_2 x28_2).f1)] 49 (0, 0))) /\ Aside0 (Below w.heap.size w wc))
   case first =>
    have H := HC19.1
    clear HC19
    replace H := bindA H; obtain ⟨t244, A23, H⟩ := H
    replace H := ifX H; rcases H with ⟨rfl, H⟩ | ⟨rfl, H⟩
    · replace H := ifN H; obtain ⟨c25b0, H⟩ := H
      (first | rw [c25b0] | (simp only [i64_w, i32_w]; rw [c25b0]) | skip)
      have H' := Aside0.mk H
      clear H
      obtain ⟨hcz27_0, hcz27_1, hfz27_0, hfz27_1⟩ := cz2 BK243.1
      go_wp2_with (first | ((with_reducible refine gate_callee (f := 35) rfl ?_); refine goesM (N := (some 34)) #[.agg #[.int .i64 ((rd_T49 l0_2 x28_2).f0), .int .i64 ((rd_T49 l0_2 x28_2).f1)]] Try.func35 ?_; (with_reducible refine (impl_isGeared.calls ((rd_T49 l0_2 x28_2).f0) ((rd_T49 l0_2 x28_2).f1) true _ A23.1).mono ?_); rintro e w28 ⟨rfl, hb⟩; refine ⟨_, rfl, ?_⟩; refine E4 (R_below (by (with_reducible repeat (first | apply R_alloc | apply R_drewN | apply R_drew)); exact (R_mono (RQ gb243 1 (RQ gb243 0 (R_types HO_3.1 BK243.1 (by decide)) _) _) (fun _ h_ => h_.1))) hb) (blk_below (g := gb237) (o := .cells #[.int .i64 a0_0, .int .i64 a0_1, .slice (some ad242) l0_2.length c0_2] 31 (0, 0)) (PF1 NB237_243.1 BK237.1) hb) (blk_below (g := gb243) (o := .cells #[.int .i64 ((rd_T49 l0_2 x28_2).f0), .int .i64 ((rd_T49 l0_2 x28_2).f1)] 49 (0, 0)) (PF0 BK243.1) hb) (bS HB.1 hb) ?_; clear HO_3 BK237 BK243 HB; intro HO_3 BK237 BK243 HB; (try clear hb); have p245 : 0 <= (x28_2 : Int) := OD; have q245 : x28_2 < (x3_2.length : Int) := OD; obtain ⟨ad245, e245, hx245_0⟩ := Kd.at_int (R_reads' HO_3.1).2.2 x28_2 p245 q245; cases e245; replace p245 := eq_true p245; replace q245 := eq_true q245))
      go_meet
      case rel => exact ⟨_, (decide ((rd x3_2 x28_2) ≥ 0)), RG, H', ⟨by have := HK1.1; have := HK2.1; first | omega | exact Nat.le_refl _⟩, ⟨PR2 HO_3.1 hl3_1 hl3_2⟩, ⟨PB2 BK237.1 hl3_1 hl3_2⟩, ⟨PB2 BK243.1 hl3_1 hl3_2⟩, ⟨BL HB.1⟩⟩
    have H' := Aside0.mk H
    clear H
    obtain ⟨hcz30_0, hcz30_1, hfz30_0, hfz30_1⟩ := cz2 BK243.1
    go_wp2_with (first | ((with_reducible refine gate_callee (f := 35) rfl ?_); refine goesM (N := (some 34)) #[.agg #[.int .i64 ((rd_T49 l0_2 x28_2).f0), .int .i64 ((rd_T49 l0_2 x28_2).f1)]] Try.func35 ?_; (with_reducible refine (impl_isGeared.calls ((rd_T49 l0_2 x28_2).f0) ((rd_T49 l0_2 x28_2).f1) false _ A23.1).mono ?_); rintro e w31 ⟨rfl, hb⟩; refine ⟨_, rfl, ?_⟩; refine E4 (R_below (by (with_reducible repeat (first | apply R_alloc | apply R_drewN | apply R_drew)); exact (R_mono (RQ gb243 1 (RQ gb243 0 (R_types HO_3.1 BK243.1 (by decide)) _) _) (fun _ h_ => h_.1))) hb) (blk_below (g := gb237) (o := .cells #[.int .i64 a0_0, .int .i64 a0_1, .slice (some ad242) l0_2.length c0_2] 31 (0, 0)) (PF1 NB237_243.1 BK237.1) hb) (blk_below (g := gb243) (o := .cells #[.int .i64 ((rd_T49 l0_2 x28_2).f0), .int .i64 ((rd_T49 l0_2 x28_2).f1)] 49 (0, 0)) (PF0 BK243.1) hb) (bS HB.1 hb) ?_; clear HO_3 BK237 BK243 HB; intro HO_3 BK237 BK243 HB; (try clear hb)))
    go_meet
    case rel => exact ⟨_, (true), RG, H', ⟨by have := HK1.1; have := HK2.1; first | omega | exact Nat.le_refl _⟩, ⟨PR2 HO_3.1 hl3_1 hl3_2⟩, ⟨PB2 BK237.1 hl3_1 hl3_2⟩, ⟨PB2 BK243.1 hl3_1 hl3_2⟩, ⟨BL HB.1⟩⟩
   clear HC19
   try clear hx242_0; try clear hx242_1; try clear p242; try clear q242; clear c16b0 c17b0 c18b0 hcz22_0 hcz22_1 hfz22_0 hfz22_1
   obtain ⟨kq, x42_18, rfl, HA, HJ18, HO_3, BK237, BK243, HB⟩ := hcut
   cases kq with
   | zero => exact absurd HA.1 (by simp [impl_groupNumbers.j2])
   | succ kj18 => ?_
   have H := HA.1
   clear HA
   simp only [impl_groupNumbers.j2] at H
   replace H := ifX H; rcases H with ⟨rfl, H⟩ | ⟨rfl, H⟩
   · have H' := Aside0.mk H
     clear H
     go_wp2
     (try simp only [<- hl3_2])
     go_roundg kj18
     case measure => have := HK1.1; have := HK2.1; have := HJ18.1; omega
     case rel => exact ⟨(x3_2), (x5_2), (wrap64 (x28_2 + 1)), RG, RG, H', ⟨by have := HK1.1; have := HK2.1; have := HJ18.1; omega⟩, ⟨PR2 HO_3.1 hl3_1 hl3_2⟩, ⟨PB2 BK237.1 hl3_1 hl3_2⟩, ⟨BL HB.1⟩⟩
   replace H := ifN H; obtain ⟨c33b0, H⟩ := H
   replace H := ifN H; obtain ⟨c34b0, H⟩ := H
   generalize hy246 : ((x3_2.set (x28_2 : Int).toNat x5_2) : List Int) = y246 at H
   have Ny246 := Aside0.mk hy246.symm; clear hy246
   generalize hy247 : ((([x28_2] : List Int)) : List Int) = y247 at H
   have Ny247 := Aside0.mk hy247.symm; clear hy247
   have H' := Aside0.mk H
   clear H
   have p35 : 0 <= (x28_2 : Int) := OD
   have q35 : (x28_2 : Int) < ((x3_2.length : Int) : Int) := OD
   obtain ⟨go35, co35, eo35, gb35, gl35, cl35, HG35⟩ := R_form HO_3.1 (by omega)
   (first | cases eo35 | (injection eo35 with ea_ en_ ec_; (first | subst ea_ | (injection ea_ with ea_; subst ea_)); subst ec_; clear en_))
   have GB35 := Aside0.mk gb35
   have GG35 := Aside0.mk HG35
   clear gb35 gl35 HG35
   obtain ⟨hx35_0, hf35_0⟩ := R_celln 0 HO_3.1 (x28_2 : Int) p35 q35
   replace p35 := eq_true p35
   replace q35 := eq_true q35
   have HP36 := R_putg HO_3.1 (x28_2 : Int) x5_2
   go_wp2_with (first | ((with_reducible refine gate_store (t := 3) (p := 46) rfl ?_); refine storeE (t := 3) (p := 46) (w1 := (wc.setCell ⟨go35, (x28_2 : Int).toNat, none⟩ (.int .i64 x5_2))) ?_; intro w37 hw; have hg : wc.grownBy w37 (some go35) := (by rw [hw]; exact HP36.2); have hp_ : Kd.R (Kd.int .i64) 3 w37 w.heap.size (fun _ => True) (.slice (some ⟨go35, 0, none⟩) x3_2.length co8) y246 := (by rw [hw, Ny246.1]; exact HP36.1); clear HP36; refine E4 (hp_) (bG BK237.1 hg (R_ne HO_3.1 BK237.1 (by decide))) (bG BK243.1 hg (R_ne HO_3.1 BK243.1 (by decide))) ((by rw [hw]; exact below_set (HB.1) GB35.1 : Below w.heap.size w w37)) ?_; clear HO_3 BK237 BK243 HB; intro HO_3 BK237 BK243 HB; clear hg hw hp_) | ((with_reducible refine gate_dst (N := 48) rfl ?_); refine R_lit (Kd.int .i64) _ 3 ?hg (N := 48) ?hd (xs := ([x28_2] : List Int)) (inner := [.int .i64 x28_2]) (ok := fun _ => True) (okp := fun _ => True) ?hr ?hp (fun _ hk => hk) trivial (Below.refl _ _) (Nat.le_refl _) (by simp) ?_; (case hd => rfl); (case hg => rfl); (case hr => first | (go_simp; done) | (go_simp; rfl)); (case hp => exact (Reps.one (show Kd.M (Kd.int .i64) _ _ _ x28_2 [.int .i64 x28_2] from rfl) (Reps.none _ _))); intro v248 w38 ho39 hb hg_ hnew_; clear hg_ hnew_; (first | rw [<- Ny247.1] at ho39 | (simp only [Int.reduceToNat] at ho39; rw [<- Ny247.1] at ho39)); refine E5 (R_elder' (PR HO_3.1) (R_base ho39) hb) (R_lower (R_new' ho39 (R_lt (PR HO_3.1))) (bZ HB.1)) (bB BK237.1 hb) (bB BK243.1 hb) (bS HB.1 hb) ?_; clear HO_3 BK237 BK243 HB; intro HO_3 HO249 BK237 BK243 HB; clear hb ho39))
   go_loopg [8] kj18 (fun kq v8 w' => ∃ (x3_4 : List Int) (x8_4 : List Int), Aside0 (impl_groupNumbers.l2 kq x3_4 x5_2 x8_4 l0_2 (l0_2.length : Int) x28_2 a0_0 a0_1 l0_2 = some r) /\ Aside0 (kq <= kj18) /\ Aside0 (Kd.R (Kd.int .i64) 3 w' w.heap.size (fun k_ => some k_ ≠ (v8 : Value).ownBlock) (.slice (some ⟨go35, 0, none⟩) x3_2.length co8) x3_4) /\ Aside0 (Kd.Q (Kd.int .i64) 3 w' w.heap.size (fun k_ => some k_ ≠ ((.slice (some ⟨go35, 0, none⟩) x3_2.length co8) : Value).ownBlock) v8 x8_4) /\ Aside0 (w'.heap[gb237]? = some (.cells #[.int .i64 a0_0, .int .i64 a0_1, (.slice (some ad242) l0_2.length c0_2)] 31 (0, 0))) /\ Aside0 (w'.heap[gb243]? = some (.cells #[.int .i64 ((rd_T49 l0_2 x28_2).f0), .int .i64 ((rd_T49 l0_2 x28_2).f1)] 49 (0, 0))) /\ Aside0 (Below w.heap.size w w'))
   case atStart => exact ⟨(y246), (y247), H', ⟨Nat.le_refl _⟩, ⟨by (try simp only [hl3_1]); (try simp only [hl3_2]); (with_reducible repeat (first | apply R_alloc | apply R_drewN | apply R_drew)); exact R_mono HO_3.1 (fun _ hk => hk.2)⟩, ⟨Q_of_R (by (try simp only [hl3_1]); (try simp only [hl3_2]); (with_reducible repeat (first | apply R_alloc | apply R_drewN | apply R_drew)); exact R_mono HO249.1 (fun _ hk => hk.2))⟩, ⟨PB2 BK237.1 hl3_1 hl3_2⟩, ⟨PB2 BK243.1 hl3_1 hl3_2⟩, ⟨BL HB.1⟩⟩
   clear H'
   try clear p35; try clear q35; try clear hx35_0; clear c33b0 c34b0
   obtain ⟨x3_4, x8_4, HA, HK4, HO_3, HO_8, BK237, BK243, HB⟩ := hrel
   have hl3_4 := (R_reads' HO_3.1).1
   rw [hl3_4] at HO_3
   (try simp only [hl3_4])
   (try simp only [hl3_4] at BK237)
   (try simp only [hl3_4] at BK243)
   (try simp only [hl3_4] at HO_8)
   cases gk with
   | zero => exact absurd HA.1 (by simp [impl_groupNumbers.l2])
   | succ k4 => ?_
   have H := HA.1
   clear HA
   simp only [impl_groupNumbers.l2] at H
   replace H := ifQ H; rcases H with ⟨c40, H⟩ | ⟨c40, H⟩
   · have c40b0 : decide (0 < (x8_4.length : Int)) = true := decide_eq_true c40
     have c40b1 : decide (0 < x8_4.length) = true := decide_eq_true (by omega)
     clear c40
     replace H := ifP H; obtain ⟨c41, H⟩ := H
     have c41b0 := decide_eq_true c41
     have c41b1 : decide (0 < x8_4.length) = true := decide_eq_true (by omega)
     clear c41
     replace H := ifP H; obtain ⟨c42, H⟩ := H
     have c42b0 := eq_true c42
     have c42b1 := decide_eq_true c42
     clear c42
     generalize hy251 : ((x8_4.drop (1 : Int).toNat) : List Int) = y251 at H
     have Ny251 := Aside0.mk hy251.symm; clear hy251
     replace H := bindA H; obtain ⟨t254, A43, H⟩ := H
     have H' := Aside0.mk H
     clear H
     obtain ⟨Ao44, co44, eo44, _⟩ := Q_slice HO_8.1
     subst eo44
     have p250 : 0 <= (0 : Int) := (by omega)
     have q250 : 0 < (x8_4.length : Int) := OD
     obtain ⟨ad250, e250, hx250_0⟩ := Kd.at_int (Q_reads' HO_8.1).2.2 0 p250 q250
     cases e250
     have qi250 : (0 < x8_4.length) = True := eq_true (by omega)
     (try rw [show ((0 : Int)).toNat = 0 from rfl] at hx250_0)
     (try rw [Addr.add_zero'] at hx250_0)
     replace p250 := eq_true p250
     replace q250 := eq_true q250
     have q45 : (1 : Int) <= ((x8_4.length : Int) : Int) := OD
     obtain ⟨i045, hi045, _, hsz45, _⟩ := info_parts info3
     have hcut45 := cut_from (P := Try.prog) 43 3 .i64 Try.underlying43 hi045 1 hsz45 (some ad250) x8_4.length co44 1 (by omega) q45
     have hr45 := Q_drop (k := (1 : Int).toNat) HO_8.1 (by omega)
     obtain ⟨A45, hA45⟩ : ∃ A1, A1 = (if co44 = (1 : Int).toNat then (some ad250) else ((some ad250) : Option Addr).map (·.add ((1 : Int).toNat * 1))) := ⟨_, rfl⟩
     obtain ⟨c45, hc45⟩ : ∃ c1, c1 = co44 - (1 : Int).toNat := ⟨_, rfl⟩
     have hy45 : y251.length = x8_4.length - (1 : Int).toNat := (by rw [Ny251.1, List.length_drop])
     rw [<- Ny251.1] at hr45
     rw [<- hy45, <- hA45, <- hc45] at hcut45
     replace hr45 : Kd.Q (Kd.int .i64) 3 wr w.heap.size (fun k_ => some k_ ≠ (.slice (some ⟨go35, 0, none⟩) x3_4.length co8 : Value).ownBlock) (.slice A45 y251.length c45) y251 := (by rw [hA45, hc45, hy45]; exact hr45)
     have HE45 : Aside0 ((Value.slice A45 y251.length c45).ownBlock = (.slice (some ad250) x8_4.length co44 : Value).ownBlock) := ⟨by rw [hA45]; split <;> (cases ((some ad250) : Option Addr) <;> rfl)⟩
     clear hy45 hi045 hsz45 HO_8 hA45 hc45
     have HO253 := Aside0.mk hr45
     clear hr45
     replace q45 := eq_true q45
     have n_ := Aside0.mk (R_mono (ok' := fun k_ => some k_ ≠ (.slice A45 y251.length c45 : Value).ownBlock) HO_3.1 (fun k_ hk => (by rw [HE45.1]; exact hk)))
     clear HO_3
     have HO_3 := n_
     clear n_
     obtain ⟨hcz47_0, hcz47_1, hcz47_2, hfz47_0, hfz47_1, hfz47_2⟩ := cz3 BK237.1
     go_wp2_with (first | ((with_reducible refine gate_callee (f := 36) rfl ?_); refine goesM (N := (some 59)) #[.agg #[.int .i64 a0_0, .int .i64 a0_1, .slice (some ad242) l0_2.length c0_2], .int .i64 (rd x8_4 0)] Try.func36 ?_; (with_reducible refine (impl_besideOf.calls k4 a0_0 a0_1 _ _ l0_2 (rd x8_4 0) t254 _ ?side1 ?side2 A43.1).mono ?_); (case side1 => exact CB (C_below HR0_2.1 HB.1)); (case side2 => exact HC0_2.1); rintro e w48 ⟨v255, rfl, ho0, hb⟩; refine ⟨_, rfl, ?_⟩; refine E6 (R_elder' (PR HO_3.1) (R_base ho0) hb) (Q_elder' (by (with_reducible repeat (first | apply Q_alloc | apply Q_drewN | apply Q_drew)); exact HO253.1) (R_base ho0) hb) (R_lower (R_new' (R_new' ho0 (R_lt (PR HO_3.1))) (Q_lt (by (with_reducible repeat (first | apply Q_alloc | apply Q_drewN | apply Q_drew)); exact HO253.1))) (bZ HB.1)) (bB BK237.1 hb) (bB BK243.1 hb) (bS HB.1 hb) ?_; clear HO_3 HO253 BK237 BK243 HB; intro HO_3 HO253 HO256 BK237 BK243 HB; (try clear hb); (try clear ho0); obtain ⟨Ao49, co49, eo49⟩ := R_slice HO256.1; subst eo49))
     go_loopg [8, 61] k4 (fun kq v8 v61 w' => ∃ (x3_5 : List Int) (x8_5 : List Int) (x61_5 : Int), v61 = .int .i64 x61_5 /\ Aside0 (impl_groupNumbers.l3 kq x3_5 x5_2 x8_5 l0_2 (l0_2.length : Int) x28_2 t254 (t254.length : Int) x61_5 a0_0 a0_1 l0_2 = some r) /\ Aside0 (kq <= k4) /\ Aside0 (Kd.R (Kd.int .i64) 3 w' w.heap.size (fun k_ => some k_ ≠ (v8 : Value).ownBlock /\ some k_ ≠ ((.slice Ao49 t254.length co49) : Value).ownBlock) (.slice (some ⟨go35, 0, none⟩) x3_4.length co8) x3_5) /\ Aside0 (Kd.Q (Kd.int .i64) 3 w' w.heap.size (fun k_ => some k_ ≠ ((.slice (some ⟨go35, 0, none⟩) x3_4.length co8) : Value).ownBlock /\ some k_ ≠ ((.slice Ao49 t254.length co49) : Value).ownBlock) v8 x8_5) /\ Aside0 (Kd.R (Kd.int .i64) 3 w' w.heap.size (fun k_ => some k_ ≠ ((.slice (some ⟨go35, 0, none⟩) x3_4.length co8) : Value).ownBlock /\ some k_ ≠ (v8 : Value).ownBlock) (.slice Ao49 t254.length co49) t254) /\ Aside0 (w'.heap[gb237]? = some (.cells #[.int .i64 a0_0, .int .i64 a0_1, (.slice (some ad242) l0_2.length c0_2)] 31 (0, 0))) /\ Aside0 (w'.heap[gb243]? = some (.cells #[.int .i64 ((rd_T49 l0_2 x28_2).f0), .int .i64 ((rd_T49 l0_2 x28_2).f1)] 49 (0, 0))) /\ Aside0 (Below w.heap.size w w'))
     case atStart => exact ⟨(x3_4), (y251), (0), RG, H', ⟨Nat.le_refl _⟩, ⟨PR3 HO_3.1 hl3_1 hl3_2 hl3_4⟩, ⟨by (try simp only [hl3_1]); (try simp only [hl3_2]); (try simp only [hl3_4]); (with_reducible repeat (first | apply Q_alloc | apply Q_drewN | apply Q_drew)); exact HO253.1⟩, ⟨by (try simp only [hl3_1]); (try simp only [hl3_2]); (try simp only [hl3_4]); (with_reducible repeat (first | apply R_alloc | apply R_drewN | apply R_drew)); exact R_mono HO256.1 (fun _ hk => ⟨hk.1.2, hk.2⟩)⟩, ⟨PB3 BK237.1 hl3_1 hl3_2 hl3_4⟩, ⟨PB3 BK243.1 hl3_1 hl3_2 hl3_4⟩, ⟨BL HB.1⟩⟩
     clear H'
     try clear c1; try clear c45; try clear q45; try clear hx250_0; try clear p250; try clear q250; clear c40b0 c40b1 c41b0 c41b1 c42b0 c42b1 hcz47_0 hcz47_1 hcz47_2 hfz47_0 hfz47_1 hfz47_2
     obtain ⟨x3_5, x8_5, x61_5, rfl, HA, HK5, HO_3, HO_8, HO_59, BK237, BK243, HB⟩ := hrel
     have hl3_5 := (R_reads' HO_3.1).1
     rw [hl3_5] at HO_3
     (try simp only [hl3_5])
     (try simp only [hl3_5] at BK237)
     (try simp only [hl3_5] at BK243)
     (try simp only [hl3_5] at HO_8)
     (try simp only [hl3_5] at HO_59)
     cases gk with
     | zero => exact absurd HA.1 (by simp [impl_groupNumbers.l3])
     | succ k5 => ?_
     have H := HA.1
     clear HA
     simp only [impl_groupNumbers.l3] at H
     replace H := ifB H; rcases H with ⟨c50b0, H⟩ | ⟨c50b0, H⟩
     · replace H := ifN H; obtain ⟨c51b0, H⟩ := H
       replace H := ifN H; obtain ⟨c52b0, H⟩ := H
       replace H := ifN H; obtain ⟨c53b0, H⟩ := H
       replace H := ifN H; obtain ⟨c54b0, H⟩ := H
       replace H := bindA H; obtain ⟨t259, A55, H⟩ := H
       replace H := ifX H; rcases H with ⟨rfl, H⟩ | ⟨rfl, H⟩
       · replace H := ifN H; obtain ⟨c57b0, H⟩ := H
         replace H := ifB H; rcases H with ⟨c58b0, H⟩ | ⟨c58b0, H⟩
         · generalize hy261 : ((x3_5.set ((rd t254 x61_5) : Int).toNat x5_2) : List Int) = y261 at H
           have Ny261 := Aside0.mk hy261.symm; clear hy261
           replace H := ifP H; obtain ⟨c60, H⟩ := H
           have LMc60 := Aside0.mk c60
           clear c60
           generalize hy262 : ((x8_5 ++ [rd t254 x61_5]) : List Int) = y262 at H
           have Ny262 := Aside0.mk hy262.symm; clear hy262
           have H' := Aside0.mk H
           clear H
           have p257 : 0 <= (x61_5 : Int) := OD
           have q257 : x61_5 < (t254.length : Int) := OD
           obtain ⟨ad257, e257, hx257_0⟩ := Kd.at_int (R_reads' HO_59.1).2.2 x61_5 p257 q257
           cases e257
           replace p257 := eq_true p257
           replace q257 := eq_true q257
           obtain ⟨hcz62_0, hcz62_1, hcz62_2, hfz62_0, hfz62_1, hfz62_2⟩ := cz3 BK237.1
           have p258 : 0 <= ((rd t254 x61_5) : Int) := OD
           have q258 : (rd t254 x61_5) < (l0_2.length : Int) := OD
           obtain ⟨ad258, e258, hx258_0, hx258_1⟩ := at_T49 HR0_2.1 (rd t254 x61_5) p258 q258
           obtain rfl : ad242 = ad258 := (by injection e258)
           replace hx258_0 := (HB.1.cell (World.block_lt_of_cell? w _ hx258_0)).trans hx258_0
           replace hx258_1 := (HB.1.cell (World.block_lt_of_cell? w _ hx258_1)).trans hx258_1
           replace p258 := eq_true p258
           replace q258 := eq_true q258
           go_wp2_with (first | ((with_reducible refine gate_callee (f := 35) rfl ?_); refine goesM (N := (some 70)) #[.agg #[.int .i64 ((rd_T49 l0_2 (rd t254 x61_5)).f0), .int .i64 ((rd_T49 l0_2 (rd t254 x61_5)).f1)]] Try.func35 ?_; (with_reducible refine (impl_isGeared.calls ((rd_T49 l0_2 (rd t254 x61_5)).f0) ((rd_T49 l0_2 (rd t254 x61_5)).f1) true _ A55.1).mono ?_); rintro e w63 ⟨rfl, hb⟩; refine ⟨_, rfl, ?_⟩; refine E6 (rB HO_3.1 hb) (Q_below (by (with_reducible repeat (first | apply Q_alloc | apply Q_drewN | apply Q_drew)); exact HO_8.1) hb) (rB HO_59.1 hb) (bB BK237.1 hb) (bB BK243.1 hb) (bS HB.1 hb) ?_; clear HO_3 HO_8 HO_59 BK237 BK243 HB; intro HO_3 HO_8 HO_59 BK237 BK243 HB; (try clear hb); have p260 : 0 <= ((rd t254 x61_5) : Int) := OD; have q260 : (rd t254 x61_5) < (x3_5.length : Int) := OD; obtain ⟨ad260, e260, hx260_0⟩ := Kd.at_int (R_reads' HO_3.1).2.2 (rd t254 x61_5) p260 q260; obtain rfl : (⟨go35, 0, none⟩ : Addr) = ad260 := (by injection e260); (first | simp only [add_plain] at hx260_0 | simp only [add_at] at hx260_0 | simp only [Addr.add, Nat.zero_add] at hx260_0 | skip); replace p260 := eq_true p260; replace q260 := eq_true q260; have p59 : 0 <= ((rd t254 x61_5) : Int) := OD; have q59 : ((rd t254 x61_5) : Int) < ((x3_5.length : Int) : Int) := OD; obtain ⟨hx59_0, hf59_0⟩ := R_celln 0 HO_3.1 ((rd t254 x61_5) : Int) p59 q59; replace p59 := eq_true p59; replace q59 := eq_true q59; obtain ⟨hy64_, hz64_⟩ := R_celln 0 HO_3.1 ((rd t254 x61_5) : Int) (OD) (OD); have HP64 := R_putg HO_3.1 ((rd t254 x61_5) : Int) x5_2) | ((with_reducible refine gate_store (t := 3) (p := 81) rfl ?_); refine storeE (t := 3) (p := 81) (w1 := (w63.setCell ⟨go35, ((rd t254 x61_5) : Int).toNat, none⟩ (.int .i64 x5_2))) ?_; intro w65 hw; have hg : w63.grownBy w65 (some go35) := (by rw [hw]; exact HP64.2); have hp_ : Kd.R (Kd.int .i64) 3 w65 w.heap.size (fun k_ => some k_ ≠ (u8 : Value).ownBlock /\ some k_ ≠ (.slice (some ad257) t254.length co49 : Value).ownBlock) (.slice (some ⟨go35, 0, none⟩) x3_5.length co8) y261 := (by rw [hw, Ny261.1]; exact HP64.1); clear HP64; refine E6 (hp_) (Q_after (v := (.slice (some ⟨go35, 0, none⟩) x3_5.length co8)) (v1 := (.slice (some ⟨go35, 0, none⟩) x3_5.length co8)) (ok := (fun k_ => some k_ ≠ (.slice (some ad257) t254.length co49 : Value).ownBlock)) (by (with_reducible repeat (first | apply Q_alloc | apply Q_drewN | apply Q_drew)); exact Q_mono HO_8.1 (fun _ hk => ⟨hk.2, hk.1⟩)) hg (.inl rfl)) (R_after (v := (.slice (some ⟨go35, 0, none⟩) x3_5.length co8)) (v1 := (.slice (some ⟨go35, 0, none⟩) x3_5.length co8)) (ok := (fun k_ => some k_ ≠ (u8 : Value).ownBlock)) (RPE (R_mono HO_59.1 (fun _ hk => ⟨hk.2, hk.1⟩))) hg (.inl rfl)) (bG BK237.1 hg (R_ne HO_3.1 BK237.1 (by decide))) (bG BK243.1 hg (R_ne HO_3.1 BK243.1 (by decide))) ((by rw [hw]; exact below_set (HB.1) GB35.1 : Below w.heap.size w w65)) ?_; clear HO_3 HO_8 HO_59 BK237 BK243 HB; intro HO_3 HO_8 HO_59 BK237 BK243 HB; clear hg hw hp_) | ((with_reducible refine gate_builtin (b := .append) (xs := #[.tmp 82, .tmp 84]) rfl ?_); at_builtin; refine Q_append (Kd.int .i64) (w0 := w) w.heap.size rfl (.tmp 82) (.tmp 84) 43 3 (.int .i64 0) 8 rfl Try.underlying43 info3 rfl (by decide) (by omega) u8 x8_5 (rd t254 x61_5) [.int .i64 (rd t254 x61_5)] (fun k_ => some k_ ≠ (.slice (some ⟨go35, 0, none⟩) x3_5.length co8 : Value).ownBlock /\ some k_ ≠ (.slice (some ad257) t254.length co49 : Value).ownBlock) (fun _ => False) rfl rfl ?aP (fun _ hk => hk.elim) ?aF ?aO ?aB ?aS ?aL ?_; (case aP => exact rfl); (case aB => exact (BL HB.1)); (case aF => exact (fun k_ hk => ⟨Kd.fresh' (R_lt (PR HO_3.1)) k_ hk, Kd.fresh' (R_lt (PR HO_59.1)) k_ hk⟩)); (case aO => exact (by (with_reducible repeat (first | apply Q_alloc | apply Q_drewN | apply Q_drew)); exact Q_mono HO_8.1 (fun _ hk => ⟨hk.2, hk.1⟩))); (case aS => exact (bZ HB.1)); (case aL => have := LMc60.1; omega); intro v263 w66 ho hb hg hat; rw [<- Ny262.1] at ho; refine E6 (R_after (ok := (fun k_ => some k_ ≠ (.slice (some ad257) t254.length co49 : Value).ownBlock)) (RPE (R_mono HO_3.1 (fun _ hk => ⟨hk.2, hk.1⟩))) hg hat) (R_after (ok := (fun k_ => some k_ ≠ (.slice (some ⟨go35, 0, none⟩) x3_5.length co8 : Value).ownBlock)) (RPE (R_mono HO_59.1 (fun _ hk => ⟨hk.2, hk.1⟩))) hg hat) (bG BK237.1 hg (Q_ne HO_8.1 BK237.1 (by decide))) (bG BK243.1 hg (Q_ne HO_8.1 BK243.1 (by decide))) (hb) (ho) ?_; clear HO_3 HO_59 BK237 BK243 HB HO_8; intro HO_3 HO_59 BK237 BK243 HB HO264; clear ho hb hg hat))
           (try simp only [<- hl3_5])
           go_roundg k5
           case measure => have := HK1.1; have := HK2.1; have := HJ18.1; have := HK4.1; have := HK5.1; omega
           case rel => exact ⟨(y261), (y262), (wrap64 (x61_5 + 1)), RG, H', ⟨by have := HK1.1; have := HK2.1; have := HJ18.1; have := HK4.1; have := HK5.1; omega⟩, ⟨by (try simp only [hl3_1]); (try simp only [hl3_2]); (try simp only [hl3_4]); (try simp only [hl3_5]); (with_reducible repeat (first | apply R_alloc | apply R_drewN | apply R_drew)); exact R_mono HO_3.1 (fun _ hk => ⟨hk.2, hk.1⟩)⟩, ⟨by (try simp only [hl3_1]); (try simp only [hl3_2]); (try simp only [hl3_4]); (try simp only [hl3_5]); (with_reducible repeat (first | apply Q_alloc | apply Q_drewN | apply Q_drew)); exact HO264.1⟩, ⟨PR4 HO_59.1 hl3_1 hl3_2 hl3_4 hl3_5⟩, ⟨PB4 BK237.1 hl3_1 hl3_2 hl3_4 hl3_5⟩, ⟨PB4 BK243.1 hl3_1 hl3_2 hl3_4 hl3_5⟩, ⟨BL HB.1⟩⟩
         have H' := Aside0.mk H
         clear H
         have p257 : 0 <= (x61_5 : Int) := OD
         have q257 : x61_5 < (t254.length : Int) := OD
         obtain ⟨ad257, e257, hx257_0⟩ := Kd.at_int (R_reads' HO_59.1).2.2 x61_5 p257 q257
         cases e257
         replace p257 := eq_true p257
         replace q257 := eq_true q257
         obtain ⟨hcz68_0, hcz68_1, hcz68_2, hfz68_0, hfz68_1, hfz68_2⟩ := cz3 BK237.1
         have p258 : 0 <= ((rd t254 x61_5) : Int) := OD
         have q258 : (rd t254 x61_5) < (l0_2.length : Int) := OD
         obtain ⟨ad258, e258, hx258_0, hx258_1⟩ := at_T49 HR0_2.1 (rd t254 x61_5) p258 q258
         obtain rfl : ad242 = ad258 := (by injection e258)
         replace hx258_0 := (HB.1.cell (World.block_lt_of_cell? w _ hx258_0)).trans hx258_0
         replace hx258_1 := (HB.1.cell (World.block_lt_of_cell? w _ hx258_1)).trans hx258_1
         replace p258 := eq_true p258
         replace q258 := eq_true q258
         go_wp2_with (first | ((with_reducible refine gate_callee (f := 35) rfl ?_); refine goesM (N := (some 70)) #[.agg #[.int .i64 ((rd_T49 l0_2 (rd t254 x61_5)).f0), .int .i64 ((rd_T49 l0_2 (rd t254 x61_5)).f1)]] Try.func35 ?_; (with_reducible refine (impl_isGeared.calls ((rd_T49 l0_2 (rd t254 x61_5)).f0) ((rd_T49 l0_2 (rd t254 x61_5)).f1) true _ A55.1).mono ?_); rintro e w69 ⟨rfl, hb⟩; refine ⟨_, rfl, ?_⟩; refine E6 (rB HO_3.1 hb) (Q_below (by (with_reducible repeat (first | apply Q_alloc | apply Q_drewN | apply Q_drew)); exact HO_8.1) hb) (rB HO_59.1 hb) (bB BK237.1 hb) (bB BK243.1 hb) (bS HB.1 hb) ?_; clear HO_3 HO_8 HO_59 BK237 BK243 HB; intro HO_3 HO_8 HO_59 BK237 BK243 HB; (try clear hb); have p260 : 0 <= ((rd t254 x61_5) : Int) := OD; have q260 : (rd t254 x61_5) < (x3_5.length : Int) := OD; obtain ⟨ad260, e260, hx260_0⟩ := Kd.at_int (R_reads' HO_3.1).2.2 (rd t254 x61_5) p260 q260; obtain rfl : (⟨go35, 0, none⟩ : Addr) = ad260 := (by injection e260); (first | simp only [add_plain] at hx260_0 | simp only [add_at] at hx260_0 | simp only [Addr.add, Nat.zero_add] at hx260_0 | skip); replace p260 := eq_true p260; replace q260 := eq_true q260))
         (try simp only [<- hl3_5])
         go_roundg k5
         case measure => have := HK1.1; have := HK2.1; have := HJ18.1; have := HK4.1; have := HK5.1; omega
         case rel => exact ⟨(x3_5), (x8_5), (wrap64 (x61_5 + 1)), RG, H', ⟨by have := HK1.1; have := HK2.1; have := HJ18.1; have := HK4.1; have := HK5.1; omega⟩, ⟨PR4 HO_3.1 hl3_1 hl3_2 hl3_4 hl3_5⟩, ⟨by (try simp only [hl3_1]); (try simp only [hl3_2]); (try simp only [hl3_4]); (try simp only [hl3_5]); (with_reducible repeat (first | apply Q_alloc | apply Q_drewN | apply Q_drew)); exact HO_8.1⟩, ⟨PR4 HO_59.1 hl3_1 hl3_2 hl3_4 hl3_5⟩, ⟨PB4 BK237.1 hl3_1 hl3_2 hl3_4 hl3_5⟩, ⟨PB4 BK243.1 hl3_1 hl3_2 hl3_4 hl3_5⟩, ⟨BL HB.1⟩⟩
       have H' := Aside0.mk H
       clear H
       have p257 : 0 <= (x61_5 : Int) := OD
       have q257 : x61_5 < (t254.length : Int) := OD
       obtain ⟨ad257, e257, hx257_0⟩ := Kd.at_int (R_reads' HO_59.1).2.2 x61_5 p257 q257
       cases e257
       replace p257 := eq_true p257
       replace q257 := eq_true q257
       obtain ⟨hcz71_0, hcz71_1, hcz71_2, hfz71_0, hfz71_1, hfz71_2⟩ := cz3 BK237.1
       have p258 : 0 <= ((rd t254 x61_5) : Int) := OD
       have q258 : (rd t254 x61_5) < (l0_2.length : Int) := OD
       obtain ⟨ad258, e258, hx258_0, hx258_1⟩ := at_T49 HR0_2.1 (rd t254 x61_5) p258 q258
       obtain rfl : ad242 = ad258 := (by injection e258)
       replace hx258_0 := (HB.1.cell (World.block_lt_of_cell? w _ hx258_0)).trans hx258_0
       replace hx258_1 := (HB.1.cell (World.block_lt_of_cell? w _ hx258_1)).trans hx258_1
       replace p258 := eq_true p258
       replace q258 := eq_true q258
       go_wp2_with (first | ((with_reducible refine gate_callee (f := 35) rfl ?_); refine goesM (N := (some 70)) #[.agg #[.int .i64 ((rd_T49 l0_2 (rd t254 x61_5)).f0), .int .i64 ((rd_T49 l0_2 (rd t254 x61_5)).f1)]] Try.func35 ?_; (with_reducible refine (impl_isGeared.calls ((rd_T49 l0_2 (rd t254 x61_5)).f0) ((rd_T49 l0_2 (rd t254 x61_5)).f1) false _ A55.1).mono ?_); rintro e w72 ⟨rfl, hb⟩; refine ⟨_, rfl, ?_⟩; refine E6 (rB HO_3.1 hb) (Q_below (by (with_reducible repeat (first | apply Q_alloc | apply Q_drewN | apply Q_drew)); exact HO_8.1) hb) (rB HO_59.1 hb) (bB BK237.1 hb) (bB BK243.1 hb) (bS HB.1 hb) ?_; clear HO_3 HO_8 HO_59 BK237 BK243 HB; intro HO_3 HO_8 HO_59 BK237 BK243 HB; (try clear hb)))
       (try simp only [<- hl3_5])
       go_roundg k5
       case measure => have := HK1.1; have := HK2.1; have := HJ18.1; have := HK4.1; have := HK5.1; omega
       case rel => exact ⟨(x3_5), (x8_5), (wrap64 (x61_5 + 1)), RG, H', ⟨by have := HK1.1; have := HK2.1; have := HJ18.1; have := HK4.1; have := HK5.1; omega⟩, ⟨PR4 HO_3.1 hl3_1 hl3_2 hl3_4 hl3_5⟩, ⟨by (try simp only [hl3_1]); (try simp only [hl3_2]); (try simp only [hl3_4]); (try simp only [hl3_5]); (with_reducible repeat (first | apply Q_alloc | apply Q_drewN | apply Q_drew)); exact HO_8.1⟩, ⟨PR4 HO_59.1 hl3_1 hl3_2 hl3_4 hl3_5⟩, ⟨PB4 BK237.1 hl3_1 hl3_2 hl3_4 hl3_5⟩, ⟨PB4 BK243.1 hl3_1 hl3_2 hl3_4 hl3_5⟩, ⟨BL HB.1⟩⟩
     (try simp only [hl3_1, hl3_2, hl3_4, hl3_5] at c50b0)
     have H' := Aside0.mk H
     clear H
     go_wp2
     (try simp only [<- hl3_4, <- hl3_5])
     go_roundg k5
     case measure => have := HK1.1; have := HK2.1; have := HJ18.1; have := HK4.1; have := HK5.1; omega
     case rel => exact ⟨(x3_5), (x8_5), H', ⟨by have := HK1.1; have := HK2.1; have := HJ18.1; have := HK4.1; have := HK5.1; omega⟩, ⟨by (try simp only [hl3_1]); (try simp only [hl3_2]); (try simp only [hl3_4]); (try simp only [hl3_5]); (with_reducible repeat (first | apply R_alloc | apply R_drewN | apply R_drew)); exact R_mono HO_3.1 (fun _ hk => hk.1)⟩, ⟨by (try simp only [hl3_1]); (try simp only [hl3_2]); (try simp only [hl3_4]); (try simp only [hl3_5]); (with_reducible repeat (first | apply Q_alloc | apply Q_drewN | apply Q_drew)); exact Q_mono HO_8.1 (fun _ hk => hk.1)⟩, ⟨PB4 BK237.1 hl3_1 hl3_2 hl3_4 hl3_5⟩, ⟨PB4 BK243.1 hl3_1 hl3_2 hl3_4 hl3_5⟩, ⟨BL HB.1⟩⟩
   have c40b0 : decide (0 < (x8_4.length : Int)) = false := decide_eq_false c40
   have c40b1 : decide (0 < x8_4.length) = false := decide_eq_false (by omega)
   clear c40
   (try simp only [hl3_1, hl3_2, hl3_4] at c40b1)
   have H' := Aside0.mk H
   clear H
   obtain ⟨Ao73, co73, eo73, _⟩ := Q_slice HO_8.1
   subst eo73
   go_wp2
   (try simp only [<- hl3_2, <- hl3_4])
   go_roundg k4
   case measure => have := HK1.1; have := HK2.1; have := HJ18.1; have := HK4.1; omega
   case rel => exact ⟨(x3_4), (wrap64 (x5_2 + 1)), (wrap64 (x28_2 + 1)), RG, RG, H', ⟨by have := HK1.1; have := HK2.1; have := HJ18.1; have := HK4.1; omega⟩, ⟨by (try simp only [hl3_1]); (try simp only [hl3_2]); (try simp only [hl3_4]); (with_reducible repeat (first | apply R_alloc | apply R_drewN | apply R_drew)); exact R_mono HO_3.1 (fun _ hk => trivial)⟩, ⟨PB3 BK237.1 hl3_1 hl3_2 hl3_4⟩, ⟨BL HB.1⟩⟩
 (try simp only [hl3_1, hl3_2] at c16b0)
 obtain rfl := Option.some.inj H
 go_wp2
 go_ret
 exact ⟨_, RF, RPE (HO_3.1), BL HB.1⟩
/-! ### impl_unitsOf: function 18 -/
open Kd
def impl_unitsOf.l0 : Nat -> List Int -> List (List Int) -> List (S49) -> Int -> Int -> List (Int × Int) -> Option ((List (List Int)))
 | 0, _, _, _, _, _, _ => none
 | k + 1, x3, x5, x15, x16, x17, xm => if x17 < x16 then (if 0 <= x17 then (if x17 < (x15.length : Int) then (if ((rd_T49 x15 x17).f0) = 3 then (if x5.length < 5864062014805 then (impl_unitsOf.l0 k x3 (x5 ++ [(([x17] : List Int))]) x15 x16 (wrap64 (x17 + 1)) xm) else (none)) else (if ((rd_T49 x15 x17).f0) = 6 then (if x17 < (x3.length : Int) then (if wrap64 (rd x3 x17) = (rd x3 x17) then (if mhas xm (rd x3 x17) = true then (if 0 <= (mget xm (rd x3 x17)) then (if (mget xm (rd x3 x17)) < (x5.length : Int) then (if (rd_L3 x5 (mget xm (rd x3 x17))).length < 17592186044416 then (impl_unitsOf.l0 k x3 (x5.set ((mget xm (rd x3 x17)) : Int).toNat ((rd_L3 x5 (mget xm (rd x3 x17))) ++ [x17])) x15 x16 (wrap64 (x17 + 1)) xm) else (none)) else (none)) else (none)) else (if xm.length < 17592186044416 then (if x5.length < 5864062014805 then ((some (x5 ++ [[]] : List (List Int))).bind fun y289 => (if 0 <= (x5.length : Int) then (if (x5.length : Int) < (y289.length : Int) then (if (rd_L3 y289 (x5.length : Int)).length < 17592186044416 then (impl_unitsOf.l0 k x3 (y289.set ((x5.length : Int) : Int).toNat ((rd_L3 y289 (x5.length : Int)) ++ [x17])) x15 x16 (wrap64 (x17 + 1)) (((rd x3 x17), (x5.length : Int)) :: xm)) else (none)) else (none)) else (none))) else (none)) else (none))) else (none)) else (none)) else (impl_unitsOf.l0 k x3 x5 x15 x16 (wrap64 (x17 + 1)) xm))) else (none)) else (none)) else (some x5)
def impl_unitsOf.f (k : Nat) (a0_0 : Int) (a0_1 : Int) (l0_2 : List (S49)) : Option ((List (List Int))) := (impl_groupNumbers.f k a0_0 a0_1 l0_2).bind fun t266 => (impl_unitsOf.l0 k t266 (([] : List (List Int))) l0_2 (l0_2.length : Int) 0 ([] : List (Int × Int)))
theorem impl_unitsOf.mono_l : ∀ k, (∀ y0 y1 y2 y3 y4 y5, LeO (impl_unitsOf.l0 k y0 y1 y2 y3 y4 y5) (impl_unitsOf.l0 (k + 1) y0 y1 y2 y3 y4 y5))
 | 0 => fun _ _ _ _ _ _ r h => by simp [impl_unitsOf.l0] at h
 | k + 1 => by
  have ih0 := impl_unitsOf.mono_l k
  intros
  first | unfold impl_unitsOf.l0
  exact LM2 ih0 impl_groupNumbers.mono
theorem impl_unitsOf.mono : ∀ a0 a1 a2 k, LeO (impl_unitsOf.f k a0 a1 a2) (impl_unitsOf.f (k + 1) a0 a1 a2) := by
 intro a0 a1 a2 k
 have ih0 := impl_unitsOf.mono_l k
 unfold impl_unitsOf.f
 exact LM2 ih0 impl_groupNumbers.mono
theorem impl_unitsOf.zero3 (w : World) : (zeroValue 3).run Try.prog w = .ok (.int .i64 0) w := by kernel_rfl
theorem impl_unitsOf.calls (k : Nat) (a0_0 : Int) (a0_1 : Int) (A0_2 : Option Addr) (c0_2 : Nat) (l0_2 : List (S49)) (r : List (List Int)) (w : World) (hr0_2 : Kd.C k49 w A0_2 l0_2.length l0_2) (hc0_2 : l0_2.length <= c0_2) (h : impl_unitsOf.f k a0_0 a0_1 l0_2 = some r) :
 Calls Try.prog 18 #[.agg #[.int .i64 a0_0, .int .i64 a0_1, .slice A0_2 l0_2.length c0_2]] w fun e w' => ∃ v0_ : Value, e = .returned (v0_) /\ Kd.S (Kd.slice 3 (Kd.int .i64)) 43 w' w.heap.size (fun _ => True) v0_ r /\ Below w.heap.size w w' := by
 have hu31 := Try.underlying31
 have hu49 := Try.underlying49
 have HR0_2 := Aside0.mk hr0_2
 have HC0_2 := Aside0.mk hc0_2
 clear hr0_2 hc0_2
 have HB := Aside0.mk (Below.refl w.heap.size w)
 have H := h
 clear h
 unfold impl_unitsOf.f at H
 replace H := bindA H; obtain ⟨t266, A2, H⟩ := H
 generalize hy270 : ((([] : List (List Int))) : List (List Int)) = y270 at H
 have Ny270 := Aside0.mk hy270.symm; clear hy270
 have H' := Aside0.mk H
 clear H
 go_enter Try.func18, Try.ntmps18
 go_wp2_with (first | ((with_reducible refine gate_dst (N := 1) rfl ?_); refine boxE (cs := #[.int .i64 a0_0, .int .i64 a0_1, .slice A0_2 l0_2.length c0_2]) (t := 31) ?_; intro gb265 hg w3 hbox hb; refine E4b HB.1 hg hbox hb ?_; clear HB; intro HB BK265 GW265 GE265; clear hb hbox hg; obtain ⟨hcz4_0, hcz4_1, hcz4_2, hfz4_0, hfz4_1, hfz4_2⟩ := cz3 BK265.1) | ((with_reducible refine gate_callee (f := 29) rfl ?_); refine goesM (N := (some 11)) #[.agg #[.int .i64 a0_0, .int .i64 a0_1, .slice A0_2 l0_2.length c0_2]] Try.func29 ?_; (with_reducible refine (impl_groupNumbers.calls k a0_0 a0_1 _ _ l0_2 t266 _ ?side1 ?side2 A2.1).mono ?_); (case side1 => exact CB (C_below HR0_2.1 HB.1)); (case side2 => exact HC0_2.1); rintro e w5 ⟨v267, rfl, ho0, hb⟩; refine ⟨_, rfl, ?_⟩; refine E3 (R_lower ho0 (bZ HB.1)) (bB BK265.1 hb) (bS HB.1 hb) ?_; clear BK265 HB; intro HO268 BK265 HB; (try clear hb); (try clear ho0)) | ((with_reducible refine gate_dst (N := 12) rfl ?_); refine map_event ?hg (N := 12) ?hd ?hr ?_; (case hd => rfl); (case hg => rfl); (case hr => first | (go_simp; done) | (go_simp; rfl) | rfl); intro gb269 hg w6 hbox hb; have n0_ := Aside0.mk (rB HO268.1 hb); have n1_ := Aside0.mk (bB BK265.1 hb); have n2_ := Aside0.mk (bS HB.1 hb); have n3_ := Aside0.mk (hbox); have n4_ := Aside0.mk (gX HB.1 hg); have n5_ := Aside0.mk (gX HB.1 hg); have n6_ := Aside0.mk (nB BK265.1 hg); have n7_ := Aside0.mk (nC BK265.1 hg); clear HO268; clear BK265; clear HB; have HO268 := n0_; have BK265 := n1_; have HB := n2_; have HM269 : Aside0 (MapO Try.prog 3 (.map #[] 0) []) := ⟨mapO_made _ _⟩; have BK269 := n3_; have GW269 := n4_; have GE269 := n5_; have NB265_269 := n6_; have NB269_265 := n7_; clear n0_ n1_ n2_ n3_ n4_ n5_ n6_ n7_; clear hb hbox hg; have hnb7 := NB265_269.1; have hnc7 := NB269_265.1; obtain ⟨hcz8_0, hcz8_1, hcz8_2, hfz8_0, hfz8_1, hfz8_2⟩ := cz3 BK265.1) | ((with_reducible refine gate_dst (N := 13) rfl ?_); refine S_lit (Kd.slice 3 (Kd.int .i64)) _ 43 ?hg (N := 13) ?hd (xs := ([] : List (List Int))) (inner := []) (ok := fun _ => True) (okp := fun _ => True) ?hr ?hp (fun _ hk => hk) trivial (Below.refl _ _) (Nat.le_refl _) (by simp) ?_; (case hd => rfl); (case hg => rfl); (case hr => first | (go_simp; done) | (go_simp; rfl)); (case hp => exact (Reps.none _ _)); intro v271 w10 ho11 hb hg_ hnew_; clear hg_ hnew_; (first | rw [<- Ny270.1] at ho11 | (simp only [Int.reduceToNat] at ho11; rw [<- Ny270.1] at ho11)); refine E5 (rB HO268.1 hb) (S_lower (S_new' ho11 (R_lt (PR HO268.1))) (bZ HB.1)) (bB BK265.1 hb) (bB BK269.1 hb) (bS HB.1 hb) ?_; clear HO268 BK265 BK269 HB; intro HO268 HO272 BK265 BK269 HB; clear hb ho11; obtain ⟨hcz12_0, hcz12_1, hcz12_2, hfz12_0, hfz12_1, hfz12_2⟩ := cz3 BK265.1))
 go_loopg [5, 17] k (fun kq v5 v17 w' => ∃ (x5_1 : List (List Int)) (x17_1 : Int) (xm_1 : List (Int × Int)) (om_1 : Obj), v17 = .int .i64 x17_1 /\ Aside0 (impl_unitsOf.l0 kq t266 x5_1 l0_2 (l0_2.length : Int) x17_1 xm_1 = some r) /\ Aside0 (kq <= k) /\ Aside0 (Kd.R (Kd.int .i64) 3 w' w.heap.size (fun _ => True) v267 t266) /\ Aside0 (Kd.S (Kd.slice 3 (Kd.int .i64)) 43 w' w.heap.size (fun k_ => some k_ ≠ (v267 : Value).ownBlock) v5 x5_1) /\ Aside0 (w'.heap[gb265]? = some (.cells #[.int .i64 a0_0, .int .i64 a0_1, (.slice A0_2 l0_2.length c0_2)] 31 (0, 0))) /\ Aside0 (w'.heap[gb269]? = some om_1) /\ Aside0 (MapO Try.prog 3 om_1 xm_1) /\ Aside0 (Below w.heap.size w w'))
 case atStart => exact ⟨(y270), (0), ([]), (.map #[] 0), RG, H', ⟨Nat.le_refl _⟩, ⟨PR HO268.1⟩, ⟨SPE (S_mono HO272.1 (fun _ hk => hk.2))⟩, ⟨PB BK265.1⟩, ⟨PB BK269.1⟩, HM269, ⟨BL HB.1⟩⟩
 clear H'
 clear hcz12_0 hcz12_1 hcz12_2 hcz4_0 hcz4_1 hcz4_2 hcz8_0 hcz8_1 hcz8_2 hfz12_0 hfz12_1 hfz12_2 hfz4_0 hfz4_1 hfz4_2 hfz8_0 hfz8_1 hfz8_2
 obtain ⟨x5_1, x17_1, xm_1, om_1, rfl, HA, HK1, HO_3, HO_5, BK265, BK269, HM269, HB⟩ := hrel
 cases gk with
 | zero => exact absurd HA.1 (by simp [impl_unitsOf.l0])
 | succ k1 => ?_
 have H := HA.1
 clear HA
 simp only [impl_unitsOf.l0] at H
 replace H := ifB H; rcases H with ⟨c13b0, H⟩ | ⟨c13b0, H⟩
 · replace H := ifN H; obtain ⟨c14b0, H⟩ := H
   replace H := ifN H; obtain ⟨c15b0, H⟩ := H
   replace H := ifQ H; rcases H with ⟨c16, H⟩ | ⟨c16, H⟩
   · have c16b0 := beq_iff_eq.mpr c16
     have c16b1 := bne_eq_false_iff_eq.mpr c16
     clear c16
     generalize hy275 : ((([x17_1] : List Int)) : List Int) = y275 at H
     have Ny275 := Aside0.mk hy275.symm; clear hy275
     replace H := ifP H; obtain ⟨c17, H⟩ := H
     have LMc17 := Aside0.mk c17
     clear c17
     generalize hy278 : ((x5_1 ++ [y275]) : List (List Int)) = y278 at H
     have Ny278 := Aside0.mk hy278.symm; clear hy278
     have H' := Aside0.mk H
     clear H
     have p273 : 0 <= (x17_1 : Int) := OD
     have q273 : x17_1 < (l0_2.length : Int) := OD
     obtain ⟨ad273, e273, hx273_0, hx273_1⟩ := at_T49 HR0_2.1 x17_1 p273 q273
     cases e273
     replace hx273_0 := (HB.1.cell (World.block_lt_of_cell? w _ hx273_0)).trans hx273_0
     replace hx273_1 := (HB.1.cell (World.block_lt_of_cell? w _ hx273_1)).trans hx273_1
     replace p273 := eq_true p273
     replace q273 := eq_true q273
     go_wp2_with (first | ((with_reducible refine gate_dst (N := 7) rfl ?_); refine boxE (cs := #[.int .i64 0, .int .i64 0]) (t := 49) ?_; intro gb274 hg w18 hbox hb; refine E12 (rB HO_3.1 hb) (sB HO_5.1 hb) (bB BK265.1 hb) (bB BK269.1 hb) (bS HB.1 hb) (hbox) (gX HB.1 hg) (gX HB.1 hg) (nB BK265.1 hg) (nC BK265.1 hg) (nB BK269.1 hg) (nC BK269.1 hg) ?_; clear HO_3 HO_5 BK265 BK269 HB; intro HO_3 HO_5 BK265 BK269 HB BK274 GW274 GE274 NB265_274 NB274_265 NB269_274 NB274_269; clear hb hbox hg; have hnb19 := NB274_265.1; have hnc19 := NB265_274.1; have hnb20 := NB274_269.1; have hnc20 := NB269_274.1; obtain ⟨hcz21_0, hcz21_1, hfz21_0, hfz21_1⟩ := cz2 BK274.1) | ((with_reducible refine gate_dst (N := 39) rfl ?_); refine look_event (b := gb269) (om := om_1) (mm := xm_1) rfl (.tmp 34) (.tmp 38) 55 3 rfl Try.underlying55 Try.underlying3 ?hz (by first | exact BK269.1 | (refine obj_far ?_ NB269_274.1 _; refine obj_far ?_ NB269_274.1 _; exact BK269.1)) HM269.1 ?hm (rd t266 x17_1) ?hx HKY.1 ?_; (case hz => exact impl_unitsOf.zero3 _); (case hm => rfl); (case hx => first | rfl | (go_simp; done) | (go_simp; rfl))) | ((with_reducible refine gate_dst (N := 28) rfl ?_); refine R_lit (Kd.int .i64) _ 3 ?hg (N := 28) ?hd (xs := ([x17_1] : List Int)) (inner := [.int .i64 x17_1]) (ok := fun _ => True) (okp := fun _ => True) ?hr ?hp (fun _ hk => hk) trivial (Below.refl _ _) (Nat.le_refl _) (by simp) ?_; (case hd => rfl); (case hg => rfl); (case hr => first | (go_simp; done) | (go_simp; rfl)); (case hp => exact (Reps.one (show Kd.M (Kd.int .i64) _ _ _ x17_1 [.int .i64 x17_1] from rfl) (Reps.none _ _))); intro v276 w22 ho23 hb hg_ hnew_; clear hg_ hnew_; (first | rw [<- Ny275.1] at ho23 | (simp only [Int.reduceToNat] at ho23; rw [<- Ny275.1] at ho23)); refine E7 (R_elder' (by (with_reducible repeat (first | apply R_alloc | apply R_drewN | apply R_drew)); exact (R_mono (RQ gb274 1 (RQ gb274 0 (R_types HO_3.1 BK274.1 (by decide)) _) _) (fun _ h_ => h_.1))) (R_base ho23) hb) (S_elder' (by (with_reducible repeat (first | apply S_alloc | apply S_drewN | apply S_drew)); exact (S_mono (SQ gb274 1 (SQ gb274 0 (S_types HO_5.1 BK274.1 (by decide)) _) _) (fun _ h_ => h_.1))) (R_base ho23) hb) (R_lower (R_new' ho23 (R_lt (by (with_reducible repeat (first | apply R_alloc | apply R_drewN | apply R_drew)); exact (R_mono (RQ gb274 1 (RQ gb274 0 (R_types HO_3.1 BK274.1 (by decide)) _) _) (fun _ h_ => h_.1))))) (bZ HB.1)) (blk_below (g := gb265) (o := .cells #[.int .i64 a0_0, .int .i64 a0_1, .slice (some ad273) l0_2.length c0_2] 31 (0, 0)) (PF1 NB265_274.1 BK265.1) hb) (blk_below (g := gb269) (o := om_1) (by (with_reducible repeat (first | refine blk_drewN ?_ _ | refine blk_drew ?_ | refine blk_alloc ?_ _)); refine obj_far ?_ NB269_274.1 _; (with_reducible repeat (first | refine blk_drewN ?_ _ | refine blk_drew ?_ | refine blk_alloc ?_ _)); refine obj_far ?_ NB269_274.1 _; (with_reducible repeat (first | refine blk_drewN ?_ _ | refine blk_drew ?_ | refine blk_alloc ?_ _)); exact BK269.1) hb) (blk_below (g := gb274) (o := .cells #[.int .i64 ((rd_T49 l0_2 x17_1).f0), .int .i64 ((rd_T49 l0_2 x17_1).f1)] 49 (0, 0)) (PF0 BK274.1) hb) (bS HB.1 hb) ?_; clear HO_3 HO_5 BK265 BK269 BK274 HB; intro HO_3 HO_5 HO277 BK265 BK269 BK274 HB; clear hb ho23; obtain ⟨Ao25, co25, eo25⟩ := R_slice HO277.1; subst eo25) | ((with_reducible refine gate_builtin (b := .append) (xs := #[.tmp 26, .tmp 29]) rfl ?_); at_builtin; refine S_append (Kd.slice 3 (Kd.int .i64)) (w0 := w) w.heap.size rfl (.tmp 26) (.tmp 29) 26 43 (.slice none 0 0) 24 rfl Try.underlying26 info43 rfl (by decide) (by omega) u5 x5_1 y275 [.slice Ao25 y275.length co25] (fun k_ => some k_ ≠ (v267 : Value).ownBlock) (fun k_ => some k_ = (.slice Ao25 y275.length co25 : Value).ownBlock) rfl rfl ?aP (fun k_ hk_ => ((R_mono (ok' := fun k_ => ((fun k_ => some k_ ≠ (v267 : Value).ownBlock)) k_ /\ some k_ ≠ (u5 : Value).ownBlock) (R_apart' (HO277.1) (S_typed HO_5.1) (by decide)) (fun k_ hk => ⟨hk.1.2, hk.2⟩))).1 k_ hk_.symm) ?aF ?aO ?aB ?aS ?aL ?_; (case aP => exact M_row (R_mono (R_tight rfl (R_mono (ok' := fun k_ => ((fun k_ => some k_ ≠ (v267 : Value).ownBlock)) k_ /\ some k_ ≠ (u5 : Value).ownBlock) (R_apart' (HO277.1) (S_typed HO_5.1) (by decide)) (fun k_ hk => ⟨hk.1.2, hk.2⟩))) (fun _ h_ => h_))); (case aB => exact (BL HB.1)); (case aF => exact (fun k_ hk => Kd.fresh' (R_lt (PR HO_3.1)) k_ hk)); (case aO => exact (SPE (S_mono HO_5.1 (fun k_ hk => ⟨hk.1, fun e_ => hk.2 e_⟩)))); (case aS => exact (bZ HB.1)); (case aL => have := LMc17.1; omega); intro v279 w24 ho hb hg hat; rw [<- Ny278.1] at ho; refine E6 (R_over' (PR HO_3.1) (S_typed (PS HO_5.1)) (by decide) hg) (bG BK265.1 hg (S_ne HO_5.1 BK265.1 (by decide))) (bG BK269.1 hg (map_ne (S_R HO_5.1) BK269.1 HM269.1)) (bG BK274.1 hg (S_ne HO_5.1 BK274.1 (by decide))) (hb) (ho) ?_; clear HO_3 BK265 BK269 BK274 HB HO_5 HO277; intro HO_3 BK265 BK269 BK274 HB HO280; clear ho hb hg hat))
     go_roundg k1
     case measure => have := HK1.1; omega
     case rel => exact ⟨(y278), (wrap64 (x17_1 + 1)), (xm_1), (om_1), RG, H', ⟨by have := HK1.1; omega⟩, ⟨RPE (R_mono HO_3.1 (fun _ hk => trivial))⟩, ⟨PS HO280.1⟩, ⟨PB BK265.1⟩, ⟨PB BK269.1⟩, HM269, ⟨BL HB.1⟩⟩
   have c16b0 := beq_eq_false_iff_ne.mpr c16
   have c16b1 := bne_iff_ne.mpr c16
   replace H := ifQ H; rcases H with ⟨c26, H⟩ | ⟨c26, H⟩
   · have c26b0 := beq_iff_eq.mpr c26
     have c26b1 := bne_eq_false_iff_eq.mpr c26
     clear c26
     replace H := ifN H; obtain ⟨c27b0, H⟩ := H
     have c_k : wrap64 (rd t266 x17_1) = (rd t266 x17_1) := by
      apply Classical.byContradiction; intro h_; rw [if_neg h_] at H; exact absurd H (by simp)
     rw [if_pos c_k] at H
     have HKY := Aside0.mk c_k
     clear c_k
     replace H := ifQ H; rcases H with ⟨c28, H⟩ | ⟨c28, H⟩
     · have c28b0 : mhas xm_1 (rd t266 x17_1) = true := c28
       have c28b1 : (!mhas xm_1 (rd t266 x17_1)) = false := by rw [c28]; rfl
       clear c28
       replace H := ifN H; obtain ⟨c29b0, H⟩ := H
       replace H := ifN H; obtain ⟨c30b0, H⟩ := H
       replace H := ifP H; obtain ⟨c31, H⟩ := H
       have LMc31 := Aside0.mk c31
       clear c31
       generalize hy283 : (((rd_L3 x5_1 (mget xm_1 (rd t266 x17_1))) ++ [x17_1]) : List Int) = y283 at H
       have Ny283 := Aside0.mk hy283.symm; clear hy283
       generalize hy286 : ((x5_1.set ((mget xm_1 (rd t266 x17_1)) : Int).toNat y283) : List (List Int)) = y286 at H
       have Ny286 := Aside0.mk hy286.symm; clear hy286
       have H' := Aside0.mk H
       clear H
       have p273 : 0 <= (x17_1 : Int) := OD
       have q273 : x17_1 < (l0_2.length : Int) := OD
       obtain ⟨ad273, e273, hx273_0, hx273_1⟩ := at_T49 HR0_2.1 x17_1 p273 q273
       cases e273
       replace hx273_0 := (HB.1.cell (World.block_lt_of_cell? w _ hx273_0)).trans hx273_0
       replace hx273_1 := (HB.1.cell (World.block_lt_of_cell? w _ hx273_1)).trans hx273_1
       replace p273 := eq_true p273
       replace q273 := eq_true q273
       go_wp2_with (first | ((with_reducible refine gate_dst (N := 7) rfl ?_); refine boxE (cs := #[.int .i64 0, .int .i64 0]) (t := 49) ?_; intro gb274 hg w33 hbox hb; refine E12 (rB HO_3.1 hb) (sB HO_5.1 hb) (bB BK265.1 hb) (bB BK269.1 hb) (bS HB.1 hb) (hbox) (gX HB.1 hg) (gX HB.1 hg) (nB BK265.1 hg) (nC BK265.1 hg) (nB BK269.1 hg) (nC BK269.1 hg) ?_; clear HO_3 HO_5 BK265 BK269 HB; intro HO_3 HO_5 BK265 BK269 HB BK274 GW274 GE274 NB265_274 NB274_265 NB269_274 NB274_269; clear hb hbox hg; have hnb34 := NB274_265.1; have hnc34 := NB265_274.1; have hnb35 := NB274_269.1; have hnc35 := NB269_274.1; obtain ⟨hcz36_0, hcz36_1, hfz36_0, hfz36_1⟩ := cz2 BK274.1) | ((with_reducible refine gate_dst (N := 39) rfl ?_); refine look_event (b := gb269) (om := om_1) (mm := xm_1) rfl (.tmp 34) (.tmp 38) 55 3 rfl Try.underlying55 Try.underlying3 ?hz (by first | exact BK269.1 | (refine obj_far ?_ NB269_274.1 _; refine obj_far ?_ NB269_274.1 _; exact BK269.1)) HM269.1 ?hm (rd t266 x17_1) ?hx HKY.1 ?_; (case hz => exact impl_unitsOf.zero3 _); (case hm => rfl); (case hx => first | rfl | (go_simp; done) | (go_simp; rfl))) | ((with_reducible refine gate_store (t := 49) (p := 7) rfl ?_); refine storeE (t := 49) (p := 7) (w1 := ((w33.setCell ⟨gb274, 0, none⟩ (.int .i64 ((rd_T49 l0_2 x17_1).f0))).setCell ⟨gb274, 1, none⟩ (.int .i64 ((rd_T49 l0_2 x17_1).f1)))) ?_; intro w37 hw; have n0_ : Aside0 (Kd.R (Kd.int .i64) 3 w37 w.heap.size (fun _ => True) v267 t266) := ⟨(by rw [hw]; exact (by (with_reducible repeat (first | apply R_alloc | apply R_drewN | apply R_drew)); exact R_mono (RQ gb274 1 (RQ gb274 0 (R_types HO_3.1 BK274.1 (by decide)) _) _) (fun _ hk => trivial)))⟩; have n1_ : Aside0 (Kd.S (Kd.slice 3 (Kd.int .i64)) 43 w37 w.heap.size (fun k_ => some k_ ≠ (v267 : Value).ownBlock) u5 x5_1) := ⟨(by rw [hw]; exact (by (with_reducible repeat (first | apply S_alloc | apply S_drewN | apply S_drew)); exact S_mono (SQ gb274 1 (SQ gb274 0 (S_types HO_5.1 BK274.1 (by decide)) _) _) (fun _ hk => hk.1)))⟩; have n2_ : Aside0 (w37.heap[gb265]? = some (.cells #[.int .i64 a0_0, .int .i64 a0_1, .slice (some ad273) l0_2.length c0_2] 31 (0, 0))) := ⟨(by rw [hw]; exact (PF1 NB265_274.1 BK265.1))⟩; have n3_ : Aside0 (w37.heap[gb269]? = some om_1) := ⟨(by rw [hw]; exact (by (with_reducible repeat (first | refine blk_drewN ?_ _ | refine blk_drew ?_ | refine blk_alloc ?_ _)); refine obj_far ?_ NB269_274.1 _; (with_reducible repeat (first | refine blk_drewN ?_ _ | refine blk_drew ?_ | refine blk_alloc ?_ _)); refine obj_far ?_ NB269_274.1 _; (with_reducible repeat (first | refine blk_drewN ?_ _ | refine blk_drew ?_ | refine blk_alloc ?_ _)); exact BK269.1))⟩; have n4_ : Aside0 (w37.heap[gb274]? = some (.cells #[.int .i64 ((rd_T49 l0_2 x17_1).f0), .int .i64 ((rd_T49 l0_2 x17_1).f1)] 49 (0, 0))) := ⟨(by rw [hw]; exact (PF0 BK274.1))⟩; have n5_ : Aside0 (Below w.heap.size w w37) := ⟨(by rw [hw]; exact (BL HB.1))⟩; clear hw; clear HO_3; clear HO_5; clear BK265; clear BK269; clear BK274; clear HB; have HO_3 := n0_; have HO_5 := n1_; have BK265 := n2_; have BK269 := n3_; have BK274 := n4_; have HB := n5_; clear n0_ n1_ n2_ n3_ n4_ n5_; obtain ⟨hcz38_0, hcz38_1, hfz38_0, hfz38_1⟩ := cz2 BK274.1; obtain ⟨Ao39, co39, eo39⟩ := R_slice HO_3.1; subst eo39; have p281 : 0 <= (x17_1 : Int) := OD; have q281 : x17_1 < (t266.length : Int) := OD; obtain ⟨ad281, e281, hx281_0⟩ := Kd.at_int (R_reads' HO_3.1).2.2 x17_1 p281 q281; cases e281; replace p281 := eq_true p281; replace q281 := eq_true q281; have hnb40 := NB269_265.1; have hnc40 := NB265_269.1; obtain ⟨Ao42, co42, eo42⟩ := S_slice HO_5.1; subst eo42; have p282 : 0 <= ((mget xm_1 (rd t266 x17_1)) : Int) := OD; have q282 : (mget xm_1 (rd t266 x17_1)) < (x5_1.length : Int) := OD; obtain ⟨ad282, A282_0, c282_0, e282, hx282_0, hl282_0, hi282_0⟩ := at_L3 (S_reads' HO_5.1).2.2 (mget xm_1 (rd t266 x17_1)) p282 q282; cases e282; obtain ⟨ce282, hce282, hMe282, hcc282⟩ := S_get HO_5.1 [] (mget xm_1 (rd t266 x17_1)) p282 (by first | exact q282 | exact OD | (have e_ := (S_reads' HO_5.1).1; omega)); obtain ⟨ve282_0, rfl, ge282_0⟩ := hMe282; have hv282_0 := hcc282 0 _ rfl; rw [Nat.add_zero, show ((Kd.slice 3 (Kd.int .i64))).sz = 1 from rfl, Nat.mul_one] at hv282_0; replace hv282_0 := Option.some.inj (hv282_0.symm.trans hx282_0); rw [hv282_0] at ge282_0; have HL282_0 := Aside0.mk (show Kd.R (Kd.int .i64) 3 _ _ _ _ (rd_L3 x5_1 (mget xm_1 (rd t266 x17_1))) from ge282_0); clear hv282_0 ge282_0; have HX282_0 := Aside0.mk hx282_0; clear hcc282 hce282; have HR282_0 := Aside0.mk hi282_0; have HC282_0 := Aside0.mk hl282_0; clear hi282_0 hl282_0; replace p282 := eq_true p282; replace q282 := eq_true q282; obtain ⟨go43, co43, eo43, gb43, gl43, cl43, HG43⟩ := S_form HO_5.1 (by have h_ : ((mget xm_1 (rd t266 x17_1)) : Int) < ((x5_1.length : Int) : Int) := OD; have h2_ : 0 <= ((mget xm_1 (rd t266 x17_1)) : Int) := (OD); omega); (first | cases eo43 | (injection eo43 with ea_ en_ ec_; (first | subst ea_ | (injection ea_ with ea_; subst ea_)); subst ec_; clear en_)); have GB43 := Aside0.mk gb43; have GG43 := Aside0.mk HG43; clear gb43 gl43 HG43; (first | simp only [add_plain] at hx282_0 | skip); obtain ⟨oki43, ce43, hcl43, hM43, hcc43, _, _, hH43⟩ := S_elem HO_5.1 [] ((mget xm_1 (rd t266 x17_1)) : Int) (OD) (by have h_ : ((mget xm_1 (rd t266 x17_1)) : Int) < ((x5_1.length : Int) : Int) := OD; first | exact h_ | (have e_ := (S_reads' HO_5.1).1; omega) | simpa using h_); obtain ⟨ve43_0, rfl, ge43_0⟩ := hM43; have hv43 := hcc43 0 _ rfl; have hX43 := HX282_0.1; (try simp only [add_plain] at hX43); (try simp only [Nat.add_zero] at hv43); (try rw [show ((Kd.slice 3 (Kd.int .i64))).sz = 1 from rfl, Nat.mul_one] at hv43); replace hv43 := Option.some.inj (hv43.symm.trans hX43); subst hv43; clear hX43 hcc43 hcl43; have UU43 := Aside0.mk (show Kd.R (Kd.int .i64) 3 _ w.heap.size oki43 (.slice A282_0 (rd_L3 x5_1 (mget xm_1 (rd t266 x17_1))).length c282_0) (rd_L3 x5_1 (mget xm_1 (rd t266 x17_1))) from ge43_0); have HH43 := Aside0.mk hH43; have HN43 := Aside0.mk (S_reads' HO_5.1).1; clear hH43 ge43_0) | ((with_reducible refine gate_builtin (b := .append) (xs := #[.tmp 60, .tmp 62]) rfl ?_); at_builtin; refine R_append (Kd.int .i64) (w0 := w) w.heap.size rfl (.tmp 60) (.tmp 62) 43 3 (.int .i64 0) 8 rfl Try.underlying43 info3 rfl (by decide) (by omega) (.slice A282_0 (rd_L3 x5_1 (mget xm_1 (rd t266 x17_1))).length c282_0) (rd_L3 x5_1 (mget xm_1 (rd t266 x17_1))) x17_1 [.int .i64 x17_1] (fun k_ => oki43 k_ ∨ ((fun k_ => some k_ ≠ (.slice (some ad281) t266.length co39 : Value).ownBlock)) k_ /\ w37.heap.size <= k_) (fun _ => False) rfl rfl ?aP (fun _ hk => hk.elim) ?aF ?aO ?aB ?aS ?aL ?_; (case aP => exact rfl); (case aB => exact (BL HB.1)); (case aF => exact (fun k_ hk => .inr ⟨Kd.fresh' (R_lt (PR HO_3.1)) k_ hk, hk⟩)); (case aO => exact (RPE (R_mono UU43.1 (fun _ hk => .inl hk)))); (case aS => exact (bZ HB.1)); (case aL => have := LMc31.1; omega); intro v284 w44 ho hb hg hat; rw [<- Ny283.1] at ho; refine E7 (R_grown2 (PR HO_3.1) rfl hg (fun k_ e_ => (HL282_0.1.1 k_ e_).1)) (bG BK265.1 hg (R_ne HL282_0.1 BK265.1 (by decide))) (bG BK269.1 hg (map_ne HL282_0.1 BK269.1 HM269.1)) (bG BK274.1 hg (R_ne HL282_0.1 BK274.1 (by decide))) (hb) (H_grown (H_widen (by repeat (first | exact HH43.1 | refine H_alloc ?_ _ | refine H_drewN ?_ _ | refine H_drew ?_))) hg (fun k_ e_ => .inl (UU43.1.1 k_ e_))) (ho) ?_; clear HO_3 BK265 BK269 BK274 HB HH43 HO_5 UU43 HL282_0; intro HO_3 BK265 BK269 BK274 HB HH43 HO285; clear ho hb hg hat; have p32 : 0 <= ((mget xm_1 (rd t266 x17_1)) : Int) := OD; have q32 : ((mget xm_1 (rd t266 x17_1)) : Int) < ((x5_1.length : Int) : Int) := OD; replace p32 := eq_true p32; replace q32 := eq_true q32; obtain ⟨Ao47, co47, eo47⟩ := R_slice HO285.1; subst eo47; obtain ⟨_, _, hraw45, _, _, hcc45, _⟩ := H_raw HH43.1 (OD) (by have h_ : ((mget xm_1 (rd t266 x17_1)) : Int) < ((x5_1.length : Int) : Int) := OD; first | exact h_ | (have e_ := (HN43.1); omega) | simpa using h_); obtain ⟨_, hfr45⟩ := H_at HH43.1 (OD) (by have h_ : ((mget xm_1 (rd t266 x17_1)) : Int) < ((x5_1.length : Int) : Int) := OD; first | exact h_ | (have e_ := (HN43.1); omega) | simpa using h_); have hx45_0 := hcc45 0 _ rfl; have hf45_0 := hfr45 0; (try simp only [Nat.add_zero] at hx45_0 hf45_0); (try rw [show ((Kd.slice 3 (Kd.int .i64))).sz = 1 from rfl, Nat.mul_one] at hx45_0); (try rw [show ((Kd.slice 3 (Kd.int .i64))).sz = 1 from rfl, Nat.mul_one] at hf45_0); (try simp only [Go.IntWalk.toNatUp] at hx45_0 hf45_0); have HP45 := S_seg0 HH43.1 (OD) (by have h_ : ((mget xm_1 (rd t266 x17_1)) : Int) < ((x5_1.length : Int) : Int) := OD; first | exact h_ | (have e_ := (HN43.1); omega) | simpa using h_) (seg := [.slice Ao47 y283.length co47]) (j := 0) (show 1 <= 1 from by decide) (x' := y283) (M_row HO285.1) (fun _ hk => hk); (try simp only [show ((Kd.slice 3 (Kd.int .i64))).sz = 1 from rfl, Nat.mul_one, Nat.add_zero] at HP45); clear hcc45 hfr45) | ((with_reducible refine gate_store (t := 43) (p := 64) rfl ?_); refine storeE (t := 43) (p := 64) (w1 := (w44.setCell ⟨go43, ((mget xm_1 (rd t266 x17_1)) : Int).toNat, none⟩ (.slice Ao47 y283.length co47))) ?_; intro w46 hw; have hg : w44.grownBy w46 (some go43) := (by rw [hw]; exact HP45.2); have hp_ : Kd.S (Kd.slice 3 (Kd.int .i64)) 43 w46 w.heap.size (fun k_ => some k_ ≠ (.slice (some ad281) t266.length co39 : Value).ownBlock) (.slice (some ⟨go43, 0, none⟩) x5_1.length co42) y286 := (by rw [hw, Ny286.1]; exact HP45.1); clear HP45; refine E6 (R_over' (v := (.slice (some ⟨go43, 0, none⟩) x5_1.length co42)) (PR HO_3.1) (R_typed hraw45) (by decide) hg) (bG BK265.1 hg (R_ne hraw45 BK265.1 (by decide))) (bG BK269.1 hg (map_ne hraw45 BK269.1 HM269.1)) (bG BK274.1 hg (R_ne hraw45 BK274.1 (by decide))) ((by rw [hw]; exact below_set HB.1 GB43.1 : Below w.heap.size w w46)) (hp_) ?_; clear HO_3 BK265 BK269 BK274 HB HO285 HH43; intro HO_3 BK265 BK269 BK274 HB HO_5; clear hg hw hp_ hraw45))
       go_roundg k1
       case measure => have := HK1.1; omega
       case rel => exact ⟨(y286), (wrap64 (x17_1 + 1)), (xm_1), (om_1), RG, H', ⟨by have := HK1.1; omega⟩, ⟨PR HO_3.1⟩, ⟨PS HO_5.1⟩, ⟨PB BK265.1⟩, ⟨PB BK269.1⟩, HM269, ⟨BL HB.1⟩⟩
     have c28b0 : mhas xm_1 (rd t266 x17_1) = false := by simpa using c28
     have c28b1 : (!mhas xm_1 (rd t266 x17_1)) = true := by rw [c28b0]; rfl
     have c_m : xm_1.length < 17592186044416 := by
      apply Classical.byContradiction; intro h_; rw [if_neg h_] at H; exact absurd H (by simp)
     rw [if_pos c_m] at H
     have HML := Aside0.mk c_m
     clear c_m
     replace H := ifP H; obtain ⟨c48, H⟩ := H
     have LMc48 := Aside0.mk c48
     clear c48
     replace H := nameB H; obtain ⟨y289, Ny289, H⟩ := H
     replace H := ifP H; obtain ⟨c49, H⟩ := H
     have c49b0 := decide_eq_true c49
     have c49b1 : decide (0 <= x5_1.length) = true := decide_eq_true (by omega)
     clear c49
     replace H := ifP H; obtain ⟨c50, H⟩ := H
     have c50b0 := decide_eq_true c50
     have c50b1 : decide (x5_1.length < y289.length) = true := decide_eq_true (Int.ofNat_lt.mp c50)
     clear c50
     replace H := ifP H; obtain ⟨c51, H⟩ := H
     have LMc51 := Aside0.mk c51
     clear c51
     generalize hy293 : (((rd_L3 y289 (x5_1.length : Int)) ++ [x17_1]) : List Int) = y293 at H
     have Ny293 := Aside0.mk hy293.symm; clear hy293
     generalize hy296 : ((y289.set ((x5_1.length : Int) : Int).toNat y293) : List (List Int)) = y296 at H
     have Ny296 := Aside0.mk hy296.symm; clear hy296
     have H' := Aside0.mk H
     clear H
     have p273 : 0 <= (x17_1 : Int) := OD
     have q273 : x17_1 < (l0_2.length : Int) := OD
     obtain ⟨ad273, e273, hx273_0, hx273_1⟩ := at_T49 HR0_2.1 x17_1 p273 q273
     cases e273
     replace hx273_0 := (HB.1.cell (World.block_lt_of_cell? w _ hx273_0)).trans hx273_0
     replace hx273_1 := (HB.1.cell (World.block_lt_of_cell? w _ hx273_1)).trans hx273_1
     replace p273 := eq_true p273
     replace q273 := eq_true q273
     go_wp2_with (first | ((with_reducible refine gate_dst (N := 7) rfl ?_); refine boxE (cs := #[.int .i64 0, .int .i64 0]) (t := 49) ?_; intro gb274 hg w53 hbox hb; refine E12 (rB HO_3.1 hb) (sB HO_5.1 hb) (bB BK265.1 hb) (bB BK269.1 hb) (bS HB.1 hb) (hbox) (gX HB.1 hg) (gX HB.1 hg) (nB BK265.1 hg) (nC BK265.1 hg) (nB BK269.1 hg) (nC BK269.1 hg) ?_; clear HO_3 HO_5 BK265 BK269 HB; intro HO_3 HO_5 BK265 BK269 HB BK274 GW274 GE274 NB265_274 NB274_265 NB269_274 NB274_269; clear hb hbox hg; have hnb54 := NB274_265.1; have hnc54 := NB265_274.1; have hnb55 := NB274_269.1; have hnc55 := NB269_274.1; obtain ⟨hcz56_0, hcz56_1, hfz56_0, hfz56_1⟩ := cz2 BK274.1; obtain ⟨Ao57, co57, eo57⟩ := R_slice HO_3.1; subst eo57; have p281 : 0 <= (x17_1 : Int) := OD; have q281 : x17_1 < (t266.length : Int) := OD; obtain ⟨ad281, e281, hx281_0⟩ := Kd.at_int (R_reads' HO_3.1).2.2 x17_1 p281 q281; cases e281; have hn281_0 : ad281.block ≠ gb274 := Kd.own_blk (R_ne HO_3.1 BK274.1 (by decide)); have hn281_1 : ad281.block ≠ gb274 := Kd.own_blk (R_ne HO_3.1 BK274.1 (by decide)); replace hx281_0 := (cell_far (p := ⟨gb274, 0, none⟩) (by first | (rw [add_block]; exact hn281_0) | (show (Addr.add _ _).block ≠ _; rw [add_block]; exact hn281_0) | exact hn281_0) (.int .i64 ((rd_T49 l0_2 x17_1).f0))).trans hx281_0; replace hx281_0 := (cell_far (p := ⟨gb274, 1, none⟩) (by first | (rw [add_block]; exact hn281_1) | (show (Addr.add _ _).block ≠ _; rw [add_block]; exact hn281_1) | exact hn281_1) (.int .i64 ((rd_T49 l0_2 x17_1).f1))).trans hx281_0; clear hn281_0; clear hn281_1; replace p281 := eq_true p281; replace q281 := eq_true q281; have hnb58 := NB269_265.1; have hnc58 := NB265_269.1; obtain ⟨Ao60, co60, eo60⟩ := S_slice HO_5.1; subst eo60; have p287 : 0 <= (x17_1 : Int) := OD; have q287 : x17_1 < (t266.length : Int) := OD; obtain ⟨ad287, e287, hx287_0⟩ := Kd.at_int (R_reads' HO_3.1).2.2 x17_1 p287 q287; obtain rfl : ad281 = ad287 := (by injection e287); have hn287_0 : ad281.block ≠ gb274 := Kd.own_blk (R_ne HO_3.1 BK274.1 (by decide)); have hn287_1 : ad281.block ≠ gb274 := Kd.own_blk (R_ne HO_3.1 BK274.1 (by decide)); replace hx287_0 := (cell_far (p := ⟨gb274, 0, none⟩) (by first | (rw [add_block]; exact hn287_0) | (show (Addr.add _ _).block ≠ _; rw [add_block]; exact hn287_0) | exact hn287_0) (.int .i64 ((rd_T49 l0_2 x17_1).f0))).trans hx287_0; replace hx287_0 := (cell_far (p := ⟨gb274, 1, none⟩) (by first | (rw [add_block]; exact hn287_1) | (show (Addr.add _ _).block ≠ _; rw [add_block]; exact hn287_1) | exact hn287_1) (.int .i64 ((rd_T49 l0_2 x17_1).f1))).trans hx287_0; clear hn287_0; clear hn287_1; replace p287 := eq_true p287; replace q287 := eq_true q287) | ((with_reducible refine gate_dst (N := 39) rfl ?_); refine look_event (b := gb269) (om := om_1) (mm := xm_1) rfl (.tmp 34) (.tmp 38) 55 3 rfl Try.underlying55 Try.underlying3 ?hz (by first | exact BK269.1 | (refine obj_far ?_ NB269_274.1 _; refine obj_far ?_ NB269_274.1 _; exact BK269.1)) HM269.1 ?hm (rd t266 x17_1) ?hx HKY.1 ?_; (case hz => exact impl_unitsOf.zero3 _); (case hm => rfl); (case hx => first | rfl | (go_simp; done) | (go_simp; rfl))) | ((with_reducible refine gate_put (T := 55) (m := .tmp 46) (x := .tmp 50) (v := .tmp 51) rfl ?_); refine put_event (b := gb269) (om := om_1) (mm := xm_1) rfl (.tmp 46) (.tmp 50) (.tmp 51) 55 3 rfl rfl Try.underlying55 Try.underlying3 (by (with_reducible repeat (first | refine blk_drewN ?_ _ | refine blk_drew ?_ | refine blk_alloc ?_ _)); refine obj_far ?_ NB269_274.1 _; (with_reducible repeat (first | refine blk_drewN ?_ _ | refine blk_drew ?_ | refine blk_alloc ?_ _)); refine obj_far ?_ NB269_274.1 _; (with_reducible repeat (first | refine blk_drewN ?_ _ | refine blk_drew ?_ | refine blk_alloc ?_ _)); exact BK269.1) HM269.1 HML.1 ?hm (rd t266 x17_1) (x5_1.length : Int) ?hx ?hv HKY.1 ?hw ?_; (case hm => rfl); (case hx => first | rfl | (go_simp; done) | (go_simp; rfl)); (case hv => first | rfl | (go_simp; done) | (go_simp; rfl)); (case hw => (have := LMc48.1; exact wrap64_nat (by omega))); intro w61 om2_ hbm hM2_ hg; have n0_ := Aside0.mk (R_put (g := gb269) (om := om_1) (by (with_reducible repeat (first | apply R_alloc | apply R_drewN | apply R_drew)); exact (R_mono (RQ gb274 1 (RQ gb274 0 (R_types HO_3.1 BK274.1 (by decide)) _) _) (fun _ h_ => h_.1))) (by (with_reducible repeat (first | refine blk_drewN ?_ _ | refine blk_drew ?_ | refine blk_alloc ?_ _)); refine obj_far ?_ NB269_274.1 _; (with_reducible repeat (first | refine blk_drewN ?_ _ | refine blk_drew ?_ | refine blk_alloc ?_ _)); refine obj_far ?_ NB269_274.1 _; (with_reducible repeat (first | refine blk_drewN ?_ _ | refine blk_drew ?_ | refine blk_alloc ?_ _)); exact BK269.1) HM269.1 hg); have n1_ := Aside0.mk (S_put (g := gb269) (om := om_1) (by (with_reducible repeat (first | apply S_alloc | apply S_drewN | apply S_drew)); exact (S_mono (SQ gb274 1 (SQ gb274 0 (S_types HO_5.1 BK274.1 (by decide)) _) _) (fun _ h_ => h_.1))) (by (with_reducible repeat (first | refine blk_drewN ?_ _ | refine blk_drew ?_ | refine blk_alloc ?_ _)); refine obj_far ?_ NB269_274.1 _; (with_reducible repeat (first | refine blk_drewN ?_ _ | refine blk_drew ?_ | refine blk_alloc ?_ _)); refine obj_far ?_ NB269_274.1 _; (with_reducible repeat (first | refine blk_drewN ?_ _ | refine blk_drew ?_ | refine blk_alloc ?_ _)); exact BK269.1) HM269.1 hg); have n2_ := Aside0.mk (blk_grown (g := gb265) (o := .cells #[.int .i64 a0_0, .int .i64 a0_1, .slice (some ad273) l0_2.length c0_2] 31 (0, 0)) (PF1 NB265_274.1 BK265.1) hg (fun e_ => NB265_269.1 (Option.some.inj e_))); have n3_ := Aside0.mk (hbm); have n4_ := Aside0.mk (blk_grown (g := gb274) (o := .cells #[.int .i64 ((rd_T49 l0_2 x17_1).f0), .int .i64 ((rd_T49 l0_2 x17_1).f1)] 49 (0, 0)) (PF0 BK274.1) hg (fun e_ => NB274_269.1 (Option.some.inj e_))); have n5_ := Aside0.mk (pw_below_grown (BL HB.1) _ (bZ HB.1) hg (fun k_ e_ => by cases e_; exact GE269.1)); clear HO_3; clear HO_5; clear BK265; clear BK269; clear BK274; clear HB; clear HM269; have HO_3 := n0_; have HO_5 := n1_; have BK265 := n2_; have BK269 := n3_; have BK274 := n4_; have HB := n5_; have HM269 := Aside0.mk hM2_; clear n0_ n1_ n2_ n3_ n4_ n5_; clear hbm hM2_ hg) | ((with_reducible refine gate_builtin (b := .append) (xs := #[.tmp 52, .tmp 53]) rfl ?_); at_builtin; refine S_append (Kd.slice 3 (Kd.int .i64)) (w0 := w) w.heap.size rfl (.tmp 52) (.tmp 53) 26 43 (.slice none 0 0) 24 rfl Try.underlying26 info43 rfl (by decide) (by omega) (.slice Ao60 x5_1.length co60) x5_1 [] [.slice none 0 0] (fun k_ => some k_ ≠ (.slice (some ad281) t266.length co57 : Value).ownBlock) (fun _ => False) rfl rfl ?aP (fun _ hk => hk.elim) ?aF ?aO ?aB ?aS ?aL ?_; (case aP => exact ⟨_, rfl, R_nil _ _ _ _ _⟩); (case aB => exact (BL HB.1)); (case aF => exact (fun k_ hk => Kd.fresh' (R_lt (PR HO_3.1)) k_ hk)); (case aO => exact (SPE (S_mono HO_5.1 (fun k_ hk => ⟨hk, fun e_ => e_⟩)))); (case aS => exact (bZ HB.1)); (case aL => have := LMc48.1; omega); intro v290 w62 ho hb hg hat; rw [<- Ny289.1] at ho; have n0_ := Aside0.mk (R_over' (PR HO_3.1) (S_typed (PS HO_5.1)) (by decide) hg); have n1_ := Aside0.mk (bG BK265.1 hg (S_ne HO_5.1 BK265.1 (by decide))); have n2_ := Aside0.mk (bG BK269.1 hg (map_ne (S_R HO_5.1) BK269.1 HM269.1)); have n3_ := Aside0.mk (bG BK274.1 hg (S_ne HO_5.1 BK274.1 (by decide))); have n5_ := Aside0.mk (hb); have n6_ := Aside0.mk (ho); clear HO_3; clear BK265; clear BK269; clear BK274; clear HB; clear HO_5; have HO_3 := n0_; have BK265 := n1_; have BK269 := n2_; have BK274 := n3_; have HB := n5_; have HO291 := n6_; clear n0_ n1_ n2_ n3_ n5_ n6_; clear ho hb hg hat; obtain ⟨Ao63, co63, eo63⟩ := S_slice HO291.1; subst eo63; have p292 : 0 <= ((x5_1.length : Int) : Int) := OD; have q292 : (x5_1.length : Int) < (y289.length : Int) := OD; obtain ⟨ad292, A292_0, c292_0, e292, hx292_0, hl292_0, hi292_0⟩ := at_L3 (S_reads' HO291.1).2.2 (x5_1.length : Int) p292 q292; cases e292; obtain ⟨ce292, hce292, hMe292, hcc292⟩ := S_get HO291.1 [] (x5_1.length : Int) p292 (by first | exact q292 | exact OD | (have e_ := (S_reads' HO291.1).1; omega)); obtain ⟨ve292_0, rfl, ge292_0⟩ := hMe292; have hv292_0 := hcc292 0 _ rfl; rw [Nat.add_zero, show ((Kd.slice 3 (Kd.int .i64))).sz = 1 from rfl, Nat.mul_one] at hv292_0; replace hv292_0 := Option.some.inj (hv292_0.symm.trans hx292_0); rw [hv292_0] at ge292_0; have HL292_0 := Aside0.mk (show Kd.R (Kd.int .i64) 3 _ _ _ _ (rd_L3 y289 (x5_1.length : Int)) from ge292_0); clear hv292_0 ge292_0; have HX292_0 := Aside0.mk hx292_0; clear hcc292 hce292; have HR292_0 := Aside0.mk hi292_0; have HC292_0 := Aside0.mk hl292_0; clear hi292_0 hl292_0; (try simp only [Go.IntWalk.toNatUp] at hx292_0); replace p292 := eq_true p292; replace q292 := eq_true q292; obtain ⟨go64, co64, eo64, gb64, gl64, cl64, HG64⟩ := S_form HO291.1 (by have h_ : ((x5_1.length : Int) : Int) < ((y289.length : Int) : Int) := OD; have h2_ : 0 <= ((x5_1.length : Int) : Int) := (OD); omega); (first | cases eo64 | (injection eo64 with ea_ en_ ec_; (first | subst ea_ | (injection ea_ with ea_; subst ea_)); subst ec_; clear en_)); have GB64 := Aside0.mk gb64; have GG64 := Aside0.mk HG64; clear gb64 gl64 HG64; (first | simp only [add_plain] at hx292_0 | skip); obtain ⟨oki64, ce64, hcl64, hM64, hcc64, _, _, hH64⟩ := S_elem HO291.1 [] ((x5_1.length : Int) : Int) (OD) (by have h_ : ((x5_1.length : Int) : Int) < ((y289.length : Int) : Int) := OD; first | exact h_ | (have e_ := (S_reads' HO291.1).1; omega) | simpa using h_); obtain ⟨ve64_0, rfl, ge64_0⟩ := hM64; have hv64 := hcc64 0 _ rfl; have hX64 := HX292_0.1; (try simp only [add_plain] at hX64); (try simp only [Nat.add_zero] at hv64); (try rw [show ((Kd.slice 3 (Kd.int .i64))).sz = 1 from rfl, Nat.mul_one] at hv64); replace hv64 := Option.some.inj (hv64.symm.trans hX64); subst hv64; clear hX64 hcc64 hcl64; have UU64 := Aside0.mk (show Kd.R (Kd.int .i64) 3 _ w.heap.size oki64 (.slice A292_0 (rd_L3 y289 (x5_1.length : Int)).length c292_0) (rd_L3 y289 (x5_1.length : Int)) from ge64_0); have HH64 := Aside0.mk hH64; have HN64 := Aside0.mk (S_reads' HO291.1).1; clear hH64 ge64_0) | ((with_reducible refine gate_builtin (b := .append) (xs := #[.tmp 60, .tmp 62]) rfl ?_); at_builtin; refine R_append (Kd.int .i64) (w0 := w) w.heap.size rfl (.tmp 60) (.tmp 62) 43 3 (.int .i64 0) 8 rfl Try.underlying43 info3 rfl (by decide) (by omega) (.slice A292_0 (rd_L3 y289 (x5_1.length : Int)).length c292_0) (rd_L3 y289 (x5_1.length : Int)) x17_1 [.int .i64 x17_1] (fun k_ => oki64 k_ ∨ ((fun k_ => some k_ ≠ (.slice (some ad281) t266.length co57 : Value).ownBlock)) k_ /\ w62.heap.size <= k_) (fun _ => False) rfl rfl ?aP (fun _ hk => hk.elim) ?aF ?aO ?aB ?aS ?aL ?_; (case aP => exact rfl); (case aB => exact (BL HB.1)); (case aF => exact (fun k_ hk => .inr ⟨Kd.fresh' (R_lt (PR HO_3.1)) k_ hk, hk⟩)); (case aO => exact (RPE (R_mono UU64.1 (fun _ hk => .inl hk)))); (case aS => exact (bZ HB.1)); (case aL => have := LMc51.1; omega); intro v294 w65 ho hb hg hat; rw [<- Ny293.1] at ho; have n0_ := Aside0.mk (R_grown2 (PR HO_3.1) rfl hg (fun k_ e_ => (HL292_0.1.1 k_ e_).1)); have n1_ := Aside0.mk (bG BK265.1 hg (R_ne HL292_0.1 BK265.1 (by decide))); have n2_ := Aside0.mk (bG BK269.1 hg (map_ne HL292_0.1 BK269.1 HM269.1)); have n3_ := Aside0.mk (bG BK274.1 hg (R_ne HL292_0.1 BK274.1 (by decide))); have n5_ := Aside0.mk (hb); have n6_ := Aside0.mk (H_grown (H_widen (by repeat (first | exact HH64.1 | refine H_alloc ?_ _ | refine H_drewN ?_ _ | refine H_drew ?_))) hg (fun k_ e_ => .inl (UU64.1.1 k_ e_))); have n7_ := Aside0.mk (ho); clear HO_3; clear BK265; clear BK269; clear BK274; clear HB; clear HH64; clear HO291; clear UU64; clear HL292_0; have HO_3 := n0_; have BK265 := n1_; have BK269 := n2_; have BK274 := n3_; have HB := n5_; have HH64 := n6_; have HO295 := n7_; clear n0_ n1_ n2_ n3_ n5_ n6_ n7_; clear ho hb hg hat; have p52 : 0 <= ((x5_1.length : Int) : Int) := OD; have q52 : ((x5_1.length : Int) : Int) < ((y289.length : Int) : Int) := OD; replace p52 := eq_true p52; replace q52 := eq_true q52; obtain ⟨Ao68, co68, eo68⟩ := R_slice HO295.1; subst eo68; obtain ⟨_, _, hraw66, _, _, hcc66, _⟩ := H_raw HH64.1 (OD) (by have h_ : ((x5_1.length : Int) : Int) < ((y289.length : Int) : Int) := OD; first | exact h_ | (have e_ := (HN64.1); omega) | simpa using h_); obtain ⟨_, hfr66⟩ := H_at HH64.1 (OD) (by have h_ : ((x5_1.length : Int) : Int) < ((y289.length : Int) : Int) := OD; first | exact h_ | (have e_ := (HN64.1); omega) | simpa using h_); have hx66_0 := hcc66 0 _ rfl; have hf66_0 := hfr66 0; (try simp only [Nat.add_zero] at hx66_0 hf66_0); (try rw [show ((Kd.slice 3 (Kd.int .i64))).sz = 1 from rfl, Nat.mul_one] at hx66_0); (try rw [show ((Kd.slice 3 (Kd.int .i64))).sz = 1 from rfl, Nat.mul_one] at hf66_0); (try simp only [Go.IntWalk.toNatUp] at hx66_0 hf66_0); have HP66 := S_seg0 HH64.1 (OD) (by have h_ : ((x5_1.length : Int) : Int) < ((y289.length : Int) : Int) := OD; first | exact h_ | (have e_ := (HN64.1); omega) | simpa using h_) (seg := [.slice Ao68 y293.length co68]) (j := 0) (show 1 <= 1 from by decide) (x' := y293) (M_row HO295.1) (fun _ hk => hk); (try simp only [show ((Kd.slice 3 (Kd.int .i64))).sz = 1 from rfl, Nat.mul_one, Nat.add_zero] at HP66); clear hcc66 hfr66) | ((with_reducible refine gate_store (t := 43) (p := 64) rfl ?_); refine storeE (t := 43) (p := 64) (w1 := (w65.setCell ⟨go64, ((x5_1.length : Int) : Int).toNat, none⟩ (.slice Ao68 y293.length co68))) ?_; intro w67 hw; have hg : w65.grownBy w67 (some go64) := (by rw [hw]; exact HP66.2); have hp_ : Kd.S (Kd.slice 3 (Kd.int .i64)) 43 w67 w.heap.size (fun k_ => some k_ ≠ (.slice (some ad281) t266.length co57 : Value).ownBlock) (.slice (some ⟨go64, 0, none⟩) y289.length co63) y296 := (by rw [hw, Ny296.1]; exact HP66.1); clear HP66; have n0_ := Aside0.mk (R_over' (v := (.slice (some ⟨go64, 0, none⟩) y289.length co63)) (PR HO_3.1) (R_typed hraw66) (by decide) hg); have n1_ := Aside0.mk (bG BK265.1 hg (R_ne hraw66 BK265.1 (by decide))); have n2_ := Aside0.mk (bG BK269.1 hg (map_ne hraw66 BK269.1 HM269.1)); have n3_ := Aside0.mk (bG BK274.1 hg (R_ne hraw66 BK274.1 (by decide))); have n5_ := Aside0.mk ((by rw [hw]; exact below_set HB.1 GB64.1 : Below w.heap.size w w67)); have n6_ := Aside0.mk (hp_); clear HO_3; clear BK265; clear BK269; clear BK274; clear HB; clear HO295; clear HH64; have HO_3 := n0_; have BK265 := n1_; have BK269 := n2_; have BK274 := n3_; have HB := n5_; have HO291 := n6_; clear n0_ n1_ n2_ n3_ n5_ n6_; clear hg hw hp_ hraw66))
     go_roundg k1
     case measure => have := HK1.1; omega
     case rel => exact ⟨(y296), (wrap64 (x17_1 + 1)), (((rd t266 x17_1), (x5_1.length : Int)) :: xm_1), (_), RG, H', ⟨by have := HK1.1; omega⟩, ⟨PR HO_3.1⟩, ⟨PS HO291.1⟩, ⟨PB BK265.1⟩, ⟨PB BK269.1⟩, HM269, ⟨BL HB.1⟩⟩
   have c26b0 := beq_eq_false_iff_ne.mpr c26
   have c26b1 := bne_iff_ne.mpr c26
   have H' := Aside0.mk H
   clear H
   have p273 : 0 <= (x17_1 : Int) := OD
   have q273 : x17_1 < (l0_2.length : Int) := OD
   obtain ⟨ad273, e273, hx273_0, hx273_1⟩ := at_T49 HR0_2.1 x17_1 p273 q273
   cases e273
   replace hx273_0 := (HB.1.cell (World.block_lt_of_cell? w _ hx273_0)).trans hx273_0
   replace hx273_1 := (HB.1.cell (World.block_lt_of_cell? w _ hx273_1)).trans hx273_1
   replace p273 := eq_true p273
   replace q273 := eq_true q273
   go_wp2_with (first | ((with_reducible refine gate_dst (N := 7) rfl ?_); refine boxE (cs := #[.int .i64 0, .int .i64 0]) (t := 49) ?_; intro gb274 hg w69 hbox hb; refine E12 (rB HO_3.1 hb) (sB HO_5.1 hb) (bB BK265.1 hb) (bB BK269.1 hb) (bS HB.1 hb) (hbox) (gX HB.1 hg) (gX HB.1 hg) (nB BK265.1 hg) (nC BK265.1 hg) (nB BK269.1 hg) (nC BK269.1 hg) ?_; clear HO_3 HO_5 BK265 BK269 HB; intro HO_3 HO_5 BK265 BK269 HB BK274 GW274 GE274 NB265_274 NB274_265 NB269_274 NB274_269; clear hb hbox hg; have hnb70 := NB274_265.1; have hnc70 := NB265_274.1; have hnb71 := NB274_269.1; have hnc71 := NB269_274.1; obtain ⟨hcz72_0, hcz72_1, hfz72_0, hfz72_1⟩ := cz2 BK274.1) | ((with_reducible refine gate_dst (N := 39) rfl ?_); refine look_event (b := gb269) (om := om_1) (mm := xm_1) rfl (.tmp 34) (.tmp 38) 55 3 rfl Try.underlying55 Try.underlying3 ?hz (by first | exact BK269.1 | (refine obj_far ?_ NB269_274.1 _; refine obj_far ?_ NB269_274.1 _; exact BK269.1)) HM269.1 ?hm (rd t266 x17_1) ?hx HKY.1 ?_; (case hz => exact impl_unitsOf.zero3 _); (case hm => rfl); (case hx => first | rfl | (go_simp; done) | (go_simp; rfl))))
   go_roundg k1
   case measure => have := HK1.1; omega
   case rel => exact ⟨(x5_1), (wrap64 (x17_1 + 1)), (xm_1), (om_1), RG, H', ⟨by have := HK1.1; omega⟩, ⟨by (with_reducible repeat (first | apply R_alloc | apply R_drewN | apply R_drew)); exact R_mono (RQ gb274 1 (RQ gb274 0 (R_types HO_3.1 BK274.1 (by decide)) _) _) (fun _ hk => trivial)⟩, ⟨by (with_reducible repeat (first | apply S_alloc | apply S_drewN | apply S_drew)); exact S_mono (SQ gb274 1 (SQ gb274 0 (S_types HO_5.1 BK274.1 (by decide)) _) _) (fun _ hk => hk.1)⟩, ⟨by (with_reducible repeat (first | refine blk_drewN ?_ _ | refine blk_drew ?_ | refine blk_alloc ?_ _)); refine blk_far ?_ NB265_274.1 _; (with_reducible repeat (first | refine blk_drewN ?_ _ | refine blk_drew ?_ | refine blk_alloc ?_ _)); refine blk_far ?_ NB265_274.1 _; (with_reducible repeat (first | refine blk_drewN ?_ _ | refine blk_drew ?_ | refine blk_alloc ?_ _)); exact BK265.1⟩, ⟨by (with_reducible repeat (first | refine blk_drewN ?_ _ | refine blk_drew ?_ | refine blk_alloc ?_ _)); refine obj_far ?_ NB269_274.1 _; (with_reducible repeat (first | refine blk_drewN ?_ _ | refine blk_drew ?_ | refine blk_alloc ?_ _)); refine obj_far ?_ NB269_274.1 _; (with_reducible repeat (first | refine blk_drewN ?_ _ | refine blk_drew ?_ | refine blk_alloc ?_ _)); exact BK269.1⟩, HM269, ⟨BL HB.1⟩⟩
 obtain rfl := Option.some.inj H
 go_wp2
 go_ret
 exact ⟨_, RF, SPE (S_mono HO_5.1 (fun _ hk => trivial)), BL HB.1⟩
/-! ### impl_UnitsOf: function 7 -/
open Kd
def impl_UnitsOf.f (k : Nat) (a0_0 : Int) (a0_1 : Int) (l0_2 : List (S49)) : Option ((List (List Int)) × Bool) := (impl_IsBoard.f k a0_0 a0_1 l0_2).bind fun t298 => (if t298 = true then ((impl_unitsOf.f k a0_0 a0_1 l0_2).bind fun t299 => (some (t299, true))) else (some (([] : List (List Int)), false)))
theorem impl_UnitsOf.mono : ∀ a0 a1 a2 k, LeO (impl_UnitsOf.f k a0 a1 a2) (impl_UnitsOf.f (k + 1) a0 a1 a2) := by
 intro a0 a1 a2 k
 unfold impl_UnitsOf.f
 repeat' first
  | (with_reducible exact impl_IsBoard.mono _ _ _ _)
  | (with_reducible exact impl_unitsOf.mono _ _ _ _)
  | (with_reducible exact LeO.refl _)
  | (with_reducible exact LeO.none _)
  | (with_reducible refine LeO.ite ?_ ?_)
  | (with_reducible refine LeO.bind ?_ (fun _ => ?_))
  | exact impl_IsBoard.mono _ _ _ _
  | exact impl_unitsOf.mono _ _ _ _
  | exact LeO.none _
  | refine LeO.ite ?_ ?_
  | refine LeO.bind ?_ (fun _ => ?_)
theorem impl_UnitsOf.calls (k : Nat) (a0_0 : Int) (a0_1 : Int) (A0_2 : Option Addr) (c0_2 : Nat) (l0_2 : List (S49)) (r1 : List (List Int)) (r2 : Bool) (w : World) (hr0_2 : Kd.C k49 w A0_2 l0_2.length l0_2) (hc0_2 : l0_2.length <= c0_2) (h : impl_UnitsOf.f k a0_0 a0_1 l0_2 = some (r1, r2)) :
 Calls Try.prog 7 #[.agg #[.int .i64 a0_0, .int .i64 a0_1, .slice A0_2 l0_2.length c0_2]] w fun e w' => ∃ v0_ : Value, e = .returned (.tuple #[v0_, .bool r2]) /\ Kd.S (Kd.slice 3 (Kd.int .i64)) 43 w' w.heap.size (fun _ => True) v0_ r1 /\ Below w.heap.size w w' := by
 have hu31 := Try.underlying31
 have HR0_2 := Aside0.mk hr0_2
 have HC0_2 := Aside0.mk hc0_2
 clear hr0_2 hc0_2
 have HB := Aside0.mk (Below.refl w.heap.size w)
 have H := h
 clear h
 unfold impl_UnitsOf.f at H
 replace H := bindA H; obtain ⟨t298, A2, H⟩ := H
 replace H := ifX H; rcases H with ⟨rfl, H⟩ | ⟨rfl, H⟩
 · replace H := bindA H; obtain ⟨t299, A4, H⟩ := H
   simp only [Option.some.injEq, Prod.mk.injEq] at H
   obtain ⟨rfl, rfl⟩ := H
   go_enter Try.func7, Try.ntmps7
   go_wp2_with (first | ((with_reducible refine gate_dst (N := 1) rfl ?_); refine boxE (cs := #[.int .i64 a0_0, .int .i64 a0_1, .slice A0_2 l0_2.length c0_2]) (t := 31) ?_; intro gb297 hg w5 hbox hb; refine E4b HB.1 hg hbox hb ?_; clear HB; intro HB BK297 GW297 GE297; clear hb hbox hg; obtain ⟨hcz6_0, hcz6_1, hcz6_2, hfz6_0, hfz6_1, hfz6_2⟩ := cz3 BK297.1) | ((with_reducible refine gate_callee (f := 17) rfl ?_); refine goesM (N := (some 5)) #[.agg #[.int .i64 a0_0, .int .i64 a0_1, .slice A0_2 l0_2.length c0_2]] Try.func17 ?_; (with_reducible refine (impl_IsBoard.calls k a0_0 a0_1 _ _ l0_2 true _ ?side1 ?side2 A2.1).mono ?_); (case side1 => exact CB (C_below HR0_2.1 HB.1)); (case side2 => exact HC0_2.1); rintro e w7 ⟨rfl, hb⟩; refine ⟨_, rfl, ?_⟩; refine E2 (bB BK297.1 hb) (bS HB.1 hb) ?_; clear BK297 HB; intro BK297 HB; (try clear hb); obtain ⟨hcz8_0, hcz8_1, hcz8_2, hfz8_0, hfz8_1, hfz8_2⟩ := cz3 BK297.1) | ((with_reducible refine gate_callee (f := 18) rfl ?_); refine goesM (N := (some 8)) #[.agg #[.int .i64 a0_0, .int .i64 a0_1, .slice A0_2 l0_2.length c0_2]] Try.func18 ?_; (with_reducible refine (impl_unitsOf.calls k a0_0 a0_1 _ _ l0_2 t299 _ ?side1 ?side2 A4.1).mono ?_); (case side1 => exact CB (C_below HR0_2.1 HB.1)); (case side2 => exact HC0_2.1); rintro e w9 ⟨v300, rfl, ho0, hb⟩; refine ⟨_, rfl, ?_⟩; refine E3 (S_lower ho0 (bZ HB.1)) (bB BK297.1 hb) (bS HB.1 hb) ?_; clear BK297 HB; intro HO301 BK297 HB; (try clear hb); (try clear ho0)))
   go_ret2
   exact ⟨_, RF, SPE (HO301.1), BL HB.1⟩
 simp only [Option.some.injEq, Prod.mk.injEq] at H
 obtain ⟨rfl, rfl⟩ := H
 go_enter Try.func7, Try.ntmps7
 go_wp2_with (first | ((with_reducible refine gate_dst (N := 1) rfl ?_); refine boxE (cs := #[.int .i64 a0_0, .int .i64 a0_1, .slice A0_2 l0_2.length c0_2]) (t := 31) ?_; intro gb297 hg w10 hbox hb; refine E4b HB.1 hg hbox hb ?_; clear HB; intro HB BK297 GW297 GE297; clear hb hbox hg; obtain ⟨hcz11_0, hcz11_1, hcz11_2, hfz11_0, hfz11_1, hfz11_2⟩ := cz3 BK297.1) | ((with_reducible refine gate_callee (f := 17) rfl ?_); refine goesM (N := (some 5)) #[.agg #[.int .i64 a0_0, .int .i64 a0_1, .slice A0_2 l0_2.length c0_2]] Try.func17 ?_; (with_reducible refine (impl_IsBoard.calls k a0_0 a0_1 _ _ l0_2 false _ ?side1 ?side2 A2.1).mono ?_); (case side1 => exact CB (C_below HR0_2.1 HB.1)); (case side2 => exact HC0_2.1); rintro e w12 ⟨rfl, hb⟩; refine ⟨_, rfl, ?_⟩; refine E2 (bB BK297.1 hb) (bS HB.1 hb) ?_; clear BK297 HB; intro BK297 HB; (try clear hb)))
 go_ret2
 exact ⟨_, RF, by first | exact S_nil _ _ _ _ _ | exact N_nil _ _ _ _ _ | exact V_nil _ _ _ _ _ | exact Q_nil _ _ _ _ _ | exact R_nil _ _ _ _ _, BL HB.1⟩

/-! ### laws_eqIntS: function 19 -/
open Kd
def laws_eqIntS.l0 : Nat -> List Int -> List Int -> Int -> Option (Bool)
 | 0, _, _, _ => none
 | k + 1, x0, x1, x5 => if x5 < (x0.length : Int) then (if 0 <= x5 then (if x5 < (x1.length : Int) then (if (rd x0 x5) = (rd x1 x5) then (laws_eqIntS.l0 k x0 x1 (wrap64 (x5 + 1))) else (some false)) else (none)) else (none)) else (some true)
def laws_eqIntS.f (k : Nat) (l0 : List Int) (l1 : List Int) : Option (Bool) := if (l0.length : Int) = (l1.length : Int) then (laws_eqIntS.l0 k l0 l1 0) else (some false)
theorem laws_eqIntS.mono_l : ∀ k, (∀ y0 y1 y2, LeO (laws_eqIntS.l0 k y0 y1 y2) (laws_eqIntS.l0 (k + 1) y0 y1 y2))
 | 0 => fun _ _ _ r h => by simp [laws_eqIntS.l0] at h
 | k + 1 => by
  have ih0 := laws_eqIntS.mono_l k
  intros
  first | unfold laws_eqIntS.l0
  exact LM1 ih0
theorem laws_eqIntS.mono : ∀ a0 a1 k, LeO (laws_eqIntS.f k a0 a1) (laws_eqIntS.f (k + 1) a0 a1) := by
 intro a0 a1 k
 have ih0 := laws_eqIntS.mono_l k
 unfold laws_eqIntS.f
 exact LM1 ih0
theorem laws_eqIntS.calls (k : Nat) (A0 : Option Addr) (c0 : Nat) (l0 : List Int) (A1 : Option Addr) (c1 : Nat) (l1 : List Int) (r : Bool) (w : World) (hr0 : Kd.C (Kd.int .i64) w A0 l0.length l0) (hc0 : l0.length <= c0) (hr1 : Kd.C (Kd.int .i64) w A1 l1.length l1) (hc1 : l1.length <= c1) (h : laws_eqIntS.f k l0 l1 = some r) :
 Calls Try.prog 19 #[.slice A0 l0.length c0, .slice A1 l1.length c1] w fun e w' => e = .returned (.bool r) /\ Drawn0 w w' := by
 have HR0 := Aside0.mk hr0
 have HC0 := Aside0.mk hc0
 clear hr0 hc0
 have HR1 := Aside0.mk hr1
 have HC1 := Aside0.mk hc1
 clear hr1 hc1
 have H := h
 clear h
 unfold laws_eqIntS.f at H
 replace H := ifQ H; rcases H with ⟨c3, H⟩ | ⟨c3, H⟩
 · have c3b0 := beq_iff_eq.mpr c3
   have c3b1 := bne_eq_false_iff_eq.mpr c3
   have c3b2 : (l0.length == l1.length) = true := by first | simpa using c3 | (simp at c3 ⊢; omega)
   clear c3
   have H' := Aside0.mk H
   clear H
   go_enter Try.func19, Try.ntmps19
   go_wp2
   repeat (go_quiet (fail); try go_wp2)
   go_loopg [5] k (fun kq v5 w' => ∃ (x5_1 : Int), v5 = .int .i64 x5_1 /\ Aside0 (laws_eqIntS.l0 kq l0 l1 x5_1 = some r) /\ Aside0 (kq <= k) /\ Drawn0 w w')
   case atStart => exact ⟨(0), RG, H', ⟨Nat.le_refl _⟩, DR⟩
   clear H'
   try clear c1; clear c3b0 c3b1 c3b2
   obtain ⟨x5_1, rfl, HA, HK1, ⟨m1, rfl⟩⟩ := hrel
   cases gk with
   | zero => exact absurd HA.1 (by simp [laws_eqIntS.l0])
   | succ k1 => ?_
   have H := HA.1
   clear HA
   simp only [laws_eqIntS.l0] at H
   replace H := ifB H; rcases H with ⟨c4b0, H⟩ | ⟨c4b0, H⟩
   · replace H := ifN H; obtain ⟨c5b0, H⟩ := H
     replace H := ifN H; obtain ⟨c6b0, H⟩ := H
     replace H := ifQ H; rcases H with ⟨c7, H⟩ | ⟨c7, H⟩
     · have c7b0 := beq_iff_eq.mpr c7
       have c7b1 := bne_eq_false_iff_eq.mpr c7
       clear c7
       have H' := Aside0.mk H
       clear H
       have p302 : 0 <= (x5_1 : Int) := OD
       have q302 : x5_1 < (l0.length : Int) := OD
       obtain ⟨ad302, e302, hx302_0⟩ := Kd.at_int HR0.1 x5_1 p302 q302
       cases e302
       replace p302 := eq_true p302
       replace q302 := eq_true q302
       have p303 : 0 <= (x5_1 : Int) := OD
       have q303 : x5_1 < (l1.length : Int) := OD
       obtain ⟨ad303, e303, hx303_0⟩ := Kd.at_int HR1.1 x5_1 p303 q303
       cases e303
       replace p303 := eq_true p303
       replace q303 := eq_true q303
       go_wp2
       repeat (go_quiet (fail); try go_wp2)
       go_roundg k1
       case measure => have := HK1.1; omega
       case rel => exact ⟨(wrap64 (x5_1 + 1)), RG, H', ⟨by have := HK1.1; omega⟩, DR⟩
     have c7b0 := beq_eq_false_iff_ne.mpr c7
     have c7b1 := bne_iff_ne.mpr c7
     obtain rfl := Option.some.inj H
     have p302 : 0 <= (x5_1 : Int) := OD
     have q302 : x5_1 < (l0.length : Int) := OD
     obtain ⟨ad302, e302, hx302_0⟩ := Kd.at_int HR0.1 x5_1 p302 q302
     cases e302
     replace p302 := eq_true p302
     replace q302 := eq_true q302
     have p303 : 0 <= (x5_1 : Int) := OD
     have q303 : x5_1 < (l1.length : Int) := OD
     obtain ⟨ad303, e303, hx303_0⟩ := Kd.at_int HR1.1 x5_1 p303 q303
     cases e303
     replace p303 := eq_true p303
     replace q303 := eq_true q303
     go_wp2
     repeat (go_quiet (fail); try go_wp2)
     go_ret
     exact ⟨RG, DR⟩
   obtain rfl := Option.some.inj H
   go_wp2
   repeat (go_quiet (fail); try go_wp2)
   go_ret
   exact ⟨RG, DR⟩
 have c3b0 := beq_eq_false_iff_ne.mpr c3
 have c3b1 := bne_iff_ne.mpr c3
 have c3b2 : (l0.length == l1.length) = false := by first | simpa using c3 | (simp at c3 ⊢; omega)
 obtain rfl := Option.some.inj H
 go_enter Try.func19, Try.ntmps19
 go_wp2
 repeat (go_quiet (fail); try go_wp2)
 go_ret
 exact ⟨RG, DR⟩
/-! ### laws_eqIntSS: function 8 -/
open Kd
def laws_eqIntSS.l0 : Nat -> List (List Int) -> List (List Int) -> Int -> Option (Bool)
 | 0, _, _, _ => none
 | k + 1, x0, x1, x5 => if x5 < (x0.length : Int) then (if 0 <= x5 then (if x5 < (x1.length : Int) then ((laws_eqIntS.f k (rd_L3 x0 x5) (rd_L3 x1 x5)).bind fun t306 => (if t306 = true then (laws_eqIntSS.l0 k x0 x1 (wrap64 (x5 + 1))) else (some false))) else (none)) else (none)) else (some true)
def laws_eqIntSS.f (k : Nat) (l0 : List (List Int)) (l1 : List (List Int)) : Option (Bool) := if (l0.length : Int) = (l1.length : Int) then (laws_eqIntSS.l0 k l0 l1 0) else (some false)
theorem laws_eqIntSS.mono_l : ∀ k, (∀ y0 y1 y2, LeO (laws_eqIntSS.l0 k y0 y1 y2) (laws_eqIntSS.l0 (k + 1) y0 y1 y2))
 | 0 => fun _ _ _ r h => by simp [laws_eqIntSS.l0] at h
 | k + 1 => by
  have ih0 := laws_eqIntSS.mono_l k
  intros
  first | unfold laws_eqIntSS.l0
  exact LM2 ih0 laws_eqIntS.mono
theorem laws_eqIntSS.mono : ∀ a0 a1 k, LeO (laws_eqIntSS.f k a0 a1) (laws_eqIntSS.f (k + 1) a0 a1) := by
 intro a0 a1 k
 have ih0 := laws_eqIntSS.mono_l k
 unfold laws_eqIntSS.f
 exact LM2 ih0 laws_eqIntS.mono
theorem laws_eqIntSS.calls (k : Nat) (A0 : Option Addr) (c0 : Nat) (l0 : List (List Int)) (A1 : Option Addr) (c1 : Nat) (l1 : List (List Int)) (r : Bool) (w : World) (hr0 : Kd.C (Kd.slice 3 (Kd.int .i64)) w A0 l0.length l0) (hc0 : l0.length <= c0) (hr1 : Kd.C (Kd.slice 3 (Kd.int .i64)) w A1 l1.length l1) (hc1 : l1.length <= c1) (h : laws_eqIntSS.f k l0 l1 = some r) :
 Calls Try.prog 8 #[.slice A0 l0.length c0, .slice A1 l1.length c1] w fun e w' => e = .returned (.bool r) /\ Drawn0 w w' := by
 have HR0 := Aside0.mk hr0
 have HC0 := Aside0.mk hc0
 clear hr0 hc0
 have HR1 := Aside0.mk hr1
 have HC1 := Aside0.mk hc1
 clear hr1 hc1
 have H := h
 clear h
 unfold laws_eqIntSS.f at H
 replace H := ifQ H; rcases H with ⟨c3, H⟩ | ⟨c3, H⟩
 · have c3b0 := beq_iff_eq.mpr c3
   have c3b1 := bne_eq_false_iff_eq.mpr c3
   have c3b2 : (l0.length == l1.length) = true := by first | simpa using c3 | (simp at c3 ⊢; omega)
   clear c3
   have H' := Aside0.mk H
   clear H
   go_enter Try.func8, Try.ntmps8
   go_wp2
   repeat (go_quiet (fail); try go_wp2)
   go_loopg [5] k (fun kq v5 w' => ∃ (x5_1 : Int), v5 = .int .i64 x5_1 /\ Aside0 (laws_eqIntSS.l0 kq l0 l1 x5_1 = some r) /\ Aside0 (kq <= k) /\ Drawn0 w w')
   case atStart => exact ⟨(0), RG, H', ⟨Nat.le_refl _⟩, DR⟩
   clear H'
   try clear c1; clear c3b0 c3b1 c3b2
   obtain ⟨x5_1, rfl, HA, HK1, ⟨m1, rfl⟩⟩ := hrel
   cases gk with
   | zero => exact absurd HA.1 (by simp [laws_eqIntSS.l0])
   | succ k1 => ?_
   have H := HA.1
   clear HA
   simp only [laws_eqIntSS.l0] at H
   replace H := ifB H; rcases H with ⟨c4b0, H⟩ | ⟨c4b0, H⟩
   · replace H := ifN H; obtain ⟨c5b0, H⟩ := H
     replace H := ifN H; obtain ⟨c6b0, H⟩ := H
     replace H := bindA H; obtain ⟨t306, A7, H⟩ := H
     replace H := ifX H; rcases H with ⟨rfl, H⟩ | ⟨rfl, H⟩
     · have H' := Aside0.mk H
       clear H
       have p304 : 0 <= (x5_1 : Int) := OD
       have q304 : x5_1 < (l0.length : Int) := OD
       obtain ⟨ad304, A304_0, c304_0, e304, hx304_0, hl304_0, hi304_0⟩ := at_L3 HR0.1 x5_1 p304 q304
       cases e304
       have HR304_0 := Aside0.mk hi304_0
       have HC304_0 := Aside0.mk hl304_0
       clear hi304_0 hl304_0
       replace p304 := eq_true p304
       replace q304 := eq_true q304
       have p305 : 0 <= (x5_1 : Int) := OD
       have q305 : x5_1 < (l1.length : Int) := OD
       obtain ⟨ad305, A305_0, c305_0, e305, hx305_0, hl305_0, hi305_0⟩ := at_L3 HR1.1 x5_1 p305 q305
       cases e305
       have HR305_0 := Aside0.mk hi305_0
       have HC305_0 := Aside0.mk hl305_0
       clear hi305_0 hl305_0
       replace p305 := eq_true p305
       replace q305 := eq_true q305
       go_wp2_with (first | (go_at_call 19; (with_reducible refine (laws_eqIntS.calls k1 _ _ (rd_L3 l0 x5_1) _ _ (rd_L3 l1 x5_1) true _ ?side1 ?side2 ?side3 ?side4 A7.1).mono ?_); (case side1 => repeat (first | exact HR304_0.1 | (with_reducible refine C_alloc ?_ _) | (with_reducible refine C_drewN ?_ _) | (with_reducible refine C_drew ?_))); (case side2 => exact HC304_0.1); (case side3 => repeat (first | exact HR305_0.1 | (with_reducible refine C_alloc ?_ _) | (with_reducible refine C_drewN ?_ _) | (with_reducible refine C_drew ?_))); (case side4 => exact HC305_0.1); rintro e w' ⟨rfl, ⟨nd, rfl⟩⟩; (try first | exact ⟨rfl, _, World.drewN_drewN _ _ _⟩ | exact ⟨rfl, _, Eq.trans (World.drewN_drewN _ _ _) (congrArg (World.drewN _) (Nat.add_assoc _ _ _))⟩)))
       repeat (go_quiet (first | (go_at_call 19; (with_reducible refine (laws_eqIntS.calls k1 _ _ (rd_L3 l0 x5_1) _ _ (rd_L3 l1 x5_1) true _ ?side1 ?side2 ?side3 ?side4 A7.1).mono ?_); (case side1 => repeat (first | exact HR304_0.1 | (with_reducible refine C_alloc ?_ _) | (with_reducible refine C_drewN ?_ _) | (with_reducible refine C_drew ?_))); (case side2 => exact HC304_0.1); (case side3 => repeat (first | exact HR305_0.1 | (with_reducible refine C_alloc ?_ _) | (with_reducible refine C_drewN ?_ _) | (with_reducible refine C_drew ?_))); (case side4 => exact HC305_0.1); rintro e w' ⟨rfl, ⟨nd, rfl⟩⟩; (try first | exact ⟨rfl, _, World.drewN_drewN _ _ _⟩ | exact ⟨rfl, _, Eq.trans (World.drewN_drewN _ _ _) (congrArg (World.drewN _) (Nat.add_assoc _ _ _))⟩))); try go_wp2_with (first | (go_at_call 19; (with_reducible refine (laws_eqIntS.calls k1 _ _ (rd_L3 l0 x5_1) _ _ (rd_L3 l1 x5_1) true _ ?side1 ?side2 ?side3 ?side4 A7.1).mono ?_); (case side1 => repeat (first | exact HR304_0.1 | (with_reducible refine C_alloc ?_ _) | (with_reducible refine C_drewN ?_ _) | (with_reducible refine C_drew ?_))); (case side2 => exact HC304_0.1); (case side3 => repeat (first | exact HR305_0.1 | (with_reducible refine C_alloc ?_ _) | (with_reducible refine C_drewN ?_ _) | (with_reducible refine C_drew ?_))); (case side4 => exact HC305_0.1); rintro e w' ⟨rfl, ⟨nd, rfl⟩⟩; (try first | exact ⟨rfl, _, World.drewN_drewN _ _ _⟩ | exact ⟨rfl, _, Eq.trans (World.drewN_drewN _ _ _) (congrArg (World.drewN _) (Nat.add_assoc _ _ _))⟩))))
       go_roundg k1
       case measure => have := HK1.1; omega
       case rel => exact ⟨(wrap64 (x5_1 + 1)), RG, H', ⟨by have := HK1.1; omega⟩, DR⟩
     obtain rfl := Option.some.inj H
     have p304 : 0 <= (x5_1 : Int) := OD
     have q304 : x5_1 < (l0.length : Int) := OD
     obtain ⟨ad304, A304_0, c304_0, e304, hx304_0, hl304_0, hi304_0⟩ := at_L3 HR0.1 x5_1 p304 q304
     cases e304
     have HR304_0 := Aside0.mk hi304_0
     have HC304_0 := Aside0.mk hl304_0
     clear hi304_0 hl304_0
     replace p304 := eq_true p304
     replace q304 := eq_true q304
     have p305 : 0 <= (x5_1 : Int) := OD
     have q305 : x5_1 < (l1.length : Int) := OD
     obtain ⟨ad305, A305_0, c305_0, e305, hx305_0, hl305_0, hi305_0⟩ := at_L3 HR1.1 x5_1 p305 q305
     cases e305
     have HR305_0 := Aside0.mk hi305_0
     have HC305_0 := Aside0.mk hl305_0
     clear hi305_0 hl305_0
     replace p305 := eq_true p305
     replace q305 := eq_true q305
     go_wp2_with (first | (go_at_call 19; (with_reducible refine (laws_eqIntS.calls k1 _ _ (rd_L3 l0 x5_1) _ _ (rd_L3 l1 x5_1) false _ ?side1 ?side2 ?side3 ?side4 A7.1).mono ?_); (case side1 => repeat (first | exact HR304_0.1 | (with_reducible refine C_alloc ?_ _) | (with_reducible refine C_drewN ?_ _) | (with_reducible refine C_drew ?_))); (case side2 => exact HC304_0.1); (case side3 => repeat (first | exact HR305_0.1 | (with_reducible refine C_alloc ?_ _) | (with_reducible refine C_drewN ?_ _) | (with_reducible refine C_drew ?_))); (case side4 => exact HC305_0.1); rintro e w' ⟨rfl, ⟨nd, rfl⟩⟩; (try first | exact ⟨rfl, _, World.drewN_drewN _ _ _⟩ | exact ⟨rfl, _, Eq.trans (World.drewN_drewN _ _ _) (congrArg (World.drewN _) (Nat.add_assoc _ _ _))⟩)))
     repeat (go_quiet (first | (go_at_call 19; (with_reducible refine (laws_eqIntS.calls k1 _ _ (rd_L3 l0 x5_1) _ _ (rd_L3 l1 x5_1) false _ ?side1 ?side2 ?side3 ?side4 A7.1).mono ?_); (case side1 => repeat (first | exact HR304_0.1 | (with_reducible refine C_alloc ?_ _) | (with_reducible refine C_drewN ?_ _) | (with_reducible refine C_drew ?_))); (case side2 => exact HC304_0.1); (case side3 => repeat (first | exact HR305_0.1 | (with_reducible refine C_alloc ?_ _) | (with_reducible refine C_drewN ?_ _) | (with_reducible refine C_drew ?_))); (case side4 => exact HC305_0.1); rintro e w' ⟨rfl, ⟨nd, rfl⟩⟩; (try first | exact ⟨rfl, _, World.drewN_drewN _ _ _⟩ | exact ⟨rfl, _, Eq.trans (World.drewN_drewN _ _ _) (congrArg (World.drewN _) (Nat.add_assoc _ _ _))⟩))); try go_wp2_with (first | (go_at_call 19; (with_reducible refine (laws_eqIntS.calls k1 _ _ (rd_L3 l0 x5_1) _ _ (rd_L3 l1 x5_1) false _ ?side1 ?side2 ?side3 ?side4 A7.1).mono ?_); (case side1 => repeat (first | exact HR304_0.1 | (with_reducible refine C_alloc ?_ _) | (with_reducible refine C_drewN ?_ _) | (with_reducible refine C_drew ?_))); (case side2 => exact HC304_0.1); (case side3 => repeat (first | exact HR305_0.1 | (with_reducible refine C_alloc ?_ _) | (with_reducible refine C_drewN ?_ _) | (with_reducible refine C_drew ?_))); (case side4 => exact HC305_0.1); rintro e w' ⟨rfl, ⟨nd, rfl⟩⟩; (try first | exact ⟨rfl, _, World.drewN_drewN _ _ _⟩ | exact ⟨rfl, _, Eq.trans (World.drewN_drewN _ _ _) (congrArg (World.drewN _) (Nat.add_assoc _ _ _))⟩))))
     go_ret
     exact ⟨RG, DR⟩
   obtain rfl := Option.some.inj H
   go_wp2
   repeat (go_quiet (fail); try go_wp2)
   go_ret
   exact ⟨RG, DR⟩
 have c3b0 := beq_eq_false_iff_ne.mpr c3
 have c3b1 := bne_iff_ne.mpr c3
 have c3b2 : (l0.length == l1.length) = false := by first | simpa using c3 | (simp at c3 ⊢; omega)
 obtain rfl := Option.some.inj H
 go_enter Try.func8, Try.ntmps8
 go_wp2
 repeat (go_quiet (fail); try go_wp2)
 go_ret
 exact ⟨RG, DR⟩
/-! ### laws_eqCell: function 30 -/
open Kd
def laws_eqCell.f (a0_0 : Int) (a0_1 : Int) (a1_0 : Int) (a1_1 : Int) : Option (Bool) := if a0_0 = a1_0 then (if a0_1 = a1_1 then (some true) else (some false)) else (some false)
theorem laws_eqCell.calls (a0_0 : Int) (a0_1 : Int) (a1_0 : Int) (a1_1 : Int) (r : Bool) (w : World) (h : laws_eqCell.f a0_0 a0_1 a1_0 a1_1 = some r) :
 Calls Try.prog 30 #[.agg #[.int .i64 a0_0, .int .i64 a0_1], .agg #[.int .i64 a1_0, .int .i64 a1_1]] w fun e w' => e = .returned (.bool r) /\ Below w.heap.size w w' := by
 have hu49 := Try.underlying49
 have HB := Aside0.mk (Below.refl w.heap.size w)
 have H := h
 clear h
 unfold laws_eqCell.f at H
 replace H := ifQ H; rcases H with ⟨c3, H⟩ | ⟨c3, H⟩
 · have c3b0 := beq_iff_eq.mpr c3
   have c3b1 := bne_eq_false_iff_eq.mpr c3
   clear c3
   replace H := ifQ H; rcases H with ⟨c4, H⟩ | ⟨c4, H⟩
   · have c4b0 := beq_iff_eq.mpr c4
     have c4b1 := bne_eq_false_iff_eq.mpr c4
     clear c4
     obtain rfl := Option.some.inj H
     go_enter Try.func30, Try.ntmps30
     go_wp2_with (first | ((with_reducible refine gate_dst (N := 2) rfl ?_); refine boxE (cs := #[.int .i64 a0_0, .int .i64 a0_1]) (t := 49) ?_; intro gb307 hg w5 hbox hb; refine E4b HB.1 hg hbox hb ?_; clear HB; intro HB BK307 GW307 GE307; clear hb hbox hg) | ((with_reducible refine gate_dst (N := 3) rfl ?_); refine boxE (cs := #[.int .i64 a1_0, .int .i64 a1_1]) (t := 49) ?_; intro gb308 hg w6 hbox hb; refine E7 (bB BK307.1 hb) (bS HB.1 hb) (hbox) (gX HB.1 hg) (gX HB.1 hg) (nB BK307.1 hg) (nC BK307.1 hg) ?_; clear BK307 HB; intro BK307 HB BK308 GW308 GE308 NB307_308 NB308_307; clear hb hbox hg; have hnb7 := NB307_308.1; have hnc7 := NB308_307.1; obtain ⟨hcz8_0, hcz8_1, hfz8_0, hfz8_1⟩ := cz2 BK307.1; obtain ⟨hcz9_0, hcz9_1, hfz9_0, hfz9_1⟩ := cz2 BK308.1))
     go_ret
     exact ⟨RF, BL HB.1⟩
   have c4b0 := beq_eq_false_iff_ne.mpr c4
   have c4b1 := bne_iff_ne.mpr c4
   obtain rfl := Option.some.inj H
   go_enter Try.func30, Try.ntmps30
   go_wp2_with (first | ((with_reducible refine gate_dst (N := 2) rfl ?_); refine boxE (cs := #[.int .i64 a0_0, .int .i64 a0_1]) (t := 49) ?_; intro gb307 hg w10 hbox hb; refine E4b HB.1 hg hbox hb ?_; clear HB; intro HB BK307 GW307 GE307; clear hb hbox hg) | ((with_reducible refine gate_dst (N := 3) rfl ?_); refine boxE (cs := #[.int .i64 a1_0, .int .i64 a1_1]) (t := 49) ?_; intro gb308 hg w11 hbox hb; refine E7 (bB BK307.1 hb) (bS HB.1 hb) (hbox) (gX HB.1 hg) (gX HB.1 hg) (nB BK307.1 hg) (nC BK307.1 hg) ?_; clear BK307 HB; intro BK307 HB BK308 GW308 GE308 NB307_308 NB308_307; clear hb hbox hg; have hnb12 := NB307_308.1; have hnc12 := NB308_307.1; obtain ⟨hcz13_0, hcz13_1, hfz13_0, hfz13_1⟩ := cz2 BK307.1; obtain ⟨hcz14_0, hcz14_1, hfz14_0, hfz14_1⟩ := cz2 BK308.1))
   go_ret
   exact ⟨RF, BL HB.1⟩
 have c3b0 := beq_eq_false_iff_ne.mpr c3
 have c3b1 := bne_iff_ne.mpr c3
 obtain rfl := Option.some.inj H
 go_enter Try.func30, Try.ntmps30
 go_wp2_with (first | ((with_reducible refine gate_dst (N := 2) rfl ?_); refine boxE (cs := #[.int .i64 a0_0, .int .i64 a0_1]) (t := 49) ?_; intro gb307 hg w15 hbox hb; refine E4b HB.1 hg hbox hb ?_; clear HB; intro HB BK307 GW307 GE307; clear hb hbox hg) | ((with_reducible refine gate_dst (N := 3) rfl ?_); refine boxE (cs := #[.int .i64 a1_0, .int .i64 a1_1]) (t := 49) ?_; intro gb308 hg w16 hbox hb; refine E7 (bB BK307.1 hb) (bS HB.1 hb) (hbox) (gX HB.1 hg) (gX HB.1 hg) (nB BK307.1 hg) (nC BK307.1 hg) ?_; clear BK307 HB; intro BK307 HB BK308 GW308 GE308 NB307_308 NB308_307; clear hb hbox hg; have hnb17 := NB307_308.1; have hnc17 := NB308_307.1; obtain ⟨hcz18_0, hcz18_1, hfz18_0, hfz18_1⟩ := cz2 BK307.1; obtain ⟨hcz19_0, hcz19_1, hfz19_0, hfz19_1⟩ := cz2 BK308.1))
 go_ret
 exact ⟨RF, BL HB.1⟩
/-! ### laws_eqCellS: function 20 -/
open Kd
def laws_eqCellS.l0 : Nat -> List (S49) -> List (S49) -> Int -> Option (Bool)
 | 0, _, _, _ => none
 | k + 1, x0, x1, x5 => if x5 < (x0.length : Int) then (if 0 <= x5 then (if x5 < (x1.length : Int) then ((laws_eqCell.f ((rd_T49 x0 x5).f0) ((rd_T49 x0 x5).f1) ((rd_T49 x1 x5).f0) ((rd_T49 x1 x5).f1)).bind fun t311 => (if t311 = true then (laws_eqCellS.l0 k x0 x1 (wrap64 (x5 + 1))) else (some false))) else (none)) else (none)) else (some true)
def laws_eqCellS.f (k : Nat) (l0 : List (S49)) (l1 : List (S49)) : Option (Bool) := if (l0.length : Int) = (l1.length : Int) then (laws_eqCellS.l0 k l0 l1 0) else (some false)
theorem laws_eqCellS.mono_l : ∀ k, (∀ y0 y1 y2, LeO (laws_eqCellS.l0 k y0 y1 y2) (laws_eqCellS.l0 (k + 1) y0 y1 y2))
 | 0 => fun _ _ _ r h => by simp [laws_eqCellS.l0] at h
 | k + 1 => by
  have ih0 := laws_eqCellS.mono_l k
  intros
  first | unfold laws_eqCellS.l0
  exact LM1 ih0
theorem laws_eqCellS.mono : ∀ a0 a1 k, LeO (laws_eqCellS.f k a0 a1) (laws_eqCellS.f (k + 1) a0 a1) := by
 intro a0 a1 k
 have ih0 := laws_eqCellS.mono_l k
 unfold laws_eqCellS.f
 exact LM1 ih0
def laws_eqCellS.T6 : Bool × List (List Nat × List Nat) := (true, [([], []), ([], []), ([0, 1], [0, 1]), ([2], [2]), ([], []), ([], []), ([4, 5], [4, 5]), ([6], [6]), ([3, 7], [3, 7]), ([8], [8])])
def laws_eqCellS.B6 : List Nat := [0, 0, 3, 7, 0, 0, 48, 112, 255, 511]
theorem laws_eqCellS.tab6 : rtab .any (opsOf Try.f20 6) = laws_eqCellS.T6 := by kernel_rfl
theorem laws_eqCellS.bits6 : waitsOk laws_eqCellS.T6.2 laws_eqCellS.B6 = true := by kernel_rfl
theorem laws_eqCellS.calls (k : Nat) (A0 : Option Addr) (c0 : Nat) (l0 : List (S49)) (A1 : Option Addr) (c1 : Nat) (l1 : List (S49)) (r : Bool) (w : World) (hr0 : Kd.C k49 w A0 l0.length l0) (hc0 : l0.length <= c0) (hr1 : Kd.C k49 w A1 l1.length l1) (hc1 : l1.length <= c1) (h : laws_eqCellS.f k l0 l1 = some r) :
 Calls Try.prog 20 #[.slice A0 l0.length c0, .slice A1 l1.length c1] w fun e w' => e = .returned (.bool r) /\ Below w.heap.size w w' := by
 have hu49 := Try.underlying49
 have HR0 := Aside0.mk hr0
 have HC0 := Aside0.mk hc0
 clear hr0 hc0
 have HR1 := Aside0.mk hr1
 have HC1 := Aside0.mk hc1
 clear hr1 hc1
 have HB := Aside0.mk (Below.refl w.heap.size w)
 have H := h
 clear h
 unfold laws_eqCellS.f at H
 replace H := ifQ H; rcases H with ⟨c3, H⟩ | ⟨c3, H⟩
 · have c3b0 := beq_iff_eq.mpr c3
   have c3b1 := bne_eq_false_iff_eq.mpr c3
   have c3b2 : (l0.length == l1.length) = true := by first | simpa using c3 | (simp at c3 ⊢; omega)
   clear c3
   have H' := Aside0.mk H
   clear H
   go_enter Try.func20, Try.ntmps20
   go_wp2
   go_loopg [5] k (fun kq v5 w' => ∃ (x5_1 : Int), v5 = .int .i64 x5_1 /\ Aside0 (laws_eqCellS.l0 kq l0 l1 x5_1 = some r) /\ Aside0 (kq <= k) /\ Aside0 (Below w.heap.size w w'))
   case atStart => exact ⟨(0), RG, H', ⟨Nat.le_refl _⟩, ⟨BL HB.1⟩⟩
   clear H'
   try clear c1; clear c3b0 c3b1 c3b2
   obtain ⟨x5_1, rfl, HA, HK1, HB⟩ := hrel
   cases gk with
   | zero => exact absurd HA.1 (by simp [laws_eqCellS.l0])
   | succ k1 => ?_
   have H := HA.1
   clear HA
   simp only [laws_eqCellS.l0] at H
   replace H := ifB H; rcases H with ⟨c4b0, H⟩ | ⟨c4b0, H⟩
   · replace H := ifN H; obtain ⟨c5b0, H⟩ := H
     replace H := ifN H; obtain ⟨c6b0, H⟩ := H
     replace H := bindA H; obtain ⟨t311, A7, H⟩ := H
     replace H := ifX H; rcases H with ⟨rfl, H⟩ | ⟨rfl, H⟩
     · have H' := Aside0.mk H
       clear H
       try go_wp2
       refine E1 (below_drew1 HB.1) ?_
       clear HB
       intro HB
       have p309 : 0 <= (x5_1 : Int) := OD
       have q309 : x5_1 < (l0.length : Int) := OD
       obtain ⟨ad309, e309, hx309_0, hx309_1⟩ := at_T49 HR0.1 x5_1 p309 q309
       have hw309_1 := hx309_1
       have hw309_0 := hx309_0
       cases e309
       replace hx309_0 := (HB.1.cell (World.block_lt_of_cell? w _ hx309_0)).trans hx309_0
       replace hx309_1 := (HB.1.cell (World.block_lt_of_cell? w _ hx309_1)).trans hx309_1
       replace p309 := eq_true p309
       replace q309 := eq_true q309
       have p310 : 0 <= (x5_1 : Int) := OD
       have q310 : x5_1 < (l1.length : Int) := OD
       obtain ⟨ad310, e310, hx310_0, hx310_1⟩ := at_T49 HR1.1 x5_1 p310 q310
       have hw310_1 := hx310_1
       have hw310_0 := hx310_0
       cases e310
       replace hx310_0 := (HB.1.cell (World.block_lt_of_cell? w _ hx310_0)).trans hx310_0
       replace hx310_1 := (HB.1.cell (World.block_lt_of_cell? w _ hx310_1)).trans hx310_1
       replace p310 := eq_true p310
       replace q310 := eq_true q310
       refine start_ (n := 10) (S := fun w' => w'.cell? (ad309.add ((x5_1).toNat * 2)) = some (.int .i64 ((rd_T49 l0 x5_1).f0)) /\ w'.cell? ⟨(ad309.add ((x5_1).toNat * 2)).block, (ad309.add ((x5_1).toNat * 2)).off + 1, none⟩ = some (.int .i64 ((rd_T49 l0 x5_1).f1)) /\ w'.cell? (ad310.add ((x5_1).toNat * 2)) = some (.int .i64 ((rd_T49 l1 x5_1).f0)) /\ w'.cell? ⟨(ad310.add ((x5_1).toNat * 2)).block, (ad310.add ((x5_1).toNat * 2)).off + 1, none⟩ = some (.int .i64 ((rd_T49 l1 x5_1).f1))) (ds := []) #[Zz,Zz,Zz,Zz,Zz,Zz,Zz,Zz,Zz,Zz] (by kernel_rfl) rfl rfl ⟨((HB.1.cell (World.block_lt_of_cell? w _ hw309_0)).trans hw309_0), ((HB.1.cell (World.block_lt_of_cell? w _ hw309_1)).trans hw309_1), ((HB.1.cell (World.block_lt_of_cell? w _ hw310_0)).trans hw310_0), ((HB.1.cell (World.block_lt_of_cell? w _ hw310_1)).trans hw310_1)⟩ (fun hHeld => ?_); refine with_tabW laws_eqCellS.tab6 laws_eqCellS.bits6 (fun HT_ HW_ => ?_)
       generalize wr.drew = w9 at HB hx309_0 hx309_1 hx310_0 hx310_1 hHeld ⊢
       refine pureF 0 (N := some 17) HT_.1 ?_
       refine pureF 1 (N := some 18) HT_.1 ?_
       refine pureF 2 (N := some 19) HT_.1 ?_
       refine pureF 4 (N := some 21) HT_.1 ?_
       refine pureF 5 (N := some 22) HT_.1 ?_
       refine pureF 6 (N := some 23) HT_.1 ?_
       refine takeE 3 (N := some 20) HT_.1 HW_.1 hHeld ?_
       refine takeE 7 (N := some 24) HT_.1 HW_.1 hHeld ?_
       refine one_ (i := 8) (N := some 25) #[Yy,Yy,Yy,Yy,Yy,Yy,Yy,Yy,Yy,Zz] rfl rfl (one_of HT_.1 (by kernel_rfl)) (by decide) (fun K hK => ?_)
       refine goes_ Try.func30 (by kernel_rfl) rfl #[.agg #[.int .i64 ((rd_T49 l0 x5_1).f0), .int .i64 ((rd_T49 l0 x5_1).f1)], .agg #[.int .i64 ((rd_T49 l1 x5_1).f0), .int .i64 ((rd_T49 l1 x5_1).f1)]] (by rfl) rfl rfl (by (try simp only [List.map_toArray, List.map_cons, List.map_nil]); first | done | rfl | (simp only [List.length_drop, List.length_take]; rfl)) ?_
       with_reducible refine (laws_eqCell.calls ((rd_T49 l0 x5_1).f0) ((rd_T49 l0 x5_1).f1) ((rd_T49 l1 x5_1).f0) ((rd_T49 l1 x5_1).f1) true _ A7.1).mono ?_
       rintro e w10 ⟨rfl, hb⟩
       refine ⟨_, rfl, ?_⟩
       refine E1 (bS HB.1 hb) ?_
       clear HB
       intro HB
       (try clear hb)
       (try clear hb2)
       (try clear hk)
       (try clear hi)
       refine hK.out _ _ ⟨((HB.1.cell (World.block_lt_of_cell? w _ hw309_0)).trans hw309_0), ((HB.1.cell (World.block_lt_of_cell? w _ hw309_1)).trans hw309_1), ((HB.1.cell (World.block_lt_of_cell? w _ hw310_0)).trans hw310_0), ((HB.1.cell (World.block_lt_of_cell? w _ hw310_1)).trans hw310_1)⟩ (fun hHeld => ?_)
       clear hK K
       refine norm_ (a' := ?_) ?_ ?_
       rotate_left
       · show Act.put _ (some 25) _ = _
         simp only [Act.put, List.setIfInBounds_toArray, List.set_cons_zero, List.set_cons_succ, i64_w, i32_w]
         rfl
       refine pureF 9 (N := some 26) HT_.1 ?_
       refine done_ (done_of HT_.1 (by kernel_rfl)) ?_
       try go_wp2
       go_roundg k1
       case measure => have := HK1.1; omega
       case rel => exact ⟨(wrap64 (x5_1 + 1)), RG, H', ⟨by have := HK1.1; omega⟩, ⟨BL HB.1⟩⟩
     obtain rfl := Option.some.inj H
     try go_wp2
     refine E1 (below_drew1 HB.1) ?_
     clear HB
     intro HB
     have p309 : 0 <= (x5_1 : Int) := OD
     have q309 : x5_1 < (l0.length : Int) := OD
     obtain ⟨ad309, e309, hx309_0, hx309_1⟩ := at_T49 HR0.1 x5_1 p309 q309
     have hw309_1 := hx309_1
     have hw309_0 := hx309_0
     cases e309
     replace hx309_0 := (HB.1.cell (World.block_lt_of_cell? w _ hx309_0)).trans hx309_0
     replace hx309_1 := (HB.1.cell (World.block_lt_of_cell? w _ hx309_1)).trans hx309_1
     replace p309 := eq_true p309
     replace q309 := eq_true q309
     have p310 : 0 <= (x5_1 : Int) := OD
     have q310 : x5_1 < (l1.length : Int) := OD
     obtain ⟨ad310, e310, hx310_0, hx310_1⟩ := at_T49 HR1.1 x5_1 p310 q310
     have hw310_1 := hx310_1
     have hw310_0 := hx310_0
     cases e310
     replace hx310_0 := (HB.1.cell (World.block_lt_of_cell? w _ hx310_0)).trans hx310_0
     replace hx310_1 := (HB.1.cell (World.block_lt_of_cell? w _ hx310_1)).trans hx310_1
     replace p310 := eq_true p310
     replace q310 := eq_true q310
     refine start_ (n := 10) (S := fun w' => w'.cell? (ad309.add ((x5_1).toNat * 2)) = some (.int .i64 ((rd_T49 l0 x5_1).f0)) /\ w'.cell? ⟨(ad309.add ((x5_1).toNat * 2)).block, (ad309.add ((x5_1).toNat * 2)).off + 1, none⟩ = some (.int .i64 ((rd_T49 l0 x5_1).f1)) /\ w'.cell? (ad310.add ((x5_1).toNat * 2)) = some (.int .i64 ((rd_T49 l1 x5_1).f0)) /\ w'.cell? ⟨(ad310.add ((x5_1).toNat * 2)).block, (ad310.add ((x5_1).toNat * 2)).off + 1, none⟩ = some (.int .i64 ((rd_T49 l1 x5_1).f1))) (ds := []) #[Zz,Zz,Zz,Zz,Zz,Zz,Zz,Zz,Zz,Zz] (by kernel_rfl) rfl rfl ⟨((HB.1.cell (World.block_lt_of_cell? w _ hw309_0)).trans hw309_0), ((HB.1.cell (World.block_lt_of_cell? w _ hw309_1)).trans hw309_1), ((HB.1.cell (World.block_lt_of_cell? w _ hw310_0)).trans hw310_0), ((HB.1.cell (World.block_lt_of_cell? w _ hw310_1)).trans hw310_1)⟩ (fun hHeld => ?_); refine with_tabW laws_eqCellS.tab6 laws_eqCellS.bits6 (fun HT_ HW_ => ?_)
     generalize wr.drew = w11 at HB hx309_0 hx309_1 hx310_0 hx310_1 hHeld ⊢
     refine pureF 0 (N := some 17) HT_.1 ?_
     refine pureF 1 (N := some 18) HT_.1 ?_
     refine pureF 2 (N := some 19) HT_.1 ?_
     refine pureF 4 (N := some 21) HT_.1 ?_
     refine pureF 5 (N := some 22) HT_.1 ?_
     refine pureF 6 (N := some 23) HT_.1 ?_
     refine takeE 3 (N := some 20) HT_.1 HW_.1 hHeld ?_
     refine takeE 7 (N := some 24) HT_.1 HW_.1 hHeld ?_
     refine one_ (i := 8) (N := some 25) #[Yy,Yy,Yy,Yy,Yy,Yy,Yy,Yy,Yy,Zz] rfl rfl (one_of HT_.1 (by kernel_rfl)) (by decide) (fun K hK => ?_)
     refine goes_ Try.func30 (by kernel_rfl) rfl #[.agg #[.int .i64 ((rd_T49 l0 x5_1).f0), .int .i64 ((rd_T49 l0 x5_1).f1)], .agg #[.int .i64 ((rd_T49 l1 x5_1).f0), .int .i64 ((rd_T49 l1 x5_1).f1)]] (by rfl) rfl rfl (by (try simp only [List.map_toArray, List.map_cons, List.map_nil]); first | done | rfl | (simp only [List.length_drop, List.length_take]; rfl)) ?_
     with_reducible refine (laws_eqCell.calls ((rd_T49 l0 x5_1).f0) ((rd_T49 l0 x5_1).f1) ((rd_T49 l1 x5_1).f0) ((rd_T49 l1 x5_1).f1) false _ A7.1).mono ?_
     rintro e w12 ⟨rfl, hb⟩
     refine ⟨_, rfl, ?_⟩
     refine E1 (bS HB.1 hb) ?_
     clear HB
     intro HB
     (try clear hb)
     (try clear hb2)
     (try clear hk)
     (try clear hi)
     refine hK.out _ _ ⟨((HB.1.cell (World.block_lt_of_cell? w _ hw309_0)).trans hw309_0), ((HB.1.cell (World.block_lt_of_cell? w _ hw309_1)).trans hw309_1), ((HB.1.cell (World.block_lt_of_cell? w _ hw310_0)).trans hw310_0), ((HB.1.cell (World.block_lt_of_cell? w _ hw310_1)).trans hw310_1)⟩ (fun hHeld => ?_)
     clear hK K
     refine norm_ (a' := ?_) ?_ ?_
     rotate_left
     · show Act.put _ (some 25) _ = _
       simp only [Act.put, List.setIfInBounds_toArray, List.set_cons_zero, List.set_cons_succ, i64_w, i32_w]
       rfl
     refine pureF 9 (N := some 26) HT_.1 ?_
     refine done_ (done_of HT_.1 (by kernel_rfl)) ?_
     try go_wp2
     go_ret
     exact ⟨RF, BL HB.1⟩
   obtain rfl := Option.some.inj H
   go_wp2
   go_ret
   exact ⟨RF, BL HB.1⟩
 have c3b0 := beq_eq_false_iff_ne.mpr c3
 have c3b1 := bne_iff_ne.mpr c3
 have c3b2 : (l0.length == l1.length) = false := by first | simpa using c3 | (simp at c3 ⊢; omega)
 obtain rfl := Option.some.inj H
 go_enter Try.func20, Try.ntmps20
 go_wp2
 go_ret
 exact ⟨RF, BL HB.1⟩
end Go.Proofs.Ytlkmafoihjglcaa.P
