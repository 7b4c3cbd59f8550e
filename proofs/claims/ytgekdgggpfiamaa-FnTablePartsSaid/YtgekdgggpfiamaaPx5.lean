-- PRINTED by print.py (a twelfth state) out of the translation. Not trusted: Lean checks it.
import Derived.Test.YtgekdgggpfiamaaPx0
import Derived.Test.YtgekdgggpfiamaaPx2
import Derived.Test.YtgekdgggpfiamaaPx3
namespace Go.Proofs.Ytgekdgggpfiamaa.P
open Go.RowKit Go.Proofs.YtgekdgggpfiamaaW.PrintWords Go.Proofs.YtgekdgggpfiamaaW.PrintLast Go.Proofs.YtgekdgggpfiamaaW.PrintMore
attribute [local go_sem] max2_int min2_int max_two min_two max_three min_three max_four min_four   -- for this text's walks alone
set_option linter.unusedVariables false
set_option linter.unusedSimpArgs false
set_option maxHeartbeats 8000000
set_option maxRecDepth 100000

/-! ### impl_IsMonotone: function 25 -/
open Kd
mutual
def impl_IsMonotone.l0 : Nat -> Int -> Int -> List Int -> Option (Bool × Bool)
 | 0, _, _, _ => none
 | k + 1, x4, x364000, x364001 => if x4 < x364000 then (impl_IsMonotone.l1 k x4 x364001 (x364001.length : Int) 0 x364000 x364001) else (some (true, true))
def impl_IsMonotone.l1 : Nat -> Int -> List Int -> Int -> Int -> Int -> List Int -> Option (Bool × Bool)
 | 0, _, _, _, _, _, _ => none
 | k + 1, x4, x17, x18, x19, x364000, x364001 => if x19 < x18 then (if 0 <= x19 then (if x19 < (x17.length : Int) then (if 0 <= x4 then (if (Go.bits .and .i64 (shr .i64 x19 x4) 1) = 0 then (if 0 <= (Go.bits .or .i64 x19 (shl .i64 1 x4)) then (if (Go.bits .or .i64 x19 (shl .i64 1 x4)) < (x364001.length : Int) then (if (rd x17 x19) > (rd x364001 (Go.bits .or .i64 x19 (shl .i64 1 x4))) then (some (false, true)) else (impl_IsMonotone.l1 k x4 x17 x18 (wrap64 (x19 + 1)) x364000 x364001)) else (none)) else (none)) else (impl_IsMonotone.l1 k x4 x17 x18 (wrap64 (x19 + 1)) x364000 x364001)) else (none)) else (none)) else (none)) else (impl_IsMonotone.l0 k (wrap64 (x4 + 1)) x364000 x364001)
end
def impl_IsMonotone.f (k : Nat) (a0_0 : Int) (l0_1 : List Int) : Option (Bool × Bool) := (impl_IsTable.f k a0_0 l0_1).bind fun t364 => (if t364 = true then (impl_IsMonotone.l0 k 0 a0_0 l0_1) else (some (false, false)))
theorem impl_IsMonotone.mono_l : ∀ k, (∀ y0 y1 y2, LeO (impl_IsMonotone.l0 k y0 y1 y2) (impl_IsMonotone.l0 (k + 1) y0 y1 y2)) /\ (∀ y0 y1 y2 y3 y4 y5, LeO (impl_IsMonotone.l1 k y0 y1 y2 y3 y4 y5) (impl_IsMonotone.l1 (k + 1) y0 y1 y2 y3 y4 y5))
 | 0 => by refine ⟨?_, ?_⟩ <;> (intros; intro r h; first | (simp [impl_IsMonotone.l0] at h; done) | (simp [impl_IsMonotone.l1] at h; done))
 | k + 1 => by
  obtain ⟨ih0, ih1⟩ := impl_IsMonotone.mono_l k
  refine ⟨?_, ?_⟩ <;> (
   intros
   first | unfold impl_IsMonotone.l0 | unfold impl_IsMonotone.l1
   exact LM3 ih0 ih1 impl_IsTable.mono)
theorem impl_IsMonotone.mono : ∀ a0 a1 k, LeO (impl_IsMonotone.f k a0 a1) (impl_IsMonotone.f (k + 1) a0 a1) := by
 intro a0 a1 k
 obtain ⟨ih0, ih1⟩ := impl_IsMonotone.mono_l k
 unfold impl_IsMonotone.f
 exact LM3 ih0 ih1 impl_IsTable.mono
theorem impl_IsMonotone.calls (k : Nat) (a0_0 : Int) (A0_1 : Option Addr) (c0_1 : Nat) (l0_1 : List Int) (r1 : Bool) (r2 : Bool) (w : World) (hr0_1 : Kd.C (Kd.int .i64) w A0_1 l0_1.length l0_1) (hc0_1 : l0_1.length <= c0_1) (h : impl_IsMonotone.f k a0_0 l0_1 = some (r1, r2)) :
 Calls Try.prog 25 #[.agg #[.int .i64 a0_0, .slice A0_1 l0_1.length c0_1]] w fun e w' => e = .returned (.tuple #[.bool r1, .bool r2]) /\ Below w.heap.size w w' := by
 have hu28 := Try.underlying28
 have HR0_1 := Aside0.mk hr0_1
 have HC0_1 := Aside0.mk hc0_1
 clear hr0_1 hc0_1
 have HB := Aside0.mk (Below.refl w.heap.size w)
 have H := h
 clear h
 unfold impl_IsMonotone.f at H
 replace H := bindA H; obtain ⟨t364, A2, H⟩ := H
 replace H := ifX H; rcases H with ⟨rfl, H⟩ | ⟨rfl, H⟩
 · have H' := Aside0.mk H
   clear H
   go_enter Try.func25, Try.ntmps25
   go_wp2_with (first | ((with_reducible refine gate_dst (N := 1) rfl ?_); refine boxE (cs := #[.int .i64 a0_0, .slice A0_1 l0_1.length c0_1]) (t := 28) ?_; intro gb363 hg w4 hbox hb; refine E4b HB.1 hg hbox hb ?_; clear HB; intro HB BK363 GW363 GE363; clear hb hbox hg; obtain ⟨hcz5_0, hcz5_1, hfz5_0, hfz5_1⟩ := cz2 BK363.1) | (go_at_call 39; (with_reducible refine (impl_IsTable.calls k a0_0 _ _ l0_1 true _ ?side1 ?side2 A2.1).mono ?_); (case side1 => exact CB (C_below HR0_1.1 HB.1)); (case side2 => exact HC0_1.1); rintro e w6 ⟨rfl, hb⟩; refine E2 (bB BK363.1 hb) (bS HB.1 hb) ?_; clear BK363 HB; intro BK363 HB; (try clear hb)))
   repeat (go_quiet (first | ((with_reducible refine gate_dst (N := 1) rfl ?_); refine boxE (cs := #[.int .i64 a0_0, .slice A0_1 l0_1.length c0_1]) (t := 28) ?_; intro gb363 hg w4 hbox hb; refine E4b HB.1 hg hbox hb ?_; clear HB; intro HB BK363 GW363 GE363; clear hb hbox hg; obtain ⟨hcz5_0, hcz5_1, hfz5_0, hfz5_1⟩ := cz2 BK363.1) | (go_at_call 39; (with_reducible refine (impl_IsTable.calls k a0_0 _ _ l0_1 true _ ?side1 ?side2 A2.1).mono ?_); (case side1 => exact CB (C_below HR0_1.1 HB.1)); (case side2 => exact HC0_1.1); rintro e w6 ⟨rfl, hb⟩; refine E2 (bB BK363.1 hb) (bS HB.1 hb) ?_; clear BK363 HB; intro BK363 HB; (try clear hb))); try go_wp2_with (first | ((with_reducible refine gate_dst (N := 1) rfl ?_); refine boxE (cs := #[.int .i64 a0_0, .slice A0_1 l0_1.length c0_1]) (t := 28) ?_; intro gb363 hg w4 hbox hb; refine E4b HB.1 hg hbox hb ?_; clear HB; intro HB BK363 GW363 GE363; clear hb hbox hg; obtain ⟨hcz5_0, hcz5_1, hfz5_0, hfz5_1⟩ := cz2 BK363.1) | (go_at_call 39; (with_reducible refine (impl_IsTable.calls k a0_0 _ _ l0_1 true _ ?side1 ?side2 A2.1).mono ?_); (case side1 => exact CB (C_below HR0_1.1 HB.1)); (case side2 => exact HC0_1.1); rintro e w6 ⟨rfl, hb⟩; refine E2 (bB BK363.1 hb) (bS HB.1 hb) ?_; clear BK363 HB; intro BK363 HB; (try clear hb))))
   go_loopg [4] k (fun kq v4 w' => ∃ (x4_1 : Int), v4 = .int .i64 x4_1 /\ Aside0 (impl_IsMonotone.l0 kq x4_1 a0_0 l0_1 = some (r1, r2)) /\ Aside0 (kq <= k) /\ Aside0 (w'.heap[gb363]? = some (.cells #[.int .i64 a0_0, (.slice A0_1 l0_1.length c0_1)] 28 (0, 0))) /\ Aside0 (Below w.heap.size w w'))
   case atStart => exact ⟨(0), RG, H', ⟨Nat.le_refl _⟩, ⟨PB BK363.1⟩, ⟨BL HB.1⟩⟩
   clear H'
   clear hcz5_0 hcz5_1 hfz5_0 hfz5_1
   obtain ⟨x4_1, rfl, HA, HK1, BK363, HB⟩ := hrel
   cases gk with
   | zero => exact absurd HA.1 (by simp [impl_IsMonotone.l0])
   | succ k1 => ?_
   have H := HA.1
   clear HA
   simp only [impl_IsMonotone.l0] at H
   replace H := ifB H; rcases H with ⟨c7b0, H⟩ | ⟨c7b0, H⟩
   · have H' := Aside0.mk H
     clear H
     obtain ⟨hcz8_0, hcz8_1, hfz8_0, hfz8_1⟩ := cz2 BK363.1
     go_wp2
     repeat (go_quiet (fail); try go_wp2)
     go_loopg [19] k1 (fun kq v19 w' => ∃ (x19_2 : Int), v19 = .int .i64 x19_2 /\ Aside0 (impl_IsMonotone.l1 kq x4_1 l0_1 (l0_1.length : Int) x19_2 a0_0 l0_1 = some (r1, r2)) /\ Aside0 (kq <= k1) /\ Aside0 (w'.heap[gb363]? = some (.cells #[.int .i64 a0_0, (.slice A0_1 l0_1.length c0_1)] 28 (0, 0))) /\ Aside0 (Below w.heap.size w w'))
     case atStart => exact ⟨(0), RG, H', ⟨Nat.le_refl _⟩, ⟨PB BK363.1⟩, ⟨BL HB.1⟩⟩
     clear H'
     clear c7b0 hcz8_0 hcz8_1 hfz8_0 hfz8_1
     obtain ⟨x19_2, rfl, HA, HK2, BK363, HB⟩ := hrel
     cases gk with
     | zero => exact absurd HA.1 (by simp [impl_IsMonotone.l1])
     | succ k2 => ?_
     have H := HA.1
     clear HA
     simp only [impl_IsMonotone.l1] at H
     replace H := ifB H; rcases H with ⟨c9b0, H⟩ | ⟨c9b0, H⟩
     · replace H := ifN H; obtain ⟨c10b0, H⟩ := H
       replace H := ifN H; obtain ⟨c11b0, H⟩ := H
       replace H := ifP H; obtain ⟨c12, H⟩ := H
       have c12b0 := eq_true c12
       have c12b1 := decide_eq_true c12
       clear c12
       obtain ⟨ji13, hji13⟩ : ∃ j_ : Int, (shr .i64 x19_2 x4_1) = j_ := ⟨_, rfl⟩
       replace H : (if (Go.bits .and .i64 (ji13) 1) = 0 then (if 0 <= (Go.bits .or .i64 x19_2 (shl .i64 1 x4_1)) then (if (Go.bits .or .i64 x19_2 (shl .i64 1 x4_1)) < (l0_1.length : Int) then (if (rd l0_1 x19_2) > (rd l0_1 (Go.bits .or .i64 x19_2 (shl .i64 1 x4_1))) then (some (false, true)) else (impl_IsMonotone.l1 k2 x4_1 l0_1 (l0_1.length : Int) (wrap64 (x19_2 + 1)) a0_0 l0_1)) else (none)) else (none)) else (impl_IsMonotone.l1 k2 x4_1 l0_1 (l0_1.length : Int) (wrap64 (x19_2 + 1)) a0_0 l0_1)) = some (r1, r2) := by first | (rw [hji13] at H; exact H) | (simp only [hji13] at H ⊢; exact H)
       have hji13_ : (x19_2 / 2 ^ min x4_1.toNat 64) = ji13 := hji13
       have hji13z : x4_1 <= 64 -> (x19_2 / 2 ^ x4_1.toNat) = ji13 := shr_small hji13
       replace H := ifQ H; rcases H with ⟨c14, H⟩ | ⟨c14, H⟩
       · have c14b0 := beq_iff_eq.mpr c14
         have c14b1 := bne_eq_false_iff_eq.mpr c14
         clear c14
         have c15b0 := eq_true (OD : 0 <= x4_1)
         obtain ⟨ji16, hji16⟩ : ∃ j_ : Int, (shl .i64 1 x4_1) = j_ := ⟨_, rfl⟩
         replace H : (if 0 <= (Go.bits .or .i64 x19_2 (ji16)) then (if (Go.bits .or .i64 x19_2 (ji16)) < (l0_1.length : Int) then (if (rd l0_1 x19_2) > (rd l0_1 (Go.bits .or .i64 x19_2 (ji16))) then (some (false, true)) else (impl_IsMonotone.l1 k2 x4_1 l0_1 (l0_1.length : Int) (wrap64 (x19_2 + 1)) a0_0 l0_1)) else (none)) else (none)) = some (r1, r2) := by first | (rw [hji16] at H; exact H) | (simp only [hji16] at H ⊢; exact H)
         have hji16_ : (IntKind.i64.wrap (1 * 2 ^ min x4_1.toNat 64)) = ji16 := hji16
         have hji16z : x4_1 <= 64 -> (IntKind.i64.wrap (1 * 2 ^ x4_1.toNat)) = ji16 := shl_small hji16
         have hji16u : (IntKind.i64.wrap (2 ^ min x4_1.toNat 64)) = ji16 := by have h_ := hji16_; rw [Int.one_mul] at h_; exact h_
         have hji16v : x4_1 <= 64 -> (IntKind.i64.wrap (2 ^ x4_1.toNat)) = ji16 := fun hle_ => by have h_ := hji16z hle_; rw [Int.one_mul] at h_; exact h_
         have hji16y : (wrap64 (1 * 2 ^ min x4_1.toNat 64)) = ji16 := (i64_w _).symm.trans hji16_
         have hji16x : x4_1 <= 64 -> (wrap64 (1 * 2 ^ x4_1.toNat)) = ji16 := fun h_ => (i64_w _).symm.trans (hji16z h_)
         replace H := ifN H; obtain ⟨c17b0, H⟩ := H
         replace H := ifN H; obtain ⟨c18b0, H⟩ := H
         replace H := ifQ H; rcases H with ⟨c19, H⟩ | ⟨c19, H⟩
         · have c19b0 : decide ((rd l0_1 (Go.bits .or .i64 x19_2 (ji16))) < (rd l0_1 x19_2)) = true := decide_eq_true c19
           clear c19
           simp only [Option.some.injEq, Prod.mk.injEq] at H
           obtain ⟨rfl, rfl⟩ := H
           have p365 : 0 <= (x19_2 : Int) := OD
           have q365 : x19_2 < (l0_1.length : Int) := OD
           obtain ⟨ad365, e365, hx365_0⟩ := Kd.at_int HR0_1.1 x19_2 p365 q365
           cases e365
           replace hx365_0 := (HB.1.cell (World.block_lt_of_cell? w _ hx365_0)).trans hx365_0
           replace p365 := eq_true p365
           replace q365 := eq_true q365
           obtain ⟨hcz20_0, hcz20_1, hfz20_0, hfz20_1⟩ := cz2 BK363.1
           have p366 : 0 <= ((Go.bits .or .i64 x19_2 (ji16)) : Int) := OD
           have q366 : (Go.bits .or .i64 x19_2 (ji16)) < (l0_1.length : Int) := OD
           obtain ⟨ad366, e366, hx366_0⟩ := Kd.at_int HR0_1.1 (Go.bits .or .i64 x19_2 (ji16)) p366 q366
           obtain rfl : ad365 = ad366 := (by injection e366)
           replace hx366_0 := (HB.1.cell (World.block_lt_of_cell? w _ hx366_0)).trans hx366_0
           replace p366 := eq_true p366
           replace q366 := eq_true q366
           go_wp2
           repeat (go_quiet (fail); try go_wp2)
           go_ret2
           exact ⟨by first | rfl | (simp [errW_none, errW_some] <;> rfl) | (simp only [<- hji13, <- hji16]; first | rfl | (simp [errW_none, errW_some] <;> rfl)) | (simp [*, errW_none, errW_some] <;> rfl), BL HB.1⟩
         have c19b0 : decide ((rd l0_1 (Go.bits .or .i64 x19_2 (ji16))) < (rd l0_1 x19_2)) = false := decide_eq_false c19
         clear c19
         have H' := Aside0.mk H
         clear H
         have p365 : 0 <= (x19_2 : Int) := OD
         have q365 : x19_2 < (l0_1.length : Int) := OD
         obtain ⟨ad365, e365, hx365_0⟩ := Kd.at_int HR0_1.1 x19_2 p365 q365
         cases e365
         replace hx365_0 := (HB.1.cell (World.block_lt_of_cell? w _ hx365_0)).trans hx365_0
         replace p365 := eq_true p365
         replace q365 := eq_true q365
         obtain ⟨hcz21_0, hcz21_1, hfz21_0, hfz21_1⟩ := cz2 BK363.1
         have p366 : 0 <= ((Go.bits .or .i64 x19_2 (ji16)) : Int) := OD
         have q366 : (Go.bits .or .i64 x19_2 (ji16)) < (l0_1.length : Int) := OD
         obtain ⟨ad366, e366, hx366_0⟩ := Kd.at_int HR0_1.1 (Go.bits .or .i64 x19_2 (ji16)) p366 q366
         obtain rfl : ad365 = ad366 := (by injection e366)
         replace hx366_0 := (HB.1.cell (World.block_lt_of_cell? w _ hx366_0)).trans hx366_0
         replace p366 := eq_true p366
         replace q366 := eq_true q366
         go_wp2
         repeat (go_quiet (fail); try go_wp2)
         go_roundg k2
         case measure => have := HK1.1; have := HK2.1; omega
         case rel => exact ⟨(wrap64 (x19_2 + 1)), RG, H', ⟨by have := HK1.1; have := HK2.1; omega⟩, ⟨PB BK363.1⟩, ⟨BL HB.1⟩⟩
       have c14b0 := beq_eq_false_iff_ne.mpr c14
       have c14b1 := bne_iff_ne.mpr c14
       have H' := Aside0.mk H
       clear H
       have p365 : 0 <= (x19_2 : Int) := OD
       have q365 : x19_2 < (l0_1.length : Int) := OD
       obtain ⟨ad365, e365, hx365_0⟩ := Kd.at_int HR0_1.1 x19_2 p365 q365
       cases e365
       replace hx365_0 := (HB.1.cell (World.block_lt_of_cell? w _ hx365_0)).trans hx365_0
       replace p365 := eq_true p365
       replace q365 := eq_true q365
       go_wp2
       repeat (go_quiet (fail); try go_wp2)
       go_roundg k2
       case measure => have := HK1.1; have := HK2.1; omega
       case rel => exact ⟨(wrap64 (x19_2 + 1)), RG, H', ⟨by have := HK1.1; have := HK2.1; omega⟩, ⟨PB BK363.1⟩, ⟨BL HB.1⟩⟩
     have H' := Aside0.mk H
     clear H
     go_wp2
     repeat (go_quiet (fail); try go_wp2)
     go_roundg k2
     case measure => have := HK1.1; have := HK2.1; omega
     case rel => exact ⟨(wrap64 (x4_1 + 1)), RG, H', ⟨by have := HK1.1; have := HK2.1; omega⟩, ⟨PB BK363.1⟩, ⟨BL HB.1⟩⟩
   simp only [Option.some.injEq, Prod.mk.injEq] at H
   obtain ⟨rfl, rfl⟩ := H
   obtain ⟨hcz22_0, hcz22_1, hfz22_0, hfz22_1⟩ := cz2 BK363.1
   go_wp2
   repeat (go_quiet (fail); try go_wp2)
   go_ret2
   exact ⟨RF, BL HB.1⟩
 simp only [Option.some.injEq, Prod.mk.injEq] at H
 obtain ⟨rfl, rfl⟩ := H
 go_enter Try.func25, Try.ntmps25
 go_wp2_with (first | ((with_reducible refine gate_dst (N := 1) rfl ?_); refine boxE (cs := #[.int .i64 a0_0, .slice A0_1 l0_1.length c0_1]) (t := 28) ?_; intro gb363 hg w23 hbox hb; refine E4b HB.1 hg hbox hb ?_; clear HB; intro HB BK363 GW363 GE363; clear hb hbox hg; obtain ⟨hcz24_0, hcz24_1, hfz24_0, hfz24_1⟩ := cz2 BK363.1) | (go_at_call 39; (with_reducible refine (impl_IsTable.calls k a0_0 _ _ l0_1 false _ ?side1 ?side2 A2.1).mono ?_); (case side1 => exact CB (C_below HR0_1.1 HB.1)); (case side2 => exact HC0_1.1); rintro e w25 ⟨rfl, hb⟩; refine E2 (bB BK363.1 hb) (bS HB.1 hb) ?_; clear BK363 HB; intro BK363 HB; (try clear hb)))
 repeat (go_quiet (first | ((with_reducible refine gate_dst (N := 1) rfl ?_); refine boxE (cs := #[.int .i64 a0_0, .slice A0_1 l0_1.length c0_1]) (t := 28) ?_; intro gb363 hg w23 hbox hb; refine E4b HB.1 hg hbox hb ?_; clear HB; intro HB BK363 GW363 GE363; clear hb hbox hg; obtain ⟨hcz24_0, hcz24_1, hfz24_0, hfz24_1⟩ := cz2 BK363.1) | (go_at_call 39; (with_reducible refine (impl_IsTable.calls k a0_0 _ _ l0_1 false _ ?side1 ?side2 A2.1).mono ?_); (case side1 => exact CB (C_below HR0_1.1 HB.1)); (case side2 => exact HC0_1.1); rintro e w25 ⟨rfl, hb⟩; refine E2 (bB BK363.1 hb) (bS HB.1 hb) ?_; clear BK363 HB; intro BK363 HB; (try clear hb))); try go_wp2_with (first | ((with_reducible refine gate_dst (N := 1) rfl ?_); refine boxE (cs := #[.int .i64 a0_0, .slice A0_1 l0_1.length c0_1]) (t := 28) ?_; intro gb363 hg w23 hbox hb; refine E4b HB.1 hg hbox hb ?_; clear HB; intro HB BK363 GW363 GE363; clear hb hbox hg; obtain ⟨hcz24_0, hcz24_1, hfz24_0, hfz24_1⟩ := cz2 BK363.1) | (go_at_call 39; (with_reducible refine (impl_IsTable.calls k a0_0 _ _ l0_1 false _ ?side1 ?side2 A2.1).mono ?_); (case side1 => exact CB (C_below HR0_1.1 HB.1)); (case side2 => exact HC0_1.1); rintro e w25 ⟨rfl, hb⟩; refine E2 (bB BK363.1 hb) (bS HB.1 hb) ?_; clear BK363 HB; intro BK363 HB; (try clear hb))))
 go_ret2
 exact ⟨RF, BL HB.1⟩

/-! ### spec_IsMonotone: function 26 -/
open Kd
mutual
def spec_IsMonotone.l0 : Nat -> List Int -> Int -> Int -> Int -> List Int -> Option (Bool × Bool)
 | 0, _, _, _, _, _ => none
 | k + 1, x11, x12, x13, x368000, x368001 => if x13 < x12 then (if 0 <= x13 then (if x13 < (x11.length : Int) then (spec_IsMonotone.l1 k x13 (rd x11 x13) 0 x11 x12 x13 x368000 x368001) else (none)) else (none)) else (some (true, true))
def spec_IsMonotone.l1 : Nat -> Int -> Int -> Int -> List Int -> Int -> Int -> Int -> List Int -> Option (Bool × Bool)
 | 0, _, _, _, _, _, _, _, _ => none
 | k + 1, x4, x5, x6, x11, x12, x13, x368000, x368001 => if x6 < x368000 then (if x5 = 1 then (if 0 <= (IntKind.u64.wrap (x6)) then (if 0 <= (Go.bits .or .i64 x4 (shl .i64 1 (IntKind.u64.wrap (x6)))) then (if (Go.bits .or .i64 x4 (shl .i64 1 (IntKind.u64.wrap (x6)))) < (x368001.length : Int) then (if (rd x368001 (Go.bits .or .i64 x4 (shl .i64 1 (IntKind.u64.wrap (x6))))) = 0 then (some (false, true)) else (spec_IsMonotone.l1 k x4 x5 (wrap64 (x6 + 1)) x11 x12 x13 x368000 x368001)) else (none)) else (none)) else (none)) else (spec_IsMonotone.l1 k x4 x5 (wrap64 (x6 + 1)) x11 x12 x13 x368000 x368001)) else (spec_IsMonotone.l0 k x11 x12 (wrap64 (x13 + 1)) x368000 x368001)
end
def spec_IsMonotone.f (k : Nat) (a0_0 : Int) (l0_1 : List Int) : Option (Bool × Bool) := (spec_ttGood.f k a0_0 l0_1).bind fun t368 => (if t368 = true then (spec_IsMonotone.l0 k l0_1 (l0_1.length : Int) 0 a0_0 l0_1) else (some (false, false)))
theorem spec_IsMonotone.mono_l : ∀ k, (∀ y0 y1 y2 y3 y4, LeO (spec_IsMonotone.l0 k y0 y1 y2 y3 y4) (spec_IsMonotone.l0 (k + 1) y0 y1 y2 y3 y4)) /\ (∀ y0 y1 y2 y3 y4 y5 y6 y7, LeO (spec_IsMonotone.l1 k y0 y1 y2 y3 y4 y5 y6 y7) (spec_IsMonotone.l1 (k + 1) y0 y1 y2 y3 y4 y5 y6 y7))
 | 0 => by refine ⟨?_, ?_⟩ <;> (intros; intro r h; first | (simp [spec_IsMonotone.l0] at h; done) | (simp [spec_IsMonotone.l1] at h; done))
 | k + 1 => by
  obtain ⟨ih0, ih1⟩ := spec_IsMonotone.mono_l k
  refine ⟨?_, ?_⟩ <;> (
   intros
   first | unfold spec_IsMonotone.l0 | unfold spec_IsMonotone.l1
   exact LM3 ih0 ih1 spec_ttGood.mono)
theorem spec_IsMonotone.mono : ∀ a0 a1 k, LeO (spec_IsMonotone.f k a0 a1) (spec_IsMonotone.f (k + 1) a0 a1) := by
 intro a0 a1 k
 obtain ⟨ih0, ih1⟩ := spec_IsMonotone.mono_l k
 unfold spec_IsMonotone.f
 exact LM3 ih0 ih1 spec_ttGood.mono
theorem spec_IsMonotone.calls (k : Nat) (a0_0 : Int) (A0_1 : Option Addr) (c0_1 : Nat) (l0_1 : List Int) (r1 : Bool) (r2 : Bool) (w : World) (hr0_1 : Kd.C (Kd.int .i64) w A0_1 l0_1.length l0_1) (hc0_1 : l0_1.length <= c0_1) (h : spec_IsMonotone.f k a0_0 l0_1 = some (r1, r2)) :
 Calls Try.prog 26 #[.agg #[.int .i64 a0_0, .slice A0_1 l0_1.length c0_1]] w fun e w' => e = .returned (.tuple #[.bool r1, .bool r2]) /\ Below w.heap.size w w' := by
 have hu28 := Try.underlying28
 have HR0_1 := Aside0.mk hr0_1
 have HC0_1 := Aside0.mk hc0_1
 clear hr0_1 hc0_1
 have HB := Aside0.mk (Below.refl w.heap.size w)
 have H := h
 clear h
 unfold spec_IsMonotone.f at H
 replace H := bindA H; obtain ⟨t368, A2, H⟩ := H
 replace H := ifX H; rcases H with ⟨rfl, H⟩ | ⟨rfl, H⟩
 · have H' := Aside0.mk H
   clear H
   go_enter Try.func26, Try.ntmps26
   go_wp2_with (first | ((with_reducible refine gate_dst (N := 1) rfl ?_); refine boxE (cs := #[.int .i64 a0_0, .slice A0_1 l0_1.length c0_1]) (t := 28) ?_; intro gb367 hg w4 hbox hb; refine E4b HB.1 hg hbox hb ?_; clear HB; intro HB BK367 GW367 GE367; clear hb hbox hg; obtain ⟨hcz5_0, hcz5_1, hfz5_0, hfz5_1⟩ := cz2 BK367.1) | ((with_reducible refine gate_callee (f := 34) rfl ?_); refine goesM (N := (some 8)) #[.agg #[.int .i64 a0_0, .slice A0_1 l0_1.length c0_1]] Try.func34 ?_; (with_reducible refine (spec_ttGood.calls k a0_0 _ _ l0_1 true _ ?side1 ?side2 A2.1).mono ?_); (case side1 => exact CB (C_below HR0_1.1 HB.1)); (case side2 => exact HC0_1.1); rintro e w6 ⟨rfl, hb⟩; refine ⟨_, rfl, ?_⟩; refine E2 (bB BK367.1 hb) (bS HB.1 hb) ?_; clear BK367 HB; intro BK367 HB; (try clear hb); obtain ⟨hcz7_0, hcz7_1, hfz7_0, hfz7_1⟩ := cz2 BK367.1))
   go_loopg [13] k (fun kq v13 w' => ∃ (x13_1 : Int), v13 = .int .i64 x13_1 /\ Aside0 (spec_IsMonotone.l0 kq l0_1 (l0_1.length : Int) x13_1 a0_0 l0_1 = some (r1, r2)) /\ Aside0 (kq <= k) /\ Aside0 (w'.heap[gb367]? = some (.cells #[.int .i64 a0_0, (.slice A0_1 l0_1.length c0_1)] 28 (0, 0))) /\ Aside0 (Below w.heap.size w w'))
   case atStart => exact ⟨(0), RG, H', ⟨Nat.le_refl _⟩, ⟨PB BK367.1⟩, ⟨BL HB.1⟩⟩
   clear H'
   clear hcz5_0 hcz5_1 hcz7_0 hcz7_1 hfz5_0 hfz5_1 hfz7_0 hfz7_1
   obtain ⟨x13_1, rfl, HA, HK1, BK367, HB⟩ := hrel
   cases gk with
   | zero => exact absurd HA.1 (by simp [spec_IsMonotone.l0])
   | succ k1 => ?_
   have H := HA.1
   clear HA
   simp only [spec_IsMonotone.l0] at H
   replace H := ifB H; rcases H with ⟨c8b0, H⟩ | ⟨c8b0, H⟩
   · replace H := ifN H; obtain ⟨c9b0, H⟩ := H
     replace H := ifN H; obtain ⟨c10b0, H⟩ := H
     have H' := Aside0.mk H
     clear H
     have p369 : 0 <= (x13_1 : Int) := OD
     have q369 : x13_1 < (l0_1.length : Int) := OD
     obtain ⟨ad369, e369, hx369_0⟩ := Kd.at_int HR0_1.1 x13_1 p369 q369
     cases e369
     replace hx369_0 := (HB.1.cell (World.block_lt_of_cell? w _ hx369_0)).trans hx369_0
     replace p369 := eq_true p369
     replace q369 := eq_true q369
     go_wp2
     go_loopg [6] k1 (fun kq v6 w' => ∃ (x6_2 : Int), v6 = .int .i64 x6_2 /\ Aside0 (spec_IsMonotone.l1 kq x13_1 (rd l0_1 x13_1) x6_2 l0_1 (l0_1.length : Int) x13_1 a0_0 l0_1 = some (r1, r2)) /\ Aside0 (kq <= k1) /\ Aside0 (w'.heap[gb367]? = some (.cells #[.int .i64 a0_0, (.slice (some ad369) l0_1.length c0_1)] 28 (0, 0))) /\ Aside0 (Below w.heap.size w w'))
     case atStart => exact ⟨(0), RG, H', ⟨Nat.le_refl _⟩, ⟨PB BK367.1⟩, ⟨BL HB.1⟩⟩
     clear H'
     try clear hx369_0; try clear p369; try clear q369; clear c8b0 c9b0 c10b0
     obtain ⟨x6_2, rfl, HA, HK2, BK367, HB⟩ := hrel
     cases gk with
     | zero => exact absurd HA.1 (by simp [spec_IsMonotone.l1])
     | succ k2 => ?_
     have H := HA.1
     clear HA
     simp only [spec_IsMonotone.l1] at H
     replace H := ifB H; rcases H with ⟨c11b0, H⟩ | ⟨c11b0, H⟩
     · replace H := ifQ H; rcases H with ⟨c12, H⟩ | ⟨c12, H⟩
       · have c12b0 := beq_iff_eq.mpr c12
         have c12b1 := bne_eq_false_iff_eq.mpr c12
         clear c12
         obtain ⟨ji13, hji13⟩ : ∃ j_ : Int, (IntKind.u64.wrap (x6_2)) = j_ := ⟨_, rfl⟩
         replace H : (if 0 <= (ji13) then (if 0 <= (Go.bits .or .i64 x13_1 (shl .i64 1 (ji13))) then (if (Go.bits .or .i64 x13_1 (shl .i64 1 (ji13))) < (l0_1.length : Int) then (if (rd l0_1 (Go.bits .or .i64 x13_1 (shl .i64 1 (ji13)))) = 0 then (some (false, true)) else (spec_IsMonotone.l1 k2 x13_1 (rd l0_1 x13_1) (wrap64 (x6_2 + 1)) l0_1 (l0_1.length : Int) x13_1 a0_0 l0_1)) else (none)) else (none)) else (none)) = some (r1, r2) := by first | (rw [hji13] at H; exact H) | (simp only [hji13] at H ⊢; exact H)
         replace H := ifP H; obtain ⟨c14, H⟩ := H
         have c14b0 := eq_true c14
         have c14b1 := decide_eq_true c14
         clear c14
         obtain ⟨ji15, hji15⟩ : ∃ j_ : Int, (shl .i64 1 (ji13)) = j_ := ⟨_, rfl⟩
         replace H : (if 0 <= (Go.bits .or .i64 x13_1 (ji15)) then (if (Go.bits .or .i64 x13_1 (ji15)) < (l0_1.length : Int) then (if (rd l0_1 (Go.bits .or .i64 x13_1 (ji15))) = 0 then (some (false, true)) else (spec_IsMonotone.l1 k2 x13_1 (rd l0_1 x13_1) (wrap64 (x6_2 + 1)) l0_1 (l0_1.length : Int) x13_1 a0_0 l0_1)) else (none)) else (none)) = some (r1, r2) := by first | (rw [hji15] at H; exact H) | (simp only [hji15] at H ⊢; exact H)
         have hji15_ : (IntKind.i64.wrap (1 * 2 ^ min (ji13).toNat 64)) = ji15 := hji15
         have hji15z : (ji13) <= 64 -> (IntKind.i64.wrap (1 * 2 ^ (ji13).toNat)) = ji15 := shl_small hji15
         have hji15u : (IntKind.i64.wrap (2 ^ min (ji13).toNat 64)) = ji15 := by have h_ := hji15_; rw [Int.one_mul] at h_; exact h_
         have hji15v : (ji13) <= 64 -> (IntKind.i64.wrap (2 ^ (ji13).toNat)) = ji15 := fun hle_ => by have h_ := hji15z hle_; rw [Int.one_mul] at h_; exact h_
         have hji15y : (wrap64 (1 * 2 ^ min (ji13).toNat 64)) = ji15 := (i64_w _).symm.trans hji15_
         have hji15x : (ji13) <= 64 -> (wrap64 (1 * 2 ^ (ji13).toNat)) = ji15 := fun h_ => (i64_w _).symm.trans (hji15z h_)
         replace H := ifN H; obtain ⟨c16b0, H⟩ := H
         replace H := ifN H; obtain ⟨c17b0, H⟩ := H
         replace H := ifQ H; rcases H with ⟨c18, H⟩ | ⟨c18, H⟩
         · have c18b0 := beq_iff_eq.mpr c18
           have c18b1 := bne_eq_false_iff_eq.mpr c18
           clear c18
           simp only [Option.some.injEq, Prod.mk.injEq] at H
           obtain ⟨rfl, rfl⟩ := H
           obtain ⟨hcz19_0, hcz19_1, hfz19_0, hfz19_1⟩ := cz2 BK367.1
           have p370 : 0 <= ((Go.bits .or .i64 x13_1 (ji15)) : Int) := OD
           have q370 : (Go.bits .or .i64 x13_1 (ji15)) < (l0_1.length : Int) := OD
           obtain ⟨ad370, e370, hx370_0⟩ := Kd.at_int HR0_1.1 (Go.bits .or .i64 x13_1 (ji15)) p370 q370
           obtain rfl : ad369 = ad370 := (by injection e370)
           replace hx370_0 := (HB.1.cell (World.block_lt_of_cell? w _ hx370_0)).trans hx370_0
           replace p370 := eq_true p370
           replace q370 := eq_true q370
           go_wp2
           go_ret2
           exact ⟨by first | rfl | (simp [errW_none, errW_some] <;> rfl) | (simp only [<- hji13, <- hji15]; first | rfl | (simp [errW_none, errW_some] <;> rfl)) | (simp [*, errW_none, errW_some] <;> rfl), BL HB.1⟩
         have c18b0 := beq_eq_false_iff_ne.mpr c18
         have c18b1 := bne_iff_ne.mpr c18
         have H' := Aside0.mk H
         clear H
         obtain ⟨hcz20_0, hcz20_1, hfz20_0, hfz20_1⟩ := cz2 BK367.1
         have p370 : 0 <= ((Go.bits .or .i64 x13_1 (ji15)) : Int) := OD
         have q370 : (Go.bits .or .i64 x13_1 (ji15)) < (l0_1.length : Int) := OD
         obtain ⟨ad370, e370, hx370_0⟩ := Kd.at_int HR0_1.1 (Go.bits .or .i64 x13_1 (ji15)) p370 q370
         obtain rfl : ad369 = ad370 := (by injection e370)
         replace hx370_0 := (HB.1.cell (World.block_lt_of_cell? w _ hx370_0)).trans hx370_0
         replace p370 := eq_true p370
         replace q370 := eq_true q370
         go_wp2
         go_roundg k2
         case measure => have := HK1.1; have := HK2.1; omega
         case rel => exact ⟨(wrap64 (x6_2 + 1)), RG, H', ⟨by have := HK1.1; have := HK2.1; omega⟩, ⟨PB BK367.1⟩, ⟨BL HB.1⟩⟩
       have c12b0 := beq_eq_false_iff_ne.mpr c12
       have c12b1 := bne_iff_ne.mpr c12
       have H' := Aside0.mk H
       clear H
       obtain ⟨hcz21_0, hcz21_1, hfz21_0, hfz21_1⟩ := cz2 BK367.1
       go_wp2
       go_roundg k2
       case measure => have := HK1.1; have := HK2.1; omega
       case rel => exact ⟨(wrap64 (x6_2 + 1)), RG, H', ⟨by have := HK1.1; have := HK2.1; omega⟩, ⟨PB BK367.1⟩, ⟨BL HB.1⟩⟩
     have H' := Aside0.mk H
     clear H
     obtain ⟨hcz22_0, hcz22_1, hfz22_0, hfz22_1⟩ := cz2 BK367.1
     go_wp2
     go_roundg k2
     case measure => have := HK1.1; have := HK2.1; omega
     case rel => exact ⟨(wrap64 (x13_1 + 1)), RG, H', ⟨by have := HK1.1; have := HK2.1; omega⟩, ⟨PB BK367.1⟩, ⟨BL HB.1⟩⟩
   simp only [Option.some.injEq, Prod.mk.injEq] at H
   obtain ⟨rfl, rfl⟩ := H
   go_wp2
   go_ret2
   exact ⟨RF, BL HB.1⟩
 simp only [Option.some.injEq, Prod.mk.injEq] at H
 obtain ⟨rfl, rfl⟩ := H
 go_enter Try.func26, Try.ntmps26
 go_wp2_with (first | ((with_reducible refine gate_dst (N := 1) rfl ?_); refine boxE (cs := #[.int .i64 a0_0, .slice A0_1 l0_1.length c0_1]) (t := 28) ?_; intro gb367 hg w23 hbox hb; refine E4b HB.1 hg hbox hb ?_; clear HB; intro HB BK367 GW367 GE367; clear hb hbox hg; obtain ⟨hcz24_0, hcz24_1, hfz24_0, hfz24_1⟩ := cz2 BK367.1) | ((with_reducible refine gate_callee (f := 34) rfl ?_); refine goesM (N := (some 8)) #[.agg #[.int .i64 a0_0, .slice A0_1 l0_1.length c0_1]] Try.func34 ?_; (with_reducible refine (spec_ttGood.calls k a0_0 _ _ l0_1 false _ ?side1 ?side2 A2.1).mono ?_); (case side1 => exact CB (C_below HR0_1.1 HB.1)); (case side2 => exact HC0_1.1); rintro e w25 ⟨rfl, hb⟩; refine ⟨_, rfl, ?_⟩; refine E2 (bB BK367.1 hb) (bS HB.1 hb) ?_; clear BK367 HB; intro BK367 HB; (try clear hb)))
 go_ret2
 exact ⟨RF, BL HB.1⟩

/-! ### slices_Equal_int_int: function 55 -/
open Kd
def slices_Equal_int_int.l0 : Nat -> List Int -> List Int -> Int -> Int -> Option (Bool)
 | 0, _, _, _, _ => none
 | k + 1, x0, x1, x12, x13 => if x13 < x12 then (if 0 <= x13 then (if x13 < (x0.length : Int) then (if x13 < (x1.length : Int) then (if (rd x0 x13) = (rd x1 x13) then (slices_Equal_int_int.l0 k x0 x1 x12 (wrap64 (x13 + 1))) else (some false)) else (none)) else (none)) else (none)) else (some true)
def slices_Equal_int_int.f (k : Nat) (l0 : List Int) (l1 : List Int) : Option (Bool) := if (l0.length : Int) = (l1.length : Int) then (slices_Equal_int_int.l0 k l0 l1 (l0.length : Int) 0) else (some false)
theorem slices_Equal_int_int.mono_l : ∀ k, (∀ y0 y1 y2 y3, LeO (slices_Equal_int_int.l0 k y0 y1 y2 y3) (slices_Equal_int_int.l0 (k + 1) y0 y1 y2 y3))
 | 0 => fun _ _ _ _ r h => by simp [slices_Equal_int_int.l0] at h
 | k + 1 => by
  have ih0 := slices_Equal_int_int.mono_l k
  intros
  first | unfold slices_Equal_int_int.l0
  exact LM1 ih0
theorem slices_Equal_int_int.mono : ∀ a0 a1 k, LeO (slices_Equal_int_int.f k a0 a1) (slices_Equal_int_int.f (k + 1) a0 a1) := by
 intro a0 a1 k
 have ih0 := slices_Equal_int_int.mono_l k
 unfold slices_Equal_int_int.f
 exact LM1 ih0
theorem slices_Equal_int_int.calls (k : Nat) (A0 : Option Addr) (c0 : Nat) (l0 : List Int) (A1 : Option Addr) (c1 : Nat) (l1 : List Int) (r : Bool) (w : World) (hr0 : Kd.C (Kd.int .i64) w A0 l0.length l0) (hc0 : l0.length <= c0) (hr1 : Kd.C (Kd.int .i64) w A1 l1.length l1) (hc1 : l1.length <= c1) (h : slices_Equal_int_int.f k l0 l1 = some r) :
 Calls Try.prog 55 #[.slice A0 l0.length c0, .slice A1 l1.length c1] w fun e w' => e = .returned (.bool r) /\ Drawn0 w w' := by
 have HR0 := Aside0.mk hr0
 have HC0 := Aside0.mk hc0
 clear hr0 hc0
 have HR1 := Aside0.mk hr1
 have HC1 := Aside0.mk hc1
 clear hr1 hc1
 have H := h
 clear h
 unfold slices_Equal_int_int.f at H
 replace H := ifQ H; rcases H with ⟨c3, H⟩ | ⟨c3, H⟩
 · have c3b0 := beq_iff_eq.mpr c3
   have c3b1 := bne_eq_false_iff_eq.mpr c3
   have c3b2 : (l0.length == l1.length) = true := by first | simpa using c3 | (simp at c3 ⊢; omega)
   clear c3
   have H' := Aside0.mk H
   clear H
   go_enter Try.func55, Try.ntmps55
   go_wp2
   repeat (go_quiet (fail); try go_wp2)
   go_loopg [13] k (fun kq v13 w' => ∃ (x13_1 : Int), v13 = .int .i64 x13_1 /\ Aside0 (slices_Equal_int_int.l0 kq l0 l1 (l0.length : Int) x13_1 = some r) /\ Aside0 (kq <= k) /\ Drawn0 w w')
   case atStart => exact ⟨(0), RG, H', ⟨Nat.le_refl _⟩, DR⟩
   clear H'
   try clear c1; clear c3b0 c3b1 c3b2
   obtain ⟨x13_1, rfl, HA, HK1, ⟨m1, rfl⟩⟩ := hrel
   cases gk with
   | zero => exact absurd HA.1 (by simp [slices_Equal_int_int.l0])
   | succ k1 => ?_
   have H := HA.1
   clear HA
   simp only [slices_Equal_int_int.l0] at H
   replace H := ifB H; rcases H with ⟨c4b0, H⟩ | ⟨c4b0, H⟩
   · replace H := ifN H; obtain ⟨c5b0, H⟩ := H
     replace H := ifN H; obtain ⟨c6b0, H⟩ := H
     replace H := ifN H; obtain ⟨c7b0, H⟩ := H
     replace H := ifQ H; rcases H with ⟨c8, H⟩ | ⟨c8, H⟩
     · have c8b0 := beq_iff_eq.mpr c8
       have c8b1 := bne_eq_false_iff_eq.mpr c8
       clear c8
       have H' := Aside0.mk H
       clear H
       have p371 : 0 <= (x13_1 : Int) := OD
       have q371 : x13_1 < (l0.length : Int) := OD
       obtain ⟨ad371, e371, hx371_0⟩ := Kd.at_int HR0.1 x13_1 p371 q371
       cases e371
       replace p371 := eq_true p371
       replace q371 := eq_true q371
       have p372 : 0 <= (x13_1 : Int) := OD
       have q372 : x13_1 < (l1.length : Int) := OD
       obtain ⟨ad372, e372, hx372_0⟩ := Kd.at_int HR1.1 x13_1 p372 q372
       cases e372
       replace p372 := eq_true p372
       replace q372 := eq_true q372
       go_wp2
       repeat (go_quiet (fail); try go_wp2)
       go_roundg k1
       case measure => have := HK1.1; omega
       case rel => exact ⟨(wrap64 (x13_1 + 1)), RG, H', ⟨by have := HK1.1; omega⟩, DR⟩
     have c8b0 := beq_eq_false_iff_ne.mpr c8
     have c8b1 := bne_iff_ne.mpr c8
     obtain rfl := Option.some.inj H
     have p371 : 0 <= (x13_1 : Int) := OD
     have q371 : x13_1 < (l0.length : Int) := OD
     obtain ⟨ad371, e371, hx371_0⟩ := Kd.at_int HR0.1 x13_1 p371 q371
     cases e371
     replace p371 := eq_true p371
     replace q371 := eq_true q371
     have p372 : 0 <= (x13_1 : Int) := OD
     have q372 : x13_1 < (l1.length : Int) := OD
     obtain ⟨ad372, e372, hx372_0⟩ := Kd.at_int HR1.1 x13_1 p372 q372
     cases e372
     replace p372 := eq_true p372
     replace q372 := eq_true q372
     go_wp2
     repeat (go_quiet (fail); try go_wp2)
     go_ret
     exact ⟨RG, DR⟩
   obtain rfl := Option.some.inj H
   go_wp2
   repeat (go_quiet (fail); try go_wp2)
   go_ret
   exact ⟨RG, DR⟩
 have c3b0 := beq_eq_false_iff_ne.mpr c3
 have c3b1 := bne_iff_ne.mpr c3
 have c3b2 : (l0.length == l1.length) = false := by first | simpa using c3 | (simp at c3 ⊢; omega)
 obtain rfl := Option.some.inj H
 go_enter Try.func55, Try.ntmps55
 go_wp2
 repeat (go_quiet (fail); try go_wp2)
 go_ret
 exact ⟨RG, DR⟩
/-! ### impl_IsSymmetric: function 27 -/
open Kd
def impl_IsSymmetric.l0 : Nat -> Int -> Int -> List Int -> Option (Bool × Bool)
 | 0, _, _, _ => none
 | k + 1, x4, x374000, x374001 => if x4 < x374000 then ((impl_swapped.f k x374000 x374001 (wrap64 (x4 - 1)) x4).bind fun bt375 => ((slices_Equal_int_int.f k bt375.2 x374001).bind fun t379 => (if t379 = true then (impl_IsSymmetric.l0 k (wrap64 (x4 + 1)) x374000 x374001) else (some (false, true))))) else (some (true, true))
def impl_IsSymmetric.f (k : Nat) (a0_0 : Int) (l0_1 : List Int) : Option (Bool × Bool) := (impl_IsTable.f k a0_0 l0_1).bind fun t374 => (if t374 = true then (impl_IsSymmetric.l0 k 1 a0_0 l0_1) else (some (false, false)))
theorem impl_IsSymmetric.mono_l : ∀ k, (∀ y0 y1 y2, LeO (impl_IsSymmetric.l0 k y0 y1 y2) (impl_IsSymmetric.l0 (k + 1) y0 y1 y2))
 | 0 => fun _ _ _ r h => by simp [impl_IsSymmetric.l0] at h
 | k + 1 => by
  have ih0 := impl_IsSymmetric.mono_l k
  intros
  first | unfold impl_IsSymmetric.l0
  exact LM4 ih0 impl_IsTable.mono impl_swapped.mono slices_Equal_int_int.mono
theorem impl_IsSymmetric.mono : ∀ a0 a1 k, LeO (impl_IsSymmetric.f k a0 a1) (impl_IsSymmetric.f (k + 1) a0 a1) := by
 intro a0 a1 k
 have ih0 := impl_IsSymmetric.mono_l k
 unfold impl_IsSymmetric.f
 exact LM4 ih0 impl_IsTable.mono impl_swapped.mono slices_Equal_int_int.mono
def impl_IsSymmetric.T6 : Bool × List (List Nat × List Nat) := (true, [([], []), ([], []), ([1], [1]), ([], []), ([0, 2, 3], [0, 2, 3]), ([4], [4]), ([], []), ([6], [6]), ([5, 7, 4], [5, 7]), ([8], [8])])
def impl_IsSymmetric.B6 : List Nat := [0, 0, 2, 0, 15, 31, 0, 64, 255, 511]
theorem impl_IsSymmetric.tab6 : rtab .any (opsOf Try.f27 6) = impl_IsSymmetric.T6 := by kernel_rfl
theorem impl_IsSymmetric.bits6 : waitsOk impl_IsSymmetric.T6.2 impl_IsSymmetric.B6 = true := by kernel_rfl
theorem impl_IsSymmetric.calls (k : Nat) (a0_0 : Int) (A0_1 : Option Addr) (c0_1 : Nat) (l0_1 : List Int) (r1 : Bool) (r2 : Bool) (w : World) (hr0_1 : Kd.C (Kd.int .i64) w A0_1 l0_1.length l0_1) (hc0_1 : l0_1.length <= c0_1) (h : impl_IsSymmetric.f k a0_0 l0_1 = some (r1, r2)) :
 Calls Try.prog 27 #[.agg #[.int .i64 a0_0, .slice A0_1 l0_1.length c0_1]] w fun e w' => e = .returned (.tuple #[.bool r1, .bool r2]) /\ Below w.heap.size w w' := by
 have hfd1 : ∀ (x y : Value) (w : World), (Instr.field 28 (.agg #[x, y]) 1).run Try.prog w = .ok y w := fun x y w => by kernel_rfl
 have hu28 := Try.underlying28
 have HR0_1 := Aside0.mk hr0_1
 have HC0_1 := Aside0.mk hc0_1
 clear hr0_1 hc0_1
 have HB := Aside0.mk (Below.refl w.heap.size w)
 have H := h
 clear h
 unfold impl_IsSymmetric.f at H
 replace H := bindA H; obtain ⟨t374, A2, H⟩ := H
 replace H := ifX H; rcases H with ⟨rfl, H⟩ | ⟨rfl, H⟩
 · have H' := Aside0.mk H
   clear H
   go_enter Try.func27, Try.ntmps27
   go_wp2_with (first | ((with_reducible refine gate_dst (N := 1) rfl ?_); refine boxE (cs := #[.int .i64 a0_0, .slice A0_1 l0_1.length c0_1]) (t := 28) ?_; intro gb373 hg w4 hbox hb; refine E4b HB.1 hg hbox hb ?_; clear HB; intro HB BK373 GW373 GE373; clear hb hbox hg; obtain ⟨hcz5_0, hcz5_1, hfz5_0, hfz5_1⟩ := cz2 BK373.1) | ((with_reducible refine gate_callee (f := 39) rfl ?_); refine goesM (N := (some 6)) #[.agg #[.int .i64 a0_0, .slice A0_1 l0_1.length c0_1]] Try.func39 ?_; (with_reducible refine (impl_IsTable.calls k a0_0 _ _ l0_1 true _ ?side1 ?side2 A2.1).mono ?_); (case side1 => exact CB (C_below HR0_1.1 HB.1)); (case side2 => exact HC0_1.1); rintro e w6 ⟨rfl, hb⟩; refine ⟨_, rfl, ?_⟩; refine E2 (bB BK373.1 hb) (bS HB.1 hb) ?_; clear BK373 HB; intro BK373 HB; (try clear hb)))
   go_loopg [4] k (fun kq v4 w' => ∃ (x4_1 : Int), v4 = .int .i64 x4_1 /\ Aside0 (impl_IsSymmetric.l0 kq x4_1 a0_0 l0_1 = some (r1, r2)) /\ Aside0 (kq <= k) /\ Aside0 (w'.heap[gb373]? = some (.cells #[.int .i64 a0_0, (.slice A0_1 l0_1.length c0_1)] 28 (0, 0))) /\ Aside0 (Below w.heap.size w w'))
   case atStart => exact ⟨(1), RG, H', ⟨Nat.le_refl _⟩, ⟨PB BK373.1⟩, ⟨BL HB.1⟩⟩
   clear H'
   clear hcz5_0 hcz5_1 hfz5_0 hfz5_1
   obtain ⟨x4_1, rfl, HA, HK1, BK373, HB⟩ := hrel
   cases gk with
   | zero => exact absurd HA.1 (by simp [impl_IsSymmetric.l0])
   | succ k1 => ?_
   have H := HA.1
   clear HA
   simp only [impl_IsSymmetric.l0] at H
   replace H := ifB H; rcases H with ⟨c7b0, H⟩ | ⟨c7b0, H⟩
   · replace H := bindA H; obtain ⟨⟨t375, t376⟩, A8, H⟩ := H
     dsimp only at H
     replace H := bindA H; obtain ⟨t379, A9, H⟩ := H
     replace H := ifX H; rcases H with ⟨rfl, H⟩ | ⟨rfl, H⟩
     · have H' := Aside0.mk H
       clear H
       obtain ⟨hcz11_0, hcz11_1, hfz11_0, hfz11_1⟩ := cz2 BK373.1
       try go_wp2
       refine E2 (blk_drew BK373.1) (below_drew1 HB.1) ?_
       clear BK373 HB
       intro BK373 HB
       refine start_ (n := 10) (S := fun w' => w'.cell? ⟨gb373, 0, none⟩ = some (.int .i64 a0_0) /\ w'.cell? ⟨gb373, 1, none⟩ = some (.slice A0_1 l0_1.length c0_1)) (ds := []) #[Zz,Zz,Zz,Zz,Zz,Zz,Zz,Zz,Zz,Zz] (by kernel_rfl) rfl rfl ⟨(blk_cell BK373.1 0).trans rfl, (blk_cell BK373.1 1).trans rfl⟩ (fun hHeld => ?_); refine with_tabW impl_IsSymmetric.tab6 impl_IsSymmetric.bits6 (fun HT_ HW_ => ?_)
       generalize wr.drew = w12 at BK373 HB hHeld ⊢
       refine pureF 1 (N := some 15) HT_.1 ?_
       refine pureF 2 (N := some 16) HT_.1 ?_
       refine pureF 3 (N := some 17) HT_.1 ?_
       refine pureF 6 (N := some 20) HT_.1 ?_
       refine takeE 0 (N := some 14) HT_.1 HW_.1 hHeld ?_
       refine takeE 7 (N := some 21) HT_.1 HW_.1 hHeld ?_
       refine one_ (i := 4) (N := some 18) #[Yy,Yy,Yy,Yy,Yy,Zz,Yy,Yy,Zz,Zz] rfl rfl (one_of HT_.1 (by kernel_rfl)) (by decide) (fun K hK => ?_)
       refine goes_ Try.func49 (by kernel_rfl) rfl #[.agg #[.int .i64 a0_0, .slice A0_1 l0_1.length c0_1], .int .i64 (wrap64 (x4_1 - 1)), .int .i64 x4_1] (by rfl) rfl rfl (by (try simp only [List.map_toArray, List.map_cons, List.map_nil]); first | done | rfl | (simp only [List.length_drop, List.length_take]; rfl)) ?_
       with_reducible refine (impl_swapped.calls k1 a0_0 _ _ l0_1 (wrap64 (x4_1 - 1)) x4_1 t375 t376 _ ?side1 ?side2 A8.1).mono ?_
       (case side1 => exact CB (C_below HR0_1.1 HB.1))
       (case side2 => exact HC0_1.1)
       rintro e w13 ⟨v377, rfl, ho0, hb⟩
       refine ⟨_, rfl, ?_⟩
       refine E3 (R_lower ho0 (bZ HB.1)) (bB BK373.1 hb) (bS HB.1 hb) ?_
       clear BK373 HB
       intro HO378 BK373 HB
       (try clear hb)
       (try clear hb2)
       (try clear hk)
       (try clear hi)
       (try clear ho0)
       obtain ⟨Ao14, co14, eo14⟩ := R_slice HO378.1
       (first | subst eo14 | (injection eo14 with f1_ f2_ f3_; have f4_ := f1_.symm; have f5_ := f3_.symm; clear f1_ f2_ f3_; subst f4_; subst f5_))
       refine hK.out _ _ ⟨(blk_cell BK373.1 0).trans rfl, (blk_cell BK373.1 1).trans rfl⟩ (fun hHeld => ?_)
       clear hK K
       refine norm_ (a' := ?_) ?_ ?_
       rotate_left
       · show Act.put _ (some 18) _ = _
         simp only [Act.put, List.setIfInBounds_toArray, List.set_cons_zero, List.set_cons_succ, i64_w, i32_w]
         rfl
       refine pureF 5 (N := some 19) HT_.1 ?_
       refine one_ (i := 8) (N := some 22) #[Yy,Yy,Yy,Yy,Yy,Yy,Yy,Yy,Yy,Zz] rfl rfl (one_of HT_.1 (by kernel_rfl)) (by decide) (fun K hK => ?_)
       refine goes_ Try.func55 (by kernel_rfl) rfl #[.slice Ao14 t376.length co14, .slice A0_1 l0_1.length c0_1] (by rfl) rfl rfl (by (try simp only [List.map_toArray, List.map_cons, List.map_nil]); first | done | rfl | (simp only [List.length_drop, List.length_take]; rfl)) ?_
       with_reducible refine (slices_Equal_int_int.calls k1 _ _ t376 _ _ l0_1 true _ ?side1 ?side2 ?side3 ?side4 A9.1).mono ?_
       (case side1 => exact CB (R_reads' HO378.1).2.2)
       (case side2 => exact (R_reads' HO378.1).2.1)
       (case side3 => exact CB (C_below HR0_1.1 HB.1))
       (case side4 => exact HC0_1.1)
       rintro e w' ⟨rfl, ⟨nd, rfl⟩⟩
       refine ⟨_, rfl, ?_⟩
       refine hK.out _ _ ⟨(blk_cell BK373.1 0).trans rfl, (blk_cell BK373.1 1).trans rfl⟩ (fun hHeld => ?_)
       clear hK K
       refine norm_ (a' := ?_) ?_ ?_
       rotate_left
       · show Act.put _ (some 22) _ = _
         simp only [Act.put, List.setIfInBounds_toArray, List.set_cons_zero, List.set_cons_succ, i64_w, i32_w]
         rfl
       refine pureF 9 (N := some 23) HT_.1 ?_
       refine done_ (done_of HT_.1 (by kernel_rfl)) ?_
       try go_wp2
       go_roundg k1
       case measure => have := HK1.1; omega
       case rel => exact ⟨(wrap64 (x4_1 + 1)), RG, H', ⟨by have := HK1.1; omega⟩, ⟨PB BK373.1⟩, ⟨BL HB.1⟩⟩
     simp only [Option.some.injEq, Prod.mk.injEq] at H
     obtain ⟨rfl, rfl⟩ := H
     obtain ⟨hcz15_0, hcz15_1, hfz15_0, hfz15_1⟩ := cz2 BK373.1
     try go_wp2
     refine E2 (blk_drew BK373.1) (below_drew1 HB.1) ?_
     clear BK373 HB
     intro BK373 HB
     refine start_ (n := 10) (S := fun w' => w'.cell? ⟨gb373, 0, none⟩ = some (.int .i64 a0_0) /\ w'.cell? ⟨gb373, 1, none⟩ = some (.slice A0_1 l0_1.length c0_1)) (ds := []) #[Zz,Zz,Zz,Zz,Zz,Zz,Zz,Zz,Zz,Zz] (by kernel_rfl) rfl rfl ⟨(blk_cell BK373.1 0).trans rfl, (blk_cell BK373.1 1).trans rfl⟩ (fun hHeld => ?_); refine with_tabW impl_IsSymmetric.tab6 impl_IsSymmetric.bits6 (fun HT_ HW_ => ?_)
     generalize wr.drew = w16 at BK373 HB hHeld ⊢
     refine pureF 1 (N := some 15) HT_.1 ?_
     refine pureF 2 (N := some 16) HT_.1 ?_
     refine pureF 3 (N := some 17) HT_.1 ?_
     refine pureF 6 (N := some 20) HT_.1 ?_
     refine takeE 0 (N := some 14) HT_.1 HW_.1 hHeld ?_
     refine takeE 7 (N := some 21) HT_.1 HW_.1 hHeld ?_
     refine one_ (i := 4) (N := some 18) #[Yy,Yy,Yy,Yy,Yy,Zz,Yy,Yy,Zz,Zz] rfl rfl (one_of HT_.1 (by kernel_rfl)) (by decide) (fun K hK => ?_)
     refine goes_ Try.func49 (by kernel_rfl) rfl #[.agg #[.int .i64 a0_0, .slice A0_1 l0_1.length c0_1], .int .i64 (wrap64 (x4_1 - 1)), .int .i64 x4_1] (by rfl) rfl rfl (by (try simp only [List.map_toArray, List.map_cons, List.map_nil]); first | done | rfl | (simp only [List.length_drop, List.length_take]; rfl)) ?_
     with_reducible refine (impl_swapped.calls k1 a0_0 _ _ l0_1 (wrap64 (x4_1 - 1)) x4_1 t375 t376 _ ?side1 ?side2 A8.1).mono ?_
     (case side1 => exact CB (C_below HR0_1.1 HB.1))
     (case side2 => exact HC0_1.1)
     rintro e w17 ⟨v377, rfl, ho0, hb⟩
     refine ⟨_, rfl, ?_⟩
     refine E3 (R_lower ho0 (bZ HB.1)) (bB BK373.1 hb) (bS HB.1 hb) ?_
     clear BK373 HB
     intro HO378 BK373 HB
     (try clear hb)
     (try clear hb2)
     (try clear hk)
     (try clear hi)
     (try clear ho0)
     obtain ⟨Ao18, co18, eo18⟩ := R_slice HO378.1
     (first | subst eo18 | (injection eo18 with f1_ f2_ f3_; have f4_ := f1_.symm; have f5_ := f3_.symm; clear f1_ f2_ f3_; subst f4_; subst f5_))
     refine hK.out _ _ ⟨(blk_cell BK373.1 0).trans rfl, (blk_cell BK373.1 1).trans rfl⟩ (fun hHeld => ?_)
     clear hK K
     refine norm_ (a' := ?_) ?_ ?_
     rotate_left
     · show Act.put _ (some 18) _ = _
       simp only [Act.put, List.setIfInBounds_toArray, List.set_cons_zero, List.set_cons_succ, i64_w, i32_w]
       rfl
     refine pureF 5 (N := some 19) HT_.1 ?_
     refine one_ (i := 8) (N := some 22) #[Yy,Yy,Yy,Yy,Yy,Yy,Yy,Yy,Yy,Zz] rfl rfl (one_of HT_.1 (by kernel_rfl)) (by decide) (fun K hK => ?_)
     refine goes_ Try.func55 (by kernel_rfl) rfl #[.slice Ao18 t376.length co18, .slice A0_1 l0_1.length c0_1] (by rfl) rfl rfl (by (try simp only [List.map_toArray, List.map_cons, List.map_nil]); first | done | rfl | (simp only [List.length_drop, List.length_take]; rfl)) ?_
     with_reducible refine (slices_Equal_int_int.calls k1 _ _ t376 _ _ l0_1 false _ ?side1 ?side2 ?side3 ?side4 A9.1).mono ?_
     (case side1 => exact CB (R_reads' HO378.1).2.2)
     (case side2 => exact (R_reads' HO378.1).2.1)
     (case side3 => exact CB (C_below HR0_1.1 HB.1))
     (case side4 => exact HC0_1.1)
     rintro e w' ⟨rfl, ⟨nd, rfl⟩⟩
     refine ⟨_, rfl, ?_⟩
     refine hK.out _ _ ⟨(blk_cell BK373.1 0).trans rfl, (blk_cell BK373.1 1).trans rfl⟩ (fun hHeld => ?_)
     clear hK K
     refine norm_ (a' := ?_) ?_ ?_
     rotate_left
     · show Act.put _ (some 22) _ = _
       simp only [Act.put, List.setIfInBounds_toArray, List.set_cons_zero, List.set_cons_succ, i64_w, i32_w]
       rfl
     refine pureF 9 (N := some 23) HT_.1 ?_
     refine done_ (done_of HT_.1 (by kernel_rfl)) ?_
     try go_wp2
     go_ret2
     exact ⟨RF, BL HB.1⟩
   simp only [Option.some.injEq, Prod.mk.injEq] at H
   obtain ⟨rfl, rfl⟩ := H
   obtain ⟨hcz19_0, hcz19_1, hfz19_0, hfz19_1⟩ := cz2 BK373.1
   go_wp2
   go_ret2
   exact ⟨RF, BL HB.1⟩
 simp only [Option.some.injEq, Prod.mk.injEq] at H
 obtain ⟨rfl, rfl⟩ := H
 go_enter Try.func27, Try.ntmps27
 go_wp2_with (first | ((with_reducible refine gate_dst (N := 1) rfl ?_); refine boxE (cs := #[.int .i64 a0_0, .slice A0_1 l0_1.length c0_1]) (t := 28) ?_; intro gb373 hg w20 hbox hb; refine E4b HB.1 hg hbox hb ?_; clear HB; intro HB BK373 GW373 GE373; clear hb hbox hg; obtain ⟨hcz21_0, hcz21_1, hfz21_0, hfz21_1⟩ := cz2 BK373.1) | ((with_reducible refine gate_callee (f := 39) rfl ?_); refine goesM (N := (some 6)) #[.agg #[.int .i64 a0_0, .slice A0_1 l0_1.length c0_1]] Try.func39 ?_; (with_reducible refine (impl_IsTable.calls k a0_0 _ _ l0_1 false _ ?side1 ?side2 A2.1).mono ?_); (case side1 => exact CB (C_below HR0_1.1 HB.1)); (case side2 => exact HC0_1.1); rintro e w22 ⟨rfl, hb⟩; refine ⟨_, rfl, ?_⟩; refine E2 (bB BK373.1 hb) (bS HB.1 hb) ?_; clear BK373 HB; intro BK373 HB; (try clear hb)))
 go_ret2
 exact ⟨RF, BL HB.1⟩

/-! ### spec_l1Same: function 56 -/
open Kd
def spec_l1Same.l0 : Nat -> List Int -> List Int -> Int -> Int -> Option (Bool)
 | 0, _, _, _, _ => none
 | k + 1, x0, x1, x12, x13 => if x13 < x12 then (if 0 <= x13 then (if x13 < (x0.length : Int) then (if x13 < (x1.length : Int) then (if (rd x0 x13) = (rd x1 x13) then (spec_l1Same.l0 k x0 x1 x12 (wrap64 (x13 + 1))) else (some false)) else (none)) else (none)) else (none)) else (some true)
def spec_l1Same.f (k : Nat) (l0 : List Int) (l1 : List Int) : Option (Bool) := if (l0.length : Int) = (l1.length : Int) then (spec_l1Same.l0 k l0 l1 (l0.length : Int) 0) else (some false)
theorem spec_l1Same.mono_l : ∀ k, (∀ y0 y1 y2 y3, LeO (spec_l1Same.l0 k y0 y1 y2 y3) (spec_l1Same.l0 (k + 1) y0 y1 y2 y3))
 | 0 => fun _ _ _ _ r h => by simp [spec_l1Same.l0] at h
 | k + 1 => by
  have ih0 := spec_l1Same.mono_l k
  intros
  first | unfold spec_l1Same.l0
  exact LM1 ih0
theorem spec_l1Same.mono : ∀ a0 a1 k, LeO (spec_l1Same.f k a0 a1) (spec_l1Same.f (k + 1) a0 a1) := by
 intro a0 a1 k
 have ih0 := spec_l1Same.mono_l k
 unfold spec_l1Same.f
 exact LM1 ih0
theorem spec_l1Same.calls (k : Nat) (A0 : Option Addr) (c0 : Nat) (l0 : List Int) (A1 : Option Addr) (c1 : Nat) (l1 : List Int) (r : Bool) (w : World) (hr0 : Kd.C (Kd.int .i64) w A0 l0.length l0) (hc0 : l0.length <= c0) (hr1 : Kd.C (Kd.int .i64) w A1 l1.length l1) (hc1 : l1.length <= c1) (h : spec_l1Same.f k l0 l1 = some r) :
 Calls Try.prog 56 #[.slice A0 l0.length c0, .slice A1 l1.length c1] w fun e w' => e = .returned (.bool r) /\ Drawn0 w w' := by
 have HR0 := Aside0.mk hr0
 have HC0 := Aside0.mk hc0
 clear hr0 hc0
 have HR1 := Aside0.mk hr1
 have HC1 := Aside0.mk hc1
 clear hr1 hc1
 have H := h
 clear h
 unfold spec_l1Same.f at H
 replace H := ifQ H; rcases H with ⟨c3, H⟩ | ⟨c3, H⟩
 · have c3b0 := beq_iff_eq.mpr c3
   have c3b1 := bne_eq_false_iff_eq.mpr c3
   have c3b2 : (l0.length == l1.length) = true := by first | simpa using c3 | (simp at c3 ⊢; omega)
   clear c3
   have H' := Aside0.mk H
   clear H
   go_enter Try.func56, Try.ntmps56
   go_wp2
   repeat (go_quiet (fail); try go_wp2)
   go_loopg [13] k (fun kq v13 w' => ∃ (x13_1 : Int), v13 = .int .i64 x13_1 /\ Aside0 (spec_l1Same.l0 kq l0 l1 (l0.length : Int) x13_1 = some r) /\ Aside0 (kq <= k) /\ Drawn0 w w')
   case atStart => exact ⟨(0), RG, H', ⟨Nat.le_refl _⟩, DR⟩
   clear H'
   try clear c1; clear c3b0 c3b1 c3b2
   obtain ⟨x13_1, rfl, HA, HK1, ⟨m1, rfl⟩⟩ := hrel
   cases gk with
   | zero => exact absurd HA.1 (by simp [spec_l1Same.l0])
   | succ k1 => ?_
   have H := HA.1
   clear HA
   simp only [spec_l1Same.l0] at H
   replace H := ifB H; rcases H with ⟨c4b0, H⟩ | ⟨c4b0, H⟩
   · replace H := ifN H; obtain ⟨c5b0, H⟩ := H
     replace H := ifN H; obtain ⟨c6b0, H⟩ := H
     replace H := ifN H; obtain ⟨c7b0, H⟩ := H
     replace H := ifQ H; rcases H with ⟨c8, H⟩ | ⟨c8, H⟩
     · have c8b0 := beq_iff_eq.mpr c8
       have c8b1 := bne_eq_false_iff_eq.mpr c8
       clear c8
       have H' := Aside0.mk H
       clear H
       have p380 : 0 <= (x13_1 : Int) := OD
       have q380 : x13_1 < (l0.length : Int) := OD
       obtain ⟨ad380, e380, hx380_0⟩ := Kd.at_int HR0.1 x13_1 p380 q380
       cases e380
       replace p380 := eq_true p380
       replace q380 := eq_true q380
       have p381 : 0 <= (x13_1 : Int) := OD
       have q381 : x13_1 < (l1.length : Int) := OD
       obtain ⟨ad381, e381, hx381_0⟩ := Kd.at_int HR1.1 x13_1 p381 q381
       cases e381
       replace p381 := eq_true p381
       replace q381 := eq_true q381
       go_wp2
       repeat (go_quiet (fail); try go_wp2)
       go_roundg k1
       case measure => have := HK1.1; omega
       case rel => exact ⟨(wrap64 (x13_1 + 1)), RG, H', ⟨by have := HK1.1; omega⟩, DR⟩
     have c8b0 := beq_eq_false_iff_ne.mpr c8
     have c8b1 := bne_iff_ne.mpr c8
     obtain rfl := Option.some.inj H
     have p380 : 0 <= (x13_1 : Int) := OD
     have q380 : x13_1 < (l0.length : Int) := OD
     obtain ⟨ad380, e380, hx380_0⟩ := Kd.at_int HR0.1 x13_1 p380 q380
     cases e380
     replace p380 := eq_true p380
     replace q380 := eq_true q380
     have p381 : 0 <= (x13_1 : Int) := OD
     have q381 : x13_1 < (l1.length : Int) := OD
     obtain ⟨ad381, e381, hx381_0⟩ := Kd.at_int HR1.1 x13_1 p381 q381
     cases e381
     replace p381 := eq_true p381
     replace q381 := eq_true q381
     go_wp2
     repeat (go_quiet (fail); try go_wp2)
     go_ret
     exact ⟨RG, DR⟩
   obtain rfl := Option.some.inj H
   go_wp2
   repeat (go_quiet (fail); try go_wp2)
   go_ret
   exact ⟨RG, DR⟩
 have c3b0 := beq_eq_false_iff_ne.mpr c3
 have c3b1 := bne_iff_ne.mpr c3
 have c3b2 : (l0.length == l1.length) = false := by first | simpa using c3 | (simp at c3 ⊢; omega)
 obtain rfl := Option.some.inj H
 go_enter Try.func56, Try.ntmps56
 go_wp2
 repeat (go_quiet (fail); try go_wp2)
 go_ret
 exact ⟨RG, DR⟩
/-! ### spec_IsSymmetric: function 28 -/
open Kd
def spec_IsSymmetric.l0 : Nat -> Int -> Int -> List Int -> Option (Bool × Bool)
 | 0, _, _, _ => none
 | k + 1, x4, x383000, x383001 => if x4 < x383000 then ((spec_ttSwapped.f k x383000 x383001 (wrap64 (x4 - 1)) x4).bind fun bt384 => ((spec_l1Same.f k bt384.2 x383001).bind fun t388 => (if t388 = true then (spec_IsSymmetric.l0 k (wrap64 (x4 + 1)) x383000 x383001) else (some (false, true))))) else (some (true, true))
def spec_IsSymmetric.f (k : Nat) (a0_0 : Int) (l0_1 : List Int) : Option (Bool × Bool) := (spec_ttGood.f k a0_0 l0_1).bind fun t383 => (if t383 = true then (spec_IsSymmetric.l0 k 1 a0_0 l0_1) else (some (false, false)))
theorem spec_IsSymmetric.mono_l : ∀ k, (∀ y0 y1 y2, LeO (spec_IsSymmetric.l0 k y0 y1 y2) (spec_IsSymmetric.l0 (k + 1) y0 y1 y2))
 | 0 => fun _ _ _ r h => by simp [spec_IsSymmetric.l0] at h
 | k + 1 => by
  have ih0 := spec_IsSymmetric.mono_l k
  intros
  first | unfold spec_IsSymmetric.l0
  exact LM4 ih0 spec_l1Same.mono spec_ttGood.mono spec_ttSwapped.mono
theorem spec_IsSymmetric.mono : ∀ a0 a1 k, LeO (spec_IsSymmetric.f k a0 a1) (spec_IsSymmetric.f (k + 1) a0 a1) := by
 intro a0 a1 k
 have ih0 := spec_IsSymmetric.mono_l k
 unfold spec_IsSymmetric.f
 exact LM4 ih0 spec_l1Same.mono spec_ttGood.mono spec_ttSwapped.mono
def spec_IsSymmetric.T6 : Bool × List (List Nat × List Nat) := (true, [([], []), ([], []), ([1], [1]), ([], []), ([0, 2, 3], [0, 2, 3]), ([4], [4]), ([], []), ([6], [6]), ([5, 7, 4], [5, 7]), ([8], [8])])
def spec_IsSymmetric.B6 : List Nat := [0, 0, 2, 0, 15, 31, 0, 64, 255, 511]
theorem spec_IsSymmetric.tab6 : rtab .any (opsOf Try.f28 6) = spec_IsSymmetric.T6 := by kernel_rfl
theorem spec_IsSymmetric.bits6 : waitsOk spec_IsSymmetric.T6.2 spec_IsSymmetric.B6 = true := by kernel_rfl
theorem spec_IsSymmetric.calls (k : Nat) (a0_0 : Int) (A0_1 : Option Addr) (c0_1 : Nat) (l0_1 : List Int) (r1 : Bool) (r2 : Bool) (w : World) (hr0_1 : Kd.C (Kd.int .i64) w A0_1 l0_1.length l0_1) (hc0_1 : l0_1.length <= c0_1) (h : spec_IsSymmetric.f k a0_0 l0_1 = some (r1, r2)) :
 Calls Try.prog 28 #[.agg #[.int .i64 a0_0, .slice A0_1 l0_1.length c0_1]] w fun e w' => e = .returned (.tuple #[.bool r1, .bool r2]) /\ Below w.heap.size w w' := by
 have hfd1 : ∀ (x y : Value) (w : World), (Instr.field 28 (.agg #[x, y]) 1).run Try.prog w = .ok y w := fun x y w => by kernel_rfl
 have hu28 := Try.underlying28
 have HR0_1 := Aside0.mk hr0_1
 have HC0_1 := Aside0.mk hc0_1
 clear hr0_1 hc0_1
 have HB := Aside0.mk (Below.refl w.heap.size w)
 have H := h
 clear h
 unfold spec_IsSymmetric.f at H
 replace H := bindA H; obtain ⟨t383, A2, H⟩ := H
 replace H := ifX H; rcases H with ⟨rfl, H⟩ | ⟨rfl, H⟩
 · have H' := Aside0.mk H
   clear H
   go_enter Try.func28, Try.ntmps28
   go_wp2_with (first | ((with_reducible refine gate_dst (N := 1) rfl ?_); refine boxE (cs := #[.int .i64 a0_0, .slice A0_1 l0_1.length c0_1]) (t := 28) ?_; intro gb382 hg w4 hbox hb; refine E4b HB.1 hg hbox hb ?_; clear HB; intro HB BK382 GW382 GE382; clear hb hbox hg; obtain ⟨hcz5_0, hcz5_1, hfz5_0, hfz5_1⟩ := cz2 BK382.1) | ((with_reducible refine gate_callee (f := 34) rfl ?_); refine goesM (N := (some 6)) #[.agg #[.int .i64 a0_0, .slice A0_1 l0_1.length c0_1]] Try.func34 ?_; (with_reducible refine (spec_ttGood.calls k a0_0 _ _ l0_1 true _ ?side1 ?side2 A2.1).mono ?_); (case side1 => exact CB (C_below HR0_1.1 HB.1)); (case side2 => exact HC0_1.1); rintro e w6 ⟨rfl, hb⟩; refine ⟨_, rfl, ?_⟩; refine E2 (bB BK382.1 hb) (bS HB.1 hb) ?_; clear BK382 HB; intro BK382 HB; (try clear hb)))
   go_loopg [4] k (fun kq v4 w' => ∃ (x4_1 : Int), v4 = .int .i64 x4_1 /\ Aside0 (spec_IsSymmetric.l0 kq x4_1 a0_0 l0_1 = some (r1, r2)) /\ Aside0 (kq <= k) /\ Aside0 (w'.heap[gb382]? = some (.cells #[.int .i64 a0_0, (.slice A0_1 l0_1.length c0_1)] 28 (0, 0))) /\ Aside0 (Below w.heap.size w w'))
   case atStart => exact ⟨(1), RG, H', ⟨Nat.le_refl _⟩, ⟨PB BK382.1⟩, ⟨BL HB.1⟩⟩
   clear H'
   clear hcz5_0 hcz5_1 hfz5_0 hfz5_1
   obtain ⟨x4_1, rfl, HA, HK1, BK382, HB⟩ := hrel
   cases gk with
   | zero => exact absurd HA.1 (by simp [spec_IsSymmetric.l0])
   | succ k1 => ?_
   have H := HA.1
   clear HA
   simp only [spec_IsSymmetric.l0] at H
   replace H := ifB H; rcases H with ⟨c7b0, H⟩ | ⟨c7b0, H⟩
   · replace H := bindA H; obtain ⟨⟨t384, t385⟩, A8, H⟩ := H
     dsimp only at H
     replace H := bindA H; obtain ⟨t388, A9, H⟩ := H
     replace H := ifX H; rcases H with ⟨rfl, H⟩ | ⟨rfl, H⟩
     · have H' := Aside0.mk H
       clear H
       obtain ⟨hcz11_0, hcz11_1, hfz11_0, hfz11_1⟩ := cz2 BK382.1
       try go_wp2
       refine E2 (blk_drew BK382.1) (below_drew1 HB.1) ?_
       clear BK382 HB
       intro BK382 HB
       refine start_ (n := 10) (S := fun w' => w'.cell? ⟨gb382, 0, none⟩ = some (.int .i64 a0_0) /\ w'.cell? ⟨gb382, 1, none⟩ = some (.slice A0_1 l0_1.length c0_1)) (ds := []) #[Zz,Zz,Zz,Zz,Zz,Zz,Zz,Zz,Zz,Zz] (by kernel_rfl) rfl rfl ⟨(blk_cell BK382.1 0).trans rfl, (blk_cell BK382.1 1).trans rfl⟩ (fun hHeld => ?_); refine with_tabW spec_IsSymmetric.tab6 spec_IsSymmetric.bits6 (fun HT_ HW_ => ?_)
       generalize wr.drew = w12 at BK382 HB hHeld ⊢
       refine pureF 1 (N := some 15) HT_.1 ?_
       refine pureF 2 (N := some 16) HT_.1 ?_
       refine pureF 3 (N := some 17) HT_.1 ?_
       refine pureF 6 (N := some 20) HT_.1 ?_
       refine takeE 0 (N := some 14) HT_.1 HW_.1 hHeld ?_
       refine takeE 7 (N := some 21) HT_.1 HW_.1 hHeld ?_
       refine one_ (i := 4) (N := some 18) #[Yy,Yy,Yy,Yy,Yy,Zz,Yy,Yy,Zz,Zz] rfl rfl (one_of HT_.1 (by kernel_rfl)) (by decide) (fun K hK => ?_)
       refine goes_ Try.func51 (by kernel_rfl) rfl #[.agg #[.int .i64 a0_0, .slice A0_1 l0_1.length c0_1], .int .i64 (wrap64 (x4_1 - 1)), .int .i64 x4_1] (by rfl) rfl rfl (by (try simp only [List.map_toArray, List.map_cons, List.map_nil]); first | done | rfl | (simp only [List.length_drop, List.length_take]; rfl)) ?_
       with_reducible refine (spec_ttSwapped.calls k1 a0_0 _ _ l0_1 (wrap64 (x4_1 - 1)) x4_1 t384 t385 _ ?side1 ?side2 A8.1).mono ?_
       (case side1 => exact CB (C_below HR0_1.1 HB.1))
       (case side2 => exact HC0_1.1)
       rintro e w13 ⟨v386, rfl, ho0, hb⟩
       refine ⟨_, rfl, ?_⟩
       refine E3 (R_lower ho0 (bZ HB.1)) (bB BK382.1 hb) (bS HB.1 hb) ?_
       clear BK382 HB
       intro HO387 BK382 HB
       (try clear hb)
       (try clear hb2)
       (try clear hk)
       (try clear hi)
       (try clear ho0)
       obtain ⟨Ao14, co14, eo14⟩ := R_slice HO387.1
       (first | subst eo14 | (injection eo14 with f1_ f2_ f3_; have f4_ := f1_.symm; have f5_ := f3_.symm; clear f1_ f2_ f3_; subst f4_; subst f5_))
       refine hK.out _ _ ⟨(blk_cell BK382.1 0).trans rfl, (blk_cell BK382.1 1).trans rfl⟩ (fun hHeld => ?_)
       clear hK K
       refine norm_ (a' := ?_) ?_ ?_
       rotate_left
       · show Act.put _ (some 18) _ = _
         simp only [Act.put, List.setIfInBounds_toArray, List.set_cons_zero, List.set_cons_succ, i64_w, i32_w]
         rfl
       refine pureF 5 (N := some 19) HT_.1 ?_
       refine one_ (i := 8) (N := some 22) #[Yy,Yy,Yy,Yy,Yy,Yy,Yy,Yy,Yy,Zz] rfl rfl (one_of HT_.1 (by kernel_rfl)) (by decide) (fun K hK => ?_)
       refine goes_ Try.func56 (by kernel_rfl) rfl #[.slice Ao14 t385.length co14, .slice A0_1 l0_1.length c0_1] (by rfl) rfl rfl (by (try simp only [List.map_toArray, List.map_cons, List.map_nil]); first | done | rfl | (simp only [List.length_drop, List.length_take]; rfl)) ?_
       with_reducible refine (spec_l1Same.calls k1 _ _ t385 _ _ l0_1 true _ ?side1 ?side2 ?side3 ?side4 A9.1).mono ?_
       (case side1 => exact CB (R_reads' HO387.1).2.2)
       (case side2 => exact (R_reads' HO387.1).2.1)
       (case side3 => exact CB (C_below HR0_1.1 HB.1))
       (case side4 => exact HC0_1.1)
       rintro e w' ⟨rfl, ⟨nd, rfl⟩⟩
       refine ⟨_, rfl, ?_⟩
       refine hK.out _ _ ⟨(blk_cell BK382.1 0).trans rfl, (blk_cell BK382.1 1).trans rfl⟩ (fun hHeld => ?_)
       clear hK K
       refine norm_ (a' := ?_) ?_ ?_
       rotate_left
       · show Act.put _ (some 22) _ = _
         simp only [Act.put, List.setIfInBounds_toArray, List.set_cons_zero, List.set_cons_succ, i64_w, i32_w]
         rfl
       refine pureF 9 (N := some 23) HT_.1 ?_
       refine done_ (done_of HT_.1 (by kernel_rfl)) ?_
       try go_wp2
       go_roundg k1
       case measure => have := HK1.1; omega
       case rel => exact ⟨(wrap64 (x4_1 + 1)), RG, H', ⟨by have := HK1.1; omega⟩, ⟨PB BK382.1⟩, ⟨BL HB.1⟩⟩
     simp only [Option.some.injEq, Prod.mk.injEq] at H
     obtain ⟨rfl, rfl⟩ := H
     obtain ⟨hcz15_0, hcz15_1, hfz15_0, hfz15_1⟩ := cz2 BK382.1
     try go_wp2
     refine E2 (blk_drew BK382.1) (below_drew1 HB.1) ?_
     clear BK382 HB
     intro BK382 HB
     refine start_ (n := 10) (S := fun w' => w'.cell? ⟨gb382, 0, none⟩ = some (.int .i64 a0_0) /\ w'.cell? ⟨gb382, 1, none⟩ = some (.slice A0_1 l0_1.length c0_1)) (ds := []) #[Zz,Zz,Zz,Zz,Zz,Zz,Zz,Zz,Zz,Zz] (by kernel_rfl) rfl rfl ⟨(blk_cell BK382.1 0).trans rfl, (blk_cell BK382.1 1).trans rfl⟩ (fun hHeld => ?_); refine with_tabW spec_IsSymmetric.tab6 spec_IsSymmetric.bits6 (fun HT_ HW_ => ?_)
     generalize wr.drew = w16 at BK382 HB hHeld ⊢
     refine pureF 1 (N := some 15) HT_.1 ?_
     refine pureF 2 (N := some 16) HT_.1 ?_
     refine pureF 3 (N := some 17) HT_.1 ?_
     refine pureF 6 (N := some 20) HT_.1 ?_
     refine takeE 0 (N := some 14) HT_.1 HW_.1 hHeld ?_
     refine takeE 7 (N := some 21) HT_.1 HW_.1 hHeld ?_
     refine one_ (i := 4) (N := some 18) #[Yy,Yy,Yy,Yy,Yy,Zz,Yy,Yy,Zz,Zz] rfl rfl (one_of HT_.1 (by kernel_rfl)) (by decide) (fun K hK => ?_)
     refine goes_ Try.func51 (by kernel_rfl) rfl #[.agg #[.int .i64 a0_0, .slice A0_1 l0_1.length c0_1], .int .i64 (wrap64 (x4_1 - 1)), .int .i64 x4_1] (by rfl) rfl rfl (by (try simp only [List.map_toArray, List.map_cons, List.map_nil]); first | done | rfl | (simp only [List.length_drop, List.length_take]; rfl)) ?_
     with_reducible refine (spec_ttSwapped.calls k1 a0_0 _ _ l0_1 (wrap64 (x4_1 - 1)) x4_1 t384 t385 _ ?side1 ?side2 A8.1).mono ?_
     (case side1 => exact CB (C_below HR0_1.1 HB.1))
     (case side2 => exact HC0_1.1)
     rintro e w17 ⟨v386, rfl, ho0, hb⟩
     refine ⟨_, rfl, ?_⟩
     refine E3 (R_lower ho0 (bZ HB.1)) (bB BK382.1 hb) (bS HB.1 hb) ?_
     clear BK382 HB
     intro HO387 BK382 HB
     (try clear hb)
     (try clear hb2)
     (try clear hk)
     (try clear hi)
     (try clear ho0)
     obtain ⟨Ao18, co18, eo18⟩ := R_slice HO387.1
     (first | subst eo18 | (injection eo18 with f1_ f2_ f3_; have f4_ := f1_.symm; have f5_ := f3_.symm; clear f1_ f2_ f3_; subst f4_; subst f5_))
     refine hK.out _ _ ⟨(blk_cell BK382.1 0).trans rfl, (blk_cell BK382.1 1).trans rfl⟩ (fun hHeld => ?_)
     clear hK K
     refine norm_ (a' := ?_) ?_ ?_
     rotate_left
     · show Act.put _ (some 18) _ = _
       simp only [Act.put, List.setIfInBounds_toArray, List.set_cons_zero, List.set_cons_succ, i64_w, i32_w]
       rfl
     refine pureF 5 (N := some 19) HT_.1 ?_
     refine one_ (i := 8) (N := some 22) #[Yy,Yy,Yy,Yy,Yy,Yy,Yy,Yy,Yy,Zz] rfl rfl (one_of HT_.1 (by kernel_rfl)) (by decide) (fun K hK => ?_)
     refine goes_ Try.func56 (by kernel_rfl) rfl #[.slice Ao18 t385.length co18, .slice A0_1 l0_1.length c0_1] (by rfl) rfl rfl (by (try simp only [List.map_toArray, List.map_cons, List.map_nil]); first | done | rfl | (simp only [List.length_drop, List.length_take]; rfl)) ?_
     with_reducible refine (spec_l1Same.calls k1 _ _ t385 _ _ l0_1 false _ ?side1 ?side2 ?side3 ?side4 A9.1).mono ?_
     (case side1 => exact CB (R_reads' HO387.1).2.2)
     (case side2 => exact (R_reads' HO387.1).2.1)
     (case side3 => exact CB (C_below HR0_1.1 HB.1))
     (case side4 => exact HC0_1.1)
     rintro e w' ⟨rfl, ⟨nd, rfl⟩⟩
     refine ⟨_, rfl, ?_⟩
     refine hK.out _ _ ⟨(blk_cell BK382.1 0).trans rfl, (blk_cell BK382.1 1).trans rfl⟩ (fun hHeld => ?_)
     clear hK K
     refine norm_ (a' := ?_) ?_ ?_
     rotate_left
     · show Act.put _ (some 22) _ = _
       simp only [Act.put, List.setIfInBounds_toArray, List.set_cons_zero, List.set_cons_succ, i64_w, i32_w]
       rfl
     refine pureF 9 (N := some 23) HT_.1 ?_
     refine done_ (done_of HT_.1 (by kernel_rfl)) ?_
     try go_wp2
     go_ret2
     exact ⟨RF, BL HB.1⟩
   simp only [Option.some.injEq, Prod.mk.injEq] at H
   obtain ⟨rfl, rfl⟩ := H
   obtain ⟨hcz19_0, hcz19_1, hfz19_0, hfz19_1⟩ := cz2 BK382.1
   go_wp2
   go_ret2
   exact ⟨RF, BL HB.1⟩
 simp only [Option.some.injEq, Prod.mk.injEq] at H
 obtain ⟨rfl, rfl⟩ := H
 go_enter Try.func28, Try.ntmps28
 go_wp2_with (first | ((with_reducible refine gate_dst (N := 1) rfl ?_); refine boxE (cs := #[.int .i64 a0_0, .slice A0_1 l0_1.length c0_1]) (t := 28) ?_; intro gb382 hg w20 hbox hb; refine E4b HB.1 hg hbox hb ?_; clear HB; intro HB BK382 GW382 GE382; clear hb hbox hg; obtain ⟨hcz21_0, hcz21_1, hfz21_0, hfz21_1⟩ := cz2 BK382.1) | ((with_reducible refine gate_callee (f := 34) rfl ?_); refine goesM (N := (some 6)) #[.agg #[.int .i64 a0_0, .slice A0_1 l0_1.length c0_1]] Try.func34 ?_; (with_reducible refine (spec_ttGood.calls k a0_0 _ _ l0_1 false _ ?side1 ?side2 A2.1).mono ?_); (case side1 => exact CB (C_below HR0_1.1 HB.1)); (case side2 => exact HC0_1.1); rintro e w22 ⟨rfl, hb⟩; refine ⟨_, rfl, ?_⟩; refine E2 (bB BK382.1 hb) (bS HB.1 hb) ?_; clear BK382 HB; intro BK382 HB; (try clear hb)))
 go_ret2
 exact ⟨RF, BL HB.1⟩

/-! ### laws_qInts: function 30 -/
open Kd
def laws_qInts.l0 : Nat -> List Int -> List Int -> Int -> Int -> Option (Bool)
 | 0, _, _, _, _ => none
 | k + 1, x0, x1, x12, x13 => if x13 < x12 then (if 0 <= x13 then (if x13 < (x0.length : Int) then (if x13 < (x1.length : Int) then (if (rd x0 x13) = (rd x1 x13) then (laws_qInts.l0 k x0 x1 x12 (wrap64 (x13 + 1))) else (some false)) else (none)) else (none)) else (none)) else (some true)
def laws_qInts.f (k : Nat) (l0 : List Int) (l1 : List Int) : Option (Bool) := if (l0.length : Int) = (l1.length : Int) then (laws_qInts.l0 k l0 l1 (l0.length : Int) 0) else (some false)
theorem laws_qInts.mono_l : ∀ k, (∀ y0 y1 y2 y3, LeO (laws_qInts.l0 k y0 y1 y2 y3) (laws_qInts.l0 (k + 1) y0 y1 y2 y3))
 | 0 => fun _ _ _ _ r h => by simp [laws_qInts.l0] at h
 | k + 1 => by
  have ih0 := laws_qInts.mono_l k
  intros
  first | unfold laws_qInts.l0
  exact LM1 ih0
theorem laws_qInts.mono : ∀ a0 a1 k, LeO (laws_qInts.f k a0 a1) (laws_qInts.f (k + 1) a0 a1) := by
 intro a0 a1 k
 have ih0 := laws_qInts.mono_l k
 unfold laws_qInts.f
 exact LM1 ih0
theorem laws_qInts.calls (k : Nat) (A0 : Option Addr) (c0 : Nat) (l0 : List Int) (A1 : Option Addr) (c1 : Nat) (l1 : List Int) (r : Bool) (w : World) (hr0 : Kd.C (Kd.int .i64) w A0 l0.length l0) (hc0 : l0.length <= c0) (hr1 : Kd.C (Kd.int .i64) w A1 l1.length l1) (hc1 : l1.length <= c1) (h : laws_qInts.f k l0 l1 = some r) :
 Calls Try.prog 30 #[.slice A0 l0.length c0, .slice A1 l1.length c1] w fun e w' => e = .returned (.bool r) /\ Drawn0 w w' := by
 have HR0 := Aside0.mk hr0
 have HC0 := Aside0.mk hc0
 clear hr0 hc0
 have HR1 := Aside0.mk hr1
 have HC1 := Aside0.mk hc1
 clear hr1 hc1
 have H := h
 clear h
 unfold laws_qInts.f at H
 replace H := ifQ H; rcases H with ⟨c3, H⟩ | ⟨c3, H⟩
 · have c3b0 := beq_iff_eq.mpr c3
   have c3b1 := bne_eq_false_iff_eq.mpr c3
   have c3b2 : (l0.length == l1.length) = true := by first | simpa using c3 | (simp at c3 ⊢; omega)
   clear c3
   have H' := Aside0.mk H
   clear H
   go_enter Try.func30, Try.ntmps30
   go_wp2
   repeat (go_quiet (fail); try go_wp2)
   go_loopg [13] k (fun kq v13 w' => ∃ (x13_1 : Int), v13 = .int .i64 x13_1 /\ Aside0 (laws_qInts.l0 kq l0 l1 (l0.length : Int) x13_1 = some r) /\ Aside0 (kq <= k) /\ Drawn0 w w')
   case atStart => exact ⟨(0), RG, H', ⟨Nat.le_refl _⟩, DR⟩
   clear H'
   try clear c1; clear c3b0 c3b1 c3b2
   obtain ⟨x13_1, rfl, HA, HK1, ⟨m1, rfl⟩⟩ := hrel
   cases gk with
   | zero => exact absurd HA.1 (by simp [laws_qInts.l0])
   | succ k1 => ?_
   have H := HA.1
   clear HA
   simp only [laws_qInts.l0] at H
   replace H := ifB H; rcases H with ⟨c4b0, H⟩ | ⟨c4b0, H⟩
   · replace H := ifN H; obtain ⟨c5b0, H⟩ := H
     replace H := ifN H; obtain ⟨c6b0, H⟩ := H
     replace H := ifN H; obtain ⟨c7b0, H⟩ := H
     replace H := ifQ H; rcases H with ⟨c8, H⟩ | ⟨c8, H⟩
     · have c8b0 := beq_iff_eq.mpr c8
       have c8b1 := bne_eq_false_iff_eq.mpr c8
       clear c8
       have H' := Aside0.mk H
       clear H
       have p389 : 0 <= (x13_1 : Int) := OD
       have q389 : x13_1 < (l0.length : Int) := OD
       obtain ⟨ad389, e389, hx389_0⟩ := Kd.at_int HR0.1 x13_1 p389 q389
       cases e389
       replace p389 := eq_true p389
       replace q389 := eq_true q389
       have p390 : 0 <= (x13_1 : Int) := OD
       have q390 : x13_1 < (l1.length : Int) := OD
       obtain ⟨ad390, e390, hx390_0⟩ := Kd.at_int HR1.1 x13_1 p390 q390
       cases e390
       replace p390 := eq_true p390
       replace q390 := eq_true q390
       go_wp2
       repeat (go_quiet (fail); try go_wp2)
       go_roundg k1
       case measure => have := HK1.1; omega
       case rel => exact ⟨(wrap64 (x13_1 + 1)), RG, H', ⟨by have := HK1.1; omega⟩, DR⟩
     have c8b0 := beq_eq_false_iff_ne.mpr c8
     have c8b1 := bne_iff_ne.mpr c8
     obtain rfl := Option.some.inj H
     have p389 : 0 <= (x13_1 : Int) := OD
     have q389 : x13_1 < (l0.length : Int) := OD
     obtain ⟨ad389, e389, hx389_0⟩ := Kd.at_int HR0.1 x13_1 p389 q389
     cases e389
     replace p389 := eq_true p389
     replace q389 := eq_true q389
     have p390 : 0 <= (x13_1 : Int) := OD
     have q390 : x13_1 < (l1.length : Int) := OD
     obtain ⟨ad390, e390, hx390_0⟩ := Kd.at_int HR1.1 x13_1 p390 q390
     cases e390
     replace p390 := eq_true p390
     replace q390 := eq_true q390
     go_wp2
     repeat (go_quiet (fail); try go_wp2)
     go_ret
     exact ⟨RG, DR⟩
   obtain rfl := Option.some.inj H
   go_wp2
   repeat (go_quiet (fail); try go_wp2)
   go_ret
   exact ⟨RG, DR⟩
 have c3b0 := beq_eq_false_iff_ne.mpr c3
 have c3b1 := bne_iff_ne.mpr c3
 have c3b2 : (l0.length == l1.length) = false := by first | simpa using c3 | (simp at c3 ⊢; omega)
 obtain rfl := Option.some.inj H
 go_enter Try.func30, Try.ntmps30
 go_wp2
 repeat (go_quiet (fail); try go_wp2)
 go_ret
 exact ⟨RG, DR⟩
end Go.Proofs.Ytgekdgggpfiamaa.P
