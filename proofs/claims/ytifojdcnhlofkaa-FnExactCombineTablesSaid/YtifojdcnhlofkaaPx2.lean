-- PRINTED by print.py (a twelfth state) out of the translation. Not trusted: Lean checks it.
import Derived.Test.YtifojdcnhlofkaaPx0
import Derived.Test.YtifojdcnhlofkaaPx1
namespace Go.Proofs.Ytifojdcnhlofkaa.P
open Go.RowKit Go.Proofs.YtifojdcnhlofkaaW.PrintWords Go.Proofs.YtifojdcnhlofkaaW.PrintLast Go.Proofs.YtifojdcnhlofkaaW.PrintMore
attribute [local go_sem] max2_int min2_int max_two min_two max_three min_three max_four min_four   -- for this text's walks alone
set_option linter.unusedVariables false
set_option linter.unusedSimpArgs false
set_option maxHeartbeats 8000000
set_option maxRecDepth 100000

/-! ### impl_CombineTables: function 7 -/
open Kd
mutual
def impl_CombineTables.j0 : Nat -> Int -> Bool -> Int -> List Int -> Int -> List Int -> Option (Int × List Int × Bool)
 | 0, _, _, _, _, _, _ => none
 | k + 1, x0, x35, x139000, x139001, x140000, x140001 => if x35 = true then (some (0, ([] : List Int), false)) else (impl_CombineTables.l0 k x0 (x139001.length : Int) 0 x139000 x139001 x140000 x140001 x139000 ([] : List Int))
def impl_CombineTables.l0 : Nat -> Int -> Int -> Int -> Int -> List Int -> Int -> List Int -> Int -> List Int -> Option (Int × List Int × Bool)
 | 0, _, _, _, _, _, _, _, _, _ => none
 | k + 1, x0, x42, x43, x139000, x139001, x140000, x140001, x144000, x144001 => if x43 < x42 then (if 0 <= x43 then (if x43 < (x139001.length : Int) then (if x43 < (x140001.length : Int) then (if x0 = 1 then (if x144001.length < 17592186044416 then (impl_CombineTables.l0 k x0 x42 (wrap64 (x43 + 1)) x139000 x139001 x140000 x140001 x144000 (x144001 ++ [Go.bits .and .i64 (rd x139001 x43) (rd x140001 x43)])) else (none)) else (if x0 = 2 then (if x144001.length < 17592186044416 then (impl_CombineTables.l0 k x0 x42 (wrap64 (x43 + 1)) x139000 x139001 x140000 x140001 x144000 (x144001 ++ [Go.bits .or .i64 (rd x139001 x43) (rd x140001 x43)])) else (none)) else (if x0 = 3 then (if x144001.length < 17592186044416 then (impl_CombineTables.l0 k x0 x42 (wrap64 (x43 + 1)) x139000 x139001 x140000 x140001 x144000 (x144001 ++ [Go.bits .xor .i64 (rd x139001 x43) (rd x140001 x43)])) else (none)) else (if x144001.length < 17592186044416 then (impl_CombineTables.l0 k x0 x42 (wrap64 (x43 + 1)) x139000 x139001 x140000 x140001 x144000 (x144001 ++ [Go.bits .or .i64 (wrap64 (1 - (rd x139001 x43))) (rd x140001 x43)])) else (none))))) else (none)) else (none)) else (none)) else (some (x144000, x144001, true))
end
def impl_CombineTables.f (k : Nat) (a0 : Int) (a1_0 : Int) (l1_1 : List Int) (a2_0 : Int) (l2_1 : List Int) : Option (Int × List Int × Bool) := (impl_IsTable.f k a1_0 l1_1).bind fun t141 => (if t141 = true then ((impl_IsTable.f k a2_0 l2_1).bind fun t142 => (if t142 = true then (if a1_0 = a2_0 then (if a0 < 1 then (impl_CombineTables.j0 k a0 true a1_0 l1_1 a2_0 l2_1) else (impl_CombineTables.j0 k a0 (decide (a0 > 4)) a1_0 l1_1 a2_0 l2_1)) else (impl_CombineTables.j0 k a0 true a1_0 l1_1 a2_0 l2_1)) else (impl_CombineTables.j0 k a0 true a1_0 l1_1 a2_0 l2_1))) else (impl_CombineTables.j0 k a0 true a1_0 l1_1 a2_0 l2_1))
theorem impl_CombineTables.mono_l : ∀ k, (∀ y0 y1 y2 y3 y4 y5, LeO (impl_CombineTables.j0 k y0 y1 y2 y3 y4 y5) (impl_CombineTables.j0 (k + 1) y0 y1 y2 y3 y4 y5)) /\ (∀ y0 y1 y2 y3 y4 y5 y6 y7 y8, LeO (impl_CombineTables.l0 k y0 y1 y2 y3 y4 y5 y6 y7 y8) (impl_CombineTables.l0 (k + 1) y0 y1 y2 y3 y4 y5 y6 y7 y8))
 | 0 => by refine ⟨?_, ?_⟩ <;> (intros; intro r h; first | (simp [impl_CombineTables.j0] at h; done) | (simp [impl_CombineTables.l0] at h; done))
 | k + 1 => by
  obtain ⟨ih0, ih1⟩ := impl_CombineTables.mono_l k
  refine ⟨?_, ?_⟩ <;> (
   intros
   first | unfold impl_CombineTables.j0 | unfold impl_CombineTables.l0
   exact LM3 ih0 ih1 impl_IsTable.mono)
theorem impl_CombineTables.mono : ∀ a0 a1 a2 a3 a4 k, LeO (impl_CombineTables.f k a0 a1 a2 a3 a4) (impl_CombineTables.f (k + 1) a0 a1 a2 a3 a4) := by
 intro a0 a1 a2 a3 a4 k
 obtain ⟨ih0, ih1⟩ := impl_CombineTables.mono_l k
 unfold impl_CombineTables.f
 exact LM3 ih0 ih1 impl_IsTable.mono
theorem impl_CombineTables.calls (k : Nat) (a0 : Int) (a1_0 : Int) (A1_1 : Option Addr) (c1_1 : Nat) (l1_1 : List Int) (a2_0 : Int) (A2_1 : Option Addr) (c2_1 : Nat) (l2_1 : List Int) (r1 : Int) (r2 : List Int) (r3 : Bool) (w : World) (hr1_1 : Kd.C (Kd.int .i64) w A1_1 l1_1.length l1_1) (hc1_1 : l1_1.length <= c1_1) (hr2_1 : Kd.C (Kd.int .i64) w A2_1 l2_1.length l2_1) (hc2_1 : l2_1.length <= c2_1) (h : impl_CombineTables.f k a0 a1_0 l1_1 a2_0 l2_1 = some (r1, r2, r3)) :
 Calls Try.prog 7 #[.int .i64 a0, .agg #[.int .i64 a1_0, .slice A1_1 l1_1.length c1_1], .agg #[.int .i64 a2_0, .slice A2_1 l2_1.length c2_1]] w fun e w' => ∃ v1_ : Value, e = .returned (.tuple #[.agg #[.int .i64 r1, v1_], .bool r3]) /\ Kd.R (Kd.int .i64) 3 w' w.heap.size (fun _ => True) v1_ r2 /\ Below w.heap.size w w' := by
 have hu26 := Try.underlying26
 have HR1_1 := Aside0.mk hr1_1
 have HC1_1 := Aside0.mk hc1_1
 clear hr1_1 hc1_1
 have HR2_1 := Aside0.mk hr2_1
 have HC2_1 := Aside0.mk hc2_1
 clear hr2_1 hc2_1
 have HB := Aside0.mk (Below.refl w.heap.size w)
 have H := h
 clear h
 unfold impl_CombineTables.f at H
 have HC4 := Aside0.mk H
 clear H
 go_enter Try.func7, Try.ntmps7
 go_upto_region 1 with (first | ((with_reducible refine gate_dst (N := 4) rfl ?_); refine boxE (cs := #[.int .i64 a1_0, .slice A1_1 l1_1.length c1_1]) (t := 26) ?_; intro gb138 hg w5 hbox hb; refine E4b HB.1 hg hbox hb ?_; clear HB; intro HB BK138 GW138 GE138; clear hb hbox hg) | ((with_reducible refine gate_dst (N := 5) rfl ?_); refine boxE (cs := #[.int .i64 a2_0, .slice A2_1 l2_1.length c2_1]) (t := 26) ?_; intro gb139 hg w6 hbox hb; refine E7 (bB BK138.1 hb) (bS HB.1 hb) (hbox) (gX HB.1 hg) (gX HB.1 hg) (nB BK138.1 hg) (nC BK138.1 hg) ?_; clear BK138 HB; intro BK138 HB BK139 GW139 GE139 NB138_139 NB139_138; clear hb hbox hg) | ((with_reducible refine gate_dst (N := 6) rfl ?_); refine boxE (cs := #[.int .i64 0, .slice none 0 0]) (t := 26) ?_; intro gb140 hg w7 hbox hb; refine E10 (bB BK138.1 hb) (bB BK139.1 hb) (bS HB.1 hb) (hbox) (gX HB.1 hg) (gX HB.1 hg) (nB BK138.1 hg) (nC BK138.1 hg) (nB BK139.1 hg) (nC BK139.1 hg) ?_; clear BK138 BK139 HB; intro BK138 BK139 HB BK140 GW140 GE140 NB138_140 NB140_138 NB139_140 NB140_139; clear hb hbox hg))
 repeat (go_quiet (first | ((with_reducible refine gate_dst (N := 4) rfl ?_); refine boxE (cs := #[.int .i64 a1_0, .slice A1_1 l1_1.length c1_1]) (t := 26) ?_; intro gb138 hg w5 hbox hb; refine E4b HB.1 hg hbox hb ?_; clear HB; intro HB BK138 GW138 GE138; clear hb hbox hg) | ((with_reducible refine gate_dst (N := 5) rfl ?_); refine boxE (cs := #[.int .i64 a2_0, .slice A2_1 l2_1.length c2_1]) (t := 26) ?_; intro gb139 hg w6 hbox hb; refine E7 (bB BK138.1 hb) (bS HB.1 hb) (hbox) (gX HB.1 hg) (gX HB.1 hg) (nB BK138.1 hg) (nC BK138.1 hg) ?_; clear BK138 HB; intro BK138 HB BK139 GW139 GE139 NB138_139 NB139_138; clear hb hbox hg) | ((with_reducible refine gate_dst (N := 6) rfl ?_); refine boxE (cs := #[.int .i64 0, .slice none 0 0]) (t := 26) ?_; intro gb140 hg w7 hbox hb; refine E10 (bB BK138.1 hb) (bB BK139.1 hb) (bS HB.1 hb) (hbox) (gX HB.1 hg) (gX HB.1 hg) (nB BK138.1 hg) (nC BK138.1 hg) (nB BK139.1 hg) (nC BK139.1 hg) ?_; clear BK138 BK139 HB; intro BK138 BK139 HB BK140 GW140 GE140 NB138_140 NB140_138 NB139_140 NB140_139; clear hb hbox hg)); go_upto_region 1 with (first | ((with_reducible refine gate_dst (N := 4) rfl ?_); refine boxE (cs := #[.int .i64 a1_0, .slice A1_1 l1_1.length c1_1]) (t := 26) ?_; intro gb138 hg w5 hbox hb; refine E4b HB.1 hg hbox hb ?_; clear HB; intro HB BK138 GW138 GE138; clear hb hbox hg) | ((with_reducible refine gate_dst (N := 5) rfl ?_); refine boxE (cs := #[.int .i64 a2_0, .slice A2_1 l2_1.length c2_1]) (t := 26) ?_; intro gb139 hg w6 hbox hb; refine E7 (bB BK138.1 hb) (bS HB.1 hb) (hbox) (gX HB.1 hg) (gX HB.1 hg) (nB BK138.1 hg) (nC BK138.1 hg) ?_; clear BK138 HB; intro BK138 HB BK139 GW139 GE139 NB138_139 NB139_138; clear hb hbox hg) | ((with_reducible refine gate_dst (N := 6) rfl ?_); refine boxE (cs := #[.int .i64 0, .slice none 0 0]) (t := 26) ?_; intro gb140 hg w7 hbox hb; refine E10 (bB BK138.1 hb) (bB BK139.1 hb) (bS HB.1 hb) (hbox) (gX HB.1 hg) (gX HB.1 hg) (nB BK138.1 hg) (nC BK138.1 hg) (nB BK139.1 hg) (nC BK139.1 hg) ?_; clear BK138 BK139 HB; intro BK138 BK139 HB BK140 GW140 GE140 NB138_140 NB140_138 NB139_140 NB140_139; clear hb hbox hg)))
 (try simp only [Act.put, List.setIfInBounds_toArray, List.set_cons_zero, List.set_cons_succ])
 go_cut [35] (fun v35 wc => ∃ (kq : Nat) (x35_3 : Bool), v35 = .bool x35_3 /\ Aside0 (impl_CombineTables.j0 kq a0 x35_3 a1_0 l1_1 a2_0 l2_1 = some (r1, r2, r3)) /\ Aside0 (kq <= k) /\ Aside0 (wc.heap[gb138]? = some (.cells #[.int .i64 a1_0, (.slice A1_1 l1_1.length c1_1)] 26 (0, 0))) /\ Aside0 (wc.heap[gb139]? = some (.cells #[.int .i64 a2_0, (.slice A2_1 l2_1.length c2_1)] 26 (0, 0))) /\ Aside0 (wc.heap[gb140]? = some (.cells #[.int .i64 0, (.slice none 0 0)] 26 (0, 0))) /\ Aside0 (Below w.heap.size w wc))
 case first =>
  have H := HC4.1
  clear HC4
  replace H := bindA H; obtain ⟨t141, A8, H⟩ := H
  replace H := ifX H; rcases H with ⟨rfl, H⟩ | ⟨rfl, H⟩
  · replace H := bindA H; obtain ⟨t142, A10, H⟩ := H
    replace H := ifX H; rcases H with ⟨rfl, H⟩ | ⟨rfl, H⟩
    · replace H := ifQ H; rcases H with ⟨c12, H⟩ | ⟨c12, H⟩
      · have c12b0 := beq_iff_eq.mpr c12
        have c12b1 := bne_eq_false_iff_eq.mpr c12
        clear c12
        (first | rw [c12b0] | (simp only [i64_w, i32_w]; rw [c12b0]) | skip)
        replace H := ifB H; rcases H with ⟨c13b0, H⟩ | ⟨c13b0, H⟩
        · have H' := Aside0.mk H
          clear H
          have hnb14 := NB138_139.1
          have hnc14 := NB139_138.1
          have hnb15 := NB138_140.1
          have hnc15 := NB140_138.1
          obtain ⟨hcz16_0, hcz16_1, hfz16_0, hfz16_1⟩ := cz2 BK138.1
          go_wp2_with (first | (go_at_call 16; (with_reducible refine (impl_IsTable.calls k a1_0 _ _ l1_1 true _ ?side1 ?side2 A8.1).mono ?_); (case side1 => exact CB (C_below HR1_1.1 HB.1)); (case side2 => exact HC1_1.1); rintro e w17 ⟨rfl, hb⟩; refine E4 (bB BK138.1 hb) (bB BK139.1 hb) (bB BK140.1 hb) (bS HB.1 hb) ?_; clear BK138 BK139 BK140 HB; intro BK138 BK139 BK140 HB; (try clear hb); have hnb18 := NB139_140.1; have hnc18 := NB140_139.1; obtain ⟨hcz19_0, hcz19_1, hfz19_0, hfz19_1⟩ := cz2 BK139.1) | (go_at_call 16; (with_reducible refine (impl_IsTable.calls k a2_0 _ _ l2_1 true _ ?side1 ?side2 A10.1).mono ?_); (case side1 => exact CB (C_below HR2_1.1 HB.1)); (case side2 => exact HC2_1.1); rintro e w20 ⟨rfl, hb⟩; refine E4 (bB BK138.1 hb) (bB BK139.1 hb) (bB BK140.1 hb) (bS HB.1 hb) ?_; clear BK138 BK139 BK140 HB; intro BK138 BK139 BK140 HB; (try clear hb); obtain ⟨hcz21_0, hcz21_1, hfz21_0, hfz21_1⟩ := cz2 BK138.1; obtain ⟨hcz22_0, hcz22_1, hfz22_0, hfz22_1⟩ := cz2 BK139.1))
          repeat (go_quiet (first | (go_at_call 16; (with_reducible refine (impl_IsTable.calls k a1_0 _ _ l1_1 true _ ?side1 ?side2 A8.1).mono ?_); (case side1 => exact CB (C_below HR1_1.1 HB.1)); (case side2 => exact HC1_1.1); rintro e w17 ⟨rfl, hb⟩; refine E4 (bB BK138.1 hb) (bB BK139.1 hb) (bB BK140.1 hb) (bS HB.1 hb) ?_; clear BK138 BK139 BK140 HB; intro BK138 BK139 BK140 HB; (try clear hb); have hnb18 := NB139_140.1; have hnc18 := NB140_139.1; obtain ⟨hcz19_0, hcz19_1, hfz19_0, hfz19_1⟩ := cz2 BK139.1) | (go_at_call 16; (with_reducible refine (impl_IsTable.calls k a2_0 _ _ l2_1 true _ ?side1 ?side2 A10.1).mono ?_); (case side1 => exact CB (C_below HR2_1.1 HB.1)); (case side2 => exact HC2_1.1); rintro e w20 ⟨rfl, hb⟩; refine E4 (bB BK138.1 hb) (bB BK139.1 hb) (bB BK140.1 hb) (bS HB.1 hb) ?_; clear BK138 BK139 BK140 HB; intro BK138 BK139 BK140 HB; (try clear hb); obtain ⟨hcz21_0, hcz21_1, hfz21_0, hfz21_1⟩ := cz2 BK138.1; obtain ⟨hcz22_0, hcz22_1, hfz22_0, hfz22_1⟩ := cz2 BK139.1)); try go_wp2_with (first | (go_at_call 16; (with_reducible refine (impl_IsTable.calls k a1_0 _ _ l1_1 true _ ?side1 ?side2 A8.1).mono ?_); (case side1 => exact CB (C_below HR1_1.1 HB.1)); (case side2 => exact HC1_1.1); rintro e w17 ⟨rfl, hb⟩; refine E4 (bB BK138.1 hb) (bB BK139.1 hb) (bB BK140.1 hb) (bS HB.1 hb) ?_; clear BK138 BK139 BK140 HB; intro BK138 BK139 BK140 HB; (try clear hb); have hnb18 := NB139_140.1; have hnc18 := NB140_139.1; obtain ⟨hcz19_0, hcz19_1, hfz19_0, hfz19_1⟩ := cz2 BK139.1) | (go_at_call 16; (with_reducible refine (impl_IsTable.calls k a2_0 _ _ l2_1 true _ ?side1 ?side2 A10.1).mono ?_); (case side1 => exact CB (C_below HR2_1.1 HB.1)); (case side2 => exact HC2_1.1); rintro e w20 ⟨rfl, hb⟩; refine E4 (bB BK138.1 hb) (bB BK139.1 hb) (bB BK140.1 hb) (bS HB.1 hb) ?_; clear BK138 BK139 BK140 HB; intro BK138 BK139 BK140 HB; (try clear hb); obtain ⟨hcz21_0, hcz21_1, hfz21_0, hfz21_1⟩ := cz2 BK138.1; obtain ⟨hcz22_0, hcz22_1, hfz22_0, hfz22_1⟩ := cz2 BK139.1)))
          go_meet
          case rel => exact ⟨_, (true), RG, H', ⟨by first | omega | exact Nat.le_refl _⟩, ⟨PB BK138.1⟩, ⟨PB BK139.1⟩, ⟨PB BK140.1⟩, ⟨BL HB.1⟩⟩
        have H' := Aside0.mk H
        clear H
        have hnb23 := NB138_139.1
        have hnc23 := NB139_138.1
        have hnb24 := NB138_140.1
        have hnc24 := NB140_138.1
        obtain ⟨hcz25_0, hcz25_1, hfz25_0, hfz25_1⟩ := cz2 BK138.1
        go_wp2_with (first | (go_at_call 16; (with_reducible refine (impl_IsTable.calls k a1_0 _ _ l1_1 true _ ?side1 ?side2 A8.1).mono ?_); (case side1 => exact CB (C_below HR1_1.1 HB.1)); (case side2 => exact HC1_1.1); rintro e w26 ⟨rfl, hb⟩; refine E4 (bB BK138.1 hb) (bB BK139.1 hb) (bB BK140.1 hb) (bS HB.1 hb) ?_; clear BK138 BK139 BK140 HB; intro BK138 BK139 BK140 HB; (try clear hb); have hnb27 := NB139_140.1; have hnc27 := NB140_139.1; obtain ⟨hcz28_0, hcz28_1, hfz28_0, hfz28_1⟩ := cz2 BK139.1) | (go_at_call 16; (with_reducible refine (impl_IsTable.calls k a2_0 _ _ l2_1 true _ ?side1 ?side2 A10.1).mono ?_); (case side1 => exact CB (C_below HR2_1.1 HB.1)); (case side2 => exact HC2_1.1); rintro e w29 ⟨rfl, hb⟩; refine E4 (bB BK138.1 hb) (bB BK139.1 hb) (bB BK140.1 hb) (bS HB.1 hb) ?_; clear BK138 BK139 BK140 HB; intro BK138 BK139 BK140 HB; (try clear hb); obtain ⟨hcz30_0, hcz30_1, hfz30_0, hfz30_1⟩ := cz2 BK138.1; obtain ⟨hcz31_0, hcz31_1, hfz31_0, hfz31_1⟩ := cz2 BK139.1))
        repeat (go_quiet (first | (go_at_call 16; (with_reducible refine (impl_IsTable.calls k a1_0 _ _ l1_1 true _ ?side1 ?side2 A8.1).mono ?_); (case side1 => exact CB (C_below HR1_1.1 HB.1)); (case side2 => exact HC1_1.1); rintro e w26 ⟨rfl, hb⟩; refine E4 (bB BK138.1 hb) (bB BK139.1 hb) (bB BK140.1 hb) (bS HB.1 hb) ?_; clear BK138 BK139 BK140 HB; intro BK138 BK139 BK140 HB; (try clear hb); have hnb27 := NB139_140.1; have hnc27 := NB140_139.1; obtain ⟨hcz28_0, hcz28_1, hfz28_0, hfz28_1⟩ := cz2 BK139.1) | (go_at_call 16; (with_reducible refine (impl_IsTable.calls k a2_0 _ _ l2_1 true _ ?side1 ?side2 A10.1).mono ?_); (case side1 => exact CB (C_below HR2_1.1 HB.1)); (case side2 => exact HC2_1.1); rintro e w29 ⟨rfl, hb⟩; refine E4 (bB BK138.1 hb) (bB BK139.1 hb) (bB BK140.1 hb) (bS HB.1 hb) ?_; clear BK138 BK139 BK140 HB; intro BK138 BK139 BK140 HB; (try clear hb); obtain ⟨hcz30_0, hcz30_1, hfz30_0, hfz30_1⟩ := cz2 BK138.1; obtain ⟨hcz31_0, hcz31_1, hfz31_0, hfz31_1⟩ := cz2 BK139.1)); try go_wp2_with (first | (go_at_call 16; (with_reducible refine (impl_IsTable.calls k a1_0 _ _ l1_1 true _ ?side1 ?side2 A8.1).mono ?_); (case side1 => exact CB (C_below HR1_1.1 HB.1)); (case side2 => exact HC1_1.1); rintro e w26 ⟨rfl, hb⟩; refine E4 (bB BK138.1 hb) (bB BK139.1 hb) (bB BK140.1 hb) (bS HB.1 hb) ?_; clear BK138 BK139 BK140 HB; intro BK138 BK139 BK140 HB; (try clear hb); have hnb27 := NB139_140.1; have hnc27 := NB140_139.1; obtain ⟨hcz28_0, hcz28_1, hfz28_0, hfz28_1⟩ := cz2 BK139.1) | (go_at_call 16; (with_reducible refine (impl_IsTable.calls k a2_0 _ _ l2_1 true _ ?side1 ?side2 A10.1).mono ?_); (case side1 => exact CB (C_below HR2_1.1 HB.1)); (case side2 => exact HC2_1.1); rintro e w29 ⟨rfl, hb⟩; refine E4 (bB BK138.1 hb) (bB BK139.1 hb) (bB BK140.1 hb) (bS HB.1 hb) ?_; clear BK138 BK139 BK140 HB; intro BK138 BK139 BK140 HB; (try clear hb); obtain ⟨hcz30_0, hcz30_1, hfz30_0, hfz30_1⟩ := cz2 BK138.1; obtain ⟨hcz31_0, hcz31_1, hfz31_0, hfz31_1⟩ := cz2 BK139.1)))
        go_meet
        case rel => exact ⟨_, (decide (a0 > 4)), RG, H', ⟨by first | omega | exact Nat.le_refl _⟩, ⟨PB BK138.1⟩, ⟨PB BK139.1⟩, ⟨PB BK140.1⟩, ⟨BL HB.1⟩⟩
      have c12b0 := beq_eq_false_iff_ne.mpr c12
      have c12b1 := bne_iff_ne.mpr c12
      (first | rw [c12b0] | (simp only [i64_w, i32_w]; rw [c12b0]) | skip)
      have H' := Aside0.mk H
      clear H
      have hnb32 := NB138_139.1
      have hnc32 := NB139_138.1
      have hnb33 := NB138_140.1
      have hnc33 := NB140_138.1
      obtain ⟨hcz34_0, hcz34_1, hfz34_0, hfz34_1⟩ := cz2 BK138.1
      go_wp2_with (first | (go_at_call 16; (with_reducible refine (impl_IsTable.calls k a1_0 _ _ l1_1 true _ ?side1 ?side2 A8.1).mono ?_); (case side1 => exact CB (C_below HR1_1.1 HB.1)); (case side2 => exact HC1_1.1); rintro e w35 ⟨rfl, hb⟩; refine E4 (bB BK138.1 hb) (bB BK139.1 hb) (bB BK140.1 hb) (bS HB.1 hb) ?_; clear BK138 BK139 BK140 HB; intro BK138 BK139 BK140 HB; (try clear hb); have hnb36 := NB139_140.1; have hnc36 := NB140_139.1; obtain ⟨hcz37_0, hcz37_1, hfz37_0, hfz37_1⟩ := cz2 BK139.1) | (go_at_call 16; (with_reducible refine (impl_IsTable.calls k a2_0 _ _ l2_1 true _ ?side1 ?side2 A10.1).mono ?_); (case side1 => exact CB (C_below HR2_1.1 HB.1)); (case side2 => exact HC2_1.1); rintro e w38 ⟨rfl, hb⟩; refine E4 (bB BK138.1 hb) (bB BK139.1 hb) (bB BK140.1 hb) (bS HB.1 hb) ?_; clear BK138 BK139 BK140 HB; intro BK138 BK139 BK140 HB; (try clear hb); obtain ⟨hcz39_0, hcz39_1, hfz39_0, hfz39_1⟩ := cz2 BK138.1; obtain ⟨hcz40_0, hcz40_1, hfz40_0, hfz40_1⟩ := cz2 BK139.1))
      repeat (go_quiet (first | (go_at_call 16; (with_reducible refine (impl_IsTable.calls k a1_0 _ _ l1_1 true _ ?side1 ?side2 A8.1).mono ?_); (case side1 => exact CB (C_below HR1_1.1 HB.1)); (case side2 => exact HC1_1.1); rintro e w35 ⟨rfl, hb⟩; refine E4 (bB BK138.1 hb) (bB BK139.1 hb) (bB BK140.1 hb) (bS HB.1 hb) ?_; clear BK138 BK139 BK140 HB; intro BK138 BK139 BK140 HB; (try clear hb); have hnb36 := NB139_140.1; have hnc36 := NB140_139.1; obtain ⟨hcz37_0, hcz37_1, hfz37_0, hfz37_1⟩ := cz2 BK139.1) | (go_at_call 16; (with_reducible refine (impl_IsTable.calls k a2_0 _ _ l2_1 true _ ?side1 ?side2 A10.1).mono ?_); (case side1 => exact CB (C_below HR2_1.1 HB.1)); (case side2 => exact HC2_1.1); rintro e w38 ⟨rfl, hb⟩; refine E4 (bB BK138.1 hb) (bB BK139.1 hb) (bB BK140.1 hb) (bS HB.1 hb) ?_; clear BK138 BK139 BK140 HB; intro BK138 BK139 BK140 HB; (try clear hb); obtain ⟨hcz39_0, hcz39_1, hfz39_0, hfz39_1⟩ := cz2 BK138.1; obtain ⟨hcz40_0, hcz40_1, hfz40_0, hfz40_1⟩ := cz2 BK139.1)); try go_wp2_with (first | (go_at_call 16; (with_reducible refine (impl_IsTable.calls k a1_0 _ _ l1_1 true _ ?side1 ?side2 A8.1).mono ?_); (case side1 => exact CB (C_below HR1_1.1 HB.1)); (case side2 => exact HC1_1.1); rintro e w35 ⟨rfl, hb⟩; refine E4 (bB BK138.1 hb) (bB BK139.1 hb) (bB BK140.1 hb) (bS HB.1 hb) ?_; clear BK138 BK139 BK140 HB; intro BK138 BK139 BK140 HB; (try clear hb); have hnb36 := NB139_140.1; have hnc36 := NB140_139.1; obtain ⟨hcz37_0, hcz37_1, hfz37_0, hfz37_1⟩ := cz2 BK139.1) | (go_at_call 16; (with_reducible refine (impl_IsTable.calls k a2_0 _ _ l2_1 true _ ?side1 ?side2 A10.1).mono ?_); (case side1 => exact CB (C_below HR2_1.1 HB.1)); (case side2 => exact HC2_1.1); rintro e w38 ⟨rfl, hb⟩; refine E4 (bB BK138.1 hb) (bB BK139.1 hb) (bB BK140.1 hb) (bS HB.1 hb) ?_; clear BK138 BK139 BK140 HB; intro BK138 BK139 BK140 HB; (try clear hb); obtain ⟨hcz39_0, hcz39_1, hfz39_0, hfz39_1⟩ := cz2 BK138.1; obtain ⟨hcz40_0, hcz40_1, hfz40_0, hfz40_1⟩ := cz2 BK139.1)))
      go_meet
      case rel => exact ⟨_, (true), RG, H', ⟨by first | omega | exact Nat.le_refl _⟩, ⟨PB BK138.1⟩, ⟨PB BK139.1⟩, ⟨PB BK140.1⟩, ⟨BL HB.1⟩⟩
    have H' := Aside0.mk H
    clear H
    have hnb41 := NB138_139.1
    have hnc41 := NB139_138.1
    have hnb42 := NB138_140.1
    have hnc42 := NB140_138.1
    obtain ⟨hcz43_0, hcz43_1, hfz43_0, hfz43_1⟩ := cz2 BK138.1
    go_wp2_with (first | (go_at_call 16; (with_reducible refine (impl_IsTable.calls k a1_0 _ _ l1_1 true _ ?side1 ?side2 A8.1).mono ?_); (case side1 => exact CB (C_below HR1_1.1 HB.1)); (case side2 => exact HC1_1.1); rintro e w44 ⟨rfl, hb⟩; refine E4 (bB BK138.1 hb) (bB BK139.1 hb) (bB BK140.1 hb) (bS HB.1 hb) ?_; clear BK138 BK139 BK140 HB; intro BK138 BK139 BK140 HB; (try clear hb); have hnb45 := NB139_140.1; have hnc45 := NB140_139.1; obtain ⟨hcz46_0, hcz46_1, hfz46_0, hfz46_1⟩ := cz2 BK139.1) | (go_at_call 16; (with_reducible refine (impl_IsTable.calls k a2_0 _ _ l2_1 false _ ?side1 ?side2 A10.1).mono ?_); (case side1 => exact CB (C_below HR2_1.1 HB.1)); (case side2 => exact HC2_1.1); rintro e w47 ⟨rfl, hb⟩; refine E4 (bB BK138.1 hb) (bB BK139.1 hb) (bB BK140.1 hb) (bS HB.1 hb) ?_; clear BK138 BK139 BK140 HB; intro BK138 BK139 BK140 HB; (try clear hb)))
    repeat (go_quiet (first | (go_at_call 16; (with_reducible refine (impl_IsTable.calls k a1_0 _ _ l1_1 true _ ?side1 ?side2 A8.1).mono ?_); (case side1 => exact CB (C_below HR1_1.1 HB.1)); (case side2 => exact HC1_1.1); rintro e w44 ⟨rfl, hb⟩; refine E4 (bB BK138.1 hb) (bB BK139.1 hb) (bB BK140.1 hb) (bS HB.1 hb) ?_; clear BK138 BK139 BK140 HB; intro BK138 BK139 BK140 HB; (try clear hb); have hnb45 := NB139_140.1; have hnc45 := NB140_139.1; obtain ⟨hcz46_0, hcz46_1, hfz46_0, hfz46_1⟩ := cz2 BK139.1) | (go_at_call 16; (with_reducible refine (impl_IsTable.calls k a2_0 _ _ l2_1 false _ ?side1 ?side2 A10.1).mono ?_); (case side1 => exact CB (C_below HR2_1.1 HB.1)); (case side2 => exact HC2_1.1); rintro e w47 ⟨rfl, hb⟩; refine E4 (bB BK138.1 hb) (bB BK139.1 hb) (bB BK140.1 hb) (bS HB.1 hb) ?_; clear BK138 BK139 BK140 HB; intro BK138 BK139 BK140 HB; (try clear hb))); try go_wp2_with (first | (go_at_call 16; (with_reducible refine (impl_IsTable.calls k a1_0 _ _ l1_1 true _ ?side1 ?side2 A8.1).mono ?_); (case side1 => exact CB (C_below HR1_1.1 HB.1)); (case side2 => exact HC1_1.1); rintro e w44 ⟨rfl, hb⟩; refine E4 (bB BK138.1 hb) (bB BK139.1 hb) (bB BK140.1 hb) (bS HB.1 hb) ?_; clear BK138 BK139 BK140 HB; intro BK138 BK139 BK140 HB; (try clear hb); have hnb45 := NB139_140.1; have hnc45 := NB140_139.1; obtain ⟨hcz46_0, hcz46_1, hfz46_0, hfz46_1⟩ := cz2 BK139.1) | (go_at_call 16; (with_reducible refine (impl_IsTable.calls k a2_0 _ _ l2_1 false _ ?side1 ?side2 A10.1).mono ?_); (case side1 => exact CB (C_below HR2_1.1 HB.1)); (case side2 => exact HC2_1.1); rintro e w47 ⟨rfl, hb⟩; refine E4 (bB BK138.1 hb) (bB BK139.1 hb) (bB BK140.1 hb) (bS HB.1 hb) ?_; clear BK138 BK139 BK140 HB; intro BK138 BK139 BK140 HB; (try clear hb))))
    go_meet
    case rel => exact ⟨_, (true), RG, H', ⟨by first | omega | exact Nat.le_refl _⟩, ⟨PB BK138.1⟩, ⟨PB BK139.1⟩, ⟨PB BK140.1⟩, ⟨BL HB.1⟩⟩
  have H' := Aside0.mk H
  clear H
  have hnb48 := NB138_139.1
  have hnc48 := NB139_138.1
  have hnb49 := NB138_140.1
  have hnc49 := NB140_138.1
  obtain ⟨hcz50_0, hcz50_1, hfz50_0, hfz50_1⟩ := cz2 BK138.1
  go_wp2_with (first | (go_at_call 16; (with_reducible refine (impl_IsTable.calls k a1_0 _ _ l1_1 false _ ?side1 ?side2 A8.1).mono ?_); (case side1 => exact CB (C_below HR1_1.1 HB.1)); (case side2 => exact HC1_1.1); rintro e w51 ⟨rfl, hb⟩; refine E4 (bB BK138.1 hb) (bB BK139.1 hb) (bB BK140.1 hb) (bS HB.1 hb) ?_; clear BK138 BK139 BK140 HB; intro BK138 BK139 BK140 HB; (try clear hb)))
  repeat (go_quiet (first | (go_at_call 16; (with_reducible refine (impl_IsTable.calls k a1_0 _ _ l1_1 false _ ?side1 ?side2 A8.1).mono ?_); (case side1 => exact CB (C_below HR1_1.1 HB.1)); (case side2 => exact HC1_1.1); rintro e w51 ⟨rfl, hb⟩; refine E4 (bB BK138.1 hb) (bB BK139.1 hb) (bB BK140.1 hb) (bS HB.1 hb) ?_; clear BK138 BK139 BK140 HB; intro BK138 BK139 BK140 HB; (try clear hb))); try go_wp2_with (first | (go_at_call 16; (with_reducible refine (impl_IsTable.calls k a1_0 _ _ l1_1 false _ ?side1 ?side2 A8.1).mono ?_); (case side1 => exact CB (C_below HR1_1.1 HB.1)); (case side2 => exact HC1_1.1); rintro e w51 ⟨rfl, hb⟩; refine E4 (bB BK138.1 hb) (bB BK139.1 hb) (bB BK140.1 hb) (bS HB.1 hb) ?_; clear BK138 BK139 BK140 HB; intro BK138 BK139 BK140 HB; (try clear hb))))
  go_meet
  case rel => exact ⟨_, (true), RG, H', ⟨by first | omega | exact Nat.le_refl _⟩, ⟨PB BK138.1⟩, ⟨PB BK139.1⟩, ⟨PB BK140.1⟩, ⟨BL HB.1⟩⟩
 clear HC4
 obtain ⟨kq, x35_3, rfl, HA, HJ3, BK138, BK139, BK140, HB⟩ := hcut
 cases kq with
 | zero => exact absurd HA.1 (by simp [impl_CombineTables.j0])
 | succ kj3 => ?_
 have H := HA.1
 clear HA
 simp only [impl_CombineTables.j0] at H
 replace H := ifX H; rcases H with ⟨rfl, H⟩ | ⟨rfl, H⟩
 · simp only [Option.some.injEq, Prod.mk.injEq] at H
   obtain ⟨rfl, rfl, rfl⟩ := H
   have hnb53 := NB140_138.1
   have hnc53 := NB138_140.1
   have hnb54 := NB140_139.1
   have hnc54 := NB139_140.1
   obtain ⟨hcz55_0, hcz55_1, hfz55_0, hfz55_1⟩ := cz2 BK140.1
   go_wp2
   repeat (go_quiet (fail); try go_wp2)
   refine bodyPost_ret (results_ct rfl _ _ gb140 26 #[.int .i64 0, .slice none 0 0] (0, 0) _ rfl (PF0 BK140.1) Try.underlying26 rfl (by kernel_rfl)) rfl ?_
   exact ⟨_, RF, by first | exact R_nil _ _ _ _ _ | exact N_nil _ _ _ _ _ | exact V_nil _ _ _ _ _ | exact Q_nil _ _ _ _ _ | exact S_nil _ _ _ _ _, BL HB.1⟩
 have H' := Aside0.mk H
 clear H
 have hnb56 := NB138_139.1
 have hnc56 := NB139_138.1
 have hnb57 := NB138_140.1
 have hnc57 := NB140_138.1
 obtain ⟨hcz58_0, hcz58_1, hfz58_0, hfz58_1⟩ := cz2 BK138.1
 go_wp2_with (first | ((with_reducible refine gate_dst (N := 8) rfl ?_); refine boxE (cs := #[.int .i64 0, .slice none 0 0]) (t := 26) ?_; intro gb143 hg w59 hbox hb; refine E13 (bB BK138.1 hb) (bB BK139.1 hb) (bB BK140.1 hb) (bS HB.1 hb) (hbox) (gX HB.1 hg) (gX HB.1 hg) (nB BK138.1 hg) (nC BK138.1 hg) (nB BK139.1 hg) (nC BK139.1 hg) (nB BK140.1 hg) (nC BK140.1 hg) ?_; clear BK138 BK139 BK140 HB; intro BK138 BK139 BK140 HB BK143 GW143 GE143 NB138_143 NB143_138 NB139_143 NB143_139 NB140_143 NB143_140; clear hb hbox hg; have hnb60 := NB143_138.1; have hnc60 := NB138_143.1; have hnb61 := NB143_139.1; have hnc61 := NB139_143.1; have hnb62 := NB143_140.1; have hnc62 := NB140_143.1; obtain ⟨hcz63_0, hcz63_1, hfz63_0, hfz63_1⟩ := cz2 BK143.1; obtain ⟨hcz64_0, hcz64_1, hfz64_0, hfz64_1⟩ := cz2 BK138.1))
 repeat (go_quiet (first | ((with_reducible refine gate_dst (N := 8) rfl ?_); refine boxE (cs := #[.int .i64 0, .slice none 0 0]) (t := 26) ?_; intro gb143 hg w59 hbox hb; refine E13 (bB BK138.1 hb) (bB BK139.1 hb) (bB BK140.1 hb) (bS HB.1 hb) (hbox) (gX HB.1 hg) (gX HB.1 hg) (nB BK138.1 hg) (nC BK138.1 hg) (nB BK139.1 hg) (nC BK139.1 hg) (nB BK140.1 hg) (nC BK140.1 hg) ?_; clear BK138 BK139 BK140 HB; intro BK138 BK139 BK140 HB BK143 GW143 GE143 NB138_143 NB143_138 NB139_143 NB143_139 NB140_143 NB143_140; clear hb hbox hg; have hnb60 := NB143_138.1; have hnc60 := NB138_143.1; have hnb61 := NB143_139.1; have hnc61 := NB139_143.1; have hnb62 := NB143_140.1; have hnc62 := NB140_143.1; obtain ⟨hcz63_0, hcz63_1, hfz63_0, hfz63_1⟩ := cz2 BK143.1; obtain ⟨hcz64_0, hcz64_1, hfz64_0, hfz64_1⟩ := cz2 BK138.1)); try go_wp2_with (first | ((with_reducible refine gate_dst (N := 8) rfl ?_); refine boxE (cs := #[.int .i64 0, .slice none 0 0]) (t := 26) ?_; intro gb143 hg w59 hbox hb; refine E13 (bB BK138.1 hb) (bB BK139.1 hb) (bB BK140.1 hb) (bS HB.1 hb) (hbox) (gX HB.1 hg) (gX HB.1 hg) (nB BK138.1 hg) (nC BK138.1 hg) (nB BK139.1 hg) (nC BK139.1 hg) (nB BK140.1 hg) (nC BK140.1 hg) ?_; clear BK138 BK139 BK140 HB; intro BK138 BK139 BK140 HB BK143 GW143 GE143 NB138_143 NB143_138 NB139_143 NB143_139 NB140_143 NB143_140; clear hb hbox hg; have hnb60 := NB143_138.1; have hnc60 := NB138_143.1; have hnb61 := NB143_139.1; have hnc61 := NB139_143.1; have hnb62 := NB143_140.1; have hnc62 := NB140_143.1; obtain ⟨hcz63_0, hcz63_1, hfz63_0, hfz63_1⟩ := cz2 BK143.1; obtain ⟨hcz64_0, hcz64_1, hfz64_0, hfz64_1⟩ := cz2 BK138.1)))
 go_loopg [43] kj3 (fun kq v43 w' => ∃ (x43_2 : Int) (x144001_2 : List Int) (u144001 : Value), v43 = .int .i64 x43_2 /\ Aside0 (impl_CombineTables.l0 kq a0 (l1_1.length : Int) x43_2 a1_0 l1_1 a2_0 l2_1 a1_0 x144001_2 = some (r1, r2, r3)) /\ Aside0 (kq <= kj3) /\ Aside0 (Kd.R (Kd.int .i64) 3 w' w.heap.size (fun _ => True) u144001 x144001_2) /\ Aside0 (w'.heap[gb138]? = some (.cells #[.int .i64 a1_0, (.slice A1_1 l1_1.length c1_1)] 26 (0, 0))) /\ Aside0 (w'.heap[gb139]? = some (.cells #[.int .i64 a2_0, (.slice A2_1 l2_1.length c2_1)] 26 (0, 0))) /\ Aside0 (w'.heap[gb140]? = some (.cells #[.int .i64 0, (.slice none 0 0)] 26 (0, 0))) /\ Aside0 (w'.heap[gb143]? = some (.cells #[.int .i64 a1_0, u144001] 26 (0, 0))) /\ Aside0 (Below w.heap.size w w'))
 case atStart => exact ⟨(0), (([] : List Int)), (.slice none 0 0), RG, H', ⟨Nat.le_refl _⟩, ⟨by first | exact R_nil _ _ _ _ _ | exact N_nil _ _ _ _ _ | exact V_nil _ _ _ _ _ | exact Q_nil _ _ _ _ _ | exact S_nil _ _ _ _ _⟩, ⟨by (with_reducible repeat (first | refine blk_drewN ?_ _ | refine blk_drew ?_ | refine blk_alloc ?_ _)); refine blk_far ?_ NB138_143.1 _; (with_reducible repeat (first | refine blk_drewN ?_ _ | refine blk_drew ?_ | refine blk_alloc ?_ _)); refine blk_far ?_ NB138_143.1 _; (with_reducible repeat (first | refine blk_drewN ?_ _ | refine blk_drew ?_ | refine blk_alloc ?_ _)); exact BK138.1⟩, ⟨by (with_reducible repeat (first | refine blk_drewN ?_ _ | refine blk_drew ?_ | refine blk_alloc ?_ _)); refine blk_far ?_ NB139_143.1 _; (with_reducible repeat (first | refine blk_drewN ?_ _ | refine blk_drew ?_ | refine blk_alloc ?_ _)); refine blk_far ?_ NB139_143.1 _; (with_reducible repeat (first | refine blk_drewN ?_ _ | refine blk_drew ?_ | refine blk_alloc ?_ _)); exact BK139.1⟩, ⟨by (with_reducible repeat (first | refine blk_drewN ?_ _ | refine blk_drew ?_ | refine blk_alloc ?_ _)); refine blk_far ?_ NB140_143.1 _; (with_reducible repeat (first | refine blk_drewN ?_ _ | refine blk_drew ?_ | refine blk_alloc ?_ _)); refine blk_far ?_ NB140_143.1 _; (with_reducible repeat (first | refine blk_drewN ?_ _ | refine blk_drew ?_ | refine blk_alloc ?_ _)); exact BK140.1⟩, ⟨by (with_reducible repeat (first | refine blk_drewN ?_ _ | refine blk_drew ?_ | refine blk_alloc ?_ _)); refine blk_put (cs := #[.int .i64 a1_0, .slice none 0 0]) ?_ 1 _ rfl; (with_reducible repeat (first | refine blk_drewN ?_ _ | refine blk_drew ?_ | refine blk_alloc ?_ _)); refine blk_put (cs := #[.int .i64 0, .slice none 0 0]) ?_ 0 _ rfl; (with_reducible repeat (first | refine blk_drewN ?_ _ | refine blk_drew ?_ | refine blk_alloc ?_ _)); exact BK143.1⟩, ⟨BL HB.1⟩⟩
 clear H'
 clear hcz58_0 hcz58_1 hcz63_0 hcz63_1 hcz64_0 hcz64_1 hfz58_0 hfz58_1 hfz63_0 hfz63_1 hfz64_0 hfz64_1
 obtain ⟨x43_2, x144001_2, u144001, rfl, HA, HK2, HO_144001, BK138, BK139, BK140, BK143, HB⟩ := hrel
 cases gk with
 | zero => exact absurd HA.1 (by simp [impl_CombineTables.l0])
 | succ k2 => ?_
 have H := HA.1
 clear HA
 simp only [impl_CombineTables.l0] at H
 replace H := ifB H; rcases H with ⟨c65b0, H⟩ | ⟨c65b0, H⟩
 · replace H := ifN H; obtain ⟨c66b0, H⟩ := H
   replace H := ifN H; obtain ⟨c67b0, H⟩ := H
   replace H := ifN H; obtain ⟨c68b0, H⟩ := H
   replace H := ifQ H; rcases H with ⟨c69, H⟩ | ⟨c69, H⟩
   · have c69b0 := beq_iff_eq.mpr c69
     have c69b1 := bne_eq_false_iff_eq.mpr c69
     clear c69
     replace H := ifP H; obtain ⟨c70, H⟩ := H
     have LMc70 := Aside0.mk c70
     clear c70
     generalize hy146 : ((x144001_2 ++ [Go.bits .and .i64 (rd l1_1 x43_2) (rd l2_1 x43_2)]) : List Int) = y146 at H
     have Ny146 := Aside0.mk hy146.symm; clear hy146
     have H' := Aside0.mk H
     clear H
     obtain ⟨hcz74_0, hcz74_1, hfz74_0, hfz74_1⟩ := cz2 BK138.1
     have p144 : 0 <= (x43_2 : Int) := OD
     have q144 : x43_2 < (l1_1.length : Int) := OD
     obtain ⟨ad144, e144, hx144_0⟩ := Kd.at_int HR1_1.1 x43_2 p144 q144
     cases e144
     replace hx144_0 := (HB.1.cell (World.block_lt_of_cell? w _ hx144_0)).trans hx144_0
     replace p144 := eq_true p144
     replace q144 := eq_true q144
     have hnb75 := NB139_140.1
     have hnc75 := NB140_139.1
     obtain ⟨hcz77_0, hcz77_1, hfz77_0, hfz77_1⟩ := cz2 BK139.1
     have p145 : 0 <= (x43_2 : Int) := OD
     have q145 : x43_2 < (l2_1.length : Int) := OD
     obtain ⟨ad145, e145, hx145_0⟩ := Kd.at_int HR2_1.1 x43_2 p145 q145
     cases e145
     replace hx145_0 := (HB.1.cell (World.block_lt_of_cell? w _ hx145_0)).trans hx145_0
     replace p145 := eq_true p145
     replace q145 := eq_true q145
     obtain ⟨hcz79_0, hcz79_1, hfz79_0, hfz79_1⟩ := cz2 BK143.1
     go_wp2_with (first | ((with_reducible refine gate_builtin (b := .append) (xs := #[.tmp 77, .tmp 79]) rfl ?_); at_builtin; refine R_append (Kd.int .i64) (w0 := w) w.heap.size rfl (.tmp 77) (.tmp 79) 22 3 (.int .i64 0) 8 rfl Try.underlying22 info3 rfl (by decide) (by omega) u144001 x144001_2 (Go.bits .and .i64 (rd l1_1 x43_2) (rd l2_1 x43_2)) [.int .i64 (Go.bits .and .i64 (rd l1_1 x43_2) (rd l2_1 x43_2))] (fun _ => True) (fun _ => False) rfl rfl ?aP (fun _ hk => hk.elim) ?aF ?aO ?aB ?aS ?aL ?_; (case aP => exact rfl); (case aB => exact (BL HB.1)); (case aF => exact (fun _ _ => trivial)); (case aO => exact (PR HO_144001.1)); (case aS => exact (bZ HB.1)); (case aL => have := LMc70.1; omega); intro v147 w80 ho hb hg hat; rw [<- Ny146.1] at ho; refine E6 (bG BK138.1 hg (R_ne HO_144001.1 BK138.1 (by decide))) (bG BK139.1 hg (R_ne HO_144001.1 BK139.1 (by decide))) (bG BK140.1 hg (R_ne HO_144001.1 BK140.1 (by decide))) (bG BK143.1 hg (R_ne HO_144001.1 BK143.1 (by decide))) (hb) (ho) ?_; clear BK138 BK139 BK140 BK143 HB HO_144001; intro BK138 BK139 BK140 BK143 HB HO148; clear ho hb hg hat; obtain ⟨Ao81, co81, eo81⟩ := R_slice HO148.1; subst eo81; obtain ⟨hcz82_0, hcz82_1, hfz82_0, hfz82_1⟩ := cz2 BK143.1))
     repeat (go_quiet (first | ((with_reducible refine gate_builtin (b := .append) (xs := #[.tmp 77, .tmp 79]) rfl ?_); at_builtin; refine R_append (Kd.int .i64) (w0 := w) w.heap.size rfl (.tmp 77) (.tmp 79) 22 3 (.int .i64 0) 8 rfl Try.underlying22 info3 rfl (by decide) (by omega) u144001 x144001_2 (Go.bits .and .i64 (rd l1_1 x43_2) (rd l2_1 x43_2)) [.int .i64 (Go.bits .and .i64 (rd l1_1 x43_2) (rd l2_1 x43_2))] (fun _ => True) (fun _ => False) rfl rfl ?aP (fun _ hk => hk.elim) ?aF ?aO ?aB ?aS ?aL ?_; (case aP => exact rfl); (case aB => exact (BL HB.1)); (case aF => exact (fun _ _ => trivial)); (case aO => exact (PR HO_144001.1)); (case aS => exact (bZ HB.1)); (case aL => have := LMc70.1; omega); intro v147 w80 ho hb hg hat; rw [<- Ny146.1] at ho; refine E6 (bG BK138.1 hg (R_ne HO_144001.1 BK138.1 (by decide))) (bG BK139.1 hg (R_ne HO_144001.1 BK139.1 (by decide))) (bG BK140.1 hg (R_ne HO_144001.1 BK140.1 (by decide))) (bG BK143.1 hg (R_ne HO_144001.1 BK143.1 (by decide))) (hb) (ho) ?_; clear BK138 BK139 BK140 BK143 HB HO_144001; intro BK138 BK139 BK140 BK143 HB HO148; clear ho hb hg hat; obtain ⟨Ao81, co81, eo81⟩ := R_slice HO148.1; subst eo81; obtain ⟨hcz82_0, hcz82_1, hfz82_0, hfz82_1⟩ := cz2 BK143.1)); try go_wp2_with (first | ((with_reducible refine gate_builtin (b := .append) (xs := #[.tmp 77, .tmp 79]) rfl ?_); at_builtin; refine R_append (Kd.int .i64) (w0 := w) w.heap.size rfl (.tmp 77) (.tmp 79) 22 3 (.int .i64 0) 8 rfl Try.underlying22 info3 rfl (by decide) (by omega) u144001 x144001_2 (Go.bits .and .i64 (rd l1_1 x43_2) (rd l2_1 x43_2)) [.int .i64 (Go.bits .and .i64 (rd l1_1 x43_2) (rd l2_1 x43_2))] (fun _ => True) (fun _ => False) rfl rfl ?aP (fun _ hk => hk.elim) ?aF ?aO ?aB ?aS ?aL ?_; (case aP => exact rfl); (case aB => exact (BL HB.1)); (case aF => exact (fun _ _ => trivial)); (case aO => exact (PR HO_144001.1)); (case aS => exact (bZ HB.1)); (case aL => have := LMc70.1; omega); intro v147 w80 ho hb hg hat; rw [<- Ny146.1] at ho; refine E6 (bG BK138.1 hg (R_ne HO_144001.1 BK138.1 (by decide))) (bG BK139.1 hg (R_ne HO_144001.1 BK139.1 (by decide))) (bG BK140.1 hg (R_ne HO_144001.1 BK140.1 (by decide))) (bG BK143.1 hg (R_ne HO_144001.1 BK143.1 (by decide))) (hb) (ho) ?_; clear BK138 BK139 BK140 BK143 HB HO_144001; intro BK138 BK139 BK140 BK143 HB HO148; clear ho hb hg hat; obtain ⟨Ao81, co81, eo81⟩ := R_slice HO148.1; subst eo81; obtain ⟨hcz82_0, hcz82_1, hfz82_0, hfz82_1⟩ := cz2 BK143.1)))
     go_roundg k2
     case measure => have := HJ3.1; have := HK2.1; omega
     case rel => exact ⟨(wrap64 (x43_2 + 1)), (y146), (.slice Ao81 y146.length co81), RG, H', ⟨by have := HJ3.1; have := HK2.1; omega⟩, ⟨by (with_reducible repeat (first | apply R_alloc | apply R_drewN | apply R_drew)); exact R_mono (RQ gb143 1 (R_types HO148.1 BK143.1 (by decide)) _) (fun _ hk => trivial)⟩, ⟨by (with_reducible repeat (first | refine blk_drewN ?_ _ | refine blk_drew ?_ | refine blk_alloc ?_ _)); refine blk_far ?_ NB138_143.1 _; (with_reducible repeat (first | refine blk_drewN ?_ _ | refine blk_drew ?_ | refine blk_alloc ?_ _)); exact BK138.1⟩, ⟨by (with_reducible repeat (first | refine blk_drewN ?_ _ | refine blk_drew ?_ | refine blk_alloc ?_ _)); refine blk_far ?_ NB139_143.1 _; (with_reducible repeat (first | refine blk_drewN ?_ _ | refine blk_drew ?_ | refine blk_alloc ?_ _)); exact BK139.1⟩, ⟨by (with_reducible repeat (first | refine blk_drewN ?_ _ | refine blk_drew ?_ | refine blk_alloc ?_ _)); refine blk_far ?_ NB140_143.1 _; (with_reducible repeat (first | refine blk_drewN ?_ _ | refine blk_drew ?_ | refine blk_alloc ?_ _)); exact BK140.1⟩, ⟨by (with_reducible repeat (first | refine blk_drewN ?_ _ | refine blk_drew ?_ | refine blk_alloc ?_ _)); refine blk_put (cs := #[.int .i64 a1_0, u144001]) ?_ 1 _ rfl; (with_reducible repeat (first | refine blk_drewN ?_ _ | refine blk_drew ?_ | refine blk_alloc ?_ _)); exact BK143.1⟩, ⟨BL HB.1⟩⟩
   have c69b0 := beq_eq_false_iff_ne.mpr c69
   have c69b1 := bne_iff_ne.mpr c69
   replace H := ifQ H; rcases H with ⟨c83, H⟩ | ⟨c83, H⟩
   · have c83b0 := beq_iff_eq.mpr c83
     have c83b1 := bne_eq_false_iff_eq.mpr c83
     clear c83
     replace H := ifP H; obtain ⟨c84, H⟩ := H
     have LMc84 := Aside0.mk c84
     clear c84
     generalize hy149 : ((x144001_2 ++ [Go.bits .or .i64 (rd l1_1 x43_2) (rd l2_1 x43_2)]) : List Int) = y149 at H
     have Ny149 := Aside0.mk hy149.symm; clear hy149
     have H' := Aside0.mk H
     clear H
     obtain ⟨hcz88_0, hcz88_1, hfz88_0, hfz88_1⟩ := cz2 BK138.1
     have p144 : 0 <= (x43_2 : Int) := OD
     have q144 : x43_2 < (l1_1.length : Int) := OD
     obtain ⟨ad144, e144, hx144_0⟩ := Kd.at_int HR1_1.1 x43_2 p144 q144
     cases e144
     replace hx144_0 := (HB.1.cell (World.block_lt_of_cell? w _ hx144_0)).trans hx144_0
     replace p144 := eq_true p144
     replace q144 := eq_true q144
     have hnb89 := NB139_140.1
     have hnc89 := NB140_139.1
     obtain ⟨hcz91_0, hcz91_1, hfz91_0, hfz91_1⟩ := cz2 BK139.1
     have p145 : 0 <= (x43_2 : Int) := OD
     have q145 : x43_2 < (l2_1.length : Int) := OD
     obtain ⟨ad145, e145, hx145_0⟩ := Kd.at_int HR2_1.1 x43_2 p145 q145
     cases e145
     replace hx145_0 := (HB.1.cell (World.block_lt_of_cell? w _ hx145_0)).trans hx145_0
     replace p145 := eq_true p145
     replace q145 := eq_true q145
     obtain ⟨hcz93_0, hcz93_1, hfz93_0, hfz93_1⟩ := cz2 BK143.1
     go_wp2_with (first | ((with_reducible refine gate_builtin (b := .append) (xs := #[.tmp 77, .tmp 79]) rfl ?_); at_builtin; refine R_append (Kd.int .i64) (w0 := w) w.heap.size rfl (.tmp 77) (.tmp 79) 22 3 (.int .i64 0) 8 rfl Try.underlying22 info3 rfl (by decide) (by omega) u144001 x144001_2 (Go.bits .or .i64 (rd l1_1 x43_2) (rd l2_1 x43_2)) [.int .i64 (Go.bits .or .i64 (rd l1_1 x43_2) (rd l2_1 x43_2))] (fun _ => True) (fun _ => False) rfl rfl ?aP (fun _ hk => hk.elim) ?aF ?aO ?aB ?aS ?aL ?_; (case aP => exact rfl); (case aB => exact (BL HB.1)); (case aF => exact (fun _ _ => trivial)); (case aO => exact (PR HO_144001.1)); (case aS => exact (bZ HB.1)); (case aL => have := LMc84.1; omega); intro v150 w94 ho hb hg hat; rw [<- Ny149.1] at ho; refine E6 (bG BK138.1 hg (R_ne HO_144001.1 BK138.1 (by decide))) (bG BK139.1 hg (R_ne HO_144001.1 BK139.1 (by decide))) (bG BK140.1 hg (R_ne HO_144001.1 BK140.1 (by decide))) (bG BK143.1 hg (R_ne HO_144001.1 BK143.1 (by decide))) (hb) (ho) ?_; clear BK138 BK139 BK140 BK143 HB HO_144001; intro BK138 BK139 BK140 BK143 HB HO151; clear ho hb hg hat; obtain ⟨Ao95, co95, eo95⟩ := R_slice HO151.1; subst eo95; obtain ⟨hcz96_0, hcz96_1, hfz96_0, hfz96_1⟩ := cz2 BK143.1))
     repeat (go_quiet (first | ((with_reducible refine gate_builtin (b := .append) (xs := #[.tmp 77, .tmp 79]) rfl ?_); at_builtin; refine R_append (Kd.int .i64) (w0 := w) w.heap.size rfl (.tmp 77) (.tmp 79) 22 3 (.int .i64 0) 8 rfl Try.underlying22 info3 rfl (by decide) (by omega) u144001 x144001_2 (Go.bits .or .i64 (rd l1_1 x43_2) (rd l2_1 x43_2)) [.int .i64 (Go.bits .or .i64 (rd l1_1 x43_2) (rd l2_1 x43_2))] (fun _ => True) (fun _ => False) rfl rfl ?aP (fun _ hk => hk.elim) ?aF ?aO ?aB ?aS ?aL ?_; (case aP => exact rfl); (case aB => exact (BL HB.1)); (case aF => exact (fun _ _ => trivial)); (case aO => exact (PR HO_144001.1)); (case aS => exact (bZ HB.1)); (case aL => have := LMc84.1; omega); intro v150 w94 ho hb hg hat; rw [<- Ny149.1] at ho; refine E6 (bG BK138.1 hg (R_ne HO_144001.1 BK138.1 (by decide))) (bG BK139.1 hg (R_ne HO_144001.1 BK139.1 (by decide))) (bG BK140.1 hg (R_ne HO_144001.1 BK140.1 (by decide))) (bG BK143.1 hg (R_ne HO_144001.1 BK143.1 (by decide))) (hb) (ho) ?_; clear BK138 BK139 BK140 BK143 HB HO_144001; intro BK138 BK139 BK140 BK143 HB HO151; clear ho hb hg hat; obtain ⟨Ao95, co95, eo95⟩ := R_slice HO151.1; subst eo95; obtain ⟨hcz96_0, hcz96_1, hfz96_0, hfz96_1⟩ := cz2 BK143.1)); try go_wp2_with (first | ((with_reducible refine gate_builtin (b := .append) (xs := #[.tmp 77, .tmp 79]) rfl ?_); at_builtin; refine R_append (Kd.int .i64) (w0 := w) w.heap.size rfl (.tmp 77) (.tmp 79) 22 3 (.int .i64 0) 8 rfl Try.underlying22 info3 rfl (by decide) (by omega) u144001 x144001_2 (Go.bits .or .i64 (rd l1_1 x43_2) (rd l2_1 x43_2)) [.int .i64 (Go.bits .or .i64 (rd l1_1 x43_2) (rd l2_1 x43_2))] (fun _ => True) (fun _ => False) rfl rfl ?aP (fun _ hk => hk.elim) ?aF ?aO ?aB ?aS ?aL ?_; (case aP => exact rfl); (case aB => exact (BL HB.1)); (case aF => exact (fun _ _ => trivial)); (case aO => exact (PR HO_144001.1)); (case aS => exact (bZ HB.1)); (case aL => have := LMc84.1; omega); intro v150 w94 ho hb hg hat; rw [<- Ny149.1] at ho; refine E6 (bG BK138.1 hg (R_ne HO_144001.1 BK138.1 (by decide))) (bG BK139.1 hg (R_ne HO_144001.1 BK139.1 (by decide))) (bG BK140.1 hg (R_ne HO_144001.1 BK140.1 (by decide))) (bG BK143.1 hg (R_ne HO_144001.1 BK143.1 (by decide))) (hb) (ho) ?_; clear BK138 BK139 BK140 BK143 HB HO_144001; intro BK138 BK139 BK140 BK143 HB HO151; clear ho hb hg hat; obtain ⟨Ao95, co95, eo95⟩ := R_slice HO151.1; subst eo95; obtain ⟨hcz96_0, hcz96_1, hfz96_0, hfz96_1⟩ := cz2 BK143.1)))
     go_roundg k2
     case measure => have := HJ3.1; have := HK2.1; omega
     case rel => exact ⟨(wrap64 (x43_2 + 1)), (y149), (.slice Ao95 y149.length co95), RG, H', ⟨by have := HJ3.1; have := HK2.1; omega⟩, ⟨by (with_reducible repeat (first | apply R_alloc | apply R_drewN | apply R_drew)); exact R_mono (RQ gb143 1 (R_types HO151.1 BK143.1 (by decide)) _) (fun _ hk => trivial)⟩, ⟨by (with_reducible repeat (first | refine blk_drewN ?_ _ | refine blk_drew ?_ | refine blk_alloc ?_ _)); refine blk_far ?_ NB138_143.1 _; (with_reducible repeat (first | refine blk_drewN ?_ _ | refine blk_drew ?_ | refine blk_alloc ?_ _)); exact BK138.1⟩, ⟨by (with_reducible repeat (first | refine blk_drewN ?_ _ | refine blk_drew ?_ | refine blk_alloc ?_ _)); refine blk_far ?_ NB139_143.1 _; (with_reducible repeat (first | refine blk_drewN ?_ _ | refine blk_drew ?_ | refine blk_alloc ?_ _)); exact BK139.1⟩, ⟨by (with_reducible repeat (first | refine blk_drewN ?_ _ | refine blk_drew ?_ | refine blk_alloc ?_ _)); refine blk_far ?_ NB140_143.1 _; (with_reducible repeat (first | refine blk_drewN ?_ _ | refine blk_drew ?_ | refine blk_alloc ?_ _)); exact BK140.1⟩, ⟨by (with_reducible repeat (first | refine blk_drewN ?_ _ | refine blk_drew ?_ | refine blk_alloc ?_ _)); refine blk_put (cs := #[.int .i64 a1_0, u144001]) ?_ 1 _ rfl; (with_reducible repeat (first | refine blk_drewN ?_ _ | refine blk_drew ?_ | refine blk_alloc ?_ _)); exact BK143.1⟩, ⟨BL HB.1⟩⟩
   have c83b0 := beq_eq_false_iff_ne.mpr c83
   have c83b1 := bne_iff_ne.mpr c83
   replace H := ifQ H; rcases H with ⟨c97, H⟩ | ⟨c97, H⟩
   · have c97b0 := beq_iff_eq.mpr c97
     have c97b1 := bne_eq_false_iff_eq.mpr c97
     clear c97
     replace H := ifP H; obtain ⟨c98, H⟩ := H
     have LMc98 := Aside0.mk c98
     clear c98
     generalize hy152 : ((x144001_2 ++ [Go.bits .xor .i64 (rd l1_1 x43_2) (rd l2_1 x43_2)]) : List Int) = y152 at H
     have Ny152 := Aside0.mk hy152.symm; clear hy152
     have H' := Aside0.mk H
     clear H
     obtain ⟨hcz102_0, hcz102_1, hfz102_0, hfz102_1⟩ := cz2 BK138.1
     have p144 : 0 <= (x43_2 : Int) := OD
     have q144 : x43_2 < (l1_1.length : Int) := OD
     obtain ⟨ad144, e144, hx144_0⟩ := Kd.at_int HR1_1.1 x43_2 p144 q144
     cases e144
     replace hx144_0 := (HB.1.cell (World.block_lt_of_cell? w _ hx144_0)).trans hx144_0
     replace p144 := eq_true p144
     replace q144 := eq_true q144
     have hnb103 := NB139_140.1
     have hnc103 := NB140_139.1
     obtain ⟨hcz105_0, hcz105_1, hfz105_0, hfz105_1⟩ := cz2 BK139.1
     have p145 : 0 <= (x43_2 : Int) := OD
     have q145 : x43_2 < (l2_1.length : Int) := OD
     obtain ⟨ad145, e145, hx145_0⟩ := Kd.at_int HR2_1.1 x43_2 p145 q145
     cases e145
     replace hx145_0 := (HB.1.cell (World.block_lt_of_cell? w _ hx145_0)).trans hx145_0
     replace p145 := eq_true p145
     replace q145 := eq_true q145
     obtain ⟨hcz107_0, hcz107_1, hfz107_0, hfz107_1⟩ := cz2 BK143.1
     go_wp2_with (first | ((with_reducible refine gate_builtin (b := .append) (xs := #[.tmp 77, .tmp 79]) rfl ?_); at_builtin; refine R_append (Kd.int .i64) (w0 := w) w.heap.size rfl (.tmp 77) (.tmp 79) 22 3 (.int .i64 0) 8 rfl Try.underlying22 info3 rfl (by decide) (by omega) u144001 x144001_2 (Go.bits .xor .i64 (rd l1_1 x43_2) (rd l2_1 x43_2)) [.int .i64 (Go.bits .xor .i64 (rd l1_1 x43_2) (rd l2_1 x43_2))] (fun _ => True) (fun _ => False) rfl rfl ?aP (fun _ hk => hk.elim) ?aF ?aO ?aB ?aS ?aL ?_; (case aP => exact rfl); (case aB => exact (BL HB.1)); (case aF => exact (fun _ _ => trivial)); (case aO => exact (PR HO_144001.1)); (case aS => exact (bZ HB.1)); (case aL => have := LMc98.1; omega); intro v153 w108 ho hb hg hat; rw [<- Ny152.1] at ho; refine E6 (bG BK138.1 hg (R_ne HO_144001.1 BK138.1 (by decide))) (bG BK139.1 hg (R_ne HO_144001.1 BK139.1 (by decide))) (bG BK140.1 hg (R_ne HO_144001.1 BK140.1 (by decide))) (bG BK143.1 hg (R_ne HO_144001.1 BK143.1 (by decide))) (hb) (ho) ?_; clear BK138 BK139 BK140 BK143 HB HO_144001; intro BK138 BK139 BK140 BK143 HB HO154; clear ho hb hg hat; obtain ⟨Ao109, co109, eo109⟩ := R_slice HO154.1; subst eo109; obtain ⟨hcz110_0, hcz110_1, hfz110_0, hfz110_1⟩ := cz2 BK143.1))
     repeat (go_quiet (first | ((with_reducible refine gate_builtin (b := .append) (xs := #[.tmp 77, .tmp 79]) rfl ?_); at_builtin; refine R_append (Kd.int .i64) (w0 := w) w.heap.size rfl (.tmp 77) (.tmp 79) 22 3 (.int .i64 0) 8 rfl Try.underlying22 info3 rfl (by decide) (by omega) u144001 x144001_2 (Go.bits .xor .i64 (rd l1_1 x43_2) (rd l2_1 x43_2)) [.int .i64 (Go.bits .xor .i64 (rd l1_1 x43_2) (rd l2_1 x43_2))] (fun _ => True) (fun _ => False) rfl rfl ?aP (fun _ hk => hk.elim) ?aF ?aO ?aB ?aS ?aL ?_; (case aP => exact rfl); (case aB => exact (BL HB.1)); (case aF => exact (fun _ _ => trivial)); (case aO => exact (PR HO_144001.1)); (case aS => exact (bZ HB.1)); (case aL => have := LMc98.1; omega); intro v153 w108 ho hb hg hat; rw [<- Ny152.1] at ho; refine E6 (bG BK138.1 hg (R_ne HO_144001.1 BK138.1 (by decide))) (bG BK139.1 hg (R_ne HO_144001.1 BK139.1 (by decide))) (bG BK140.1 hg (R_ne HO_144001.1 BK140.1 (by decide))) (bG BK143.1 hg (R_ne HO_144001.1 BK143.1 (by decide))) (hb) (ho) ?_; clear BK138 BK139 BK140 BK143 HB HO_144001; intro BK138 BK139 BK140 BK143 HB HO154; clear ho hb hg hat; obtain ⟨Ao109, co109, eo109⟩ := R_slice HO154.1; subst eo109; obtain ⟨hcz110_0, hcz110_1, hfz110_0, hfz110_1⟩ := cz2 BK143.1)); try go_wp2_with (first | ((with_reducible refine gate_builtin (b := .append) (xs := #[.tmp 77, .tmp 79]) rfl ?_); at_builtin; refine R_append (Kd.int .i64) (w0 := w) w.heap.size rfl (.tmp 77) (.tmp 79) 22 3 (.int .i64 0) 8 rfl Try.underlying22 info3 rfl (by decide) (by omega) u144001 x144001_2 (Go.bits .xor .i64 (rd l1_1 x43_2) (rd l2_1 x43_2)) [.int .i64 (Go.bits .xor .i64 (rd l1_1 x43_2) (rd l2_1 x43_2))] (fun _ => True) (fun _ => False) rfl rfl ?aP (fun _ hk => hk.elim) ?aF ?aO ?aB ?aS ?aL ?_; (case aP => exact rfl); (case aB => exact (BL HB.1)); (case aF => exact (fun _ _ => trivial)); (case aO => exact (PR HO_144001.1)); (case aS => exact (bZ HB.1)); (case aL => have := LMc98.1; omega); intro v153 w108 ho hb hg hat; rw [<- Ny152.1] at ho; refine E6 (bG BK138.1 hg (R_ne HO_144001.1 BK138.1 (by decide))) (bG BK139.1 hg (R_ne HO_144001.1 BK139.1 (by decide))) (bG BK140.1 hg (R_ne HO_144001.1 BK140.1 (by decide))) (bG BK143.1 hg (R_ne HO_144001.1 BK143.1 (by decide))) (hb) (ho) ?_; clear BK138 BK139 BK140 BK143 HB HO_144001; intro BK138 BK139 BK140 BK143 HB HO154; clear ho hb hg hat; obtain ⟨Ao109, co109, eo109⟩ := R_slice HO154.1; subst eo109; obtain ⟨hcz110_0, hcz110_1, hfz110_0, hfz110_1⟩ := cz2 BK143.1)))
     go_roundg k2
     case measure => have := HJ3.1; have := HK2.1; omega
     case rel => exact ⟨(wrap64 (x43_2 + 1)), (y152), (.slice Ao109 y152.length co109), RG, H', ⟨by have := HJ3.1; have := HK2.1; omega⟩, ⟨by (with_reducible repeat (first | apply R_alloc | apply R_drewN | apply R_drew)); exact R_mono (RQ gb143 1 (R_types HO154.1 BK143.1 (by decide)) _) (fun _ hk => trivial)⟩, ⟨by (with_reducible repeat (first | refine blk_drewN ?_ _ | refine blk_drew ?_ | refine blk_alloc ?_ _)); refine blk_far ?_ NB138_143.1 _; (with_reducible repeat (first | refine blk_drewN ?_ _ | refine blk_drew ?_ | refine blk_alloc ?_ _)); exact BK138.1⟩, ⟨by (with_reducible repeat (first | refine blk_drewN ?_ _ | refine blk_drew ?_ | refine blk_alloc ?_ _)); refine blk_far ?_ NB139_143.1 _; (with_reducible repeat (first | refine blk_drewN ?_ _ | refine blk_drew ?_ | refine blk_alloc ?_ _)); exact BK139.1⟩, ⟨by (with_reducible repeat (first | refine blk_drewN ?_ _ | refine blk_drew ?_ | refine blk_alloc ?_ _)); refine blk_far ?_ NB140_143.1 _; (with_reducible repeat (first | refine blk_drewN ?_ _ | refine blk_drew ?_ | refine blk_alloc ?_ _)); exact BK140.1⟩, ⟨by (with_reducible repeat (first | refine blk_drewN ?_ _ | refine blk_drew ?_ | refine blk_alloc ?_ _)); refine blk_put (cs := #[.int .i64 a1_0, u144001]) ?_ 1 _ rfl; (with_reducible repeat (first | refine blk_drewN ?_ _ | refine blk_drew ?_ | refine blk_alloc ?_ _)); exact BK143.1⟩, ⟨BL HB.1⟩⟩
   have c97b0 := beq_eq_false_iff_ne.mpr c97
   have c97b1 := bne_iff_ne.mpr c97
   replace H := ifP H; obtain ⟨c111, H⟩ := H
   have LMc111 := Aside0.mk c111
   clear c111
   generalize hy155 : ((x144001_2 ++ [Go.bits .or .i64 (wrap64 (1 - (rd l1_1 x43_2))) (rd l2_1 x43_2)]) : List Int) = y155 at H
   have Ny155 := Aside0.mk hy155.symm; clear hy155
   have H' := Aside0.mk H
   clear H
   obtain ⟨hcz115_0, hcz115_1, hfz115_0, hfz115_1⟩ := cz2 BK138.1
   have p144 : 0 <= (x43_2 : Int) := OD
   have q144 : x43_2 < (l1_1.length : Int) := OD
   obtain ⟨ad144, e144, hx144_0⟩ := Kd.at_int HR1_1.1 x43_2 p144 q144
   cases e144
   replace hx144_0 := (HB.1.cell (World.block_lt_of_cell? w _ hx144_0)).trans hx144_0
   replace p144 := eq_true p144
   replace q144 := eq_true q144
   have hnb116 := NB139_140.1
   have hnc116 := NB140_139.1
   obtain ⟨hcz118_0, hcz118_1, hfz118_0, hfz118_1⟩ := cz2 BK139.1
   have p145 : 0 <= (x43_2 : Int) := OD
   have q145 : x43_2 < (l2_1.length : Int) := OD
   obtain ⟨ad145, e145, hx145_0⟩ := Kd.at_int HR2_1.1 x43_2 p145 q145
   cases e145
   replace hx145_0 := (HB.1.cell (World.block_lt_of_cell? w _ hx145_0)).trans hx145_0
   replace p145 := eq_true p145
   replace q145 := eq_true q145
   obtain ⟨hcz120_0, hcz120_1, hfz120_0, hfz120_1⟩ := cz2 BK143.1
   go_wp2_with (first | ((with_reducible refine gate_builtin (b := .append) (xs := #[.tmp 77, .tmp 79]) rfl ?_); at_builtin; refine R_append (Kd.int .i64) (w0 := w) w.heap.size rfl (.tmp 77) (.tmp 79) 22 3 (.int .i64 0) 8 rfl Try.underlying22 info3 rfl (by decide) (by omega) u144001 x144001_2 (Go.bits .or .i64 (wrap64 (1 - (rd l1_1 x43_2))) (rd l2_1 x43_2)) [.int .i64 (Go.bits .or .i64 (wrap64 (1 - (rd l1_1 x43_2))) (rd l2_1 x43_2))] (fun _ => True) (fun _ => False) rfl rfl ?aP (fun _ hk => hk.elim) ?aF ?aO ?aB ?aS ?aL ?_; (case aP => exact rfl); (case aB => exact (BL HB.1)); (case aF => exact (fun _ _ => trivial)); (case aO => exact (PR HO_144001.1)); (case aS => exact (bZ HB.1)); (case aL => have := LMc111.1; omega); intro v156 w121 ho hb hg hat; rw [<- Ny155.1] at ho; refine E6 (bG BK138.1 hg (R_ne HO_144001.1 BK138.1 (by decide))) (bG BK139.1 hg (R_ne HO_144001.1 BK139.1 (by decide))) (bG BK140.1 hg (R_ne HO_144001.1 BK140.1 (by decide))) (bG BK143.1 hg (R_ne HO_144001.1 BK143.1 (by decide))) (hb) (ho) ?_; clear BK138 BK139 BK140 BK143 HB HO_144001; intro BK138 BK139 BK140 BK143 HB HO157; clear ho hb hg hat; obtain ⟨Ao122, co122, eo122⟩ := R_slice HO157.1; subst eo122; obtain ⟨hcz123_0, hcz123_1, hfz123_0, hfz123_1⟩ := cz2 BK143.1))
   repeat (go_quiet (first | ((with_reducible refine gate_builtin (b := .append) (xs := #[.tmp 77, .tmp 79]) rfl ?_); at_builtin; refine R_append (Kd.int .i64) (w0 := w) w.heap.size rfl (.tmp 77) (.tmp 79) 22 3 (.int .i64 0) 8 rfl Try.underlying22 info3 rfl (by decide) (by omega) u144001 x144001_2 (Go.bits .or .i64 (wrap64 (1 - (rd l1_1 x43_2))) (rd l2_1 x43_2)) [.int .i64 (Go.bits .or .i64 (wrap64 (1 - (rd l1_1 x43_2))) (rd l2_1 x43_2))] (fun _ => True) (fun _ => False) rfl rfl ?aP (fun _ hk => hk.elim) ?aF ?aO ?aB ?aS ?aL ?_; (case aP => exact rfl); (case aB => exact (BL HB.1)); (case aF => exact (fun _ _ => trivial)); (case aO => exact (PR HO_144001.1)); (case aS => exact (bZ HB.1)); (case aL => have := LMc111.1; omega); intro v156 w121 ho hb hg hat; rw [<- Ny155.1] at ho; refine E6 (bG BK138.1 hg (R_ne HO_144001.1 BK138.1 (by decide))) (bG BK139.1 hg (R_ne HO_144001.1 BK139.1 (by decide))) (bG BK140.1 hg (R_ne HO_144001.1 BK140.1 (by decide))) (bG BK143.1 hg (R_ne HO_144001.1 BK143.1 (by decide))) (hb) (ho) ?_; clear BK138 BK139 BK140 BK143 HB HO_144001; intro BK138 BK139 BK140 BK143 HB HO157; clear ho hb hg hat; obtain ⟨Ao122, co122, eo122⟩ := R_slice HO157.1; subst eo122; obtain ⟨hcz123_0, hcz123_1, hfz123_0, hfz123_1⟩ := cz2 BK143.1)); try go_wp2_with (first | ((with_reducible refine gate_builtin (b := .append) (xs := #[.tmp 77, .tmp 79]) rfl ?_); at_builtin; refine R_append (Kd.int .i64) (w0 := w) w.heap.size rfl (.tmp 77) (.tmp 79) 22 3 (.int .i64 0) 8 rfl Try.underlying22 info3 rfl (by decide) (by omega) u144001 x144001_2 (Go.bits .or .i64 (wrap64 (1 - (rd l1_1 x43_2))) (rd l2_1 x43_2)) [.int .i64 (Go.bits .or .i64 (wrap64 (1 - (rd l1_1 x43_2))) (rd l2_1 x43_2))] (fun _ => True) (fun _ => False) rfl rfl ?aP (fun _ hk => hk.elim) ?aF ?aO ?aB ?aS ?aL ?_; (case aP => exact rfl); (case aB => exact (BL HB.1)); (case aF => exact (fun _ _ => trivial)); (case aO => exact (PR HO_144001.1)); (case aS => exact (bZ HB.1)); (case aL => have := LMc111.1; omega); intro v156 w121 ho hb hg hat; rw [<- Ny155.1] at ho; refine E6 (bG BK138.1 hg (R_ne HO_144001.1 BK138.1 (by decide))) (bG BK139.1 hg (R_ne HO_144001.1 BK139.1 (by decide))) (bG BK140.1 hg (R_ne HO_144001.1 BK140.1 (by decide))) (bG BK143.1 hg (R_ne HO_144001.1 BK143.1 (by decide))) (hb) (ho) ?_; clear BK138 BK139 BK140 BK143 HB HO_144001; intro BK138 BK139 BK140 BK143 HB HO157; clear ho hb hg hat; obtain ⟨Ao122, co122, eo122⟩ := R_slice HO157.1; subst eo122; obtain ⟨hcz123_0, hcz123_1, hfz123_0, hfz123_1⟩ := cz2 BK143.1)))
   go_roundg k2
   case measure => have := HJ3.1; have := HK2.1; omega
   case rel => exact ⟨(wrap64 (x43_2 + 1)), (y155), (.slice Ao122 y155.length co122), RG, H', ⟨by have := HJ3.1; have := HK2.1; omega⟩, ⟨by (with_reducible repeat (first | apply R_alloc | apply R_drewN | apply R_drew)); exact R_mono (RQ gb143 1 (R_types HO157.1 BK143.1 (by decide)) _) (fun _ hk => trivial)⟩, ⟨by (with_reducible repeat (first | refine blk_drewN ?_ _ | refine blk_drew ?_ | refine blk_alloc ?_ _)); refine blk_far ?_ NB138_143.1 _; (with_reducible repeat (first | refine blk_drewN ?_ _ | refine blk_drew ?_ | refine blk_alloc ?_ _)); exact BK138.1⟩, ⟨by (with_reducible repeat (first | refine blk_drewN ?_ _ | refine blk_drew ?_ | refine blk_alloc ?_ _)); refine blk_far ?_ NB139_143.1 _; (with_reducible repeat (first | refine blk_drewN ?_ _ | refine blk_drew ?_ | refine blk_alloc ?_ _)); exact BK139.1⟩, ⟨by (with_reducible repeat (first | refine blk_drewN ?_ _ | refine blk_drew ?_ | refine blk_alloc ?_ _)); refine blk_far ?_ NB140_143.1 _; (with_reducible repeat (first | refine blk_drewN ?_ _ | refine blk_drew ?_ | refine blk_alloc ?_ _)); exact BK140.1⟩, ⟨by (with_reducible repeat (first | refine blk_drewN ?_ _ | refine blk_drew ?_ | refine blk_alloc ?_ _)); refine blk_put (cs := #[.int .i64 a1_0, u144001]) ?_ 1 _ rfl; (with_reducible repeat (first | refine blk_drewN ?_ _ | refine blk_drew ?_ | refine blk_alloc ?_ _)); exact BK143.1⟩, ⟨BL HB.1⟩⟩
 simp only [Option.some.injEq, Prod.mk.injEq] at H
 obtain ⟨rfl, rfl, rfl⟩ := H
 obtain ⟨hcz127_0, hcz127_1, hfz127_0, hfz127_1⟩ := cz2 BK143.1
 have hnb129 := NB140_139.1
 have hnc129 := NB139_140.1
 obtain ⟨hcz130_0, hcz130_1, hfz130_0, hfz130_1⟩ := cz2 BK140.1
 obtain ⟨Ao131, co131, eo131⟩ := R_slice HO_144001.1
 subst eo131
 go_wp2
 repeat (go_quiet (fail); try go_wp2)
 refine bodyPost_ret (results_ct rfl _ _ gb140 26 #[.int .i64 a1_0, .slice Ao131 x144001_2.length co131] (0, 0) _ rfl (PF0 BK140.1) Try.underlying26 rfl (by kernel_rfl)) rfl ?_
 exact ⟨_, RF, by (with_reducible repeat (first | apply R_alloc | apply R_drewN | apply R_drew)); exact R_mono (RQ gb140 1 (RQ gb140 0 (R_types HO_144001.1 BK140.1 (by decide)) _) _) (fun _ hk => trivial), BL HB.1⟩
/-! ### laws_eqIntS: function 17 -/
open Kd
def laws_eqIntS.l0 : Nat -> List Int -> List Int -> Int -> Option (Bool)
 | 0, _, _, _ => none
 | k + 1, x0, x1, x5 => if x5 < (x0.length : Int) then (if 0 <= x5 then (if x5 < (x1.length : Int) then (if (rd x0 x5) = (rd x1 x5) then (laws_eqIntS.l0 k x0 x1 (wrap64 (x5 + 1))) else (some false)) else (none)) else (none)) else (some true)
def laws_eqIntS.f (k : Nat) (l0 : List Int) (l1 : List Int) : Option (Bool) := if (l0.length : Int) = (l1.length : Int) then (laws_eqIntS.l0 k l0 l1 0) else (some false)
theorem laws_eqIntS.mono_l : ∀ k, (∀ y0 y1 y2, LeO (laws_eqIntS.l0 k y0 y1 y2) (laws_eqIntS.l0 (k + 1) y0 y1 y2))
 | 0 => fun _ _ _ r h => by simp [laws_eqIntS.l0] at h
 | k + 1 => by
  have ih0 := laws_eqIntS.mono_l k
  intros
  first | unfold laws_eqIntS.l0
  exact LM1 ih0
theorem laws_eqIntS.mono : ∀ a0 a1 k, LeO (laws_eqIntS.f k a0 a1) (laws_eqIntS.f (k + 1) a0 a1) := by
 intro a0 a1 k
 have ih0 := laws_eqIntS.mono_l k
 unfold laws_eqIntS.f
 exact LM1 ih0
theorem laws_eqIntS.calls (k : Nat) (A0 : Option Addr) (c0 : Nat) (l0 : List Int) (A1 : Option Addr) (c1 : Nat) (l1 : List Int) (r : Bool) (w : World) (hr0 : Kd.C (Kd.int .i64) w A0 l0.length l0) (hc0 : l0.length <= c0) (hr1 : Kd.C (Kd.int .i64) w A1 l1.length l1) (hc1 : l1.length <= c1) (h : laws_eqIntS.f k l0 l1 = some r) :
 Calls Try.prog 17 #[.slice A0 l0.length c0, .slice A1 l1.length c1] w fun e w' => e = .returned (.bool r) /\ Drawn0 w w' := by
 have HR0 := Aside0.mk hr0
 have HC0 := Aside0.mk hc0
 clear hr0 hc0
 have HR1 := Aside0.mk hr1
 have HC1 := Aside0.mk hc1
 clear hr1 hc1
 have H := h
 clear h
 unfold laws_eqIntS.f at H
 replace H := ifQ H; rcases H with ⟨c3, H⟩ | ⟨c3, H⟩
 · have c3b0 := beq_iff_eq.mpr c3
   have c3b1 := bne_eq_false_iff_eq.mpr c3
   have c3b2 : (l0.length == l1.length) = true := by first | simpa using c3 | (simp at c3 ⊢; omega)
   clear c3
   have H' := Aside0.mk H
   clear H
   go_enter Try.func17, Try.ntmps17
   go_wp2
   repeat (go_quiet (fail); try go_wp2)
   go_loopg [5] k (fun kq v5 w' => ∃ (x5_1 : Int), v5 = .int .i64 x5_1 /\ Aside0 (laws_eqIntS.l0 kq l0 l1 x5_1 = some r) /\ Aside0 (kq <= k) /\ Drawn0 w w')
   case atStart => exact ⟨(0), RG, H', ⟨Nat.le_refl _⟩, DR⟩
   clear H'
   try clear c1; clear c3b0 c3b1 c3b2
   obtain ⟨x5_1, rfl, HA, HK1, ⟨m1, rfl⟩⟩ := hrel
   cases gk with
   | zero => exact absurd HA.1 (by simp [laws_eqIntS.l0])
   | succ k1 => ?_
   have H := HA.1
   clear HA
   simp only [laws_eqIntS.l0] at H
   replace H := ifB H; rcases H with ⟨c4b0, H⟩ | ⟨c4b0, H⟩
   · replace H := ifN H; obtain ⟨c5b0, H⟩ := H
     replace H := ifN H; obtain ⟨c6b0, H⟩ := H
     replace H := ifQ H; rcases H with ⟨c7, H⟩ | ⟨c7, H⟩
     · have c7b0 := beq_iff_eq.mpr c7
       have c7b1 := bne_eq_false_iff_eq.mpr c7
       clear c7
       have H' := Aside0.mk H
       clear H
       have p158 : 0 <= (x5_1 : Int) := OD
       have q158 : x5_1 < (l0.length : Int) := OD
       obtain ⟨ad158, e158, hx158_0⟩ := Kd.at_int HR0.1 x5_1 p158 q158
       cases e158
       replace p158 := eq_true p158
       replace q158 := eq_true q158
       have p159 : 0 <= (x5_1 : Int) := OD
       have q159 : x5_1 < (l1.length : Int) := OD
       obtain ⟨ad159, e159, hx159_0⟩ := Kd.at_int HR1.1 x5_1 p159 q159
       cases e159
       replace p159 := eq_true p159
       replace q159 := eq_true q159
       go_wp2
       repeat (go_quiet (fail); try go_wp2)
       go_roundg k1
       case measure => have := HK1.1; omega
       case rel => exact ⟨(wrap64 (x5_1 + 1)), RG, H', ⟨by have := HK1.1; omega⟩, DR⟩
     have c7b0 := beq_eq_false_iff_ne.mpr c7
     have c7b1 := bne_iff_ne.mpr c7
     obtain rfl := Option.some.inj H
     have p158 : 0 <= (x5_1 : Int) := OD
     have q158 : x5_1 < (l0.length : Int) := OD
     obtain ⟨ad158, e158, hx158_0⟩ := Kd.at_int HR0.1 x5_1 p158 q158
     cases e158
     replace p158 := eq_true p158
     replace q158 := eq_true q158
     have p159 : 0 <= (x5_1 : Int) := OD
     have q159 : x5_1 < (l1.length : Int) := OD
     obtain ⟨ad159, e159, hx159_0⟩ := Kd.at_int HR1.1 x5_1 p159 q159
     cases e159
     replace p159 := eq_true p159
     replace q159 := eq_true q159
     go_wp2
     repeat (go_quiet (fail); try go_wp2)
     go_ret
     exact ⟨RG, DR⟩
   obtain rfl := Option.some.inj H
   go_wp2
   repeat (go_quiet (fail); try go_wp2)
   go_ret
   exact ⟨RG, DR⟩
 have c3b0 := beq_eq_false_iff_ne.mpr c3
 have c3b1 := bne_iff_ne.mpr c3
 have c3b2 : (l0.length == l1.length) = false := by first | simpa using c3 | (simp at c3 ⊢; omega)
 obtain rfl := Option.some.inj H
 go_enter Try.func17, Try.ntmps17
 go_wp2
 repeat (go_quiet (fail); try go_wp2)
 go_ret
 exact ⟨RG, DR⟩
/-! ### laws_eqTable: function 8 -/
open Kd
def laws_eqTable.f (k : Nat) (a0_0 : Int) (l0_1 : List Int) (a1_0 : Int) (l1_1 : List Int) : Option (Bool) := if a0_0 = a1_0 then ((laws_eqIntS.f k l0_1 l1_1).bind fun t162 => (if t162 = true then (some true) else (some false))) else (some false)
theorem laws_eqTable.mono : ∀ a0 a1 a2 a3 k, LeO (laws_eqTable.f k a0 a1 a2 a3) (laws_eqTable.f (k + 1) a0 a1 a2 a3) := by
 intro a0 a1 a2 a3 k
 unfold laws_eqTable.f
 repeat' first
  | (with_reducible exact laws_eqIntS.mono _ _ _)
  | (with_reducible exact LeO.refl _)
  | (with_reducible exact LeO.none _)
  | (with_reducible refine LeO.ite ?_ ?_)
  | (with_reducible refine LeO.bind ?_ (fun _ => ?_))
  | exact laws_eqIntS.mono _ _ _
  | exact LeO.none _
  | refine LeO.ite ?_ ?_
  | refine LeO.bind ?_ (fun _ => ?_)
theorem laws_eqTable.calls (k : Nat) (a0_0 : Int) (A0_1 : Option Addr) (c0_1 : Nat) (l0_1 : List Int) (a1_0 : Int) (A1_1 : Option Addr) (c1_1 : Nat) (l1_1 : List Int) (r : Bool) (w : World) (hr0_1 : Kd.C (Kd.int .i64) w A0_1 l0_1.length l0_1) (hc0_1 : l0_1.length <= c0_1) (hr1_1 : Kd.C (Kd.int .i64) w A1_1 l1_1.length l1_1) (hc1_1 : l1_1.length <= c1_1) (h : laws_eqTable.f k a0_0 l0_1 a1_0 l1_1 = some r) :
 Calls Try.prog 8 #[.agg #[.int .i64 a0_0, .slice A0_1 l0_1.length c0_1], .agg #[.int .i64 a1_0, .slice A1_1 l1_1.length c1_1]] w fun e w' => e = .returned (.bool r) /\ Below w.heap.size w w' := by
 have hu26 := Try.underlying26
 have HR0_1 := Aside0.mk hr0_1
 have HC0_1 := Aside0.mk hc0_1
 clear hr0_1 hc0_1
 have HR1_1 := Aside0.mk hr1_1
 have HC1_1 := Aside0.mk hc1_1
 clear hr1_1 hc1_1
 have HB := Aside0.mk (Below.refl w.heap.size w)
 have H := h
 clear h
 unfold laws_eqTable.f at H
 replace H := ifQ H; rcases H with ⟨c3, H⟩ | ⟨c3, H⟩
 · have c3b0 := beq_iff_eq.mpr c3
   have c3b1 := bne_eq_false_iff_eq.mpr c3
   clear c3
   replace H := bindA H; obtain ⟨t162, A4, H⟩ := H
   replace H := ifX H; rcases H with ⟨rfl, H⟩ | ⟨rfl, H⟩
   · obtain rfl := Option.some.inj H
     go_enter Try.func8, Try.ntmps8
     go_wp2_with (first | ((with_reducible refine gate_dst (N := 2) rfl ?_); refine boxE (cs := #[.int .i64 a0_0, .slice A0_1 l0_1.length c0_1]) (t := 26) ?_; intro gb160 hg w6 hbox hb; refine E4b HB.1 hg hbox hb ?_; clear HB; intro HB BK160 GW160 GE160; clear hb hbox hg) | ((with_reducible refine gate_dst (N := 3) rfl ?_); refine boxE (cs := #[.int .i64 a1_0, .slice A1_1 l1_1.length c1_1]) (t := 26) ?_; intro gb161 hg w7 hbox hb; refine E7 (bB BK160.1 hb) (bS HB.1 hb) (hbox) (gX HB.1 hg) (gX HB.1 hg) (nB BK160.1 hg) (nC BK160.1 hg) ?_; clear BK160 HB; intro BK160 HB BK161 GW161 GE161 NB160_161 NB161_160; clear hb hbox hg; have hnb8 := NB160_161.1; have hnc8 := NB161_160.1; obtain ⟨hcz9_0, hcz9_1, hfz9_0, hfz9_1⟩ := cz2 BK160.1; obtain ⟨hcz10_0, hcz10_1, hfz10_0, hfz10_1⟩ := cz2 BK161.1) | ((with_reducible refine gate_callee (f := 17) rfl ?_); refine goesM (N := (some 14)) #[.slice A0_1 l0_1.length c0_1, .slice A1_1 l1_1.length c1_1] Try.func17 ?_; (with_reducible refine (laws_eqIntS.calls k _ _ l0_1 _ _ l1_1 true _ ?side1 ?side2 ?side3 ?side4 A4.1).mono ?_); (case side1 => exact CB (C_below HR0_1.1 HB.1)); (case side2 => exact HC0_1.1); (case side3 => exact CB (C_below HR1_1.1 HB.1)); (case side4 => exact HC1_1.1); rintro e w' ⟨rfl, ⟨nd, rfl⟩⟩; refine ⟨_, rfl, ?_⟩))
     go_ret
     exact ⟨RF, BL HB.1⟩
   obtain rfl := Option.some.inj H
   go_enter Try.func8, Try.ntmps8
   go_wp2_with (first | ((with_reducible refine gate_dst (N := 2) rfl ?_); refine boxE (cs := #[.int .i64 a0_0, .slice A0_1 l0_1.length c0_1]) (t := 26) ?_; intro gb160 hg w11 hbox hb; refine E4b HB.1 hg hbox hb ?_; clear HB; intro HB BK160 GW160 GE160; clear hb hbox hg) | ((with_reducible refine gate_dst (N := 3) rfl ?_); refine boxE (cs := #[.int .i64 a1_0, .slice A1_1 l1_1.length c1_1]) (t := 26) ?_; intro gb161 hg w12 hbox hb; refine E7 (bB BK160.1 hb) (bS HB.1 hb) (hbox) (gX HB.1 hg) (gX HB.1 hg) (nB BK160.1 hg) (nC BK160.1 hg) ?_; clear BK160 HB; intro BK160 HB BK161 GW161 GE161 NB160_161 NB161_160; clear hb hbox hg; have hnb13 := NB160_161.1; have hnc13 := NB161_160.1; obtain ⟨hcz14_0, hcz14_1, hfz14_0, hfz14_1⟩ := cz2 BK160.1; obtain ⟨hcz15_0, hcz15_1, hfz15_0, hfz15_1⟩ := cz2 BK161.1) | ((with_reducible refine gate_callee (f := 17) rfl ?_); refine goesM (N := (some 14)) #[.slice A0_1 l0_1.length c0_1, .slice A1_1 l1_1.length c1_1] Try.func17 ?_; (with_reducible refine (laws_eqIntS.calls k _ _ l0_1 _ _ l1_1 false _ ?side1 ?side2 ?side3 ?side4 A4.1).mono ?_); (case side1 => exact CB (C_below HR0_1.1 HB.1)); (case side2 => exact HC0_1.1); (case side3 => exact CB (C_below HR1_1.1 HB.1)); (case side4 => exact HC1_1.1); rintro e w' ⟨rfl, ⟨nd, rfl⟩⟩; refine ⟨_, rfl, ?_⟩))
   go_ret
   exact ⟨RF, BL HB.1⟩
 have c3b0 := beq_eq_false_iff_ne.mpr c3
 have c3b1 := bne_iff_ne.mpr c3
 obtain rfl := Option.some.inj H
 go_enter Try.func8, Try.ntmps8
 go_wp2_with (first | ((with_reducible refine gate_dst (N := 2) rfl ?_); refine boxE (cs := #[.int .i64 a0_0, .slice A0_1 l0_1.length c0_1]) (t := 26) ?_; intro gb160 hg w16 hbox hb; refine E4b HB.1 hg hbox hb ?_; clear HB; intro HB BK160 GW160 GE160; clear hb hbox hg) | ((with_reducible refine gate_dst (N := 3) rfl ?_); refine boxE (cs := #[.int .i64 a1_0, .slice A1_1 l1_1.length c1_1]) (t := 26) ?_; intro gb161 hg w17 hbox hb; refine E7 (bB BK160.1 hb) (bS HB.1 hb) (hbox) (gX HB.1 hg) (gX HB.1 hg) (nB BK160.1 hg) (nC BK160.1 hg) ?_; clear BK160 HB; intro BK160 HB BK161 GW161 GE161 NB160_161 NB161_160; clear hb hbox hg; have hnb18 := NB160_161.1; have hnc18 := NB161_160.1; obtain ⟨hcz19_0, hcz19_1, hfz19_0, hfz19_1⟩ := cz2 BK160.1; obtain ⟨hcz20_0, hcz20_1, hfz20_0, hfz20_1⟩ := cz2 BK161.1))
 go_ret
 exact ⟨RF, BL HB.1⟩
/-! ### laws_markIntS: function 18 -/
open Kd
def laws_markIntS.l0 : Nat -> List Int -> Int -> Int -> Option (Int × List Int)
 | 0, _, _, _ => none
 | k + 1, x0, x1, x5 => if x5 < (x0.length : Int) then (if 0 <= x5 then (laws_markIntS.l0 k (x0.set (x5 : Int).toNat x1) (wrap64 (x1 + 1)) (wrap64 (x5 + 1))) else (none)) else (some (x1, x0))
def laws_markIntS.f (k : Nat) (l0 : List Int) (a1 : Int) : Option (Int × List Int) := laws_markIntS.l0 k l0 a1 0
theorem laws_markIntS.mono_l : ∀ k, (∀ y0 y1 y2, LeO (laws_markIntS.l0 k y0 y1 y2) (laws_markIntS.l0 (k + 1) y0 y1 y2))
 | 0 => fun _ _ _ r h => by simp [laws_markIntS.l0] at h
 | k + 1 => by
  have ih0 := laws_markIntS.mono_l k
  intros
  first | unfold laws_markIntS.l0
  exact LM1 ih0
theorem laws_markIntS.mono : ∀ a0 a1 k, LeO (laws_markIntS.f k a0 a1) (laws_markIntS.f (k + 1) a0 a1) := by
 intro a0 a1 k
 have ih0 := laws_markIntS.mono_l k
 unfold laws_markIntS.f
 exact LM1 ih0
theorem laws_markIntS.calls (k : Nat) (P0_ : Nat -> Prop) (u9000_ : Value) (l0 : List Int) (a1 : Int) (r1 : Int) (r2 : List Int) (w0 w : World) (hB : Below w0.heap.size w0 w) (ho0 : Kd.R (Kd.int .i64) 3 w w0.heap.size P0_ u9000_ l0) (h : laws_markIntS.f k l0 a1 = some (r1, r2)) :
 Calls Try.prog 18 #[u9000_, .int .i64 a1] w fun e w' => e = .returned (.int .i64 r1) /\ Kd.R (Kd.int .i64) 3 w' w0.heap.size (fun k_ => (P0_ k_ ∨ w.heap.size <= k_)) u9000_ r2 /\ Below w0.heap.size w0 w' /\ Kept w w' (fun k_ => P0_ k_) := by
 have HO0 := Aside0.mk (show Kd.R (Kd.int .i64) 3 w w0.heap.size (fun k_ => (P0_ k_ ∨ w.heap.size <= k_)) u9000_ l0 from R_mono ho0 (fun k_ hk => (.inl hk)))
 have HK := Aside0.mk (Kept.refl w (fun k_ => P0_ k_))
 have HW0 := Aside0.mk hB.size
 have HB := Aside0.mk hB
 clear hB
 have H := h
 clear h
 unfold laws_markIntS.f at H
 have H' := Aside0.mk H
 clear H
 go_enter Try.func18, Try.ntmps18
 go_wp2
 go_loopg [1, 5] k (fun kq v1 v5 w' => ∃ (x0_1 : List Int) (x1_1 : Int) (x5_1 : Int), v1 = .int .i64 x1_1 /\ v5 = .int .i64 x5_1 /\ Aside0 (laws_markIntS.l0 kq x0_1 x1_1 x5_1 = some (r1, r2)) /\ Aside0 (kq <= k) /\ Aside0 (Kd.R (Kd.int .i64) 3 w' w0.heap.size (fun k_ => (P0_ k_ ∨ w.heap.size <= k_)) u9000_ x0_1) /\ Aside0 (Kept w w' (fun k_ => P0_ k_)) /\ Aside0 (Below w0.heap.size w0 w'))
 case atStart => exact ⟨(l0), (a1), (0), RG, RG, H', ⟨Nat.le_refl _⟩, ⟨PR HO0.1⟩, ⟨KL HK.1⟩, ⟨BL HB.1⟩⟩
 clear H'
 obtain ⟨x0_1, x1_1, x5_1, rfl, rfl, HA, HK1, HO_0, HK, HB⟩ := hrel
 cases gk with
 | zero => exact absurd HA.1 (by simp [laws_markIntS.l0])
 | succ k1 => ?_
 have H := HA.1
 clear HA
 simp only [laws_markIntS.l0] at H
 replace H := ifB H; rcases H with ⟨c3b0, H⟩ | ⟨c3b0, H⟩
 · replace H := ifN H; obtain ⟨c4b0, H⟩ := H
   generalize hy163 : ((x0_1.set (x5_1 : Int).toNat x1_1) : List Int) = y163 at H
   have Ny163 := Aside0.mk hy163.symm; clear hy163
   have H' := Aside0.mk H
   clear H
   obtain ⟨Ao6, co6, eo6⟩ := R_slice HO_0.1
   subst eo6
   have p5 : 0 <= (x5_1 : Int) := OD
   have q5 : (x5_1 : Int) < ((x0_1.length : Int) : Int) := OD
   obtain ⟨go5, co5, eo5, gb5, gl5, cl5, HG5⟩ := R_form HO_0.1 (by omega)
   (first | cases eo5 | (injection eo5 with ea_ en_ ec_; (first | subst ea_ | (injection ea_ with ea_; subst ea_)); subst ec_; clear en_))
   have GB5 := Aside0.mk gb5
   have GG5 := Aside0.mk HG5
   clear gb5 gl5 HG5
   have HMgo5 := Aside0.mk (show (P0_ go5 ∨ w.heap.size <= go5) from (HO_0.1.1 _ rfl))
   obtain ⟨hx5_0, hf5_0⟩ := R_celln 0 HO_0.1 (x5_1 : Int) p5 q5
   replace p5 := eq_true p5
   replace q5 := eq_true q5
   have HP7 := R_putg HO_0.1 (x5_1 : Int) x1_1
   go_wp2_with (first | ((with_reducible refine gate_store (t := 3) (p := 15) rfl ?_); refine storeE (t := 3) (p := 15) (w1 := (wr.setCell ⟨go5, (x5_1 : Int).toNat, none⟩ (.int .i64 x1_1))) ?_; intro w8 hw; have hg : wr.grownBy w8 (some go5) := (by rw [hw]; exact HP7.2); have hp_ : Kd.R (Kd.int .i64) 3 w8 w0.heap.size (fun k_ => (P0_ k_ ∨ w.heap.size <= k_)) (.slice (some ⟨go5, 0, none⟩) x0_1.length co6) y163 := (by rw [hw, Ny163.1]; exact HP7.1); clear HP7; refine E3 (hp_) ((by rw [hw]; exact below_set (HB.1) GB5.1 : Below w0.heap.size w0 w8)) (Kept.of_grown (S := (fun k_ => P0_ k_)) hg (KL HK.1) (fun k_ e_ => (HO_0.1.1 k_ e_))) ?_; clear HO_0 HB HK; intro HO_0 HB HK; clear hg hw hp_))
   go_roundg k1
   case measure => have := HK1.1; omega
   case rel => exact ⟨(y163), (wrap64 (x1_1 + 1)), (wrap64 (x5_1 + 1)), RG, RG, H', ⟨by have := HK1.1; omega⟩, ⟨PR HO_0.1⟩, ⟨KL HK.1⟩, ⟨BL HB.1⟩⟩
 simp only [Option.some.injEq, Prod.mk.injEq] at H
 obtain ⟨rfl, rfl⟩ := H
 obtain ⟨Ao9, co9, eo9⟩ := R_slice HO_0.1
 subst eo9
 go_wp2
 go_ret
 exact ⟨RF, RPE (HO_0.1), BL HB.1, KL HK.1⟩
/-! ### laws_markTable: function 9 -/
open Kd
def laws_markTable.f (k : Nat) (a0_0 : Int) (l0_1 : List Int) (a1 : Int) : Option (Int × List Int) := (laws_markIntS.f k l0_1 a1).bind fun bt165 => (some (bt165.1, bt165.2))
theorem laws_markTable.mono : ∀ a0 a1 a2 k, LeO (laws_markTable.f k a0 a1 a2) (laws_markTable.f (k + 1) a0 a1 a2) := by
 intro a0 a1 a2 k
 unfold laws_markTable.f
 repeat' first
  | (with_reducible exact laws_markIntS.mono _ _ _)
  | (with_reducible exact LeO.refl _)
  | (with_reducible exact LeO.none _)
  | (with_reducible refine LeO.ite ?_ ?_)
  | (with_reducible refine LeO.bind ?_ (fun _ => ?_))
  | exact laws_markIntS.mono _ _ _
  | exact LeO.none _
  | refine LeO.ite ?_ ?_
  | refine LeO.bind ?_ (fun _ => ?_)
theorem laws_markTable.calls (k : Nat) (a0_0 : Int) (P0_1_ : Nat -> Prop) (u9000_ : Value) (l0_1 : List Int) (a1 : Int) (r1 : Int) (r2 : List Int) (w0 w : World) (hB : Below w0.heap.size w0 w) (ho0_1 : Kd.R (Kd.int .i64) 3 w w0.heap.size P0_1_ u9000_ l0_1) (h : laws_markTable.f k a0_0 l0_1 a1 = some (r1, r2)) :
 Calls Try.prog 9 #[.agg #[.int .i64 a0_0, u9000_], .int .i64 a1] w fun e w' => e = .returned (.int .i64 r1) /\ Kd.R (Kd.int .i64) 3 w' w0.heap.size (fun k_ => (P0_1_ k_ ∨ w.heap.size <= k_)) u9000_ r2 /\ Below w0.heap.size w0 w' /\ Kept w w' (fun k_ => P0_1_ k_) := by
 have hu26 := Try.underlying26
 have HO0_1 := Aside0.mk (show Kd.R (Kd.int .i64) 3 w w0.heap.size (fun k_ => (P0_1_ k_ ∨ w.heap.size <= k_)) u9000_ l0_1 from R_mono ho0_1 (fun k_ hk => (.inl hk)))
 have HK := Aside0.mk (Kept.refl w (fun k_ => P0_1_ k_))
 have HW0 := Aside0.mk hB.size
 have HB := Aside0.mk hB
 clear hB
 have H := h
 clear h
 unfold laws_markTable.f at H
 replace H := bindA H; obtain ⟨⟨t165, t166⟩, A3, H⟩ := H
 dsimp only at H
 simp only [Option.some.injEq, Prod.mk.injEq] at H
 obtain ⟨rfl, rfl⟩ := H
 obtain ⟨Ao4, co4, eo4⟩ := R_slice HO0_1.1
 subst eo4
 go_enter Try.func9, Try.ntmps9
 go_wp2_with (first | ((with_reducible refine gate_dst (N := 2) rfl ?_); refine boxE (cs := #[.int .i64 a0_0, .slice Ao4 l0_1.length co4]) (t := 26) ?_; intro gb164 hg w5 hbox hb; refine E6 (rB HO0_1.1 hb) (Kept.below (S := (fun k_ => P0_1_ k_)) (KL HK.1) hb) (bS HB.1 hb) (hbox) ((by rw [hg]; exact (by first | exact HK.1.1 | exact (show Kept w _ (fun k_ => P0_1_ k_) from KL HK.1).1) : w.heap.size <= gb164)) (gwM hg (bZ HB.1) : w0.heap.size <= gb164) ?_; clear HO0_1 HK HB; intro HO0_1 HK HB BK164 GW164 GE164; clear hb hbox hg; obtain ⟨hcz6_0, hcz6_1, hfz6_0, hfz6_1⟩ := cz2 BK164.1) | ((with_reducible refine gate_callee (f := 18) rfl ?_); refine goesM (N := (some 8)) #[.slice Ao4 l0_1.length co4, .int .i64 a1] Try.func18 ?_; (with_reducible refine (laws_markIntS.calls k (fun k_ => some k_ = (.slice Ao4 l0_1.length co4 : Value).ownBlock) (.slice Ao4 l0_1.length co4) l0_1 a1 t165 t166 w0 _ ?side1 ?side2 A3.1).mono ?_); (case side1 => exact BL HB.1); (case side2 => exact R_tight rfl HO0_1.1); rintro e w7 ⟨rfl, hy0, hb, hkp⟩; refine ⟨_, rfl, ?_⟩; refine E4 (R_reok rfl hy0 (fun k_ e_ => HO0_1.1.1 k_ e_)) (blk_kept (PB BK164.1) hkp (fun hs_ => (fun e_ => (R_ne HO0_1.1 BK164.1 (by decide)) e_) hs_)) (Kept.then_ (S := (fun k_ => P0_1_ k_)) (KL HK.1) hkp (fun k_ hs_ => (fun e_ => (HO0_1.1.1 k_ e_.symm)) hs_)) (hb) ?_; clear HO0_1 BK164 HK HB; intro HO0_1 BK164 HK HB; (try clear hb); (try clear hkp); (try clear hy0)))
 go_ret
 exact ⟨RF, RPE (HO0_1.1), BL HB.1, KL HK.1⟩

/-! ### laws_heldIntS: function 19 -/
open Kd
def laws_heldIntS.l0 : Nat -> List Int -> Int -> Int -> Option (Int)
 | 0, _, _, _ => none
 | k + 1, x0, x1, x5 => if x5 < (x0.length : Int) then (if 0 <= x5 then (if (rd x0 x5) = x1 then (laws_heldIntS.l0 k x0 (wrap64 (x1 + 1)) (wrap64 (x5 + 1))) else (some (-1))) else (none)) else (some x1)
def laws_heldIntS.f (k : Nat) (l0 : List Int) (a1 : Int) : Option (Int) := laws_heldIntS.l0 k l0 a1 0
theorem laws_heldIntS.mono_l : ∀ k, (∀ y0 y1 y2, LeO (laws_heldIntS.l0 k y0 y1 y2) (laws_heldIntS.l0 (k + 1) y0 y1 y2))
 | 0 => fun _ _ _ r h => by simp [laws_heldIntS.l0] at h
 | k + 1 => by
  have ih0 := laws_heldIntS.mono_l k
  intros
  first | unfold laws_heldIntS.l0
  exact LM1 ih0
theorem laws_heldIntS.mono : ∀ a0 a1 k, LeO (laws_heldIntS.f k a0 a1) (laws_heldIntS.f (k + 1) a0 a1) := by
 intro a0 a1 k
 have ih0 := laws_heldIntS.mono_l k
 unfold laws_heldIntS.f
 exact LM1 ih0
theorem laws_heldIntS.calls (k : Nat) (A0 : Option Addr) (c0 : Nat) (l0 : List Int) (a1 : Int) (r : Int) (w : World) (hr0 : Kd.C (Kd.int .i64) w A0 l0.length l0) (hc0 : l0.length <= c0) (h : laws_heldIntS.f k l0 a1 = some r) :
 Calls Try.prog 19 #[.slice A0 l0.length c0, .int .i64 a1] w fun e w' => e = .returned (.int .i64 r) /\ Drawn0 w w' := by
 have HR0 := Aside0.mk hr0
 have HC0 := Aside0.mk hc0
 clear hr0 hc0
 have H := h
 clear h
 unfold laws_heldIntS.f at H
 have H' := Aside0.mk H
 clear H
 go_enter Try.func19, Try.ntmps19
 go_wp2
 go_loopg [1, 5] k (fun kq v1 v5 w' => ∃ (x1_1 : Int) (x5_1 : Int), v1 = .int .i64 x1_1 /\ v5 = .int .i64 x5_1 /\ Aside0 (laws_heldIntS.l0 kq l0 x1_1 x5_1 = some r) /\ Aside0 (kq <= k) /\ Drawn0 w w')
 case atStart => exact ⟨(a1), (0), RG, RG, H', ⟨Nat.le_refl _⟩, DR⟩
 clear H'
 obtain ⟨x1_1, x5_1, rfl, rfl, HA, HK1, ⟨m1, rfl⟩⟩ := hrel
 cases gk with
 | zero => exact absurd HA.1 (by simp [laws_heldIntS.l0])
 | succ k1 => ?_
 have H := HA.1
 clear HA
 simp only [laws_heldIntS.l0] at H
 replace H := ifB H; rcases H with ⟨c3b0, H⟩ | ⟨c3b0, H⟩
 · replace H := ifN H; obtain ⟨c4b0, H⟩ := H
   replace H := ifQ H; rcases H with ⟨c5, H⟩ | ⟨c5, H⟩
   · have c5b0 := beq_iff_eq.mpr c5
     have c5b1 := bne_eq_false_iff_eq.mpr c5
     clear c5
     have H' := Aside0.mk H
     clear H
     have p167 : 0 <= (x5_1 : Int) := OD
     have q167 : x5_1 < (l0.length : Int) := OD
     obtain ⟨ad167, e167, hx167_0⟩ := Kd.at_int HR0.1 x5_1 p167 q167
     cases e167
     replace p167 := eq_true p167
     replace q167 := eq_true q167
     go_wp2
     go_roundg k1
     case measure => have := HK1.1; omega
     case rel => exact ⟨(wrap64 (x1_1 + 1)), (wrap64 (x5_1 + 1)), RG, RG, H', ⟨by have := HK1.1; omega⟩, DR⟩
   have c5b0 := beq_eq_false_iff_ne.mpr c5
   have c5b1 := bne_iff_ne.mpr c5
   obtain rfl := Option.some.inj H
   have p167 : 0 <= (x5_1 : Int) := OD
   have q167 : x5_1 < (l0.length : Int) := OD
   obtain ⟨ad167, e167, hx167_0⟩ := Kd.at_int HR0.1 x5_1 p167 q167
   cases e167
   replace p167 := eq_true p167
   replace q167 := eq_true q167
   go_wp2
   go_ret
   exact ⟨RG, DR⟩
 obtain rfl := Option.some.inj H
 go_wp2
 go_ret
 exact ⟨RG, DR⟩
/-! ### laws_heldTable: function 10 -/
open Kd
def laws_heldTable.f (k : Nat) (a0_0 : Int) (l0_1 : List Int) (a1 : Int) : Option (Int) := (laws_heldIntS.f k l0_1 a1).bind fun t169 => (if t169 < 0 then (some (-1)) else (some t169))
theorem laws_heldTable.mono : ∀ a0 a1 a2 k, LeO (laws_heldTable.f k a0 a1 a2) (laws_heldTable.f (k + 1) a0 a1 a2) := by
 intro a0 a1 a2 k
 unfold laws_heldTable.f
 repeat' first
  | (with_reducible exact laws_heldIntS.mono _ _ _)
  | (with_reducible exact LeO.refl _)
  | (with_reducible exact LeO.none _)
  | (with_reducible refine LeO.ite ?_ ?_)
  | (with_reducible refine LeO.bind ?_ (fun _ => ?_))
  | exact laws_heldIntS.mono _ _ _
  | exact LeO.none _
  | refine LeO.ite ?_ ?_
  | refine LeO.bind ?_ (fun _ => ?_)
theorem laws_heldTable.calls (k : Nat) (a0_0 : Int) (A0_1 : Option Addr) (c0_1 : Nat) (l0_1 : List Int) (a1 : Int) (r : Int) (w : World) (hr0_1 : Kd.C (Kd.int .i64) w A0_1 l0_1.length l0_1) (hc0_1 : l0_1.length <= c0_1) (h : laws_heldTable.f k a0_0 l0_1 a1 = some r) :
 Calls Try.prog 10 #[.agg #[.int .i64 a0_0, .slice A0_1 l0_1.length c0_1], .int .i64 a1] w fun e w' => e = .returned (.int .i64 r) /\ Below w.heap.size w w' := by
 have hu26 := Try.underlying26
 have HR0_1 := Aside0.mk hr0_1
 have HC0_1 := Aside0.mk hc0_1
 clear hr0_1 hc0_1
 have HB := Aside0.mk (Below.refl w.heap.size w)
 have H := h
 clear h
 unfold laws_heldTable.f at H
 replace H := bindA H; obtain ⟨t169, A3, H⟩ := H
 replace H := ifB H; rcases H with ⟨c4b0, H⟩ | ⟨c4b0, H⟩
 · obtain rfl := Option.some.inj H
   go_enter Try.func10, Try.ntmps10
   go_wp2_with (first | ((with_reducible refine gate_dst (N := 2) rfl ?_); refine boxE (cs := #[.int .i64 a0_0, .slice A0_1 l0_1.length c0_1]) (t := 26) ?_; intro gb168 hg w5 hbox hb; refine E4b HB.1 hg hbox hb ?_; clear HB; intro HB BK168 GW168 GE168; clear hb hbox hg; obtain ⟨hcz6_0, hcz6_1, hfz6_0, hfz6_1⟩ := cz2 BK168.1) | ((with_reducible refine gate_callee (f := 19) rfl ?_); refine goesM (N := (some 8)) #[.slice A0_1 l0_1.length c0_1, .int .i64 a1] Try.func19 ?_; (with_reducible refine (laws_heldIntS.calls k _ _ l0_1 a1 t169 _ ?side1 ?side2 A3.1).mono ?_); (case side1 => exact CB (C_below HR0_1.1 HB.1)); (case side2 => exact HC0_1.1); rintro e w' ⟨rfl, ⟨nd, rfl⟩⟩; refine ⟨_, rfl, ?_⟩))
   go_ret
   exact ⟨RF, BL HB.1⟩
 obtain rfl := Option.some.inj H
 go_enter Try.func10, Try.ntmps10
 go_wp2_with (first | ((with_reducible refine gate_dst (N := 2) rfl ?_); refine boxE (cs := #[.int .i64 a0_0, .slice A0_1 l0_1.length c0_1]) (t := 26) ?_; intro gb168 hg w7 hbox hb; refine E4b HB.1 hg hbox hb ?_; clear HB; intro HB BK168 GW168 GE168; clear hb hbox hg; obtain ⟨hcz8_0, hcz8_1, hfz8_0, hfz8_1⟩ := cz2 BK168.1) | ((with_reducible refine gate_callee (f := 19) rfl ?_); refine goesM (N := (some 8)) #[.slice A0_1 l0_1.length c0_1, .int .i64 a1] Try.func19 ?_; (with_reducible refine (laws_heldIntS.calls k _ _ l0_1 a1 t169 _ ?side1 ?side2 A3.1).mono ?_); (case side1 => exact CB (C_below HR0_1.1 HB.1)); (case side2 => exact HC0_1.1); rintro e w' ⟨rfl, ⟨nd, rfl⟩⟩; refine ⟨_, rfl, ?_⟩))
 go_ret
 exact ⟨RF, BL HB.1⟩
end Go.Proofs.Ytifojdcnhlofkaa.P
