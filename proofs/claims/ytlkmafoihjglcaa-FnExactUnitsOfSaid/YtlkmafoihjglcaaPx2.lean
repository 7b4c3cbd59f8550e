-- PRINTED by print.py (a twelfth state) out of the translation. Not trusted: Lean checks it.
import Derived.Test.YtlkmafoihjglcaaPx0
import Derived.Test.YtlkmafoihjglcaaPx1
namespace Go.Proofs.Ytlkmafoihjglcaa.P
open Go.RowKit Go.Proofs.YtlkmafoihjglcaaW.PrintWords Go.Proofs.YtlkmafoihjglcaaW.PrintLast Go.Proofs.YtlkmafoihjglcaaW.PrintMore
attribute [local go_sem] max2_int min2_int max_two min_two max_three min_three max_four min_four   -- for this text's walks alone
set_option linter.unusedVariables false
set_option linter.unusedSimpArgs false
set_option maxHeartbeats 8000000
set_option maxRecDepth 100000

/-! ### spec_saUnits: function 15 -/
open Kd
mutual
def spec_saUnits.l0 : Nat -> List Int -> List Int -> Int -> Int -> Int -> Int -> List (S49) -> Option ((List (List Int)))
 | 0, _, _, _, _, _, _, _ => none
 | k + 1, x3, x4, x16, x17, x156000, x156001, x156002 => if x17 < x16 then (if 0 <= x17 then (if x17 < (x4.length : Int) then (spec_saUnits.l0 k x3 (x4.set (x17 : Int).toNat (-1)) x16 (wrap64 (x17 + 1)) x156000 x156001 x156002) else (none)) else (none)) else (spec_saUnits.l1 k x3 x4 ([] : List (List Int)) x156002 (x156002.length : Int) 0)
def spec_saUnits.l1 : Nat -> List Int -> List Int -> List (List Int) -> List (S49) -> Int -> Int -> Option ((List (List Int)))
 | 0, _, _, _, _, _, _ => none
 | k + 1, x3, x4, x6, x25, x26, x27 => if x27 < x26 then (if 0 <= x27 then (if x27 < (x25.length : Int) then (if ((rd_T49 x25 x27).f0) = 3 then (if x6.length < 5864062014805 then (spec_saUnits.l1 k x3 x4 (x6 ++ [(([x27] : List Int))]) x25 x26 (wrap64 (x27 + 1))) else (none)) else (if ((rd_T49 x25 x27).f0) = 6 then (if x27 < (x3.length : Int) then (if 0 <= (rd x3 x27) then (if (rd x3 x27) < (x4.length : Int) then (spec_saUnits.j2 k x3 x4 x6 x27 x25 x26 x27 (decide ((rd x4 (rd x3 x27)) < 0)) ((rd_T49 x25 x27).f0) ((rd_T49 x25 x27).f1)) else (none)) else (none)) else (none)) else (spec_saUnits.j2 k x3 x4 x6 x27 x25 x26 x27 false ((rd_T49 x25 x27).f0) ((rd_T49 x25 x27).f1)))) else (none)) else (none)) else (some x6)
def spec_saUnits.j2 : Nat -> List Int -> List Int -> List (List Int) -> Int -> List (S49) -> Int -> Int -> Bool -> Int -> Int -> Option ((List (List Int)))
 | 0, _, _, _, _, _, _, _, _, _, _ => none
 | k + 1, x3, x4, x6, x7, x25, x26, x27, x41, x165000, x165001 => if x41 = true then (if 0 <= x7 then (if x7 < (x3.length : Int) then (if 0 <= (rd x3 x7) then (if (rd x3 x7) < (x4.length : Int) then (if x6.length < 5864062014805 then (spec_saUnits.l1 k x3 (x4.set ((rd x3 x7) : Int).toNat (x6.length : Int)) (x6 ++ [(([x7] : List Int))]) x25 x26 (wrap64 (x27 + 1))) else (none)) else (none)) else (none)) else (none)) else (none)) else (if x165000 = 6 then (if 0 <= x7 then (if x7 < (x3.length : Int) then (if 0 <= (rd x3 x7) then (if (rd x3 x7) < (x4.length : Int) then (if 0 <= (rd x4 (rd x3 x7)) then (if (rd x4 (rd x3 x7)) < (x6.length : Int) then (if (rd_L3 x6 (rd x4 (rd x3 x7))).length < 17592186044416 then (spec_saUnits.l1 k x3 x4 (x6.set ((rd x4 (rd x3 x7)) : Int).toNat ((rd_L3 x6 (rd x4 (rd x3 x7))) ++ [x7])) x25 x26 (wrap64 (x27 + 1))) else (none)) else (none)) else (none)) else (none)) else (none)) else (none)) else (none)) else (spec_saUnits.l1 k x3 x4 x6 x25 x26 (wrap64 (x27 + 1))))
end
def spec_saUnits.f (k : Nat) (a0_0 : Int) (a0_1 : Int) (l0_2 : List (S49)) : Option ((List (List Int))) := (spec_ggGroups.f k a0_0 a0_1 l0_2).bind fun t156 => (if 0 <= (l0_2.length : Int) then (if ((l0_2.length : Int) : Int).toNat <= 35184372088832 then ((some (List.replicate ((l0_2.length : Int) : Int).toNat 0 : List Int)).bind fun y159 => (spec_saUnits.l0 k t156 y159 (y159.length : Int) 0 a0_0 a0_1 l0_2)) else (none)) else (none))
theorem spec_saUnits.mono_l : ∀ k, (∀ y0 y1 y2 y3 y4 y5 y6, LeO (spec_saUnits.l0 k y0 y1 y2 y3 y4 y5 y6) (spec_saUnits.l0 (k + 1) y0 y1 y2 y3 y4 y5 y6)) /\ (∀ y0 y1 y2 y3 y4 y5, LeO (spec_saUnits.l1 k y0 y1 y2 y3 y4 y5) (spec_saUnits.l1 (k + 1) y0 y1 y2 y3 y4 y5)) /\ (∀ y0 y1 y2 y3 y4 y5 y6 y7 y8 y9, LeO (spec_saUnits.j2 k y0 y1 y2 y3 y4 y5 y6 y7 y8 y9) (spec_saUnits.j2 (k + 1) y0 y1 y2 y3 y4 y5 y6 y7 y8 y9))
 | 0 => by refine ⟨?_, ?_, ?_⟩ <;> (intros; intro r h; first | (simp [spec_saUnits.l0] at h; done) | (simp [spec_saUnits.l1] at h; done) | (simp [spec_saUnits.j2] at h; done))
 | k + 1 => by
  obtain ⟨ih0, ih1, ih2⟩ := spec_saUnits.mono_l k
  refine ⟨?_, ?_, ?_⟩ <;> (
   intros
   first | unfold spec_saUnits.l0 | unfold spec_saUnits.l1 | unfold spec_saUnits.j2
   exact LM4 ih0 ih1 ih2 spec_ggGroups.mono)
theorem spec_saUnits.mono : ∀ a0 a1 a2 k, LeO (spec_saUnits.f k a0 a1 a2) (spec_saUnits.f (k + 1) a0 a1 a2) := by
 intro a0 a1 a2 k
 obtain ⟨ih0, ih1, ih2⟩ := spec_saUnits.mono_l k
 unfold spec_saUnits.f
 exact LM4 ih0 ih1 ih2 spec_ggGroups.mono
def spec_saUnits.T18 : Bool × List (List Nat × List Nat) := (true, [([], []), ([], []), ([], []), ([], []), ([2, 3], [2, 3]), ([4], [4]), ([1, 5], [1, 5]), ([6], [6]), ([], []), ([], []), ([], []), ([], []), ([10, 11], [10, 11]), ([12], [12]), ([9, 13], [9, 13]), ([14], [14]), ([8, 15], [8, 15]), ([16], [16]), ([], []), ([18], [18]), ([17, 19], [17, 19]), ([0, 7, 0, 1, 2, 3, 4, 5, 6, 7, 8, 9, 10, 11, 12, 13, 14, 15, 16, 17, 18, 19, 20], [0, 7]), ([21, 20, 20, 0, 1, 2, 3, 4, 5, 6, 7, 8, 9, 10, 11, 12, 13, 14, 15, 16, 17, 18, 19, 20], [20, 21])])
def spec_saUnits.B18 : List Nat := [0, 0, 0, 0, 12, 28, 62, 126, 0, 0, 0, 0, 3072, 7168, 15872, 32256, 65280, 130816, 0, 262144, 1048320, 2097151, 4194303]
theorem spec_saUnits.tab18 : rtab .any (opsOf Try.f15 18) = spec_saUnits.T18 := by kernel_rfl
theorem spec_saUnits.bits18 : waitsOk spec_saUnits.T18.2 spec_saUnits.B18 = true := by kernel_rfl
theorem spec_saUnits.calls (k : Nat) (a0_0 : Int) (a0_1 : Int) (A0_2 : Option Addr) (c0_2 : Nat) (l0_2 : List (S49)) (r : List (List Int)) (w : World) (hr0_2 : Kd.C k49 w A0_2 l0_2.length l0_2) (hc0_2 : l0_2.length <= c0_2) (h : spec_saUnits.f k a0_0 a0_1 l0_2 = some r) :
 Calls Try.prog 15 #[.agg #[.int .i64 a0_0, .int .i64 a0_1, .slice A0_2 l0_2.length c0_2]] w fun e w' => ∃ v0_ : Value, e = .returned (v0_) /\ Kd.S (Kd.slice 3 (Kd.int .i64)) 43 w' w.heap.size (fun _ => True) v0_ r /\ Below w.heap.size w w' := by
 have hu31 := Try.underlying31
 have hu49 := Try.underlying49
 have HR0_2 := Aside0.mk hr0_2
 have HC0_2 := Aside0.mk hc0_2
 clear hr0_2 hc0_2
 have HB := Aside0.mk (Below.refl w.heap.size w)
 have H := h
 clear h
 unfold spec_saUnits.f at H
 replace H := bindA H; obtain ⟨t156, A2, H⟩ := H
 replace H := ifP H; obtain ⟨c3, H⟩ := H
 have c3b0 := eq_true c3
 have c3b1 := decide_eq_true c3
 clear c3
 replace H := ifP H; obtain ⟨c4, H⟩ := H
 have c4b0 := eq_true c4
 have c4b1 := decide_eq_true c4
 clear c4
 replace H := nameB H; obtain ⟨y159, Ny159, H⟩ := H
 have H' := Aside0.mk H
 clear H
 go_enter Try.func15, Try.ntmps15
 go_wp2_with (first | ((with_reducible refine gate_dst (N := 1) rfl ?_); refine boxE (cs := #[.int .i64 a0_0, .int .i64 a0_1, .slice A0_2 l0_2.length c0_2]) (t := 31) ?_; intro gb155 hg w5 hbox hb; refine E4b HB.1 hg hbox hb ?_; clear HB; intro HB BK155 GW155 GE155; clear hb hbox hg; obtain ⟨hcz6_0, hcz6_1, hcz6_2, hfz6_0, hfz6_1, hfz6_2⟩ := cz3 BK155.1) | ((with_reducible refine gate_callee (f := 26) rfl ?_); refine goesM (N := (some 10)) #[.agg #[.int .i64 a0_0, .int .i64 a0_1, .slice A0_2 l0_2.length c0_2]] Try.func26 ?_; (with_reducible refine (spec_ggGroups.calls k a0_0 a0_1 _ _ l0_2 t156 _ ?side1 ?side2 A2.1).mono ?_); (case side1 => exact CB (C_below HR0_2.1 HB.1)); (case side2 => exact HC0_2.1); rintro e w7 ⟨v157, rfl, ho0, hb⟩; refine ⟨_, rfl, ?_⟩; refine E3 (R_lower ho0 (bZ HB.1)) (bB BK155.1 hb) (bS HB.1 hb) ?_; clear BK155 HB; intro HO158 BK155 HB; (try clear hb); (try clear ho0); obtain ⟨hcz8_0, hcz8_1, hcz8_2, hfz8_0, hfz8_1, hfz8_2⟩ := cz3 BK155.1) | ((with_reducible refine gate_dst (N := 14) rfl ?_); refine R_make (Kd.int .i64) _ 3 rfl (N := 14) rfl 43 _ _ rfl (l0_2.length : Int) rfl rfl Try.underlying43 (.int .i64 0) 8 info3 rfl (by decide) (by omega) 0 (ok := fun _ => True) (okp := fun _ => True) rfl (fun _ hk => hk) trivial (OD) (Nat.le_trans (Nat.mul_le_mul_right _ (OD : (l0_2.length : Int).toNat <= 35184372088832)) (by omega)) (Below.refl _ _) (Nat.le_refl _) ?_; intro v160 w9 ho10 hb hg_ hnew_; clear hg_ hnew_; (first | rw [<- Ny159.1] at ho10 | (simp only [Int.reduceToNat] at ho10; rw [<- Ny159.1] at ho10)); refine E4 (R_elder' (PR HO158.1) (R_base ho10) hb) (R_lower (R_new' ho10 (R_lt (PR HO158.1))) (bZ HB.1)) (bB BK155.1 hb) (bS HB.1 hb) ?_; clear HO158 BK155 HB; intro HO158 HO161 BK155 HB; clear hb ho10; obtain ⟨Ao11, co11, eo11⟩ := R_slice HO161.1; subst eo11))
 go_loopg [17] k (fun kq v17 w' => ∃ (x4_1 : List Int) (x17_1 : Int), v17 = .int .i64 x17_1 /\ Aside0 (spec_saUnits.l0 kq t156 x4_1 (y159.length : Int) x17_1 a0_0 a0_1 l0_2 = some r) /\ Aside0 (kq <= k) /\ Aside0 (Kd.R (Kd.int .i64) 3 w' w.heap.size (fun k_ => some k_ ≠ ((.slice Ao11 y159.length co11) : Value).ownBlock) v157 t156) /\ Aside0 (Kd.R (Kd.int .i64) 3 w' w.heap.size (fun k_ => some k_ ≠ (v157 : Value).ownBlock) (.slice Ao11 y159.length co11) x4_1) /\ Aside0 (w'.heap[gb155]? = some (.cells #[.int .i64 a0_0, .int .i64 a0_1, (.slice A0_2 l0_2.length c0_2)] 31 (0, 0))) /\ Aside0 (Below w.heap.size w w'))
 case atStart => exact ⟨(y159), (0), RG, H', ⟨Nat.le_refl _⟩, ⟨RPE (R_mono HO158.1 (fun _ hk => hk.2))⟩, ⟨RPE (R_mono HO161.1 (fun _ hk => hk.2))⟩, ⟨PB BK155.1⟩, ⟨BL HB.1⟩⟩
 clear H'
 clear c3b0 c3b1 c4b0 c4b1 hcz6_0 hcz6_1 hcz6_2 hcz8_0 hcz8_1 hcz8_2 hfz6_0 hfz6_1 hfz6_2 hfz8_0 hfz8_1 hfz8_2
 obtain ⟨x4_1, x17_1, rfl, HA, HK1, HO_3, HO_4, BK155, HB⟩ := hrel
 have hl4_1 := (R_reads' HO_4.1).1
 rw [hl4_1] at HO_4
 (try simp only [hl4_1])
 (try simp only [hl4_1] at BK155)
 (try simp only [hl4_1] at HO_3)
 cases gk with
 | zero => exact absurd HA.1 (by simp [spec_saUnits.l0])
 | succ k1 => ?_
 have H := HA.1
 clear HA
 simp only [spec_saUnits.l0] at H
 replace H := ifB H; rcases H with ⟨c12b0, H⟩ | ⟨c12b0, H⟩
 · replace H := ifN H; obtain ⟨c13b0, H⟩ := H
   replace H := ifN H; obtain ⟨c14b0, H⟩ := H
   generalize hy162 : ((x4_1.set (x17_1 : Int).toNat (-1)) : List Int) = y162 at H
   have Ny162 := Aside0.mk hy162.symm; clear hy162
   have H' := Aside0.mk H
   clear H
   have p15 : 0 <= (x17_1 : Int) := OD
   have q15 : (x17_1 : Int) < ((x4_1.length : Int) : Int) := OD
   obtain ⟨go15, co15, eo15, gb15, gl15, cl15, HG15⟩ := R_form HO_4.1 (by omega)
   (first | cases eo15 | (injection eo15 with ea_ en_ ec_; (first | subst ea_ | (injection ea_ with ea_; subst ea_)); subst ec_; clear en_))
   have GB15 := Aside0.mk gb15
   have GG15 := Aside0.mk HG15
   clear gb15 gl15 HG15
   obtain ⟨hx15_0, hf15_0⟩ := R_celln 0 HO_4.1 (x17_1 : Int) p15 q15
   replace p15 := eq_true p15
   replace q15 := eq_true q15
   have HP16 := R_putg HO_4.1 (x17_1 : Int) (-1)
   go_wp2_with (first | ((with_reducible refine gate_store (t := 3) (p := 22) rfl ?_); refine storeE (t := 3) (p := 22) (w1 := (wr.setCell ⟨go15, (x17_1 : Int).toNat, none⟩ (.int .i64 (-1)))) ?_; intro w17 hw; have hg : wr.grownBy w17 (some go15) := (by rw [hw]; exact HP16.2); have hp_ : Kd.R (Kd.int .i64) 3 w17 w.heap.size (fun k_ => some k_ ≠ (v157 : Value).ownBlock) (.slice (some ⟨go15, 0, none⟩) x4_1.length co11) y162 := (by rw [hw, Ny162.1]; exact HP16.1); clear HP16; refine E4 (R_after (v := (.slice (some ⟨go15, 0, none⟩) x4_1.length co11)) (v1 := (.slice (some ⟨go15, 0, none⟩) x4_1.length co11)) (ok := (fun _ => True)) (RPE (R_mono HO_3.1 (fun _ hk => ⟨trivial, hk⟩))) hg (.inl rfl)) (hp_) (bG BK155.1 hg (R_ne HO_4.1 BK155.1 (by decide))) ((by rw [hw]; exact below_set (HB.1) GB15.1 : Below w.heap.size w w17)) ?_; clear HO_3 HO_4 BK155 HB; intro HO_3 HO_4 BK155 HB; clear hg hw hp_))
   (try simp only [<- hl4_1])
   go_roundg k1
   case measure => have := HK1.1; omega
   case rel => exact ⟨(y162), (wrap64 (x17_1 + 1)), RG, H', ⟨by have := HK1.1; omega⟩, ⟨by (try simp only [hl4_1]); (with_reducible repeat (first | apply R_alloc | apply R_drewN | apply R_drew)); exact R_mono HO_3.1 (fun _ hk => hk.2)⟩, ⟨PR1 HO_4.1 hl4_1⟩, ⟨PB1 BK155.1 hl4_1⟩, ⟨BL HB.1⟩⟩
 (try simp only [hl4_1] at c12b0)
 have H' := Aside0.mk H
 clear H
 obtain ⟨hcz18_0, hcz18_1, hcz18_2, hfz18_0, hfz18_1, hfz18_2⟩ := cz3 BK155.1
 go_wp2
 go_loopg [6, 27] k1 (fun kq v6 v27 w' => ∃ (x4_2 : List Int) (x6_2 : List (List Int)) (x27_2 : Int), v27 = .int .i64 x27_2 /\ Aside0 (spec_saUnits.l1 kq t156 x4_2 x6_2 l0_2 (l0_2.length : Int) x27_2 = some r) /\ Aside0 (kq <= k1) /\ Aside0 (Kd.R (Kd.int .i64) 3 w' w.heap.size (fun k_ => some k_ ≠ ((.slice Ao11 x4_1.length co11) : Value).ownBlock) v157 t156) /\ Aside0 (Kd.R (Kd.int .i64) 3 w' w.heap.size (fun k_ => some k_ ≠ (v157 : Value).ownBlock) (.slice Ao11 x4_1.length co11) x4_2) /\ Aside0 (Kd.S (Kd.slice 3 (Kd.int .i64)) 43 w' w.heap.size (fun k_ => some k_ ≠ (v157 : Value).ownBlock /\ some k_ ≠ ((.slice Ao11 x4_1.length co11) : Value).ownBlock) v6 x6_2) /\ Aside0 (w'.heap[gb155]? = some (.cells #[.int .i64 a0_0, .int .i64 a0_1, (.slice A0_2 l0_2.length c0_2)] 31 (0, 0))) /\ Aside0 (Below w.heap.size w w'))
 case atStart => exact ⟨(x4_1), (([] : List (List Int))), (0), RG, H', ⟨Nat.le_refl _⟩, ⟨PR1 HO_3.1 hl4_1⟩, ⟨PR1 HO_4.1 hl4_1⟩, ⟨by (try simp only [hl4_1]); first | exact S_nil _ _ _ _ _ | exact N_nil _ _ _ _ _ | exact V_nil _ _ _ _ _ | exact Q_nil _ _ _ _ _ | exact R_nil _ _ _ _ _⟩, ⟨PB1 BK155.1 hl4_1⟩, ⟨BL HB.1⟩⟩
 clear H'
 clear c12b0 hcz18_0 hcz18_1 hcz18_2 hfz18_0 hfz18_1 hfz18_2
 obtain ⟨x4_2, x6_2, x27_2, rfl, HA, HK2, HO_3, HO_4, HO_6, BK155, HB⟩ := hrel
 have hl4_2 := (R_reads' HO_4.1).1
 rw [hl4_2] at HO_4
 (try simp only [hl4_2])
 (try simp only [hl4_2] at BK155)
 (try simp only [hl4_2] at HO_3)
 (try simp only [hl4_2] at HO_6)
 cases gk with
 | zero => exact absurd HA.1 (by simp [spec_saUnits.l1])
 | succ k2 => ?_
 have H := HA.1
 clear HA
 simp only [spec_saUnits.l1] at H
 replace H := ifB H; rcases H with ⟨c19b0, H⟩ | ⟨c19b0, H⟩
 · replace H := ifN H; obtain ⟨c20b0, H⟩ := H
   replace H := ifN H; obtain ⟨c21b0, H⟩ := H
   replace H := ifQ H; rcases H with ⟨c22, H⟩ | ⟨c22, H⟩
   · have c22b0 := beq_iff_eq.mpr c22
     have c22b1 := bne_eq_false_iff_eq.mpr c22
     clear c22
     generalize hy165 : ((([x27_2] : List Int)) : List Int) = y165 at H
     have Ny165 := Aside0.mk hy165.symm; clear hy165
     replace H := ifP H; obtain ⟨c23, H⟩ := H
     have LMc23 := Aside0.mk c23
     clear c23
     generalize hy168 : ((x6_2 ++ [y165]) : List (List Int)) = y168 at H
     have Ny168 := Aside0.mk hy168.symm; clear hy168
     have H' := Aside0.mk H
     clear H
     have p163 : 0 <= (x27_2 : Int) := OD
     have q163 : x27_2 < (l0_2.length : Int) := OD
     obtain ⟨ad163, e163, hx163_0, hx163_1⟩ := at_T49 HR0_2.1 x27_2 p163 q163
     cases e163
     replace hx163_0 := (HB.1.cell (World.block_lt_of_cell? w _ hx163_0)).trans hx163_0
     replace hx163_1 := (HB.1.cell (World.block_lt_of_cell? w _ hx163_1)).trans hx163_1
     replace p163 := eq_true p163
     replace q163 := eq_true q163
     go_wp2_with (first | ((with_reducible refine gate_dst (N := 8) rfl ?_); refine boxE (cs := #[.int .i64 0, .int .i64 0]) (t := 49) ?_; intro gb164 hg w24 hbox hb; refine E10 (rB HO_3.1 hb) (rB HO_4.1 hb) (sB HO_6.1 hb) (bB BK155.1 hb) (bS HB.1 hb) (hbox) (gX HB.1 hg) (gX HB.1 hg) (nB BK155.1 hg) (nC BK155.1 hg) ?_; clear HO_3 HO_4 HO_6 BK155 HB; intro HO_3 HO_4 HO_6 BK155 HB BK164 GW164 GE164 NB155_164 NB164_155; clear hb hbox hg; have hnb25 := NB164_155.1; have hnc25 := NB155_164.1; obtain ⟨hcz26_0, hcz26_1, hfz26_0, hfz26_1⟩ := cz2 BK164.1) | ((with_reducible refine gate_dst (N := 38) rfl ?_); refine R_lit (Kd.int .i64) _ 3 ?hg (N := 38) ?hd (xs := ([x27_2] : List Int)) (inner := [.int .i64 x27_2]) (ok := fun _ => True) (okp := fun _ => True) ?hr ?hp (fun _ hk => hk) trivial (Below.refl _ _) (Nat.le_refl _) (by simp) ?_; (case hd => rfl); (case hg => rfl); (case hr => first | (go_simp; done) | (go_simp; rfl)); (case hp => exact (Reps.one (show Kd.M (Kd.int .i64) _ _ _ x27_2 [.int .i64 x27_2] from rfl) (Reps.none _ _))); intro v166 w27 ho28 hb hg_ hnew_; clear hg_ hnew_; (first | rw [<- Ny165.1] at ho28 | (simp only [Int.reduceToNat] at ho28; rw [<- Ny165.1] at ho28)); refine E7 (R_elder' (by (with_reducible repeat (first | apply R_alloc | apply R_drewN | apply R_drew)); exact (R_mono (RQ gb164 1 (RQ gb164 0 (R_types HO_3.1 BK164.1 (by decide)) _) _) (fun _ h_ => h_.1))) (R_base ho28) hb) (R_elder' (by (with_reducible repeat (first | apply R_alloc | apply R_drewN | apply R_drew)); exact (R_mono (RQ gb164 1 (RQ gb164 0 (R_types HO_4.1 BK164.1 (by decide)) _) _) (fun _ h_ => h_.1))) (R_base ho28) hb) (S_elder' (by (with_reducible repeat (first | apply S_alloc | apply S_drewN | apply S_drew)); exact (S_mono (SQ gb164 1 (SQ gb164 0 (S_types HO_6.1 BK164.1 (by decide)) _) _) (fun _ h_ => h_.1))) (R_base ho28) hb) (R_lower (R_new' (R_new' ho28 (R_lt (by (with_reducible repeat (first | apply R_alloc | apply R_drewN | apply R_drew)); exact (R_mono (RQ gb164 1 (RQ gb164 0 (R_types HO_3.1 BK164.1 (by decide)) _) _) (fun _ h_ => h_.1))))) (R_lt (by (with_reducible repeat (first | apply R_alloc | apply R_drewN | apply R_drew)); exact (R_mono (RQ gb164 1 (RQ gb164 0 (R_types HO_4.1 BK164.1 (by decide)) _) _) (fun _ h_ => h_.1))))) (bZ HB.1)) (blk_below (g := gb155) (o := .cells #[.int .i64 a0_0, .int .i64 a0_1, .slice (some ad163) l0_2.length c0_2] 31 (0, 0)) (PF1 NB155_164.1 BK155.1) hb) (blk_below (g := gb164) (o := .cells #[.int .i64 ((rd_T49 l0_2 x27_2).f0), .int .i64 ((rd_T49 l0_2 x27_2).f1)] 49 (0, 0)) (PF0 BK164.1) hb) (bS HB.1 hb) ?_; clear HO_3 HO_4 HO_6 BK155 BK164 HB; intro HO_3 HO_4 HO_6 HO167 BK155 BK164 HB; clear hb ho28; obtain ⟨Ao30, co30, eo30⟩ := R_slice HO167.1; subst eo30) | ((with_reducible refine gate_builtin (b := .append) (xs := #[.tmp 36, .tmp 39]) rfl ?_); at_builtin; refine S_append (Kd.slice 3 (Kd.int .i64)) (w0 := w) w.heap.size rfl (.tmp 36) (.tmp 39) 26 43 (.slice none 0 0) 24 rfl Try.underlying26 info43 rfl (by decide) (by omega) u6 x6_2 y165 [.slice Ao30 y165.length co30] (fun k_ => some k_ ≠ (v157 : Value).ownBlock /\ some k_ ≠ (.slice Ao11 x4_2.length co11 : Value).ownBlock) (fun k_ => some k_ = (.slice Ao30 y165.length co30 : Value).ownBlock) rfl rfl ?aP (fun k_ hk_ => ((R_mono (ok' := fun k_ => ((fun k_ => some k_ ≠ (v157 : Value).ownBlock /\ some k_ ≠ (.slice Ao11 x4_2.length co11 : Value).ownBlock)) k_ /\ some k_ ≠ (u6 : Value).ownBlock) (R_apart' (HO167.1) (S_typed HO_6.1) (by decide)) (fun k_ hk => ⟨⟨hk.1.1.2, hk.1.2⟩, hk.2⟩))).1 k_ hk_.symm) ?aF ?aO ?aB ?aS ?aL ?_; (case aP => exact M_row (R_mono (R_tight rfl (R_mono (ok' := fun k_ => ((fun k_ => some k_ ≠ (v157 : Value).ownBlock /\ some k_ ≠ (.slice Ao11 x4_2.length co11 : Value).ownBlock)) k_ /\ some k_ ≠ (u6 : Value).ownBlock) (R_apart' (HO167.1) (S_typed HO_6.1) (by decide)) (fun k_ hk => ⟨⟨hk.1.1.2, hk.1.2⟩, hk.2⟩))) (fun _ h_ => h_))); (case aB => exact (BL HB.1)); (case aF => exact (fun k_ hk => ⟨Kd.fresh' (R_lt (PR HO_3.1)) k_ hk, Kd.fresh' (R_lt (PR HO_4.1)) k_ hk⟩)); (case aO => exact (SPE (S_mono HO_6.1 (fun k_ hk => ⟨⟨hk.1.1, hk.1.2⟩, fun e_ => hk.2 e_⟩)))); (case aS => exact (bZ HB.1)); (case aL => have := LMc23.1; omega); intro v169 w29 ho hb hg hat; rw [<- Ny168.1] at ho; refine E6 (R_over' (PR HO_3.1) (S_typed (PS HO_6.1)) (by decide) hg) (R_over' (PR HO_4.1) (S_typed (PS HO_6.1)) (by decide) hg) (bG BK155.1 hg (S_ne HO_6.1 BK155.1 (by decide))) (bG BK164.1 hg (S_ne HO_6.1 BK164.1 (by decide))) (hb) (ho) ?_; clear HO_3 HO_4 BK155 BK164 HB HO_6 HO167; intro HO_3 HO_4 BK155 BK164 HB HO170; clear ho hb hg hat))
     (try simp only [<- hl4_2])
     go_roundg k2
     case measure => have := HK1.1; have := HK2.1; omega
     case rel => exact ⟨(x4_2), (y168), (wrap64 (x27_2 + 1)), RG, H', ⟨by have := HK1.1; have := HK2.1; omega⟩, ⟨by (try simp only [hl4_1]); (try simp only [hl4_2]); (with_reducible repeat (first | apply R_alloc | apply R_drewN | apply R_drew)); exact R_mono HO_3.1 (fun _ hk => hk.1)⟩, ⟨by (try simp only [hl4_1]); (try simp only [hl4_2]); (with_reducible repeat (first | apply R_alloc | apply R_drewN | apply R_drew)); exact R_mono HO_4.1 (fun _ hk => hk.1)⟩, ⟨PS2 HO170.1 hl4_1 hl4_2⟩, ⟨PB2 BK155.1 hl4_1 hl4_2⟩, ⟨BL HB.1⟩⟩
   have c22b0 := beq_eq_false_iff_ne.mpr c22
   have c22b1 := bne_iff_ne.mpr c22
   have HC31 := Aside0.mk H
   clear H
   have p163 : 0 <= (x27_2 : Int) := OD
   have q163 : x27_2 < (l0_2.length : Int) := OD
   obtain ⟨ad163, e163, hx163_0, hx163_1⟩ := at_T49 HR0_2.1 x27_2 p163 q163
   cases e163
   replace hx163_0 := (HB.1.cell (World.block_lt_of_cell? w _ hx163_0)).trans hx163_0
   replace hx163_1 := (HB.1.cell (World.block_lt_of_cell? w _ hx163_1)).trans hx163_1
   replace p163 := eq_true p163
   replace q163 := eq_true q163
   go_upto_region 14 with (first | ((with_reducible refine gate_dst (N := 8) rfl ?_); refine boxE (cs := #[.int .i64 0, .int .i64 0]) (t := 49) ?_; intro gb164 hg w32 hbox hb; refine E10 (rB HO_3.1 hb) (rB HO_4.1 hb) (sB HO_6.1 hb) (bB BK155.1 hb) (bS HB.1 hb) (hbox) (gX HB.1 hg) (gX HB.1 hg) (nB BK155.1 hg) (nC BK155.1 hg) ?_; clear HO_3 HO_4 HO_6 BK155 HB; intro HO_3 HO_4 HO_6 BK155 HB BK164 GW164 GE164 NB155_164 NB164_155; clear hb hbox hg; have hnb33 := NB164_155.1; have hnc33 := NB155_164.1; obtain ⟨hcz34_0, hcz34_1, hfz34_0, hfz34_1⟩ := cz2 BK164.1))
   (try simp only [Act.put, List.setIfInBounds_toArray, List.set_cons_zero, List.set_cons_succ])
   go_cut [41] (fun v41 wc => ∃ (kq : Nat) (x41_30 : Bool), v41 = .bool x41_30 /\ Aside0 (spec_saUnits.j2 kq t156 x4_2 x6_2 x27_2 l0_2 (l0_2.length : Int) x27_2 x41_30 ((rd_T49 l0_2 x27_2).f0) ((rd_T49 l0_2 x27_2).f1) = some r) /\ Aside0 (kq <= k2) /\ Aside0 (Kd.R (Kd.int .i64) 3 wc w.heap.size (fun k_ => some k_ ≠ ((.slice Ao11 x4_2.length co11) : Value).ownBlock) v157 t156) /\ Aside0 (Kd.R (Kd.int .i64) 3 wc w.heap.size (fun k_ => some k_ ≠ (v157 : Value).ownBlock) (.slice Ao11 x4_2.length co11) x4_2) /\ Aside0 (Kd.S (Kd.slice 3 (Kd.int .i64)) 43 wc w.heap.size (fun k_ => some k_ ≠ (v157 : Value).ownBlock /\ some k_ ≠ ((.slice Ao11 x4_2.length co11) : Value).ownBlock) u6 x6_2) /\ Aside0 (wc.heap[gb155]? = some (.cells #[.int .i64 a0_0, .int .i64 a0_1, (.slice (some ad163) l0_2.length c0_2)] 31 (0, 0))) /\ Aside0 (wc.heap[gb164]? = some (.cells #[.int .i64 ((rd_T49 l0_2 x27_2).f0), .int .i64 ((rd_T49 l0_2 x27_2).f1)] 49 (0, 0))) /\ Aside0 (Below w.heap.size w wc))
   case first =>
    have H := HC31.1
    clear HC31
    replace H := ifQ H; rcases H with ⟨c35, H⟩ | ⟨c35, H⟩
    · have c35b0 := beq_iff_eq.mpr c35
      have c35b1 := bne_eq_false_iff_eq.mpr c35
      clear c35
      (first | rw [c35b0] | (simp only [i64_w, i32_w]; rw [c35b0]) | skip)
      replace H := ifN H; obtain ⟨c36b0, H⟩ := H
      replace H := ifN H; obtain ⟨c37b0, H⟩ := H
      replace H := ifN H; obtain ⟨c38b0, H⟩ := H
      have H' := Aside0.mk H
      clear H
      obtain ⟨hcz40_0, hcz40_1, hfz40_0, hfz40_1⟩ := cz2 BK164.1
      obtain ⟨Ao41, co41, eo41⟩ := R_slice HO_3.1
      subst eo41
      have p171 : 0 <= (x27_2 : Int) := OD
      have q171 : x27_2 < (t156.length : Int) := OD
      obtain ⟨ad171, e171, hx171_0⟩ := Kd.at_int (R_reads' HO_3.1).2.2 x27_2 p171 q171
      cases e171
      have hn171_0 : ad171.block ≠ gb164 := Kd.own_blk (R_ne HO_3.1 BK164.1 (by decide))
      have hn171_1 : ad171.block ≠ gb164 := Kd.own_blk (R_ne HO_3.1 BK164.1 (by decide))
      replace hx171_0 := (cell_far (p := ⟨gb164, 0, none⟩) (by first | (rw [add_block]; exact hn171_0) | (show (Addr.add _ _).block ≠ _; rw [add_block]; exact hn171_0) | exact hn171_0) (.int .i64 ((rd_T49 l0_2 x27_2).f0))).trans hx171_0
      replace hx171_0 := (cell_far (p := ⟨gb164, 1, none⟩) (by first | (rw [add_block]; exact hn171_1) | (show (Addr.add _ _).block ≠ _; rw [add_block]; exact hn171_1) | exact hn171_1) (.int .i64 ((rd_T49 l0_2 x27_2).f1))).trans hx171_0
      clear hn171_0
      clear hn171_1
      replace p171 := eq_true p171
      replace q171 := eq_true q171
      have p172 : 0 <= ((rd t156 x27_2) : Int) := OD
      have q172 : (rd t156 x27_2) < (x4_2.length : Int) := OD
      obtain ⟨ad172, e172, hx172_0⟩ := Kd.at_int (R_reads' HO_4.1).2.2 (rd t156 x27_2) p172 q172
      cases e172
      have hn172_0 : ad172.block ≠ gb164 := Kd.own_blk (R_ne HO_4.1 BK164.1 (by decide))
      have hn172_1 : ad172.block ≠ gb164 := Kd.own_blk (R_ne HO_4.1 BK164.1 (by decide))
      replace hx172_0 := (cell_far (p := ⟨gb164, 0, none⟩) (by first | (rw [add_block]; exact hn172_0) | (show (Addr.add _ _).block ≠ _; rw [add_block]; exact hn172_0) | exact hn172_0) (.int .i64 ((rd_T49 l0_2 x27_2).f0))).trans hx172_0
      replace hx172_0 := (cell_far (p := ⟨gb164, 1, none⟩) (by first | (rw [add_block]; exact hn172_1) | (show (Addr.add _ _).block ≠ _; rw [add_block]; exact hn172_1) | exact hn172_1) (.int .i64 ((rd_T49 l0_2 x27_2).f1))).trans hx172_0
      clear hn172_0
      clear hn172_1
      replace p172 := eq_true p172
      replace q172 := eq_true q172
      go_wp2
      go_meet
      case rel => exact ⟨_, (decide ((rd x4_2 (rd t156 x27_2)) < 0)), RG, H', ⟨by have := HK1.1; have := HK2.1; first | omega | exact Nat.le_refl _⟩, ⟨by (try simp only [hl4_1]); (try simp only [hl4_2]); (with_reducible repeat (first | apply R_alloc | apply R_drewN | apply R_drew)); exact R_mono (RQ gb164 1 (RQ gb164 0 (R_types HO_3.1 BK164.1 (by decide)) _) _) (fun _ hk => hk.1)⟩, ⟨by (try simp only [hl4_1]); (try simp only [hl4_2]); (with_reducible repeat (first | apply R_alloc | apply R_drewN | apply R_drew)); exact R_mono (RQ gb164 1 (RQ gb164 0 (R_types HO_4.1 BK164.1 (by decide)) _) _) (fun _ hk => hk.1)⟩, ⟨by (try simp only [hl4_1]); (try simp only [hl4_2]); (with_reducible repeat (first | apply S_alloc | apply S_drewN | apply S_drew)); exact S_mono (SQ gb164 1 (SQ gb164 0 (S_types HO_6.1 BK164.1 (by decide)) _) _) (fun _ hk => ⟨hk.1.1, hk.1.2⟩)⟩, ⟨by (try simp only [hl4_1]); (try simp only [hl4_2]); (with_reducible repeat (first | refine blk_drewN ?_ _ | refine blk_drew ?_ | refine blk_alloc ?_ _)); refine blk_far ?_ NB155_164.1 _; (with_reducible repeat (first | refine blk_drewN ?_ _ | refine blk_drew ?_ | refine blk_alloc ?_ _)); refine blk_far ?_ NB155_164.1 _; (with_reducible repeat (first | refine blk_drewN ?_ _ | refine blk_drew ?_ | refine blk_alloc ?_ _)); exact BK155.1⟩, ⟨by (try simp only [hl4_1]); (try simp only [hl4_2]); (with_reducible repeat (first | refine blk_drewN ?_ _ | refine blk_drew ?_ | refine blk_alloc ?_ _)); refine blk_put (cs := #[.int .i64 ((rd_T49 l0_2 x27_2).f0), .int .i64 0]) ?_ 1 _ rfl; (with_reducible repeat (first | refine blk_drewN ?_ _ | refine blk_drew ?_ | refine blk_alloc ?_ _)); refine blk_put (cs := #[.int .i64 0, .int .i64 0]) ?_ 0 _ rfl; (with_reducible repeat (first | refine blk_drewN ?_ _ | refine blk_drew ?_ | refine blk_alloc ?_ _)); exact BK164.1⟩, ⟨BL HB.1⟩⟩
    have c35b0 := beq_eq_false_iff_ne.mpr c35
    have c35b1 := bne_iff_ne.mpr c35
    (first | rw [c35b0] | (simp only [i64_w, i32_w]; rw [c35b0]) | skip)
    have H' := Aside0.mk H
    clear H
    obtain ⟨hcz43_0, hcz43_1, hfz43_0, hfz43_1⟩ := cz2 BK164.1
    go_wp2
    go_meet
    case rel => exact ⟨_, (false), RG, H', ⟨by have := HK1.1; have := HK2.1; first | omega | exact Nat.le_refl _⟩, ⟨by (try simp only [hl4_1]); (try simp only [hl4_2]); (with_reducible repeat (first | apply R_alloc | apply R_drewN | apply R_drew)); exact R_mono (RQ gb164 1 (RQ gb164 0 (R_types HO_3.1 BK164.1 (by decide)) _) _) (fun _ hk => hk.1)⟩, ⟨by (try simp only [hl4_1]); (try simp only [hl4_2]); (with_reducible repeat (first | apply R_alloc | apply R_drewN | apply R_drew)); exact R_mono (RQ gb164 1 (RQ gb164 0 (R_types HO_4.1 BK164.1 (by decide)) _) _) (fun _ hk => hk.1)⟩, ⟨by (try simp only [hl4_1]); (try simp only [hl4_2]); (with_reducible repeat (first | apply S_alloc | apply S_drewN | apply S_drew)); exact S_mono (SQ gb164 1 (SQ gb164 0 (S_types HO_6.1 BK164.1 (by decide)) _) _) (fun _ hk => ⟨hk.1.1, hk.1.2⟩)⟩, ⟨by (try simp only [hl4_1]); (try simp only [hl4_2]); (with_reducible repeat (first | refine blk_drewN ?_ _ | refine blk_drew ?_ | refine blk_alloc ?_ _)); refine blk_far ?_ NB155_164.1 _; (with_reducible repeat (first | refine blk_drewN ?_ _ | refine blk_drew ?_ | refine blk_alloc ?_ _)); refine blk_far ?_ NB155_164.1 _; (with_reducible repeat (first | refine blk_drewN ?_ _ | refine blk_drew ?_ | refine blk_alloc ?_ _)); exact BK155.1⟩, ⟨by (try simp only [hl4_1]); (try simp only [hl4_2]); (with_reducible repeat (first | refine blk_drewN ?_ _ | refine blk_drew ?_ | refine blk_alloc ?_ _)); refine blk_put (cs := #[.int .i64 ((rd_T49 l0_2 x27_2).f0), .int .i64 0]) ?_ 1 _ rfl; (with_reducible repeat (first | refine blk_drewN ?_ _ | refine blk_drew ?_ | refine blk_alloc ?_ _)); refine blk_put (cs := #[.int .i64 0, .int .i64 0]) ?_ 0 _ rfl; (with_reducible repeat (first | refine blk_drewN ?_ _ | refine blk_drew ?_ | refine blk_alloc ?_ _)); exact BK164.1⟩, ⟨BL HB.1⟩⟩
   clear HC31
   try clear c22; try clear hx163_0; try clear hx163_1; try clear p163; try clear q163; clear c19b0 c20b0 c21b0 c22b0 c22b1 hcz34_0 hcz34_1 hfz34_0 hfz34_1
   obtain ⟨kq, x41_30, rfl, HA, HJ30, HO_3, HO_4, HO_6, BK155, BK164, HB⟩ := hcut
   cases kq with
   | zero => exact absurd HA.1 (by simp [spec_saUnits.j2])
   | succ kj30 => ?_
   have H := HA.1
   clear HA
   simp only [spec_saUnits.j2] at H
   replace H := ifX H; rcases H with ⟨rfl, H⟩ | ⟨rfl, H⟩
   · replace H := ifN H; obtain ⟨c45b0, H⟩ := H
     replace H := ifN H; obtain ⟨c46b0, H⟩ := H
     replace H := ifN H; obtain ⟨c47b0, H⟩ := H
     replace H := ifN H; obtain ⟨c48b0, H⟩ := H
     generalize hy174 : ((x4_2.set ((rd t156 x27_2) : Int).toNat (x6_2.length : Int)) : List Int) = y174 at H
     have Ny174 := Aside0.mk hy174.symm; clear hy174
     generalize hy175 : ((([x27_2] : List Int)) : List Int) = y175 at H
     have Ny175 := Aside0.mk hy175.symm; clear hy175
     replace H := ifP H; obtain ⟨c50, H⟩ := H
     have LMc50 := Aside0.mk c50
     clear c50
     generalize hy178 : ((x6_2 ++ [y175]) : List (List Int)) = y178 at H
     have Ny178 := Aside0.mk hy178.symm; clear hy178
     have H' := Aside0.mk H
     clear H
     obtain ⟨Ao51, co51, eo51⟩ := R_slice HO_3.1
     subst eo51
     have p173 : 0 <= (x27_2 : Int) := OD
     have q173 : x27_2 < (t156.length : Int) := OD
     obtain ⟨ad173, e173, hx173_0⟩ := Kd.at_int (R_reads' HO_3.1).2.2 x27_2 p173 q173
     cases e173
     replace p173 := eq_true p173
     replace q173 := eq_true q173
     obtain ⟨Ao52, co52, eo52⟩ := S_slice HO_6.1
     subst eo52
     have p49 : 0 <= ((rd t156 x27_2) : Int) := OD
     have q49 : ((rd t156 x27_2) : Int) < ((x4_2.length : Int) : Int) := OD
     obtain ⟨go49, co49, eo49, gb49, gl49, cl49, HG49⟩ := R_form HO_4.1 (by omega)
     (first | cases eo49 | (injection eo49 with ea_ en_ ec_; (first | subst ea_ | (injection ea_ with ea_; subst ea_)); subst ec_; clear en_))
     have GB49 := Aside0.mk gb49
     have GG49 := Aside0.mk HG49
     clear gb49 gl49 HG49
     obtain ⟨hx49_0, hf49_0⟩ := R_celln 0 HO_4.1 ((rd t156 x27_2) : Int) p49 q49
     replace p49 := eq_true p49
     replace q49 := eq_true q49
     have HP53 := R_putg HO_4.1 ((rd t156 x27_2) : Int) (x6_2.length : Int)
     go_wp2_with (first | ((with_reducible refine gate_store (t := 3) (p := 62) rfl ?_); refine storeE (t := 3) (p := 62) (w1 := (wc.setCell ⟨go49, ((rd t156 x27_2) : Int).toNat, none⟩ (.int .i64 (x6_2.length : Int)))) ?_; intro w54 hw; have hg : wc.grownBy w54 (some go49) := (by rw [hw]; exact HP53.2); have hp_ : Kd.R (Kd.int .i64) 3 w54 w.heap.size (fun k_ => some k_ ≠ (.slice (some ad173) t156.length co51 : Value).ownBlock) (.slice (some ⟨go49, 0, none⟩) x4_2.length co11) y174 := (by rw [hw, Ny174.1]; exact HP53.1); clear HP53; refine E6 (R_after (v := (.slice (some ⟨go49, 0, none⟩) x4_2.length co11)) (v1 := (.slice (some ⟨go49, 0, none⟩) x4_2.length co11)) (ok := (fun _ => True)) (RPE (R_mono HO_3.1 (fun _ hk => ⟨trivial, hk⟩))) hg (.inl rfl)) (hp_) (S_after (v := (.slice (some ⟨go49, 0, none⟩) x4_2.length co11)) (v1 := (.slice (some ⟨go49, 0, none⟩) x4_2.length co11)) (ok := (fun k_ => some k_ ≠ (.slice (some ad173) t156.length co51 : Value).ownBlock)) (PS HO_6.1) hg (.inl rfl)) (bG BK155.1 hg (R_ne HO_4.1 BK155.1 (by decide))) (bG BK164.1 hg (R_ne HO_4.1 BK164.1 (by decide))) ((by rw [hw]; exact below_set (HB.1) GB49.1 : Below w.heap.size w w54)) ?_; clear HO_3 HO_4 HO_6 BK155 BK164 HB; intro HO_3 HO_4 HO_6 BK155 BK164 HB; clear hg hw hp_) | ((with_reducible refine gate_dst (N := 65) rfl ?_); refine R_lit (Kd.int .i64) _ 3 ?hg (N := 65) ?hd (xs := ([x27_2] : List Int)) (inner := [.int .i64 x27_2]) (ok := fun _ => True) (okp := fun _ => True) ?hr ?hp (fun _ hk => hk) trivial (Below.refl _ _) (Nat.le_refl _) (by simp) ?_; (case hd => rfl); (case hg => rfl); (case hr => first | (go_simp; done) | (go_simp; rfl)); (case hp => exact (Reps.one (show Kd.M (Kd.int .i64) _ _ _ x27_2 [.int .i64 x27_2] from rfl) (Reps.none _ _))); intro v176 w55 ho56 hb hg_ hnew_; clear hg_ hnew_; (first | rw [<- Ny175.1] at ho56 | (simp only [Int.reduceToNat] at ho56; rw [<- Ny175.1] at ho56)); refine E7 (R_elder' (PR HO_3.1) (R_base ho56) hb) (R_elder' (PR HO_4.1) (R_base ho56) hb) (S_elder' (PS HO_6.1) (R_base ho56) hb) (R_lower (R_new' (R_new' ho56 (R_lt (PR HO_3.1))) (R_lt (PR HO_4.1))) (bZ HB.1)) (bB BK155.1 hb) (bB BK164.1 hb) (bS HB.1 hb) ?_; clear HO_3 HO_4 HO_6 BK155 BK164 HB; intro HO_3 HO_4 HO_6 HO177 BK155 BK164 HB; clear hb ho56; obtain ⟨Ao58, co58, eo58⟩ := R_slice HO177.1; subst eo58) | ((with_reducible refine gate_builtin (b := .append) (xs := #[.tmp 63, .tmp 66]) rfl ?_); at_builtin; refine S_append (Kd.slice 3 (Kd.int .i64)) (w0 := w) w.heap.size rfl (.tmp 63) (.tmp 66) 26 43 (.slice none 0 0) 24 rfl Try.underlying26 info43 rfl (by decide) (by omega) (.slice Ao52 x6_2.length co52) x6_2 y175 [.slice Ao58 y175.length co58] (fun k_ => some k_ ≠ (.slice (some ad173) t156.length co51 : Value).ownBlock /\ some k_ ≠ (.slice (some ⟨go49, 0, none⟩) x4_2.length co11 : Value).ownBlock) (fun k_ => some k_ = (.slice Ao58 y175.length co58 : Value).ownBlock) rfl rfl ?aP (fun k_ hk_ => ((R_mono (ok' := fun k_ => ((fun k_ => some k_ ≠ (.slice (some ad173) t156.length co51 : Value).ownBlock /\ some k_ ≠ (.slice (some ⟨go49, 0, none⟩) x4_2.length co11 : Value).ownBlock)) k_ /\ some k_ ≠ (.slice Ao52 x6_2.length co52 : Value).ownBlock) (R_apart' (HO177.1) (S_typed HO_6.1) (by decide)) (fun k_ hk => ⟨⟨hk.1.1.2, hk.1.2⟩, hk.2⟩))).1 k_ hk_.symm) ?aF ?aO ?aB ?aS ?aL ?_; (case aP => exact M_row (R_mono (R_tight rfl (R_mono (ok' := fun k_ => ((fun k_ => some k_ ≠ (.slice (some ad173) t156.length co51 : Value).ownBlock /\ some k_ ≠ (.slice (some ⟨go49, 0, none⟩) x4_2.length co11 : Value).ownBlock)) k_ /\ some k_ ≠ (.slice Ao52 x6_2.length co52 : Value).ownBlock) (R_apart' (HO177.1) (S_typed HO_6.1) (by decide)) (fun k_ hk => ⟨⟨hk.1.1.2, hk.1.2⟩, hk.2⟩))) (fun _ h_ => h_))); (case aB => exact (BL HB.1)); (case aF => exact (fun k_ hk => ⟨Kd.fresh' (R_lt (PR HO_3.1)) k_ hk, Kd.fresh' (R_lt (PR HO_4.1)) k_ hk⟩)); (case aO => exact (SPE (S_mono HO_6.1 (fun k_ hk => ⟨⟨hk.1.1, hk.1.2⟩, fun e_ => hk.2 e_⟩)))); (case aS => exact (bZ HB.1)); (case aL => have := LMc50.1; omega); intro v179 w57 ho hb hg hat; rw [<- Ny178.1] at ho; refine E6 (R_over' (PR HO_3.1) (S_typed (PS HO_6.1)) (by decide) hg) (R_over' (PR HO_4.1) (S_typed (PS HO_6.1)) (by decide) hg) (bG BK155.1 hg (S_ne HO_6.1 BK155.1 (by decide))) (bG BK164.1 hg (S_ne HO_6.1 BK164.1 (by decide))) (hb) (ho) ?_; clear HO_3 HO_4 BK155 BK164 HB HO_6 HO177; intro HO_3 HO_4 BK155 BK164 HB HO180; clear ho hb hg hat))
     (try simp only [<- hl4_2])
     go_roundg kj30
     case measure => have := HK1.1; have := HK2.1; have := HJ30.1; omega
     case rel => exact ⟨(y174), (y178), (wrap64 (x27_2 + 1)), RG, H', ⟨by have := HK1.1; have := HK2.1; have := HJ30.1; omega⟩, ⟨by (try simp only [hl4_1]); (try simp only [hl4_2]); (with_reducible repeat (first | apply R_alloc | apply R_drewN | apply R_drew)); exact R_mono HO_3.1 (fun _ hk => hk.1.2)⟩, ⟨by (try simp only [hl4_1]); (try simp only [hl4_2]); (with_reducible repeat (first | apply R_alloc | apply R_drewN | apply R_drew)); exact R_mono HO_4.1 (fun _ hk => hk.1)⟩, ⟨PS2 HO180.1 hl4_1 hl4_2⟩, ⟨PB2 BK155.1 hl4_1 hl4_2⟩, ⟨BL HB.1⟩⟩
   replace H := ifQ H; rcases H with ⟨c59, H⟩ | ⟨c59, H⟩
   · have c59b0 := beq_iff_eq.mpr c59
     have c59b1 := bne_eq_false_iff_eq.mpr c59
     clear c59
     replace H := ifN H; obtain ⟨c60b0, H⟩ := H
     replace H := ifN H; obtain ⟨c61b0, H⟩ := H
     replace H := ifN H; obtain ⟨c62b0, H⟩ := H
     replace H := ifN H; obtain ⟨c63b0, H⟩ := H
     replace H := ifN H; obtain ⟨c64b0, H⟩ := H
     replace H := ifN H; obtain ⟨c65b0, H⟩ := H
     replace H := ifP H; obtain ⟨c66, H⟩ := H
     have LMc66 := Aside0.mk c66
     clear c66
     generalize hy186 : (((rd_L3 x6_2 (rd x4_2 (rd t156 x27_2))) ++ [x27_2]) : List Int) = y186 at H
     have Ny186 := Aside0.mk hy186.symm; clear hy186
     generalize hy189 : ((x6_2.set ((rd x4_2 (rd t156 x27_2)) : Int).toNat y186) : List (List Int)) = y189 at H
     have Ny189 := Aside0.mk hy189.symm; clear hy189
     have H' := Aside0.mk H
     clear H
     obtain ⟨hcz69_0, hcz69_1, hfz69_0, hfz69_1⟩ := cz2 BK164.1
     try go_wp2
     refine E6 (R_drew HO_3.1) (R_drew HO_4.1) (S_drew HO_6.1) (blk_drew BK155.1) (blk_drew BK164.1) (below_drew1 HB.1) ?_
     clear HO_3 HO_4 HO_6 BK155 BK164 HB
     intro HO_3 HO_4 HO_6 BK155 BK164 HB
     obtain ⟨Ao71, co71, eo71⟩ := R_slice HO_3.1
     (first | subst eo71 | (injection eo71 with f1_ f2_ f3_; have f4_ := f1_.symm; have f5_ := f3_.symm; clear f1_ f2_ f3_; subst f4_; subst f5_))
     have p181 : 0 <= (x27_2 : Int) := OD
     have q181 : x27_2 < (t156.length : Int) := OD
     obtain ⟨ad181, e181, hx181_0⟩ := Kd.at_int (R_reads' HO_3.1).2.2 x27_2 p181 q181
     cases e181
     replace p181 := eq_true p181
     replace q181 := eq_true q181
     have p182 : 0 <= ((rd t156 x27_2) : Int) := OD
     have q182 : (rd t156 x27_2) < (x4_2.length : Int) := OD
     obtain ⟨ad182, e182, hx182_0⟩ := Kd.at_int (R_reads' HO_4.1).2.2 (rd t156 x27_2) p182 q182
     cases e182
     replace p182 := eq_true p182
     replace q182 := eq_true q182
     have p183 : 0 <= (x27_2 : Int) := OD
     have q183 : x27_2 < (t156.length : Int) := OD
     obtain ⟨ad183, e183, hx183_0⟩ := Kd.at_int (R_reads' HO_3.1).2.2 x27_2 p183 q183
     obtain rfl : ad181 = ad183 := (by injection e183)
     replace p183 := eq_true p183
     replace q183 := eq_true q183
     have p184 : 0 <= ((rd t156 x27_2) : Int) := OD
     have q184 : (rd t156 x27_2) < (x4_2.length : Int) := OD
     obtain ⟨ad184, e184, hx184_0⟩ := Kd.at_int (R_reads' HO_4.1).2.2 (rd t156 x27_2) p184 q184
     obtain rfl : ad182 = ad184 := (by injection e184)
     replace p184 := eq_true p184
     replace q184 := eq_true q184
     obtain ⟨Ao72, co72, eo72⟩ := S_slice HO_6.1
     (first | subst eo72 | (injection eo72 with f1_ f2_ f3_; have f4_ := f1_.symm; have f5_ := f3_.symm; clear f1_ f2_ f3_; subst f4_; subst f5_))
     have p185 : 0 <= ((rd x4_2 (rd t156 x27_2)) : Int) := OD
     have q185 : (rd x4_2 (rd t156 x27_2)) < (x6_2.length : Int) := OD
     obtain ⟨ad185, A185_0, c185_0, e185, hx185_0, hl185_0, hi185_0⟩ := at_L3 (S_reads' HO_6.1).2.2 (rd x4_2 (rd t156 x27_2)) p185 q185
     cases e185
     obtain ⟨ce185, hce185, hMe185, hcc185⟩ := S_get HO_6.1 [] (rd x4_2 (rd t156 x27_2)) p185 (by first | exact q185 | exact OD | (have e_ := (S_reads' HO_6.1).1; omega))
     obtain ⟨ve185_0, rfl, ge185_0⟩ := hMe185
     have hv185_0 := hcc185 0 _ rfl
     rw [Nat.add_zero, show ((Kd.slice 3 (Kd.int .i64))).sz = 1 from rfl, Nat.mul_one] at hv185_0
     replace hv185_0 := Option.some.inj (hv185_0.symm.trans hx185_0)
     rw [hv185_0] at ge185_0
     have HL185_0 := Aside0.mk (show Kd.R (Kd.int .i64) 3 _ _ _ _ (rd_L3 x6_2 (rd x4_2 (rd t156 x27_2))) from ge185_0)
     clear hv185_0 ge185_0
     have HX185_0 := Aside0.mk hx185_0
     clear hcc185 hce185
     have HR185_0 := Aside0.mk hi185_0
     have HC185_0 := Aside0.mk hl185_0
     clear hi185_0 hl185_0
     replace p185 := eq_true p185
     replace q185 := eq_true q185
     obtain ⟨go73, co73, eo73, gb73, gl73, cl73, HG73⟩ := S_form HO_6.1 (by have h_ : ((rd x4_2 (rd t156 x27_2)) : Int) < ((x6_2.length : Int) : Int) := OD; have h2_ : 0 <= ((rd x4_2 (rd t156 x27_2)) : Int) := (OD); omega)
     (first | cases eo73 | (injection eo73 with ea_ en_ ec_; (first | subst ea_ | (injection ea_ with ea_; subst ea_)); subst ec_; clear en_))
     have GB73 := Aside0.mk gb73
     have GG73 := Aside0.mk HG73
     clear gb73 gl73 HG73
     (first | simp only [add_plain] at hx185_0 | skip)
     obtain ⟨oki73, ce73, hcl73, hM73, hcc73, _, _, hH73⟩ := S_elem HO_6.1 [] ((rd x4_2 (rd t156 x27_2)) : Int) (OD) (by have h_ : ((rd x4_2 (rd t156 x27_2)) : Int) < ((x6_2.length : Int) : Int) := OD; first | exact h_ | (have e_ := (S_reads' HO_6.1).1; omega) | simpa using h_)
     obtain ⟨ve73_0, rfl, ge73_0⟩ := hM73
     have hv73 := hcc73 0 _ rfl
     have hX73 := HX185_0.1
     (try simp only [add_plain] at hX73)
     (try simp only [Nat.add_zero] at hv73)
     (try rw [show ((Kd.slice 3 (Kd.int .i64))).sz = 1 from rfl, Nat.mul_one] at hv73)
     replace hv73 := Option.some.inj (hv73.symm.trans hX73)
     subst hv73
     clear hX73 hcc73 hcl73
     have UU73 := Aside0.mk (show Kd.R (Kd.int .i64) 3 _ w.heap.size oki73 (.slice A185_0 (rd_L3 x6_2 (rd x4_2 (rd t156 x27_2))).length c185_0) (rd_L3 x6_2 (rd x4_2 (rd t156 x27_2))) from ge73_0)
     have HH73 := Aside0.mk hH73
     have HN73 := Aside0.mk (S_reads' HO_6.1).1
     clear hH73 ge73_0
     refine start_ (n := 23) (S := fun w' => w'.cell? (ad181.add (x27_2).toNat) = some (.int .i64 (rd t156 x27_2)) /\ w'.cell? (ad182.add ((rd t156 x27_2)).toNat) = some (.int .i64 (rd x4_2 (rd t156 x27_2))) /\ w'.cell? (ad181.add (x27_2).toNat) = some (.int .i64 (rd t156 x27_2)) /\ w'.cell? (ad182.add ((rd t156 x27_2)).toNat) = some (.int .i64 (rd x4_2 (rd t156 x27_2))) /\ w'.cell? ⟨go73, ((rd x4_2 (rd t156 x27_2))).toNat, none⟩ = some (.slice A185_0 (rd_L3 x6_2 (rd x4_2 (rd t156 x27_2))).length c185_0)) (ds := [22]) #[Zz,Zz,Zz,Zz,Zz,Zz,Zz,Zz,Zz,Zz,Zz,Zz,Zz,Zz,Zz,Zz,Zz,Zz,Zz,Zz,Zz,Zz,Zz] (by kernel_rfl) rfl rfl ⟨hx181_0, hx182_0, hx183_0, hx184_0, hx185_0⟩ (fun hHeld => ?_); refine with_tabW spec_saUnits.tab18 spec_saUnits.bits18 (fun HT_ HW_ => ?_)
     generalize wc.drew = w70 at HO_3 HO_4 HO_6 BK155 BK164 HB GG73 HH73 HL185_0 HR185_0 HX185_0 UU73 hx181_0 hx182_0 hx183_0 hx184_0 hx185_0 hHeld ⊢
     refine pureF 0 (N := some 72) HT_.1 ?_
     refine pureF 1 (N := some 73) HT_.1 ?_
     refine pureF 2 (N := some 74) HT_.1 ?_
     refine pureF 3 (N := some 75) HT_.1 ?_
     refine pureF 4 (N := some 76) HT_.1 ?_
     refine pureF 8 (N := some 80) HT_.1 ?_
     refine pureF 9 (N := some 81) HT_.1 ?_
     refine pureF 10 (N := some 82) HT_.1 ?_
     refine pureF 11 (N := some 83) HT_.1 ?_
     refine pureF 12 (N := some 84) HT_.1 ?_
     refine pureF 18 (N := some 90) HT_.1 ?_
     refine takeE 5 (N := some 77) HT_.1 HW_.1 hHeld ?_
     refine pureF 6 (N := some 78) HT_.1 ?_
     refine takeE 7 (N := some 79) HT_.1 HW_.1 hHeld ?_
     refine takeE 13 (N := some 85) HT_.1 HW_.1 hHeld ?_
     refine pureF 14 (N := some 86) HT_.1 ?_
     refine takeE 15 (N := some 87) HT_.1 HW_.1 hHeld ?_
     refine pureF 16 (N := some 88) HT_.1 ?_
     refine takeE 17 (N := some 89) HT_.1 HW_.1 hHeld ?_
     refine one_ (i := 19) (N := some 91) #[Yy,Yy,Yy,Yy,Yy,Yy,Yy,Yy,Yy,Yy,Yy,Yy,Yy,Yy,Yy,Yy,Yy,Yy,Yy,Yy,Zz,Zz,Zz] rfl rfl (one_of HT_.1 (by kernel_rfl)) (by decide) (fun K hK => ?_)
     refine value_ (w1 := ?_) (v := ?_) (by rfl) rfl ?_ ?_
     rotate_left 2
     · go_simp
       constructor
       · rfl
       rfl
     refine hK.out _ _ ⟨(World.cell?_alloc_lt _ _ _ (World.block_lt_of_cell? _ _ (hHeld.1))).trans (hHeld.1), (World.cell?_alloc_lt _ _ _ (World.block_lt_of_cell? _ _ (hHeld.2.1))).trans (hHeld.2.1), (World.cell?_alloc_lt _ _ _ (World.block_lt_of_cell? _ _ (hHeld.2.2.1))).trans (hHeld.2.2.1), (World.cell?_alloc_lt _ _ _ (World.block_lt_of_cell? _ _ (hHeld.2.2.2.1))).trans (hHeld.2.2.2.1), (World.cell?_alloc_lt _ _ _ (World.block_lt_of_cell? _ _ (hHeld.2.2.2.2))).trans (hHeld.2.2.2.2)⟩ (fun hHeld => ?_)
     clear hK K
     refine norm_ (a' := ?_) ?_ ?_
     rotate_left
     · show Act.put _ (some 91) _ = _
       simp only [Act.put, List.setIfInBounds_toArray, List.set_cons_zero, List.set_cons_succ, i64_w, i32_w]
       rfl
     refine one_ (i := 20) (N := some 92) #[Yy,Yy,Yy,Yy,Yy,Yy,Yy,Yy,Yy,Yy,Yy,Yy,Yy,Yy,Yy,Yy,Yy,Yy,Yy,Yy,Yy,Zz,Zz] rfl rfl (one_of HT_.1 (by kernel_rfl)) (by decide) (fun K hK => ?_)
     refine R_append_step (Kd.int .i64) (w0 := w) w.heap.size (by rfl) (.tmp 89) (.tmp 91) 43 3 (.int .i64 0) 8 rfl Try.underlying43 info3 rfl (by decide) (by omega) (.slice A185_0 (rd_L3 x6_2 (rd x4_2 (rd t156 x27_2))).length c185_0) (rd_L3 x6_2 (rd x4_2 (rd t156 x27_2))) x27_2 [.int .i64 x27_2] (fun k_ => oki73 k_ ∨ ((fun k_ => some k_ ≠ (.slice (some ad181) t156.length co71 : Value).ownBlock /\ some k_ ≠ (.slice (some ad182) x4_2.length co11 : Value).ownBlock)) k_ /\ w70.heap.size <= k_) (fun _ => False) rfl rfl ?aP (fun _ hk => hk.elim) ?aF ?aO ?aB ?aS ?aL ?_
     (case aP => exact rfl)
     (case aB => exact (BL HB.1))
     (case aF => exact (fun k_ hk => .inr ⟨⟨Kd.fresh' (R_lt (PR HO_3.1)) k_ hk, Kd.fresh' (R_lt (PR HO_4.1)) k_ hk⟩, hk⟩))
     (case aO => exact (RPE (R_mono UU73.1 (fun _ hk => .inl hk))))
     (case aS => exact (bZ HB.1))
     (case aL => have := LMc66.1; omega)
     intro v187 w74 ho hb hg hat
     (first | have HS0_ := cell_grown hg (hHeld.1) (by first | (rw [add_block]; exact (fun e_ => ((HL185_0.1.1 _ e_.symm).1.1) rfl)) | (show some (Addr.add _ _).block ≠ _; rw [add_block]; exact (fun e_ => ((HL185_0.1.1 _ e_.symm).1.1) rfl)) | exact (fun e_ => ((HL185_0.1.1 _ e_.symm).1.1) rfl)) | have HS0_ := cell_grown hg (cell_unalloc (hHeld.1) (by first | (rw [add_block]; exact R_lt HO_3.1 _ rfl) | (show (Addr.add _ _).block < _; rw [add_block]; exact R_lt HO_3.1 _ rfl) | exact R_lt HO_3.1 _ rfl)) (by first | (rw [add_block]; exact (fun e_ => ((HL185_0.1.1 _ e_.symm).1.1) rfl)) | (show some (Addr.add _ _).block ≠ _; rw [add_block]; exact (fun e_ => ((HL185_0.1.1 _ e_.symm).1.1) rfl)) | exact (fun e_ => ((HL185_0.1.1 _ e_.symm).1.1) rfl)))
     (first | have HS1_ := cell_grown hg (hHeld.2.1) (by first | (rw [add_block]; exact (fun e_ => ((HL185_0.1.1 _ e_.symm).1.2) rfl)) | (show some (Addr.add _ _).block ≠ _; rw [add_block]; exact (fun e_ => ((HL185_0.1.1 _ e_.symm).1.2) rfl)) | exact (fun e_ => ((HL185_0.1.1 _ e_.symm).1.2) rfl)) | have HS1_ := cell_grown hg (cell_unalloc (hHeld.2.1) (by first | (rw [add_block]; exact R_lt HO_4.1 _ rfl) | (show (Addr.add _ _).block < _; rw [add_block]; exact R_lt HO_4.1 _ rfl) | exact R_lt HO_4.1 _ rfl)) (by first | (rw [add_block]; exact (fun e_ => ((HL185_0.1.1 _ e_.symm).1.2) rfl)) | (show some (Addr.add _ _).block ≠ _; rw [add_block]; exact (fun e_ => ((HL185_0.1.1 _ e_.symm).1.2) rfl)) | exact (fun e_ => ((HL185_0.1.1 _ e_.symm).1.2) rfl)))
     (first | have HS2_ := cell_grown hg (hHeld.2.2.1) (by first | (rw [add_block]; exact (fun e_ => ((HL185_0.1.1 _ e_.symm).1.1) rfl)) | (show some (Addr.add _ _).block ≠ _; rw [add_block]; exact (fun e_ => ((HL185_0.1.1 _ e_.symm).1.1) rfl)) | exact (fun e_ => ((HL185_0.1.1 _ e_.symm).1.1) rfl)) | have HS2_ := cell_grown hg (cell_unalloc (hHeld.2.2.1) (by first | (rw [add_block]; exact R_lt HO_3.1 _ rfl) | (show (Addr.add _ _).block < _; rw [add_block]; exact R_lt HO_3.1 _ rfl) | exact R_lt HO_3.1 _ rfl)) (by first | (rw [add_block]; exact (fun e_ => ((HL185_0.1.1 _ e_.symm).1.1) rfl)) | (show some (Addr.add _ _).block ≠ _; rw [add_block]; exact (fun e_ => ((HL185_0.1.1 _ e_.symm).1.1) rfl)) | exact (fun e_ => ((HL185_0.1.1 _ e_.symm).1.1) rfl)))
     (first | have HS3_ := cell_grown hg (hHeld.2.2.2.1) (by first | (rw [add_block]; exact (fun e_ => ((HL185_0.1.1 _ e_.symm).1.2) rfl)) | (show some (Addr.add _ _).block ≠ _; rw [add_block]; exact (fun e_ => ((HL185_0.1.1 _ e_.symm).1.2) rfl)) | exact (fun e_ => ((HL185_0.1.1 _ e_.symm).1.2) rfl)) | have HS3_ := cell_grown hg (cell_unalloc (hHeld.2.2.2.1) (by first | (rw [add_block]; exact R_lt HO_4.1 _ rfl) | (show (Addr.add _ _).block < _; rw [add_block]; exact R_lt HO_4.1 _ rfl) | exact R_lt HO_4.1 _ rfl)) (by first | (rw [add_block]; exact (fun e_ => ((HL185_0.1.1 _ e_.symm).1.2) rfl)) | (show some (Addr.add _ _).block ≠ _; rw [add_block]; exact (fun e_ => ((HL185_0.1.1 _ e_.symm).1.2) rfl)) | exact (fun e_ => ((HL185_0.1.1 _ e_.symm).1.2) rfl)))
     (first | have HS4_ := cell_grown hg (hHeld.2.2.2.2) (by first | (rw [add_block]; exact (fun e_ => ((HL185_0.1.1 _ e_.symm).2) rfl)) | (show some (Addr.add _ _).block ≠ _; rw [add_block]; exact (fun e_ => ((HL185_0.1.1 _ e_.symm).2) rfl)) | exact (fun e_ => ((HL185_0.1.1 _ e_.symm).2) rfl)) | have HS4_ := cell_grown hg (cell_unalloc (hHeld.2.2.2.2) (by first | (rw [add_block]; exact S_lt HO_6.1 _ rfl) | (show (Addr.add _ _).block < _; rw [add_block]; exact S_lt HO_6.1 _ rfl) | exact S_lt HO_6.1 _ rfl)) (by first | (rw [add_block]; exact (fun e_ => ((HL185_0.1.1 _ e_.symm).2) rfl)) | (show some (Addr.add _ _).block ≠ _; rw [add_block]; exact (fun e_ => ((HL185_0.1.1 _ e_.symm).2) rfl)) | exact (fun e_ => ((HL185_0.1.1 _ e_.symm).2) rfl)))
     rw [<- Ny186.1] at ho
     refine E7 (R_grown2 (PR HO_3.1) rfl hg (fun k_ e_ => (HL185_0.1.1 k_ e_).1.1)) (R_grown2 (PR HO_4.1) rfl hg (fun k_ e_ => (HL185_0.1.1 k_ e_).1.2)) (bG BK155.1 hg (R_ne HL185_0.1 BK155.1 (by decide))) (bG BK164.1 hg (R_ne HL185_0.1 BK164.1 (by decide))) (hb) (H_grown (H_widen (by repeat (first | exact HH73.1 | refine H_alloc ?_ _ | refine H_drewN ?_ _ | refine H_drew ?_))) hg (fun k_ e_ => .inl (UU73.1.1 k_ e_))) (ho) ?_
     clear HO_3 HO_4 BK155 BK164 HB HH73 HO_6 UU73 HL185_0
     intro HO_3 HO_4 BK155 BK164 HB HH73 HO188
     clear ho hb hg hat
     have p67 : 0 <= ((rd x4_2 (rd t156 x27_2)) : Int) := OD
     have q67 : ((rd x4_2 (rd t156 x27_2)) : Int) < ((x6_2.length : Int) : Int) := OD
     replace p67 := eq_true p67
     replace q67 := eq_true q67
     obtain ⟨Ao77, co77, eo77⟩ := R_slice HO188.1
     (first | subst eo77 | (injection eo77 with f1_ f2_ f3_; have f4_ := f1_.symm; have f5_ := f3_.symm; clear f1_ f2_ f3_; subst f4_; subst f5_))
     obtain ⟨_, _, hraw75, _, _, hcc75, _⟩ := H_raw HH73.1 (OD) (by have h_ : ((rd x4_2 (rd t156 x27_2)) : Int) < ((x6_2.length : Int) : Int) := OD; first | exact h_ | (have e_ := (HN73.1); omega) | simpa using h_)
     obtain ⟨_, hfr75⟩ := H_at HH73.1 (OD) (by have h_ : ((rd x4_2 (rd t156 x27_2)) : Int) < ((x6_2.length : Int) : Int) := OD; first | exact h_ | (have e_ := (HN73.1); omega) | simpa using h_)
     have hx75_0 := hcc75 0 _ rfl
     have hf75_0 := hfr75 0
     (try simp only [Nat.add_zero] at hx75_0 hf75_0)
     (try rw [show ((Kd.slice 3 (Kd.int .i64))).sz = 1 from rfl, Nat.mul_one] at hx75_0)
     (try rw [show ((Kd.slice 3 (Kd.int .i64))).sz = 1 from rfl, Nat.mul_one] at hf75_0)
     have HP75 := S_seg0 HH73.1 (OD) (by have h_ : ((rd x4_2 (rd t156 x27_2)) : Int) < ((x6_2.length : Int) : Int) := OD; first | exact h_ | (have e_ := (HN73.1); omega) | simpa using h_) (seg := [.slice Ao77 y186.length co77]) (j := 0) (show 1 <= 1 from by decide) (x' := y186) (M_row HO188.1) (fun _ hk => hk)
     (try simp only [show ((Kd.slice 3 (Kd.int .i64))).sz = 1 from rfl, Nat.mul_one, Nat.add_zero] at HP75)
     clear hcc75 hfr75
     have HNB155_go73 := Aside0.mk (show gb155 ≠ go73 from by have h_ := R_ne hraw75 BK155.1 (by decide); intro e_; exact h_ (by rw [e_]; rfl))
     have HNB164_go73 := Aside0.mk (show gb164 ≠ go73 from by have h_ := R_ne hraw75 BK164.1 (by decide); intro e_; exact h_ (by rw [e_]; rfl))
     have HS75 := HP75.1
     rw [<- Ny189.1] at HS75
     have HQ75 := Aside0.mk HS75
     obtain ⟨_, hgg75⟩ := R_typed hraw75 go73 rfl
     have GG75_ := Aside0.mk hgg75
     clear HP75 HS75 hgg75
     refine hK.out _ _ ⟨HS0_, HS1_, HS2_, HS3_, HS4_⟩ (fun hHeld => ?_)
     clear hK K
     refine norm_ (a' := ?_) ?_ ?_
     rotate_left
     · show Act.put _ (some 92) _ = _
       simp only [Act.put, List.setIfInBounds_toArray, List.set_cons_zero, List.set_cons_succ, i64_w, i32_w]
       rfl
     refine pureF 21 (N := some 93) HT_.1 ?_
     refine last_ (i := 22) (N := none) #[Yy,Yy,Yy,Yy,Yy,Yy,Yy,Yy,Yy,Yy,Yy,Yy,Yy,Yy,Yy,Yy,Yy,Yy,Yy,Yy,Yy,Yy,Yy] rfl rfl (one_of HT_.1 (by kernel_rfl)) (by decide) (fun K hK => ?_)
     refine skip_ (w1 := ?_) (by rfl) rfl ?_ ?_
     rotate_left
     · go_simp
       rfl
     refine hK.out _ _ ?_
     clear hK K
     refine done_ (done_of HT_.1 (by kernel_rfl)) ?_
     try go_wp2
     (try simp only [<- hl4_2])
     go_roundg kj30
     case measure => have := HK1.1; have := HK2.1; have := HJ30.1; omega
     case rel => exact ⟨(x4_2), (y189), (wrap64 (x27_2 + 1)), RG, H', ⟨by have := HK1.1; have := HK2.1; have := HJ30.1; omega⟩, ⟨by (try simp only [hl4_1]); (try simp only [hl4_2]); (with_reducible repeat (first | apply R_alloc | apply R_drewN | apply R_drew)); exact R_mono (R_far (p := ⟨go73, ((rd x4_2 (rd t156 x27_2)) : Int).toNat, none⟩) (R_types HO_3.1 GG75_.1 (by decide)) (fun _ hk => hk.2) (.slice Ao77 y186.length co77)) (fun _ hk => hk.1)⟩, ⟨by (try simp only [hl4_1]); (try simp only [hl4_2]); (with_reducible repeat (first | apply R_alloc | apply R_drewN | apply R_drew)); exact R_mono (R_far (p := ⟨go73, ((rd x4_2 (rd t156 x27_2)) : Int).toNat, none⟩) (R_types HO_4.1 GG75_.1 (by decide)) (fun _ hk => hk.2) (.slice Ao77 y186.length co77)) (fun _ hk => hk.1)⟩, ⟨PS2 HQ75.1 hl4_1 hl4_2⟩, ⟨by (try simp only [hl4_1]); (try simp only [hl4_2]); (with_reducible repeat (first | refine blk_drewN ?_ _ | refine blk_drew ?_ | refine blk_alloc ?_ _)); refine blk_far ?_ HNB155_go73.1 _; (with_reducible repeat (first | refine blk_drewN ?_ _ | refine blk_drew ?_ | refine blk_alloc ?_ _)); exact BK155.1⟩, ⟨BL HB.1⟩⟩
   have c59b0 := beq_eq_false_iff_ne.mpr c59
   have c59b1 := bne_iff_ne.mpr c59
   have H' := Aside0.mk H
   clear H
   obtain ⟨hcz79_0, hcz79_1, hfz79_0, hfz79_1⟩ := cz2 BK164.1
   go_wp2
   (try simp only [<- hl4_2])
   go_roundg kj30
   case measure => have := HK1.1; have := HK2.1; have := HJ30.1; omega
   case rel => exact ⟨(x4_2), (x6_2), (wrap64 (x27_2 + 1)), RG, H', ⟨by have := HK1.1; have := HK2.1; have := HJ30.1; omega⟩, ⟨PR2 HO_3.1 hl4_1 hl4_2⟩, ⟨PR2 HO_4.1 hl4_1 hl4_2⟩, ⟨PS2 HO_6.1 hl4_1 hl4_2⟩, ⟨PB2 BK155.1 hl4_1 hl4_2⟩, ⟨BL HB.1⟩⟩
 (try simp only [hl4_1, hl4_2] at c19b0)
 obtain rfl := Option.some.inj H
 go_wp2
 go_ret
 exact ⟨_, RF, SPE (S_mono HO_6.1 (fun _ hk => trivial)), BL HB.1⟩
/-! ### spec_UnitsOf: function 5 -/
open Kd
def spec_UnitsOf.f (k : Nat) (a0_0 : Int) (a0_1 : Int) (l0_2 : List (S49)) : Option ((List (List Int)) × Bool) := (spec_boGood.f k a0_0 a0_1 l0_2).bind fun t191 => (if t191 = true then ((spec_saUnits.f k a0_0 a0_1 l0_2).bind fun t192 => (some (t192, true))) else (some (([] : List (List Int)), false)))
theorem spec_UnitsOf.mono : ∀ a0 a1 a2 k, LeO (spec_UnitsOf.f k a0 a1 a2) (spec_UnitsOf.f (k + 1) a0 a1 a2) := by
 intro a0 a1 a2 k
 unfold spec_UnitsOf.f
 repeat' first
  | (with_reducible exact spec_boGood.mono _ _ _ _)
  | (with_reducible exact spec_saUnits.mono _ _ _ _)
  | (with_reducible exact LeO.refl _)
  | (with_reducible exact LeO.none _)
  | (with_reducible refine LeO.ite ?_ ?_)
  | (with_reducible refine LeO.bind ?_ (fun _ => ?_))
  | exact spec_boGood.mono _ _ _ _
  | exact spec_saUnits.mono _ _ _ _
  | exact LeO.none _
  | refine LeO.ite ?_ ?_
  | refine LeO.bind ?_ (fun _ => ?_)
theorem spec_UnitsOf.calls (k : Nat) (a0_0 : Int) (a0_1 : Int) (A0_2 : Option Addr) (c0_2 : Nat) (l0_2 : List (S49)) (r1 : List (List Int)) (r2 : Bool) (w : World) (hr0_2 : Kd.C k49 w A0_2 l0_2.length l0_2) (hc0_2 : l0_2.length <= c0_2) (h : spec_UnitsOf.f k a0_0 a0_1 l0_2 = some (r1, r2)) :
 Calls Try.prog 5 #[.agg #[.int .i64 a0_0, .int .i64 a0_1, .slice A0_2 l0_2.length c0_2]] w fun e w' => ∃ v0_ : Value, e = .returned (.tuple #[v0_, .bool r2]) /\ Kd.S (Kd.slice 3 (Kd.int .i64)) 43 w' w.heap.size (fun _ => True) v0_ r1 /\ Below w.heap.size w w' := by
 have hu31 := Try.underlying31
 have HR0_2 := Aside0.mk hr0_2
 have HC0_2 := Aside0.mk hc0_2
 clear hr0_2 hc0_2
 have HB := Aside0.mk (Below.refl w.heap.size w)
 have H := h
 clear h
 unfold spec_UnitsOf.f at H
 replace H := bindA H; obtain ⟨t191, A2, H⟩ := H
 replace H := ifX H; rcases H with ⟨rfl, H⟩ | ⟨rfl, H⟩
 · replace H := bindA H; obtain ⟨t192, A4, H⟩ := H
   simp only [Option.some.injEq, Prod.mk.injEq] at H
   obtain ⟨rfl, rfl⟩ := H
   go_enter Try.func5, Try.ntmps5
   go_wp2_with (first | ((with_reducible refine gate_dst (N := 1) rfl ?_); refine boxE (cs := #[.int .i64 a0_0, .int .i64 a0_1, .slice A0_2 l0_2.length c0_2]) (t := 31) ?_; intro gb190 hg w5 hbox hb; refine E4b HB.1 hg hbox hb ?_; clear HB; intro HB BK190 GW190 GE190; clear hb hbox hg; obtain ⟨hcz6_0, hcz6_1, hcz6_2, hfz6_0, hfz6_1, hfz6_2⟩ := cz3 BK190.1) | ((with_reducible refine gate_callee (f := 14) rfl ?_); refine goesM (N := (some 5)) #[.agg #[.int .i64 a0_0, .int .i64 a0_1, .slice A0_2 l0_2.length c0_2]] Try.func14 ?_; (with_reducible refine (spec_boGood.calls k a0_0 a0_1 _ _ l0_2 true _ ?side1 ?side2 A2.1).mono ?_); (case side1 => exact CB (C_below HR0_2.1 HB.1)); (case side2 => exact HC0_2.1); rintro e w7 ⟨rfl, hb⟩; refine ⟨_, rfl, ?_⟩; refine E2 (bB BK190.1 hb) (bS HB.1 hb) ?_; clear BK190 HB; intro BK190 HB; (try clear hb); obtain ⟨hcz8_0, hcz8_1, hcz8_2, hfz8_0, hfz8_1, hfz8_2⟩ := cz3 BK190.1) | ((with_reducible refine gate_callee (f := 15) rfl ?_); refine goesM (N := (some 8)) #[.agg #[.int .i64 a0_0, .int .i64 a0_1, .slice A0_2 l0_2.length c0_2]] Try.func15 ?_; (with_reducible refine (spec_saUnits.calls k a0_0 a0_1 _ _ l0_2 t192 _ ?side1 ?side2 A4.1).mono ?_); (case side1 => exact CB (C_below HR0_2.1 HB.1)); (case side2 => exact HC0_2.1); rintro e w9 ⟨v193, rfl, ho0, hb⟩; refine ⟨_, rfl, ?_⟩; refine E3 (S_lower ho0 (bZ HB.1)) (bB BK190.1 hb) (bS HB.1 hb) ?_; clear BK190 HB; intro HO194 BK190 HB; (try clear hb); (try clear ho0)))
   go_ret2
   exact ⟨_, RF, SPE (HO194.1), BL HB.1⟩
 simp only [Option.some.injEq, Prod.mk.injEq] at H
 obtain ⟨rfl, rfl⟩ := H
 go_enter Try.func5, Try.ntmps5
 go_wp2_with (first | ((with_reducible refine gate_dst (N := 1) rfl ?_); refine boxE (cs := #[.int .i64 a0_0, .int .i64 a0_1, .slice A0_2 l0_2.length c0_2]) (t := 31) ?_; intro gb190 hg w10 hbox hb; refine E4b HB.1 hg hbox hb ?_; clear HB; intro HB BK190 GW190 GE190; clear hb hbox hg; obtain ⟨hcz11_0, hcz11_1, hcz11_2, hfz11_0, hfz11_1, hfz11_2⟩ := cz3 BK190.1) | ((with_reducible refine gate_callee (f := 14) rfl ?_); refine goesM (N := (some 5)) #[.agg #[.int .i64 a0_0, .int .i64 a0_1, .slice A0_2 l0_2.length c0_2]] Try.func14 ?_; (with_reducible refine (spec_boGood.calls k a0_0 a0_1 _ _ l0_2 false _ ?side1 ?side2 A2.1).mono ?_); (case side1 => exact CB (C_below HR0_2.1 HB.1)); (case side2 => exact HC0_2.1); rintro e w12 ⟨rfl, hb⟩; refine ⟨_, rfl, ?_⟩; refine E2 (bB BK190.1 hb) (bS HB.1 hb) ?_; clear BK190 HB; intro BK190 HB; (try clear hb)))
 go_ret2
 exact ⟨_, RF, by first | exact S_nil _ _ _ _ _ | exact N_nil _ _ _ _ _ | exact V_nil _ _ _ _ _ | exact Q_nil _ _ _ _ _ | exact R_nil _ _ _ _ _, BL HB.1⟩

/-! ### laws_toCell: function 27 -/
open Kd
def laws_toCell.f (a0_0 : Int) (a0_1 : Int) : Option (Int × Int) := some (a0_0, a0_1)
theorem laws_toCell.calls (a0_0 : Int) (a0_1 : Int) (r1 : Int) (r2 : Int) (w : World) (h : laws_toCell.f a0_0 a0_1 = some (r1, r2)) :
 Calls Try.prog 27 #[.agg #[.int .i64 a0_0, .int .i64 a0_1]] w fun e w' => e = .returned (.agg #[.int .i64 r1, .int .i64 r2]) /\ Below w.heap.size w w' := by
 have hu53 := Try.underlying53
 have hu49 := Try.underlying49
 have HB := Aside0.mk (Below.refl w.heap.size w)
 have H := h
 clear h
 unfold laws_toCell.f at H
 simp only [Option.some.injEq, Prod.mk.injEq] at H
 obtain ⟨rfl, rfl⟩ := H
 go_enter Try.func27, Try.ntmps27
 go_wp2_with (first | ((with_reducible refine gate_dst (N := 1) rfl ?_); refine boxE (cs := #[.int .i64 a0_0, .int .i64 a0_1]) (t := 53) ?_; intro gb195 hg w2 hbox hb; refine E4b HB.1 hg hbox hb ?_; clear HB; intro HB BK195 GW195 GE195; clear hb hbox hg) | ((with_reducible refine gate_dst (N := 2) rfl ?_); refine boxE (cs := #[.int .i64 0, .int .i64 0]) (t := 49) ?_; intro gb196 hg w3 hbox hb; refine E7 (bB BK195.1 hb) (bS HB.1 hb) (hbox) (gX HB.1 hg) (gX HB.1 hg) (nB BK195.1 hg) (nC BK195.1 hg) ?_; clear BK195 HB; intro BK195 HB BK196 GW196 GE196 NB195_196 NB196_195; clear hb hbox hg) | ((with_reducible refine gate_dst (N := 3) rfl ?_); refine boxE (cs := #[.int .i64 0, .int .i64 0]) (t := 49) ?_; intro gb197 hg w4 hbox hb; refine E10 (bB BK195.1 hb) (bB BK196.1 hb) (bS HB.1 hb) (hbox) (gX HB.1 hg) (gX HB.1 hg) (nB BK195.1 hg) (nC BK195.1 hg) (nB BK196.1 hg) (nC BK196.1 hg) ?_; clear BK195 BK196 HB; intro BK195 BK196 HB BK197 GW197 GE197 NB195_197 NB197_195 NB196_197 NB197_196; clear hb hbox hg; have hnb5 := NB195_196.1; have hnc5 := NB196_195.1; have hnb6 := NB195_197.1; have hnc6 := NB197_195.1; obtain ⟨hcz7_0, hcz7_1, hfz7_0, hfz7_1⟩ := cz2 BK195.1; have hnb8 := NB197_196.1; have hnc8 := NB196_197.1; obtain ⟨hcz9_0, hcz9_1, hfz9_0, hfz9_1⟩ := cz2 BK197.1; obtain ⟨hcz10_0, hcz10_1, hfz10_0, hfz10_1⟩ := cz2 BK196.1))
 refine bodyPost_ret (results_cell_row rfl _ _ gb196 49 #[.int .i64 a0_0, .int .i64 a0_1] (0, 0) _ rfl (PF1 NB196_197.1 BK196.1) Try.underlying49 rfl (by kernel_rfl)) rfl ?_
 exact ⟨RF, BL HB.1⟩

/-! ### laws_toCellS: function 16 -/
open Kd
def laws_toCellS.l0 : Nat -> List (S53) -> List (S49) -> Int -> Option ((List (S49)))
 | 0, _, _, _ => none
 | k + 1, x0, x3, x4 => if x4 < (x0.length : Int) then (if 0 <= x4 then ((laws_toCell.f ((rd_T53 x0 x4).f0) ((rd_T53 x0 x4).f1)).bind fun bt202 => (if x4 < (x3.length : Int) then (laws_toCellS.l0 k x0 (x3.set (x4 : Int).toNat (⟨bt202.1, bt202.2⟩ : S49)) (wrap64 (x4 + 1))) else (none))) else (none)) else (some x3)
def laws_toCellS.f (k : Nat) (l0 : List (S53)) : Option ((List (S49))) := if 0 <= (l0.length : Int) then (if ((l0.length : Int) : Int).toNat <= 17592186044416 then (laws_toCellS.l0 k l0 (List.replicate ((l0.length : Int) : Int).toNat z49) 0) else (none)) else (none)
theorem laws_toCellS.mono_l : ∀ k, (∀ y0 y1 y2, LeO (laws_toCellS.l0 k y0 y1 y2) (laws_toCellS.l0 (k + 1) y0 y1 y2))
 | 0 => fun _ _ _ r h => by simp [laws_toCellS.l0] at h
 | k + 1 => by
  have ih0 := laws_toCellS.mono_l k
  intros
  first | unfold laws_toCellS.l0
  exact LM1 ih0
theorem laws_toCellS.mono : ∀ a0 k, LeO (laws_toCellS.f k a0) (laws_toCellS.f (k + 1) a0) := by
 intro a0 k
 have ih0 := laws_toCellS.mono_l k
 unfold laws_toCellS.f
 exact LM1 ih0
theorem laws_toCellS.calls (k : Nat) (A0 : Option Addr) (c0 : Nat) (l0 : List (S53)) (r : List (S49)) (w : World) (hr0 : Kd.C k53 w A0 l0.length l0) (hc0 : l0.length <= c0) (h : laws_toCellS.f k l0 = some r) :
 Calls Try.prog 16 #[.slice A0 l0.length c0] w fun e w' => ∃ v0_ : Value, e = .returned (v0_) /\ Kd.R k49 49 w' w.heap.size (fun _ => True) v0_ r /\ Below w.heap.size w w' := by
 have hu53 := Try.underlying53
 have hu49 := Try.underlying49
 have HR0 := Aside0.mk hr0
 have HC0 := Aside0.mk hc0
 clear hr0 hc0
 have HB := Aside0.mk (Below.refl w.heap.size w)
 have H := h
 clear h
 unfold laws_toCellS.f at H
 replace H := ifP H; obtain ⟨c2, H⟩ := H
 have c2b0 := eq_true c2
 have c2b1 := decide_eq_true c2
 clear c2
 replace H := ifP H; obtain ⟨c3, H⟩ := H
 have c3b0 := eq_true c3
 have c3b1 := decide_eq_true c3
 clear c3
 generalize hy198 : ((List.replicate ((l0.length : Int) : Int).toNat z49) : List (S49)) = y198 at H
 have Ny198 := Aside0.mk hy198.symm; clear hy198
 have H' := Aside0.mk H
 clear H
 go_enter Try.func16, Try.ntmps16
 go_wp2_with (first | ((with_reducible refine gate_dst (N := 7) rfl ?_); refine R_make k49 _ 49 rfl (N := 7) rfl 29 _ _ rfl (l0.length : Int) rfl rfl Try.underlying29 (.agg #[(.int .i64 0), (.int .i64 0)]) 16 info49 rfl (by decide) (by omega) z49 (ok := fun _ => True) (okp := fun _ => True) (k49_mkM _ _ _ z49 ) (fun _ hk => hk) trivial (OD) (Nat.le_trans (Nat.mul_le_mul_right _ (OD : (l0.length : Int).toNat <= 17592186044416)) (by omega)) (Below.refl _ _) (Nat.le_refl _) ?_; intro v199 w4 ho5 hb hg_ hnew_; clear hg_ hnew_; (first | rw [<- Ny198.1] at ho5 | (simp only [Int.reduceToNat] at ho5; rw [<- Ny198.1] at ho5)); refine E2 (R_lower ho5 (bZ HB.1)) (bS HB.1 hb) ?_; clear HB; intro HO200 HB; clear hb ho5))
 go_loopg [4] k (fun kq v4 w' => ∃ (x3_1 : List (S49)) (x4_1 : Int), v4 = .int .i64 x4_1 /\ Aside0 (laws_toCellS.l0 kq l0 x3_1 x4_1 = some r) /\ Aside0 (kq <= k) /\ Aside0 (Kd.R k49 49 w' w.heap.size (fun _ => True) v199 x3_1) /\ Aside0 (Below w.heap.size w w'))
 case atStart => exact ⟨(y198), (0), RG, H', ⟨Nat.le_refl _⟩, ⟨PR HO200.1⟩, ⟨BL HB.1⟩⟩
 clear H'
 clear c2b0 c2b1 c3b0 c3b1
 obtain ⟨x3_1, x4_1, rfl, HA, HK1, HO_3, HB⟩ := hrel
 cases gk with
 | zero => exact absurd HA.1 (by simp [laws_toCellS.l0])
 | succ k1 => ?_
 have H := HA.1
 clear HA
 simp only [laws_toCellS.l0] at H
 replace H := ifB H; rcases H with ⟨c6b0, H⟩ | ⟨c6b0, H⟩
 · replace H := ifN H; obtain ⟨c7b0, H⟩ := H
   replace H := bindA H; obtain ⟨⟨t202, t203⟩, A8, H⟩ := H
   dsimp only at H
   replace H := ifN H; obtain ⟨c9b0, H⟩ := H
   generalize hy204 : ((x3_1.set (x4_1 : Int).toNat (⟨t202, t203⟩ : S49)) : List (S49)) = y204 at H
   have Ny204 := Aside0.mk hy204.symm; clear hy204
   have H' := Aside0.mk H
   clear H
   have p201 : 0 <= (x4_1 : Int) := OD
   have q201 : x4_1 < (l0.length : Int) := OD
   obtain ⟨ad201, e201, hx201_0, hx201_1⟩ := at_T53 HR0.1 x4_1 p201 q201
   cases e201
   replace hx201_0 := (HB.1.cell (World.block_lt_of_cell? w _ hx201_0)).trans hx201_0
   replace hx201_1 := (HB.1.cell (World.block_lt_of_cell? w _ hx201_1)).trans hx201_1
   replace p201 := eq_true p201
   replace q201 := eq_true q201
   go_wp2_with (first | ((with_reducible refine gate_callee (f := 27) rfl ?_); refine goesM (N := (some 20)) #[.agg #[.int .i64 ((rd_T53 l0 x4_1).f0), .int .i64 ((rd_T53 l0 x4_1).f1)]] Try.func27 ?_; (with_reducible refine (laws_toCell.calls ((rd_T53 l0 x4_1).f0) ((rd_T53 l0 x4_1).f1) t202 t203 _ A8.1).mono ?_); rintro e w11 ⟨rfl, hb⟩; refine ⟨_, rfl, ?_⟩; refine E2 (rB HO_3.1 hb) (bS HB.1 hb) ?_; clear HO_3 HB; intro HO_3 HB; (try clear hb); have p10 : 0 <= (x4_1 : Int) := OD; have q10 : (x4_1 : Int) < ((x3_1.length : Int) : Int) := OD; obtain ⟨go10, co10, eo10, gb10, gl10, cl10, HG10⟩ := R_form HO_3.1 (by omega); (first | cases eo10 | (injection eo10 with ea_ en_ ec_; (first | subst ea_ | (injection ea_ with ea_; subst ea_)); subst ec_; clear en_)); have GB10 := Aside0.mk gb10; have GG10 := Aside0.mk HG10; clear gb10 gl10 HG10; obtain ⟨ce10, hcl10, hM10, hcc10, hfr10⟩ := R_elem HO_3.1 z49 (x4_1 : Int) p10 q10; obtain rfl := k49_openM hM10; have hx10_0 : w11.cell? ⟨go10, (x4_1 : Int).toNat * 2, none⟩ = some (.int .i64 ((rd_T49 x3_1 x4_1).f0)) := hcc10 0 _ rfl; have hx10_1 : w11.cell? ⟨go10, (x4_1 : Int).toNat * 2 + 1, none⟩ = some (.int .i64 ((rd_T49 x3_1 x4_1).f1)) := hcc10 1 _ rfl; have hf10_0 : w11.frozen? ⟨go10, (x4_1 : Int).toNat * 2, none⟩ = false := hfr10 0; have hf10_1 : w11.frozen? ⟨go10, (x4_1 : Int).toNat * 2 + 1, none⟩ = false := hfr10 1; (try clear hM10); clear hcl10 hcc10 hfr10; replace p10 := eq_true p10; replace q10 := eq_true q10; have HX12 := Aside0.mk (show Kd.R k49 49 w11 w.heap.size (fun _ => True) (.slice (some ⟨go10, 0, none⟩) x3_1.length co10) x3_1 from (PR HO_3.1)); obtain ⟨ce12, hcl12, hM12, hcc12, hfr12⟩ := R_elem HX12.1 z49 (x4_1 : Int) (OD) (by have h_ : (x4_1 : Int) < ((x3_1.length : Int) : Int) := OD; first | exact h_ | (have e_ := (R_reads' HO_3.1).1; omega) | simpa using h_); obtain rfl := k49_openM hM12; have HP12 := R_seg HX12.1 (x4_1 : Int) (OD) (by have h_ : (x4_1 : Int) < ((x3_1.length : Int) : Int) := OD; first | exact h_ | (have e_ := (R_reads' HO_3.1).1; omega) | simpa using h_) (seg := [.int .i64 t202, .int .i64 t203]) (j := 0) hcl12 hcc12 (show 2 <= 2 from by decide) (x' := (⟨t202, t203⟩ : S49)) (k49_mkM _ _ _ (⟨t202, t203⟩ : S49) ) (fun _ hk => hk); have hx12_0 := hcc12 0 _ rfl; (try simp only [show (k49).sz = 2 from rfl, Nat.mul_one, Nat.add_zero] at hx12_0); have hf12_0 := hfr12 0; (try simp only [show (k49).sz = 2 from rfl, Nat.mul_one, Nat.add_zero] at hf12_0); have hx12_1 := hcc12 1 _ rfl; (try simp only [show (k49).sz = 2 from rfl, Nat.mul_one, Nat.add_zero] at hx12_1); have hf12_1 := hfr12 1; (try simp only [show (k49).sz = 2 from rfl, Nat.mul_one, Nat.add_zero] at hf12_1); clear hcl12 hcc12 hfr12) | ((with_reducible refine gate_store (t := 49) (p := 21) rfl ?_); refine storeE (t := 49) (p := 21) (w1 := ((w11.setCell ⟨go10, (x4_1 : Int).toNat * 2, none⟩ (.int .i64 t202)).setCell ⟨go10, (x4_1 : Int).toNat * 2 + 1, none⟩ (.int .i64 t203))) ?_; intro w13 hw; have hg : w11.grownBy w13 (some go10) := (by rw [hw]; exact HP12.2); have hp_ : Kd.R k49 49 w13 w.heap.size (fun _ => True) (.slice (some ⟨go10, 0, none⟩) x3_1.length co10) y204 := (by rw [hw, Ny204.1]; exact HP12.1); clear HP12; refine E2 (hp_) ((by rw [hw]; exact below_set (below_set (HB.1) GB10.1) GB10.1 : Below w.heap.size w w13)) ?_; clear HO_3 HB; intro HO_3 HB; clear hg hw hp_))
   go_roundg k1
   case measure => have := HK1.1; omega
   case rel => exact ⟨(y204), (wrap64 (x4_1 + 1)), RG, H', ⟨by have := HK1.1; omega⟩, ⟨PR HO_3.1⟩, ⟨BL HB.1⟩⟩
 obtain rfl := Option.some.inj H
 go_wp2
 go_ret
 exact ⟨_, RF, RPE (HO_3.1), BL HB.1⟩
/-! ### laws_toBoard: function 6 -/
open Kd
def laws_toBoard.f (k : Nat) (a0_0 : Int) (a0_1 : Int) (l0_2 : List (S53)) : Option (Int × Int × (List (S49))) := (laws_toCellS.f k l0_2).bind fun t208 => (some (a0_0, a0_1, t208))
theorem laws_toBoard.mono : ∀ a0 a1 a2 k, LeO (laws_toBoard.f k a0 a1 a2) (laws_toBoard.f (k + 1) a0 a1 a2) := by
 intro a0 a1 a2 k
 unfold laws_toBoard.f
 repeat' first
  | (with_reducible exact laws_toCellS.mono _ _)
  | (with_reducible exact LeO.refl _)
  | (with_reducible exact LeO.none _)
  | (with_reducible refine LeO.ite ?_ ?_)
  | (with_reducible refine LeO.bind ?_ (fun _ => ?_))
  | exact laws_toCellS.mono _ _
  | exact LeO.none _
  | refine LeO.ite ?_ ?_
  | refine LeO.bind ?_ (fun _ => ?_)
theorem laws_toBoard.calls (k : Nat) (a0_0 : Int) (a0_1 : Int) (A0_2 : Option Addr) (c0_2 : Nat) (l0_2 : List (S53)) (r1 : Int) (r2 : Int) (r3 : List (S49)) (w : World) (hr0_2 : Kd.C k53 w A0_2 l0_2.length l0_2) (hc0_2 : l0_2.length <= c0_2) (h : laws_toBoard.f k a0_0 a0_1 l0_2 = some (r1, r2, r3)) :
 Calls Try.prog 6 #[.agg #[.int .i64 a0_0, .int .i64 a0_1, .slice A0_2 l0_2.length c0_2]] w fun e w' => ∃ v2_ : Value, e = .returned (.agg #[.int .i64 r1, .int .i64 r2, v2_]) /\ Kd.R k49 49 w' w.heap.size (fun _ => True) v2_ r3 /\ Below w.heap.size w w' := by
 have hu24 := Try.underlying24
 have hu31 := Try.underlying31
 have HR0_2 := Aside0.mk hr0_2
 have HC0_2 := Aside0.mk hc0_2
 clear hr0_2 hc0_2
 have HB := Aside0.mk (Below.refl w.heap.size w)
 have H := h
 clear h
 unfold laws_toBoard.f at H
 replace H := bindA H; obtain ⟨t208, A2, H⟩ := H
 simp only [Option.some.injEq, Prod.mk.injEq] at H
 obtain ⟨rfl, rfl, rfl⟩ := H
 go_enter Try.func6, Try.ntmps6
 go_wp2_with (first | ((with_reducible refine gate_dst (N := 1) rfl ?_); refine boxE (cs := #[.int .i64 a0_0, .int .i64 a0_1, .slice A0_2 l0_2.length c0_2]) (t := 24) ?_; intro gb205 hg w3 hbox hb; refine E4b HB.1 hg hbox hb ?_; clear HB; intro HB BK205 GW205 GE205; clear hb hbox hg) | ((with_reducible refine gate_dst (N := 2) rfl ?_); refine boxE (cs := #[.int .i64 0, .int .i64 0, .slice none 0 0]) (t := 31) ?_; intro gb206 hg w4 hbox hb; refine E7 (bB BK205.1 hb) (bS HB.1 hb) (hbox) (gX HB.1 hg) (gX HB.1 hg) (nB BK205.1 hg) (nC BK205.1 hg) ?_; clear BK205 HB; intro BK205 HB BK206 GW206 GE206 NB205_206 NB206_205; clear hb hbox hg) | ((with_reducible refine gate_dst (N := 3) rfl ?_); refine boxE (cs := #[.int .i64 0, .int .i64 0, .slice none 0 0]) (t := 31) ?_; intro gb207 hg w5 hbox hb; refine E10 (bB BK205.1 hb) (bB BK206.1 hb) (bS HB.1 hb) (hbox) (gX HB.1 hg) (gX HB.1 hg) (nB BK205.1 hg) (nC BK205.1 hg) (nB BK206.1 hg) (nC BK206.1 hg) ?_; clear BK205 BK206 HB; intro BK205 BK206 HB BK207 GW207 GE207 NB205_207 NB207_205 NB206_207 NB207_206; clear hb hbox hg; have hnb6 := NB205_206.1; have hnc6 := NB206_205.1; have hnb7 := NB205_207.1; have hnc7 := NB207_205.1; obtain ⟨hcz8_0, hcz8_1, hcz8_2, hfz8_0, hfz8_1, hfz8_2⟩ := cz3 BK205.1; have hnb9 := NB207_206.1; have hnc9 := NB206_207.1; obtain ⟨hcz10_0, hcz10_1, hcz10_2, hfz10_0, hfz10_1, hfz10_2⟩ := cz3 BK207.1) | ((with_reducible refine gate_callee (f := 16) rfl ?_); refine goesM (N := (some 12)) #[.slice A0_2 l0_2.length c0_2] Try.func16 ?_; (with_reducible refine (laws_toCellS.calls k _ _ l0_2 t208 _ ?side1 ?side2 A2.1).mono ?_); (case side1 => exact C_below HR0_2.1 (BL HB.1)); (case side2 => exact HC0_2.1); rintro e w11 ⟨v209, rfl, ho0, hb⟩; refine ⟨_, rfl, ?_⟩; refine E5 (R_lower ho0 (bZ HB.1)) (blk_below (g := gb205) (o := .cells #[.int .i64 a0_0, .int .i64 a0_1, .slice A0_2 l0_2.length c0_2] 24 (0, 0)) (PF1 NB205_207.1 BK205.1) hb) (blk_below (g := gb206) (o := .cells #[.int .i64 0, .int .i64 0, .slice none 0 0] 31 (0, 0)) (PF1 NB206_207.1 BK206.1) hb) (blk_below (g := gb207) (o := .cells #[.int .i64 a0_0, .int .i64 a0_1, .slice none 0 0] 31 (0, 0)) (PF0 BK207.1) hb) (bS HB.1 hb) ?_; clear BK205 BK206 BK207 HB; intro HO210 BK205 BK206 BK207 HB; (try clear hb); (try clear ho0); obtain ⟨Ao12, co12, eo12⟩ := R_slice HO210.1; subst eo12; obtain ⟨hcz13_0, hcz13_1, hcz13_2, hfz13_0, hfz13_1, hfz13_2⟩ := cz3 BK207.1; obtain ⟨hcz14_0, hcz14_1, hcz14_2, hfz14_0, hfz14_1, hfz14_2⟩ := cz3 BK206.1))
 refine bodyPost_ret (results_cell_row rfl _ _ gb206 31 #[.int .i64 a0_0, .int .i64 a0_1, .slice Ao12 t208.length co12] (0, 0) _ rfl (PF1 NB206_207.1 BK206.1) Try.underlying31 rfl (by kernel_rfl)) rfl ?_
 exact ⟨_, RF, by (with_reducible repeat (first | apply R_alloc | apply R_drewN | apply R_drew)); exact R_mono (RQ gb206 2 (RQ gb206 1 (RQ gb206 0 (R_far (p := ⟨gb207, 2, none⟩) (R_types (R_types HO210.1 BK207.1 (by decide)) BK206.1 (by decide)) (fun _ hk => hk.1.2) (.slice Ao12 t208.length co12)) _) _) _) (fun _ hk => trivial), BL HB.1⟩

/-! ### impl_IsCell: function 34 -/
open Kd
def impl_IsCell.f (a0_0 : Int) (a0_1 : Int) : Option (Bool) := if a0_0 < 0 then (some false) else (if a0_0 > 7 then (some false) else (if a0_1 < 0 then (some false) else (if a0_1 > 1 then (some false) else (if a0_1 = 0 then (some true) else (if a0_0 = 3 then (some true) else (some (a0_0 == 6)))))))
theorem impl_IsCell.calls (a0_0 : Int) (a0_1 : Int) (r : Bool) (w : World) (h : impl_IsCell.f a0_0 a0_1 = some r) :
 Calls Try.prog 34 #[.agg #[.int .i64 a0_0, .int .i64 a0_1]] w fun e w' => e = .returned (.bool r) /\ Below w.heap.size w w' := by
 have hu49 := Try.underlying49
 have HB := Aside0.mk (Below.refl w.heap.size w)
 have H := h
 clear h
 unfold impl_IsCell.f at H
 replace H := ifB H; rcases H with ⟨c2b0, H⟩ | ⟨c2b0, H⟩
 · obtain rfl := Option.some.inj H
   go_enter Try.func34, Try.ntmps34
   go_wp2_with (first | ((with_reducible refine gate_dst (N := 1) rfl ?_); refine boxE (cs := #[.int .i64 a0_0, .int .i64 a0_1]) (t := 49) ?_; intro gb211 hg w3 hbox hb; refine E4b HB.1 hg hbox hb ?_; clear HB; intro HB BK211 GW211 GE211; clear hb hbox hg; obtain ⟨hcz4_0, hcz4_1, hfz4_0, hfz4_1⟩ := cz2 BK211.1))
   go_ret
   exact ⟨RF, BL HB.1⟩
 replace H := ifQ H; rcases H with ⟨c5, H⟩ | ⟨c5, H⟩
 · have c5b0 : decide (7 < a0_0) = true := decide_eq_true c5
   clear c5
   obtain rfl := Option.some.inj H
   go_enter Try.func34, Try.ntmps34
   go_wp2_with (first | ((with_reducible refine gate_dst (N := 1) rfl ?_); refine boxE (cs := #[.int .i64 a0_0, .int .i64 a0_1]) (t := 49) ?_; intro gb211 hg w6 hbox hb; refine E4b HB.1 hg hbox hb ?_; clear HB; intro HB BK211 GW211 GE211; clear hb hbox hg; obtain ⟨hcz7_0, hcz7_1, hfz7_0, hfz7_1⟩ := cz2 BK211.1))
   go_ret
   exact ⟨RF, BL HB.1⟩
 have c5b0 : decide (7 < a0_0) = false := decide_eq_false c5
 clear c5
 replace H := ifB H; rcases H with ⟨c8b0, H⟩ | ⟨c8b0, H⟩
 · obtain rfl := Option.some.inj H
   go_enter Try.func34, Try.ntmps34
   go_wp2_with (first | ((with_reducible refine gate_dst (N := 1) rfl ?_); refine boxE (cs := #[.int .i64 a0_0, .int .i64 a0_1]) (t := 49) ?_; intro gb211 hg w9 hbox hb; refine E4b HB.1 hg hbox hb ?_; clear HB; intro HB BK211 GW211 GE211; clear hb hbox hg; obtain ⟨hcz10_0, hcz10_1, hfz10_0, hfz10_1⟩ := cz2 BK211.1))
   go_ret
   exact ⟨RF, BL HB.1⟩
 replace H := ifQ H; rcases H with ⟨c11, H⟩ | ⟨c11, H⟩
 · have c11b0 : decide (1 < a0_1) = true := decide_eq_true c11
   clear c11
   obtain rfl := Option.some.inj H
   go_enter Try.func34, Try.ntmps34
   go_wp2_with (first | ((with_reducible refine gate_dst (N := 1) rfl ?_); refine boxE (cs := #[.int .i64 a0_0, .int .i64 a0_1]) (t := 49) ?_; intro gb211 hg w12 hbox hb; refine E4b HB.1 hg hbox hb ?_; clear HB; intro HB BK211 GW211 GE211; clear hb hbox hg; obtain ⟨hcz13_0, hcz13_1, hfz13_0, hfz13_1⟩ := cz2 BK211.1))
   go_ret
   exact ⟨RF, BL HB.1⟩
 have c11b0 : decide (1 < a0_1) = false := decide_eq_false c11
 clear c11
 replace H := ifQ H; rcases H with ⟨c14, H⟩ | ⟨c14, H⟩
 · have c14b0 := beq_iff_eq.mpr c14
   have c14b1 := bne_eq_false_iff_eq.mpr c14
   clear c14
   obtain rfl := Option.some.inj H
   go_enter Try.func34, Try.ntmps34
   go_wp2_with (first | ((with_reducible refine gate_dst (N := 1) rfl ?_); refine boxE (cs := #[.int .i64 a0_0, .int .i64 a0_1]) (t := 49) ?_; intro gb211 hg w15 hbox hb; refine E4b HB.1 hg hbox hb ?_; clear HB; intro HB BK211 GW211 GE211; clear hb hbox hg; obtain ⟨hcz16_0, hcz16_1, hfz16_0, hfz16_1⟩ := cz2 BK211.1))
   go_ret
   exact ⟨RF, BL HB.1⟩
 have c14b0 := beq_eq_false_iff_ne.mpr c14
 have c14b1 := bne_iff_ne.mpr c14
 replace H := ifQ H; rcases H with ⟨c17, H⟩ | ⟨c17, H⟩
 · have c17b0 := beq_iff_eq.mpr c17
   have c17b1 := bne_eq_false_iff_eq.mpr c17
   clear c17
   obtain rfl := Option.some.inj H
   go_enter Try.func34, Try.ntmps34
   go_wp2_with (first | ((with_reducible refine gate_dst (N := 1) rfl ?_); refine boxE (cs := #[.int .i64 a0_0, .int .i64 a0_1]) (t := 49) ?_; intro gb211 hg w18 hbox hb; refine E4b HB.1 hg hbox hb ?_; clear HB; intro HB BK211 GW211 GE211; clear hb hbox hg; obtain ⟨hcz19_0, hcz19_1, hfz19_0, hfz19_1⟩ := cz2 BK211.1))
   go_ret
   exact ⟨RF, BL HB.1⟩
 have c17b0 := beq_eq_false_iff_ne.mpr c17
 have c17b1 := bne_iff_ne.mpr c17
 obtain rfl := Option.some.inj H
 go_enter Try.func34, Try.ntmps34
 go_wp2_with (first | ((with_reducible refine gate_dst (N := 1) rfl ?_); refine boxE (cs := #[.int .i64 a0_0, .int .i64 a0_1]) (t := 49) ?_; intro gb211 hg w20 hbox hb; refine E4b HB.1 hg hbox hb ?_; clear HB; intro HB BK211 GW211 GE211; clear hb hbox hg; obtain ⟨hcz21_0, hcz21_1, hfz21_0, hfz21_1⟩ := cz2 BK211.1))
 go_ret
 exact ⟨RF, BL HB.1⟩
/-! ### impl_validCells: function 28 -/
open Kd
def impl_validCells.l0 : Nat -> List (S49) -> Int -> Int -> Option (Bool)
 | 0, _, _, _ => none
 | k + 1, x8, x9, x10 => if x10 < x9 then (if 0 <= x10 then (if x10 < (x8.length : Int) then ((impl_IsCell.f ((rd_T49 x8 x10).f0) ((rd_T49 x8 x10).f1)).bind fun t214 => (if t214 = true then (impl_validCells.l0 k x8 x9 (wrap64 (x10 + 1))) else (some false))) else (none)) else (none)) else (some true)
def impl_validCells.f (k : Nat) (l0 : List (S49)) : Option (Bool) := if (l0.length : Int) > 90 then (some false) else (impl_validCells.l0 k l0 (l0.length : Int) 0)
theorem impl_validCells.mono_l : ∀ k, (∀ y0 y1 y2, LeO (impl_validCells.l0 k y0 y1 y2) (impl_validCells.l0 (k + 1) y0 y1 y2))
 | 0 => fun _ _ _ r h => by simp [impl_validCells.l0] at h
 | k + 1 => by
  have ih0 := impl_validCells.mono_l k
  intros
  first | unfold impl_validCells.l0
  exact LM1 ih0
theorem impl_validCells.mono : ∀ a0 k, LeO (impl_validCells.f k a0) (impl_validCells.f (k + 1) a0) := by
 intro a0 k
 have ih0 := impl_validCells.mono_l k
 unfold impl_validCells.f
 exact LM1 ih0
theorem impl_validCells.calls (k : Nat) (A0 : Option Addr) (c0 : Nat) (l0 : List (S49)) (r : Bool) (w : World) (hr0 : Kd.C k49 w A0 l0.length l0) (hc0 : l0.length <= c0) (h : impl_validCells.f k l0 = some r) :
 Calls Try.prog 28 #[.slice A0 l0.length c0] w fun e w' => e = .returned (.bool r) /\ Below w.heap.size w w' := by
 have hu49 := Try.underlying49
 have HR0 := Aside0.mk hr0
 have HC0 := Aside0.mk hc0
 clear hr0 hc0
 have HB := Aside0.mk (Below.refl w.heap.size w)
 have H := h
 clear h
 unfold impl_validCells.f at H
 replace H := ifQ H; rcases H with ⟨c2, H⟩ | ⟨c2, H⟩
 · have c2b0 : decide (90 < (l0.length : Int)) = true := decide_eq_true c2
   have c2b1 : decide (90 < l0.length) = true := decide_eq_true (by omega)
   clear c2
   obtain rfl := Option.some.inj H
   go_enter Try.func28, Try.ntmps28
   go_wp2
   go_ret
   exact ⟨RF, BL HB.1⟩
 have c2b0 : decide (90 < (l0.length : Int)) = false := decide_eq_false c2
 have c2b1 : decide (90 < l0.length) = false := decide_eq_false (by omega)
 clear c2
 have H' := Aside0.mk H
 clear H
 go_enter Try.func28, Try.ntmps28
 go_wp2
 go_loopg [10] k (fun kq v10 w' => ∃ (x10_1 : Int), v10 = .int .i64 x10_1 /\ Aside0 (impl_validCells.l0 kq l0 (l0.length : Int) x10_1 = some r) /\ Aside0 (kq <= k) /\ Aside0 (Below w.heap.size w w'))
 case atStart => exact ⟨(0), RG, H', ⟨Nat.le_refl _⟩, ⟨BL HB.1⟩⟩
 clear H'
 clear c2b0 c2b1
 obtain ⟨x10_1, rfl, HA, HK1, HB⟩ := hrel
 cases gk with
 | zero => exact absurd HA.1 (by simp [impl_validCells.l0])
 | succ k1 => ?_
 have H := HA.1
 clear HA
 simp only [impl_validCells.l0] at H
 replace H := ifB H; rcases H with ⟨c3b0, H⟩ | ⟨c3b0, H⟩
 · replace H := ifN H; obtain ⟨c4b0, H⟩ := H
   replace H := ifN H; obtain ⟨c5b0, H⟩ := H
   replace H := bindA H; obtain ⟨t214, A6, H⟩ := H
   replace H := ifX H; rcases H with ⟨rfl, H⟩ | ⟨rfl, H⟩
   · have H' := Aside0.mk H
     clear H
     have p212 : 0 <= (x10_1 : Int) := OD
     have q212 : x10_1 < (l0.length : Int) := OD
     obtain ⟨ad212, e212, hx212_0, hx212_1⟩ := at_T49 HR0.1 x10_1 p212 q212
     cases e212
     replace hx212_0 := (HB.1.cell (World.block_lt_of_cell? w _ hx212_0)).trans hx212_0
     replace hx212_1 := (HB.1.cell (World.block_lt_of_cell? w _ hx212_1)).trans hx212_1
     replace p212 := eq_true p212
     replace q212 := eq_true q212
     go_wp2_with (first | ((with_reducible refine gate_dst (N := 4) rfl ?_); refine boxE (cs := #[.int .i64 0, .int .i64 0]) (t := 49) ?_; intro gb213 hg w8 hbox hb; refine E4b HB.1 hg hbox hb ?_; clear HB; intro HB BK213 GW213 GE213; clear hb hbox hg; obtain ⟨hcz9_0, hcz9_1, hfz9_0, hfz9_1⟩ := cz2 BK213.1) | ((with_reducible refine gate_callee (f := 34) rfl ?_); refine goesM (N := (some 15)) #[.agg #[.int .i64 ((rd_T49 l0 x10_1).f0), .int .i64 ((rd_T49 l0 x10_1).f1)]] Try.func34 ?_; (with_reducible refine (impl_IsCell.calls ((rd_T49 l0 x10_1).f0) ((rd_T49 l0 x10_1).f1) true _ A6.1).mono ?_); rintro e w10 ⟨rfl, hb⟩; refine ⟨_, rfl, ?_⟩; refine E2 (blk_below (g := gb213) (o := .cells #[.int .i64 ((rd_T49 l0 x10_1).f0), .int .i64 ((rd_T49 l0 x10_1).f1)] 49 (0, 0)) (PF0 BK213.1) hb) (bS HB.1 hb) ?_; clear BK213 HB; intro BK213 HB; (try clear hb)))
     go_roundg k1
     case measure => have := HK1.1; omega
     case rel => exact ⟨(wrap64 (x10_1 + 1)), RG, H', ⟨by have := HK1.1; omega⟩, ⟨BL HB.1⟩⟩
   obtain rfl := Option.some.inj H
   have p212 : 0 <= (x10_1 : Int) := OD
   have q212 : x10_1 < (l0.length : Int) := OD
   obtain ⟨ad212, e212, hx212_0, hx212_1⟩ := at_T49 HR0.1 x10_1 p212 q212
   cases e212
   replace hx212_0 := (HB.1.cell (World.block_lt_of_cell? w _ hx212_0)).trans hx212_0
   replace hx212_1 := (HB.1.cell (World.block_lt_of_cell? w _ hx212_1)).trans hx212_1
   replace p212 := eq_true p212
   replace q212 := eq_true q212
   go_wp2_with (first | ((with_reducible refine gate_dst (N := 4) rfl ?_); refine boxE (cs := #[.int .i64 0, .int .i64 0]) (t := 49) ?_; intro gb213 hg w11 hbox hb; refine E4b HB.1 hg hbox hb ?_; clear HB; intro HB BK213 GW213 GE213; clear hb hbox hg; obtain ⟨hcz12_0, hcz12_1, hfz12_0, hfz12_1⟩ := cz2 BK213.1) | ((with_reducible refine gate_callee (f := 34) rfl ?_); refine goesM (N := (some 15)) #[.agg #[.int .i64 ((rd_T49 l0 x10_1).f0), .int .i64 ((rd_T49 l0 x10_1).f1)]] Try.func34 ?_; (with_reducible refine (impl_IsCell.calls ((rd_T49 l0 x10_1).f0) ((rd_T49 l0 x10_1).f1) false _ A6.1).mono ?_); rintro e w13 ⟨rfl, hb⟩; refine ⟨_, rfl, ?_⟩; refine E2 (blk_below (g := gb213) (o := .cells #[.int .i64 ((rd_T49 l0 x10_1).f0), .int .i64 ((rd_T49 l0 x10_1).f1)] 49 (0, 0)) (PF0 BK213.1) hb) (bS HB.1 hb) ?_; clear BK213 HB; intro BK213 HB; (try clear hb)))
   go_ret
   exact ⟨RF, BL HB.1⟩
 obtain rfl := Option.some.inj H
 go_wp2
 go_ret
 exact ⟨RF, BL HB.1⟩
/-! ### impl_IsBoard: function 17 -/
open Kd
def impl_IsBoard.f (k : Nat) (a0_0 : Int) (a0_1 : Int) (l0_2 : List (S49)) : Option (Bool) := if a0_0 ≥ 1 then (if a0_0 <= 10 then (if a0_1 ≥ 1 then (if a0_1 <= 9 then (if (l0_2.length : Int) = (wrap64 (a0_0 * a0_1)) then ((impl_validCells.f k l0_2).bind fun t216 => (some t216)) else (some false)) else (some false)) else (some false)) else (some false)) else (some false)
theorem impl_IsBoard.mono : ∀ a0 a1 a2 k, LeO (impl_IsBoard.f k a0 a1 a2) (impl_IsBoard.f (k + 1) a0 a1 a2) := by
 intro a0 a1 a2 k
 unfold impl_IsBoard.f
 repeat' first
  | (with_reducible exact impl_validCells.mono _ _)
  | (with_reducible exact LeO.refl _)
  | (with_reducible exact LeO.none _)
  | (with_reducible refine LeO.ite ?_ ?_)
  | (with_reducible refine LeO.bind ?_ (fun _ => ?_))
  | exact impl_validCells.mono _ _
  | exact LeO.none _
  | refine LeO.ite ?_ ?_
  | refine LeO.bind ?_ (fun _ => ?_)
theorem impl_IsBoard.calls (k : Nat) (a0_0 : Int) (a0_1 : Int) (A0_2 : Option Addr) (c0_2 : Nat) (l0_2 : List (S49)) (r : Bool) (w : World) (hr0_2 : Kd.C k49 w A0_2 l0_2.length l0_2) (hc0_2 : l0_2.length <= c0_2) (h : impl_IsBoard.f k a0_0 a0_1 l0_2 = some r) :
 Calls Try.prog 17 #[.agg #[.int .i64 a0_0, .int .i64 a0_1, .slice A0_2 l0_2.length c0_2]] w fun e w' => e = .returned (.bool r) /\ Below w.heap.size w w' := by
 have hu31 := Try.underlying31
 have HR0_2 := Aside0.mk hr0_2
 have HC0_2 := Aside0.mk hc0_2
 clear hr0_2 hc0_2
 have HB := Aside0.mk (Below.refl w.heap.size w)
 have H := h
 clear h
 unfold impl_IsBoard.f at H
 replace H := ifQ H; rcases H with ⟨c2, H⟩ | ⟨c2, H⟩
 · have c2b0 : decide (1 <= a0_0) = true := decide_eq_true c2
   clear c2
   replace H := ifB H; rcases H with ⟨c3b0, H⟩ | ⟨c3b0, H⟩
   · replace H := ifQ H; rcases H with ⟨c4, H⟩ | ⟨c4, H⟩
     · have c4b0 : decide (1 <= a0_1) = true := decide_eq_true c4
       clear c4
       replace H := ifB H; rcases H with ⟨c5b0, H⟩ | ⟨c5b0, H⟩
       · replace H := ifQ H; rcases H with ⟨c6, H⟩ | ⟨c6, H⟩
         · have c6b0 := beq_iff_eq.mpr c6
           have c6b1 := bne_eq_false_iff_eq.mpr c6
           clear c6
           replace H := bindA H; obtain ⟨t216, A7, H⟩ := H
           obtain rfl := Option.some.inj H
           go_enter Try.func17, Try.ntmps17
           go_wp2_with (first | ((with_reducible refine gate_dst (N := 1) rfl ?_); (try (refine gate_guard (by rfl) ?_; dsimp only)); refine boxE (cs := #[.int .i64 a0_0, .int .i64 a0_1, .slice A0_2 l0_2.length c0_2]) (t := 31) ?_; intro gb215 hg w8 hbox hb; refine E4b HB.1 hg hbox hb ?_; clear HB; intro HB BK215 GW215 GE215; clear hb hbox hg; obtain ⟨hcz9_0, hcz9_1, hcz9_2, hfz9_0, hfz9_1, hfz9_2⟩ := cz3 BK215.1) | (go_at_call 28; (with_reducible refine (impl_validCells.calls k _ _ l0_2 t216 _ ?side1 ?side2 A7.1).mono ?_); (case side1 => exact CB (C_below HR0_2.1 HB.1)); (case side2 => exact HC0_2.1); rintro e w10 ⟨rfl, hb⟩; refine E2 (bB BK215.1 hb) (bS HB.1 hb) ?_; clear BK215 HB; intro BK215 HB; (try clear hb)))
           go_ret
           exact ⟨RF, BL HB.1⟩
         have c6b0 := beq_eq_false_iff_ne.mpr c6
         have c6b1 := bne_iff_ne.mpr c6
         obtain rfl := Option.some.inj H
         go_enter Try.func17, Try.ntmps17
         go_wp2_with (first | ((with_reducible refine gate_dst (N := 1) rfl ?_); (try (refine gate_guard (by rfl) ?_; dsimp only)); refine boxE (cs := #[.int .i64 a0_0, .int .i64 a0_1, .slice A0_2 l0_2.length c0_2]) (t := 31) ?_; intro gb215 hg w11 hbox hb; refine E4b HB.1 hg hbox hb ?_; clear HB; intro HB BK215 GW215 GE215; clear hb hbox hg; obtain ⟨hcz12_0, hcz12_1, hcz12_2, hfz12_0, hfz12_1, hfz12_2⟩ := cz3 BK215.1))
         go_ret
         exact ⟨RF, BL HB.1⟩
       obtain rfl := Option.some.inj H
       go_enter Try.func17, Try.ntmps17
       go_wp2_with (first | ((with_reducible refine gate_dst (N := 1) rfl ?_); (try (refine gate_guard (by rfl) ?_; dsimp only)); refine boxE (cs := #[.int .i64 a0_0, .int .i64 a0_1, .slice A0_2 l0_2.length c0_2]) (t := 31) ?_; intro gb215 hg w13 hbox hb; refine E4b HB.1 hg hbox hb ?_; clear HB; intro HB BK215 GW215 GE215; clear hb hbox hg; obtain ⟨hcz14_0, hcz14_1, hcz14_2, hfz14_0, hfz14_1, hfz14_2⟩ := cz3 BK215.1))
       go_ret
       exact ⟨RF, BL HB.1⟩
     have c4b0 : decide (1 <= a0_1) = false := decide_eq_false c4
     clear c4
     obtain rfl := Option.some.inj H
     go_enter Try.func17, Try.ntmps17
     go_wp2_with (first | ((with_reducible refine gate_dst (N := 1) rfl ?_); (try (refine gate_guard (by rfl) ?_; dsimp only)); refine boxE (cs := #[.int .i64 a0_0, .int .i64 a0_1, .slice A0_2 l0_2.length c0_2]) (t := 31) ?_; intro gb215 hg w15 hbox hb; refine E4b HB.1 hg hbox hb ?_; clear HB; intro HB BK215 GW215 GE215; clear hb hbox hg; obtain ⟨hcz16_0, hcz16_1, hcz16_2, hfz16_0, hfz16_1, hfz16_2⟩ := cz3 BK215.1))
     go_ret
     exact ⟨RF, BL HB.1⟩
   obtain rfl := Option.some.inj H
   go_enter Try.func17, Try.ntmps17
   go_wp2_with (first | ((with_reducible refine gate_dst (N := 1) rfl ?_); (try (refine gate_guard (by rfl) ?_; dsimp only)); refine boxE (cs := #[.int .i64 a0_0, .int .i64 a0_1, .slice A0_2 l0_2.length c0_2]) (t := 31) ?_; intro gb215 hg w17 hbox hb; refine E4b HB.1 hg hbox hb ?_; clear HB; intro HB BK215 GW215 GE215; clear hb hbox hg; obtain ⟨hcz18_0, hcz18_1, hcz18_2, hfz18_0, hfz18_1, hfz18_2⟩ := cz3 BK215.1))
   go_ret
   exact ⟨RF, BL HB.1⟩
 have c2b0 : decide (1 <= a0_0) = false := decide_eq_false c2
 clear c2
 obtain rfl := Option.some.inj H
 go_enter Try.func17, Try.ntmps17
 go_wp2_with (first | ((with_reducible refine gate_dst (N := 1) rfl ?_); (try (refine gate_guard (by rfl) ?_; dsimp only)); refine boxE (cs := #[.int .i64 a0_0, .int .i64 a0_1, .slice A0_2 l0_2.length c0_2]) (t := 31) ?_; intro gb215 hg w19 hbox hb; refine E4b HB.1 hg hbox hb ?_; clear HB; intro HB BK215 GW215 GE215; clear hb hbox hg; obtain ⟨hcz20_0, hcz20_1, hcz20_2, hfz20_0, hfz20_1, hfz20_2⟩ := cz3 BK215.1))
 go_ret
 exact ⟨RF, BL HB.1⟩
/-! ### impl_isGeared: function 35 -/
open Kd
def impl_isGeared.f (a0_0 : Int) (a0_1 : Int) : Option (Bool) := if a0_0 = 6 then (some true) else (some (a0_0 == 7))
theorem impl_isGeared.calls (a0_0 : Int) (a0_1 : Int) (r : Bool) (w : World) (h : impl_isGeared.f a0_0 a0_1 = some r) :
 Calls Try.prog 35 #[.agg #[.int .i64 a0_0, .int .i64 a0_1]] w fun e w' => e = .returned (.bool r) /\ Below w.heap.size w w' := by
 have hu49 := Try.underlying49
 have HB := Aside0.mk (Below.refl w.heap.size w)
 have H := h
 clear h
 unfold impl_isGeared.f at H
 replace H := ifQ H; rcases H with ⟨c2, H⟩ | ⟨c2, H⟩
 · have c2b0 := beq_iff_eq.mpr c2
   have c2b1 := bne_eq_false_iff_eq.mpr c2
   clear c2
   obtain rfl := Option.some.inj H
   go_enter Try.func35, Try.ntmps35
   go_wp2_with (first | ((with_reducible refine gate_dst (N := 1) rfl ?_); refine boxE (cs := #[.int .i64 a0_0, .int .i64 a0_1]) (t := 49) ?_; intro gb217 hg w3 hbox hb; refine E4b HB.1 hg hbox hb ?_; clear HB; intro HB BK217 GW217 GE217; clear hb hbox hg; obtain ⟨hcz4_0, hcz4_1, hfz4_0, hfz4_1⟩ := cz2 BK217.1))
   go_ret
   exact ⟨RF, BL HB.1⟩
 have c2b0 := beq_eq_false_iff_ne.mpr c2
 have c2b1 := bne_iff_ne.mpr c2
 obtain rfl := Option.some.inj H
 go_enter Try.func35, Try.ntmps35
 go_wp2_with (first | ((with_reducible refine gate_dst (N := 1) rfl ?_); refine boxE (cs := #[.int .i64 a0_0, .int .i64 a0_1]) (t := 49) ?_; intro gb217 hg w5 hbox hb; refine E4b HB.1 hg hbox hb ?_; clear HB; intro HB BK217 GW217 GE217; clear hb hbox hg; obtain ⟨hcz6_0, hcz6_1, hfz6_0, hfz6_1⟩ := cz2 BK217.1))
 go_ret
 exact ⟨RF, BL HB.1⟩
/-! ### impl_besideOf: function 36 -/
open Kd
mutual
def impl_besideOf.j0 : Nat -> Int -> List Int -> Int -> Int -> Int -> Int -> List (S49) -> Option (List Int)
 | 0, _, _, _, _, _, _, _ => none
 | k + 1, x1, x5, x6, x7, x219000, x219001, x219002 => if x7 > 0 then (if x5.length < 17592186044416 then (impl_besideOf.j1 k x1 (x5 ++ [wrap64 (x1 - 1)]) x6 x7 x219000 x219001 x219002) else (none)) else (impl_besideOf.j1 k x1 x5 x6 x7 x219000 x219001 x219002)
def impl_besideOf.j1 : Nat -> Int -> List Int -> Int -> Int -> Int -> Int -> List (S49) -> Option (List Int)
 | 0, _, _, _, _, _, _, _ => none
 | k + 1, x1, x5, x6, x7, x219000, x219001, x219002 => if (wrap64 (x7 + 1)) < x219001 then (if x5.length < 17592186044416 then ((some (x5 ++ [wrap64 (x1 + 1)] : List Int)).bind fun y228 => (if (wrap64 (x6 + 1)) < x219000 then (if y228.length < 17592186044416 then (some (y228 ++ [wrap64 (x1 + x219001)])) else (none)) else (some y228))) else (none)) else (if (wrap64 (x6 + 1)) < x219000 then (if x5.length < 17592186044416 then (some (x5 ++ [wrap64 (x1 + x219001)])) else (none)) else (some x5))
end
def impl_besideOf.f (k : Nat) (a0_0 : Int) (a0_1 : Int) (l0_2 : List (S49)) (a1 : Int) : Option (List Int) := (some (([] : List Int) : List Int)).bind fun y219 => (if a0_1 = 0 then (none) else (if (wrap64 (Int.tdiv a1 a0_1)) > 0 then (if y219.length < 17592186044416 then (impl_besideOf.j0 k a1 (y219 ++ [wrap64 (a1 - a0_1)]) (wrap64 (Int.tdiv a1 a0_1)) (Int.tmod a1 a0_1) a0_0 a0_1 l0_2) else (none)) else (impl_besideOf.j0 k a1 y219 (wrap64 (Int.tdiv a1 a0_1)) (Int.tmod a1 a0_1) a0_0 a0_1 l0_2)))
theorem impl_besideOf.mono_l : ∀ k, (∀ y0 y1 y2 y3 y4 y5 y6, LeO (impl_besideOf.j0 k y0 y1 y2 y3 y4 y5 y6) (impl_besideOf.j0 (k + 1) y0 y1 y2 y3 y4 y5 y6)) /\ (∀ y0 y1 y2 y3 y4 y5 y6, LeO (impl_besideOf.j1 k y0 y1 y2 y3 y4 y5 y6) (impl_besideOf.j1 (k + 1) y0 y1 y2 y3 y4 y5 y6))
 | 0 => by refine ⟨?_, ?_⟩ <;> (intros; intro r h; first | (simp [impl_besideOf.j0] at h; done) | (simp [impl_besideOf.j1] at h; done))
 | k + 1 => by
  obtain ⟨ih0, ih1⟩ := impl_besideOf.mono_l k
  refine ⟨?_, ?_⟩ <;> (
   intros
   first | unfold impl_besideOf.j0 | unfold impl_besideOf.j1
   exact LM2 ih0 ih1)
theorem impl_besideOf.mono : ∀ a0 a1 a2 a3 k, LeO (impl_besideOf.f k a0 a1 a2 a3) (impl_besideOf.f (k + 1) a0 a1 a2 a3) := by
 intro a0 a1 a2 a3 k
 obtain ⟨ih0, ih1⟩ := impl_besideOf.mono_l k
 unfold impl_besideOf.f
 exact LM2 ih0 ih1
theorem impl_besideOf.calls (k : Nat) (a0_0 : Int) (a0_1 : Int) (A0_2 : Option Addr) (c0_2 : Nat) (l0_2 : List (S49)) (a1 : Int) (r : List Int) (w : World) (hr0_2 : Kd.C k49 w A0_2 l0_2.length l0_2) (hc0_2 : l0_2.length <= c0_2) (h : impl_besideOf.f k a0_0 a0_1 l0_2 a1 = some r) :
 Calls Try.prog 36 #[.agg #[.int .i64 a0_0, .int .i64 a0_1, .slice A0_2 l0_2.length c0_2], .int .i64 a1] w fun e w' => ∃ v0_ : Value, e = .returned (v0_) /\ Kd.R (Kd.int .i64) 3 w' w.heap.size (fun _ => True) v0_ r /\ Below w.heap.size w w' := by
 have hu31 := Try.underlying31
 have HR0_2 := Aside0.mk hr0_2
 have HC0_2 := Aside0.mk hc0_2
 clear hr0_2 hc0_2
 have HB := Aside0.mk (Below.refl w.heap.size w)
 have H := h
 clear h
 unfold impl_besideOf.f at H
 replace H := nameB H; obtain ⟨y219, Ny219, H⟩ := H
 replace H := ifQ H; rcases H with ⟨c3, H⟩ | ⟨c3, H⟩
 · exact absurd H (by simp)
 have c3b0 := beq_eq_false_iff_ne.mpr c3
 have c3b1 := bne_iff_ne.mpr c3
 have HC4 := Aside0.mk H
 clear H
 go_enter Try.func36, Try.ntmps36
 go_upto_if 18 with (first | ((with_reducible refine gate_dst (N := 2) rfl ?_); refine boxE (cs := #[.int .i64 a0_0, .int .i64 a0_1, .slice A0_2 l0_2.length c0_2]) (t := 31) ?_; intro gb218 hg w5 hbox hb; refine E4b HB.1 hg hbox hb ?_; clear HB; intro HB BK218 GW218 GE218; clear hb hbox hg) | ((with_reducible refine gate_dst (N := 8) rfl ?_); refine R_lit (Kd.int .i64) _ 3 ?hg (N := 8) ?hd (xs := ([] : List Int)) (inner := []) (ok := fun _ => True) (okp := fun _ => True) ?hr ?hp (fun _ hk => hk) trivial (Below.refl _ _) (Nat.le_refl _) (by simp) ?_; (case hd => rfl); (case hg => rfl); (case hr => first | (go_simp; done) | (go_simp; rfl)); (case hp => exact (Reps.none _ _)); intro v220 w6 ho7 hb hg_ hnew_; clear hg_ hnew_; (first | rw [<- Ny219.1] at ho7 | (simp only [Int.reduceToNat] at ho7; rw [<- Ny219.1] at ho7)); refine E3 (R_lower ho7 (bZ HB.1)) (bB BK218.1 hb) (bS HB.1 hb) ?_; clear BK218 HB; intro HO221 BK218 HB; clear hb ho7; obtain ⟨hcz8_0, hcz8_1, hcz8_2, hfz8_0, hfz8_1, hfz8_2⟩ := cz3 BK218.1))
 repeat (go_quiet (first | ((with_reducible refine gate_dst (N := 2) rfl ?_); refine boxE (cs := #[.int .i64 a0_0, .int .i64 a0_1, .slice A0_2 l0_2.length c0_2]) (t := 31) ?_; intro gb218 hg w5 hbox hb; refine E4b HB.1 hg hbox hb ?_; clear HB; intro HB BK218 GW218 GE218; clear hb hbox hg) | ((with_reducible refine gate_dst (N := 8) rfl ?_); refine R_lit (Kd.int .i64) _ 3 ?hg (N := 8) ?hd (xs := ([] : List Int)) (inner := []) (ok := fun _ => True) (okp := fun _ => True) ?hr ?hp (fun _ hk => hk) trivial (Below.refl _ _) (Nat.le_refl _) (by simp) ?_; (case hd => rfl); (case hg => rfl); (case hr => first | (go_simp; done) | (go_simp; rfl)); (case hp => exact (Reps.none _ _)); intro v220 w6 ho7 hb hg_ hnew_; clear hg_ hnew_; (first | rw [<- Ny219.1] at ho7 | (simp only [Int.reduceToNat] at ho7; rw [<- Ny219.1] at ho7)); refine E3 (R_lower ho7 (bZ HB.1)) (bB BK218.1 hb) (bS HB.1 hb) ?_; clear BK218 HB; intro HO221 BK218 HB; clear hb ho7; obtain ⟨hcz8_0, hcz8_1, hcz8_2, hfz8_0, hfz8_1, hfz8_2⟩ := cz3 BK218.1)); go_upto_if 18 with (first | ((with_reducible refine gate_dst (N := 2) rfl ?_); refine boxE (cs := #[.int .i64 a0_0, .int .i64 a0_1, .slice A0_2 l0_2.length c0_2]) (t := 31) ?_; intro gb218 hg w5 hbox hb; refine E4b HB.1 hg hbox hb ?_; clear HB; intro HB BK218 GW218 GE218; clear hb hbox hg) | ((with_reducible refine gate_dst (N := 8) rfl ?_); refine R_lit (Kd.int .i64) _ 3 ?hg (N := 8) ?hd (xs := ([] : List Int)) (inner := []) (ok := fun _ => True) (okp := fun _ => True) ?hr ?hp (fun _ hk => hk) trivial (Below.refl _ _) (Nat.le_refl _) (by simp) ?_; (case hd => rfl); (case hg => rfl); (case hr => first | (go_simp; done) | (go_simp; rfl)); (case hp => exact (Reps.none _ _)); intro v220 w6 ho7 hb hg_ hnew_; clear hg_ hnew_; (first | rw [<- Ny219.1] at ho7 | (simp only [Int.reduceToNat] at ho7; rw [<- Ny219.1] at ho7)); refine E3 (R_lower ho7 (bZ HB.1)) (bB BK218.1 hb) (bS HB.1 hb) ?_; clear BK218 HB; intro HO221 BK218 HB; clear hb ho7; obtain ⟨hcz8_0, hcz8_1, hcz8_2, hfz8_0, hfz8_1, hfz8_2⟩ := cz3 BK218.1)))
 (try simp only [Act.put, List.setIfInBounds_toArray, List.set_cons_zero, List.set_cons_succ])
 go_cut [5] (fun v5 wc => ∃ (kq : Nat) (x5_3 : List Int), Aside0 (impl_besideOf.j0 kq a1 x5_3 (wrap64 (Int.tdiv a1 a0_1)) (Int.tmod a1 a0_1) a0_0 a0_1 l0_2 = some r) /\ Aside0 (kq <= k) /\ Aside0 (Kd.R (Kd.int .i64) 3 wc w.heap.size (fun _ => True) v5 x5_3) /\ Aside0 (wc.heap[gb218]? = some (.cells #[.int .i64 a0_0, .int .i64 a0_1, (.slice A0_2 l0_2.length c0_2)] 31 (0, 0))) /\ Aside0 (Below w.heap.size w wc))
 case first =>
  have H := HC4.1
  clear HC4
  replace H := ifQ H; rcases H with ⟨c9, H⟩ | ⟨c9, H⟩
  · have c9b0 : decide (0 < (wrap64 (Int.tdiv a1 a0_1))) = true := decide_eq_true c9
    clear c9
    (first | rw [c9b0] | (simp only [i64_w, i32_w]; rw [c9b0]) | skip)
    replace H := ifP H; obtain ⟨c10, H⟩ := H
    have LMc10 := Aside0.mk c10
    clear c10
    generalize hy222 : ((y219 ++ [wrap64 (a1 - a0_1)]) : List Int) = y222 at H
    have Ny222 := Aside0.mk hy222.symm; clear hy222
    have H' := Aside0.mk H
    clear H
    obtain ⟨hcz11_0, hcz11_1, hcz11_2, hfz11_0, hfz11_1, hfz11_2⟩ := cz3 BK218.1
    go_wp2_with (first | ((with_reducible refine gate_builtin (b := .append) (xs := #[.tmp 19, .tmp 24]) rfl ?_); at_builtin; refine R_append (Kd.int .i64) (w0 := w) w.heap.size rfl (.tmp 19) (.tmp 24) 43 3 (.int .i64 0) 8 rfl Try.underlying43 info3 rfl (by decide) (by omega) v220 y219 (wrap64 (a1 - a0_1)) [.int .i64 (wrap64 (a1 - a0_1))] (fun _ => True) (fun _ => False) rfl rfl ?aP (fun _ hk => hk.elim) ?aF ?aO ?aB ?aS ?aL ?_; (case aP => exact rfl); (case aB => exact (BL HB.1)); (case aF => exact (fun _ _ => trivial)); (case aO => exact (PR HO221.1)); (case aS => exact (bZ HB.1)); (case aL => have := LMc10.1; omega); intro v223 w12 ho hb hg hat; rw [<- Ny222.1] at ho; refine E3 (bG BK218.1 hg (R_ne HO221.1 BK218.1 (by decide))) (hb) (ho) ?_; clear BK218 HB HO221; intro BK218 HB HO224; clear ho hb hg hat))
    repeat (go_quiet (first | ((with_reducible refine gate_builtin (b := .append) (xs := #[.tmp 19, .tmp 24]) rfl ?_); at_builtin; refine R_append (Kd.int .i64) (w0 := w) w.heap.size rfl (.tmp 19) (.tmp 24) 43 3 (.int .i64 0) 8 rfl Try.underlying43 info3 rfl (by decide) (by omega) v220 y219 (wrap64 (a1 - a0_1)) [.int .i64 (wrap64 (a1 - a0_1))] (fun _ => True) (fun _ => False) rfl rfl ?aP (fun _ hk => hk.elim) ?aF ?aO ?aB ?aS ?aL ?_; (case aP => exact rfl); (case aB => exact (BL HB.1)); (case aF => exact (fun _ _ => trivial)); (case aO => exact (PR HO221.1)); (case aS => exact (bZ HB.1)); (case aL => have := LMc10.1; omega); intro v223 w12 ho hb hg hat; rw [<- Ny222.1] at ho; refine E3 (bG BK218.1 hg (R_ne HO221.1 BK218.1 (by decide))) (hb) (ho) ?_; clear BK218 HB HO221; intro BK218 HB HO224; clear ho hb hg hat)); try go_wp2_with (first | ((with_reducible refine gate_builtin (b := .append) (xs := #[.tmp 19, .tmp 24]) rfl ?_); at_builtin; refine R_append (Kd.int .i64) (w0 := w) w.heap.size rfl (.tmp 19) (.tmp 24) 43 3 (.int .i64 0) 8 rfl Try.underlying43 info3 rfl (by decide) (by omega) v220 y219 (wrap64 (a1 - a0_1)) [.int .i64 (wrap64 (a1 - a0_1))] (fun _ => True) (fun _ => False) rfl rfl ?aP (fun _ hk => hk.elim) ?aF ?aO ?aB ?aS ?aL ?_; (case aP => exact rfl); (case aB => exact (BL HB.1)); (case aF => exact (fun _ _ => trivial)); (case aO => exact (PR HO221.1)); (case aS => exact (bZ HB.1)); (case aL => have := LMc10.1; omega); intro v223 w12 ho hb hg hat; rw [<- Ny222.1] at ho; refine E3 (bG BK218.1 hg (R_ne HO221.1 BK218.1 (by decide))) (hb) (ho) ?_; clear BK218 HB HO221; intro BK218 HB HO224; clear ho hb hg hat)))
    go_meet
    case rel => exact ⟨_, (y222), H', ⟨by first | omega | exact Nat.le_refl _⟩, ⟨PR HO224.1⟩, ⟨PB BK218.1⟩, ⟨BL HB.1⟩⟩
  have c9b0 : decide (0 < (wrap64 (Int.tdiv a1 a0_1))) = false := decide_eq_false c9
  clear c9
  (first | rw [c9b0] | (simp only [i64_w, i32_w]; rw [c9b0]) | skip)
  have H' := Aside0.mk H
  clear H
  go_wp2
  repeat (go_quiet (fail); try go_wp2)
  go_meet
  case rel => exact ⟨_, (y219), H', ⟨by first | omega | exact Nat.le_refl _⟩, ⟨PR HO221.1⟩, ⟨PB BK218.1⟩, ⟨BL HB.1⟩⟩
 clear HC4
 try clear c3; clear c3b0 c3b1 hcz8_0 hcz8_1 hcz8_2 hfz8_0 hfz8_1 hfz8_2
 obtain ⟨kq, x5_3, HA, HJ3, HO_5, BK218, HB⟩ := hcut
 cases kq with
 | zero => exact absurd HA.1 (by simp [impl_besideOf.j0])
 | succ kj3 => ?_
 have H := HA.1
 clear HA
 simp only [impl_besideOf.j0] at H
 have HC13 := Aside0.mk H
 clear H
 go_upto_if 27 with (fail)
 repeat (go_quiet (fail); go_upto_if 27 with (fail))
 go_cut [5] (fun v5 wc => ∃ (kq : Nat) (x5_12 : List Int), Aside0 (impl_besideOf.j1 kq a1 x5_12 (wrap64 (Int.tdiv a1 a0_1)) (Int.tmod a1 a0_1) a0_0 a0_1 l0_2 = some r) /\ Aside0 (kq <= kj3) /\ Aside0 (Kd.R (Kd.int .i64) 3 wc w.heap.size (fun _ => True) v5 x5_12) /\ Aside0 (wc.heap[gb218]? = some (.cells #[.int .i64 a0_0, .int .i64 a0_1, (.slice A0_2 l0_2.length c0_2)] 31 (0, 0))) /\ Aside0 (Below w.heap.size w wc))
 case first =>
  have H := HC13.1
  clear HC13
  replace H := ifQ H; rcases H with ⟨c14, H⟩ | ⟨c14, H⟩
  · have c14b0 : decide (0 < (Int.tmod a1 a0_1)) = true := decide_eq_true c14
    clear c14
    (first | rw [c14b0] | (simp only [i64_w, i32_w]; rw [c14b0]) | skip)
    replace H := ifP H; obtain ⟨c15, H⟩ := H
    have LMc15 := Aside0.mk c15
    clear c15
    generalize hy225 : ((x5_3 ++ [wrap64 (a1 - 1)]) : List Int) = y225 at H
    have Ny225 := Aside0.mk hy225.symm; clear hy225
    have H' := Aside0.mk H
    clear H
    go_wp2_with (first | ((with_reducible refine gate_builtin (b := .append) (xs := #[.tmp 28, .tmp 31]) rfl ?_); at_builtin; refine R_append (Kd.int .i64) (w0 := w) w.heap.size rfl (.tmp 28) (.tmp 31) 43 3 (.int .i64 0) 8 rfl Try.underlying43 info3 rfl (by decide) (by omega) u5 x5_3 (wrap64 (a1 - 1)) [.int .i64 (wrap64 (a1 - 1))] (fun _ => True) (fun _ => False) rfl rfl ?aP (fun _ hk => hk.elim) ?aF ?aO ?aB ?aS ?aL ?_; (case aP => exact rfl); (case aB => exact (BL HB.1)); (case aF => exact (fun _ _ => trivial)); (case aO => exact (PR HO_5.1)); (case aS => exact (bZ HB.1)); (case aL => have := LMc15.1; omega); intro v226 w16 ho hb hg hat; rw [<- Ny225.1] at ho; refine E3 (bG BK218.1 hg (R_ne HO_5.1 BK218.1 (by decide))) (hb) (ho) ?_; clear BK218 HB HO_5; intro BK218 HB HO227; clear ho hb hg hat))
    repeat (go_quiet (first | ((with_reducible refine gate_builtin (b := .append) (xs := #[.tmp 28, .tmp 31]) rfl ?_); at_builtin; refine R_append (Kd.int .i64) (w0 := w) w.heap.size rfl (.tmp 28) (.tmp 31) 43 3 (.int .i64 0) 8 rfl Try.underlying43 info3 rfl (by decide) (by omega) u5 x5_3 (wrap64 (a1 - 1)) [.int .i64 (wrap64 (a1 - 1))] (fun _ => True) (fun _ => False) rfl rfl ?aP (fun _ hk => hk.elim) ?aF ?aO ?aB ?aS ?aL ?_; (case aP => exact rfl); (case aB => exact (BL HB.1)); (case aF => exact (fun _ _ => trivial)); (case aO => exact (PR HO_5.1)); (case aS => exact (bZ HB.1)); (case aL => have := LMc15.1; omega); intro v226 w16 ho hb hg hat; rw [<- Ny225.1] at ho; refine E3 (bG BK218.1 hg (R_ne HO_5.1 BK218.1 (by decide))) (hb) (ho) ?_; clear BK218 HB HO_5; intro BK218 HB HO227; clear ho hb hg hat)); try go_wp2_with (first | ((with_reducible refine gate_builtin (b := .append) (xs := #[.tmp 28, .tmp 31]) rfl ?_); at_builtin; refine R_append (Kd.int .i64) (w0 := w) w.heap.size rfl (.tmp 28) (.tmp 31) 43 3 (.int .i64 0) 8 rfl Try.underlying43 info3 rfl (by decide) (by omega) u5 x5_3 (wrap64 (a1 - 1)) [.int .i64 (wrap64 (a1 - 1))] (fun _ => True) (fun _ => False) rfl rfl ?aP (fun _ hk => hk.elim) ?aF ?aO ?aB ?aS ?aL ?_; (case aP => exact rfl); (case aB => exact (BL HB.1)); (case aF => exact (fun _ _ => trivial)); (case aO => exact (PR HO_5.1)); (case aS => exact (bZ HB.1)); (case aL => have := LMc15.1; omega); intro v226 w16 ho hb hg hat; rw [<- Ny225.1] at ho; refine E3 (bG BK218.1 hg (R_ne HO_5.1 BK218.1 (by decide))) (hb) (ho) ?_; clear BK218 HB HO_5; intro BK218 HB HO227; clear ho hb hg hat)))
    go_meet
    case rel => exact ⟨_, (y225), H', ⟨by have := HJ3.1; first | omega | exact Nat.le_refl _⟩, ⟨PR HO227.1⟩, ⟨PB BK218.1⟩, ⟨BL HB.1⟩⟩
  have c14b0 : decide (0 < (Int.tmod a1 a0_1)) = false := decide_eq_false c14
  clear c14
  (first | rw [c14b0] | (simp only [i64_w, i32_w]; rw [c14b0]) | skip)
  have H' := Aside0.mk H
  clear H
  go_wp2
  repeat (go_quiet (fail); try go_wp2)
  go_meet
  case rel => exact ⟨_, (x5_3), H', ⟨by have := HJ3.1; first | omega | exact Nat.le_refl _⟩, ⟨PR HO_5.1⟩, ⟨PB BK218.1⟩, ⟨BL HB.1⟩⟩
 clear HC13
 obtain ⟨kq, x5_12, HA, HJ12, HO_5, BK218, HB⟩ := hcut
 cases kq with
 | zero => exact absurd HA.1 (by simp [impl_besideOf.j1])
 | succ kj12 => ?_
 have H := HA.1
 clear HA
 simp only [impl_besideOf.j1] at H
 replace H := ifB H; rcases H with ⟨c17b0, H⟩ | ⟨c17b0, H⟩
 · replace H := ifP H; obtain ⟨c18, H⟩ := H
   have LMc18 := Aside0.mk c18
   clear c18
   replace H := nameB H; obtain ⟨y228, Ny228, H⟩ := H
   replace H := ifB H; rcases H with ⟨c19b0, H⟩ | ⟨c19b0, H⟩
   · replace H := ifP H; obtain ⟨c20, H⟩ := H
     have LMc20 := Aside0.mk c20
     clear c20
     generalize hy231 : ((y228 ++ [wrap64 (a1 + a0_1)]) : List Int) = y231 at H
     have Ny231 := Aside0.mk hy231.symm; clear hy231
     obtain rfl := Option.some.inj H
     obtain ⟨hcz21_0, hcz21_1, hcz21_2, hfz21_0, hfz21_1, hfz21_2⟩ := cz3 BK218.1
     go_wp2_with (first | ((with_reducible refine gate_builtin (b := .append) (xs := #[.tmp 38, .tmp 41]) rfl ?_); at_builtin; refine R_append (Kd.int .i64) (w0 := w) w.heap.size rfl (.tmp 38) (.tmp 41) 43 3 (.int .i64 0) 8 rfl Try.underlying43 info3 rfl (by decide) (by omega) u5 x5_12 (wrap64 (a1 + 1)) [.int .i64 (wrap64 (a1 + 1))] (fun _ => True) (fun _ => False) rfl rfl ?aP (fun _ hk => hk.elim) ?aF ?aO ?aB ?aS ?aL ?_; (case aP => exact rfl); (case aB => exact (BL HB.1)); (case aF => exact (fun _ _ => trivial)); (case aO => exact (PR HO_5.1)); (case aS => exact (bZ HB.1)); (case aL => have := LMc18.1; omega); intro v229 w22 ho hb hg hat; rw [<- Ny228.1] at ho; refine E3 (bG BK218.1 hg (R_ne HO_5.1 BK218.1 (by decide))) (hb) (ho) ?_; clear BK218 HB HO_5; intro BK218 HB HO230; clear ho hb hg hat; obtain ⟨hcz23_0, hcz23_1, hcz23_2, hfz23_0, hfz23_1, hfz23_2⟩ := cz3 BK218.1) | ((with_reducible refine gate_builtin (b := .append) (xs := #[.tmp 48, .tmp 53]) rfl ?_); at_builtin; refine R_append (Kd.int .i64) (w0 := w) w.heap.size rfl (.tmp 48) (.tmp 53) 43 3 (.int .i64 0) 8 rfl Try.underlying43 info3 rfl (by decide) (by omega) v229 y228 (wrap64 (a1 + a0_1)) [.int .i64 (wrap64 (a1 + a0_1))] (fun _ => True) (fun _ => False) rfl rfl ?aP (fun _ hk => hk.elim) ?aF ?aO ?aB ?aS ?aL ?_; (case aP => exact rfl); (case aB => exact (BL HB.1)); (case aF => exact (fun _ _ => trivial)); (case aO => exact (PR HO230.1)); (case aS => exact (bZ HB.1)); (case aL => have := LMc20.1; omega); intro v232 w24 ho hb hg hat; rw [<- Ny231.1] at ho; refine E3 (bG BK218.1 hg (R_ne HO230.1 BK218.1 (by decide))) (hb) (ho) ?_; clear BK218 HB HO230; intro BK218 HB HO233; clear ho hb hg hat))
     repeat (go_quiet (first | ((with_reducible refine gate_builtin (b := .append) (xs := #[.tmp 38, .tmp 41]) rfl ?_); at_builtin; refine R_append (Kd.int .i64) (w0 := w) w.heap.size rfl (.tmp 38) (.tmp 41) 43 3 (.int .i64 0) 8 rfl Try.underlying43 info3 rfl (by decide) (by omega) u5 x5_12 (wrap64 (a1 + 1)) [.int .i64 (wrap64 (a1 + 1))] (fun _ => True) (fun _ => False) rfl rfl ?aP (fun _ hk => hk.elim) ?aF ?aO ?aB ?aS ?aL ?_; (case aP => exact rfl); (case aB => exact (BL HB.1)); (case aF => exact (fun _ _ => trivial)); (case aO => exact (PR HO_5.1)); (case aS => exact (bZ HB.1)); (case aL => have := LMc18.1; omega); intro v229 w22 ho hb hg hat; rw [<- Ny228.1] at ho; refine E3 (bG BK218.1 hg (R_ne HO_5.1 BK218.1 (by decide))) (hb) (ho) ?_; clear BK218 HB HO_5; intro BK218 HB HO230; clear ho hb hg hat; obtain ⟨hcz23_0, hcz23_1, hcz23_2, hfz23_0, hfz23_1, hfz23_2⟩ := cz3 BK218.1) | ((with_reducible refine gate_builtin (b := .append) (xs := #[.tmp 48, .tmp 53]) rfl ?_); at_builtin; refine R_append (Kd.int .i64) (w0 := w) w.heap.size rfl (.tmp 48) (.tmp 53) 43 3 (.int .i64 0) 8 rfl Try.underlying43 info3 rfl (by decide) (by omega) v229 y228 (wrap64 (a1 + a0_1)) [.int .i64 (wrap64 (a1 + a0_1))] (fun _ => True) (fun _ => False) rfl rfl ?aP (fun _ hk => hk.elim) ?aF ?aO ?aB ?aS ?aL ?_; (case aP => exact rfl); (case aB => exact (BL HB.1)); (case aF => exact (fun _ _ => trivial)); (case aO => exact (PR HO230.1)); (case aS => exact (bZ HB.1)); (case aL => have := LMc20.1; omega); intro v232 w24 ho hb hg hat; rw [<- Ny231.1] at ho; refine E3 (bG BK218.1 hg (R_ne HO230.1 BK218.1 (by decide))) (hb) (ho) ?_; clear BK218 HB HO230; intro BK218 HB HO233; clear ho hb hg hat)); try go_wp2_with (first | ((with_reducible refine gate_builtin (b := .append) (xs := #[.tmp 38, .tmp 41]) rfl ?_); at_builtin; refine R_append (Kd.int .i64) (w0 := w) w.heap.size rfl (.tmp 38) (.tmp 41) 43 3 (.int .i64 0) 8 rfl Try.underlying43 info3 rfl (by decide) (by omega) u5 x5_12 (wrap64 (a1 + 1)) [.int .i64 (wrap64 (a1 + 1))] (fun _ => True) (fun _ => False) rfl rfl ?aP (fun _ hk => hk.elim) ?aF ?aO ?aB ?aS ?aL ?_; (case aP => exact rfl); (case aB => exact (BL HB.1)); (case aF => exact (fun _ _ => trivial)); (case aO => exact (PR HO_5.1)); (case aS => exact (bZ HB.1)); (case aL => have := LMc18.1; omega); intro v229 w22 ho hb hg hat; rw [<- Ny228.1] at ho; refine E3 (bG BK218.1 hg (R_ne HO_5.1 BK218.1 (by decide))) (hb) (ho) ?_; clear BK218 HB HO_5; intro BK218 HB HO230; clear ho hb hg hat; obtain ⟨hcz23_0, hcz23_1, hcz23_2, hfz23_0, hfz23_1, hfz23_2⟩ := cz3 BK218.1) | ((with_reducible refine gate_builtin (b := .append) (xs := #[.tmp 48, .tmp 53]) rfl ?_); at_builtin; refine R_append (Kd.int .i64) (w0 := w) w.heap.size rfl (.tmp 48) (.tmp 53) 43 3 (.int .i64 0) 8 rfl Try.underlying43 info3 rfl (by decide) (by omega) v229 y228 (wrap64 (a1 + a0_1)) [.int .i64 (wrap64 (a1 + a0_1))] (fun _ => True) (fun _ => False) rfl rfl ?aP (fun _ hk => hk.elim) ?aF ?aO ?aB ?aS ?aL ?_; (case aP => exact rfl); (case aB => exact (BL HB.1)); (case aF => exact (fun _ _ => trivial)); (case aO => exact (PR HO230.1)); (case aS => exact (bZ HB.1)); (case aL => have := LMc20.1; omega); intro v232 w24 ho hb hg hat; rw [<- Ny231.1] at ho; refine E3 (bG BK218.1 hg (R_ne HO230.1 BK218.1 (by decide))) (hb) (ho) ?_; clear BK218 HB HO230; intro BK218 HB HO233; clear ho hb hg hat)))
     go_ret
     exact ⟨_, RF, RPE (HO233.1), BL HB.1⟩
   obtain rfl := Option.some.inj H
   obtain ⟨hcz25_0, hcz25_1, hcz25_2, hfz25_0, hfz25_1, hfz25_2⟩ := cz3 BK218.1
   go_wp2_with (first | ((with_reducible refine gate_builtin (b := .append) (xs := #[.tmp 38, .tmp 41]) rfl ?_); at_builtin; refine R_append (Kd.int .i64) (w0 := w) w.heap.size rfl (.tmp 38) (.tmp 41) 43 3 (.int .i64 0) 8 rfl Try.underlying43 info3 rfl (by decide) (by omega) u5 x5_12 (wrap64 (a1 + 1)) [.int .i64 (wrap64 (a1 + 1))] (fun _ => True) (fun _ => False) rfl rfl ?aP (fun _ hk => hk.elim) ?aF ?aO ?aB ?aS ?aL ?_; (case aP => exact rfl); (case aB => exact (BL HB.1)); (case aF => exact (fun _ _ => trivial)); (case aO => exact (PR HO_5.1)); (case aS => exact (bZ HB.1)); (case aL => have := LMc18.1; omega); intro v229 w26 ho hb hg hat; rw [<- Ny228.1] at ho; refine E3 (bG BK218.1 hg (R_ne HO_5.1 BK218.1 (by decide))) (hb) (ho) ?_; clear BK218 HB HO_5; intro BK218 HB HO230; clear ho hb hg hat; obtain ⟨hcz27_0, hcz27_1, hcz27_2, hfz27_0, hfz27_1, hfz27_2⟩ := cz3 BK218.1))
   repeat (go_quiet (first | ((with_reducible refine gate_builtin (b := .append) (xs := #[.tmp 38, .tmp 41]) rfl ?_); at_builtin; refine R_append (Kd.int .i64) (w0 := w) w.heap.size rfl (.tmp 38) (.tmp 41) 43 3 (.int .i64 0) 8 rfl Try.underlying43 info3 rfl (by decide) (by omega) u5 x5_12 (wrap64 (a1 + 1)) [.int .i64 (wrap64 (a1 + 1))] (fun _ => True) (fun _ => False) rfl rfl ?aP (fun _ hk => hk.elim) ?aF ?aO ?aB ?aS ?aL ?_; (case aP => exact rfl); (case aB => exact (BL HB.1)); (case aF => exact (fun _ _ => trivial)); (case aO => exact (PR HO_5.1)); (case aS => exact (bZ HB.1)); (case aL => have := LMc18.1; omega); intro v229 w26 ho hb hg hat; rw [<- Ny228.1] at ho; refine E3 (bG BK218.1 hg (R_ne HO_5.1 BK218.1 (by decide))) (hb) (ho) ?_; clear BK218 HB HO_5; intro BK218 HB HO230; clear ho hb hg hat; obtain ⟨hcz27_0, hcz27_1, hcz27_2, hfz27_0, hfz27_1, hfz27_2⟩ := cz3 BK218.1)); try go_wp2_with (first | ((with_reducible refine gate_builtin (b := .append) (xs := #[.tmp 38, .tmp 41]) rfl ?_); at_builtin; refine R_append (Kd.int .i64) (w0 := w) w.heap.size rfl (.tmp 38) (.tmp 41) 43 3 (.int .i64 0) 8 rfl Try.underlying43 info3 rfl (by decide) (by omega) u5 x5_12 (wrap64 (a1 + 1)) [.int .i64 (wrap64 (a1 + 1))] (fun _ => True) (fun _ => False) rfl rfl ?aP (fun _ hk => hk.elim) ?aF ?aO ?aB ?aS ?aL ?_; (case aP => exact rfl); (case aB => exact (BL HB.1)); (case aF => exact (fun _ _ => trivial)); (case aO => exact (PR HO_5.1)); (case aS => exact (bZ HB.1)); (case aL => have := LMc18.1; omega); intro v229 w26 ho hb hg hat; rw [<- Ny228.1] at ho; refine E3 (bG BK218.1 hg (R_ne HO_5.1 BK218.1 (by decide))) (hb) (ho) ?_; clear BK218 HB HO_5; intro BK218 HB HO230; clear ho hb hg hat; obtain ⟨hcz27_0, hcz27_1, hcz27_2, hfz27_0, hfz27_1, hfz27_2⟩ := cz3 BK218.1)))
   go_ret
   exact ⟨_, RF, RPE (HO230.1), BL HB.1⟩
 replace H := ifB H; rcases H with ⟨c28b0, H⟩ | ⟨c28b0, H⟩
 · replace H := ifP H; obtain ⟨c29, H⟩ := H
   have LMc29 := Aside0.mk c29
   clear c29
   generalize hy234 : ((x5_12 ++ [wrap64 (a1 + a0_1)]) : List Int) = y234 at H
   have Ny234 := Aside0.mk hy234.symm; clear hy234
   obtain rfl := Option.some.inj H
   obtain ⟨hcz30_0, hcz30_1, hcz30_2, hfz30_0, hfz30_1, hfz30_2⟩ := cz3 BK218.1
   go_wp2_with (first | ((with_reducible refine gate_builtin (b := .append) (xs := #[.tmp 48, .tmp 53]) rfl ?_); at_builtin; refine R_append (Kd.int .i64) (w0 := w) w.heap.size rfl (.tmp 48) (.tmp 53) 43 3 (.int .i64 0) 8 rfl Try.underlying43 info3 rfl (by decide) (by omega) u5 x5_12 (wrap64 (a1 + a0_1)) [.int .i64 (wrap64 (a1 + a0_1))] (fun _ => True) (fun _ => False) rfl rfl ?aP (fun _ hk => hk.elim) ?aF ?aO ?aB ?aS ?aL ?_; (case aP => exact rfl); (case aB => exact (BL HB.1)); (case aF => exact (fun _ _ => trivial)); (case aO => exact (PR HO_5.1)); (case aS => exact (bZ HB.1)); (case aL => have := LMc29.1; omega); intro v235 w31 ho hb hg hat; rw [<- Ny234.1] at ho; refine E3 (bG BK218.1 hg (R_ne HO_5.1 BK218.1 (by decide))) (hb) (ho) ?_; clear BK218 HB HO_5; intro BK218 HB HO236; clear ho hb hg hat))
   repeat (go_quiet (first | ((with_reducible refine gate_builtin (b := .append) (xs := #[.tmp 48, .tmp 53]) rfl ?_); at_builtin; refine R_append (Kd.int .i64) (w0 := w) w.heap.size rfl (.tmp 48) (.tmp 53) 43 3 (.int .i64 0) 8 rfl Try.underlying43 info3 rfl (by decide) (by omega) u5 x5_12 (wrap64 (a1 + a0_1)) [.int .i64 (wrap64 (a1 + a0_1))] (fun _ => True) (fun _ => False) rfl rfl ?aP (fun _ hk => hk.elim) ?aF ?aO ?aB ?aS ?aL ?_; (case aP => exact rfl); (case aB => exact (BL HB.1)); (case aF => exact (fun _ _ => trivial)); (case aO => exact (PR HO_5.1)); (case aS => exact (bZ HB.1)); (case aL => have := LMc29.1; omega); intro v235 w31 ho hb hg hat; rw [<- Ny234.1] at ho; refine E3 (bG BK218.1 hg (R_ne HO_5.1 BK218.1 (by decide))) (hb) (ho) ?_; clear BK218 HB HO_5; intro BK218 HB HO236; clear ho hb hg hat)); try go_wp2_with (first | ((with_reducible refine gate_builtin (b := .append) (xs := #[.tmp 48, .tmp 53]) rfl ?_); at_builtin; refine R_append (Kd.int .i64) (w0 := w) w.heap.size rfl (.tmp 48) (.tmp 53) 43 3 (.int .i64 0) 8 rfl Try.underlying43 info3 rfl (by decide) (by omega) u5 x5_12 (wrap64 (a1 + a0_1)) [.int .i64 (wrap64 (a1 + a0_1))] (fun _ => True) (fun _ => False) rfl rfl ?aP (fun _ hk => hk.elim) ?aF ?aO ?aB ?aS ?aL ?_; (case aP => exact rfl); (case aB => exact (BL HB.1)); (case aF => exact (fun _ _ => trivial)); (case aO => exact (PR HO_5.1)); (case aS => exact (bZ HB.1)); (case aL => have := LMc29.1; omega); intro v235 w31 ho hb hg hat; rw [<- Ny234.1] at ho; refine E3 (bG BK218.1 hg (R_ne HO_5.1 BK218.1 (by decide))) (hb) (ho) ?_; clear BK218 HB HO_5; intro BK218 HB HO236; clear ho hb hg hat)))
   go_ret
   exact ⟨_, RF, RPE (HO236.1), BL HB.1⟩
 obtain rfl := Option.some.inj H
 obtain ⟨hcz32_0, hcz32_1, hcz32_2, hfz32_0, hfz32_1, hfz32_2⟩ := cz3 BK218.1
 go_wp2
 repeat (go_quiet (fail); try go_wp2)
 go_ret
 exact ⟨_, RF, RPE (HO_5.1), BL HB.1⟩
end Go.Proofs.Ytlkmafoihjglcaa.P
