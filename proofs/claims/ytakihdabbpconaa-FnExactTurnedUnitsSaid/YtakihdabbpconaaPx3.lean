-- PRINTED by print.py (a twelfth state) out of the translation. Not trusted: Lean checks it.
import Derived.Test.YtakihdabbpconaaPx0
import Derived.Test.YtakihdabbpconaaPx2
namespace Go.Proofs.Ytakihdabbpconaa.P
open Go.RowKit Go.Proofs.YtakihdabbpconaaW.PrintWords Go.Proofs.YtakihdabbpconaaW.PrintLast Go.Proofs.YtakihdabbpconaaW.PrintMore
attribute [local go_sem] max2_int min2_int max_two min_two max_three min_three max_four min_four   -- for this text's walks alone
set_option linter.unusedVariables false
set_option linter.unusedSimpArgs false

/-! ### spec_saUnits: function 59 -/
mutual
def spec_saUnits.l0 : Nat → List Int → List Int → Int → Int → Int → Int → List (S73) → Option ((List (List Int)))
  | 0, _, _, _, _, _, _, _ => none
  | k + 1, x3, x4, x16, x17, x156000, x156001, x156002 => if x17 < x16 then (if 0 ≤ x17 then (if x17 < (x4.length : Int) then (spec_saUnits.l0 k x3 (x4.set (x17 : Int).toNat (-1)) x16 (wrap64 (x17 + 1)) x156000 x156001 x156002) else (none)) else (none)) else (spec_saUnits.l1 k x3 x4 ([] : List (List Int)) x156002 (x156002.length : Int) 0)
def spec_saUnits.l1 : Nat → List Int → List Int → List (List Int) → List (S73) → Int → Int → Option ((List (List Int)))
  | 0, _, _, _, _, _, _ => none
  | k + 1, x3, x4, x6, x25, x26, x27 => if x27 < x26 then (if 0 ≤ x27 then (if x27 < (x25.length : Int) then (if ((rd_T73 x25 x27).f0) = 3 then (if x6.length < 5864062014805 then (spec_saUnits.l1 k x3 x4 (x6 ++ [(([x27] : List Int))]) x25 x26 (wrap64 (x27 + 1))) else (none)) else (if ((rd_T73 x25 x27).f0) = 6 then (if x27 < (x3.length : Int) then (if 0 ≤ (rd x3 x27) then (if (rd x3 x27) < (x4.length : Int) then (spec_saUnits.j2 k x3 x4 x6 x27 x25 x26 x27 (decide ((rd x4 (rd x3 x27)) < 0)) ((rd_T73 x25 x27).f0) ((rd_T73 x25 x27).f1)) else (none)) else (none)) else (none)) else (spec_saUnits.j2 k x3 x4 x6 x27 x25 x26 x27 false ((rd_T73 x25 x27).f0) ((rd_T73 x25 x27).f1)))) else (none)) else (none)) else (some x6)
def spec_saUnits.j2 : Nat → List Int → List Int → List (List Int) → Int → List (S73) → Int → Int → Bool → Int → Int → Option ((List (List Int)))
  | 0, _, _, _, _, _, _, _, _, _, _ => none
  | k + 1, x3, x4, x6, x7, x25, x26, x27, x41, x165000, x165001 => if x41 = true then (if 0 ≤ x7 then (if x7 < (x3.length : Int) then (if 0 ≤ (rd x3 x7) then (if (rd x3 x7) < (x4.length : Int) then (if x6.length < 5864062014805 then (spec_saUnits.l1 k x3 (x4.set ((rd x3 x7) : Int).toNat (x6.length : Int)) (x6 ++ [(([x7] : List Int))]) x25 x26 (wrap64 (x27 + 1))) else (none)) else (none)) else (none)) else (none)) else (none)) else (if x165000 = 6 then (if 0 ≤ x7 then (if x7 < (x3.length : Int) then (if 0 ≤ (rd x3 x7) then (if (rd x3 x7) < (x4.length : Int) then (if 0 ≤ (rd x4 (rd x3 x7)) then (if (rd x4 (rd x3 x7)) < (x6.length : Int) then (if (rd_L3 x6 (rd x4 (rd x3 x7))).length < 17592186044416 then (spec_saUnits.l1 k x3 x4 (x6.set ((rd x4 (rd x3 x7)) : Int).toNat ((rd_L3 x6 (rd x4 (rd x3 x7))) ++ [x7])) x25 x26 (wrap64 (x27 + 1))) else (none)) else (none)) else (none)) else (none)) else (none)) else (none)) else (none)) else (spec_saUnits.l1 k x3 x4 x6 x25 x26 (wrap64 (x27 + 1))))
end
def spec_saUnits.f (k : Nat) (a0_0 : Int) (a0_1 : Int) (l0_2 : List (S73)) : Option ((List (List Int))) := (spec_ggGroups.f k a0_0 a0_1 l0_2).bind fun t156 => (if 0 ≤ (l0_2.length : Int) then (if ((l0_2.length : Int) : Int).toNat ≤ 35184372088832 then ((some (List.replicate ((l0_2.length : Int) : Int).toNat 0 : List Int)).bind fun y159 => (spec_saUnits.l0 k t156 y159 (y159.length : Int) 0 a0_0 a0_1 l0_2)) else (none)) else (none))
theorem spec_saUnits.mono_l : ∀ k, (∀ y0 y1 y2 y3 y4 y5 y6, LeO (spec_saUnits.l0 k y0 y1 y2 y3 y4 y5 y6) (spec_saUnits.l0 (k + 1) y0 y1 y2 y3 y4 y5 y6)) ∧ (∀ y0 y1 y2 y3 y4 y5, LeO (spec_saUnits.l1 k y0 y1 y2 y3 y4 y5) (spec_saUnits.l1 (k + 1) y0 y1 y2 y3 y4 y5)) ∧ (∀ y0 y1 y2 y3 y4 y5 y6 y7 y8 y9, LeO (spec_saUnits.j2 k y0 y1 y2 y3 y4 y5 y6 y7 y8 y9) (spec_saUnits.j2 (k + 1) y0 y1 y2 y3 y4 y5 y6 y7 y8 y9))
  | 0 => by refine ⟨?_, ?_, ?_⟩ <;> (intros; intro r h; first | (simp [spec_saUnits.l0] at h; done) | (simp [spec_saUnits.l1] at h; done) | (simp [spec_saUnits.j2] at h; done))
  | k + 1 => by
    obtain ⟨ih0, ih1, ih2⟩ := spec_saUnits.mono_l k
    refine ⟨?_, ?_, ?_⟩ <;> (
      intros
      first | unfold spec_saUnits.l0 | unfold spec_saUnits.l1 | unfold spec_saUnits.j2
      repeat' first | (with_reducible first | apply ih0 | apply ih1 | apply ih2 | apply spec_ggGroups.mono | exact LeO.refl _ | exact LeO.none _ | refine LeO.ite ?_ ?_ | refine LeO.bind ?_ (fun _ => ?_)) | apply ih0 | apply ih1 | apply ih2 | apply spec_ggGroups.mono | exact LeO.none _ | refine LeO.ite ?_ ?_ | refine LeO.bind ?_ (fun _ => ?_))
theorem spec_saUnits.mono : ∀ a0 a1 a2 k, LeO (spec_saUnits.f k a0 a1 a2) (spec_saUnits.f (k + 1) a0 a1 a2) := by
  intro a0 a1 a2 k
  obtain ⟨ih0, ih1, ih2⟩ := spec_saUnits.mono_l k
  unfold spec_saUnits.f
  repeat' first | (with_reducible first | apply ih0 | apply ih1 | apply ih2 | apply spec_ggGroups.mono | exact LeO.refl _ | exact LeO.none _ | refine LeO.ite ?_ ?_ | refine LeO.bind ?_ (fun _ => ?_)) | apply ih0 | apply ih1 | apply ih2 | apply spec_ggGroups.mono | exact LeO.none _ | refine LeO.ite ?_ ?_ | refine LeO.bind ?_ (fun _ => ?_)
def spec_saUnits.T18 : Bool × List (List Nat × List Nat) := (true, [([], []), ([], []), ([], []), ([], []), ([2, 3], [2, 3]), ([4], [4]), ([1, 5], [1, 5]), ([6], [6]), ([], []), ([], []), ([], []), ([], []), ([10, 11], [10, 11]), ([12], [12]), ([9, 13], [9, 13]), ([14], [14]), ([8, 15], [8, 15]), ([16], [16]), ([], []), ([18], [18]), ([17, 19], [17, 19]), ([0, 7, 0, 1, 2, 3, 4, 5, 6, 7, 8, 9, 10, 11, 12, 13, 14, 15, 16, 17, 18, 19, 20], [0, 7]), ([21, 20, 20, 0, 1, 2, 3, 4, 5, 6, 7, 8, 9, 10, 11, 12, 13, 14, 15, 16, 17, 18, 19, 20], [20, 21])])
def spec_saUnits.B18 : List Nat := [0, 0, 0, 0, 12, 28, 62, 126, 0, 0, 0, 0, 3072, 7168, 15872, 32256, 65280, 130816, 0, 262144, 1048320, 2097151, 4194303]
theorem spec_saUnits.tab18 : rtab .any (opsOf Try.f59 18) = spec_saUnits.T18 := by kernel_rfl
theorem spec_saUnits.bits18 : waitsOk spec_saUnits.T18.2 spec_saUnits.B18 = true := by kernel_rfl
set_option maxHeartbeats 8000000 in
set_option maxRecDepth 100000 in
theorem spec_saUnits.calls (k : Nat) (a0_0 : Int) (a0_1 : Int) (A0_2 : Option Addr) (c0_2 : Nat) (l0_2 : List (S73)) (r : List (List Int)) (w : World) (hr0_2 : Kd.C k73 w A0_2 l0_2.length l0_2) (hc0_2 : l0_2.length ≤ c0_2) (h : spec_saUnits.f k a0_0 a0_1 l0_2 = some r) :
    Calls Try.prog 59 #[.agg #[.int .i64 a0_0, .int .i64 a0_1, .slice A0_2 l0_2.length c0_2]] w fun e w' => ∃ v0_ : Value, e = .returned (v0_) ∧ Kd.S (Kd.slice 3 (Kd.int .i64)) 36 w' w.heap.size (fun _ => True) v0_ r ∧ Below w.heap.size w w' := by
  have hu30 := Try.underlying30
  have hu73 := Try.underlying73
  have HR0_2 := Aside0.mk hr0_2
  have HC0_2 := Aside0.mk hc0_2
  clear hr0_2 hc0_2
  have HB := Aside0.mk (Below.refl w.heap.size w)
  have H := h
  clear h
  unfold spec_saUnits.f at H
  replace H := bindA H; obtain ⟨t156, A2, H⟩ := H
  replace H := ifP H; obtain ⟨c3, H⟩ := H
  have c3b0 := eq_true c3
  have c3b1 := decide_eq_true c3
  clear c3
  replace H := ifP H; obtain ⟨c4, H⟩ := H
  have c4b0 := eq_true c4
  have c4b1 := decide_eq_true c4
  clear c4
  replace H := nameB H; obtain ⟨y159, Ny159, H⟩ := H
  have H' := Aside0.mk H
  clear H
  go_enter Try.func59, Try.ntmps59
  go_wp2_with (first | ((with_reducible refine gate_dst (N := 1) rfl ?_); refine boxE (N := 1) (cs := #[.int .i64 a0_0, .int .i64 a0_1, .slice A0_2 l0_2.length c0_2]) (t := 30) ?_; intro gb155 hg w5 hbox hb; refine E4b HB.out hg hbox hb ?_; clear HB; intro HB BK155 GW155 GE155; clear hb hbox hg; obtain ⟨hcz6_0, hcz6_1, hcz6_2, hfz6_0, hfz6_1, hfz6_2⟩ := cz3 BK155.out) | ((with_reducible refine gate_callee (f := 78) rfl ?_); refine goesM (N := (some 10)) #[.agg #[.int .i64 a0_0, .int .i64 a0_1, .slice A0_2 l0_2.length c0_2]] Try.func78 ?_; (with_reducible refine (spec_ggGroups.calls k a0_0 a0_1 _ _ l0_2 t156 _ ?side1 ?side2 A2.out).mono ?_); (case side1 => exact CB (Kd.C_below HR0_2.out HB.out)); (case side2 => exact HC0_2.out); rintro e w7 ⟨v157, rfl, ho0, hb⟩; refine ⟨_, rfl, ?_⟩; refine E3 (Kd.R_lower ho0 (below_size (BL HB.out))) (bB BK155.out hb) (below_step (BL HB.out) hb) ?_; clear BK155 HB; intro HO158 BK155 HB; (try clear hb); (try clear hb2); (try clear hk); (try clear hi); (try clear ho0); obtain ⟨hcz8_0, hcz8_1, hcz8_2, hfz8_0, hfz8_1, hfz8_2⟩ := cz3 BK155.out) | ((with_reducible refine gate_dst (N := 14) rfl ?_); refine Kd.R_make (Kd.int .i64) _ 3 rfl (N := 14) rfl 36 _ _ rfl (l0_2.length : Int) rfl rfl Try.underlying36 (.int .i64 0) 8 info3 rfl (by decide) (by omega) 0 (ok := fun _ => True) (okp := fun _ => True) rfl (fun _ hk => hk) trivial (OD) (Nat.le_trans (Nat.mul_le_mul_right _ (OD : (l0_2.length : Int).toNat ≤ 35184372088832)) (by omega)) (Below.refl _ _) (Nat.le_refl _) ?_; intro v160 w9 ho10 hb hg_ hnew_; clear hg_ hnew_; (first | rw [← Ny159.out] at ho10 | (simp only [Int.reduceToNat] at ho10; rw [← Ny159.out] at ho10)); refine E4 (Kd.R_elder' (PR HO158.out) (Kd.R_base ho10) hb) (Kd.R_lower (Kd.R_new' ho10 (Kd.R_lt (PR HO158.out))) (below_size (BL HB.out))) (bB BK155.out hb) (below_step (BL HB.out) hb) ?_; clear HO158 BK155 HB; intro HO158 HO161 BK155 HB; clear hb ho10; obtain ⟨Ao11, co11, eo11⟩ := Kd.R_slice HO161.out; subst eo11))
  go_loopg [17] k (fun kq v17 w' => ∃ (x4_1 : List Int) (x17_1 : Int), v17 = .int .i64 x17_1 ∧ Aside0 (spec_saUnits.l0 kq t156 x4_1 (y159.length : Int) x17_1 a0_0 a0_1 l0_2 = some r) ∧ Aside0 (kq ≤ k) ∧ Aside0 (Kd.R (Kd.int .i64) 3 w' w.heap.size (fun k_ => some k_ ≠ ((.slice Ao11 y159.length co11) : Value).ownBlock) v157 t156) ∧ Aside0 (Kd.R (Kd.int .i64) 3 w' w.heap.size (fun k_ => some k_ ≠ (v157 : Value).ownBlock) (.slice Ao11 y159.length co11) x4_1) ∧ Aside0 (w'.heap[gb155]? = some (.cells #[.int .i64 a0_0, .int .i64 a0_1, (.slice A0_2 l0_2.length c0_2)] 30 (0, 0))) ∧ Aside0 (Below w.heap.size w w'))
  case atStart => exact ⟨(y159), (0), RG, H', ⟨Nat.le_refl _⟩, ⟨by (with_reducible repeat (first | apply Kd.R_alloc | apply Kd.R_drewN | apply Kd.R_drew)); exact Kd.R_mono HO158.out (fun _ hk => hk.2)⟩, ⟨by (with_reducible repeat (first | apply Kd.R_alloc | apply Kd.R_drewN | apply Kd.R_drew)); exact Kd.R_mono HO161.out (fun _ hk => hk.2)⟩, ⟨PB BK155.out⟩, ⟨BL HB.out⟩⟩
  clear H'
  try clear c3b0; try clear c3b1; try clear c4b0; try clear c4b1; try clear hcz6_0; try clear hcz6_1; try clear hcz6_2; try clear hcz8_0; try clear hcz8_1; try clear hcz8_2; try clear hfz6_0; try clear hfz6_1; try clear hfz6_2; try clear hfz8_0; try clear hfz8_1; try clear hfz8_2
  obtain ⟨x4_1, x17_1, rfl, HA, HK1, HO_3, HO_4, BK155, HB⟩ := hrel
  have hl4_1 := (Kd.R_reads' HO_4.out).1
  rw [hl4_1] at HO_4
  (try simp only [hl4_1])
  (try simp only [hl4_1] at BK155)
  (try simp only [hl4_1] at HO_3)
  cases gk with
  | zero => exact absurd HA.out (by simp [spec_saUnits.l0])
  | succ k1 => ?_
  have H := HA.out
  clear HA
  simp only [spec_saUnits.l0] at H
  replace H := ifB H; rcases H with ⟨c12b0, H⟩ | ⟨c12b0, H⟩
  · replace H := ifN H; obtain ⟨c13b0, H⟩ := H
    replace H := ifN H; obtain ⟨c14b0, H⟩ := H
    generalize hy162 : ((x4_1.set (x17_1 : Int).toNat (-1)) : List Int) = y162 at H
    have Ny162 := Aside0.mk hy162.symm; clear hy162
    have H' := Aside0.mk H
    clear H
    have p15 : 0 ≤ (x17_1 : Int) := OD
    have q15 : (x17_1 : Int) < ((x4_1.length : Int) : Int) := OD
    obtain ⟨go15, co15, eo15, gb15, gl15, cl15, HG15⟩ := Kd.R_form HO_4.out (by omega)
    (first | cases eo15 | (injection eo15 with ea_ en_ ec_; (first | subst ea_ | (injection ea_ with ea_; subst ea_)); subst ec_; clear en_))
    have GB15 := Aside0.mk gb15
    have GG15 := Aside0.mk HG15
    clear gb15 gl15 HG15
    obtain ⟨hx15_0, hf15_0⟩ := Kd.R_celln 0 HO_4.out (x17_1 : Int) p15 q15
    replace p15 := eq_true p15
    replace q15 := eq_true q15
    have HP16 := Kd.R_putg HO_4.out (x17_1 : Int) (-1)
    go_wp2_with (first | ((with_reducible refine gate_store (t := 3) (p := 22) rfl ?_); refine storeE (t := 3) (p := 22) (w1 := (wr.setCell ⟨go15, (x17_1 : Int).toNat, none⟩ (.int .i64 (-1)))) ?_; intro w17 hw; have hg : wr.grownBy w17 (some go15) := (by rw [hw]; exact HP16.2); have hp_ : Kd.R (Kd.int .i64) 3 w17 w.heap.size (fun k_ => some k_ ≠ (v157 : Value).ownBlock) (.slice (some ⟨go15, 0, none⟩) x4_1.length co11) y162 := (by rw [hw, Ny162.out]; exact HP16.1); clear HP16; refine E4 (Kd.R_after (v := (.slice (some ⟨go15, 0, none⟩) x4_1.length co11)) (v1 := (.slice (some ⟨go15, 0, none⟩) x4_1.length co11)) (ok := (fun _ => True)) (by (with_reducible repeat (first | apply Kd.R_alloc | apply Kd.R_drewN | apply Kd.R_drew)); exact Kd.R_mono HO_3.out (fun _ hk => ⟨trivial, hk⟩)) hg (.inl rfl)) (hp_) (bG BK155.out hg (Kd.R_ne HO_4.out BK155.out (by decide))) ((by rw [hw]; exact below_set (HB.out) GB15.out : Below w.heap.size w w17)) ?_; clear HO_3 HO_4 BK155 HB; intro HO_3 HO_4 BK155 HB; clear hg hw hp_))
    (try simp only [← hl4_1])
    go_roundg k1
    case measure => have := HK1.out; omega
    case rel => exact ⟨(y162), (wrap64 (x17_1 + 1)), RG, H', ⟨by have := HK1.out; omega⟩, ⟨by (try simp only [hl4_1]); (with_reducible repeat (first | apply Kd.R_alloc | apply Kd.R_drewN | apply Kd.R_drew)); exact Kd.R_mono HO_3.out (fun _ hk => hk.2)⟩, ⟨PR1 HO_4.out hl4_1⟩, ⟨PB1 BK155.out hl4_1⟩, ⟨BL HB.out⟩⟩
  (try simp only [hl4_1] at c12b0)
  have H' := Aside0.mk H
  clear H
  obtain ⟨hcz18_0, hcz18_1, hcz18_2, hfz18_0, hfz18_1, hfz18_2⟩ := cz3 BK155.out
  go_wp2
  go_loopg [6, 27] k1 (fun kq v6 v27 w' => ∃ (x4_2 : List Int) (x6_2 : List (List Int)) (x27_2 : Int), v27 = .int .i64 x27_2 ∧ Aside0 (spec_saUnits.l1 kq t156 x4_2 x6_2 l0_2 (l0_2.length : Int) x27_2 = some r) ∧ Aside0 (kq ≤ k1) ∧ Aside0 (Kd.R (Kd.int .i64) 3 w' w.heap.size (fun k_ => some k_ ≠ ((.slice Ao11 x4_1.length co11) : Value).ownBlock) v157 t156) ∧ Aside0 (Kd.R (Kd.int .i64) 3 w' w.heap.size (fun k_ => some k_ ≠ (v157 : Value).ownBlock) (.slice Ao11 x4_1.length co11) x4_2) ∧ Aside0 (Kd.S (Kd.slice 3 (Kd.int .i64)) 36 w' w.heap.size (fun k_ => some k_ ≠ (v157 : Value).ownBlock ∧ some k_ ≠ ((.slice Ao11 x4_1.length co11) : Value).ownBlock) v6 x6_2) ∧ Aside0 (w'.heap[gb155]? = some (.cells #[.int .i64 a0_0, .int .i64 a0_1, (.slice A0_2 l0_2.length c0_2)] 30 (0, 0))) ∧ Aside0 (Below w.heap.size w w'))
  case atStart => exact ⟨(x4_1), (([] : List (List Int))), (0), RG, H', ⟨Nat.le_refl _⟩, ⟨PR1 HO_3.out hl4_1⟩, ⟨PR1 HO_4.out hl4_1⟩, ⟨by (try simp only [hl4_1]); first | exact Kd.S_nil _ _ _ _ _ | exact Kd.N_nil _ _ _ _ _ | exact Kd.V_nil _ _ _ _ _ | exact Kd.Q_nil _ _ _ _ _ | exact Kd.R_nil _ _ _ _ _⟩, ⟨PB1 BK155.out hl4_1⟩, ⟨BL HB.out⟩⟩
  clear H'
  try clear c12b0; try clear hcz18_0; try clear hcz18_1; try clear hcz18_2; try clear hfz18_0; try clear hfz18_1; try clear hfz18_2
  obtain ⟨x4_2, x6_2, x27_2, rfl, HA, HK2, HO_3, HO_4, HO_6, BK155, HB⟩ := hrel
  have hl4_2 := (Kd.R_reads' HO_4.out).1
  rw [hl4_2] at HO_4
  (try simp only [hl4_2])
  (try simp only [hl4_2] at BK155)
  (try simp only [hl4_2] at HO_3)
  (try simp only [hl4_2] at HO_6)
  cases gk with
  | zero => exact absurd HA.out (by simp [spec_saUnits.l1])
  | succ k2 => ?_
  have H := HA.out
  clear HA
  simp only [spec_saUnits.l1] at H
  replace H := ifB H; rcases H with ⟨c19b0, H⟩ | ⟨c19b0, H⟩
  · replace H := ifN H; obtain ⟨c20b0, H⟩ := H
    replace H := ifN H; obtain ⟨c21b0, H⟩ := H
    replace H := ifQ H; rcases H with ⟨c22, H⟩ | ⟨c22, H⟩
    · have c22b0 := beq_iff_eq.mpr c22
      have c22b1 := bne_eq_false_iff_eq.mpr c22
      clear c22
      generalize hy165 : ((([x27_2] : List Int)) : List Int) = y165 at H
      have Ny165 := Aside0.mk hy165.symm; clear hy165
      replace H := ifP H; obtain ⟨c23, H⟩ := H
      have LMc23 := Aside0.mk c23
      clear c23
      generalize hy168 : ((x6_2 ++ [y165]) : List (List Int)) = y168 at H
      have Ny168 := Aside0.mk hy168.symm; clear hy168
      have H' := Aside0.mk H
      clear H
      have p163 : 0 ≤ (x27_2 : Int) := OD
      have q163 : x27_2 < (l0_2.length : Int) := OD
      obtain ⟨ad163, e163, hx163_0, hx163_1⟩ := at_T73 HR0_2.out x27_2 p163 q163
      cases e163
      replace hx163_0 := (HB.out.cell (World.block_lt_of_cell? w _ hx163_0)).trans hx163_0
      replace hx163_1 := (HB.out.cell (World.block_lt_of_cell? w _ hx163_1)).trans hx163_1
      replace p163 := eq_true p163
      replace q163 := eq_true q163
      go_wp2_with (first | ((with_reducible refine gate_dst (N := 8) rfl ?_); refine boxE (N := 8) (cs := #[.int .i64 0, .int .i64 0]) (t := 73) ?_; intro gb164 hg w24 hbox hb; refine E10 (Kd.R_below (PR HO_3.out) hb) (Kd.R_below (PR HO_4.out) hb) (Kd.S_below (PS HO_6.out) hb) (bB BK155.out hb) (below_step (BL HB.out) hb) (hbox) (gwM hg (below_size (BL HB.out)) : w.heap.size ≤ gb164) (gwM hg (below_size (BL HB.out)) : w.heap.size ≤ gb164) ((nB BK155.out hg : gb155 ≠ gb164)) ((nC BK155.out hg : gb164 ≠ gb155)) ?_; clear HO_3 HO_4 HO_6 BK155 HB; intro HO_3 HO_4 HO_6 BK155 HB BK164 GW164 GE164 NB155_164 NB164_155; clear hb hbox hg; have hnb25 := NB164_155.out; have hnc25 := NB155_164.out; obtain ⟨hcz26_0, hcz26_1, hfz26_0, hfz26_1⟩ := cz2 BK164.out) | ((with_reducible refine gate_dst (N := 38) rfl ?_); refine Kd.R_lit (Kd.int .i64) _ 3 ?hg (N := 38) ?hd (xs := ([x27_2] : List Int)) (inner := [.int .i64 x27_2]) (ok := fun _ => True) (okp := fun _ => True) ?hr ?hp (fun _ hk => hk) trivial (Below.refl _ _) (Nat.le_refl _) (by simp) ?_; (case hd => rfl); (case hg => rfl); (case hr => first | (go_simp; done) | (go_simp; rfl)); (case hp => exact (Reps.one (show Kd.M (Kd.int .i64) _ _ _ x27_2 [.int .i64 x27_2] from rfl) (Reps.none _ _))); intro v166 w27 ho28 hb hg_ hnew_; clear hg_ hnew_; (first | rw [← Ny165.out] at ho28 | (simp only [Int.reduceToNat] at ho28; rw [← Ny165.out] at ho28)); refine E7 (Kd.R_elder' (by (with_reducible repeat (first | apply Kd.R_alloc | apply Kd.R_drewN | apply Kd.R_drew)); exact (Kd.R_mono (Kd.R_far (p := ⟨gb164, 1, none⟩) (Kd.R_far (p := ⟨gb164, 0, none⟩) (Kd.R_types HO_3.out BK164.out (by decide)) (fun _ hk => hk.2) (.int .i64 ((rd_T73 l0_2 x27_2).f0))) (fun _ hk => hk.2) (.int .i64 ((rd_T73 l0_2 x27_2).f1))) (fun _ h_ => h_.1))) (Kd.R_base ho28) hb) (Kd.R_elder' (by (with_reducible repeat (first | apply Kd.R_alloc | apply Kd.R_drewN | apply Kd.R_drew)); exact (Kd.R_mono (Kd.R_far (p := ⟨gb164, 1, none⟩) (Kd.R_far (p := ⟨gb164, 0, none⟩) (Kd.R_types HO_4.out BK164.out (by decide)) (fun _ hk => hk.2) (.int .i64 ((rd_T73 l0_2 x27_2).f0))) (fun _ hk => hk.2) (.int .i64 ((rd_T73 l0_2 x27_2).f1))) (fun _ h_ => h_.1))) (Kd.R_base ho28) hb) (Kd.S_elder' (by (with_reducible repeat (first | apply Kd.S_alloc | apply Kd.S_drewN | apply Kd.S_drew)); exact (Kd.S_mono (Kd.S_far (p := ⟨gb164, 1, none⟩) (Kd.S_far (p := ⟨gb164, 0, none⟩) (Kd.S_types HO_6.out BK164.out (by decide)) (fun _ hk => hk.2) (.int .i64 ((rd_T73 l0_2 x27_2).f0))) (fun _ hk => hk.2) (.int .i64 ((rd_T73 l0_2 x27_2).f1))) (fun _ h_ => h_.1))) (Kd.R_base ho28) hb) (Kd.R_lower (Kd.R_new' (Kd.R_new' ho28 (Kd.R_lt (by (with_reducible repeat (first | apply Kd.R_alloc | apply Kd.R_drewN | apply Kd.R_drew)); exact (Kd.R_mono (Kd.R_far (p := ⟨gb164, 1, none⟩) (Kd.R_far (p := ⟨gb164, 0, none⟩) (Kd.R_types HO_3.out BK164.out (by decide)) (fun _ hk => hk.2) (.int .i64 ((rd_T73 l0_2 x27_2).f0))) (fun _ hk => hk.2) (.int .i64 ((rd_T73 l0_2 x27_2).f1))) (fun _ h_ => h_.1))))) (Kd.R_lt (by (with_reducible repeat (first | apply Kd.R_alloc | apply Kd.R_drewN | apply Kd.R_drew)); exact (Kd.R_mono (Kd.R_far (p := ⟨gb164, 1, none⟩) (Kd.R_far (p := ⟨gb164, 0, none⟩) (Kd.R_types HO_4.out BK164.out (by decide)) (fun _ hk => hk.2) (.int .i64 ((rd_T73 l0_2 x27_2).f0))) (fun _ hk => hk.2) (.int .i64 ((rd_T73 l0_2 x27_2).f1))) (fun _ h_ => h_.1))))) (below_size (BL HB.out))) (blk_below (g := gb155) (o := .cells #[.int .i64 a0_0, .int .i64 a0_1, .slice (some ad163) l0_2.length c0_2] 30 (0, 0)) (by (with_reducible repeat (first | refine blk_drewN ?_ _ | refine blk_drew ?_ | refine blk_alloc ?_ _)); refine blk_far ?_ NB155_164.out _; (with_reducible repeat (first | refine blk_drewN ?_ _ | refine blk_drew ?_ | refine blk_alloc ?_ _)); refine blk_far ?_ NB155_164.out _; (with_reducible repeat (first | refine blk_drewN ?_ _ | refine blk_drew ?_ | refine blk_alloc ?_ _)); exact BK155.out) hb) (blk_below (g := gb164) (o := .cells #[.int .i64 ((rd_T73 l0_2 x27_2).f0), .int .i64 ((rd_T73 l0_2 x27_2).f1)] 73 (0, 0)) (by (with_reducible repeat (first | refine blk_drewN ?_ _ | refine blk_drew ?_ | refine blk_alloc ?_ _)); refine blk_put (cs := #[.int .i64 ((rd_T73 l0_2 x27_2).f0), .int .i64 0]) ?_ 1 _ rfl; (with_reducible repeat (first | refine blk_drewN ?_ _ | refine blk_drew ?_ | refine blk_alloc ?_ _)); refine blk_put (cs := #[.int .i64 0, .int .i64 0]) ?_ 0 _ rfl; (with_reducible repeat (first | refine blk_drewN ?_ _ | refine blk_drew ?_ | refine blk_alloc ?_ _)); exact BK164.out) hb) (below_step (BL HB.out) hb) ?_; clear HO_3 HO_4 HO_6 BK155 BK164 HB; intro HO_3 HO_4 HO_6 HO167 BK155 BK164 HB; clear hb ho28; obtain ⟨Ao30, co30, eo30⟩ := Kd.R_slice HO167.out; subst eo30) | ((with_reducible refine gate_builtin (b := .append) (xs := #[.tmp 36, .tmp 39]) rfl ?_); at_builtin; refine Kd.S_append (Kd.slice 3 (Kd.int .i64)) (w0 := w) w.heap.size rfl (.tmp 36) (.tmp 39) 48 36 (.slice none 0 0) 24 rfl Try.underlying48 info36 rfl (by decide) (by omega) u6 x6_2 y165 [.slice Ao30 y165.length co30] (fun k_ => some k_ ≠ (v157 : Value).ownBlock ∧ some k_ ≠ (.slice Ao11 x4_2.length co11 : Value).ownBlock) (fun k_ => some k_ = (.slice Ao30 y165.length co30 : Value).ownBlock) rfl rfl ?aP (fun k_ hk_ => ((Kd.R_mono (ok' := fun k_ => ((fun k_ => some k_ ≠ (v157 : Value).ownBlock ∧ some k_ ≠ (.slice Ao11 x4_2.length co11 : Value).ownBlock)) k_ ∧ some k_ ≠ (u6 : Value).ownBlock) (Kd.R_apart' (HO167.out) (Kd.S_typed HO_6.out) (by decide)) (fun k_ hk => ⟨⟨hk.1.1.2, hk.1.2⟩, hk.2⟩))).1 k_ hk_.symm) ?aF ?aO ?aB ?aS ?aL ?_; (case aP => exact Kd.M_row (Kd.R_mono (Kd.R_tight rfl (Kd.R_mono (ok' := fun k_ => ((fun k_ => some k_ ≠ (v157 : Value).ownBlock ∧ some k_ ≠ (.slice Ao11 x4_2.length co11 : Value).ownBlock)) k_ ∧ some k_ ≠ (u6 : Value).ownBlock) (Kd.R_apart' (HO167.out) (Kd.S_typed HO_6.out) (by decide)) (fun k_ hk => ⟨⟨hk.1.1.2, hk.1.2⟩, hk.2⟩))) (fun _ h_ => h_))); (case aB => exact (BL HB.out)); (case aF => exact (fun k_ hk => ⟨Kd.fresh' (Kd.R_lt (PR HO_3.out)) k_ hk, Kd.fresh' (Kd.R_lt (PR HO_4.out)) k_ hk⟩)); (case aO => exact (by (with_reducible repeat (first | apply Kd.S_alloc | apply Kd.S_drewN | apply Kd.S_drew)); exact Kd.S_mono HO_6.out (fun k_ hk => ⟨⟨hk.1.1, hk.1.2⟩, fun e_ => hk.2 e_⟩))); (case aS => exact (below_size (BL HB.out))); (case aL => have := LMc23.out; omega); intro v169 w29 ho hb hg hat; rw [← Ny168.out] at ho; refine E6 (Kd.R_over' (PR HO_3.out) (Kd.S_typed (PS HO_6.out)) (by decide) hg) (Kd.R_over' (PR HO_4.out) (Kd.S_typed (PS HO_6.out)) (by decide) hg) (bG BK155.out hg (Kd.S_ne HO_6.out BK155.out (by decide))) (bG BK164.out hg (Kd.S_ne HO_6.out BK164.out (by decide))) (hb) (ho) ?_; clear HO_3 HO_4 BK155 BK164 HB HO_6 HO167; intro HO_3 HO_4 BK155 BK164 HB HO170; clear ho hb hg hat))
      (try simp only [← hl4_2])
      go_roundg k2
      case measure => have := HK1.out; have := HK2.out; omega
      case rel => exact ⟨(x4_2), (y168), (wrap64 (x27_2 + 1)), RG, H', ⟨by have := HK1.out; have := HK2.out; omega⟩, ⟨by (try simp only [hl4_1]); (try simp only [hl4_2]); (with_reducible repeat (first | apply Kd.R_alloc | apply Kd.R_drewN | apply Kd.R_drew)); exact Kd.R_mono HO_3.out (fun _ hk => hk.1)⟩, ⟨by (try simp only [hl4_1]); (try simp only [hl4_2]); (with_reducible repeat (first | apply Kd.R_alloc | apply Kd.R_drewN | apply Kd.R_drew)); exact Kd.R_mono HO_4.out (fun _ hk => hk.1)⟩, ⟨PS2 HO170.out hl4_1 hl4_2⟩, ⟨PB2 BK155.out hl4_1 hl4_2⟩, ⟨BL HB.out⟩⟩
    have c22b0 := beq_eq_false_iff_ne.mpr c22
    have c22b1 := bne_iff_ne.mpr c22
    have HC31 := Aside0.mk H
    clear H
    have p163 : 0 ≤ (x27_2 : Int) := OD
    have q163 : x27_2 < (l0_2.length : Int) := OD
    obtain ⟨ad163, e163, hx163_0, hx163_1⟩ := at_T73 HR0_2.out x27_2 p163 q163
    cases e163
    replace hx163_0 := (HB.out.cell (World.block_lt_of_cell? w _ hx163_0)).trans hx163_0
    replace hx163_1 := (HB.out.cell (World.block_lt_of_cell? w _ hx163_1)).trans hx163_1
    replace p163 := eq_true p163
    replace q163 := eq_true q163
    go_upto_region 14 with (first | ((with_reducible refine gate_dst (N := 8) rfl ?_); refine boxE (N := 8) (cs := #[.int .i64 0, .int .i64 0]) (t := 73) ?_; intro gb164 hg w32 hbox hb; refine E10 (Kd.R_below (PR HO_3.out) hb) (Kd.R_below (PR HO_4.out) hb) (Kd.S_below (PS HO_6.out) hb) (bB BK155.out hb) (below_step (BL HB.out) hb) (hbox) (gwM hg (below_size (BL HB.out)) : w.heap.size ≤ gb164) (gwM hg (below_size (BL HB.out)) : w.heap.size ≤ gb164) ((nB BK155.out hg : gb155 ≠ gb164)) ((nC BK155.out hg : gb164 ≠ gb155)) ?_; clear HO_3 HO_4 HO_6 BK155 HB; intro HO_3 HO_4 HO_6 BK155 HB BK164 GW164 GE164 NB155_164 NB164_155; clear hb hbox hg; have hnb33 := NB164_155.out; have hnc33 := NB155_164.out; obtain ⟨hcz34_0, hcz34_1, hfz34_0, hfz34_1⟩ := cz2 BK164.out))
    (try simp only [Act.put, List.setIfInBounds_toArray, List.set_cons_zero, List.set_cons_succ])
    go_cut [41] (fun v41 wc => ∃ (kq : Nat) (x41_30 : Bool), v41 = .bool x41_30 ∧ Aside0 (spec_saUnits.j2 kq t156 x4_2 x6_2 x27_2 l0_2 (l0_2.length : Int) x27_2 x41_30 ((rd_T73 l0_2 x27_2).f0) ((rd_T73 l0_2 x27_2).f1) = some r) ∧ Aside0 (kq ≤ k2) ∧ Aside0 (Kd.R (Kd.int .i64) 3 wc w.heap.size (fun k_ => some k_ ≠ ((.slice Ao11 x4_2.length co11) : Value).ownBlock) v157 t156) ∧ Aside0 (Kd.R (Kd.int .i64) 3 wc w.heap.size (fun k_ => some k_ ≠ (v157 : Value).ownBlock) (.slice Ao11 x4_2.length co11) x4_2) ∧ Aside0 (Kd.S (Kd.slice 3 (Kd.int .i64)) 36 wc w.heap.size (fun k_ => some k_ ≠ (v157 : Value).ownBlock ∧ some k_ ≠ ((.slice Ao11 x4_2.length co11) : Value).ownBlock) u6 x6_2) ∧ Aside0 (wc.heap[gb155]? = some (.cells #[.int .i64 a0_0, .int .i64 a0_1, (.slice (some ad163) l0_2.length c0_2)] 30 (0, 0))) ∧ Aside0 (wc.heap[gb164]? = some (.cells #[.int .i64 ((rd_T73 l0_2 x27_2).f0), .int .i64 ((rd_T73 l0_2 x27_2).f1)] 73 (0, 0))) ∧ Aside0 (Below w.heap.size w wc))
    case first =>
      have H := HC31.out
      clear HC31
      replace H := ifQ H; rcases H with ⟨c35, H⟩ | ⟨c35, H⟩
      · have c35b0 := beq_iff_eq.mpr c35
        have c35b1 := bne_eq_false_iff_eq.mpr c35
        clear c35
        (first | rw [c35b0] | (simp only [i64_w, i32_w]; rw [c35b0]) | skip)
        replace H := ifN H; obtain ⟨c36b0, H⟩ := H
        replace H := ifN H; obtain ⟨c37b0, H⟩ := H
        replace H := ifN H; obtain ⟨c38b0, H⟩ := H
        have H' := Aside0.mk H
        clear H
        have hnb39 := NB164_155.out
        have hnc39 := NB155_164.out
        obtain ⟨hcz40_0, hcz40_1, hfz40_0, hfz40_1⟩ := cz2 BK164.out
        obtain ⟨Ao41, co41, eo41⟩ := Kd.R_slice HO_3.out
        subst eo41
        have p171 : 0 ≤ (x27_2 : Int) := OD
        have q171 : x27_2 < (t156.length : Int) := OD
        obtain ⟨ad171, e171, hx171_0⟩ := Kd.at_int (Kd.R_reads' HO_3.out).2.2 x27_2 p171 q171
        cases e171
        have hn171_0 : ad171.block ≠ gb164 := Kd.own_blk (Kd.R_ne HO_3.out BK164.out (by decide))
        have hn171_1 : ad171.block ≠ gb164 := Kd.own_blk (Kd.R_ne HO_3.out BK164.out (by decide))
        replace hx171_0 := (cell_far (p := ⟨gb164, 0, none⟩) (by first | (rw [add_block]; exact hn171_0) | (show (Addr.add _ _).block ≠ _; rw [add_block]; exact hn171_0) | exact hn171_0) (.int .i64 ((rd_T73 l0_2 x27_2).f0))).trans hx171_0
        replace hx171_0 := (cell_far (p := ⟨gb164, 1, none⟩) (by first | (rw [add_block]; exact hn171_1) | (show (Addr.add _ _).block ≠ _; rw [add_block]; exact hn171_1) | exact hn171_1) (.int .i64 ((rd_T73 l0_2 x27_2).f1))).trans hx171_0
        clear hn171_0
        clear hn171_1
        replace p171 := eq_true p171
        replace q171 := eq_true q171
        have p172 : 0 ≤ ((rd t156 x27_2) : Int) := OD
        have q172 : (rd t156 x27_2) < (x4_2.length : Int) := OD
        obtain ⟨ad172, e172, hx172_0⟩ := Kd.at_int (Kd.R_reads' HO_4.out).2.2 (rd t156 x27_2) p172 q172
        cases e172
        have hn172_0 : ad172.block ≠ gb164 := Kd.own_blk (Kd.R_ne HO_4.out BK164.out (by decide))
        have hn172_1 : ad172.block ≠ gb164 := Kd.own_blk (Kd.R_ne HO_4.out BK164.out (by decide))
        replace hx172_0 := (cell_far (p := ⟨gb164, 0, none⟩) (by first | (rw [add_block]; exact hn172_0) | (show (Addr.add _ _).block ≠ _; rw [add_block]; exact hn172_0) | exact hn172_0) (.int .i64 ((rd_T73 l0_2 x27_2).f0))).trans hx172_0
        replace hx172_0 := (cell_far (p := ⟨gb164, 1, none⟩) (by first | (rw [add_block]; exact hn172_1) | (show (Addr.add _ _).block ≠ _; rw [add_block]; exact hn172_1) | exact hn172_1) (.int .i64 ((rd_T73 l0_2 x27_2).f1))).trans hx172_0
        clear hn172_0
        clear hn172_1
        replace p172 := eq_true p172
        replace q172 := eq_true q172
        go_wp2
        go_meet
        case rel => exact ⟨_, (decide ((rd x4_2 (rd t156 x27_2)) < 0)), RG, H', ⟨by have := HK1.out; have := HK2.out; first | omega | exact Nat.le_refl _⟩, ⟨by (try simp only [hl4_1]); (try simp only [hl4_2]); (with_reducible repeat (first | apply Kd.R_alloc | apply Kd.R_drewN | apply Kd.R_drew)); exact Kd.R_mono (Kd.R_far (p := ⟨gb164, 1, none⟩) (Kd.R_far (p := ⟨gb164, 0, none⟩) (Kd.R_types HO_3.out BK164.out (by decide)) (fun _ hk => hk.2) (.int .i64 ((rd_T73 l0_2 x27_2).f0))) (fun _ hk => hk.2) (.int .i64 ((rd_T73 l0_2 x27_2).f1))) (fun _ hk => hk.1)⟩, ⟨by (try simp only [hl4_1]); (try simp only [hl4_2]); (with_reducible repeat (first | apply Kd.R_alloc | apply Kd.R_drewN | apply Kd.R_drew)); exact Kd.R_mono (Kd.R_far (p := ⟨gb164, 1, none⟩) (Kd.R_far (p := ⟨gb164, 0, none⟩) (Kd.R_types HO_4.out BK164.out (by decide)) (fun _ hk => hk.2) (.int .i64 ((rd_T73 l0_2 x27_2).f0))) (fun _ hk => hk.2) (.int .i64 ((rd_T73 l0_2 x27_2).f1))) (fun _ hk => hk.1)⟩, ⟨by (try simp only [hl4_1]); (try simp only [hl4_2]); (with_reducible repeat (first | apply Kd.S_alloc | apply Kd.S_drewN | apply Kd.S_drew)); exact Kd.S_mono (Kd.S_far (p := ⟨gb164, 1, none⟩) (Kd.S_far (p := ⟨gb164, 0, none⟩) (Kd.S_types HO_6.out BK164.out (by decide)) (fun _ hk => hk.2) (.int .i64 ((rd_T73 l0_2 x27_2).f0))) (fun _ hk => hk.2) (.int .i64 ((rd_T73 l0_2 x27_2).f1))) (fun _ hk => ⟨hk.1.1, hk.1.2⟩)⟩, ⟨by (try simp only [hl4_1]); (try simp only [hl4_2]); (with_reducible repeat (first | refine blk_drewN ?_ _ | refine blk_drew ?_ | refine blk_alloc ?_ _)); refine blk_far ?_ NB155_164.out _; (with_reducible repeat (first | refine blk_drewN ?_ _ | refine blk_drew ?_ | refine blk_alloc ?_ _)); refine blk_far ?_ NB155_164.out _; (with_reducible repeat (first | refine blk_drewN ?_ _ | refine blk_drew ?_ | refine blk_alloc ?_ _)); exact BK155.out⟩, ⟨by (try simp only [hl4_1]); (try simp only [hl4_2]); (with_reducible repeat (first | refine blk_drewN ?_ _ | refine blk_drew ?_ | refine blk_alloc ?_ _)); refine blk_put (cs := #[.int .i64 ((rd_T73 l0_2 x27_2).f0), .int .i64 0]) ?_ 1 _ rfl; (with_reducible repeat (first | refine blk_drewN ?_ _ | refine blk_drew ?_ | refine blk_alloc ?_ _)); refine blk_put (cs := #[.int .i64 0, .int .i64 0]) ?_ 0 _ rfl; (with_reducible repeat (first | refine blk_drewN ?_ _ | refine blk_drew ?_ | refine blk_alloc ?_ _)); exact BK164.out⟩, ⟨BL HB.out⟩⟩
      have c35b0 := beq_eq_false_iff_ne.mpr c35
      have c35b1 := bne_iff_ne.mpr c35
      (first | rw [c35b0] | (simp only [i64_w, i32_w]; rw [c35b0]) | skip)
      have H' := Aside0.mk H
      clear H
      have hnb42 := NB164_155.out
      have hnc42 := NB155_164.out
      obtain ⟨hcz43_0, hcz43_1, hfz43_0, hfz43_1⟩ := cz2 BK164.out
      go_wp2
      go_meet
      case rel => exact ⟨_, (false), RG, H', ⟨by have := HK1.out; have := HK2.out; first | omega | exact Nat.le_refl _⟩, ⟨by (try simp only [hl4_1]); (try simp only [hl4_2]); (with_reducible repeat (first | apply Kd.R_alloc | apply Kd.R_drewN | apply Kd.R_drew)); exact Kd.R_mono (Kd.R_far (p := ⟨gb164, 1, none⟩) (Kd.R_far (p := ⟨gb164, 0, none⟩) (Kd.R_types HO_3.out BK164.out (by decide)) (fun _ hk => hk.2) (.int .i64 ((rd_T73 l0_2 x27_2).f0))) (fun _ hk => hk.2) (.int .i64 ((rd_T73 l0_2 x27_2).f1))) (fun _ hk => hk.1)⟩, ⟨by (try simp only [hl4_1]); (try simp only [hl4_2]); (with_reducible repeat (first | apply Kd.R_alloc | apply Kd.R_drewN | apply Kd.R_drew)); exact Kd.R_mono (Kd.R_far (p := ⟨gb164, 1, none⟩) (Kd.R_far (p := ⟨gb164, 0, none⟩) (Kd.R_types HO_4.out BK164.out (by decide)) (fun _ hk => hk.2) (.int .i64 ((rd_T73 l0_2 x27_2).f0))) (fun _ hk => hk.2) (.int .i64 ((rd_T73 l0_2 x27_2).f1))) (fun _ hk => hk.1)⟩, ⟨by (try simp only [hl4_1]); (try simp only [hl4_2]); (with_reducible repeat (first | apply Kd.S_alloc | apply Kd.S_drewN | apply Kd.S_drew)); exact Kd.S_mono (Kd.S_far (p := ⟨gb164, 1, none⟩) (Kd.S_far (p := ⟨gb164, 0, none⟩) (Kd.S_types HO_6.out BK164.out (by decide)) (fun _ hk => hk.2) (.int .i64 ((rd_T73 l0_2 x27_2).f0))) (fun _ hk => hk.2) (.int .i64 ((rd_T73 l0_2 x27_2).f1))) (fun _ hk => ⟨hk.1.1, hk.1.2⟩)⟩, ⟨by (try simp only [hl4_1]); (try simp only [hl4_2]); (with_reducible repeat (first | refine blk_drewN ?_ _ | refine blk_drew ?_ | refine blk_alloc ?_ _)); refine blk_far ?_ NB155_164.out _; (with_reducible repeat (first | refine blk_drewN ?_ _ | refine blk_drew ?_ | refine blk_alloc ?_ _)); refine blk_far ?_ NB155_164.out _; (with_reducible repeat (first | refine blk_drewN ?_ _ | refine blk_drew ?_ | refine blk_alloc ?_ _)); exact BK155.out⟩, ⟨by (try simp only [hl4_1]); (try simp only [hl4_2]); (with_reducible repeat (first | refine blk_drewN ?_ _ | refine blk_drew ?_ | refine blk_alloc ?_ _)); refine blk_put (cs := #[.int .i64 ((rd_T73 l0_2 x27_2).f0), .int .i64 0]) ?_ 1 _ rfl; (with_reducible repeat (first | refine blk_drewN ?_ _ | refine blk_drew ?_ | refine blk_alloc ?_ _)); refine blk_put (cs := #[.int .i64 0, .int .i64 0]) ?_ 0 _ rfl; (with_reducible repeat (first | refine blk_drewN ?_ _ | refine blk_drew ?_ | refine blk_alloc ?_ _)); exact BK164.out⟩, ⟨BL HB.out⟩⟩
    clear HC31
    try clear c19b0; try clear c20b0; try clear c21b0; try clear c22; try clear c22b0; try clear c22b1; try clear hcz34_0; try clear hcz34_1; try clear hfz34_0; try clear hfz34_1; try clear hx163_0; try clear hx163_1; try clear p163; try clear q163
    obtain ⟨kq, x41_30, rfl, HA, HJ30, HO_3, HO_4, HO_6, BK155, BK164, HB⟩ := hcut
    cases kq with
    | zero => exact absurd HA.out (by simp [spec_saUnits.j2])
    | succ kj30 => ?_
    have H := HA.out
    clear HA
    simp only [spec_saUnits.j2] at H
    replace H := ifX H; rcases H with ⟨rfl, H⟩ | ⟨rfl, H⟩
    · replace H := ifN H; obtain ⟨c45b0, H⟩ := H
      replace H := ifN H; obtain ⟨c46b0, H⟩ := H
      replace H := ifN H; obtain ⟨c47b0, H⟩ := H
      replace H := ifN H; obtain ⟨c48b0, H⟩ := H
      generalize hy174 : ((x4_2.set ((rd t156 x27_2) : Int).toNat (x6_2.length : Int)) : List Int) = y174 at H
      have Ny174 := Aside0.mk hy174.symm; clear hy174
      generalize hy175 : ((([x27_2] : List Int)) : List Int) = y175 at H
      have Ny175 := Aside0.mk hy175.symm; clear hy175
      replace H := ifP H; obtain ⟨c50, H⟩ := H
      have LMc50 := Aside0.mk c50
      clear c50
      generalize hy178 : ((x6_2 ++ [y175]) : List (List Int)) = y178 at H
      have Ny178 := Aside0.mk hy178.symm; clear hy178
      have H' := Aside0.mk H
      clear H
      obtain ⟨Ao51, co51, eo51⟩ := Kd.R_slice HO_3.out
      subst eo51
      have p173 : 0 ≤ (x27_2 : Int) := OD
      have q173 : x27_2 < (t156.length : Int) := OD
      obtain ⟨ad173, e173, hx173_0⟩ := Kd.at_int (Kd.R_reads' HO_3.out).2.2 x27_2 p173 q173
      cases e173
      replace p173 := eq_true p173
      replace q173 := eq_true q173
      obtain ⟨Ao52, co52, eo52⟩ := Kd.S_slice HO_6.out
      subst eo52
      have p49 : 0 ≤ ((rd t156 x27_2) : Int) := OD
      have q49 : ((rd t156 x27_2) : Int) < ((x4_2.length : Int) : Int) := OD
      obtain ⟨go49, co49, eo49, gb49, gl49, cl49, HG49⟩ := Kd.R_form HO_4.out (by omega)
      (first | cases eo49 | (injection eo49 with ea_ en_ ec_; (first | subst ea_ | (injection ea_ with ea_; subst ea_)); subst ec_; clear en_))
      have GB49 := Aside0.mk gb49
      have GG49 := Aside0.mk HG49
      clear gb49 gl49 HG49
      obtain ⟨hx49_0, hf49_0⟩ := Kd.R_celln 0 HO_4.out ((rd t156 x27_2) : Int) p49 q49
      replace p49 := eq_true p49
      replace q49 := eq_true q49
      have HP53 := Kd.R_putg HO_4.out ((rd t156 x27_2) : Int) (x6_2.length : Int)
      go_wp2_with (first | ((with_reducible refine gate_store (t := 3) (p := 62) rfl ?_); refine storeE (t := 3) (p := 62) (w1 := (wc.setCell ⟨go49, ((rd t156 x27_2) : Int).toNat, none⟩ (.int .i64 (x6_2.length : Int)))) ?_; intro w54 hw; have hg : wc.grownBy w54 (some go49) := (by rw [hw]; exact HP53.2); have hp_ : Kd.R (Kd.int .i64) 3 w54 w.heap.size (fun k_ => some k_ ≠ (.slice (some ad173) t156.length co51 : Value).ownBlock) (.slice (some ⟨go49, 0, none⟩) x4_2.length co11) y174 := (by rw [hw, Ny174.out]; exact HP53.1); clear HP53; refine E6 (Kd.R_after (v := (.slice (some ⟨go49, 0, none⟩) x4_2.length co11)) (v1 := (.slice (some ⟨go49, 0, none⟩) x4_2.length co11)) (ok := (fun _ => True)) (by (with_reducible repeat (first | apply Kd.R_alloc | apply Kd.R_drewN | apply Kd.R_drew)); exact Kd.R_mono HO_3.out (fun _ hk => ⟨trivial, hk⟩)) hg (.inl rfl)) (hp_) (Kd.S_after (v := (.slice (some ⟨go49, 0, none⟩) x4_2.length co11)) (v1 := (.slice (some ⟨go49, 0, none⟩) x4_2.length co11)) (ok := (fun k_ => some k_ ≠ (.slice (some ad173) t156.length co51 : Value).ownBlock)) (PS HO_6.out) hg (.inl rfl)) (bG BK155.out hg (Kd.R_ne HO_4.out BK155.out (by decide))) (bG BK164.out hg (Kd.R_ne HO_4.out BK164.out (by decide))) ((by rw [hw]; exact below_set (HB.out) GB49.out : Below w.heap.size w w54)) ?_; clear HO_3 HO_4 HO_6 BK155 BK164 HB; intro HO_3 HO_4 HO_6 BK155 BK164 HB; clear hg hw hp_) | ((with_reducible refine gate_dst (N := 65) rfl ?_); refine Kd.R_lit (Kd.int .i64) _ 3 ?hg (N := 65) ?hd (xs := ([x27_2] : List Int)) (inner := [.int .i64 x27_2]) (ok := fun _ => True) (okp := fun _ => True) ?hr ?hp (fun _ hk => hk) trivial (Below.refl _ _) (Nat.le_refl _) (by simp) ?_; (case hd => rfl); (case hg => rfl); (case hr => first | (go_simp; done) | (go_simp; rfl)); (case hp => exact (Reps.one (show Kd.M (Kd.int .i64) _ _ _ x27_2 [.int .i64 x27_2] from rfl) (Reps.none _ _))); intro v176 w55 ho56 hb hg_ hnew_; clear hg_ hnew_; (first | rw [← Ny175.out] at ho56 | (simp only [Int.reduceToNat] at ho56; rw [← Ny175.out] at ho56)); refine E7 (Kd.R_elder' (PR HO_3.out) (Kd.R_base ho56) hb) (Kd.R_elder' (PR HO_4.out) (Kd.R_base ho56) hb) (Kd.S_elder' (PS HO_6.out) (Kd.R_base ho56) hb) (Kd.R_lower (Kd.R_new' (Kd.R_new' ho56 (Kd.R_lt (PR HO_3.out))) (Kd.R_lt (PR HO_4.out))) (below_size (BL HB.out))) (bB BK155.out hb) (bB BK164.out hb) (below_step (BL HB.out) hb) ?_; clear HO_3 HO_4 HO_6 BK155 BK164 HB; intro HO_3 HO_4 HO_6 HO177 BK155 BK164 HB; clear hb ho56; obtain ⟨Ao58, co58, eo58⟩ := Kd.R_slice HO177.out; subst eo58) | ((with_reducible refine gate_builtin (b := .append) (xs := #[.tmp 63, .tmp 66]) rfl ?_); at_builtin; refine Kd.S_append (Kd.slice 3 (Kd.int .i64)) (w0 := w) w.heap.size rfl (.tmp 63) (.tmp 66) 48 36 (.slice none 0 0) 24 rfl Try.underlying48 info36 rfl (by decide) (by omega) (.slice Ao52 x6_2.length co52) x6_2 y175 [.slice Ao58 y175.length co58] (fun k_ => some k_ ≠ (.slice (some ad173) t156.length co51 : Value).ownBlock ∧ some k_ ≠ (.slice (some ⟨go49, 0, none⟩) x4_2.length co11 : Value).ownBlock) (fun k_ => some k_ = (.slice Ao58 y175.length co58 : Value).ownBlock) rfl rfl ?aP (fun k_ hk_ => ((Kd.R_mono (ok' := fun k_ => ((fun k_ => some k_ ≠ (.slice (some ad173) t156.length co51 : Value).ownBlock ∧ some k_ ≠ (.slice (some ⟨go49, 0, none⟩) x4_2.length co11 : Value).ownBlock)) k_ ∧ some k_ ≠ (.slice Ao52 x6_2.length co52 : Value).ownBlock) (Kd.R_apart' (HO177.out) (Kd.S_typed HO_6.out) (by decide)) (fun k_ hk => ⟨⟨hk.1.1.2, hk.1.2⟩, hk.2⟩))).1 k_ hk_.symm) ?aF ?aO ?aB ?aS ?aL ?_; (case aP => exact Kd.M_row (Kd.R_mono (Kd.R_tight rfl (Kd.R_mono (ok' := fun k_ => ((fun k_ => some k_ ≠ (.slice (some ad173) t156.length co51 : Value).ownBlock ∧ some k_ ≠ (.slice (some ⟨go49, 0, none⟩) x4_2.length co11 : Value).ownBlock)) k_ ∧ some k_ ≠ (.slice Ao52 x6_2.length co52 : Value).ownBlock) (Kd.R_apart' (HO177.out) (Kd.S_typed HO_6.out) (by decide)) (fun k_ hk => ⟨⟨hk.1.1.2, hk.1.2⟩, hk.2⟩))) (fun _ h_ => h_))); (case aB => exact (BL HB.out)); (case aF => exact (fun k_ hk => ⟨Kd.fresh' (Kd.R_lt (PR HO_3.out)) k_ hk, Kd.fresh' (Kd.R_lt (PR HO_4.out)) k_ hk⟩)); (case aO => exact (by (with_reducible repeat (first | apply Kd.S_alloc | apply Kd.S_drewN | apply Kd.S_drew)); exact Kd.S_mono HO_6.out (fun k_ hk => ⟨⟨hk.1.1, hk.1.2⟩, fun e_ => hk.2 e_⟩))); (case aS => exact (below_size (BL HB.out))); (case aL => have := LMc50.out; omega); intro v179 w57 ho hb hg hat; rw [← Ny178.out] at ho; refine E6 (Kd.R_over' (PR HO_3.out) (Kd.S_typed (PS HO_6.out)) (by decide) hg) (Kd.R_over' (PR HO_4.out) (Kd.S_typed (PS HO_6.out)) (by decide) hg) (bG BK155.out hg (Kd.S_ne HO_6.out BK155.out (by decide))) (bG BK164.out hg (Kd.S_ne HO_6.out BK164.out (by decide))) (hb) (ho) ?_; clear HO_3 HO_4 BK155 BK164 HB HO_6 HO177; intro HO_3 HO_4 BK155 BK164 HB HO180; clear ho hb hg hat))
      (try simp only [← hl4_2])
      go_roundg kj30
      case measure => have := HK1.out; have := HK2.out; have := HJ30.out; omega
      case rel => exact ⟨(y174), (y178), (wrap64 (x27_2 + 1)), RG, H', ⟨by have := HK1.out; have := HK2.out; have := HJ30.out; omega⟩, ⟨by (try simp only [hl4_1]); (try simp only [hl4_2]); (with_reducible repeat (first | apply Kd.R_alloc | apply Kd.R_drewN | apply Kd.R_drew)); exact Kd.R_mono HO_3.out (fun _ hk => hk.1.2)⟩, ⟨by (try simp only [hl4_1]); (try simp only [hl4_2]); (with_reducible repeat (first | apply Kd.R_alloc | apply Kd.R_drewN | apply Kd.R_drew)); exact Kd.R_mono HO_4.out (fun _ hk => hk.1)⟩, ⟨PS2 HO180.out hl4_1 hl4_2⟩, ⟨PB2 BK155.out hl4_1 hl4_2⟩, ⟨BL HB.out⟩⟩
    replace H := ifQ H; rcases H with ⟨c59, H⟩ | ⟨c59, H⟩
    · have c59b0 := beq_iff_eq.mpr c59
      have c59b1 := bne_eq_false_iff_eq.mpr c59
      clear c59
      replace H := ifN H; obtain ⟨c60b0, H⟩ := H
      replace H := ifN H; obtain ⟨c61b0, H⟩ := H
      replace H := ifN H; obtain ⟨c62b0, H⟩ := H
      replace H := ifN H; obtain ⟨c63b0, H⟩ := H
      replace H := ifN H; obtain ⟨c64b0, H⟩ := H
      replace H := ifN H; obtain ⟨c65b0, H⟩ := H
      replace H := ifP H; obtain ⟨c66, H⟩ := H
      have LMc66 := Aside0.mk c66
      clear c66
      generalize hy186 : (((rd_L3 x6_2 (rd x4_2 (rd t156 x27_2))) ++ [x27_2]) : List Int) = y186 at H
      have Ny186 := Aside0.mk hy186.symm; clear hy186
      generalize hy189 : ((x6_2.set ((rd x4_2 (rd t156 x27_2)) : Int).toNat y186) : List (List Int)) = y189 at H
      have Ny189 := Aside0.mk hy189.symm; clear hy189
      have H' := Aside0.mk H
      clear H
      have hnb68 := NB164_155.out
      have hnc68 := NB155_164.out
      obtain ⟨hcz69_0, hcz69_1, hfz69_0, hfz69_1⟩ := cz2 BK164.out
      try go_wp2
      refine E6 (Kd.R_drew HO_3.out) (Kd.R_drew HO_4.out) (Kd.S_drew HO_6.out) (blk_drew BK155.out) (blk_drew BK164.out) (below_drew1 HB.out) ?_
      clear HO_3 HO_4 HO_6 BK155 BK164 HB
      intro HO_3 HO_4 HO_6 BK155 BK164 HB
      obtain ⟨Ao71, co71, eo71⟩ := Kd.R_slice HO_3.out
      (first | subst eo71 | (injection eo71 with f1_ f2_ f3_; have f4_ := f1_.symm; have f5_ := f3_.symm; clear f1_ f2_ f3_; subst f4_; subst f5_))
      have p181 : 0 ≤ (x27_2 : Int) := OD
      have q181 : x27_2 < (t156.length : Int) := OD
      obtain ⟨ad181, e181, hx181_0⟩ := Kd.at_int (Kd.R_reads' HO_3.out).2.2 x27_2 p181 q181
      cases e181
      replace p181 := eq_true p181
      replace q181 := eq_true q181
      have p182 : 0 ≤ ((rd t156 x27_2) : Int) := OD
      have q182 : (rd t156 x27_2) < (x4_2.length : Int) := OD
      obtain ⟨ad182, e182, hx182_0⟩ := Kd.at_int (Kd.R_reads' HO_4.out).2.2 (rd t156 x27_2) p182 q182
      cases e182
      replace p182 := eq_true p182
      replace q182 := eq_true q182
      have p183 : 0 ≤ (x27_2 : Int) := OD
      have q183 : x27_2 < (t156.length : Int) := OD
      obtain ⟨ad183, e183, hx183_0⟩ := Kd.at_int (Kd.R_reads' HO_3.out).2.2 x27_2 p183 q183
      obtain rfl : ad181 = ad183 := (by injection e183)
      replace p183 := eq_true p183
      replace q183 := eq_true q183
      have p184 : 0 ≤ ((rd t156 x27_2) : Int) := OD
      have q184 : (rd t156 x27_2) < (x4_2.length : Int) := OD
      obtain ⟨ad184, e184, hx184_0⟩ := Kd.at_int (Kd.R_reads' HO_4.out).2.2 (rd t156 x27_2) p184 q184
      obtain rfl : ad182 = ad184 := (by injection e184)
      replace p184 := eq_true p184
      replace q184 := eq_true q184
      obtain ⟨Ao72, co72, eo72⟩ := Kd.S_slice HO_6.out
      (first | subst eo72 | (injection eo72 with f1_ f2_ f3_; have f4_ := f1_.symm; have f5_ := f3_.symm; clear f1_ f2_ f3_; subst f4_; subst f5_))
      have p185 : 0 ≤ ((rd x4_2 (rd t156 x27_2)) : Int) := OD
      have q185 : (rd x4_2 (rd t156 x27_2)) < (x6_2.length : Int) := OD
      obtain ⟨ad185, A185_0, c185_0, e185, hx185_0, hl185_0, hi185_0⟩ := at_L3 (Kd.S_reads' HO_6.out).2.2 (rd x4_2 (rd t156 x27_2)) p185 q185
      cases e185
      obtain ⟨ce185, hce185, hMe185, hcc185⟩ := Kd.S_get HO_6.out [] (rd x4_2 (rd t156 x27_2)) p185 (by first | exact q185 | exact OD | (have e_ := (Kd.S_reads' HO_6.out).1; omega))
      obtain ⟨ve185_0, rfl, ge185_0⟩ := hMe185
      have hv185_0 := hcc185 0 _ rfl
      rw [Nat.add_zero, show ((Kd.slice 3 (Kd.int .i64))).sz = 1 from rfl, Nat.mul_one] at hv185_0
      replace hv185_0 := Option.some.inj (hv185_0.symm.trans hx185_0)
      rw [hv185_0] at ge185_0
      have HL185_0 := Aside0.mk (show Kd.R (Kd.int .i64) 3 _ _ _ _ (rd_L3 x6_2 (rd x4_2 (rd t156 x27_2))) from ge185_0)
      clear hv185_0 ge185_0
      have HX185_0 := Aside0.mk hx185_0
      clear hcc185 hce185
      have HR185_0 := Aside0.mk hi185_0
      have HC185_0 := Aside0.mk hl185_0
      clear hi185_0 hl185_0
      replace p185 := eq_true p185
      replace q185 := eq_true q185
      obtain ⟨go73, co73, eo73, gb73, gl73, cl73, HG73⟩ := Kd.S_form HO_6.out (by have h_ : ((rd x4_2 (rd t156 x27_2)) : Int) < ((x6_2.length : Int) : Int) := OD; have h2_ : 0 ≤ ((rd x4_2 (rd t156 x27_2)) : Int) := (OD); omega)
      (first | cases eo73 | (injection eo73 with ea_ en_ ec_; (first | subst ea_ | (injection ea_ with ea_; subst ea_)); subst ec_; clear en_))
      have GB73 := Aside0.mk gb73
      have GG73 := Aside0.mk HG73
      clear gb73 gl73 HG73
      (first | simp only [add_plain] at hx185_0 | skip)
      obtain ⟨oki73, ce73, hcl73, hM73, hcc73, _, _, hH73⟩ := Kd.S_elem HO_6.out [] ((rd x4_2 (rd t156 x27_2)) : Int) (OD) (by have h_ : ((rd x4_2 (rd t156 x27_2)) : Int) < ((x6_2.length : Int) : Int) := OD; first | exact h_ | (have e_ := (Kd.S_reads' HO_6.out).1; omega) | simpa using h_)
      obtain ⟨ve73_0, rfl, ge73_0⟩ := hM73
      have hv73 := hcc73 0 _ rfl
      have hX73 := HX185_0.out
      (try simp only [add_plain] at hX73)
      (try simp only [Nat.add_zero] at hv73)
      (try rw [show ((Kd.slice 3 (Kd.int .i64))).sz = 1 from rfl, Nat.mul_one] at hv73)
      replace hv73 := Option.some.inj (hv73.symm.trans hX73)
      subst hv73
      clear hX73 hcc73 hcl73
      have UU73 := Aside0.mk (show Kd.R (Kd.int .i64) 3 _ w.heap.size oki73 (.slice A185_0 (rd_L3 x6_2 (rd x4_2 (rd t156 x27_2))).length c185_0) (rd_L3 x6_2 (rd x4_2 (rd t156 x27_2))) from ge73_0)
      have HH73 := Aside0.mk hH73
      have HN73 := Aside0.mk (Kd.S_reads' HO_6.out).1
      clear hH73 ge73_0
      refine start_ (n := 23) (S := fun w' => w'.cell? (ad181.add (x27_2).toNat) = some (.int .i64 (rd t156 x27_2)) ∧ w'.cell? (ad182.add ((rd t156 x27_2)).toNat) = some (.int .i64 (rd x4_2 (rd t156 x27_2))) ∧ w'.cell? (ad181.add (x27_2).toNat) = some (.int .i64 (rd t156 x27_2)) ∧ w'.cell? (ad182.add ((rd t156 x27_2)).toNat) = some (.int .i64 (rd x4_2 (rd t156 x27_2))) ∧ w'.cell? ⟨go73, ((rd x4_2 (rd t156 x27_2))).toNat, none⟩ = some (.slice A185_0 (rd_L3 x6_2 (rd x4_2 (rd t156 x27_2))).length c185_0)) (ds := [22]) #[false, false, false, false, false, false, false, false, false, false, false, false, false, false, false, false, false, false, false, false, false, false, false] (by kernel_rfl) rfl rfl ⟨hx181_0, hx182_0, hx183_0, hx184_0, hx185_0⟩ (fun hHeld => ?_); refine with_tabW spec_saUnits.tab18 spec_saUnits.bits18 (fun HT_ HW_ => ?_)
      generalize wc.drew = w70 at HO_3 HO_4 HO_6 BK155 BK164 HB GG73 HH73 HL185_0 HR185_0 HX185_0 UU73 hx181_0 hx182_0 hx183_0 hx184_0 hx185_0 hHeld ⊢
      refine pureE (i := 0) (N := some 72) #[true, false, false, false, false, false, false, false, false, false, false, false, false, false, false, false, false, false, false, false, false, false, false] HT_.out ?_
      refine pureE (i := 1) (N := some 73) #[true, true, false, false, false, false, false, false, false, false, false, false, false, false, false, false, false, false, false, false, false, false, false] HT_.out ?_
      refine pureE (i := 2) (N := some 74) #[true, true, true, false, false, false, false, false, false, false, false, false, false, false, false, false, false, false, false, false, false, false, false] HT_.out ?_
      refine pureE (i := 3) (N := some 75) #[true, true, true, true, false, false, false, false, false, false, false, false, false, false, false, false, false, false, false, false, false, false, false] HT_.out ?_
      refine pureE (i := 4) (N := some 76) #[true, true, true, true, true, false, false, false, false, false, false, false, false, false, false, false, false, false, false, false, false, false, false] HT_.out ?_
      refine pureE (i := 8) (N := some 80) #[true, true, true, true, true, false, false, false, true, false, false, false, false, false, false, false, false, false, false, false, false, false, false] HT_.out ?_
      refine pureE (i := 9) (N := some 81) #[true, true, true, true, true, false, false, false, true, true, false, false, false, false, false, false, false, false, false, false, false, false, false] HT_.out ?_
      refine pureE (i := 10) (N := some 82) #[true, true, true, true, true, false, false, false, true, true, true, false, false, false, false, false, false, false, false, false, false, false, false] HT_.out ?_
      refine pureE (i := 11) (N := some 83) #[true, true, true, true, true, false, false, false, true, true, true, true, false, false, false, false, false, false, false, false, false, false, false] HT_.out ?_
      refine pureE (i := 12) (N := some 84) #[true, true, true, true, true, false, false, false, true, true, true, true, true, false, false, false, false, false, false, false, false, false, false] HT_.out ?_
      refine pureE (i := 18) (N := some 90) #[true, true, true, true, true, false, false, false, true, true, true, true, true, false, false, false, false, false, true, false, false, false, false] HT_.out ?_
      refine take_ (i := 5) (N := some 77) (v := ?_) (a' := ?_) #[true, true, true, true, true, true, false, false, true, true, true, true, true, false, false, false, false, false, true, false, false, false, false] rfl rfl (take_ofW HT_.out HW_.out (by kernel_rfl)) (fun _ _ _ h => h) (Or.inl ⟨by rfl, ?_⟩) hHeld ?_ ?_
      rotate_left
      · rintro w' ⟨s0, s1, s2, s3, s4⟩
        go_simp
        with_reducible rfl
      rotate_left
      · simp only [Act.put, List.setIfInBounds_toArray, List.set_cons_zero, List.set_cons_succ, i64_w, i32_w]
        rfl
      refine pureE (i := 6) (N := some 78) #[true, true, true, true, true, true, true, false, true, true, true, true, true, false, false, false, false, false, true, false, false, false, false] HT_.out ?_
      refine take_ (i := 7) (N := some 79) (v := ?_) (a' := ?_) #[true, true, true, true, true, true, true, true, true, true, true, true, true, false, false, false, false, false, true, false, false, false, false] rfl rfl (take_ofW HT_.out HW_.out (by kernel_rfl)) (fun _ _ _ h => h) (Or.inl ⟨by rfl, ?_⟩) hHeld ?_ ?_
      rotate_left
      · rintro w' ⟨s0, s1, s2, s3, s4⟩
        go_simp
        with_reducible rfl
      rotate_left
      · simp only [Act.put, List.setIfInBounds_toArray, List.set_cons_zero, List.set_cons_succ, i64_w, i32_w]
        rfl
      refine take_ (i := 13) (N := some 85) (v := ?_) (a' := ?_) #[true, true, true, true, true, true, true, true, true, true, true, true, true, true, false, false, false, false, true, false, false, false, false] rfl rfl (take_ofW HT_.out HW_.out (by kernel_rfl)) (fun _ _ _ h => h) (Or.inl ⟨by rfl, ?_⟩) hHeld ?_ ?_
      rotate_left
      · rintro w' ⟨s0, s1, s2, s3, s4⟩
        go_simp
        with_reducible rfl
      rotate_left
      · simp only [Act.put, List.setIfInBounds_toArray, List.set_cons_zero, List.set_cons_succ, i64_w, i32_w]
        rfl
      refine pureE (i := 14) (N := some 86) #[true, true, true, true, true, true, true, true, true, true, true, true, true, true, true, false, false, false, true, false, false, false, false] HT_.out ?_
      refine take_ (i := 15) (N := some 87) (v := ?_) (a' := ?_) #[true, true, true, true, true, true, true, true, true, true, true, true, true, true, true, true, false, false, true, false, false, false, false] rfl rfl (take_ofW HT_.out HW_.out (by kernel_rfl)) (fun _ _ _ h => h) (Or.inl ⟨by rfl, ?_⟩) hHeld ?_ ?_
      rotate_left
      · rintro w' ⟨s0, s1, s2, s3, s4⟩
        go_simp
        with_reducible rfl
      rotate_left
      · simp only [Act.put, List.setIfInBounds_toArray, List.set_cons_zero, List.set_cons_succ, i64_w, i32_w]
        rfl
      refine pureE (i := 16) (N := some 88) #[true, true, true, true, true, true, true, true, true, true, true, true, true, true, true, true, true, false, true, false, false, false, false] HT_.out ?_
      refine take_ (i := 17) (N := some 89) (v := ?_) (a' := ?_) #[true, true, true, true, true, true, true, true, true, true, true, true, true, true, true, true, true, true, true, false, false, false, false] rfl rfl (take_ofW HT_.out HW_.out (by kernel_rfl)) (fun _ _ _ h => h) (Or.inl ⟨by rfl, ?_⟩) hHeld ?_ ?_
      rotate_left
      · rintro w' ⟨s0, s1, s2, s3, s4⟩
        go_simp
        with_reducible rfl
      rotate_left
      · simp only [Act.put, List.setIfInBounds_toArray, List.set_cons_zero, List.set_cons_succ, i64_w, i32_w]
        rfl
      refine one_ (i := 19) (N := some 91) #[true, true, true, true, true, true, true, true, true, true, true, true, true, true, true, true, true, true, true, true, false, false, false] rfl rfl (one_of HT_.out (by kernel_rfl)) (by decide) (fun K hK => ?_)
      refine value_ (w1 := ?_) (v := ?_) (by rfl) rfl ?_ ?_
      rotate_left 2
      · go_simp
        constructor
        · rfl
        rfl
      refine hK.out _ _ ⟨(World.cell?_alloc_lt _ _ _ (World.block_lt_of_cell? _ _ (hHeld.1))).trans (hHeld.1), (World.cell?_alloc_lt _ _ _ (World.block_lt_of_cell? _ _ (hHeld.2.1))).trans (hHeld.2.1), (World.cell?_alloc_lt _ _ _ (World.block_lt_of_cell? _ _ (hHeld.2.2.1))).trans (hHeld.2.2.1), (World.cell?_alloc_lt _ _ _ (World.block_lt_of_cell? _ _ (hHeld.2.2.2.1))).trans (hHeld.2.2.2.1), (World.cell?_alloc_lt _ _ _ (World.block_lt_of_cell? _ _ (hHeld.2.2.2.2))).trans (hHeld.2.2.2.2)⟩ (fun hHeld => ?_)
      clear hK K
      refine norm_ (a' := ?_) ?_ ?_
      rotate_left
      · show Act.put _ (some 91) _ = _
        simp only [Act.put, List.setIfInBounds_toArray, List.set_cons_zero, List.set_cons_succ, i64_w, i32_w]
        rfl
      refine one_ (i := 20) (N := some 92) #[true, true, true, true, true, true, true, true, true, true, true, true, true, true, true, true, true, true, true, true, true, false, false] rfl rfl (one_of HT_.out (by kernel_rfl)) (by decide) (fun K hK => ?_)
      refine Kd.R_append_step (Kd.int .i64) (w0 := w) w.heap.size (by rfl) (.tmp 89) (.tmp 91) 36 3 (.int .i64 0) 8 rfl Try.underlying36 info3 rfl (by decide) (by omega) (.slice A185_0 (rd_L3 x6_2 (rd x4_2 (rd t156 x27_2))).length c185_0) (rd_L3 x6_2 (rd x4_2 (rd t156 x27_2))) x27_2 [.int .i64 x27_2] (fun k_ => oki73 k_ ∨ ((fun k_ => some k_ ≠ (.slice (some ad181) t156.length co71 : Value).ownBlock ∧ some k_ ≠ (.slice (some ad182) x4_2.length co11 : Value).ownBlock)) k_ ∧ w70.heap.size ≤ k_) (fun _ => False) rfl rfl ?aP (fun _ hk => hk.elim) ?aF ?aO ?aB ?aS ?aL ?_
      (case aP => exact rfl)
      (case aB => exact (BL HB.out))
      (case aF => exact (fun k_ hk => .inr ⟨⟨Kd.fresh' (Kd.R_lt (PR HO_3.out)) k_ hk, Kd.fresh' (Kd.R_lt (PR HO_4.out)) k_ hk⟩, hk⟩))
      (case aO => exact (by (with_reducible repeat (first | apply Kd.R_alloc | apply Kd.R_drewN | apply Kd.R_drew)); exact Kd.R_mono UU73.out (fun _ hk => .inl hk)))
      (case aS => exact (below_size (BL HB.out)))
      (case aL => have := LMc66.out; omega)
      intro v187 w74 ho hb hg hat
      (first | have HS0_ := cell_grown hg (hHeld.1) (by first | (rw [add_block]; exact (fun e_ => ((HL185_0.out.1 _ e_.symm).1.1) rfl)) | (show some (Addr.add _ _).block ≠ _; rw [add_block]; exact (fun e_ => ((HL185_0.out.1 _ e_.symm).1.1) rfl)) | exact (fun e_ => ((HL185_0.out.1 _ e_.symm).1.1) rfl)) | have HS0_ := cell_grown hg (cell_unalloc (hHeld.1) (by first | (rw [add_block]; exact Kd.R_lt HO_3.out _ rfl) | (show (Addr.add _ _).block < _; rw [add_block]; exact Kd.R_lt HO_3.out _ rfl) | exact Kd.R_lt HO_3.out _ rfl)) (by first | (rw [add_block]; exact (fun e_ => ((HL185_0.out.1 _ e_.symm).1.1) rfl)) | (show some (Addr.add _ _).block ≠ _; rw [add_block]; exact (fun e_ => ((HL185_0.out.1 _ e_.symm).1.1) rfl)) | exact (fun e_ => ((HL185_0.out.1 _ e_.symm).1.1) rfl)))
      (first | have HS1_ := cell_grown hg (hHeld.2.1) (by first | (rw [add_block]; exact (fun e_ => ((HL185_0.out.1 _ e_.symm).1.2) rfl)) | (show some (Addr.add _ _).block ≠ _; rw [add_block]; exact (fun e_ => ((HL185_0.out.1 _ e_.symm).1.2) rfl)) | exact (fun e_ => ((HL185_0.out.1 _ e_.symm).1.2) rfl)) | have HS1_ := cell_grown hg (cell_unalloc (hHeld.2.1) (by first | (rw [add_block]; exact Kd.R_lt HO_4.out _ rfl) | (show (Addr.add _ _).block < _; rw [add_block]; exact Kd.R_lt HO_4.out _ rfl) | exact Kd.R_lt HO_4.out _ rfl)) (by first | (rw [add_block]; exact (fun e_ => ((HL185_0.out.1 _ e_.symm).1.2) rfl)) | (show some (Addr.add _ _).block ≠ _; rw [add_block]; exact (fun e_ => ((HL185_0.out.1 _ e_.symm).1.2) rfl)) | exact (fun e_ => ((HL185_0.out.1 _ e_.symm).1.2) rfl)))
      (first | have HS2_ := cell_grown hg (hHeld.2.2.1) (by first | (rw [add_block]; exact (fun e_ => ((HL185_0.out.1 _ e_.symm).1.1) rfl)) | (show some (Addr.add _ _).block ≠ _; rw [add_block]; exact (fun e_ => ((HL185_0.out.1 _ e_.symm).1.1) rfl)) | exact (fun e_ => ((HL185_0.out.1 _ e_.symm).1.1) rfl)) | have HS2_ := cell_grown hg (cell_unalloc (hHeld.2.2.1) (by first | (rw [add_block]; exact Kd.R_lt HO_3.out _ rfl) | (show (Addr.add _ _).block < _; rw [add_block]; exact Kd.R_lt HO_3.out _ rfl) | exact Kd.R_lt HO_3.out _ rfl)) (by first | (rw [add_block]; exact (fun e_ => ((HL185_0.out.1 _ e_.symm).1.1) rfl)) | (show some (Addr.add _ _).block ≠ _; rw [add_block]; exact (fun e_ => ((HL185_0.out.1 _ e_.symm).1.1) rfl)) | exact (fun e_ => ((HL185_0.out.1 _ e_.symm).1.1) rfl)))
      (first | have HS3_ := cell_grown hg (hHeld.2.2.2.1) (by first | (rw [add_block]; exact (fun e_ => ((HL185_0.out.1 _ e_.symm).1.2) rfl)) | (show some (Addr.add _ _).block ≠ _; rw [add_block]; exact (fun e_ => ((HL185_0.out.1 _ e_.symm).1.2) rfl)) | exact (fun e_ => ((HL185_0.out.1 _ e_.symm).1.2) rfl)) | have HS3_ := cell_grown hg (cell_unalloc (hHeld.2.2.2.1) (by first | (rw [add_block]; exact Kd.R_lt HO_4.out _ rfl) | (show (Addr.add _ _).block < _; rw [add_block]; exact Kd.R_lt HO_4.out _ rfl) | exact Kd.R_lt HO_4.out _ rfl)) (by first | (rw [add_block]; exact (fun e_ => ((HL185_0.out.1 _ e_.symm).1.2) rfl)) | (show some (Addr.add _ _).block ≠ _; rw [add_block]; exact (fun e_ => ((HL185_0.out.1 _ e_.symm).1.2) rfl)) | exact (fun e_ => ((HL185_0.out.1 _ e_.symm).1.2) rfl)))
      (first | have HS4_ := cell_grown hg (hHeld.2.2.2.2) (by first | (rw [add_block]; exact (fun e_ => ((HL185_0.out.1 _ e_.symm).2) rfl)) | (show some (Addr.add _ _).block ≠ _; rw [add_block]; exact (fun e_ => ((HL185_0.out.1 _ e_.symm).2) rfl)) | exact (fun e_ => ((HL185_0.out.1 _ e_.symm).2) rfl)) | have HS4_ := cell_grown hg (cell_unalloc (hHeld.2.2.2.2) (by first | (rw [add_block]; exact Kd.S_lt HO_6.out _ rfl) | (show (Addr.add _ _).block < _; rw [add_block]; exact Kd.S_lt HO_6.out _ rfl) | exact Kd.S_lt HO_6.out _ rfl)) (by first | (rw [add_block]; exact (fun e_ => ((HL185_0.out.1 _ e_.symm).2) rfl)) | (show some (Addr.add _ _).block ≠ _; rw [add_block]; exact (fun e_ => ((HL185_0.out.1 _ e_.symm).2) rfl)) | exact (fun e_ => ((HL185_0.out.1 _ e_.symm).2) rfl)))
      rw [← Ny186.out] at ho
      refine E7 (Kd.R_grown2 (PR HO_3.out) rfl hg (fun k_ e_ => (HL185_0.out.1 k_ e_).1.1)) (Kd.R_grown2 (PR HO_4.out) rfl hg (fun k_ e_ => (HL185_0.out.1 k_ e_).1.2)) (bG BK155.out hg (Kd.R_ne HL185_0.out BK155.out (by decide))) (bG BK164.out hg (Kd.R_ne HL185_0.out BK164.out (by decide))) (hb) (Kd.H_grown (Kd.H_widen (by repeat (first | exact HH73.out | refine Kd.H_alloc ?_ _ | refine Kd.H_drewN ?_ _ | refine Kd.H_drew ?_))) hg (fun k_ e_ => .inl (UU73.out.1 k_ e_))) (ho) ?_
      clear HO_3 HO_4 BK155 BK164 HB HH73 HO_6 UU73 HL185_0
      intro HO_3 HO_4 BK155 BK164 HB HH73 HO188
      clear ho hb hg hat
      have p67 : 0 ≤ ((rd x4_2 (rd t156 x27_2)) : Int) := OD
      have q67 : ((rd x4_2 (rd t156 x27_2)) : Int) < ((x6_2.length : Int) : Int) := OD
      replace p67 := eq_true p67
      replace q67 := eq_true q67
      obtain ⟨Ao77, co77, eo77⟩ := Kd.R_slice HO188.out
      (first | subst eo77 | (injection eo77 with f1_ f2_ f3_; have f4_ := f1_.symm; have f5_ := f3_.symm; clear f1_ f2_ f3_; subst f4_; subst f5_))
      obtain ⟨_, _, hraw75, _, _, hcc75, _⟩ := Kd.H_raw HH73.out (OD) (by have h_ : ((rd x4_2 (rd t156 x27_2)) : Int) < ((x6_2.length : Int) : Int) := OD; first | exact h_ | (have e_ := (HN73.out); omega) | simpa using h_)
      obtain ⟨_, hfr75⟩ := Kd.H_at HH73.out (OD) (by have h_ : ((rd x4_2 (rd t156 x27_2)) : Int) < ((x6_2.length : Int) : Int) := OD; first | exact h_ | (have e_ := (HN73.out); omega) | simpa using h_)
      have hx75_0 := hcc75 0 _ rfl
      have hf75_0 := hfr75 0
      (try simp only [Nat.add_zero] at hx75_0 hf75_0)
      (try rw [show ((Kd.slice 3 (Kd.int .i64))).sz = 1 from rfl, Nat.mul_one] at hx75_0)
      (try rw [show ((Kd.slice 3 (Kd.int .i64))).sz = 1 from rfl, Nat.mul_one] at hf75_0)
      have HP75 := Kd.S_seg0 HH73.out (OD) (by have h_ : ((rd x4_2 (rd t156 x27_2)) : Int) < ((x6_2.length : Int) : Int) := OD; first | exact h_ | (have e_ := (HN73.out); omega) | simpa using h_) (seg := [.slice Ao77 y186.length co77]) (j := 0) (show 1 ≤ 1 from by decide) (x' := y186) (Kd.M_row HO188.out) (fun _ hk => hk)
      (try simp only [show ((Kd.slice 3 (Kd.int .i64))).sz = 1 from rfl, Nat.mul_one, Nat.add_zero] at HP75)
      clear hcc75 hfr75
      have HNB155_go73 := Aside0.mk (show gb155 ≠ go73 from by have h_ := Kd.R_ne hraw75 BK155.out (by decide); intro e_; exact h_ (by rw [e_]; rfl))
      have HNB164_go73 := Aside0.mk (show gb164 ≠ go73 from by have h_ := Kd.R_ne hraw75 BK164.out (by decide); intro e_; exact h_ (by rw [e_]; rfl))
      have HS75 := HP75.1
      rw [← Ny189.out] at HS75
      have HQ75 := Aside0.mk HS75
      obtain ⟨_, hgg75⟩ := Kd.R_typed hraw75 go73 rfl
      have GG75_ := Aside0.mk hgg75
      clear HP75 HS75 hgg75
      refine hK.out _ _ ⟨HS0_, HS1_, HS2_, HS3_, HS4_⟩ (fun hHeld => ?_)
      clear hK K
      refine norm_ (a' := ?_) ?_ ?_
      rotate_left
      · show Act.put _ (some 92) _ = _
        simp only [Act.put, List.setIfInBounds_toArray, List.set_cons_zero, List.set_cons_succ, i64_w, i32_w]
        rfl
      refine pureE (i := 21) (N := some 93) #[true, true, true, true, true, true, true, true, true, true, true, true, true, true, true, true, true, true, true, true, true, true, false] HT_.out ?_
      refine last_ (i := 22) (N := none) #[true, true, true, true, true, true, true, true, true, true, true, true, true, true, true, true, true, true, true, true, true, true, true] rfl rfl (one_of HT_.out (by kernel_rfl)) (by decide) (fun K hK => ?_)
      refine skip_ (w1 := ?_) (by rfl) rfl ?_ ?_
      rotate_left
      · go_simp
        rfl
      refine hK.out _ _ ?_
      clear hK K
      refine done_ (done_of HT_.out (by kernel_rfl)) ?_
      try go_wp2
      (try simp only [← hl4_2])
      go_roundg kj30
      case measure => have := HK1.out; have := HK2.out; have := HJ30.out; omega
      case rel => exact ⟨(x4_2), (y189), (wrap64 (x27_2 + 1)), RG, H', ⟨by have := HK1.out; have := HK2.out; have := HJ30.out; omega⟩, ⟨by (try simp only [hl4_1]); (try simp only [hl4_2]); (with_reducible repeat (first | apply Kd.R_alloc | apply Kd.R_drewN | apply Kd.R_drew)); exact Kd.R_mono (Kd.R_far (p := ⟨go73, ((rd x4_2 (rd t156 x27_2)) : Int).toNat, none⟩) (Kd.R_types HO_3.out GG75_.out (by decide)) (fun _ hk => hk.2) (.slice Ao77 y186.length co77)) (fun _ hk => hk.1)⟩, ⟨by (try simp only [hl4_1]); (try simp only [hl4_2]); (with_reducible repeat (first | apply Kd.R_alloc | apply Kd.R_drewN | apply Kd.R_drew)); exact Kd.R_mono (Kd.R_far (p := ⟨go73, ((rd x4_2 (rd t156 x27_2)) : Int).toNat, none⟩) (Kd.R_types HO_4.out GG75_.out (by decide)) (fun _ hk => hk.2) (.slice Ao77 y186.length co77)) (fun _ hk => hk.1)⟩, ⟨PS2 HQ75.out hl4_1 hl4_2⟩, ⟨by (try simp only [hl4_1]); (try simp only [hl4_2]); (with_reducible repeat (first | refine blk_drewN ?_ _ | refine blk_drew ?_ | refine blk_alloc ?_ _)); refine blk_far ?_ HNB155_go73.out _; (with_reducible repeat (first | refine blk_drewN ?_ _ | refine blk_drew ?_ | refine blk_alloc ?_ _)); exact BK155.out⟩, ⟨by repeat (first | (with_reducible first | exact HB.out | apply below_alloc | apply pw_below_drewN | apply below_drew1 | refine below_set ?_ GB73.out | refine below_set ?_ GE155.out | refine below_set ?_ GE164.out) | exact HB.out)⟩⟩
    have c59b0 := beq_eq_false_iff_ne.mpr c59
    have c59b1 := bne_iff_ne.mpr c59
    have H' := Aside0.mk H
    clear H
    have hnb78 := NB164_155.out
    have hnc78 := NB155_164.out
    obtain ⟨hcz79_0, hcz79_1, hfz79_0, hfz79_1⟩ := cz2 BK164.out
    go_wp2
    (try simp only [← hl4_2])
    go_roundg kj30
    case measure => have := HK1.out; have := HK2.out; have := HJ30.out; omega
    case rel => exact ⟨(x4_2), (x6_2), (wrap64 (x27_2 + 1)), RG, H', ⟨by have := HK1.out; have := HK2.out; have := HJ30.out; omega⟩, ⟨PR2 HO_3.out hl4_1 hl4_2⟩, ⟨PR2 HO_4.out hl4_1 hl4_2⟩, ⟨PS2 HO_6.out hl4_1 hl4_2⟩, ⟨PB2 BK155.out hl4_1 hl4_2⟩, ⟨BL HB.out⟩⟩
  (try simp only [hl4_1, hl4_2] at c19b0)
  obtain rfl := Option.some.inj H
  go_wp2
  go_ret
  exact ⟨_, RF, by (with_reducible repeat (first | apply Kd.S_alloc | apply Kd.S_drewN | apply Kd.S_drew)); exact Kd.S_mono HO_6.out (fun _ hk => trivial), BL HB.out⟩
/-! ### laws_toCell: function 75 -/
def laws_toCell.f (a0_0 : Int) (a0_1 : Int) : Option (Int × Int) := some (a0_0, a0_1)
set_option maxHeartbeats 8000000 in
set_option maxRecDepth 100000 in
theorem laws_toCell.calls (a0_0 : Int) (a0_1 : Int) (r1 : Int) (r2 : Int) (w : World) (h : laws_toCell.f a0_0 a0_1 = some (r1, r2)) :
    Calls Try.prog 75 #[.agg #[.int .i64 a0_0, .int .i64 a0_1]] w fun e w' => e = .returned (.agg #[.int .i64 r1, .int .i64 r2]) ∧ Below w.heap.size w w' := by
  have hu84 := Try.underlying84
  have hu73 := Try.underlying73
  have HB := Aside0.mk (Below.refl w.heap.size w)
  have H := h
  clear h
  unfold laws_toCell.f at H
  simp only [Option.some.injEq, Prod.mk.injEq] at H
  obtain ⟨rfl, rfl⟩ := H
  go_enter Try.func75, Try.ntmps75
  go_wp2_with (first | ((with_reducible refine gate_dst (N := 1) rfl ?_); refine boxE (N := 1) (cs := #[.int .i64 a0_0, .int .i64 a0_1]) (t := 84) ?_; intro gb214 hg w2 hbox hb; refine E4b HB.out hg hbox hb ?_; clear HB; intro HB BK214 GW214 GE214; clear hb hbox hg) | ((with_reducible refine gate_dst (N := 2) rfl ?_); refine boxE (N := 2) (cs := #[.int .i64 0, .int .i64 0]) (t := 73) ?_; intro gb215 hg w3 hbox hb; refine E7 (bB BK214.out hb) (below_step (BL HB.out) hb) (hbox) (gwM hg (below_size (BL HB.out)) : w.heap.size ≤ gb215) (gwM hg (below_size (BL HB.out)) : w.heap.size ≤ gb215) ((nB BK214.out hg : gb214 ≠ gb215)) ((nC BK214.out hg : gb215 ≠ gb214)) ?_; clear BK214 HB; intro BK214 HB BK215 GW215 GE215 NB214_215 NB215_214; clear hb hbox hg) | ((with_reducible refine gate_dst (N := 3) rfl ?_); refine boxE (N := 3) (cs := #[.int .i64 0, .int .i64 0]) (t := 73) ?_; intro gb216 hg w4 hbox hb; refine E10 (bB BK214.out hb) (bB BK215.out hb) (below_step (BL HB.out) hb) (hbox) (gwM hg (below_size (BL HB.out)) : w.heap.size ≤ gb216) (gwM hg (below_size (BL HB.out)) : w.heap.size ≤ gb216) ((nB BK214.out hg : gb214 ≠ gb216)) ((nC BK214.out hg : gb216 ≠ gb214)) ((nB BK215.out hg : gb215 ≠ gb216)) ((nC BK215.out hg : gb216 ≠ gb215)) ?_; clear BK214 BK215 HB; intro BK214 BK215 HB BK216 GW216 GE216 NB214_216 NB216_214 NB215_216 NB216_215; clear hb hbox hg; have hnb5 := NB214_215.out; have hnc5 := NB215_214.out; have hnb6 := NB214_216.out; have hnc6 := NB216_214.out; obtain ⟨hcz7_0, hcz7_1, hfz7_0, hfz7_1⟩ := cz2 BK214.out; have hnb8 := NB216_215.out; have hnc8 := NB215_216.out; obtain ⟨hcz9_0, hcz9_1, hfz9_0, hfz9_1⟩ := cz2 BK216.out; obtain ⟨hcz10_0, hcz10_1, hfz10_0, hfz10_1⟩ := cz2 BK215.out))
  refine bodyPost_ret (results_cell_row rfl _ _ gb215 73 #[.int .i64 a0_0, .int .i64 a0_1] (0, 0) _ rfl (by (with_reducible repeat (first | refine blk_drewN ?_ _ | refine blk_drew ?_ | refine blk_alloc ?_ _)); refine blk_put (cs := #[.int .i64 a0_0, .int .i64 0]) ?_ 1 _ rfl; (with_reducible repeat (first | refine blk_drewN ?_ _ | refine blk_drew ?_ | refine blk_alloc ?_ _)); refine blk_put (cs := #[.int .i64 0, .int .i64 0]) ?_ 0 _ rfl; (with_reducible repeat (first | refine blk_drewN ?_ _ | refine blk_drew ?_ | refine blk_alloc ?_ _)); refine blk_far ?_ NB215_216.out _; (with_reducible repeat (first | refine blk_drewN ?_ _ | refine blk_drew ?_ | refine blk_alloc ?_ _)); refine blk_far ?_ NB215_216.out _; (with_reducible repeat (first | refine blk_drewN ?_ _ | refine blk_drew ?_ | refine blk_alloc ?_ _)); exact BK215.out) Try.underlying73 rfl (by kernel_rfl)) rfl ?_
  exact ⟨RF, BL HB.out⟩

/-! ### laws_toCellS: function 49 -/
def laws_toCellS.l0 : Nat → List (S84) → List (S73) → Int → Option ((List (S73)))
  | 0, _, _, _ => none
  | k + 1, x0, x3, x4 => if x4 < (x0.length : Int) then (if 0 ≤ x4 then ((laws_toCell.f ((rd_T84 x0 x4).f0) ((rd_T84 x0 x4).f1)).bind fun bt221 => (if x4 < (x3.length : Int) then (laws_toCellS.l0 k x0 (x3.set (x4 : Int).toNat (⟨bt221.1, bt221.2⟩ : S73)) (wrap64 (x4 + 1))) else (none))) else (none)) else (some x3)
def laws_toCellS.f (k : Nat) (l0 : List (S84)) : Option ((List (S73))) := if 0 ≤ (l0.length : Int) then (if ((l0.length : Int) : Int).toNat ≤ 17592186044416 then (laws_toCellS.l0 k l0 (List.replicate ((l0.length : Int) : Int).toNat z73) 0) else (none)) else (none)
theorem laws_toCellS.mono_l : ∀ k, (∀ y0 y1 y2, LeO (laws_toCellS.l0 k y0 y1 y2) (laws_toCellS.l0 (k + 1) y0 y1 y2))
  | 0 => fun _ _ _ r h => by simp [laws_toCellS.l0] at h
  | k + 1 => by
    have ih0 := laws_toCellS.mono_l k
    intros
    first | unfold laws_toCellS.l0
    repeat' first | (with_reducible first | apply ih0 | exact LeO.refl _ | exact LeO.none _ | refine LeO.ite ?_ ?_ | refine LeO.bind ?_ (fun _ => ?_)) | apply ih0 | exact LeO.none _ | refine LeO.ite ?_ ?_ | refine LeO.bind ?_ (fun _ => ?_)
theorem laws_toCellS.mono : ∀ a0 k, LeO (laws_toCellS.f k a0) (laws_toCellS.f (k + 1) a0) := by
  intro a0 k
  have ih0 := laws_toCellS.mono_l k
  unfold laws_toCellS.f
  repeat' first | (with_reducible first | apply ih0 | exact LeO.refl _ | exact LeO.none _ | refine LeO.ite ?_ ?_ | refine LeO.bind ?_ (fun _ => ?_)) | apply ih0 | exact LeO.none _ | refine LeO.ite ?_ ?_ | refine LeO.bind ?_ (fun _ => ?_)
set_option maxHeartbeats 8000000 in
set_option maxRecDepth 100000 in
theorem laws_toCellS.calls (k : Nat) (A0 : Option Addr) (c0 : Nat) (l0 : List (S84)) (r : List (S73)) (w : World) (hr0 : Kd.C k84 w A0 l0.length l0) (hc0 : l0.length ≤ c0) (h : laws_toCellS.f k l0 = some r) :
    Calls Try.prog 49 #[.slice A0 l0.length c0] w fun e w' => ∃ v0_ : Value, e = .returned (v0_) ∧ Kd.R k73 73 w' w.heap.size (fun _ => True) v0_ r ∧ Below w.heap.size w w' := by
  have hu84 := Try.underlying84
  have hu73 := Try.underlying73
  have HR0 := Aside0.mk hr0
  have HC0 := Aside0.mk hc0
  clear hr0 hc0
  have HB := Aside0.mk (Below.refl w.heap.size w)
  have H := h
  clear h
  unfold laws_toCellS.f at H
  replace H := ifP H; obtain ⟨c2, H⟩ := H
  have c2b0 := eq_true c2
  have c2b1 := decide_eq_true c2
  clear c2
  replace H := ifP H; obtain ⟨c3, H⟩ := H
  have c3b0 := eq_true c3
  have c3b1 := decide_eq_true c3
  clear c3
  generalize hy217 : ((List.replicate ((l0.length : Int) : Int).toNat z73) : List (S73)) = y217 at H
  have Ny217 := Aside0.mk hy217.symm; clear hy217
  have H' := Aside0.mk H
  clear H
  go_enter Try.func49, Try.ntmps49
  go_wp2_with (first | ((with_reducible refine gate_dst (N := 7) rfl ?_); refine Kd.R_make k73 _ 73 rfl (N := 7) rfl 28 _ _ rfl (l0.length : Int) rfl rfl Try.underlying28 (.agg #[(.int .i64 0), (.int .i64 0)]) 16 info73 rfl (by decide) (by omega) z73 (ok := fun _ => True) (okp := fun _ => True) (k73_mkM _ _ _ z73 ) (fun _ hk => hk) trivial (OD) (Nat.le_trans (Nat.mul_le_mul_right _ (OD : (l0.length : Int).toNat ≤ 17592186044416)) (by omega)) (Below.refl _ _) (Nat.le_refl _) ?_; intro v218 w4 ho5 hb hg_ hnew_; clear hg_ hnew_; (first | rw [← Ny217.out] at ho5 | (simp only [Int.reduceToNat] at ho5; rw [← Ny217.out] at ho5)); refine E2 (Kd.R_lower ho5 (below_size (BL HB.out))) (below_step (BL HB.out) hb) ?_; clear HB; intro HO219 HB; clear hb ho5))
  go_loopg [4] k (fun kq v4 w' => ∃ (x3_1 : List (S73)) (x4_1 : Int), v4 = .int .i64 x4_1 ∧ Aside0 (laws_toCellS.l0 kq l0 x3_1 x4_1 = some r) ∧ Aside0 (kq ≤ k) ∧ Aside0 (Kd.R k73 73 w' w.heap.size (fun _ => True) v218 x3_1) ∧ Aside0 (Below w.heap.size w w'))
  case atStart => exact ⟨(y217), (0), RG, H', ⟨Nat.le_refl _⟩, ⟨PR HO219.out⟩, ⟨BL HB.out⟩⟩
  clear H'
  try clear c2b0; try clear c2b1; try clear c3b0; try clear c3b1
  obtain ⟨x3_1, x4_1, rfl, HA, HK1, HO_3, HB⟩ := hrel
  cases gk with
  | zero => exact absurd HA.out (by simp [laws_toCellS.l0])
  | succ k1 => ?_
  have H := HA.out
  clear HA
  simp only [laws_toCellS.l0] at H
  replace H := ifB H; rcases H with ⟨c6b0, H⟩ | ⟨c6b0, H⟩
  · replace H := ifN H; obtain ⟨c7b0, H⟩ := H
    replace H := bindA H; obtain ⟨⟨t221, t222⟩, A8, H⟩ := H
    dsimp only at H
    replace H := ifN H; obtain ⟨c9b0, H⟩ := H
    generalize hy223 : ((x3_1.set (x4_1 : Int).toNat (⟨t221, t222⟩ : S73)) : List (S73)) = y223 at H
    have Ny223 := Aside0.mk hy223.symm; clear hy223
    have H' := Aside0.mk H
    clear H
    have p220 : 0 ≤ (x4_1 : Int) := OD
    have q220 : x4_1 < (l0.length : Int) := OD
    obtain ⟨ad220, e220, hx220_0, hx220_1⟩ := at_T84 HR0.out x4_1 p220 q220
    cases e220
    replace hx220_0 := (HB.out.cell (World.block_lt_of_cell? w _ hx220_0)).trans hx220_0
    replace hx220_1 := (HB.out.cell (World.block_lt_of_cell? w _ hx220_1)).trans hx220_1
    replace p220 := eq_true p220
    replace q220 := eq_true q220
    go_wp2_with (first | ((with_reducible refine gate_callee (f := 75) rfl ?_); refine goesM (N := (some 20)) #[.agg #[.int .i64 ((rd_T84 l0 x4_1).f0), .int .i64 ((rd_T84 l0 x4_1).f1)]] Try.func75 ?_; (with_reducible refine (laws_toCell.calls ((rd_T84 l0 x4_1).f0) ((rd_T84 l0 x4_1).f1) t221 t222 _ A8.out).mono ?_); rintro e w11 ⟨rfl, hb⟩; refine ⟨_, rfl, ?_⟩; refine E2 (Kd.R_below (PR HO_3.out) hb) (below_step (BL HB.out) hb) ?_; clear HO_3 HB; intro HO_3 HB; (try clear hb); (try clear hb2); (try clear hk); (try clear hi); have p10 : 0 ≤ (x4_1 : Int) := OD; have q10 : (x4_1 : Int) < ((x3_1.length : Int) : Int) := OD; obtain ⟨go10, co10, eo10, gb10, gl10, cl10, HG10⟩ := Kd.R_form HO_3.out (by omega); (first | cases eo10 | (injection eo10 with ea_ en_ ec_; (first | subst ea_ | (injection ea_ with ea_; subst ea_)); subst ec_; clear en_)); have GB10 := Aside0.mk gb10; have GG10 := Aside0.mk HG10; clear gb10 gl10 HG10; obtain ⟨ce10, hcl10, hM10, hcc10, hfr10⟩ := Kd.R_elem HO_3.out z73 (x4_1 : Int) p10 q10; obtain rfl := k73_openM hM10; have hx10_0 : w11.cell? ⟨go10, (x4_1 : Int).toNat * 2, none⟩ = some (.int .i64 ((rd_T73 x3_1 x4_1).f0)) := hcc10 0 _ rfl; have hx10_1 : w11.cell? ⟨go10, (x4_1 : Int).toNat * 2 + 1, none⟩ = some (.int .i64 ((rd_T73 x3_1 x4_1).f1)) := hcc10 1 _ rfl; have hf10_0 : w11.frozen? ⟨go10, (x4_1 : Int).toNat * 2, none⟩ = false := hfr10 0; have hf10_1 : w11.frozen? ⟨go10, (x4_1 : Int).toNat * 2 + 1, none⟩ = false := hfr10 1; clear hcl10 hcc10 hfr10 hM10; replace p10 := eq_true p10; replace q10 := eq_true q10; have HX12 := Aside0.mk (show Kd.R k73 73 w11 w.heap.size (fun _ => True) (.slice (some ⟨go10, 0, none⟩) x3_1.length co10) x3_1 from (PR HO_3.out)); obtain ⟨ce12, hcl12, hM12, hcc12, hfr12⟩ := Kd.R_elem HX12.out z73 (x4_1 : Int) (OD) (by have h_ : (x4_1 : Int) < ((x3_1.length : Int) : Int) := OD; first | exact h_ | (have e_ := (Kd.R_reads' HO_3.out).1; omega) | simpa using h_); obtain rfl := k73_openM hM12; have HP12 := Kd.R_seg HX12.out (x4_1 : Int) (OD) (by have h_ : (x4_1 : Int) < ((x3_1.length : Int) : Int) := OD; first | exact h_ | (have e_ := (Kd.R_reads' HO_3.out).1; omega) | simpa using h_) (seg := [.int .i64 t221, .int .i64 t222]) (j := 0) hcl12 hcc12 (show 2 ≤ 2 from by decide) (x' := (⟨t221, t222⟩ : S73)) (k73_mkM _ _ _ (⟨t221, t222⟩ : S73) ) (fun _ hk => hk); have hx12_0 := hcc12 0 _ rfl; (try simp only [show (k73).sz = 2 from rfl, Nat.mul_one, Nat.add_zero] at hx12_0); have hf12_0 := hfr12 0; (try simp only [show (k73).sz = 2 from rfl, Nat.mul_one, Nat.add_zero] at hf12_0); have hx12_1 := hcc12 1 _ rfl; (try simp only [show (k73).sz = 2 from rfl, Nat.mul_one, Nat.add_zero] at hx12_1); have hf12_1 := hfr12 1; (try simp only [show (k73).sz = 2 from rfl, Nat.mul_one, Nat.add_zero] at hf12_1); clear hcl12 hcc12 hfr12 hM12) | ((with_reducible refine gate_store (t := 73) (p := 21) rfl ?_); refine storeE (t := 73) (p := 21) (w1 := ((w11.setCell ⟨go10, (x4_1 : Int).toNat * 2, none⟩ (.int .i64 t221)).setCell ⟨go10, (x4_1 : Int).toNat * 2 + 1, none⟩ (.int .i64 t222))) ?_; intro w13 hw; have hg : w11.grownBy w13 (some go10) := (by rw [hw]; exact HP12.2); have hp_ : Kd.R k73 73 w13 w.heap.size (fun _ => True) (.slice (some ⟨go10, 0, none⟩) x3_1.length co10) y223 := (by rw [hw, Ny223.out]; exact HP12.1); clear HP12; refine E2 (hp_) ((by rw [hw]; exact below_set (below_set (HB.out) GB10.out) GB10.out : Below w.heap.size w w13)) ?_; clear HO_3 HB; intro HO_3 HB; clear hg hw hp_))
    go_roundg k1
    case measure => have := HK1.out; omega
    case rel => exact ⟨(y223), (wrap64 (x4_1 + 1)), RG, H', ⟨by have := HK1.out; omega⟩, ⟨PR HO_3.out⟩, ⟨BL HB.out⟩⟩
  obtain rfl := Option.some.inj H
  go_wp2
  go_ret
  exact ⟨_, RF, by (with_reducible repeat (first | apply Kd.R_alloc | apply Kd.R_drewN | apply Kd.R_drew)); exact HO_3.out, BL HB.out⟩
/-! ### laws_toBoard: function 15 -/
def laws_toBoard.f (k : Nat) (a0_0 : Int) (a0_1 : Int) (l0_2 : List (S84)) : Option (Int × Int × (List (S73))) := (laws_toCellS.f k l0_2).bind fun t227 => (some (a0_0, a0_1, t227))
theorem laws_toBoard.mono : ∀ a0 a1 a2 k, LeO (laws_toBoard.f k a0 a1 a2) (laws_toBoard.f (k + 1) a0 a1 a2) := by
  intro a0 a1 a2 k
  unfold laws_toBoard.f
  repeat' first
      | (with_reducible exact laws_toCellS.mono _ _)
      | (with_reducible exact LeO.refl _)
      | (with_reducible exact LeO.none _)
      | (with_reducible refine LeO.ite ?_ ?_)
      | (with_reducible refine LeO.bind ?_ (fun _ => ?_))
      | exact laws_toCellS.mono _ _
      | exact LeO.none _
      | refine LeO.ite ?_ ?_
      | refine LeO.bind ?_ (fun _ => ?_)
set_option maxHeartbeats 8000000 in
set_option maxRecDepth 100000 in
theorem laws_toBoard.calls (k : Nat) (a0_0 : Int) (a0_1 : Int) (A0_2 : Option Addr) (c0_2 : Nat) (l0_2 : List (S84)) (r1 : Int) (r2 : Int) (r3 : List (S73)) (w : World) (hr0_2 : Kd.C k84 w A0_2 l0_2.length l0_2) (hc0_2 : l0_2.length ≤ c0_2) (h : laws_toBoard.f k a0_0 a0_1 l0_2 = some (r1, r2, r3)) :
    Calls Try.prog 15 #[.agg #[.int .i64 a0_0, .int .i64 a0_1, .slice A0_2 l0_2.length c0_2]] w fun e w' => ∃ v2_ : Value, e = .returned (.agg #[.int .i64 r1, .int .i64 r2, v2_]) ∧ Kd.R k73 73 w' w.heap.size (fun _ => True) v2_ r3 ∧ Below w.heap.size w w' := by
  have hu24 := Try.underlying24
  have hu30 := Try.underlying30
  have HR0_2 := Aside0.mk hr0_2
  have HC0_2 := Aside0.mk hc0_2
  clear hr0_2 hc0_2
  have HB := Aside0.mk (Below.refl w.heap.size w)
  have H := h
  clear h
  unfold laws_toBoard.f at H
  replace H := bindA H; obtain ⟨t227, A2, H⟩ := H
  simp only [Option.some.injEq, Prod.mk.injEq] at H
  obtain ⟨rfl, rfl, rfl⟩ := H
  go_enter Try.func15, Try.ntmps15
  go_wp2_with (first | ((with_reducible refine gate_dst (N := 1) rfl ?_); refine boxE (N := 1) (cs := #[.int .i64 a0_0, .int .i64 a0_1, .slice A0_2 l0_2.length c0_2]) (t := 24) ?_; intro gb224 hg w3 hbox hb; refine E4b HB.out hg hbox hb ?_; clear HB; intro HB BK224 GW224 GE224; clear hb hbox hg) | ((with_reducible refine gate_dst (N := 2) rfl ?_); refine boxE (N := 2) (cs := #[.int .i64 0, .int .i64 0, .slice none 0 0]) (t := 30) ?_; intro gb225 hg w4 hbox hb; refine E7 (bB BK224.out hb) (below_step (BL HB.out) hb) (hbox) (gwM hg (below_size (BL HB.out)) : w.heap.size ≤ gb225) (gwM hg (below_size (BL HB.out)) : w.heap.size ≤ gb225) ((nB BK224.out hg : gb224 ≠ gb225)) ((nC BK224.out hg : gb225 ≠ gb224)) ?_; clear BK224 HB; intro BK224 HB BK225 GW225 GE225 NB224_225 NB225_224; clear hb hbox hg) | ((with_reducible refine gate_dst (N := 3) rfl ?_); refine boxE (N := 3) (cs := #[.int .i64 0, .int .i64 0, .slice none 0 0]) (t := 30) ?_; intro gb226 hg w5 hbox hb; refine E10 (bB BK224.out hb) (bB BK225.out hb) (below_step (BL HB.out) hb) (hbox) (gwM hg (below_size (BL HB.out)) : w.heap.size ≤ gb226) (gwM hg (below_size (BL HB.out)) : w.heap.size ≤ gb226) ((nB BK224.out hg : gb224 ≠ gb226)) ((nC BK224.out hg : gb226 ≠ gb224)) ((nB BK225.out hg : gb225 ≠ gb226)) ((nC BK225.out hg : gb226 ≠ gb225)) ?_; clear BK224 BK225 HB; intro BK224 BK225 HB BK226 GW226 GE226 NB224_226 NB226_224 NB225_226 NB226_225; clear hb hbox hg; have hnb6 := NB224_225.out; have hnc6 := NB225_224.out; have hnb7 := NB224_226.out; have hnc7 := NB226_224.out; obtain ⟨hcz8_0, hcz8_1, hcz8_2, hfz8_0, hfz8_1, hfz8_2⟩ := cz3 BK224.out; have hnb9 := NB226_225.out; have hnc9 := NB225_226.out; obtain ⟨hcz10_0, hcz10_1, hcz10_2, hfz10_0, hfz10_1, hfz10_2⟩ := cz3 BK226.out) | ((with_reducible refine gate_callee (f := 49) rfl ?_); refine goesM (N := (some 12)) #[.slice A0_2 l0_2.length c0_2] Try.func49 ?_; (with_reducible refine (laws_toCellS.calls k _ _ l0_2 t227 _ ?side1 ?side2 A2.out).mono ?_); (case side1 => exact Kd.C_below HR0_2.out (BL HB.out)); (case side2 => exact HC0_2.out); rintro e w11 ⟨v228, rfl, ho0, hb⟩; refine ⟨_, rfl, ?_⟩; refine E5 (Kd.R_lower ho0 (below_size (BL HB.out))) (blk_below (g := gb224) (o := .cells #[.int .i64 a0_0, .int .i64 a0_1, .slice A0_2 l0_2.length c0_2] 24 (0, 0)) (by (with_reducible repeat (first | refine blk_drewN ?_ _ | refine blk_drew ?_ | refine blk_alloc ?_ _)); refine blk_far ?_ NB224_226.out _; (with_reducible repeat (first | refine blk_drewN ?_ _ | refine blk_drew ?_ | refine blk_alloc ?_ _)); refine blk_far ?_ NB224_226.out _; (with_reducible repeat (first | refine blk_drewN ?_ _ | refine blk_drew ?_ | refine blk_alloc ?_ _)); exact BK224.out) hb) (blk_below (g := gb225) (o := .cells #[.int .i64 0, .int .i64 0, .slice none 0 0] 30 (0, 0)) (by (with_reducible repeat (first | refine blk_drewN ?_ _ | refine blk_drew ?_ | refine blk_alloc ?_ _)); refine blk_far ?_ NB225_226.out _; (with_reducible repeat (first | refine blk_drewN ?_ _ | refine blk_drew ?_ | refine blk_alloc ?_ _)); refine blk_far ?_ NB225_226.out _; (with_reducible repeat (first | refine blk_drewN ?_ _ | refine blk_drew ?_ | refine blk_alloc ?_ _)); exact BK225.out) hb) (blk_below (g := gb226) (o := .cells #[.int .i64 a0_0, .int .i64 a0_1, .slice none 0 0] 30 (0, 0)) (by (with_reducible repeat (first | refine blk_drewN ?_ _ | refine blk_drew ?_ | refine blk_alloc ?_ _)); refine blk_put (cs := #[.int .i64 a0_0, .int .i64 0, .slice none 0 0]) ?_ 1 _ rfl; (with_reducible repeat (first | refine blk_drewN ?_ _ | refine blk_drew ?_ | refine blk_alloc ?_ _)); refine blk_put (cs := #[.int .i64 0, .int .i64 0, .slice none 0 0]) ?_ 0 _ rfl; (with_reducible repeat (first | refine blk_drewN ?_ _ | refine blk_drew ?_ | refine blk_alloc ?_ _)); exact BK226.out) hb) (below_step (BL HB.out) hb) ?_; clear BK224 BK225 BK226 HB; intro HO229 BK224 BK225 BK226 HB; (try clear hb); (try clear hb2); (try clear hk); (try clear hi); (try clear ho0); obtain ⟨Ao12, co12, eo12⟩ := Kd.R_slice HO229.out; subst eo12; obtain ⟨hcz13_0, hcz13_1, hcz13_2, hfz13_0, hfz13_1, hfz13_2⟩ := cz3 BK226.out; obtain ⟨hcz14_0, hcz14_1, hcz14_2, hfz14_0, hfz14_1, hfz14_2⟩ := cz3 BK225.out))
  refine bodyPost_ret (results_cell_row rfl _ _ gb225 30 #[.int .i64 a0_0, .int .i64 a0_1, .slice Ao12 t227.length co12] (0, 0) _ rfl (by (with_reducible repeat (first | refine blk_drewN ?_ _ | refine blk_drew ?_ | refine blk_alloc ?_ _)); refine blk_put (cs := #[.int .i64 a0_0, .int .i64 a0_1, .slice none 0 0]) ?_ 2 _ rfl; (with_reducible repeat (first | refine blk_drewN ?_ _ | refine blk_drew ?_ | refine blk_alloc ?_ _)); refine blk_put (cs := #[.int .i64 a0_0, .int .i64 0, .slice none 0 0]) ?_ 1 _ rfl; (with_reducible repeat (first | refine blk_drewN ?_ _ | refine blk_drew ?_ | refine blk_alloc ?_ _)); refine blk_put (cs := #[.int .i64 0, .int .i64 0, .slice none 0 0]) ?_ 0 _ rfl; (with_reducible repeat (first | refine blk_drewN ?_ _ | refine blk_drew ?_ | refine blk_alloc ?_ _)); refine blk_far ?_ NB225_226.out _; (with_reducible repeat (first | refine blk_drewN ?_ _ | refine blk_drew ?_ | refine blk_alloc ?_ _)); exact BK225.out) Try.underlying30 rfl (by kernel_rfl)) rfl ?_
  exact ⟨_, RF, by (with_reducible repeat (first | apply Kd.R_alloc | apply Kd.R_drewN | apply Kd.R_drew)); exact Kd.R_mono (Kd.R_far (p := ⟨gb225, 2, none⟩) (Kd.R_far (p := ⟨gb225, 1, none⟩) (Kd.R_far (p := ⟨gb225, 0, none⟩) (Kd.R_far (p := ⟨gb226, 2, none⟩) (Kd.R_types (Kd.R_types HO229.out BK226.out (by decide)) BK225.out (by decide)) (fun _ hk => hk.1.2) (.slice Ao12 t227.length co12)) (fun _ hk => hk.2) (.int .i64 a0_0)) (fun _ hk => hk.2) (.int .i64 a0_1)) (fun _ hk => hk.2) (.slice Ao12 t227.length co12)) (fun _ hk => trivial), BL HB.out⟩

/-! ### impl_IsCell: function 84 -/
def impl_IsCell.f (a0_0 : Int) (a0_1 : Int) : Option (Bool) := if a0_0 < 0 then (some false) else (if a0_0 > 7 then (some false) else (if a0_1 < 0 then (some false) else (if a0_1 > 1 then (some false) else (if a0_1 = 0 then (some true) else (if a0_0 = 3 then (some true) else (some (a0_0 == 6)))))))
set_option maxHeartbeats 8000000 in
set_option maxRecDepth 100000 in
theorem impl_IsCell.calls (a0_0 : Int) (a0_1 : Int) (r : Bool) (w : World) (h : impl_IsCell.f a0_0 a0_1 = some r) :
    Calls Try.prog 84 #[.agg #[.int .i64 a0_0, .int .i64 a0_1]] w fun e w' => e = .returned (.bool r) ∧ Below w.heap.size w w' := by
  have hu73 := Try.underlying73
  have HB := Aside0.mk (Below.refl w.heap.size w)
  have H := h
  clear h
  unfold impl_IsCell.f at H
  replace H := ifB H; rcases H with ⟨c2b0, H⟩ | ⟨c2b0, H⟩
  · obtain rfl := Option.some.inj H
    go_enter Try.func84, Try.ntmps84
    go_wp2_with (first | ((with_reducible refine gate_dst (N := 1) rfl ?_); refine boxE (N := 1) (cs := #[.int .i64 a0_0, .int .i64 a0_1]) (t := 73) ?_; intro gb230 hg w3 hbox hb; refine E4b HB.out hg hbox hb ?_; clear HB; intro HB BK230 GW230 GE230; clear hb hbox hg; obtain ⟨hcz4_0, hcz4_1, hfz4_0, hfz4_1⟩ := cz2 BK230.out))
    go_ret
    exact ⟨RF, BL HB.out⟩
  replace H := ifQ H; rcases H with ⟨c5, H⟩ | ⟨c5, H⟩
  · have c5b0 : decide (7 < a0_0) = true := decide_eq_true c5
    clear c5
    obtain rfl := Option.some.inj H
    go_enter Try.func84, Try.ntmps84
    go_wp2_with (first | ((with_reducible refine gate_dst (N := 1) rfl ?_); refine boxE (N := 1) (cs := #[.int .i64 a0_0, .int .i64 a0_1]) (t := 73) ?_; intro gb230 hg w6 hbox hb; refine E4b HB.out hg hbox hb ?_; clear HB; intro HB BK230 GW230 GE230; clear hb hbox hg; obtain ⟨hcz7_0, hcz7_1, hfz7_0, hfz7_1⟩ := cz2 BK230.out))
    go_ret
    exact ⟨RF, BL HB.out⟩
  have c5b0 : decide (7 < a0_0) = false := decide_eq_false c5
  clear c5
  replace H := ifB H; rcases H with ⟨c8b0, H⟩ | ⟨c8b0, H⟩
  · obtain rfl := Option.some.inj H
    go_enter Try.func84, Try.ntmps84
    go_wp2_with (first | ((with_reducible refine gate_dst (N := 1) rfl ?_); refine boxE (N := 1) (cs := #[.int .i64 a0_0, .int .i64 a0_1]) (t := 73) ?_; intro gb230 hg w9 hbox hb; refine E4b HB.out hg hbox hb ?_; clear HB; intro HB BK230 GW230 GE230; clear hb hbox hg; obtain ⟨hcz10_0, hcz10_1, hfz10_0, hfz10_1⟩ := cz2 BK230.out))
    go_ret
    exact ⟨RF, BL HB.out⟩
  replace H := ifQ H; rcases H with ⟨c11, H⟩ | ⟨c11, H⟩
  · have c11b0 : decide (1 < a0_1) = true := decide_eq_true c11
    clear c11
    obtain rfl := Option.some.inj H
    go_enter Try.func84, Try.ntmps84
    go_wp2_with (first | ((with_reducible refine gate_dst (N := 1) rfl ?_); refine boxE (N := 1) (cs := #[.int .i64 a0_0, .int .i64 a0_1]) (t := 73) ?_; intro gb230 hg w12 hbox hb; refine E4b HB.out hg hbox hb ?_; clear HB; intro HB BK230 GW230 GE230; clear hb hbox hg; obtain ⟨hcz13_0, hcz13_1, hfz13_0, hfz13_1⟩ := cz2 BK230.out))
    go_ret
    exact ⟨RF, BL HB.out⟩
  have c11b0 : decide (1 < a0_1) = false := decide_eq_false c11
  clear c11
  replace H := ifQ H; rcases H with ⟨c14, H⟩ | ⟨c14, H⟩
  · have c14b0 := beq_iff_eq.mpr c14
    have c14b1 := bne_eq_false_iff_eq.mpr c14
    clear c14
    obtain rfl := Option.some.inj H
    go_enter Try.func84, Try.ntmps84
    go_wp2_with (first | ((with_reducible refine gate_dst (N := 1) rfl ?_); refine boxE (N := 1) (cs := #[.int .i64 a0_0, .int .i64 a0_1]) (t := 73) ?_; intro gb230 hg w15 hbox hb; refine E4b HB.out hg hbox hb ?_; clear HB; intro HB BK230 GW230 GE230; clear hb hbox hg; obtain ⟨hcz16_0, hcz16_1, hfz16_0, hfz16_1⟩ := cz2 BK230.out))
    go_ret
    exact ⟨RF, BL HB.out⟩
  have c14b0 := beq_eq_false_iff_ne.mpr c14
  have c14b1 := bne_iff_ne.mpr c14
  replace H := ifQ H; rcases H with ⟨c17, H⟩ | ⟨c17, H⟩
  · have c17b0 := beq_iff_eq.mpr c17
    have c17b1 := bne_eq_false_iff_eq.mpr c17
    clear c17
    obtain rfl := Option.some.inj H
    go_enter Try.func84, Try.ntmps84
    go_wp2_with (first | ((with_reducible refine gate_dst (N := 1) rfl ?_); refine boxE (N := 1) (cs := #[.int .i64 a0_0, .int .i64 a0_1]) (t := 73) ?_; intro gb230 hg w18 hbox hb; refine E4b HB.out hg hbox hb ?_; clear HB; intro HB BK230 GW230 GE230; clear hb hbox hg; obtain ⟨hcz19_0, hcz19_1, hfz19_0, hfz19_1⟩ := cz2 BK230.out))
    go_ret
    exact ⟨RF, BL HB.out⟩
  have c17b0 := beq_eq_false_iff_ne.mpr c17
  have c17b1 := bne_iff_ne.mpr c17
  obtain rfl := Option.some.inj H
  go_enter Try.func84, Try.ntmps84
  go_wp2_with (first | ((with_reducible refine gate_dst (N := 1) rfl ?_); refine boxE (N := 1) (cs := #[.int .i64 a0_0, .int .i64 a0_1]) (t := 73) ?_; intro gb230 hg w20 hbox hb; refine E4b HB.out hg hbox hb ?_; clear HB; intro HB BK230 GW230 GE230; clear hb hbox hg; obtain ⟨hcz21_0, hcz21_1, hfz21_0, hfz21_1⟩ := cz2 BK230.out))
  go_ret
  exact ⟨RF, BL HB.out⟩
/-! ### impl_validCells: function 76 -/
def impl_validCells.l0 : Nat → List (S73) → Int → Int → Option (Bool)
  | 0, _, _, _ => none
  | k + 1, x8, x9, x10 => if x10 < x9 then (if 0 ≤ x10 then (if x10 < (x8.length : Int) then ((impl_IsCell.f ((rd_T73 x8 x10).f0) ((rd_T73 x8 x10).f1)).bind fun t233 => (if t233 = true then (impl_validCells.l0 k x8 x9 (wrap64 (x10 + 1))) else (some false))) else (none)) else (none)) else (some true)
def impl_validCells.f (k : Nat) (l0 : List (S73)) : Option (Bool) := if (l0.length : Int) > 90 then (some false) else (impl_validCells.l0 k l0 (l0.length : Int) 0)
theorem impl_validCells.mono_l : ∀ k, (∀ y0 y1 y2, LeO (impl_validCells.l0 k y0 y1 y2) (impl_validCells.l0 (k + 1) y0 y1 y2))
  | 0 => fun _ _ _ r h => by simp [impl_validCells.l0] at h
  | k + 1 => by
    have ih0 := impl_validCells.mono_l k
    intros
    first | unfold impl_validCells.l0
    repeat' first | (with_reducible first | apply ih0 | exact LeO.refl _ | exact LeO.none _ | refine LeO.ite ?_ ?_ | refine LeO.bind ?_ (fun _ => ?_)) | apply ih0 | exact LeO.none _ | refine LeO.ite ?_ ?_ | refine LeO.bind ?_ (fun _ => ?_)
theorem impl_validCells.mono : ∀ a0 k, LeO (impl_validCells.f k a0) (impl_validCells.f (k + 1) a0) := by
  intro a0 k
  have ih0 := impl_validCells.mono_l k
  unfold impl_validCells.f
  repeat' first | (with_reducible first | apply ih0 | exact LeO.refl _ | exact LeO.none _ | refine LeO.ite ?_ ?_ | refine LeO.bind ?_ (fun _ => ?_)) | apply ih0 | exact LeO.none _ | refine LeO.ite ?_ ?_ | refine LeO.bind ?_ (fun _ => ?_)
set_option maxHeartbeats 8000000 in
set_option maxRecDepth 100000 in
theorem impl_validCells.calls (k : Nat) (A0 : Option Addr) (c0 : Nat) (l0 : List (S73)) (r : Bool) (w : World) (hr0 : Kd.C k73 w A0 l0.length l0) (hc0 : l0.length ≤ c0) (h : impl_validCells.f k l0 = some r) :
    Calls Try.prog 76 #[.slice A0 l0.length c0] w fun e w' => e = .returned (.bool r) ∧ Below w.heap.size w w' := by
  have hu73 := Try.underlying73
  have HR0 := Aside0.mk hr0
  have HC0 := Aside0.mk hc0
  clear hr0 hc0
  have HB := Aside0.mk (Below.refl w.heap.size w)
  have H := h
  clear h
  unfold impl_validCells.f at H
  replace H := ifQ H; rcases H with ⟨c2, H⟩ | ⟨c2, H⟩
  · have c2b0 : decide (90 < (l0.length : Int)) = true := decide_eq_true c2
    have c2b1 : decide (90 < l0.length) = true := decide_eq_true (by omega)
    clear c2
    obtain rfl := Option.some.inj H
    go_enter Try.func76, Try.ntmps76
    go_wp2
    go_ret
    exact ⟨RF, BL HB.out⟩
  have c2b0 : decide (90 < (l0.length : Int)) = false := decide_eq_false c2
  have c2b1 : decide (90 < l0.length) = false := decide_eq_false (by omega)
  clear c2
  have H' := Aside0.mk H
  clear H
  go_enter Try.func76, Try.ntmps76
  go_wp2
  go_loopg [10] k (fun kq v10 w' => ∃ (x10_1 : Int), v10 = .int .i64 x10_1 ∧ Aside0 (impl_validCells.l0 kq l0 (l0.length : Int) x10_1 = some r) ∧ Aside0 (kq ≤ k) ∧ Aside0 (Below w.heap.size w w'))
  case atStart => exact ⟨(0), RG, H', ⟨Nat.le_refl _⟩, ⟨BL HB.out⟩⟩
  clear H'
  try clear c2b0; try clear c2b1
  obtain ⟨x10_1, rfl, HA, HK1, HB⟩ := hrel
  cases gk with
  | zero => exact absurd HA.out (by simp [impl_validCells.l0])
  | succ k1 => ?_
  have H := HA.out
  clear HA
  simp only [impl_validCells.l0] at H
  replace H := ifB H; rcases H with ⟨c3b0, H⟩ | ⟨c3b0, H⟩
  · replace H := ifN H; obtain ⟨c4b0, H⟩ := H
    replace H := ifN H; obtain ⟨c5b0, H⟩ := H
    replace H := bindA H; obtain ⟨t233, A6, H⟩ := H
    replace H := ifX H; rcases H with ⟨rfl, H⟩ | ⟨rfl, H⟩
    · have H' := Aside0.mk H
      clear H
      have p231 : 0 ≤ (x10_1 : Int) := OD
      have q231 : x10_1 < (l0.length : Int) := OD
      obtain ⟨ad231, e231, hx231_0, hx231_1⟩ := at_T73 HR0.out x10_1 p231 q231
      cases e231
      replace hx231_0 := (HB.out.cell (World.block_lt_of_cell? w _ hx231_0)).trans hx231_0
      replace hx231_1 := (HB.out.cell (World.block_lt_of_cell? w _ hx231_1)).trans hx231_1
      replace p231 := eq_true p231
      replace q231 := eq_true q231
      go_wp2_with (first | ((with_reducible refine gate_dst (N := 4) rfl ?_); refine boxE (N := 4) (cs := #[.int .i64 0, .int .i64 0]) (t := 73) ?_; intro gb232 hg w8 hbox hb; refine E4b HB.out hg hbox hb ?_; clear HB; intro HB BK232 GW232 GE232; clear hb hbox hg; obtain ⟨hcz9_0, hcz9_1, hfz9_0, hfz9_1⟩ := cz2 BK232.out) | ((with_reducible refine gate_callee (f := 84) rfl ?_); refine goesM (N := (some 15)) #[.agg #[.int .i64 ((rd_T73 l0 x10_1).f0), .int .i64 ((rd_T73 l0 x10_1).f1)]] Try.func84 ?_; (with_reducible refine (impl_IsCell.calls ((rd_T73 l0 x10_1).f0) ((rd_T73 l0 x10_1).f1) true _ A6.out).mono ?_); rintro e w10 ⟨rfl, hb⟩; refine ⟨_, rfl, ?_⟩; refine E2 (blk_below (g := gb232) (o := .cells #[.int .i64 ((rd_T73 l0 x10_1).f0), .int .i64 ((rd_T73 l0 x10_1).f1)] 73 (0, 0)) (by (with_reducible repeat (first | refine blk_drewN ?_ _ | refine blk_drew ?_ | refine blk_alloc ?_ _)); refine blk_put (cs := #[.int .i64 ((rd_T73 l0 x10_1).f0), .int .i64 0]) ?_ 1 _ rfl; (with_reducible repeat (first | refine blk_drewN ?_ _ | refine blk_drew ?_ | refine blk_alloc ?_ _)); refine blk_put (cs := #[.int .i64 0, .int .i64 0]) ?_ 0 _ rfl; (with_reducible repeat (first | refine blk_drewN ?_ _ | refine blk_drew ?_ | refine blk_alloc ?_ _)); exact BK232.out) hb) (below_step (BL HB.out) hb) ?_; clear BK232 HB; intro BK232 HB; (try clear hb); (try clear hb2); (try clear hk); (try clear hi)))
      go_roundg k1
      case measure => have := HK1.out; omega
      case rel => exact ⟨(wrap64 (x10_1 + 1)), RG, H', ⟨by have := HK1.out; omega⟩, ⟨BL HB.out⟩⟩
    obtain rfl := Option.some.inj H
    have p231 : 0 ≤ (x10_1 : Int) := OD
    have q231 : x10_1 < (l0.length : Int) := OD
    obtain ⟨ad231, e231, hx231_0, hx231_1⟩ := at_T73 HR0.out x10_1 p231 q231
    cases e231
    replace hx231_0 := (HB.out.cell (World.block_lt_of_cell? w _ hx231_0)).trans hx231_0
    replace hx231_1 := (HB.out.cell (World.block_lt_of_cell? w _ hx231_1)).trans hx231_1
    replace p231 := eq_true p231
    replace q231 := eq_true q231
    go_wp2_with (first | ((with_reducible refine gate_dst (N := 4) rfl ?_); refine boxE (N := 4) (cs := #[.int .i64 0, .int .i64 0]) (t := 73) ?_; intro gb232 hg w11 hbox hb; refine E4b HB.out hg hbox hb ?_; clear HB; intro HB BK232 GW232 GE232; clear hb hbox hg; obtain ⟨hcz12_0, hcz12_1, hfz12_0, hfz12_1⟩ := cz2 BK232.out) | ((with_reducible refine gate_callee (f := 84) rfl ?_); refine goesM (N := (some 15)) #[.agg #[.int .i64 ((rd_T73 l0 x10_1).f0), .int .i64 ((rd_T73 l0 x10_1).f1)]] Try.func84 ?_; (with_reducible refine (impl_IsCell.calls ((rd_T73 l0 x10_1).f0) ((rd_T73 l0 x10_1).f1) false _ A6.out).mono ?_); rintro e w13 ⟨rfl, hb⟩; refine ⟨_, rfl, ?_⟩; refine E2 (blk_below (g := gb232) (o := .cells #[.int .i64 ((rd_T73 l0 x10_1).f0), .int .i64 ((rd_T73 l0 x10_1).f1)] 73 (0, 0)) (by (with_reducible repeat (first | refine blk_drewN ?_ _ | refine blk_drew ?_ | refine blk_alloc ?_ _)); refine blk_put (cs := #[.int .i64 ((rd_T73 l0 x10_1).f0), .int .i64 0]) ?_ 1 _ rfl; (with_reducible repeat (first | refine blk_drewN ?_ _ | refine blk_drew ?_ | refine blk_alloc ?_ _)); refine blk_put (cs := #[.int .i64 0, .int .i64 0]) ?_ 0 _ rfl; (with_reducible repeat (first | refine blk_drewN ?_ _ | refine blk_drew ?_ | refine blk_alloc ?_ _)); exact BK232.out) hb) (below_step (BL HB.out) hb) ?_; clear BK232 HB; intro BK232 HB; (try clear hb); (try clear hb2); (try clear hk); (try clear hi)))
    go_ret
    exact ⟨RF, BL HB.out⟩
  obtain rfl := Option.some.inj H
  go_wp2
  go_ret
  exact ⟨RF, BL HB.out⟩
/-! ### impl_IsBoard: function 50 -/
def impl_IsBoard.f (k : Nat) (a0_0 : Int) (a0_1 : Int) (l0_2 : List (S73)) : Option (Bool) := if a0_0 ≥ 1 then (if a0_0 ≤ 10 then (if a0_1 ≥ 1 then (if a0_1 ≤ 9 then (if (l0_2.length : Int) = (wrap64 (a0_0 * a0_1)) then ((impl_validCells.f k l0_2).bind fun t235 => (some t235)) else (some false)) else (some false)) else (some false)) else (some false)) else (some false)
theorem impl_IsBoard.mono : ∀ a0 a1 a2 k, LeO (impl_IsBoard.f k a0 a1 a2) (impl_IsBoard.f (k + 1) a0 a1 a2) := by
  intro a0 a1 a2 k
  unfold impl_IsBoard.f
  repeat' first
      | (with_reducible exact impl_validCells.mono _ _)
      | (with_reducible exact LeO.refl _)
      | (with_reducible exact LeO.none _)
      | (with_reducible refine LeO.ite ?_ ?_)
      | (with_reducible refine LeO.bind ?_ (fun _ => ?_))
      | exact impl_validCells.mono _ _
      | exact LeO.none _
      | refine LeO.ite ?_ ?_
      | refine LeO.bind ?_ (fun _ => ?_)
set_option maxHeartbeats 8000000 in
set_option maxRecDepth 100000 in
theorem impl_IsBoard.calls (k : Nat) (a0_0 : Int) (a0_1 : Int) (A0_2 : Option Addr) (c0_2 : Nat) (l0_2 : List (S73)) (r : Bool) (w : World) (hr0_2 : Kd.C k73 w A0_2 l0_2.length l0_2) (hc0_2 : l0_2.length ≤ c0_2) (h : impl_IsBoard.f k a0_0 a0_1 l0_2 = some r) :
    Calls Try.prog 50 #[.agg #[.int .i64 a0_0, .int .i64 a0_1, .slice A0_2 l0_2.length c0_2]] w fun e w' => e = .returned (.bool r) ∧ Below w.heap.size w w' := by
  have hu30 := Try.underlying30
  have HR0_2 := Aside0.mk hr0_2
  have HC0_2 := Aside0.mk hc0_2
  clear hr0_2 hc0_2
  have HB := Aside0.mk (Below.refl w.heap.size w)
  have H := h
  clear h
  unfold impl_IsBoard.f at H
  replace H := ifQ H; rcases H with ⟨c2, H⟩ | ⟨c2, H⟩
  · have c2b0 : decide (1 ≤ a0_0) = true := decide_eq_true c2
    clear c2
    replace H := ifB H; rcases H with ⟨c3b0, H⟩ | ⟨c3b0, H⟩
    · replace H := ifQ H; rcases H with ⟨c4, H⟩ | ⟨c4, H⟩
      · have c4b0 : decide (1 ≤ a0_1) = true := decide_eq_true c4
        clear c4
        replace H := ifB H; rcases H with ⟨c5b0, H⟩ | ⟨c5b0, H⟩
        · replace H := ifQ H; rcases H with ⟨c6, H⟩ | ⟨c6, H⟩
          · have c6b0 := beq_iff_eq.mpr c6
            have c6b1 := bne_eq_false_iff_eq.mpr c6
            clear c6
            replace H := bindA H; obtain ⟨t235, A7, H⟩ := H
            obtain rfl := Option.some.inj H
            go_enter Try.func50, Try.ntmps50
            go_wp2_with (first | ((with_reducible refine gate_dst (N := 1) rfl ?_); (try (refine gate_guard (by rfl) ?_; dsimp only)); refine boxE (N := 1) (cs := #[.int .i64 a0_0, .int .i64 a0_1, .slice A0_2 l0_2.length c0_2]) (t := 30) ?_; intro gb234 hg w8 hbox hb; refine E4b HB.out hg hbox hb ?_; clear HB; intro HB BK234 GW234 GE234; clear hb hbox hg; obtain ⟨hcz9_0, hcz9_1, hcz9_2, hfz9_0, hfz9_1, hfz9_2⟩ := cz3 BK234.out) | (go_at_call 76; (with_reducible refine (impl_validCells.calls k _ _ l0_2 t235 _ ?side1 ?side2 A7.out).mono ?_); (case side1 => exact CB (Kd.C_below HR0_2.out HB.out)); (case side2 => exact HC0_2.out); rintro e w10 ⟨rfl, hb⟩; refine E2 (bB BK234.out hb) (below_step (BL HB.out) hb) ?_; clear BK234 HB; intro BK234 HB; (try clear hb); (try clear hb2); (try clear hk); (try clear hi)))
            go_ret
            exact ⟨RF, BL HB.out⟩
          have c6b0 := beq_eq_false_iff_ne.mpr c6
          have c6b1 := bne_iff_ne.mpr c6
          obtain rfl := Option.some.inj H
          go_enter Try.func50, Try.ntmps50
          go_wp2_with (first | ((with_reducible refine gate_dst (N := 1) rfl ?_); (try (refine gate_guard (by rfl) ?_; dsimp only)); refine boxE (N := 1) (cs := #[.int .i64 a0_0, .int .i64 a0_1, .slice A0_2 l0_2.length c0_2]) (t := 30) ?_; intro gb234 hg w11 hbox hb; refine E4b HB.out hg hbox hb ?_; clear HB; intro HB BK234 GW234 GE234; clear hb hbox hg; obtain ⟨hcz12_0, hcz12_1, hcz12_2, hfz12_0, hfz12_1, hfz12_2⟩ := cz3 BK234.out))
          go_ret
          exact ⟨RF, BL HB.out⟩
        obtain rfl := Option.some.inj H
        go_enter Try.func50, Try.ntmps50
        go_wp2_with (first | ((with_reducible refine gate_dst (N := 1) rfl ?_); (try (refine gate_guard (by rfl) ?_; dsimp only)); refine boxE (N := 1) (cs := #[.int .i64 a0_0, .int .i64 a0_1, .slice A0_2 l0_2.length c0_2]) (t := 30) ?_; intro gb234 hg w13 hbox hb; refine E4b HB.out hg hbox hb ?_; clear HB; intro HB BK234 GW234 GE234; clear hb hbox hg; obtain ⟨hcz14_0, hcz14_1, hcz14_2, hfz14_0, hfz14_1, hfz14_2⟩ := cz3 BK234.out))
        go_ret
        exact ⟨RF, BL HB.out⟩
      have c4b0 : decide (1 ≤ a0_1) = false := decide_eq_false c4
      clear c4
      obtain rfl := Option.some.inj H
      go_enter Try.func50, Try.ntmps50
      go_wp2_with (first | ((with_reducible refine gate_dst (N := 1) rfl ?_); (try (refine gate_guard (by rfl) ?_; dsimp only)); refine boxE (N := 1) (cs := #[.int .i64 a0_0, .int .i64 a0_1, .slice A0_2 l0_2.length c0_2]) (t := 30) ?_; intro gb234 hg w15 hbox hb; refine E4b HB.out hg hbox hb ?_; clear HB; intro HB BK234 GW234 GE234; clear hb hbox hg; obtain ⟨hcz16_0, hcz16_1, hcz16_2, hfz16_0, hfz16_1, hfz16_2⟩ := cz3 BK234.out))
      go_ret
      exact ⟨RF, BL HB.out⟩
    obtain rfl := Option.some.inj H
    go_enter Try.func50, Try.ntmps50
    go_wp2_with (first | ((with_reducible refine gate_dst (N := 1) rfl ?_); (try (refine gate_guard (by rfl) ?_; dsimp only)); refine boxE (N := 1) (cs := #[.int .i64 a0_0, .int .i64 a0_1, .slice A0_2 l0_2.length c0_2]) (t := 30) ?_; intro gb234 hg w17 hbox hb; refine E4b HB.out hg hbox hb ?_; clear HB; intro HB BK234 GW234 GE234; clear hb hbox hg; obtain ⟨hcz18_0, hcz18_1, hcz18_2, hfz18_0, hfz18_1, hfz18_2⟩ := cz3 BK234.out))
    go_ret
    exact ⟨RF, BL HB.out⟩
  have c2b0 : decide (1 ≤ a0_0) = false := decide_eq_false c2
  clear c2
  obtain rfl := Option.some.inj H
  go_enter Try.func50, Try.ntmps50
  go_wp2_with (first | ((with_reducible refine gate_dst (N := 1) rfl ?_); (try (refine gate_guard (by rfl) ?_; dsimp only)); refine boxE (N := 1) (cs := #[.int .i64 a0_0, .int .i64 a0_1, .slice A0_2 l0_2.length c0_2]) (t := 30) ?_; intro gb234 hg w19 hbox hb; refine E4b HB.out hg hbox hb ?_; clear HB; intro HB BK234 GW234 GE234; clear hb hbox hg; obtain ⟨hcz20_0, hcz20_1, hcz20_2, hfz20_0, hfz20_1, hfz20_2⟩ := cz3 BK234.out))
  go_ret
  exact ⟨RF, BL HB.out⟩
end Go.Proofs.Ytakihdabbpconaa.P
