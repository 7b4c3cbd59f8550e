-- PRINTED by print.py (a twelfth state) out of the translation. Not trusted: Lean checks it.
import Derived.Test.YtakihdabbpconaaPx0
import Derived.Test.YtakihdabbpconaaPx2
import Derived.Test.YtakihdabbpconaaPx3
import Derived.Test.YtakihdabbpconaaPx4
import Derived.Test.YtakihdabbpconaaPx5
import Derived.Test.YtakihdabbpconaaPx6
import Derived.Test.YtakihdabbpconaaPx7
import Derived.Test.YtakihdabbpconaaPx9
import Derived.Test.YtakihdabbpconaaPx12
namespace Go.Proofs.Ytakihdabbpconaa.P
open Go.RowKit Go.Proofs.YtakihdabbpconaaW.PrintWords Go.Proofs.YtakihdabbpconaaW.PrintLast Go.Proofs.YtakihdabbpconaaW.PrintMore
attribute [local go_sem] max2_int min2_int max_two min_two max_three min_three max_four min_four   -- for this text's walks alone
set_option linter.unusedVariables false
set_option linter.unusedSimpArgs false

/-! ### spec_ZeroState: function 36 -/
def spec_ZeroState.f (k : Nat) (a0_0 : Int) (a0_1 : Int) (l0_2 : List (S73)) : Option (Int × Int × (List (S73)) × Bool) := (spec_boGood.f k a0_0 a0_1 l0_2).bind fun t783 => (if t783 = true then ((spec_saUnits.f k a0_0 a0_1 l0_2).bind fun t784 => (if 0 ≤ (t784.length : Int) then (if ((t784.length : Int) : Int).toNat ≤ 35184372088832 then ((spec_saWith.f k a0_0 a0_1 l0_2 (List.replicate ((t784.length : Int) : Int).toNat 0)).bind fun bt790 => (some (bt790.1, bt790.2.1, bt790.2.2, true))) else (none)) else (none))) else (some (0, 0, ([] : List (S73)), false)))
theorem spec_ZeroState.mono : ∀ a0 a1 a2 k, LeO (spec_ZeroState.f k a0 a1 a2) (spec_ZeroState.f (k + 1) a0 a1 a2) := by
  intro a0 a1 a2 k
  unfold spec_ZeroState.f
  repeat' first
      | (with_reducible exact spec_boGood.mono _ _ _ _)
      | (with_reducible exact spec_saUnits.mono _ _ _ _)
      | (with_reducible exact spec_saWith.mono _ _ _ _ _)
      | (with_reducible exact LeO.refl _)
      | (with_reducible exact LeO.none _)
      | (with_reducible refine LeO.ite ?_ ?_)
      | (with_reducible refine LeO.bind ?_ (fun _ => ?_))
      | exact spec_boGood.mono _ _ _ _
      | exact spec_saUnits.mono _ _ _ _
      | exact spec_saWith.mono _ _ _ _ _
      | exact LeO.none _
      | refine LeO.ite ?_ ?_
      | refine LeO.bind ?_ (fun _ => ?_)
def spec_ZeroState.T3 : Bool × List (List Nat × List Nat) := (true, [([], []), ([], []), ([1], [1]), ([2], [2]), ([3, 3], [3]), ([0, 4, 2], [0, 4]), ([5, 5, 0, 1, 2, 3, 4, 5], [5]), ([6, 0, 1, 2, 3, 4, 5, 6], [])])
def spec_ZeroState.B3 : List Nat := [0, 0, 2, 6, 14, 31, 63, 127]
theorem spec_ZeroState.tab3 : rtab .any (opsOf Try.f36 3) = spec_ZeroState.T3 := by kernel_rfl
theorem spec_ZeroState.bits3 : waitsOk spec_ZeroState.T3.2 spec_ZeroState.B3 = true := by kernel_rfl
set_option maxHeartbeats 8000000 in
set_option maxRecDepth 100000 in
theorem spec_ZeroState.calls (k : Nat) (a0_0 : Int) (a0_1 : Int) (A0_2 : Option Addr) (c0_2 : Nat) (l0_2 : List (S73)) (r1 : Int) (r2 : Int) (r3 : List (S73)) (r4 : Bool) (w : World) (hr0_2 : Kd.C k73 w A0_2 l0_2.length l0_2) (hc0_2 : l0_2.length ≤ c0_2) (h : spec_ZeroState.f k a0_0 a0_1 l0_2 = some (r1, r2, r3, r4)) :
    Calls Try.prog 36 #[.agg #[.int .i64 a0_0, .int .i64 a0_1, .slice A0_2 l0_2.length c0_2]] w fun e w' => ∃ v2_ : Value, e = .returned (.tuple #[.agg #[.int .i64 r1, .int .i64 r2, v2_], .bool r4]) ∧ Kd.R k73 73 w' w.heap.size (fun _ => True) v2_ r3 ∧ Below w.heap.size w w' := by
  have hu30 := Try.underlying30
  have HR0_2 := Aside0.mk hr0_2
  have HC0_2 := Aside0.mk hc0_2
  clear hr0_2 hc0_2
  have HB := Aside0.mk (Below.refl w.heap.size w)
  have H := h
  clear h
  unfold spec_ZeroState.f at H
  replace H := bindA H; obtain ⟨t783, A2, H⟩ := H
  replace H := ifX H; rcases H with ⟨rfl, H⟩ | ⟨rfl, H⟩
  · replace H := bindA H; obtain ⟨t784, A4, H⟩ := H
    replace H := ifP H; obtain ⟨c5, H⟩ := H
    have c5b0 := eq_true c5
    have c5b1 := decide_eq_true c5
    clear c5
    replace H := ifP H; obtain ⟨c6, H⟩ := H
    have c6b0 := eq_true c6
    have c6b1 := decide_eq_true c6
    clear c6
    generalize hy787 : ((List.replicate ((t784.length : Int) : Int).toNat 0) : List Int) = y787 at H
    have Ny787 := Aside0.mk hy787.symm; clear hy787
    replace H := bindA H; obtain ⟨⟨t790, t791, t792⟩, A7, H⟩ := H
    dsimp only at H
    simp only [Option.some.injEq, Prod.mk.injEq] at H
    obtain ⟨rfl, rfl, rfl, rfl⟩ := H
    go_enter Try.func36, Try.ntmps36
    try go_wp2_with (first | ((with_reducible refine gate_dst (N := 1) rfl ?_); refine boxE (N := 1) (cs := #[.int .i64 a0_0, .int .i64 a0_1, .slice A0_2 l0_2.length c0_2]) (t := 30) ?_; intro gb781 hg w8 hbox hb; refine E4b HB.out hg hbox hb ?_; clear HB; intro HB BK781 GW781 GE781; clear hb hbox hg) | ((with_reducible refine gate_dst (N := 2) rfl ?_); refine boxE (N := 2) (cs := #[.int .i64 0, .int .i64 0, .slice none 0 0]) (t := 30) ?_; intro gb782 hg w9 hbox hb; refine E7 (bB BK781.out hb) (below_step (BL HB.out) hb) (hbox) (gwM hg (below_size (BL HB.out)) : w.heap.size ≤ gb782) (gwM hg (below_size (BL HB.out)) : w.heap.size ≤ gb782) ((nB BK781.out hg : gb781 ≠ gb782)) ((nC BK781.out hg : gb782 ≠ gb781)) ?_; clear BK781 HB; intro BK781 HB BK782 GW782 GE782 NB781_782 NB782_781; clear hb hbox hg; have hnb10 := NB781_782.out; have hnc10 := NB782_781.out; obtain ⟨hcz11_0, hcz11_1, hcz11_2, hfz11_0, hfz11_1, hfz11_2⟩ := cz3 BK781.out) | ((with_reducible refine gate_callee (f := 46) rfl ?_); refine goesM (N := (some 5)) #[.agg #[.int .i64 a0_0, .int .i64 a0_1, .slice A0_2 l0_2.length c0_2]] Try.func46 ?_; (with_reducible refine (spec_boGood.calls k a0_0 a0_1 _ _ l0_2 true _ ?side1 ?side2 A2.out).mono ?_); (case side1 => exact CB (Kd.C_below HR0_2.out HB.out)); (case side2 => exact HC0_2.out); rintro e w12 ⟨rfl, hb⟩; refine ⟨_, rfl, ?_⟩; refine E3 (bB BK781.out hb) (bB BK782.out hb) (below_step (BL HB.out) hb) ?_; clear BK781 BK782 HB; intro BK781 BK782 HB; (try clear hb); (try clear hb2); (try clear hk); (try clear hi)))
    refine E3 (blk_drew BK781.out) (blk_drew BK782.out) (below_drew1 HB.out) ?_
    clear BK781 BK782 HB
    intro BK781 BK782 HB
    refine start_ (n := 8) (S := fun w' => w'.cell? ⟨gb781, 0, none⟩ = some (.int .i64 a0_0) ∧ w'.cell? ⟨gb781, 1, none⟩ = some (.int .i64 a0_1) ∧ w'.cell? ⟨gb781, 2, none⟩ = some (.slice A0_2 l0_2.length c0_2)) (ds := []) #[false, false, false, false, false, false, false, false] (by kernel_rfl) rfl rfl ⟨(blk_cell BK781.out 0).trans rfl, (blk_cell BK781.out 1).trans rfl, (blk_cell BK781.out 2).trans rfl⟩ (fun hHeld => ?_); refine with_tabW spec_ZeroState.tab3 spec_ZeroState.bits3 (fun HT_ HW_ => ?_)
    generalize w12.drew = w13 at BK781 BK782 HB hHeld ⊢
    refine take_ (i := 0) (N := some 8) (v := ?_) (a' := ?_) #[true, false, false, false, false, false, false, false] rfl rfl (take_ofW HT_.out HW_.out (by kernel_rfl)) (fun _ _ _ h => h) (Or.inl ⟨by rfl, ?_⟩) hHeld ?_ ?_
    rotate_left
    · rintro w' ⟨s0, s1, s2⟩
      go_simp
      with_reducible rfl
    rotate_left
    · simp only [Act.put, List.setIfInBounds_toArray, List.set_cons_zero, List.set_cons_succ, i64_w, i32_w]
      rfl
    refine take_ (i := 1) (N := some 9) (v := ?_) (a' := ?_) #[true, true, false, false, false, false, false, false] rfl rfl (take_ofW HT_.out HW_.out (by kernel_rfl)) (fun _ _ _ h => h) (Or.inl ⟨by rfl, ?_⟩) hHeld ?_ ?_
    rotate_left
    · rintro w' ⟨s0, s1, s2⟩
      go_simp
      with_reducible rfl
    rotate_left
    · simp only [Act.put, List.setIfInBounds_toArray, List.set_cons_zero, List.set_cons_succ, i64_w, i32_w]
      rfl
    refine one_ (i := 2) (N := some 10) #[true, true, true, false, false, false, false, false] rfl rfl (one_of HT_.out (by kernel_rfl)) (by decide) (fun K hK => ?_)
    refine goes_ Try.func59 (by kernel_rfl) rfl #[.agg #[.int .i64 a0_0, .int .i64 a0_1, .slice A0_2 l0_2.length c0_2]] (by rfl) rfl rfl (by (try simp only [List.map_toArray, List.map_cons, List.map_nil]); first | done | rfl | (simp only [List.length_drop, List.length_take]; rfl)) ?_
    with_reducible refine (spec_saUnits.calls k a0_0 a0_1 _ _ l0_2 t784 _ ?side1 ?side2 A4.out).mono ?_
    (case side1 => exact CB (Kd.C_below HR0_2.out HB.out))
    (case side2 => exact HC0_2.out)
    rintro e w14 ⟨v785, rfl, ho0, hb⟩
    refine ⟨_, rfl, ?_⟩
    refine E4 (Kd.S_lower ho0 (below_size (BL HB.out))) (bB BK781.out hb) (bB BK782.out hb) (below_step (BL HB.out) hb) ?_
    clear BK781 BK782 HB
    intro HO786 BK781 BK782 HB
    (try clear hb)
    (try clear hb2)
    (try clear hk)
    (try clear hi)
    (try clear ho0)
    obtain ⟨Ao15, co15, eo15⟩ := Kd.S_slice HO786.out
    (first | subst eo15 | (injection eo15 with f1_ f2_ f3_; have f4_ := f1_.symm; have f5_ := f3_.symm; clear f1_ f2_ f3_; subst f4_; subst f5_))
    refine hK.out _ _ ⟨(blk_cell BK781.out 0).trans rfl, (blk_cell BK781.out 1).trans rfl, (blk_cell BK781.out 2).trans rfl⟩ (fun hHeld => ?_)
    clear hK K
    refine norm_ (a' := ?_) ?_ ?_
    rotate_left
    · show Act.put _ (some 10) _ = _
      simp only [Act.put, List.setIfInBounds_toArray, List.set_cons_zero, List.set_cons_succ, i64_w, i32_w]
      rfl
    refine pureE (i := 3) (N := some 11) #[true, true, true, true, false, false, false, false] HT_.out ?_
    refine one_ (i := 4) (N := some 12) #[true, true, true, true, true, false, false, false] rfl rfl (one_of HT_.out (by kernel_rfl)) (by decide) (fun K hK => ?_)
    refine Kd.R_make_step (Kd.int .i64) _ 3 (by rfl) (N := 12) rfl 36 _ _ rfl (t784.length : Int) rfl rfl Try.underlying36 (.int .i64 0) 8 info3 rfl (by decide) (by omega) 0 (ok := fun _ => True) (okp := fun _ => True) rfl (fun _ hk => hk) trivial (OD) (Nat.le_trans (Nat.mul_le_mul_right _ (OD : (t784.length : Int).toNat ≤ 35184372088832)) (by omega)) (Below.refl _ _) (Nat.le_refl _) ?_
    intro v788 w16 ho17 hb hg_ hnew_
    clear hg_ hnew_
    (first | rw [← Ny787.out] at ho17 | (simp only [Int.reduceToNat] at ho17; rw [← Ny787.out] at ho17))
    refine E5 (Kd.S_elder' (PS HO786.out) (Kd.R_base ho17) hb) (Kd.R_lower ho17 (below_size (BL HB.out))) (bB BK781.out hb) (bB BK782.out hb) (below_step (BL HB.out) hb) ?_
    clear HO786 BK781 BK782 HB
    intro HO786 HO789 BK781 BK782 HB
    clear hb ho17
    obtain ⟨Ao18, co18, eo18⟩ := Kd.R_slice HO789.out
    (first | subst eo18 | (injection eo18 with f1_ f2_ f3_; have f4_ := f1_.symm; have f5_ := f3_.symm; clear f1_ f2_ f3_; subst f4_; subst f5_))
    refine hK.out _ _ ⟨(blk_cell BK781.out 0).trans rfl, (blk_cell BK781.out 1).trans rfl, (blk_cell BK781.out 2).trans rfl⟩ (fun hHeld => ?_)
    clear hK K
    refine norm_ (a' := ?_) ?_ ?_
    rotate_left
    · show Act.put _ (some 12) _ = _
      simp only [Act.put, List.setIfInBounds_toArray, List.set_cons_zero, List.set_cons_succ, i64_w, i32_w]
      rfl
    refine one_ (i := 5) (N := some 13) #[true, true, true, true, true, true, false, false] rfl rfl (one_of HT_.out (by kernel_rfl)) (by decide) (fun K hK => ?_)
    refine goes_ Try.func68 (by kernel_rfl) rfl #[.agg #[.int .i64 a0_0, .int .i64 a0_1, .slice A0_2 l0_2.length c0_2], .slice Ao18 y787.length co18] (by rfl) rfl rfl (by (try simp only [List.map_toArray, List.map_cons, List.map_nil]); first | done | rfl | (simp only [List.length_drop, List.length_take]; rfl)) ?_
    with_reducible refine (spec_saWith.calls k a0_0 a0_1 _ _ l0_2 _ _ y787 t790 t791 t792 _ ?side1 ?side2 ?side3 ?side4 A7.out).mono ?_
    (case side1 => exact CB (Kd.C_below HR0_2.out HB.out))
    (case side2 => exact HC0_2.out)
    (case side3 => repeat (first | exact (Kd.R_reads' HO789.out).2.2 | (with_reducible refine Kd.C_alloc ?_ _) | (with_reducible refine Kd.C_drewN ?_ _) | (with_reducible refine Kd.C_drew ?_)))
    (case side4 => exact (Kd.R_reads' HO789.out).2.1)
    rintro e w19 ⟨v793, rfl, ho0, hb⟩
    refine ⟨_, rfl, ?_⟩
    refine E6 (Kd.S_below (PS HO786.out) hb) (Kd.R_below (PR HO789.out) hb) (Kd.R_lower ho0 (below_size (BL HB.out))) (bB BK781.out hb) (bB BK782.out hb) (below_step (BL HB.out) hb) ?_
    clear HO786 HO789 BK781 BK782 HB
    intro HO786 HO789 HO794 BK781 BK782 HB
    (try clear hb)
    (try clear hb2)
    (try clear hk)
    (try clear hi)
    (try clear ho0)
    obtain ⟨Ao22, co22, eo22⟩ := Kd.R_slice HO794.out
    (first | subst eo22 | (injection eo22 with f1_ f2_ f3_; have f4_ := f1_.symm; have f5_ := f3_.symm; clear f1_ f2_ f3_; subst f4_; subst f5_))
    refine hK.out _ _ ⟨(blk_cell BK781.out 0).trans rfl, (blk_cell BK781.out 1).trans rfl, (blk_cell BK781.out 2).trans rfl⟩ (fun hHeld => ?_)
    clear hK K
    refine norm_ (a' := ?_) ?_ ?_
    rotate_left
    · show Act.put _ (some 13) _ = _
      simp only [Act.put, List.setIfInBounds_toArray, List.set_cons_zero, List.set_cons_succ, i64_w, i32_w]
      rfl
    refine one_ (i := 6) (N := none) #[true, true, true, true, true, true, true, false] rfl rfl (one_of HT_.out (by kernel_rfl)) (by decide) (fun K hK => ?_)
    have hs20 : w19.cell? ⟨gb782, 0, none⟩ = some (.int .i64 0) := (blk_cell BK782.out 0).trans rfl
    have hfs20 := blk_frozen BK782.out 0
    have hns20_0 := NB781_782.out
    have hms20_0 := NB782_781.out
    have hs21 : w19.cell? ⟨gb782, 1, none⟩ = some (.int .i64 0) := (blk_cell BK782.out 1).trans rfl
    have hfs21 := blk_frozen BK782.out 1
    have hns21_0 := NB781_782.out
    have hms21_0 := NB782_781.out
    have hs23 : w19.cell? ⟨gb782, 2, none⟩ = some (.slice none 0 0) := (blk_cell BK782.out 2).trans rfl
    have hfs23 := blk_frozen BK782.out 2
    have hns23_0 := NB781_782.out
    have hms23_0 := NB782_781.out
    refine skip_ (w1 := ?_) (by rfl) rfl ?_ ?_
    rotate_left
    · go_simp
      rfl
    refine hK.out _ _ ⟨((cell_far (p := ⟨gb782, _, none⟩) NB781_782.out _).trans (((cell_far (p := ⟨gb782, _, none⟩) NB781_782.out _).trans (((cell_far (p := ⟨gb782, _, none⟩) NB781_782.out _).trans (hHeld.1)))))), ((cell_far (p := ⟨gb782, _, none⟩) NB781_782.out _).trans (((cell_far (p := ⟨gb782, _, none⟩) NB781_782.out _).trans (((cell_far (p := ⟨gb782, _, none⟩) NB781_782.out _).trans (hHeld.2.1)))))), ((cell_far (p := ⟨gb782, _, none⟩) NB781_782.out _).trans (((cell_far (p := ⟨gb782, _, none⟩) NB781_782.out _).trans (((cell_far (p := ⟨gb782, _, none⟩) NB781_782.out _).trans (hHeld.2.2))))))⟩ (fun hHeld => ?_)
    clear hK K
    refine pureE (i := 7) (N := some 3) #[true, true, true, true, true, true, true, true] HT_.out ?_
    refine done_ (done_of HT_.out (by kernel_rfl)) ?_
    try go_wp2
    refine bodyPost_ret (results_ct rfl _ _ gb782 30 #[.int .i64 t790, .int .i64 t791, .slice Ao22 t792.length co22] (0, 0) _ rfl (by (with_reducible repeat (first | refine blk_drewN ?_ _ | refine blk_drew ?_ | refine blk_alloc ?_ _)); refine blk_put (cs := #[.int .i64 t790, .int .i64 t791, .slice none 0 0]) ?_ 2 _ rfl; (with_reducible repeat (first | refine blk_drewN ?_ _ | refine blk_drew ?_ | refine blk_alloc ?_ _)); refine blk_put (cs := #[.int .i64 t790, .int .i64 0, .slice none 0 0]) ?_ 1 _ rfl; (with_reducible repeat (first | refine blk_drewN ?_ _ | refine blk_drew ?_ | refine blk_alloc ?_ _)); refine blk_put (cs := #[.int .i64 0, .int .i64 0, .slice none 0 0]) ?_ 0 _ rfl; (with_reducible repeat (first | refine blk_drewN ?_ _ | refine blk_drew ?_ | refine blk_alloc ?_ _)); exact BK782.out) Try.underlying30 rfl (by kernel_rfl)) rfl ?_
    exact ⟨_, RF, by (with_reducible repeat (first | apply Kd.R_alloc | apply Kd.R_drewN | apply Kd.R_drew)); exact Kd.R_mono (Kd.R_far (p := ⟨gb782, 2, none⟩) (Kd.R_far (p := ⟨gb782, 1, none⟩) (Kd.R_far (p := ⟨gb782, 0, none⟩) (Kd.R_types HO794.out BK782.out (by decide)) (fun _ hk => hk.2) (.int .i64 t790)) (fun _ hk => hk.2) (.int .i64 t791)) (fun _ hk => hk.2) (.slice Ao22 t792.length co22)) (fun _ hk => trivial), BL HB.out⟩
  simp only [Option.some.injEq, Prod.mk.injEq] at H
  obtain ⟨rfl, rfl, rfl, rfl⟩ := H
  go_enter Try.func36, Try.ntmps36
  go_wp2_with (first | ((with_reducible refine gate_dst (N := 1) rfl ?_); refine boxE (N := 1) (cs := #[.int .i64 a0_0, .int .i64 a0_1, .slice A0_2 l0_2.length c0_2]) (t := 30) ?_; intro gb781 hg w24 hbox hb; refine E4b HB.out hg hbox hb ?_; clear HB; intro HB BK781 GW781 GE781; clear hb hbox hg) | ((with_reducible refine gate_dst (N := 2) rfl ?_); refine boxE (N := 2) (cs := #[.int .i64 0, .int .i64 0, .slice none 0 0]) (t := 30) ?_; intro gb782 hg w25 hbox hb; refine E7 (bB BK781.out hb) (below_step (BL HB.out) hb) (hbox) (gwM hg (below_size (BL HB.out)) : w.heap.size ≤ gb782) (gwM hg (below_size (BL HB.out)) : w.heap.size ≤ gb782) ((nB BK781.out hg : gb781 ≠ gb782)) ((nC BK781.out hg : gb782 ≠ gb781)) ?_; clear BK781 HB; intro BK781 HB BK782 GW782 GE782 NB781_782 NB782_781; clear hb hbox hg; have hnb26 := NB781_782.out; have hnc26 := NB782_781.out; obtain ⟨hcz27_0, hcz27_1, hcz27_2, hfz27_0, hfz27_1, hfz27_2⟩ := cz3 BK781.out) | ((with_reducible refine gate_callee (f := 46) rfl ?_); refine goesM (N := (some 5)) #[.agg #[.int .i64 a0_0, .int .i64 a0_1, .slice A0_2 l0_2.length c0_2]] Try.func46 ?_; (with_reducible refine (spec_boGood.calls k a0_0 a0_1 _ _ l0_2 false _ ?side1 ?side2 A2.out).mono ?_); (case side1 => exact CB (Kd.C_below HR0_2.out HB.out)); (case side2 => exact HC0_2.out); rintro e w28 ⟨rfl, hb⟩; refine ⟨_, rfl, ?_⟩; refine E3 (bB BK781.out hb) (bB BK782.out hb) (below_step (BL HB.out) hb) ?_; clear BK781 BK782 HB; intro BK781 BK782 HB; (try clear hb); (try clear hb2); (try clear hk); (try clear hi); obtain ⟨hcz29_0, hcz29_1, hcz29_2, hfz29_0, hfz29_1, hfz29_2⟩ := cz3 BK782.out))
  refine bodyPost_ret (results_ct rfl _ _ gb782 30 #[.int .i64 0, .int .i64 0, .slice none 0 0] (0, 0) _ rfl (by (with_reducible repeat (first | refine blk_drewN ?_ _ | refine blk_drew ?_ | refine blk_alloc ?_ _)); refine blk_put (cs := #[.int .i64 0, .int .i64 0, .slice none 0 0]) ?_ 2 _ rfl; (with_reducible repeat (first | refine blk_drewN ?_ _ | refine blk_drew ?_ | refine blk_alloc ?_ _)); refine blk_put (cs := #[.int .i64 0, .int .i64 0, .slice none 0 0]) ?_ 1 _ rfl; (with_reducible repeat (first | refine blk_drewN ?_ _ | refine blk_drew ?_ | refine blk_alloc ?_ _)); refine blk_put (cs := #[.int .i64 0, .int .i64 0, .slice none 0 0]) ?_ 0 _ rfl; (with_reducible repeat (first | refine blk_drewN ?_ _ | refine blk_drew ?_ | refine blk_alloc ?_ _)); exact BK782.out) Try.underlying30 rfl (by kernel_rfl)) rfl ?_
  exact ⟨_, RF, by first | exact Kd.R_nil _ _ _ _ _ | exact Kd.N_nil _ _ _ _ _ | exact Kd.V_nil _ _ _ _ _ | exact Kd.Q_nil _ _ _ _ _ | exact Kd.S_nil _ _ _ _ _, BL HB.out⟩

/-! ### impl_ZeroState: function 37 -/
def impl_ZeroState.f (k : Nat) (a0_0 : Int) (a0_1 : Int) (l0_2 : List (S73)) : Option (Int × Int × (List (S73)) × Bool) := (impl_IsBoard.f k a0_0 a0_1 l0_2).bind fun t805 => (if t805 = true then ((impl_copyBoard.f a0_0 a0_1 l0_2).bind fun bt806 => ((impl_unitsOf.f k a0_0 a0_1 l0_2).bind fun t812 => (if 0 ≤ (t812.length : Int) then (if ((t812.length : Int) : Int).toNat ≤ 35184372088832 then ((impl_setBits.f k bt806.1 bt806.2.1 bt806.2.2 t812 (List.replicate ((t812.length : Int) : Int).toNat 0)).bind fun t818 => (some (bt806.1, bt806.2.1, t818, true))) else (none)) else (none)))) else (some (0, 0, ([] : List (S73)), false)))
theorem impl_ZeroState.mono : ∀ a0 a1 a2 k, LeO (impl_ZeroState.f k a0 a1 a2) (impl_ZeroState.f (k + 1) a0 a1 a2) := by
  intro a0 a1 a2 k
  unfold impl_ZeroState.f
  repeat' first
      | (with_reducible exact impl_IsBoard.mono _ _ _ _)
      | (with_reducible exact impl_setBits.mono _ _ _ _ _ _)
      | (with_reducible exact impl_unitsOf.mono _ _ _ _)
      | (with_reducible exact LeO.refl _)
      | (with_reducible exact LeO.none _)
      | (with_reducible refine LeO.ite ?_ ?_)
      | (with_reducible refine LeO.bind ?_ (fun _ => ?_))
      | exact impl_IsBoard.mono _ _ _ _
      | exact impl_setBits.mono _ _ _ _ _ _
      | exact impl_unitsOf.mono _ _ _ _
      | exact LeO.none _
      | refine LeO.ite ?_ ?_
      | refine LeO.bind ?_ (fun _ => ?_)
set_option maxHeartbeats 8000000 in
set_option maxRecDepth 100000 in
theorem impl_ZeroState.calls (k : Nat) (a0_0 : Int) (a0_1 : Int) (A0_2 : Option Addr) (c0_2 : Nat) (l0_2 : List (S73)) (r1 : Int) (r2 : Int) (r3 : List (S73)) (r4 : Bool) (w : World) (hr0_2 : Kd.C k73 w A0_2 l0_2.length l0_2) (hc0_2 : l0_2.length ≤ c0_2) (h : impl_ZeroState.f k a0_0 a0_1 l0_2 = some (r1, r2, r3, r4)) :
    Calls Try.prog 37 #[.agg #[.int .i64 a0_0, .int .i64 a0_1, .slice A0_2 l0_2.length c0_2]] w fun e w' => ∃ v2_ : Value, e = .returned (.tuple #[.agg #[.int .i64 r1, .int .i64 r2, v2_], .bool r4]) ∧ Kd.R k73 73 w' w.heap.size (fun _ => True) v2_ r3 ∧ Below w.heap.size w w' := by
  have hu30 := Try.underlying30
  have HR0_2 := Aside0.mk hr0_2
  have HC0_2 := Aside0.mk hc0_2
  clear hr0_2 hc0_2
  have HB := Aside0.mk (Below.refl w.heap.size w)
  have H := h
  clear h
  unfold impl_ZeroState.f at H
  replace H := bindA H; obtain ⟨t805, A2, H⟩ := H
  replace H := ifX H; rcases H with ⟨rfl, H⟩ | ⟨rfl, H⟩
  · replace H := bindA H; obtain ⟨⟨t806, t807, t808⟩, A4, H⟩ := H
    dsimp only at H
    replace H := bindA H; obtain ⟨t812, A5, H⟩ := H
    replace H := ifP H; obtain ⟨c6, H⟩ := H
    have c6b0 := eq_true c6
    have c6b1 := decide_eq_true c6
    clear c6
    replace H := ifP H; obtain ⟨c7, H⟩ := H
    have c7b0 := eq_true c7
    have c7b1 := decide_eq_true c7
    clear c7
    generalize hy815 : ((List.replicate ((t812.length : Int) : Int).toNat 0) : List Int) = y815 at H
    have Ny815 := Aside0.mk hy815.symm; clear hy815
    replace H := bindA H; obtain ⟨t818, A8, H⟩ := H
    simp only [Option.some.injEq, Prod.mk.injEq] at H
    obtain ⟨rfl, rfl, rfl, rfl⟩ := H
    go_enter Try.func37, Try.ntmps37
    try go_wp2_with (first | ((with_reducible refine gate_dst (N := 1) rfl ?_); refine boxE (N := 1) (cs := #[.int .i64 a0_0, .int .i64 a0_1, .slice A0_2 l0_2.length c0_2]) (t := 30) ?_; intro gb803 hg w9 hbox hb; refine E4b HB.out hg hbox hb ?_; clear HB; intro HB BK803 GW803 GE803; clear hb hbox hg) | ((with_reducible refine gate_dst (N := 2) rfl ?_); refine boxE (N := 2) (cs := #[.int .i64 0, .int .i64 0, .slice none 0 0]) (t := 30) ?_; intro gb804 hg w10 hbox hb; refine E7 (bB BK803.out hb) (below_step (BL HB.out) hb) (hbox) (gwM hg (below_size (BL HB.out)) : w.heap.size ≤ gb804) (gwM hg (below_size (BL HB.out)) : w.heap.size ≤ gb804) ((nB BK803.out hg : gb803 ≠ gb804)) ((nC BK803.out hg : gb804 ≠ gb803)) ?_; clear BK803 HB; intro BK803 HB BK804 GW804 GE804 NB803_804 NB804_803; clear hb hbox hg; have hnb11 := NB803_804.out; have hnc11 := NB804_803.out; obtain ⟨hcz12_0, hcz12_1, hcz12_2, hfz12_0, hfz12_1, hfz12_2⟩ := cz3 BK803.out) | ((with_reducible refine gate_callee (f := 50) rfl ?_); refine goesM (N := (some 7)) #[.agg #[.int .i64 a0_0, .int .i64 a0_1, .slice A0_2 l0_2.length c0_2]] Try.func50 ?_; (with_reducible refine (impl_IsBoard.calls k a0_0 a0_1 _ _ l0_2 true _ ?side1 ?side2 A2.out).mono ?_); (case side1 => exact CB (Kd.C_below HR0_2.out HB.out)); (case side2 => exact HC0_2.out); rintro e w13 ⟨rfl, hb⟩; refine ⟨_, rfl, ?_⟩; refine E3 (bB BK803.out hb) (bB BK804.out hb) (below_step (BL HB.out) hb) ?_; clear BK803 BK804 HB; intro BK803 BK804 HB; (try clear hb); (try clear hb2); (try clear hk); (try clear hi); obtain ⟨hcz14_0, hcz14_1, hcz14_2, hfz14_0, hfz14_1, hfz14_2⟩ := cz3 BK803.out) | ((with_reducible refine gate_callee (f := 63) rfl ?_); refine goesM (N := (some 11)) #[.agg #[.int .i64 a0_0, .int .i64 a0_1, .slice A0_2 l0_2.length c0_2]] Try.func63 ?_; (with_reducible refine (impl_copyBoard.calls a0_0 a0_1 _ _ l0_2 t806 t807 t808 _ ?side1 ?side2 A4.out).mono ?_); (case side1 => exact CB (Kd.C_below HR0_2.out HB.out)); (case side2 => exact HC0_2.out); rintro e w15 ⟨v809, rfl, ho0, hb⟩; refine ⟨_, rfl, ?_⟩; refine E4 (Kd.R_lower ho0 (below_size (BL HB.out))) (bB BK803.out hb) (bB BK804.out hb) (below_step (BL HB.out) hb) ?_; clear BK803 BK804 HB; intro HO810 BK803 BK804 HB; (try clear hb); (try clear hb2); (try clear hk); (try clear hi); (try clear ho0)) | ((with_reducible refine gate_dst (N := 4) rfl ?_); refine boxE (N := 4) (cs := #[.int .i64 0, .int .i64 0, .slice none 0 0]) (t := 30) ?_; intro gb811 hg w16 hbox hb; refine E11 (Kd.R_below (PR HO810.out) hb) (bB BK803.out hb) (bB BK804.out hb) (below_step (BL HB.out) hb) (hbox) (gwM hg (below_size (BL HB.out)) : w.heap.size ≤ gb811) (gwM hg (below_size (BL HB.out)) : w.heap.size ≤ gb811) ((nB BK803.out hg : gb803 ≠ gb811)) ((nC BK803.out hg : gb811 ≠ gb803)) ((nB BK804.out hg : gb804 ≠ gb811)) ((nC BK804.out hg : gb811 ≠ gb804)) ?_; clear HO810 BK803 BK804 HB; intro HO810 BK803 BK804 HB BK811 GW811 GE811 NB803_811 NB811_803 NB804_811 NB811_804; clear hb hbox hg; have hnb17 := NB811_803.out; have hnc17 := NB803_811.out; have hnb18 := NB811_804.out; have hnc18 := NB804_811.out; obtain ⟨hcz19_0, hcz19_1, hcz19_2, hfz19_0, hfz19_1, hfz19_2⟩ := cz3 BK811.out; obtain ⟨Ao20, co20, eo20⟩ := Kd.R_slice HO810.out; subst eo20; obtain ⟨hcz21_0, hcz21_1, hcz21_2, hfz21_0, hfz21_1, hfz21_2⟩ := cz3 BK803.out) | ((with_reducible refine gate_callee (f := 62) rfl ?_); refine goesM (N := (some 13)) #[.agg #[.int .i64 a0_0, .int .i64 a0_1, .slice A0_2 l0_2.length c0_2]] Try.func62 ?_; (with_reducible refine (impl_unitsOf.calls k a0_0 a0_1 _ _ l0_2 t812 _ ?side1 ?side2 A5.out).mono ?_); (case side1 => exact Kd.C_below HR0_2.out (BL HB.out)); (case side2 => exact HC0_2.out); rintro e w22 ⟨v813, rfl, ho0, hb⟩; refine ⟨_, rfl, ?_⟩; refine E6 (Kd.R_below (by (with_reducible repeat (first | apply Kd.R_alloc | apply Kd.R_drewN | apply Kd.R_drew)); exact (Kd.R_mono (Kd.R_far (p := ⟨gb811, 2, none⟩) (Kd.R_far (p := ⟨gb811, 1, none⟩) (Kd.R_far (p := ⟨gb811, 0, none⟩) (Kd.R_types HO810.out BK811.out (by decide)) (fun _ hk => hk.2) (.int .i64 t806)) (fun _ hk => hk.2) (.int .i64 t807)) (fun _ hk => hk.2) (.slice Ao20 t808.length co20)) (fun _ h_ => h_.1))) hb) (Kd.S_lower ho0 (below_size (BL HB.out))) (blk_below (g := gb803) (o := .cells #[.int .i64 a0_0, .int .i64 a0_1, .slice A0_2 l0_2.length c0_2] 30 (0, 0)) (by (with_reducible repeat (first | refine blk_drewN ?_ _ | refine blk_drew ?_ | refine blk_alloc ?_ _)); refine blk_far ?_ NB803_811.out _; (with_reducible repeat (first | refine blk_drewN ?_ _ | refine blk_drew ?_ | refine blk_alloc ?_ _)); refine blk_far ?_ NB803_811.out _; (with_reducible repeat (first | refine blk_drewN ?_ _ | refine blk_drew ?_ | refine blk_alloc ?_ _)); refine blk_far ?_ NB803_811.out _; (with_reducible repeat (first | refine blk_drewN ?_ _ | refine blk_drew ?_ | refine blk_alloc ?_ _)); exact BK803.out) hb) (blk_below (g := gb804) (o := .cells #[.int .i64 0, .int .i64 0, .slice none 0 0] 30 (0, 0)) (by (with_reducible repeat (first | refine blk_drewN ?_ _ | refine blk_drew ?_ | refine blk_alloc ?_ _)); refine blk_far ?_ NB804_811.out _; (with_reducible repeat (first | refine blk_drewN ?_ _ | refine blk_drew ?_ | refine blk_alloc ?_ _)); refine blk_far ?_ NB804_811.out _; (with_reducible repeat (first | refine blk_drewN ?_ _ | refine blk_drew ?_ | refine blk_alloc ?_ _)); refine blk_far ?_ NB804_811.out _; (with_reducible repeat (first | refine blk_drewN ?_ _ | refine blk_drew ?_ | refine blk_alloc ?_ _)); exact BK804.out) hb) (blk_below (g := gb811) (o := .cells #[.int .i64 t806, .int .i64 t807, .slice Ao20 t808.length co20] 30 (0, 0)) (by (with_reducible repeat (first | refine blk_drewN ?_ _ | refine blk_drew ?_ | refine blk_alloc ?_ _)); refine blk_put (cs := #[.int .i64 t806, .int .i64 t807, .slice none 0 0]) ?_ 2 _ rfl; (with_reducible repeat (first | refine blk_drewN ?_ _ | refine blk_drew ?_ | refine blk_alloc ?_ _)); refine blk_put (cs := #[.int .i64 t806, .int .i64 0, .slice none 0 0]) ?_ 1 _ rfl; (with_reducible repeat (first | refine blk_drewN ?_ _ | refine blk_drew ?_ | refine blk_alloc ?_ _)); refine blk_put (cs := #[.int .i64 0, .int .i64 0, .slice none 0 0]) ?_ 0 _ rfl; (with_reducible repeat (first | refine blk_drewN ?_ _ | refine blk_drew ?_ | refine blk_alloc ?_ _)); exact BK811.out) hb) (below_step (BL HB.out) hb) ?_; clear HO810 BK803 BK804 BK811 HB; intro HO810 HO814 BK803 BK804 BK811 HB; (try clear hb); (try clear hb2); (try clear hk); (try clear hi); (try clear ho0)))
    refine E6 (Kd.R_drew HO810.out) (Kd.S_drew HO814.out) (blk_drew BK803.out) (blk_drew BK804.out) (blk_drew BK811.out) (below_drew1 HB.out) ?_
    clear HO810 HO814 BK803 BK804 BK811 HB
    intro HO810 HO814 BK803 BK804 BK811 HB
    obtain ⟨Ao24, co24, eo24⟩ := Kd.S_slice HO814.out
    (first | subst eo24 | (injection eo24 with f1_ f2_ f3_; have f4_ := f1_.symm; have f5_ := f3_.symm; clear f1_ f2_ f3_; subst f4_; subst f5_))
    refine start_ (n := 6) (S := fun w' => w'.cell? ⟨gb811, 0, none⟩ = some (.int .i64 t806) ∧ w'.cell? ⟨gb811, 1, none⟩ = some (.int .i64 t807) ∧ w'.cell? ⟨gb811, 2, none⟩ = some (.slice Ao20 t808.length co20)) (ds := []) #[false, false, false, false, false, false] (by kernel_rfl) rfl rfl ⟨(blk_cell BK811.out 0).trans rfl, (blk_cell BK811.out 1).trans rfl, (blk_cell BK811.out 2).trans rfl⟩ (fun hHeld => ?_)
    generalize w22.drew = w23 at HO810 HO814 BK803 BK804 BK811 HB hHeld ⊢
    refine pure_ (i := 1) (N := some 15) (v := ?_) (a' := ?_) #[false, true, false, false, false, false] rfl rfl (by kernel_rfl) (fun _ _ _ h => h) (Or.inl ⟨by rfl, ?_⟩) ?_ ?_
    rotate_left
    · intro w'
      go_simp
      with_reducible rfl
    rotate_left
    · simp only [Act.put, List.setIfInBounds_toArray, List.set_cons_zero, List.set_cons_succ, i64_w, i32_w]
      rfl
    refine pure_ (i := 2) (N := some 16) (v := ?_) (a' := ?_) #[false, true, true, false, false, false] rfl rfl (by kernel_rfl) (fun _ _ _ h => h) (Or.inl ⟨by rfl, ?_⟩) ?_ ?_
    rotate_left
    · intro w'
      go_simp
      with_reducible rfl
    rotate_left
    · simp only [Act.put, List.setIfInBounds_toArray, List.set_cons_zero, List.set_cons_succ, i64_w, i32_w]
      rfl
    refine pure_ (i := 3) (N := some 17) (v := ?_) (a' := ?_) #[false, true, true, true, false, false] rfl rfl (by kernel_rfl) (fun _ _ _ h => h) (Or.inl ⟨by rfl, ?_⟩) ?_ ?_
    rotate_left
    · intro w'
      go_simp
      with_reducible rfl
    rotate_left
    · simp only [Act.put, List.setIfInBounds_toArray, List.set_cons_zero, List.set_cons_succ, i64_w, i32_w]
      rfl
    refine take_ (i := 0) (N := some 14) (v := ?_) (a' := ?_) #[true, true, true, true, false, false] rfl rfl (by kernel_rfl) (fun _ _ _ h => h) (Or.inl ⟨by rfl, ?_⟩) hHeld ?_ ?_
    rotate_left
    · rintro w' ⟨s0, s1, s2⟩
      go_simp
      with_reducible rfl
    rotate_left
    · simp only [Act.put, List.setIfInBounds_toArray, List.set_cons_zero, List.set_cons_succ, i64_w, i32_w]
      rfl
    refine one_ (i := 4) (N := some 18) #[true, true, true, true, true, false] rfl rfl (by kernel_rfl) (by decide) (fun K hK => ?_)
    refine Kd.R_make_step (Kd.int .i64) _ 3 (by rfl) (N := 18) rfl 36 _ _ rfl (t812.length : Int) rfl rfl Try.underlying36 (.int .i64 0) 8 info3 rfl (by decide) (by omega) 0 (ok := fun _ => True) (okp := fun _ => True) rfl (fun _ hk => hk) trivial (OD) (Nat.le_trans (Nat.mul_le_mul_right _ (OD : (t812.length : Int).toNat ≤ 35184372088832)) (by omega)) (Below.refl _ _) (Nat.le_refl _) ?_
    intro v816 w25 ho26 hb hg_ hnew_
    clear hg_ hnew_
    (first | rw [← Ny815.out] at ho26 | (simp only [Int.reduceToNat] at ho26; rw [← Ny815.out] at ho26))
    refine E7 (Kd.R_below (PR HO810.out) hb) (Kd.S_elder' (PS HO814.out) (Kd.R_base ho26) hb) (Kd.R_lower ho26 (below_size (BL HB.out))) (bB BK803.out hb) (bB BK804.out hb) (bB BK811.out hb) (below_step (BL HB.out) hb) ?_
    clear HO810 HO814 BK803 BK804 BK811 HB
    intro HO810 HO814 HO817 BK803 BK804 BK811 HB
    clear hb ho26
    obtain ⟨Ao27, co27, eo27⟩ := Kd.R_slice HO817.out
    (first | subst eo27 | (injection eo27 with f1_ f2_ f3_; have f4_ := f1_.symm; have f5_ := f3_.symm; clear f1_ f2_ f3_; subst f4_; subst f5_))
    refine hK.out _ _ ⟨(blk_cell BK811.out 0).trans rfl, (blk_cell BK811.out 1).trans rfl, (blk_cell BK811.out 2).trans rfl⟩ (fun hHeld => ?_)
    clear hK K
    refine norm_ (a' := ?_) ?_ ?_
    rotate_left
    · show Act.put _ (some 18) _ = _
      simp only [Act.put, List.setIfInBounds_toArray, List.set_cons_zero, List.set_cons_succ, i64_w, i32_w]
      rfl
    refine one_ (i := 5) (N := some 19) #[true, true, true, true, true, true] rfl rfl (by kernel_rfl) (by decide) (fun K hK => ?_)
    refine goes_ Try.func69 (by kernel_rfl) rfl #[.agg #[.int .i64 t806, .int .i64 t807, .slice Ao20 t808.length co20], .slice Ao24 t812.length co24, .slice Ao27 y815.length co27] (by rfl) rfl rfl (by (try simp only [List.map_toArray, List.map_cons, List.map_nil]); first | done | rfl | (simp only [List.length_drop, List.length_take]; rfl)) ?_
    with_reducible refine (impl_setBits.calls k t806 t807 (fun k_ => some k_ = (.slice Ao20 t808.length co20 : Value).ownBlock) (.slice Ao20 t808.length co20) t808 _ _ t812 _ _ y815 t818 w _ ?side1 ?side2 ?side3 ?side4 ?side5 ?side6 A8.out).mono ?_
    (case side1 => repeat (first | (with_reducible first | exact HB.out | apply below_alloc | apply pw_below_drewN | apply below_drew1 | refine below_set ?_ GE803.out | refine below_set ?_ GE804.out | refine below_set ?_ GE811.out) | exact HB.out))
    (case side2 => exact Kd.R_tight rfl HO810.out)
    (case side3 => exact Kd.C_kept_own ((Kd.S_R (Kd.S_apart' HO814.out (Kd.R_typed HO810.out) (by decide)))) (fun k_ hk_ hs_ => (hk_.2) hs_))
    (case side4 => exact (Kd.S_reads' HO814.out).2.1)
    (case side5 => exact Kd.C_kept_own ((Kd.R_apart' HO817.out (Kd.R_typed HO810.out) (by decide))) (fun k_ hk_ hs_ => (hk_.2) hs_))
    (case side6 => exact (Kd.R_reads' HO817.out).2.1)
    rintro e w28 ⟨rfl, hy0, hb, hkp⟩
    refine ⟨_, rfl, ?_⟩
    refine E7 (blk_kept (PB BK803.out) hkp (fun hs_ => (fun e_ => (Kd.R_ne HO810.out BK803.out (by decide)) e_) hs_)) (blk_kept (PB BK804.out) hkp (fun hs_ => (fun e_ => (Kd.R_ne HO810.out BK804.out (by decide)) e_) hs_)) (Kd.R_reok rfl hy0 (fun k_ e_ => HO810.out.1 k_ e_)) (blk_kept (PB BK811.out) hkp (fun hs_ => (fun e_ => (Kd.R_ne HO810.out BK811.out (by decide)) e_) hs_)) (Kd.S_mono (ok' := fun k_ => some k_ ≠ (.slice Ao27 y815.length co27 : Value).ownBlock) (Kd.S_keptB ((Kd.S_apart' HO814.out (Kd.R_typed HO810.out) (by decide))) hkp (fun k_ hk_ hs_ => (hk_.2) hs_)) (fun k_ hk_ => hk_.1.1.2)) (Kd.R_mono (ok' := fun k_ => True) (Kd.R_keptB ((Kd.R_apart' HO817.out (Kd.R_typed HO810.out) (by decide))) hkp (fun k_ hk_ hs_ => (hk_.2) hs_)) (fun k_ hk_ => trivial)) (hb) ?_
    clear BK803 BK804 HO810 BK811 HO814 HO817 HB
    intro BK803 BK804 HO810 BK811 HO814 HO817 HB
    (try clear hb)
    (try clear hkp)
    (try clear hy0)
    refine hK.out _ _ ⟨(blk_cell BK811.out 0).trans rfl, (blk_cell BK811.out 1).trans rfl, (blk_cell BK811.out 2).trans rfl⟩ (fun hHeld => ?_)
    clear hK K
    refine norm_ (a' := ?_) ?_ ?_
    rotate_left
    · show Act.put _ (some 19) _ = _
      simp only [Act.put, List.setIfInBounds_toArray, List.set_cons_zero, List.set_cons_succ, i64_w, i32_w]
      rfl
    refine done_ (by kernel_rfl) ?_
    obtain ⟨hcz29_0, hcz29_1, hcz29_2, hfz29_0, hfz29_1, hfz29_2⟩ := cz3 BK811.out
    obtain ⟨hcz30_0, hcz30_1, hcz30_2, hfz30_0, hfz30_1, hfz30_2⟩ := cz3 BK804.out
    try go_wp2
    refine bodyPost_ret (results_ct rfl _ _ gb804 30 #[.int .i64 t806, .int .i64 t807, .slice Ao20 t808.length co20] (0, 0) _ rfl (by (with_reducible repeat (first | refine blk_drewN ?_ _ | refine blk_drew ?_ | refine blk_alloc ?_ _)); refine blk_put (cs := #[.int .i64 t806, .int .i64 t807, .slice none 0 0]) ?_ 2 _ rfl; (with_reducible repeat (first | refine blk_drewN ?_ _ | refine blk_drew ?_ | refine blk_alloc ?_ _)); refine blk_put (cs := #[.int .i64 t806, .int .i64 0, .slice none 0 0]) ?_ 1 _ rfl; (with_reducible repeat (first | refine blk_drewN ?_ _ | refine blk_drew ?_ | refine blk_alloc ?_ _)); refine blk_put (cs := #[.int .i64 0, .int .i64 0, .slice none 0 0]) ?_ 0 _ rfl; (with_reducible repeat (first | refine blk_drewN ?_ _ | refine blk_drew ?_ | refine blk_alloc ?_ _)); exact BK804.out) Try.underlying30 rfl (by kernel_rfl)) rfl ?_
    exact ⟨_, RF, by (with_reducible repeat (first | apply Kd.R_alloc | apply Kd.R_drewN | apply Kd.R_drew)); exact Kd.R_mono (Kd.R_far (p := ⟨gb804, 2, none⟩) (Kd.R_far (p := ⟨gb804, 1, none⟩) (Kd.R_far (p := ⟨gb804, 0, none⟩) (Kd.R_types HO810.out BK804.out (by decide)) (fun _ hk => hk.2) (.int .i64 t806)) (fun _ hk => hk.2) (.int .i64 t807)) (fun _ hk => hk.2) (.slice Ao20 t808.length co20)) (fun _ hk => trivial), BL HB.out⟩
  simp only [Option.some.injEq, Prod.mk.injEq] at H
  obtain ⟨rfl, rfl, rfl, rfl⟩ := H
  go_enter Try.func37, Try.ntmps37
  go_wp2_with (first | ((with_reducible refine gate_dst (N := 1) rfl ?_); refine boxE (N := 1) (cs := #[.int .i64 a0_0, .int .i64 a0_1, .slice A0_2 l0_2.length c0_2]) (t := 30) ?_; intro gb803 hg w31 hbox hb; refine E4b HB.out hg hbox hb ?_; clear HB; intro HB BK803 GW803 GE803; clear hb hbox hg) | ((with_reducible refine gate_dst (N := 2) rfl ?_); refine boxE (N := 2) (cs := #[.int .i64 0, .int .i64 0, .slice none 0 0]) (t := 30) ?_; intro gb804 hg w32 hbox hb; refine E7 (bB BK803.out hb) (below_step (BL HB.out) hb) (hbox) (gwM hg (below_size (BL HB.out)) : w.heap.size ≤ gb804) (gwM hg (below_size (BL HB.out)) : w.heap.size ≤ gb804) ((nB BK803.out hg : gb803 ≠ gb804)) ((nC BK803.out hg : gb804 ≠ gb803)) ?_; clear BK803 HB; intro BK803 HB BK804 GW804 GE804 NB803_804 NB804_803; clear hb hbox hg; have hnb33 := NB803_804.out; have hnc33 := NB804_803.out; obtain ⟨hcz34_0, hcz34_1, hcz34_2, hfz34_0, hfz34_1, hfz34_2⟩ := cz3 BK803.out) | ((with_reducible refine gate_callee (f := 50) rfl ?_); refine goesM (N := (some 7)) #[.agg #[.int .i64 a0_0, .int .i64 a0_1, .slice A0_2 l0_2.length c0_2]] Try.func50 ?_; (with_reducible refine (impl_IsBoard.calls k a0_0 a0_1 _ _ l0_2 false _ ?side1 ?side2 A2.out).mono ?_); (case side1 => exact CB (Kd.C_below HR0_2.out HB.out)); (case side2 => exact HC0_2.out); rintro e w35 ⟨rfl, hb⟩; refine ⟨_, rfl, ?_⟩; refine E3 (bB BK803.out hb) (bB BK804.out hb) (below_step (BL HB.out) hb) ?_; clear BK803 BK804 HB; intro BK803 BK804 HB; (try clear hb); (try clear hb2); (try clear hk); (try clear hi); obtain ⟨hcz36_0, hcz36_1, hcz36_2, hfz36_0, hfz36_1, hfz36_2⟩ := cz3 BK804.out))
  refine bodyPost_ret (results_ct rfl _ _ gb804 30 #[.int .i64 0, .int .i64 0, .slice none 0 0] (0, 0) _ rfl (by (with_reducible repeat (first | refine blk_drewN ?_ _ | refine blk_drew ?_ | refine blk_alloc ?_ _)); refine blk_put (cs := #[.int .i64 0, .int .i64 0, .slice none 0 0]) ?_ 2 _ rfl; (with_reducible repeat (first | refine blk_drewN ?_ _ | refine blk_drew ?_ | refine blk_alloc ?_ _)); refine blk_put (cs := #[.int .i64 0, .int .i64 0, .slice none 0 0]) ?_ 1 _ rfl; (with_reducible repeat (first | refine blk_drewN ?_ _ | refine blk_drew ?_ | refine blk_alloc ?_ _)); refine blk_put (cs := #[.int .i64 0, .int .i64 0, .slice none 0 0]) ?_ 0 _ rfl; (with_reducible repeat (first | refine blk_drewN ?_ _ | refine blk_drew ?_ | refine blk_alloc ?_ _)); exact BK804.out) Try.underlying30 rfl (by kernel_rfl)) rfl ?_
  exact ⟨_, RF, by first | exact Kd.R_nil _ _ _ _ _ | exact Kd.N_nil _ _ _ _ _ | exact Kd.V_nil _ _ _ _ _ | exact Kd.Q_nil _ _ _ _ _ | exact Kd.S_nil _ _ _ _ _, BL HB.out⟩

/-! ### laws_FnExactZeroState: function 9 -/
mutual
def laws_FnExactZeroState.j0 : Nat → Bool → Bool → Bool → Int → Int → List (S84) → Int → Int → List (S73) → Int → Int → List (S73) → Int → Int → List (S73) → Option (Bool)
  | 0, _, _, _, _, _, _, _, _, _, _, _, _, _, _, _ => none
  | k + 1, x5, x8, x40, x820000, x820001, x820002, x833000, x833001, x833002, x839000, x839001, x839002, x846000, x846001, x846002 => if x40 = true then (some false) else ((laws_toBoard.f k x820000 x820001 x820002).bind fun bt847 => ((laws_eqBoard.f k x839000 x839001 x839002 bt847.1 bt847.2.1 bt847.2.2).bind fun t852 => (if t852 = true then ((laws_markBoard.f k x839000 x839001 x839002 1).bind fun bt853 => (if bt853.1 < 0 then (laws_FnExactZeroState.j1 k x5 true x820000 x820001 x820002 x833000 x833001 x833002 x846000 x846001 x846002) else ((laws_eqBoard.f k x846000 x846001 x846002 x833000 x833001 x833002).bind fun t855 => (if t855 = true then (laws_FnExactZeroState.j1 k x5 (x8 != x5) x820000 x820001 x820002 x833000 x833001 x833002 x846000 x846001 x846002) else (laws_FnExactZeroState.j1 k x5 true x820000 x820001 x820002 x833000 x833001 x833002 x846000 x846001 x846002))))) else (some false))))
def laws_FnExactZeroState.j1 : Nat → Bool → Bool → Int → Int → List (S84) → Int → Int → List (S73) → Int → Int → List (S73) → Option (Bool)
  | 0, _, _, _, _, _, _, _, _, _, _, _ => none
  | k + 1, x5, x61, x820000, x820001, x820002, x833000, x833001, x833002, x846000, x846001, x846002 => if x61 = true then (some false) else ((laws_markBoard.f k x846000 x846001 x846002 1).bind fun bt856 => ((laws_heldBoard.f k x846000 x846001 bt856.2 1).bind fun t858 => (if t858 < 0 then (some false) else (if t858 = bt856.1 then ((laws_toBoard.f k x820000 x820001 x820002).bind fun bt859 => ((impl_ZeroState.f k bt859.1 bt859.2.1 bt859.2.2).bind fun bt864 => ((laws_eqBoard.f k bt864.1 bt864.2.1 bt864.2.2.1 x833000 x833001 x833002).bind fun t871 => (if t871 = true then (laws_FnExactZeroState.j2 k bt856.1 (bt864.2.2.2 != x5) x846000 x846001 bt856.2) else (laws_FnExactZeroState.j2 k bt856.1 true x846000 x846001 bt856.2))))) else (some false)))))
def laws_FnExactZeroState.j2 : Nat → Int → Bool → Int → Int → List (S73) → Option (Bool)
  | 0, _, _, _, _, _ => none
  | k + 1, x10, x87, x846000, x846001, x846002 => if x87 = true then (some false) else ((laws_heldBoard.f k x846000 x846001 x846002 1).bind fun t872 => (if t872 < 0 then (some false) else (if t872 = x10 then (some true) else (some false))))
end
def laws_FnExactZeroState.f (k : Nat) (a0_0 : Int) (a0_1 : Int) (l0_2 : List (S84)) : Option (Bool) := (laws_szBoard.f a0_0 a0_1 l0_2 1048576).bind fun t820 => (if t820 < 0 then (some true) else ((laws_toBoard.f k a0_0 a0_1 l0_2).bind fun bt821 => ((spec_ZeroState.f k bt821.1 bt821.2.1 bt821.2.2).bind fun bt826 => ((laws_toBoard.f k a0_0 a0_1 l0_2).bind fun bt833 => ((impl_ZeroState.f k bt833.1 bt833.2.1 bt833.2.2).bind fun bt839 => ((laws_eqBoard.f k bt839.1 bt839.2.1 bt839.2.2.1 bt826.1 bt826.2.1 bt826.2.2.1).bind fun t846 => (if t846 = true then (laws_FnExactZeroState.j0 k bt826.2.2.2 bt839.2.2.2 (bt839.2.2.2 != bt826.2.2.2) a0_0 a0_1 l0_2 bt826.1 bt826.2.1 bt826.2.2.1 bt833.1 bt833.2.1 bt833.2.2 bt839.1 bt839.2.1 bt839.2.2.1) else (laws_FnExactZeroState.j0 k bt826.2.2.2 bt839.2.2.2 true a0_0 a0_1 l0_2 bt826.1 bt826.2.1 bt826.2.2.1 bt833.1 bt833.2.1 bt833.2.2 bt839.1 bt839.2.1 bt839.2.2.1))))))))
theorem laws_FnExactZeroState.mono_l : ∀ k, (∀ y0 y1 y2 y3 y4 y5 y6 y7 y8 y9 y10 y11 y12 y13 y14, LeO (laws_FnExactZeroState.j0 k y0 y1 y2 y3 y4 y5 y6 y7 y8 y9 y10 y11 y12 y13 y14) (laws_FnExactZeroState.j0 (k + 1) y0 y1 y2 y3 y4 y5 y6 y7 y8 y9 y10 y11 y12 y13 y14)) ∧ (∀ y0 y1 y2 y3 y4 y5 y6 y7 y8 y9 y10, LeO (laws_FnExactZeroState.j1 k y0 y1 y2 y3 y4 y5 y6 y7 y8 y9 y10) (laws_FnExactZeroState.j1 (k + 1) y0 y1 y2 y3 y4 y5 y6 y7 y8 y9 y10)) ∧ (∀ y0 y1 y2 y3 y4, LeO (laws_FnExactZeroState.j2 k y0 y1 y2 y3 y4) (laws_FnExactZeroState.j2 (k + 1) y0 y1 y2 y3 y4))
  | 0 => by refine ⟨?_, ?_, ?_⟩ <;> (intros; intro r h; first | (simp [laws_FnExactZeroState.j0] at h; done) | (simp [laws_FnExactZeroState.j1] at h; done) | (simp [laws_FnExactZeroState.j2] at h; done))
  | k + 1 => by
    obtain ⟨ih0, ih1, ih2⟩ := laws_FnExactZeroState.mono_l k
    refine ⟨?_, ?_, ?_⟩ <;> (
      intros
      first | unfold laws_FnExactZeroState.j0 | unfold laws_FnExactZeroState.j1 | unfold laws_FnExactZeroState.j2
      repeat' first | (with_reducible first | apply ih0 | apply ih1 | apply ih2 | apply impl_ZeroState.mono | apply laws_eqBoard.mono | apply laws_heldBoard.mono | apply laws_markBoard.mono | apply laws_toBoard.mono | apply spec_ZeroState.mono | exact LeO.refl _ | exact LeO.none _ | refine LeO.ite ?_ ?_ | refine LeO.bind ?_ (fun _ => ?_)) | apply ih0 | apply ih1 | apply ih2 | apply impl_ZeroState.mono | apply laws_eqBoard.mono | apply laws_heldBoard.mono | apply laws_markBoard.mono | apply laws_toBoard.mono | apply spec_ZeroState.mono | exact LeO.none _ | refine LeO.ite ?_ ?_ | refine LeO.bind ?_ (fun _ => ?_))
theorem laws_FnExactZeroState.mono : ∀ a0 a1 a2 k, LeO (laws_FnExactZeroState.f k a0 a1 a2) (laws_FnExactZeroState.f (k + 1) a0 a1 a2) := by
  intro a0 a1 a2 k
  obtain ⟨ih0, ih1, ih2⟩ := laws_FnExactZeroState.mono_l k
  unfold laws_FnExactZeroState.f
  repeat' first | (with_reducible first | apply ih0 | apply ih1 | apply ih2 | apply impl_ZeroState.mono | apply laws_eqBoard.mono | apply laws_heldBoard.mono | apply laws_markBoard.mono | apply laws_toBoard.mono | apply spec_ZeroState.mono | exact LeO.refl _ | exact LeO.none _ | refine LeO.ite ?_ ?_ | refine LeO.bind ?_ (fun _ => ?_)) | apply ih0 | apply ih1 | apply ih2 | apply impl_ZeroState.mono | apply laws_eqBoard.mono | apply laws_heldBoard.mono | apply laws_markBoard.mono | apply laws_toBoard.mono | apply spec_ZeroState.mono | exact LeO.none _ | refine LeO.ite ?_ ?_ | refine LeO.bind ?_ (fun _ => ?_)
set_option maxHeartbeats 8000000 in
set_option maxRecDepth 100000 in
theorem laws_FnExactZeroState.calls (k : Nat) (a0_0 : Int) (a0_1 : Int) (A0_2 : Option Addr) (c0_2 : Nat) (l0_2 : List (S84)) (w : World) (hr0_2 : Kd.C k84 w A0_2 l0_2.length l0_2) (hc0_2 : l0_2.length ≤ c0_2) (h : laws_FnExactZeroState.f k a0_0 a0_1 l0_2 = some true) :
    Calls Try.prog 9 #[.agg #[.int .i64 a0_0, .int .i64 a0_1, .slice A0_2 l0_2.length c0_2]] w fun e w' => e = .returned (.bool true) ∧ Below w.heap.size w w' := by
  have hu24 := Try.underlying24
  have hu30 := Try.underlying30
  have HR0_2 := Aside0.mk hr0_2
  have HC0_2 := Aside0.mk hc0_2
  clear hr0_2 hc0_2
  have HB := Aside0.mk (Below.refl w.heap.size w)
  have H := h
  clear h
  unfold laws_FnExactZeroState.f at H
  replace H := bindA H; obtain ⟨t820, A2, H⟩ := H
  replace H := ifB H; rcases H with ⟨c3b0, H⟩ | ⟨c3b0, H⟩
  · first | (obtain rfl := Option.some.inj H) | clear H
    go_enter Try.func9, Try.ntmps9
    go_wp2_with (first | ((with_reducible refine gate_dst (N := 1) rfl ?_); refine boxE (N := 1) (cs := #[.int .i64 a0_0, .int .i64 a0_1, .slice A0_2 l0_2.length c0_2]) (t := 24) ?_; intro gb819 hg w4 hbox hb; refine E4b HB.out hg hbox hb ?_; clear HB; intro HB BK819 GW819 GE819; clear hb hbox hg; obtain ⟨hcz5_0, hcz5_1, hcz5_2, hfz5_0, hfz5_1, hfz5_2⟩ := cz3 BK819.out) | ((with_reducible refine gate_callee (f := 13) rfl ?_); refine goesM (N := (some 16)) #[.agg #[.int .i64 a0_0, .int .i64 a0_1, .slice A0_2 l0_2.length c0_2], .int .i64 1048576] Try.func13 ?_; (with_reducible refine (laws_szBoard.calls a0_0 a0_1 _ _ l0_2 1048576 t820 _ ?side1 ?side2 A2.out).mono ?_); (case side1 => exact CB (Kd.C_below HR0_2.out HB.out)); (case side2 => exact HC0_2.out); rintro e w6 ⟨rfl, hb⟩; refine ⟨_, rfl, ?_⟩; refine E2 (bB BK819.out hb) (below_step (BL HB.out) hb) ?_; clear BK819 HB; intro BK819 HB; (try clear hb); (try clear hb2); (try clear hk); (try clear hi)))
    go_ret
    exact ⟨RF, BL HB.out⟩
  replace H := bindA H; obtain ⟨⟨t821, t822, t823⟩, A7, H⟩ := H
  dsimp only at H
  replace H := bindA H; obtain ⟨⟨t826, t827, t828, t831⟩, A8, H⟩ := H
  dsimp only at H
  replace H := bindA H; obtain ⟨⟨t833, t834, t835⟩, A9, H⟩ := H
  dsimp only at H
  replace H := bindA H; obtain ⟨⟨t839, t840, t841, t844⟩, A10, H⟩ := H
  dsimp only at H
  have HC11 := Aside0.mk H
  clear H
  go_enter Try.func9, Try.ntmps9
  go_upto_region 8 with (first | ((with_reducible refine gate_dst (N := 1) rfl ?_); refine boxE (N := 1) (cs := #[.int .i64 a0_0, .int .i64 a0_1, .slice A0_2 l0_2.length c0_2]) (t := 24) ?_; intro gb819 hg w12 hbox hb; refine E4b HB.out hg hbox hb ?_; clear HB; intro HB BK819 GW819 GE819; clear hb hbox hg; obtain ⟨hcz13_0, hcz13_1, hcz13_2, hfz13_0, hfz13_1, hfz13_2⟩ := cz3 BK819.out) | ((with_reducible refine gate_callee (f := 13) rfl ?_); refine goesM (N := (some 16)) #[.agg #[.int .i64 a0_0, .int .i64 a0_1, .slice A0_2 l0_2.length c0_2], .int .i64 1048576] Try.func13 ?_; (with_reducible refine (laws_szBoard.calls a0_0 a0_1 _ _ l0_2 1048576 t820 _ ?side1 ?side2 A2.out).mono ?_); (case side1 => exact CB (Kd.C_below HR0_2.out HB.out)); (case side2 => exact HC0_2.out); rintro e w14 ⟨rfl, hb⟩; refine ⟨_, rfl, ?_⟩; refine E2 (bB BK819.out hb) (below_step (BL HB.out) hb) ?_; clear BK819 HB; intro BK819 HB; (try clear hb); (try clear hb2); (try clear hk); (try clear hi); obtain ⟨hcz15_0, hcz15_1, hcz15_2, hfz15_0, hfz15_1, hfz15_2⟩ := cz3 BK819.out) | ((with_reducible refine gate_callee (f := 15) rfl ?_); refine goesM (N := (some 21)) #[.agg #[.int .i64 a0_0, .int .i64 a0_1, .slice A0_2 l0_2.length c0_2]] Try.func15 ?_; (with_reducible refine (laws_toBoard.calls k a0_0 a0_1 _ _ l0_2 t821 t822 t823 _ ?side1 ?side2 A7.out).mono ?_); (case side1 => exact CB (Kd.C_below HR0_2.out HB.out)); (case side2 => exact HC0_2.out); rintro e w16 ⟨v824, rfl, ho0, hb⟩; refine ⟨_, rfl, ?_⟩; refine E3 (Kd.R_lower ho0 (below_size (BL HB.out))) (bB BK819.out hb) (below_step (BL HB.out) hb) ?_; clear BK819 HB; intro HO825 BK819 HB; (try clear hb); (try clear hb2); (try clear hk); (try clear hi); (try clear ho0); obtain ⟨Ao17, co17, eo17⟩ := Kd.R_slice HO825.out; subst eo17) | ((with_reducible refine gate_callee (f := 36) rfl ?_); refine goesM (N := (some 22)) #[.agg #[.int .i64 t821, .int .i64 t822, .slice Ao17 t823.length co17]] Try.func36 ?_; (with_reducible refine (spec_ZeroState.calls k t821 t822 _ _ t823 t826 t827 t828 t831 _ ?side1 ?side2 A8.out).mono ?_); (case side1 => repeat (first | exact (Kd.R_reads' HO825.out).2.2 | (with_reducible refine Kd.C_alloc ?_ _) | (with_reducible refine Kd.C_drewN ?_ _) | (with_reducible refine Kd.C_drew ?_))); (case side2 => exact (Kd.R_reads' HO825.out).2.1); rintro e w18 ⟨v829, rfl, ho0, hb⟩; refine ⟨_, rfl, ?_⟩; refine E4 (Kd.R_elder' (PR HO825.out) (Kd.R_base ho0) hb) (Kd.R_lower (Kd.R_new' ho0 (Kd.R_lt (PR HO825.out))) (below_size (BL HB.out))) (bB BK819.out hb) (below_step (BL HB.out) hb) ?_; clear HO825 BK819 HB; intro HO825 HO830 BK819 HB; (try clear hb); (try clear hb2); (try clear hk); (try clear hi); (try clear ho0)) | ((with_reducible refine gate_dst (N := 4) rfl ?_); refine boxE (N := 4) (cs := #[.int .i64 0, .int .i64 0, .slice none 0 0]) (t := 30) ?_; intro gb832 hg w19 hbox hb; refine E9 (Kd.R_below (PR HO825.out) hb) (Kd.R_below (PR HO830.out) hb) (bB BK819.out hb) (below_step (BL HB.out) hb) (hbox) (gwM hg (below_size (BL HB.out)) : w.heap.size ≤ gb832) (gwM hg (below_size (BL HB.out)) : w.heap.size ≤ gb832) ((nB BK819.out hg : gb819 ≠ gb832)) ((nC BK819.out hg : gb832 ≠ gb819)) ?_; clear HO825 HO830 BK819 HB; intro HO825 HO830 BK819 HB BK832 GW832 GE832 NB819_832 NB832_819; clear hb hbox hg; have hnb20 := NB832_819.out; have hnc20 := NB819_832.out; obtain ⟨hcz21_0, hcz21_1, hcz21_2, hfz21_0, hfz21_1, hfz21_2⟩ := cz3 BK832.out; obtain ⟨Ao22, co22, eo22⟩ := Kd.R_slice HO830.out; subst eo22; obtain ⟨hcz23_0, hcz23_1, hcz23_2, hfz23_0, hfz23_1, hfz23_2⟩ := cz3 BK819.out) | ((with_reducible refine gate_callee (f := 15) rfl ?_); refine goesM (N := (some 26)) #[.agg #[.int .i64 a0_0, .int .i64 a0_1, .slice A0_2 l0_2.length c0_2]] Try.func15 ?_; (with_reducible refine (laws_toBoard.calls k a0_0 a0_1 _ _ l0_2 t833 t834 t835 _ ?side1 ?side2 A9.out).mono ?_); (case side1 => exact Kd.C_below HR0_2.out (BL HB.out)); (case side2 => exact HC0_2.out); rintro e w24 ⟨v836, rfl, ho0, hb⟩; refine ⟨_, rfl, ?_⟩; refine E6 (Kd.R_elder' (by (with_reducible repeat (first | apply Kd.R_alloc | apply Kd.R_drewN | apply Kd.R_drew)); exact (Kd.R_mono (Kd.R_far (p := ⟨gb832, 2, none⟩) (Kd.R_far (p := ⟨gb832, 1, none⟩) (Kd.R_far (p := ⟨gb832, 0, none⟩) (Kd.R_types HO825.out BK832.out (by decide)) (fun _ hk => hk.2) (.int .i64 t826)) (fun _ hk => hk.2) (.int .i64 t827)) (fun _ hk => hk.2) (.slice Ao22 t828.length co22)) (fun _ h_ => h_.1))) (Kd.R_base ho0) hb) (Kd.R_elder' (by (with_reducible repeat (first | apply Kd.R_alloc | apply Kd.R_drewN | apply Kd.R_drew)); exact (Kd.R_mono (Kd.R_far (p := ⟨gb832, 2, none⟩) (Kd.R_far (p := ⟨gb832, 1, none⟩) (Kd.R_far (p := ⟨gb832, 0, none⟩) (Kd.R_types HO830.out BK832.out (by decide)) (fun _ hk => hk.2) (.int .i64 t826)) (fun _ hk => hk.2) (.int .i64 t827)) (fun _ hk => hk.2) (.slice Ao22 t828.length co22)) (fun _ h_ => h_.1))) (Kd.R_base ho0) hb) (Kd.R_lower (Kd.R_new' (Kd.R_new' ho0 (Kd.R_lt (by (with_reducible repeat (first | apply Kd.R_alloc | apply Kd.R_drewN | apply Kd.R_drew)); exact (Kd.R_mono (Kd.R_far (p := ⟨gb832, 2, none⟩) (Kd.R_far (p := ⟨gb832, 1, none⟩) (Kd.R_far (p := ⟨gb832, 0, none⟩) (Kd.R_types HO825.out BK832.out (by decide)) (fun _ hk => hk.2) (.int .i64 t826)) (fun _ hk => hk.2) (.int .i64 t827)) (fun _ hk => hk.2) (.slice Ao22 t828.length co22)) (fun _ h_ => h_.1))))) (Kd.R_lt (by (with_reducible repeat (first | apply Kd.R_alloc | apply Kd.R_drewN | apply Kd.R_drew)); exact (Kd.R_mono (Kd.R_far (p := ⟨gb832, 2, none⟩) (Kd.R_far (p := ⟨gb832, 1, none⟩) (Kd.R_far (p := ⟨gb832, 0, none⟩) (Kd.R_types HO830.out BK832.out (by decide)) (fun _ hk => hk.2) (.int .i64 t826)) (fun _ hk => hk.2) (.int .i64 t827)) (fun _ hk => hk.2) (.slice Ao22 t828.length co22)) (fun _ h_ => h_.1))))) (below_size (BL HB.out))) (blk_below (g := gb819) (o := .cells #[.int .i64 a0_0, .int .i64 a0_1, .slice A0_2 l0_2.length c0_2] 24 (0, 0)) (by (with_reducible repeat (first | refine blk_drewN ?_ _ | refine blk_drew ?_ | refine blk_alloc ?_ _)); refine blk_far ?_ NB819_832.out _; (with_reducible repeat (first | refine blk_drewN ?_ _ | refine blk_drew ?_ | refine blk_alloc ?_ _)); refine blk_far ?_ NB819_832.out _; (with_reducible repeat (first | refine blk_drewN ?_ _ | refine blk_drew ?_ | refine blk_alloc ?_ _)); refine blk_far ?_ NB819_832.out _; (with_reducible repeat (first | refine blk_drewN ?_ _ | refine blk_drew ?_ | refine blk_alloc ?_ _)); exact BK819.out) hb) (blk_below (g := gb832) (o := .cells #[.int .i64 t826, .int .i64 t827, .slice Ao22 t828.length co22] 30 (0, 0)) (by (with_reducible repeat (first | refine blk_drewN ?_ _ | refine blk_drew ?_ | refine blk_alloc ?_ _)); refine blk_put (cs := #[.int .i64 t826, .int .i64 t827, .slice none 0 0]) ?_ 2 _ rfl; (with_reducible repeat (first | refine blk_drewN ?_ _ | refine blk_drew ?_ | refine blk_alloc ?_ _)); refine blk_put (cs := #[.int .i64 t826, .int .i64 0, .slice none 0 0]) ?_ 1 _ rfl; (with_reducible repeat (first | refine blk_drewN ?_ _ | refine blk_drew ?_ | refine blk_alloc ?_ _)); refine blk_put (cs := #[.int .i64 0, .int .i64 0, .slice none 0 0]) ?_ 0 _ rfl; (with_reducible repeat (first | refine blk_drewN ?_ _ | refine blk_drew ?_ | refine blk_alloc ?_ _)); exact BK832.out) hb) (below_step (BL HB.out) hb) ?_; clear HO825 HO830 BK819 BK832 HB; intro HO825 HO830 HO837 BK819 BK832 HB; (try clear hb); (try clear hb2); (try clear hk); (try clear hi); (try clear ho0)) | ((with_reducible refine gate_dst (N := 6) rfl ?_); refine boxE (N := 6) (cs := #[.int .i64 0, .int .i64 0, .slice none 0 0]) (t := 30) ?_; intro gb838 hg w25 hbox hb; refine E13 (Kd.R_below (PR HO825.out) hb) (Kd.R_below (PR HO830.out) hb) (Kd.R_below (PR HO837.out) hb) (bB BK819.out hb) (bB BK832.out hb) (below_step (BL HB.out) hb) (hbox) (gwM hg (below_size (BL HB.out)) : w.heap.size ≤ gb838) (gwM hg (below_size (BL HB.out)) : w.heap.size ≤ gb838) ((nB BK819.out hg : gb819 ≠ gb838)) ((nC BK819.out hg : gb838 ≠ gb819)) ((nB BK832.out hg : gb832 ≠ gb838)) ((nC BK832.out hg : gb838 ≠ gb832)) ?_; clear HO825 HO830 HO837 BK819 BK832 HB; intro HO825 HO830 HO837 BK819 BK832 HB BK838 GW838 GE838 NB819_838 NB838_819 NB832_838 NB838_832; clear hb hbox hg; have hnb26 := NB838_819.out; have hnc26 := NB819_838.out; have hnb27 := NB838_832.out; have hnc27 := NB832_838.out; obtain ⟨hcz28_0, hcz28_1, hcz28_2, hfz28_0, hfz28_1, hfz28_2⟩ := cz3 BK838.out; obtain ⟨Ao29, co29, eo29⟩ := Kd.R_slice HO837.out; subst eo29) | ((with_reducible refine gate_callee (f := 37) rfl ?_); refine goesM (N := (some 29)) #[.agg #[.int .i64 t833, .int .i64 t834, .slice Ao29 t835.length co29]] Try.func37 ?_; (with_reducible refine (impl_ZeroState.calls k t833 t834 _ _ t835 t839 t840 t841 t844 _ ?side1 ?side2 A10.out).mono ?_); (case side1 => refine (Kd.R_reads' (e := 73) (base := w.heap.size) (ok := fun k_ => ((True ∧ some k_ ≠ (.slice Ao17 t823.length co17 : Value).ownBlock) ∧ some k_ ≠ (.slice Ao22 t828.length co22 : Value).ownBlock)) (n := t835.length) (c := co29) ?_).2.2; exact (by (with_reducible repeat (first | apply Kd.R_alloc | apply Kd.R_drewN | apply Kd.R_drew)); exact (Kd.R_mono (Kd.R_far (p := ⟨gb838, 2, none⟩) (Kd.R_far (p := ⟨gb838, 1, none⟩) (Kd.R_far (p := ⟨gb838, 0, none⟩) (Kd.R_types HO837.out BK838.out (by decide)) (fun _ hk => hk.2) (.int .i64 t833)) (fun _ hk => hk.2) (.int .i64 t834)) (fun _ hk => hk.2) (.slice Ao29 t835.length co29)) (fun _ h_ => h_.1)))); (case side2 => exact (Kd.R_reads' HO837.out).2.1); rintro e w30 ⟨v842, rfl, ho0, hb⟩; refine ⟨_, rfl, ?_⟩; refine E8 (Kd.R_elder' (by (with_reducible repeat (first | apply Kd.R_alloc | apply Kd.R_drewN | apply Kd.R_drew)); exact (Kd.R_mono (Kd.R_far (p := ⟨gb838, 2, none⟩) (Kd.R_far (p := ⟨gb838, 1, none⟩) (Kd.R_far (p := ⟨gb838, 0, none⟩) (Kd.R_types HO825.out BK838.out (by decide)) (fun _ hk => hk.2) (.int .i64 t833)) (fun _ hk => hk.2) (.int .i64 t834)) (fun _ hk => hk.2) (.slice Ao29 t835.length co29)) (fun _ h_ => h_.1))) (Kd.R_base ho0) hb) (Kd.R_elder' (by (with_reducible repeat (first | apply Kd.R_alloc | apply Kd.R_drewN | apply Kd.R_drew)); exact (Kd.R_mono (Kd.R_far (p := ⟨gb838, 2, none⟩) (Kd.R_far (p := ⟨gb838, 1, none⟩) (Kd.R_far (p := ⟨gb838, 0, none⟩) (Kd.R_types HO830.out BK838.out (by decide)) (fun _ hk => hk.2) (.int .i64 t833)) (fun _ hk => hk.2) (.int .i64 t834)) (fun _ hk => hk.2) (.slice Ao29 t835.length co29)) (fun _ h_ => h_.1))) (Kd.R_base ho0) hb) (Kd.R_elder' (by (with_reducible repeat (first | apply Kd.R_alloc | apply Kd.R_drewN | apply Kd.R_drew)); exact (Kd.R_mono (Kd.R_far (p := ⟨gb838, 2, none⟩) (Kd.R_far (p := ⟨gb838, 1, none⟩) (Kd.R_far (p := ⟨gb838, 0, none⟩) (Kd.R_types HO837.out BK838.out (by decide)) (fun _ hk => hk.2) (.int .i64 t833)) (fun _ hk => hk.2) (.int .i64 t834)) (fun _ hk => hk.2) (.slice Ao29 t835.length co29)) (fun _ h_ => h_.1))) (Kd.R_base ho0) hb) (Kd.R_lower (Kd.R_new' (Kd.R_new' (Kd.R_new' ho0 (Kd.R_lt (by (with_reducible repeat (first | apply Kd.R_alloc | apply Kd.R_drewN | apply Kd.R_drew)); exact (Kd.R_mono (Kd.R_far (p := ⟨gb838, 2, none⟩) (Kd.R_far (p := ⟨gb838, 1, none⟩) (Kd.R_far (p := ⟨gb838, 0, none⟩) (Kd.R_types HO825.out BK838.out (by decide)) (fun _ hk => hk.2) (.int .i64 t833)) (fun _ hk => hk.2) (.int .i64 t834)) (fun _ hk => hk.2) (.slice Ao29 t835.length co29)) (fun _ h_ => h_.1))))) (Kd.R_lt (by (with_reducible repeat (first | apply Kd.R_alloc | apply Kd.R_drewN | apply Kd.R_drew)); exact (Kd.R_mono (Kd.R_far (p := ⟨gb838, 2, none⟩) (Kd.R_far (p := ⟨gb838, 1, none⟩) (Kd.R_far (p := ⟨gb838, 0, none⟩) (Kd.R_types HO830.out BK838.out (by decide)) (fun _ hk => hk.2) (.int .i64 t833)) (fun _ hk => hk.2) (.int .i64 t834)) (fun _ hk => hk.2) (.slice Ao29 t835.length co29)) (fun _ h_ => h_.1))))) (Kd.R_lt (by (with_reducible repeat (first | apply Kd.R_alloc | apply Kd.R_drewN | apply Kd.R_drew)); exact (Kd.R_mono (Kd.R_far (p := ⟨gb838, 2, none⟩) (Kd.R_far (p := ⟨gb838, 1, none⟩) (Kd.R_far (p := ⟨gb838, 0, none⟩) (Kd.R_types HO837.out BK838.out (by decide)) (fun _ hk => hk.2) (.int .i64 t833)) (fun _ hk => hk.2) (.int .i64 t834)) (fun _ hk => hk.2) (.slice Ao29 t835.length co29)) (fun _ h_ => h_.1))))) (below_size (BL HB.out))) (blk_below (g := gb819) (o := .cells #[.int .i64 a0_0, .int .i64 a0_1, .slice A0_2 l0_2.length c0_2] 24 (0, 0)) (by (with_reducible repeat (first | refine blk_drewN ?_ _ | refine blk_drew ?_ | refine blk_alloc ?_ _)); refine blk_far ?_ NB819_838.out _; (with_reducible repeat (first | refine blk_drewN ?_ _ | refine blk_drew ?_ | refine blk_alloc ?_ _)); refine blk_far ?_ NB819_838.out _; (with_reducible repeat (first | refine blk_drewN ?_ _ | refine blk_drew ?_ | refine blk_alloc ?_ _)); refine blk_far ?_ NB819_838.out _; (with_reducible repeat (first | refine blk_drewN ?_ _ | refine blk_drew ?_ | refine blk_alloc ?_ _)); exact BK819.out) hb) (blk_below (g := gb832) (o := .cells #[.int .i64 t826, .int .i64 t827, .slice Ao22 t828.length co22] 30 (0, 0)) (by (with_reducible repeat (first | refine blk_drewN ?_ _ | refine blk_drew ?_ | refine blk_alloc ?_ _)); refine blk_far ?_ NB832_838.out _; (with_reducible repeat (first | refine blk_drewN ?_ _ | refine blk_drew ?_ | refine blk_alloc ?_ _)); refine blk_far ?_ NB832_838.out _; (with_reducible repeat (first | refine blk_drewN ?_ _ | refine blk_drew ?_ | refine blk_alloc ?_ _)); refine blk_far ?_ NB832_838.out _; (with_reducible repeat (first | refine blk_drewN ?_ _ | refine blk_drew ?_ | refine blk_alloc ?_ _)); exact BK832.out) hb) (blk_below (g := gb838) (o := .cells #[.int .i64 t833, .int .i64 t834, .slice Ao29 t835.length co29] 30 (0, 0)) (by (with_reducible repeat (first | refine blk_drewN ?_ _ | refine blk_drew ?_ | refine blk_alloc ?_ _)); refine blk_put (cs := #[.int .i64 t833, .int .i64 t834, .slice none 0 0]) ?_ 2 _ rfl; (with_reducible repeat (first | refine blk_drewN ?_ _ | refine blk_drew ?_ | refine blk_alloc ?_ _)); refine blk_put (cs := #[.int .i64 t833, .int .i64 0, .slice none 0 0]) ?_ 1 _ rfl; (with_reducible repeat (first | refine blk_drewN ?_ _ | refine blk_drew ?_ | refine blk_alloc ?_ _)); refine blk_put (cs := #[.int .i64 0, .int .i64 0, .slice none 0 0]) ?_ 0 _ rfl; (with_reducible repeat (first | refine blk_drewN ?_ _ | refine blk_drew ?_ | refine blk_alloc ?_ _)); exact BK838.out) hb) (below_step (BL HB.out) hb) ?_; clear HO825 HO830 HO837 BK819 BK832 BK838 HB; intro HO825 HO830 HO837 HO843 BK819 BK832 BK838 HB; (try clear hb); (try clear hb2); (try clear hk); (try clear hi); (try clear ho0)) | ((with_reducible refine gate_dst (N := 7) rfl ?_); refine boxE (N := 7) (cs := #[.int .i64 0, .int .i64 0, .slice none 0 0]) (t := 30) ?_; intro gb845 hg w31 hbox hb; refine E17 (Kd.R_below (PR HO825.out) hb) (Kd.R_below (PR HO830.out) hb) (Kd.R_below (PR HO837.out) hb) (Kd.R_below (PR HO843.out) hb) (bB BK819.out hb) (bB BK832.out hb) (bB BK838.out hb) (below_step (BL HB.out) hb) (hbox) (gwM hg (below_size (BL HB.out)) : w.heap.size ≤ gb845) (gwM hg (below_size (BL HB.out)) : w.heap.size ≤ gb845) ((nB BK819.out hg : gb819 ≠ gb845)) ((nC BK819.out hg : gb845 ≠ gb819)) ((nB BK832.out hg : gb832 ≠ gb845)) ((nC BK832.out hg : gb845 ≠ gb832)) ((nB BK838.out hg : gb838 ≠ gb845)) ((nC BK838.out hg : gb845 ≠ gb838)) ?_; clear HO825 HO830 HO837 HO843 BK819 BK832 BK838 HB; intro HO825 HO830 HO837 HO843 BK819 BK832 BK838 HB BK845 GW845 GE845 NB819_845 NB845_819 NB832_845 NB845_832 NB838_845 NB845_838; clear hb hbox hg; have hnb32 := NB845_819.out; have hnc32 := NB819_845.out; have hnb33 := NB845_832.out; have hnc33 := NB832_845.out; have hnb34 := NB845_838.out; have hnc34 := NB838_845.out; obtain ⟨hcz35_0, hcz35_1, hcz35_2, hfz35_0, hfz35_1, hfz35_2⟩ := cz3 BK845.out; obtain ⟨Ao36, co36, eo36⟩ := Kd.R_slice HO843.out; subst eo36))
  (try simp only [Act.put, List.setIfInBounds_toArray, List.set_cons_zero, List.set_cons_succ])
  go_cut [40] (fun v40 wc => ∃ (kq : Nat) (x40_10 : Bool), v40 = .bool x40_10 ∧ Aside0 (laws_FnExactZeroState.j0 kq t831 t844 x40_10 a0_0 a0_1 l0_2 t826 t827 t828 t833 t834 t835 t839 t840 t841 = some true) ∧ Aside0 (kq ≤ k) ∧ Aside0 (Kd.R k73 73 wc w.heap.size (fun k_ => some k_ ≠ ((.slice Ao29 t835.length co29) : Value).ownBlock ∧ some k_ ≠ ((.slice Ao36 t841.length co36) : Value).ownBlock) (.slice Ao22 t828.length co22) t828) ∧ Aside0 (Kd.R k73 73 wc w.heap.size (fun k_ => some k_ ≠ ((.slice Ao22 t828.length co22) : Value).ownBlock ∧ some k_ ≠ ((.slice Ao36 t841.length co36) : Value).ownBlock) (.slice Ao29 t835.length co29) t835) ∧ Aside0 (Kd.R k73 73 wc w.heap.size (fun k_ => some k_ ≠ ((.slice Ao22 t828.length co22) : Value).ownBlock ∧ some k_ ≠ ((.slice Ao29 t835.length co29) : Value).ownBlock) (.slice Ao36 t841.length co36) t841) ∧ Aside0 (wc.heap[gb819]? = some (.cells #[.int .i64 a0_0, .int .i64 a0_1, (.slice A0_2 l0_2.length c0_2)] 24 (0, 0))) ∧ Aside0 (wc.heap[gb832]? = some (.cells #[.int .i64 t826, .int .i64 t827, (.slice Ao22 t828.length co22)] 30 (0, 0))) ∧ Aside0 (wc.heap[gb838]? = some (.cells #[.int .i64 t833, .int .i64 t834, (.slice Ao29 t835.length co29)] 30 (0, 0))) ∧ Aside0 (wc.heap[gb845]? = some (.cells #[.int .i64 t839, .int .i64 t840, (.slice Ao36 t841.length co36)] 30 (0, 0))) ∧ Aside0 (Below w.heap.size w wc))
  case first =>
    have H := HC11.out
    clear HC11
    replace H := bindA H; obtain ⟨t846, A37, H⟩ := H
    by_cases c38 : t846 = true
    · subst c38
      have H1 : (laws_FnExactZeroState.j0 k t831 t844 (t844 != t831) a0_0 a0_1 l0_2 t826 t827 t828 t833 t834 t835 t839 t840 t841) = some true := by rw [if_pos rfl] at H; exact H
      clear H
      have H := H1
      clear H1
      have H' := Aside0.mk H
      clear H
      have hnb39 := NB845_819.out
      have hnc39 := NB819_845.out
      have hnb40 := NB845_832.out
      have hnc40 := NB832_845.out
      have hnb41 := NB845_838.out
      have hnc41 := NB838_845.out
      obtain ⟨hcz42_0, hcz42_1, hcz42_2, hfz42_0, hfz42_1, hfz42_2⟩ := cz3 BK845.out
      have hnb43 := NB832_819.out
      have hnc43 := NB819_832.out
      have hnb44 := NB832_838.out
      have hnc44 := NB838_832.out
      obtain ⟨hcz45_0, hcz45_1, hcz45_2, hfz45_0, hfz45_1, hfz45_2⟩ := cz3 BK832.out
      go_wp2_with (first | ((with_reducible refine gate_callee (f := 17) rfl ?_); refine goesM (N := (some 34)) #[.agg #[.int .i64 t839, .int .i64 t840, .slice Ao36 t841.length co36], .agg #[.int .i64 t826, .int .i64 t827, .slice Ao22 t828.length co22]] Try.func17 ?_; (with_reducible refine (laws_eqBoard.calls k t839 t840 _ _ t841 t826 t827 _ _ t828 true _ ?side1 ?side2 ?side3 ?side4 A37.out).mono ?_); (case side1 => refine (Kd.R_reads' (e := 73) (base := w.heap.size) (ok := fun k_ => (((True ∧ some k_ ≠ (.slice Ao17 t823.length co17 : Value).ownBlock) ∧ some k_ ≠ (.slice Ao22 t828.length co22 : Value).ownBlock) ∧ some k_ ≠ (.slice Ao29 t835.length co29 : Value).ownBlock)) (n := t841.length) (c := co36) ?_).2.2; exact (by (with_reducible repeat (first | apply Kd.R_alloc | apply Kd.R_drewN | apply Kd.R_drew)); exact (Kd.R_mono (Kd.R_far (p := ⟨gb845, 2, none⟩) (Kd.R_far (p := ⟨gb845, 1, none⟩) (Kd.R_far (p := ⟨gb845, 0, none⟩) (Kd.R_types HO843.out BK845.out (by decide)) (fun _ hk => hk.2) (.int .i64 t839)) (fun _ hk => hk.2) (.int .i64 t840)) (fun _ hk => hk.2) (.slice Ao36 t841.length co36)) (fun _ h_ => h_.1)))); (case side2 => exact (Kd.R_reads' HO843.out).2.1); (case side3 => refine (Kd.R_reads' (e := 73) (base := w.heap.size) (ok := fun k_ => (((True ∧ some k_ ≠ (.slice Ao17 t823.length co17 : Value).ownBlock) ∧ some k_ ≠ (.slice Ao29 t835.length co29 : Value).ownBlock) ∧ some k_ ≠ (.slice Ao36 t841.length co36 : Value).ownBlock)) (n := t828.length) (c := co22) ?_).2.2; exact (by (with_reducible repeat (first | apply Kd.R_alloc | apply Kd.R_drewN | apply Kd.R_drew)); exact (Kd.R_mono (Kd.R_far (p := ⟨gb845, 2, none⟩) (Kd.R_far (p := ⟨gb845, 1, none⟩) (Kd.R_far (p := ⟨gb845, 0, none⟩) (Kd.R_types HO830.out BK845.out (by decide)) (fun _ hk => hk.2) (.int .i64 t839)) (fun _ hk => hk.2) (.int .i64 t840)) (fun _ hk => hk.2) (.slice Ao36 t841.length co36)) (fun _ h_ => h_.1)))); (case side4 => exact (Kd.R_reads' HO830.out).2.1); rintro e w46 ⟨rfl, hb⟩; refine ⟨_, rfl, ?_⟩; refine E9 (Kd.R_below (by (with_reducible repeat (first | apply Kd.R_alloc | apply Kd.R_drewN | apply Kd.R_drew)); exact (Kd.R_mono (Kd.R_far (p := ⟨gb845, 2, none⟩) (Kd.R_far (p := ⟨gb845, 1, none⟩) (Kd.R_far (p := ⟨gb845, 0, none⟩) (Kd.R_types HO825.out BK845.out (by decide)) (fun _ hk => hk.2) (.int .i64 t839)) (fun _ hk => hk.2) (.int .i64 t840)) (fun _ hk => hk.2) (.slice Ao36 t841.length co36)) (fun _ h_ => h_.1))) hb) (Kd.R_below (by (with_reducible repeat (first | apply Kd.R_alloc | apply Kd.R_drewN | apply Kd.R_drew)); exact (Kd.R_mono (Kd.R_far (p := ⟨gb845, 2, none⟩) (Kd.R_far (p := ⟨gb845, 1, none⟩) (Kd.R_far (p := ⟨gb845, 0, none⟩) (Kd.R_types HO830.out BK845.out (by decide)) (fun _ hk => hk.2) (.int .i64 t839)) (fun _ hk => hk.2) (.int .i64 t840)) (fun _ hk => hk.2) (.slice Ao36 t841.length co36)) (fun _ h_ => h_.1))) hb) (Kd.R_below (by (with_reducible repeat (first | apply Kd.R_alloc | apply Kd.R_drewN | apply Kd.R_drew)); exact (Kd.R_mono (Kd.R_far (p := ⟨gb845, 2, none⟩) (Kd.R_far (p := ⟨gb845, 1, none⟩) (Kd.R_far (p := ⟨gb845, 0, none⟩) (Kd.R_types HO837.out BK845.out (by decide)) (fun _ hk => hk.2) (.int .i64 t839)) (fun _ hk => hk.2) (.int .i64 t840)) (fun _ hk => hk.2) (.slice Ao36 t841.length co36)) (fun _ h_ => h_.1))) hb) (Kd.R_below (by (with_reducible repeat (first | apply Kd.R_alloc | apply Kd.R_drewN | apply Kd.R_drew)); exact (Kd.R_mono (Kd.R_far (p := ⟨gb845, 2, none⟩) (Kd.R_far (p := ⟨gb845, 1, none⟩) (Kd.R_far (p := ⟨gb845, 0, none⟩) (Kd.R_types HO843.out BK845.out (by decide)) (fun _ hk => hk.2) (.int .i64 t839)) (fun _ hk => hk.2) (.int .i64 t840)) (fun _ hk => hk.2) (.slice Ao36 t841.length co36)) (fun _ h_ => h_.1))) hb) (blk_below (g := gb819) (o := .cells #[.int .i64 a0_0, .int .i64 a0_1, .slice A0_2 l0_2.length c0_2] 24 (0, 0)) (by (with_reducible repeat (first | refine blk_drewN ?_ _ | refine blk_drew ?_ | refine blk_alloc ?_ _)); refine blk_far ?_ NB819_845.out _; (with_reducible repeat (first | refine blk_drewN ?_ _ | refine blk_drew ?_ | refine blk_alloc ?_ _)); refine blk_far ?_ NB819_845.out _; (with_reducible repeat (first | refine blk_drewN ?_ _ | refine blk_drew ?_ | refine blk_alloc ?_ _)); refine blk_far ?_ NB819_845.out _; (with_reducible repeat (first | refine blk_drewN ?_ _ | refine blk_drew ?_ | refine blk_alloc ?_ _)); exact BK819.out) hb) (blk_below (g := gb832) (o := .cells #[.int .i64 t826, .int .i64 t827, .slice Ao22 t828.length co22] 30 (0, 0)) (by (with_reducible repeat (first | refine blk_drewN ?_ _ | refine blk_drew ?_ | refine blk_alloc ?_ _)); refine blk_far ?_ NB832_845.out _; (with_reducible repeat (first | refine blk_drewN ?_ _ | refine blk_drew ?_ | refine blk_alloc ?_ _)); refine blk_far ?_ NB832_845.out _; (with_reducible repeat (first | refine blk_drewN ?_ _ | refine blk_drew ?_ | refine blk_alloc ?_ _)); refine blk_far ?_ NB832_845.out _; (with_reducible repeat (first | refine blk_drewN ?_ _ | refine blk_drew ?_ | refine blk_alloc ?_ _)); exact BK832.out) hb) (blk_below (g := gb838) (o := .cells #[.int .i64 t833, .int .i64 t834, .slice Ao29 t835.length co29] 30 (0, 0)) (by (with_reducible repeat (first | refine blk_drewN ?_ _ | refine blk_drew ?_ | refine blk_alloc ?_ _)); refine blk_far ?_ NB838_845.out _; (with_reducible repeat (first | refine blk_drewN ?_ _ | refine blk_drew ?_ | refine blk_alloc ?_ _)); refine blk_far ?_ NB838_845.out _; (with_reducible repeat (first | refine blk_drewN ?_ _ | refine blk_drew ?_ | refine blk_alloc ?_ _)); refine blk_far ?_ NB838_845.out _; (with_reducible repeat (first | refine blk_drewN ?_ _ | refine blk_drew ?_ | refine blk_alloc ?_ _)); exact BK838.out) hb) (blk_below (g := gb845) (o := .cells #[.int .i64 t839, .int .i64 t840, .slice Ao36 t841.length co36] 30 (0, 0)) (by (with_reducible repeat (first | refine blk_drewN ?_ _ | refine blk_drew ?_ | refine blk_alloc ?_ _)); refine blk_put (cs := #[.int .i64 t839, .int .i64 t840, .slice none 0 0]) ?_ 2 _ rfl; (with_reducible repeat (first | refine blk_drewN ?_ _ | refine blk_drew ?_ | refine blk_alloc ?_ _)); refine blk_put (cs := #[.int .i64 t839, .int .i64 0, .slice none 0 0]) ?_ 1 _ rfl; (with_reducible repeat (first | refine blk_drewN ?_ _ | refine blk_drew ?_ | refine blk_alloc ?_ _)); refine blk_put (cs := #[.int .i64 0, .int .i64 0, .slice none 0 0]) ?_ 0 _ rfl; (with_reducible repeat (first | refine blk_drewN ?_ _ | refine blk_drew ?_ | refine blk_alloc ?_ _)); exact BK845.out) hb) (below_step (BL HB.out) hb) ?_; clear HO825 HO830 HO837 HO843 BK819 BK832 BK838 BK845 HB; intro HO825 HO830 HO837 HO843 BK819 BK832 BK838 BK845 HB; (try clear hb); (try clear hb2); (try clear hk); (try clear hi)))
      go_meet
      case rel => exact ⟨_, ((t844 != t831)), RG, H', ⟨by first | omega | exact Nat.le_refl _⟩, ⟨by (with_reducible repeat (first | apply Kd.R_alloc | apply Kd.R_drewN | apply Kd.R_drew)); exact Kd.R_mono HO830.out (fun _ hk => ⟨hk.1.2, hk.2⟩)⟩, ⟨by (with_reducible repeat (first | apply Kd.R_alloc | apply Kd.R_drewN | apply Kd.R_drew)); exact Kd.R_mono HO837.out (fun _ hk => ⟨hk.1.2, hk.2⟩)⟩, ⟨by (with_reducible repeat (first | apply Kd.R_alloc | apply Kd.R_drewN | apply Kd.R_drew)); exact Kd.R_mono HO843.out (fun _ hk => ⟨hk.1.2, hk.2⟩)⟩, ⟨PB BK819.out⟩, ⟨PB BK832.out⟩, ⟨PB BK838.out⟩, ⟨PB BK845.out⟩, ⟨BL HB.out⟩⟩
    replace c38 := Bool.eq_false_iff.mpr c38
    subst c38
    have H1 : (laws_FnExactZeroState.j0 k t831 t844 true a0_0 a0_1 l0_2 t826 t827 t828 t833 t834 t835 t839 t840 t841) = some true := by rw [if_neg (show ¬ (false = true) by decide)] at H; exact H
    exact absurd H1 (by cases k <;> simp [laws_FnExactZeroState.j0])
  clear HC11
  try clear c3b0; try clear hcz13_0; try clear hcz13_1; try clear hcz13_2; try clear hcz15_0; try clear hcz15_1; try clear hcz15_2; try clear hcz21_0; try clear hcz21_1; try clear hcz21_2; try clear hcz23_0; try clear hcz23_1; try clear hcz23_2; try clear hcz28_0; try clear hcz28_1; try clear hcz28_2; try clear hcz35_0; try clear hcz35_1; try clear hcz35_2; try clear hfz13_0; try clear hfz13_1; try clear hfz13_2; try clear hfz15_0; try clear hfz15_1; try clear hfz15_2; try clear hfz21_0; try clear hfz21_1; try clear hfz21_2; try clear hfz23_0; try clear hfz23_1; try clear hfz23_2; try clear hfz28_0; try clear hfz28_1; try clear hfz28_2; try clear hfz35_0; try clear hfz35_1; try clear hfz35_2
  obtain ⟨kq, x40_10, rfl, HA, HJ10, HO_833002, HO_839002, HO_846002, BK819, BK832, BK838, BK845, HB⟩ := hcut
  cases kq with
  | zero => exact absurd HA.out (by simp [laws_FnExactZeroState.j0])
  | succ kj10 => ?_
  have H := HA.out
  clear HA
  simp only [laws_FnExactZeroState.j0] at H
  by_cases c55 : x40_10 = true
  · subst c55
    have H1 : (some false) = some true := by rw [if_pos rfl] at H; exact H
    exact absurd H1 (by simp)
  replace c55 := Bool.eq_false_iff.mpr c55
  subst c55
  have H1 : ((laws_toBoard.f kj10 a0_0 a0_1 l0_2).bind fun bt847 => ((laws_eqBoard.f kj10 t833 t834 t835 bt847.1 bt847.2.1 bt847.2.2).bind fun t852 => (if t852 = true then ((laws_markBoard.f kj10 t833 t834 t835 1).bind fun bt853 => (if bt853.1 < 0 then (laws_FnExactZeroState.j1 kj10 t831 true a0_0 a0_1 l0_2 t826 t827 t828 t839 t840 t841) else ((laws_eqBoard.f kj10 t839 t840 t841 t826 t827 t828).bind fun t855 => (if t855 = true then (laws_FnExactZeroState.j1 kj10 t831 (t844 != t831) a0_0 a0_1 l0_2 t826 t827 t828 t839 t840 t841) else (laws_FnExactZeroState.j1 kj10 t831 true a0_0 a0_1 l0_2 t826 t827 t828 t839 t840 t841))))) else (some false)))) = some true := by rw [if_neg (show ¬ (false = true) by decide)] at H; exact H
  clear H
  have H := H1
  clear H1
  replace H := bindA H; obtain ⟨⟨t847, t848, t849⟩, A56, H⟩ := H
  dsimp only at H
  replace H := bindA H; obtain ⟨t852, A57, H⟩ := H
  by_cases c58 : t852 = true
  · subst c58
    have H1 : ((laws_markBoard.f kj10 t833 t834 t835 1).bind fun bt853 => (if bt853.1 < 0 then (laws_FnExactZeroState.j1 kj10 t831 true a0_0 a0_1 l0_2 t826 t827 t828 t839 t840 t841) else ((laws_eqBoard.f kj10 t839 t840 t841 t826 t827 t828).bind fun t855 => (if t855 = true then (laws_FnExactZeroState.j1 kj10 t831 (t844 != t831) a0_0 a0_1 l0_2 t826 t827 t828 t839 t840 t841) else (laws_FnExactZeroState.j1 kj10 t831 true a0_0 a0_1 l0_2 t826 t827 t828 t839 t840 t841))))) = some true := by rw [if_pos rfl] at H; exact H
    clear H
    have H := H1
    clear H1
    replace H := bindA H; obtain ⟨⟨t853, t854⟩, A59, H⟩ := H
    dsimp only at H
    have HC60 := Aside0.mk H
    clear H
    try go_wp2
    refine E8 (Kd.R_drew HO_833002.out) (Kd.R_drew HO_839002.out) (Kd.R_drew HO_846002.out) (blk_drew BK819.out) (blk_drew BK832.out) (blk_drew BK838.out) (blk_drew BK845.out) (below_drew1 HB.out) ?_
    clear HO_833002 HO_839002 HO_846002 BK819 BK832 BK838 BK845 HB
    intro HO_833002 HO_839002 HO_846002 BK819 BK832 BK838 BK845 HB
    refine start_ (n := 5) (S := fun w' => w'.cell? ⟨gb838, 0, none⟩ = some (.int .i64 t833) ∧ w'.cell? ⟨gb838, 1, none⟩ = some (.int .i64 t834) ∧ w'.cell? ⟨gb838, 2, none⟩ = some (.slice Ao29 t835.length co29) ∧ w'.cell? ⟨gb819, 0, none⟩ = some (.int .i64 a0_0) ∧ w'.cell? ⟨gb819, 1, none⟩ = some (.int .i64 a0_1) ∧ w'.cell? ⟨gb819, 2, none⟩ = some (.slice A0_2 l0_2.length c0_2)) (ds := []) #[false, false, false, false, false] (by kernel_rfl) rfl rfl ⟨(blk_cell BK838.out 0).trans rfl, (blk_cell BK838.out 1).trans rfl, (blk_cell BK838.out 2).trans rfl, (blk_cell BK819.out 0).trans rfl, (blk_cell BK819.out 1).trans rfl, (blk_cell BK819.out 2).trans rfl⟩ (fun hHeld => ?_)
    generalize wc.drew = w61 at HO_833002 HO_839002 HO_846002 BK819 BK832 BK838 BK845 HB hHeld ⊢
    refine take_ (i := 0) (N := some 41) (v := ?_) (a' := ?_) #[true, false, false, false, false] rfl rfl (by kernel_rfl) (fun _ _ _ h => h) (Or.inl ⟨by rfl, ?_⟩) hHeld ?_ ?_
    rotate_left
    · rintro w' ⟨s0, s1, s2, s3, s4, s5⟩
      go_simp
      with_reducible rfl
    rotate_left
    · simp only [Act.put, List.setIfInBounds_toArray, List.set_cons_zero, List.set_cons_succ, i64_w, i32_w]
      rfl
    refine take_ (i := 1) (N := some 42) (v := ?_) (a' := ?_) #[true, true, false, false, false] rfl rfl (by kernel_rfl) (fun _ _ _ h => h) (Or.inl ⟨by rfl, ?_⟩) hHeld ?_ ?_
    rotate_left
    · rintro w' ⟨s0, s1, s2, s3, s4, s5⟩
      go_simp
      with_reducible rfl
    rotate_left
    · simp only [Act.put, List.setIfInBounds_toArray, List.set_cons_zero, List.set_cons_succ, i64_w, i32_w]
      rfl
    refine one_ (i := 2) (N := some 43) #[true, true, true, false, false] rfl rfl (by kernel_rfl) (by decide) (fun K hK => ?_)
    refine goes_ Try.func15 (by kernel_rfl) rfl #[.agg #[.int .i64 a0_0, .int .i64 a0_1, .slice A0_2 l0_2.length c0_2]] (by rfl) rfl rfl (by (try simp only [List.map_toArray, List.map_cons, List.map_nil]); first | done | rfl | (simp only [List.length_drop, List.length_take]; rfl)) ?_
    with_reducible refine (laws_toBoard.calls kj10 a0_0 a0_1 _ _ l0_2 t847 t848 t849 _ ?side1 ?side2 A56.out).mono ?_
    (case side1 => exact CB (Kd.C_below HR0_2.out HB.out))
    (case side2 => exact HC0_2.out)
    rintro e w62 ⟨v850, rfl, ho0, hb⟩
    refine ⟨_, rfl, ?_⟩
    refine E9 (Kd.R_elder' (PR HO_833002.out) (Kd.R_base ho0) hb) (Kd.R_elder' (PR HO_839002.out) (Kd.R_base ho0) hb) (Kd.R_elder' (PR HO_846002.out) (Kd.R_base ho0) hb) (Kd.R_lower (Kd.R_new' (Kd.R_new' (Kd.R_new' ho0 (Kd.R_lt (PR HO_833002.out))) (Kd.R_lt (PR HO_839002.out))) (Kd.R_lt (PR HO_846002.out))) (below_size (BL HB.out))) (bB BK819.out hb) (bB BK832.out hb) (bB BK838.out hb) (bB BK845.out hb) (below_step (BL HB.out) hb) ?_
    clear HO_833002 HO_839002 HO_846002 BK819 BK832 BK838 BK845 HB
    intro HO_833002 HO_839002 HO_846002 HO851 BK819 BK832 BK838 BK845 HB
    (try clear hb)
    (try clear hb2)
    (try clear hk)
    (try clear hi)
    (try clear ho0)
    obtain ⟨Ao63, co63, eo63⟩ := Kd.R_slice HO851.out
    (first | subst eo63 | (injection eo63 with f1_ f2_ f3_; have f4_ := f1_.symm; have f5_ := f3_.symm; clear f1_ f2_ f3_; subst f4_; subst f5_))
    refine hK.out _ _ ⟨(blk_cell BK838.out 0).trans rfl, (blk_cell BK838.out 1).trans rfl, (blk_cell BK838.out 2).trans rfl, (blk_cell BK819.out 0).trans rfl, (blk_cell BK819.out 1).trans rfl, (blk_cell BK819.out 2).trans rfl⟩ (fun hHeld => ?_)
    clear hK K
    refine norm_ (a' := ?_) ?_ ?_
    rotate_left
    · show Act.put _ (some 43) _ = _
      simp only [Act.put, List.setIfInBounds_toArray, List.set_cons_zero, List.set_cons_succ, i64_w, i32_w]
      rfl
    refine one_ (i := 3) (N := some 44) #[true, true, true, true, false] rfl rfl (by kernel_rfl) (by decide) (fun K hK => ?_)
    refine goes_ Try.func17 (by kernel_rfl) rfl #[.agg #[.int .i64 t833, .int .i64 t834, .slice Ao29 t835.length co29], .agg #[.int .i64 t847, .int .i64 t848, .slice Ao63 t849.length co63]] (by rfl) rfl rfl (by (try simp only [List.map_toArray, List.map_cons, List.map_nil]); first | done | rfl | (simp only [List.length_drop, List.length_take]; rfl)) ?_
    with_reducible refine (laws_eqBoard.calls kj10 t833 t834 _ _ t835 t847 t848 _ _ t849 true _ ?side1 ?side2 ?side3 ?side4 A57.out).mono ?_
    (case side1 => repeat (first | exact (Kd.R_reads' HO_839002.out).2.2 | (with_reducible refine Kd.C_alloc ?_ _) | (with_reducible refine Kd.C_drewN ?_ _) | (with_reducible refine Kd.C_drew ?_)))
    (case side2 => exact (Kd.R_reads' HO_839002.out).2.1)
    (case side3 => repeat (first | exact (Kd.R_reads' HO851.out).2.2 | (with_reducible refine Kd.C_alloc ?_ _) | (with_reducible refine Kd.C_drewN ?_ _) | (with_reducible refine Kd.C_drew ?_)))
    (case side4 => exact (Kd.R_reads' HO851.out).2.1)
    rintro e w64 ⟨rfl, hb⟩
    refine ⟨_, rfl, ?_⟩
    refine E9 (Kd.R_below (PR HO_833002.out) hb) (Kd.R_below (PR HO_839002.out) hb) (Kd.R_below (PR HO_846002.out) hb) (Kd.R_below (PR HO851.out) hb) (bB BK819.out hb) (bB BK832.out hb) (bB BK838.out hb) (bB BK845.out hb) (below_step (BL HB.out) hb) ?_
    clear HO_833002 HO_839002 HO_846002 HO851 BK819 BK832 BK838 BK845 HB
    intro HO_833002 HO_839002 HO_846002 HO851 BK819 BK832 BK838 BK845 HB
    (try clear hb)
    (try clear hb2)
    (try clear hk)
    (try clear hi)
    refine hK.out _ _ ⟨(blk_cell BK838.out 0).trans rfl, (blk_cell BK838.out 1).trans rfl, (blk_cell BK838.out 2).trans rfl, (blk_cell BK819.out 0).trans rfl, (blk_cell BK819.out 1).trans rfl, (blk_cell BK819.out 2).trans rfl⟩ (fun hHeld => ?_)
    clear hK K
    refine norm_ (a' := ?_) ?_ ?_
    rotate_left
    · show Act.put _ (some 44) _ = _
      simp only [Act.put, List.setIfInBounds_toArray, List.set_cons_zero, List.set_cons_succ, i64_w, i32_w]
      rfl
    refine pure_ (i := 4) (N := some 45) (v := ?_) (a' := ?_) #[true, true, true, true, true] rfl rfl (by kernel_rfl) (fun _ _ _ h => h) (Or.inl ⟨by rfl, ?_⟩) ?_ ?_
    rotate_left
    · intro w'
      go_simp
      with_reducible rfl
    rotate_left
    · simp only [Act.put, List.setIfInBounds_toArray, List.set_cons_zero, List.set_cons_succ, i64_w, i32_w]
      rfl
    refine done_ (by kernel_rfl) ?_
    have hnb65 := NB838_819.out
    have hnc65 := NB819_838.out
    have hnb66 := NB838_832.out
    have hnc66 := NB832_838.out
    have hnb67 := NB838_845.out
    have hnc67 := NB845_838.out
    obtain ⟨hcz68_0, hcz68_1, hcz68_2, hfz68_0, hfz68_1, hfz68_2⟩ := cz3 BK838.out
    go_upto_region 14 with (first | ((with_reducible refine gate_callee (f := 23) rfl ?_); refine goesM (N := (some 48)) #[.agg #[.int .i64 t833, .int .i64 t834, .slice Ao29 t835.length co29], .int .i64 1] Try.func23 ?_; (with_reducible refine (laws_markBoard.calls kj10 t833 t834 (fun k_ => some k_ = (.slice Ao29 t835.length co29 : Value).ownBlock) (.slice Ao29 t835.length co29) t835 1 t853 t854 w _ ?side1 ?side2 A59.out).mono ?_); (case side1 => repeat (first | (with_reducible first | exact HB.out | apply below_alloc | apply pw_below_drewN | apply below_drew1 | refine below_set ?_ GE819.out | refine below_set ?_ GE832.out | refine below_set ?_ GE838.out | refine below_set ?_ GE845.out) | exact HB.out)); (case side2 => exact Kd.R_tight rfl HO_839002.out); rintro e w69 ⟨rfl, hy0, hb, hkp⟩; refine ⟨_, rfl, ?_⟩; refine E9 (Kd.R_mono (ok' := fun k_ => some k_ ≠ (.slice Ao29 t835.length co29 : Value).ownBlock ∧ some k_ ≠ (.slice Ao36 t841.length co36 : Value).ownBlock ∧ some k_ ≠ (.slice Ao63 t849.length co63 : Value).ownBlock) (Kd.R_keptB (HO_833002.out) hkp (fun k_ hk_ hs_ => (hk_.1.1) hs_)) (fun k_ hk_ => ⟨hk_.1.1.1, hk_.1.1.2, hk_.1.2⟩)) (Kd.R_reok rfl hy0 (fun k_ e_ => HO_839002.out.1 k_ e_)) (Kd.R_mono (ok' := fun k_ => some k_ ≠ (.slice Ao22 t828.length co22 : Value).ownBlock ∧ some k_ ≠ (.slice Ao29 t835.length co29 : Value).ownBlock ∧ some k_ ≠ (.slice Ao63 t849.length co63 : Value).ownBlock) (Kd.R_keptB (HO_846002.out) hkp (fun k_ hk_ hs_ => (hk_.1.2) hs_)) (fun k_ hk_ => ⟨hk_.1.1.1, hk_.1.1.2, hk_.1.2⟩)) (blk_kept (PB BK819.out) hkp (fun hs_ => (fun e_ => (Kd.R_ne HO_839002.out BK819.out (by decide)) e_) hs_)) (blk_kept (PB BK832.out) hkp (fun hs_ => (fun e_ => (Kd.R_ne HO_839002.out BK832.out (by decide)) e_) hs_)) (blk_kept (PB BK838.out) hkp (fun hs_ => (fun e_ => (Kd.R_ne HO_839002.out BK838.out (by decide)) e_) hs_)) (blk_kept (PB BK845.out) hkp (fun hs_ => (fun e_ => (Kd.R_ne HO_839002.out BK845.out (by decide)) e_) hs_)) (Kd.R_mono (ok' := fun k_ => some k_ ≠ (.slice Ao22 t828.length co22 : Value).ownBlock ∧ some k_ ≠ (.slice Ao29 t835.length co29 : Value).ownBlock ∧ some k_ ≠ (.slice Ao36 t841.length co36 : Value).ownBlock) (Kd.R_keptB (HO851.out) hkp (fun k_ hk_ hs_ => (hk_.1.2) hs_)) (fun k_ hk_ => ⟨hk_.1.1.1.2, hk_.1.1.2, hk_.1.2⟩)) (hb) ?_; clear HO_833002 HO_839002 HO_846002 BK819 BK832 BK838 BK845 HO851 HB; intro HO_833002 HO_839002 HO_846002 BK819 BK832 BK838 BK845 HO851 HB; (try clear hb); (try clear hkp); (try clear hy0)))
    (try simp only [Act.put, List.setIfInBounds_toArray, List.set_cons_zero, List.set_cons_succ])
    go_cut [61] (fun v61 wc => ∃ (kq : Nat) (x61_59 : Bool), v61 = .bool x61_59 ∧ Aside0 (laws_FnExactZeroState.j1 kq t831 x61_59 a0_0 a0_1 l0_2 t826 t827 t828 t839 t840 t841 = some true) ∧ Aside0 (kq ≤ kj10) ∧ Aside0 (Kd.R k73 73 wc w.heap.size (fun k_ => some k_ ≠ ((.slice Ao29 t835.length co29) : Value).ownBlock ∧ some k_ ≠ ((.slice Ao36 t841.length co36) : Value).ownBlock) (.slice Ao22 t828.length co22) t828) ∧ Aside0 (Kd.R k73 73 wc w.heap.size (fun k_ => some k_ ≠ ((.slice Ao22 t828.length co22) : Value).ownBlock ∧ some k_ ≠ ((.slice Ao36 t841.length co36) : Value).ownBlock) (.slice Ao29 t835.length co29) t854) ∧ Aside0 (Kd.R k73 73 wc w.heap.size (fun k_ => some k_ ≠ ((.slice Ao22 t828.length co22) : Value).ownBlock ∧ some k_ ≠ ((.slice Ao29 t835.length co29) : Value).ownBlock) (.slice Ao36 t841.length co36) t841) ∧ Aside0 (wc.heap[gb819]? = some (.cells #[.int .i64 a0_0, .int .i64 a0_1, (.slice A0_2 l0_2.length c0_2)] 24 (0, 0))) ∧ Aside0 (wc.heap[gb832]? = some (.cells #[.int .i64 t826, .int .i64 t827, (.slice Ao22 t828.length co22)] 30 (0, 0))) ∧ Aside0 (wc.heap[gb838]? = some (.cells #[.int .i64 t833, .int .i64 t834, (.slice Ao29 t835.length co29)] 30 (0, 0))) ∧ Aside0 (wc.heap[gb845]? = some (.cells #[.int .i64 t839, .int .i64 t840, (.slice Ao36 t841.length co36)] 30 (0, 0))) ∧ Aside0 (Below w.heap.size w wc))
    case first =>
      have H := HC60.out
      clear HC60
      replace H := ifQ H; rcases H with ⟨c70, H⟩ | ⟨c70, H⟩
      · exact absurd H (by cases kj10 <;> simp [laws_FnExactZeroState.j1])
      have c70b0 := decide_eq_false c70
      clear c70
      (first | rw [c70b0] | (simp only [i64_w, i32_w]; rw [c70b0]) | skip)
      replace H := bindA H; obtain ⟨t855, A71, H⟩ := H
      by_cases c72 : t855 = true
      · subst c72
        have H1 : (laws_FnExactZeroState.j1 kj10 t831 (t844 != t831) a0_0 a0_1 l0_2 t826 t827 t828 t839 t840 t841) = some true := by rw [if_pos rfl] at H; exact H
        clear H
        have H := H1
        clear H1
        have H' := Aside0.mk H
        clear H
        have hnb73 := NB845_819.out
        have hnc73 := NB819_845.out
        have hnb74 := NB845_832.out
        have hnc74 := NB832_845.out
        have hnb75 := NB845_838.out
        have hnc75 := NB838_845.out
        obtain ⟨hcz76_0, hcz76_1, hcz76_2, hfz76_0, hfz76_1, hfz76_2⟩ := cz3 BK845.out
        have hnb77 := NB832_819.out
        have hnc77 := NB819_832.out
        have hnb78 := NB832_838.out
        have hnc78 := NB838_832.out
        obtain ⟨hcz79_0, hcz79_1, hcz79_2, hfz79_0, hfz79_1, hfz79_2⟩ := cz3 BK832.out
        go_wp2_with (first | (go_at_call 17; (with_reducible refine (laws_eqBoard.calls kj10 t839 t840 _ _ t841 t826 t827 _ _ t828 true _ ?side1 ?side2 ?side3 ?side4 A71.out).mono ?_); (case side1 => repeat (first | exact (Kd.R_reads' HO_846002.out).2.2 | (with_reducible refine Kd.C_alloc ?_ _) | (with_reducible refine Kd.C_drewN ?_ _) | (with_reducible refine Kd.C_drew ?_))); (case side2 => exact (Kd.R_reads' HO_846002.out).2.1); (case side3 => repeat (first | exact (Kd.R_reads' HO_833002.out).2.2 | (with_reducible refine Kd.C_alloc ?_ _) | (with_reducible refine Kd.C_drewN ?_ _) | (with_reducible refine Kd.C_drew ?_))); (case side4 => exact (Kd.R_reads' HO_833002.out).2.1); rintro e w80 ⟨rfl, hb⟩; refine E9 (Kd.R_below (PR HO_833002.out) hb) (Kd.R_below (PR HO_839002.out) hb) (Kd.R_below (PR HO_846002.out) hb) (Kd.R_below (PR HO851.out) hb) (bB BK819.out hb) (bB BK832.out hb) (bB BK838.out hb) (bB BK845.out hb) (below_step (BL HB.out) hb) ?_; clear HO_833002 HO_839002 HO_846002 HO851 BK819 BK832 BK838 BK845 HB; intro HO_833002 HO_839002 HO_846002 HO851 BK819 BK832 BK838 BK845 HB; (try clear hb); (try clear hb2); (try clear hk); (try clear hi)))
        go_meet
        case rel => exact ⟨_, ((t844 != t831)), RG, H', ⟨by have := HJ10.out; first | omega | exact Nat.le_refl _⟩, ⟨by (with_reducible repeat (first | apply Kd.R_alloc | apply Kd.R_drewN | apply Kd.R_drew)); exact Kd.R_mono HO_833002.out (fun _ hk => ⟨hk.1, hk.2.1⟩)⟩, ⟨by (with_reducible repeat (first | apply Kd.R_alloc | apply Kd.R_drewN | apply Kd.R_drew)); exact Kd.R_mono HO_839002.out (fun _ hk => ⟨hk.1.1, hk.1.2⟩)⟩, ⟨by (with_reducible repeat (first | apply Kd.R_alloc | apply Kd.R_drewN | apply Kd.R_drew)); exact Kd.R_mono HO_846002.out (fun _ hk => ⟨hk.1, hk.2.1⟩)⟩, ⟨PB BK819.out⟩, ⟨PB BK832.out⟩, ⟨PB BK838.out⟩, ⟨PB BK845.out⟩, ⟨BL HB.out⟩⟩
      replace c72 := Bool.eq_false_iff.mpr c72
      subst c72
      have H1 : (laws_FnExactZeroState.j1 kj10 t831 true a0_0 a0_1 l0_2 t826 t827 t828 t839 t840 t841) = some true := by rw [if_neg (show ¬ (false = true) by decide)] at H; exact H
      exact absurd H1 (by cases kj10 <;> simp [laws_FnExactZeroState.j1])
    clear HC60
    try clear c55; try clear c58; try clear hcz68_0; try clear hcz68_1; try clear hcz68_2; try clear hfz68_0; try clear hfz68_1; try clear hfz68_2
    obtain ⟨kq, x61_59, rfl, HA, HJ59, HO_833002, HO_839002, HO_846002, BK819, BK832, BK838, BK845, HB⟩ := hcut
    have hl839002_59 := (Kd.R_reads' HO_839002.out).1
    rw [hl839002_59] at HO_839002
    (try simp only [hl839002_59])
    (try simp only [hl839002_59] at BK819)
    (try simp only [hl839002_59] at BK832)
    (try simp only [hl839002_59] at BK838)
    (try simp only [hl839002_59] at BK845)
    (try simp only [hl839002_59] at HO_833002)
    (try simp only [hl839002_59] at HO_846002)
    cases kq with
    | zero => exact absurd HA.out (by simp [laws_FnExactZeroState.j1])
    | succ kj59 => ?_
    have H := HA.out
    clear HA
    simp only [laws_FnExactZeroState.j1] at H
    by_cases c89 : x61_59 = true
    · subst c89
      have H1 : (some false) = some true := by rw [if_pos rfl] at H; exact H
      exact absurd H1 (by simp)
    replace c89 := Bool.eq_false_iff.mpr c89
    subst c89
    have H1 : ((laws_markBoard.f kj59 t839 t840 t841 1).bind fun bt856 => ((laws_heldBoard.f kj59 t839 t840 bt856.2 1).bind fun t858 => (if t858 < 0 then (some false) else (if t858 = bt856.1 then ((laws_toBoard.f kj59 a0_0 a0_1 l0_2).bind fun bt859 => ((impl_ZeroState.f kj59 bt859.1 bt859.2.1 bt859.2.2).bind fun bt864 => ((laws_eqBoard.f kj59 bt864.1 bt864.2.1 bt864.2.2.1 t826 t827 t828).bind fun t871 => (if t871 = true then (laws_FnExactZeroState.j2 kj59 bt856.1 (bt864.2.2.2 != t831) t839 t840 bt856.2) else (laws_FnExactZeroState.j2 kj59 bt856.1 true t839 t840 bt856.2))))) else (some false))))) = some true := by rw [if_neg (show ¬ (false = true) by decide)] at H; exact H
    clear H
    have H := H1
    clear H1
    replace H := bindA H; obtain ⟨⟨t856, t857⟩, A90, H⟩ := H
    dsimp only at H
    replace H := bindA H; obtain ⟨t858, A91, H⟩ := H
    replace H := ifQ H; rcases H with ⟨c92, H⟩ | ⟨c92, H⟩
    · exact absurd H (by simp)
    have c92b0 := decide_eq_false c92
    clear c92
    first | replace H := ifP H | replace H := ifPf H
    obtain ⟨c100, H⟩ := H
    have c100b0 := beq_iff_eq.mpr c100
    have c100b1 := bne_eq_false_iff_eq.mpr c100
    clear c100
    replace H := bindA H; obtain ⟨⟨t859, t860, t861⟩, A101, H⟩ := H
    dsimp only at H
    replace H := bindA H; obtain ⟨⟨t864, t865, t866, t869⟩, A102, H⟩ := H
    dsimp only at H
    have HC103 := Aside0.mk H
    clear H
    have hnb104 := NB845_819.out
    have hnc104 := NB819_845.out
    have hnb105 := NB845_832.out
    have hnc105 := NB832_845.out
    have hnb106 := NB845_838.out
    have hnc106 := NB838_845.out
    obtain ⟨hcz107_0, hcz107_1, hcz107_2, hfz107_0, hfz107_1, hfz107_2⟩ := cz3 BK845.out
    go_upto_region 25 with (first | ((with_reducible refine gate_callee (f := 23) rfl ?_); refine goesM (N := (some 64)) #[.agg #[.int .i64 t839, .int .i64 t840, .slice Ao36 t841.length co36], .int .i64 1] Try.func23 ?_; (with_reducible refine (laws_markBoard.calls kj59 t839 t840 (fun k_ => some k_ = (.slice Ao36 t841.length co36 : Value).ownBlock) (.slice Ao36 t841.length co36) t841 1 t856 t857 w _ ?side1 ?side2 A90.out).mono ?_); (case side1 => repeat (first | (with_reducible first | exact HB.out | apply below_alloc | apply pw_below_drewN | apply below_drew1 | refine below_set ?_ GE819.out | refine below_set ?_ GE832.out | refine below_set ?_ GE838.out | refine below_set ?_ GE845.out) | exact HB.out)); (case side2 => exact Kd.R_tight rfl HO_846002.out); rintro e w108 ⟨rfl, hy0, hb, hkp⟩; refine ⟨_, rfl, ?_⟩; refine E8 (Kd.R_mono (ok' := fun k_ => some k_ ≠ (.slice Ao29 t854.length co29 : Value).ownBlock ∧ some k_ ≠ (.slice Ao36 t841.length co36 : Value).ownBlock) (Kd.R_keptB (HO_833002.out) hkp (fun k_ hk_ hs_ => (hk_.2) hs_)) (fun k_ hk_ => ⟨hk_.1.1, hk_.1.2⟩)) (Kd.R_mono (ok' := fun k_ => some k_ ≠ (.slice Ao22 t828.length co22 : Value).ownBlock ∧ some k_ ≠ (.slice Ao36 t841.length co36 : Value).ownBlock) (Kd.R_keptB (HO_839002.out) hkp (fun k_ hk_ hs_ => (hk_.2) hs_)) (fun k_ hk_ => ⟨hk_.1.1, hk_.1.2⟩)) (Kd.R_reok rfl hy0 (fun k_ e_ => HO_846002.out.1 k_ e_)) (blk_kept (PB BK819.out) hkp (fun hs_ => (fun e_ => (Kd.R_ne HO_846002.out BK819.out (by decide)) e_) hs_)) (blk_kept (PB BK832.out) hkp (fun hs_ => (fun e_ => (Kd.R_ne HO_846002.out BK832.out (by decide)) e_) hs_)) (blk_kept (PB BK838.out) hkp (fun hs_ => (fun e_ => (Kd.R_ne HO_846002.out BK838.out (by decide)) e_) hs_)) (blk_kept (PB BK845.out) hkp (fun hs_ => (fun e_ => (Kd.R_ne HO_846002.out BK845.out (by decide)) e_) hs_)) (hb) ?_; clear HO_833002 HO_839002 HO_846002 BK819 BK832 BK838 BK845 HB; intro HO_833002 HO_839002 HO_846002 BK819 BK832 BK838 BK845 HB; (try clear hb); (try clear hkp); (try clear hy0); obtain ⟨hcz109_0, hcz109_1, hcz109_2, hfz109_0, hfz109_1, hfz109_2⟩ := cz3 BK845.out) | ((with_reducible refine gate_callee (f := 28) rfl ?_); refine goesL_ (some 67) rfl rfl Try.func28 (by kernel_rfl) rfl #[.agg #[.int .i64 t839, .int .i64 t840, .slice Ao36 t857.length co36], .int .i64 1] rfl (by (try simp only [List.map_toArray, List.map_cons, List.map_nil]); first | done | (rw [show t857.length = t841.length from (Kd.R_reads' HO_846002.out).1.symm] <;> rfl) | rfl | (simp only [List.length_drop, List.length_take]; rfl)) ?_; (with_reducible refine (laws_heldBoard.calls kj59 t839 t840 _ _ t857 1 t858 _ ?side1 ?side2 A91.out).mono ?_); (case side1 => repeat (first | exact (Kd.R_reads' HO_846002.out).2.2 | (with_reducible refine Kd.C_alloc ?_ _) | (with_reducible refine Kd.C_drewN ?_ _) | (with_reducible refine Kd.C_drew ?_))); (case side2 => rw [show t857.length = t841.length from (Kd.R_reads' HO_846002.out).1.symm]; exact (Kd.R_reads' HO_846002.out).2.1); rintro e w110 ⟨rfl, hb⟩; refine ⟨_, rfl, ?_⟩; refine E8 (Kd.R_below (PR HO_833002.out) hb) (Kd.R_below (PR HO_839002.out) hb) (Kd.R_below (PR HO_846002.out) hb) (bB BK819.out hb) (bB BK832.out hb) (bB BK838.out hb) (bB BK845.out hb) (below_step (BL HB.out) hb) ?_; clear HO_833002 HO_839002 HO_846002 BK819 BK832 BK838 BK845 HB; intro HO_833002 HO_839002 HO_846002 BK819 BK832 BK838 BK845 HB; (try clear hb); (try clear hb2); (try clear hk); (try clear hi); have hnb111 := NB819_832.out; have hnc111 := NB832_819.out; have hnb112 := NB819_838.out; have hnc112 := NB838_819.out; obtain ⟨hcz113_0, hcz113_1, hcz113_2, hfz113_0, hfz113_1, hfz113_2⟩ := cz3 BK819.out) | ((with_reducible refine gate_callee (f := 15) rfl ?_); refine goesM (N := (some 75)) #[.agg #[.int .i64 a0_0, .int .i64 a0_1, .slice A0_2 l0_2.length c0_2]] Try.func15 ?_; (with_reducible refine (laws_toBoard.calls kj59 a0_0 a0_1 _ _ l0_2 t859 t860 t861 _ ?side1 ?side2 A101.out).mono ?_); (case side1 => exact CB (Kd.C_below HR0_2.out HB.out)); (case side2 => exact HC0_2.out); rintro e w114 ⟨v862, rfl, ho0, hb⟩; refine ⟨_, rfl, ?_⟩; refine E9 (Kd.R_elder' (PR HO_833002.out) (Kd.R_base ho0) hb) (Kd.R_elder' (PR HO_839002.out) (Kd.R_base ho0) hb) (Kd.R_elder' (PR HO_846002.out) (Kd.R_base ho0) hb) (Kd.R_lower (Kd.R_new' (Kd.R_new' (Kd.R_new' ho0 (Kd.R_lt (PR HO_833002.out))) (Kd.R_lt (PR HO_839002.out))) (Kd.R_lt (PR HO_846002.out))) (below_size (BL HB.out))) (bB BK819.out hb) (bB BK832.out hb) (bB BK838.out hb) (bB BK845.out hb) (below_step (BL HB.out) hb) ?_; clear HO_833002 HO_839002 HO_846002 BK819 BK832 BK838 BK845 HB; intro HO_833002 HO_839002 HO_846002 HO863 BK819 BK832 BK838 BK845 HB; (try clear hb); (try clear hb2); (try clear hk); (try clear hi); (try clear ho0); obtain ⟨Ao115, co115, eo115⟩ := Kd.R_slice HO863.out; subst eo115) | ((with_reducible refine gate_callee (f := 37) rfl ?_); refine goesM (N := (some 76)) #[.agg #[.int .i64 t859, .int .i64 t860, .slice Ao115 t861.length co115]] Try.func37 ?_; (with_reducible refine (impl_ZeroState.calls kj59 t859 t860 _ _ t861 t864 t865 t866 t869 _ ?side1 ?side2 A102.out).mono ?_); (case side1 => repeat (first | exact (Kd.R_reads' HO863.out).2.2 | (with_reducible refine Kd.C_alloc ?_ _) | (with_reducible refine Kd.C_drewN ?_ _) | (with_reducible refine Kd.C_drew ?_))); (case side2 => exact (Kd.R_reads' HO863.out).2.1); rintro e w116 ⟨v867, rfl, ho0, hb⟩; refine ⟨_, rfl, ?_⟩; refine E10 (Kd.R_elder' (PR HO_833002.out) (Kd.R_base ho0) hb) (Kd.R_elder' (PR HO_839002.out) (Kd.R_base ho0) hb) (Kd.R_elder' (PR HO_846002.out) (Kd.R_base ho0) hb) (Kd.R_elder' (PR HO863.out) (Kd.R_base ho0) hb) (Kd.R_lower (Kd.R_new' (Kd.R_new' (Kd.R_new' (Kd.R_new' ho0 (Kd.R_lt (PR HO_833002.out))) (Kd.R_lt (PR HO_839002.out))) (Kd.R_lt (PR HO_846002.out))) (Kd.R_lt (PR HO863.out))) (below_size (BL HB.out))) (bB BK819.out hb) (bB BK832.out hb) (bB BK838.out hb) (bB BK845.out hb) (below_step (BL HB.out) hb) ?_; clear HO_833002 HO_839002 HO_846002 HO863 BK819 BK832 BK838 BK845 HB; intro HO_833002 HO_839002 HO_846002 HO863 HO868 BK819 BK832 BK838 BK845 HB; (try clear hb); (try clear hb2); (try clear hk); (try clear hi); (try clear ho0)) | ((with_reducible refine gate_dst (N := 12) rfl ?_); refine boxE (N := 12) (cs := #[.int .i64 0, .int .i64 0, .slice none 0 0]) (t := 30) ?_; intro gb870 hg w117 hbox hb; refine E21 (Kd.R_below (PR HO_833002.out) hb) (Kd.R_below (PR HO_839002.out) hb) (Kd.R_below (PR HO_846002.out) hb) (Kd.R_below (PR HO863.out) hb) (Kd.R_below (PR HO868.out) hb) (bB BK819.out hb) (bB BK832.out hb) (bB BK838.out hb) (bB BK845.out hb) (below_step (BL HB.out) hb) (hbox) (gwM hg (below_size (BL HB.out)) : w.heap.size ≤ gb870) (gwM hg (below_size (BL HB.out)) : w.heap.size ≤ gb870) ((nB BK819.out hg : gb819 ≠ gb870)) ((nC BK819.out hg : gb870 ≠ gb819)) ((nB BK832.out hg : gb832 ≠ gb870)) ((nC BK832.out hg : gb870 ≠ gb832)) ((nB BK838.out hg : gb838 ≠ gb870)) ((nC BK838.out hg : gb870 ≠ gb838)) ((nB BK845.out hg : gb845 ≠ gb870)) ((nC BK845.out hg : gb870 ≠ gb845)) ?_; clear HO_833002 HO_839002 HO_846002 HO863 HO868 BK819 BK832 BK838 BK845 HB; intro HO_833002 HO_839002 HO_846002 HO863 HO868 BK819 BK832 BK838 BK845 HB BK870 GW870 GE870 NB819_870 NB870_819 NB832_870 NB870_832 NB838_870 NB870_838 NB845_870 NB870_845; clear hb hbox hg; have hnb118 := NB870_819.out; have hnc118 := NB819_870.out; have hnb119 := NB870_832.out; have hnc119 := NB832_870.out; have hnb120 := NB870_838.out; have hnc120 := NB838_870.out; have hnb121 := NB870_845.out; have hnc121 := NB845_870.out; obtain ⟨hcz122_0, hcz122_1, hcz122_2, hfz122_0, hfz122_1, hfz122_2⟩ := cz3 BK870.out; obtain ⟨Ao123, co123, eo123⟩ := Kd.R_slice HO868.out; subst eo123))
    (try simp only [Act.put, List.setIfInBounds_toArray, List.set_cons_zero, List.set_cons_succ])
    go_cut [87] (fun v87 wc => ∃ (kq : Nat) (x87_102 : Bool), v87 = .bool x87_102 ∧ Aside0 (laws_FnExactZeroState.j2 kq t856 x87_102 t839 t840 t857 = some true) ∧ Aside0 (kq ≤ kj59) ∧ Aside0 (Kd.R k73 73 wc w.heap.size (fun k_ => some k_ ≠ ((.slice Ao29 t854.length co29) : Value).ownBlock ∧ some k_ ≠ ((.slice Ao36 t841.length co36) : Value).ownBlock ∧ some k_ ≠ ((.slice Ao123 t866.length co123) : Value).ownBlock) (.slice Ao22 t828.length co22) t828) ∧ Aside0 (Kd.R k73 73 wc w.heap.size (fun k_ => some k_ ≠ ((.slice Ao22 t828.length co22) : Value).ownBlock ∧ some k_ ≠ ((.slice Ao36 t841.length co36) : Value).ownBlock ∧ some k_ ≠ ((.slice Ao123 t866.length co123) : Value).ownBlock) (.slice Ao29 t854.length co29) t854) ∧ Aside0 (Kd.R k73 73 wc w.heap.size (fun k_ => some k_ ≠ ((.slice Ao22 t828.length co22) : Value).ownBlock ∧ some k_ ≠ ((.slice Ao29 t854.length co29) : Value).ownBlock ∧ some k_ ≠ ((.slice Ao123 t866.length co123) : Value).ownBlock) (.slice Ao36 t841.length co36) t857) ∧ Aside0 (Kd.R k73 73 wc w.heap.size (fun k_ => some k_ ≠ ((.slice Ao22 t828.length co22) : Value).ownBlock ∧ some k_ ≠ ((.slice Ao29 t854.length co29) : Value).ownBlock ∧ some k_ ≠ ((.slice Ao36 t841.length co36) : Value).ownBlock) (.slice Ao123 t866.length co123) t866) ∧ Aside0 (wc.heap[gb819]? = some (.cells #[.int .i64 a0_0, .int .i64 a0_1, (.slice A0_2 l0_2.length c0_2)] 24 (0, 0))) ∧ Aside0 (wc.heap[gb832]? = some (.cells #[.int .i64 t826, .int .i64 t827, (.slice Ao22 t828.length co22)] 30 (0, 0))) ∧ Aside0 (wc.heap[gb838]? = some (.cells #[.int .i64 t833, .int .i64 t834, (.slice Ao29 t854.length co29)] 30 (0, 0))) ∧ Aside0 (wc.heap[gb845]? = some (.cells #[.int .i64 t839, .int .i64 t840, (.slice Ao36 t841.length co36)] 30 (0, 0))) ∧ Aside0 (wc.heap[gb870]? = some (.cells #[.int .i64 t864, .int .i64 t865, (.slice Ao123 t866.length co123)] 30 (0, 0))) ∧ Aside0 (Below w.heap.size w wc))
    case first =>
      have H := HC103.out
      clear HC103
      replace H := bindA H; obtain ⟨t871, A124, H⟩ := H
      by_cases c125 : t871 = true
      · subst c125
        have H1 : (laws_FnExactZeroState.j2 kj59 t856 (t869 != t831) t839 t840 t857) = some true := by rw [if_pos rfl] at H; exact H
        clear H
        have H := H1
        clear H1
        have H' := Aside0.mk H
        clear H
        have hnb126 := NB870_819.out
        have hnc126 := NB819_870.out
        have hnb127 := NB870_832.out
        have hnc127 := NB832_870.out
        have hnb128 := NB870_838.out
        have hnc128 := NB838_870.out
        have hnb129 := NB870_845.out
        have hnc129 := NB845_870.out
        obtain ⟨hcz130_0, hcz130_1, hcz130_2, hfz130_0, hfz130_1, hfz130_2⟩ := cz3 BK870.out
        have hnb131 := NB832_819.out
        have hnc131 := NB819_832.out
        have hnb132 := NB832_838.out
        have hnc132 := NB838_832.out
        have hnb133 := NB832_845.out
        have hnc133 := NB845_832.out
        obtain ⟨hcz134_0, hcz134_1, hcz134_2, hfz134_0, hfz134_1, hfz134_2⟩ := cz3 BK832.out
        go_wp2_with (first | ((with_reducible refine gate_callee (f := 17) rfl ?_); refine goesM (N := (some 81)) #[.agg #[.int .i64 t864, .int .i64 t865, .slice Ao123 t866.length co123], .agg #[.int .i64 t826, .int .i64 t827, .slice Ao22 t828.length co22]] Try.func17 ?_; (with_reducible refine (laws_eqBoard.calls kj59 t864 t865 _ _ t866 t826 t827 _ _ t828 true _ ?side1 ?side2 ?side3 ?side4 A124.out).mono ?_); (case side1 => refine (Kd.R_reads' (e := 73) (base := w.heap.size) (ok := fun k_ => ((((True ∧ some k_ ≠ (.slice Ao22 t828.length co22 : Value).ownBlock) ∧ some k_ ≠ (.slice Ao29 t854.length co29 : Value).ownBlock) ∧ some k_ ≠ (.slice Ao36 t841.length co36 : Value).ownBlock) ∧ some k_ ≠ (.slice Ao115 t861.length co115 : Value).ownBlock)) (n := t866.length) (c := co123) ?_).2.2; exact (by (with_reducible repeat (first | apply Kd.R_alloc | apply Kd.R_drewN | apply Kd.R_drew)); exact (Kd.R_mono (Kd.R_far (p := ⟨gb870, 2, none⟩) (Kd.R_far (p := ⟨gb870, 1, none⟩) (Kd.R_far (p := ⟨gb870, 0, none⟩) (Kd.R_types HO868.out BK870.out (by decide)) (fun _ hk => hk.2) (.int .i64 t864)) (fun _ hk => hk.2) (.int .i64 t865)) (fun _ hk => hk.2) (.slice Ao123 t866.length co123)) (fun _ h_ => h_.1)))); (case side2 => exact (Kd.R_reads' HO868.out).2.1); (case side3 => refine (Kd.R_reads' (e := 73) (base := w.heap.size) (ok := fun k_ => (((some k_ ≠ (.slice Ao29 t854.length co29 : Value).ownBlock ∧ some k_ ≠ (.slice Ao36 t841.length co36 : Value).ownBlock) ∧ some k_ ≠ (.slice Ao115 t861.length co115 : Value).ownBlock) ∧ some k_ ≠ (.slice Ao123 t866.length co123 : Value).ownBlock)) (n := t828.length) (c := co22) ?_).2.2; exact (by (with_reducible repeat (first | apply Kd.R_alloc | apply Kd.R_drewN | apply Kd.R_drew)); exact (Kd.R_mono (Kd.R_far (p := ⟨gb870, 2, none⟩) (Kd.R_far (p := ⟨gb870, 1, none⟩) (Kd.R_far (p := ⟨gb870, 0, none⟩) (Kd.R_types HO_833002.out BK870.out (by decide)) (fun _ hk => hk.2) (.int .i64 t864)) (fun _ hk => hk.2) (.int .i64 t865)) (fun _ hk => hk.2) (.slice Ao123 t866.length co123)) (fun _ h_ => h_.1)))); (case side4 => exact (Kd.R_reads' HO_833002.out).2.1); rintro e w135 ⟨rfl, hb⟩; refine ⟨_, rfl, ?_⟩; refine E11 (Kd.R_below (by (with_reducible repeat (first | apply Kd.R_alloc | apply Kd.R_drewN | apply Kd.R_drew)); exact (Kd.R_mono (Kd.R_far (p := ⟨gb870, 2, none⟩) (Kd.R_far (p := ⟨gb870, 1, none⟩) (Kd.R_far (p := ⟨gb870, 0, none⟩) (Kd.R_types HO_833002.out BK870.out (by decide)) (fun _ hk => hk.2) (.int .i64 t864)) (fun _ hk => hk.2) (.int .i64 t865)) (fun _ hk => hk.2) (.slice Ao123 t866.length co123)) (fun _ h_ => h_.1))) hb) (Kd.R_below (by (with_reducible repeat (first | apply Kd.R_alloc | apply Kd.R_drewN | apply Kd.R_drew)); exact (Kd.R_mono (Kd.R_far (p := ⟨gb870, 2, none⟩) (Kd.R_far (p := ⟨gb870, 1, none⟩) (Kd.R_far (p := ⟨gb870, 0, none⟩) (Kd.R_types HO_839002.out BK870.out (by decide)) (fun _ hk => hk.2) (.int .i64 t864)) (fun _ hk => hk.2) (.int .i64 t865)) (fun _ hk => hk.2) (.slice Ao123 t866.length co123)) (fun _ h_ => h_.1))) hb) (Kd.R_below (by (with_reducible repeat (first | apply Kd.R_alloc | apply Kd.R_drewN | apply Kd.R_drew)); exact (Kd.R_mono (Kd.R_far (p := ⟨gb870, 2, none⟩) (Kd.R_far (p := ⟨gb870, 1, none⟩) (Kd.R_far (p := ⟨gb870, 0, none⟩) (Kd.R_types HO_846002.out BK870.out (by decide)) (fun _ hk => hk.2) (.int .i64 t864)) (fun _ hk => hk.2) (.int .i64 t865)) (fun _ hk => hk.2) (.slice Ao123 t866.length co123)) (fun _ h_ => h_.1))) hb) (Kd.R_below (by (with_reducible repeat (first | apply Kd.R_alloc | apply Kd.R_drewN | apply Kd.R_drew)); exact (Kd.R_mono (Kd.R_far (p := ⟨gb870, 2, none⟩) (Kd.R_far (p := ⟨gb870, 1, none⟩) (Kd.R_far (p := ⟨gb870, 0, none⟩) (Kd.R_types HO863.out BK870.out (by decide)) (fun _ hk => hk.2) (.int .i64 t864)) (fun _ hk => hk.2) (.int .i64 t865)) (fun _ hk => hk.2) (.slice Ao123 t866.length co123)) (fun _ h_ => h_.1))) hb) (Kd.R_below (by (with_reducible repeat (first | apply Kd.R_alloc | apply Kd.R_drewN | apply Kd.R_drew)); exact (Kd.R_mono (Kd.R_far (p := ⟨gb870, 2, none⟩) (Kd.R_far (p := ⟨gb870, 1, none⟩) (Kd.R_far (p := ⟨gb870, 0, none⟩) (Kd.R_types HO868.out BK870.out (by decide)) (fun _ hk => hk.2) (.int .i64 t864)) (fun _ hk => hk.2) (.int .i64 t865)) (fun _ hk => hk.2) (.slice Ao123 t866.length co123)) (fun _ h_ => h_.1))) hb) (blk_below (g := gb819) (o := .cells #[.int .i64 a0_0, .int .i64 a0_1, .slice A0_2 l0_2.length c0_2] 24 (0, 0)) (by (with_reducible repeat (first | refine blk_drewN ?_ _ | refine blk_drew ?_ | refine blk_alloc ?_ _)); refine blk_far ?_ NB819_870.out _; (with_reducible repeat (first | refine blk_drewN ?_ _ | refine blk_drew ?_ | refine blk_alloc ?_ _)); refine blk_far ?_ NB819_870.out _; (with_reducible repeat (first | refine blk_drewN ?_ _ | refine blk_drew ?_ | refine blk_alloc ?_ _)); refine blk_far ?_ NB819_870.out _; (with_reducible repeat (first | refine blk_drewN ?_ _ | refine blk_drew ?_ | refine blk_alloc ?_ _)); exact BK819.out) hb) (blk_below (g := gb832) (o := .cells #[.int .i64 t826, .int .i64 t827, .slice Ao22 t828.length co22] 30 (0, 0)) (by (with_reducible repeat (first | refine blk_drewN ?_ _ | refine blk_drew ?_ | refine blk_alloc ?_ _)); refine blk_far ?_ NB832_870.out _; (with_reducible repeat (first | refine blk_drewN ?_ _ | refine blk_drew ?_ | refine blk_alloc ?_ _)); refine blk_far ?_ NB832_870.out _; (with_reducible repeat (first | refine blk_drewN ?_ _ | refine blk_drew ?_ | refine blk_alloc ?_ _)); refine blk_far ?_ NB832_870.out _; (with_reducible repeat (first | refine blk_drewN ?_ _ | refine blk_drew ?_ | refine blk_alloc ?_ _)); exact BK832.out) hb) (blk_below (g := gb838) (o := .cells #[.int .i64 t833, .int .i64 t834, .slice Ao29 t854.length co29] 30 (0, 0)) (by (with_reducible repeat (first | refine blk_drewN ?_ _ | refine blk_drew ?_ | refine blk_alloc ?_ _)); refine blk_far ?_ NB838_870.out _; (with_reducible repeat (first | refine blk_drewN ?_ _ | refine blk_drew ?_ | refine blk_alloc ?_ _)); refine blk_far ?_ NB838_870.out _; (with_reducible repeat (first | refine blk_drewN ?_ _ | refine blk_drew ?_ | refine blk_alloc ?_ _)); refine blk_far ?_ NB838_870.out _; (with_reducible repeat (first | refine blk_drewN ?_ _ | refine blk_drew ?_ | refine blk_alloc ?_ _)); exact BK838.out) hb) (blk_below (g := gb845) (o := .cells #[.int .i64 t839, .int .i64 t840, .slice Ao36 t841.length co36] 30 (0, 0)) (by (with_reducible repeat (first | refine blk_drewN ?_ _ | refine blk_drew ?_ | refine blk_alloc ?_ _)); refine blk_far ?_ NB845_870.out _; (with_reducible repeat (first | refine blk_drewN ?_ _ | refine blk_drew ?_ | refine blk_alloc ?_ _)); refine blk_far ?_ NB845_870.out _; (with_reducible repeat (first | refine blk_drewN ?_ _ | refine blk_drew ?_ | refine blk_alloc ?_ _)); refine blk_far ?_ NB845_870.out _; (with_reducible repeat (first | refine blk_drewN ?_ _ | refine blk_drew ?_ | refine blk_alloc ?_ _)); exact BK845.out) hb) (blk_below (g := gb870) (o := .cells #[.int .i64 t864, .int .i64 t865, .slice Ao123 t866.length co123] 30 (0, 0)) (by (with_reducible repeat (first | refine blk_drewN ?_ _ | refine blk_drew ?_ | refine blk_alloc ?_ _)); refine blk_put (cs := #[.int .i64 t864, .int .i64 t865, .slice none 0 0]) ?_ 2 _ rfl; (with_reducible repeat (first | refine blk_drewN ?_ _ | refine blk_drew ?_ | refine blk_alloc ?_ _)); refine blk_put (cs := #[.int .i64 t864, .int .i64 0, .slice none 0 0]) ?_ 1 _ rfl; (with_reducible repeat (first | refine blk_drewN ?_ _ | refine blk_drew ?_ | refine blk_alloc ?_ _)); refine blk_put (cs := #[.int .i64 0, .int .i64 0, .slice none 0 0]) ?_ 0 _ rfl; (with_reducible repeat (first | refine blk_drewN ?_ _ | refine blk_drew ?_ | refine blk_alloc ?_ _)); exact BK870.out) hb) (below_step (BL HB.out) hb) ?_; clear HO_833002 HO_839002 HO_846002 HO863 HO868 BK819 BK832 BK838 BK845 BK870 HB; intro HO_833002 HO_839002 HO_846002 HO863 HO868 BK819 BK832 BK838 BK845 BK870 HB; (try clear hb); (try clear hb2); (try clear hk); (try clear hi)))
        go_meet
        case rel => exact ⟨_, ((t869 != t831)), RG, H', ⟨by have := HJ10.out; have := HJ59.out; first | omega | exact Nat.le_refl _⟩, ⟨by (try simp only [hl839002_59]); (with_reducible repeat (first | apply Kd.R_alloc | apply Kd.R_drewN | apply Kd.R_drew)); exact Kd.R_mono HO_833002.out (fun _ hk => ⟨hk.1.1.1, ⟨hk.1.1.2, hk.2⟩⟩)⟩, ⟨by (try simp only [hl839002_59]); (with_reducible repeat (first | apply Kd.R_alloc | apply Kd.R_drewN | apply Kd.R_drew)); exact Kd.R_mono HO_839002.out (fun _ hk => ⟨hk.1.1.1, ⟨hk.1.1.2, hk.2⟩⟩)⟩, ⟨by (try simp only [hl839002_59]); (with_reducible repeat (first | apply Kd.R_alloc | apply Kd.R_drewN | apply Kd.R_drew)); exact Kd.R_mono HO_846002.out (fun _ hk => ⟨hk.1.1.1, ⟨hk.1.1.2, hk.2⟩⟩)⟩, ⟨by (try simp only [hl839002_59]); (with_reducible repeat (first | apply Kd.R_alloc | apply Kd.R_drewN | apply Kd.R_drew)); exact Kd.R_mono HO868.out (fun _ hk => ⟨hk.1.1.1.2, ⟨hk.1.1.2, hk.1.2⟩⟩)⟩, ⟨PB1 BK819.out hl839002_59⟩, ⟨PB1 BK832.out hl839002_59⟩, ⟨PB1 BK838.out hl839002_59⟩, ⟨PB1 BK845.out hl839002_59⟩, ⟨PB1 BK870.out hl839002_59⟩, ⟨BL HB.out⟩⟩
      replace c125 := Bool.eq_false_iff.mpr c125
      subst c125
      have H1 : (laws_FnExactZeroState.j2 kj59 t856 true t839 t840 t857) = some true := by rw [if_neg (show ¬ (false = true) by decide)] at H; exact H
      exact absurd H1 (by cases kj59 <;> simp [laws_FnExactZeroState.j2])
    clear HC103
    try clear c89; try clear c92b0; try clear c100b0; try clear c100b1; try clear hcz107_0; try clear hcz107_1; try clear hcz107_2; try clear hcz109_0; try clear hcz109_1; try clear hcz109_2; try clear hcz113_0; try clear hcz113_1; try clear hcz113_2; try clear hcz122_0; try clear hcz122_1; try clear hcz122_2; try clear hfz107_0; try clear hfz107_1; try clear hfz107_2; try clear hfz109_0; try clear hfz109_1; try clear hfz109_2; try clear hfz113_0; try clear hfz113_1; try clear hfz113_2; try clear hfz122_0; try clear hfz122_1; try clear hfz122_2
    obtain ⟨kq, x87_102, rfl, HA, HJ102, HO_833002, HO_839002, HO_846002, HO_871002, BK819, BK832, BK838, BK845, BK870, HB⟩ := hcut
    have hl846002_102 := (Kd.R_reads' HO_846002.out).1
    rw [hl846002_102] at HO_846002
    (try simp only [hl846002_102])
    (try simp only [hl846002_102] at BK819)
    (try simp only [hl846002_102] at BK832)
    (try simp only [hl846002_102] at BK838)
    (try simp only [hl846002_102] at BK845)
    (try simp only [hl846002_102] at BK870)
    (try simp only [hl846002_102] at HO_833002)
    (try simp only [hl846002_102] at HO_839002)
    (try simp only [hl846002_102] at HO_871002)
    cases kq with
    | zero => exact absurd HA.out (by simp [laws_FnExactZeroState.j2])
    | succ kj102 => ?_
    have H := HA.out
    clear HA
    simp only [laws_FnExactZeroState.j2] at H
    by_cases c146 : x87_102 = true
    · subst c146
      have H1 : (some false) = some true := by rw [if_pos rfl] at H; exact H
      exact absurd H1 (by simp)
    replace c146 := Bool.eq_false_iff.mpr c146
    subst c146
    have H1 : ((laws_heldBoard.f kj102 t839 t840 t857 1).bind fun t872 => (if t872 < 0 then (some false) else (if t872 = t856 then (some true) else (some false)))) = some true := by rw [if_neg (show ¬ (false = true) by decide)] at H; exact H
    clear H
    have H := H1
    clear H1
    replace H := bindA H; obtain ⟨t872, A147, H⟩ := H
    replace H := ifQ H; rcases H with ⟨c148, H⟩ | ⟨c148, H⟩
    · exact absurd H (by simp)
    have c148b0 := decide_eq_false c148
    clear c148
    first | replace H := ifP H | replace H := ifPf H
    obtain ⟨c155, H⟩ := H
    have c155b0 := beq_iff_eq.mpr c155
    have c155b1 := bne_eq_false_iff_eq.mpr c155
    clear c155
    first | (obtain rfl := Option.some.inj H) | clear H
    have hnb156 := NB845_819.out
    have hnc156 := NB819_845.out
    have hnb157 := NB845_832.out
    have hnc157 := NB832_845.out
    have hnb158 := NB845_838.out
    have hnc158 := NB838_845.out
    have hnb159 := NB845_870.out
    have hnc159 := NB870_845.out
    obtain ⟨hcz160_0, hcz160_1, hcz160_2, hfz160_0, hfz160_1, hfz160_2⟩ := cz3 BK845.out
    go_wp2_with (first | ((with_reducible refine gate_callee (f := 28) rfl ?_); refine goesM (N := (some 90)) #[.agg #[.int .i64 t839, .int .i64 t840, .slice Ao36 t857.length co36], .int .i64 1] Try.func28 ?_; (with_reducible refine (laws_heldBoard.calls kj102 t839 t840 _ _ t857 1 t872 _ ?side1 ?side2 A147.out).mono ?_); (case side1 => repeat (first | exact (Kd.R_reads' HO_846002.out).2.2 | (with_reducible refine Kd.C_alloc ?_ _) | (with_reducible refine Kd.C_drewN ?_ _) | (with_reducible refine Kd.C_drew ?_))); (case side2 => exact (Kd.R_reads' HO_846002.out).2.1); rintro e w161 ⟨rfl, hb⟩; refine ⟨_, rfl, ?_⟩; refine E10 (Kd.R_below (PR HO_833002.out) hb) (Kd.R_below (PR HO_839002.out) hb) (Kd.R_below (PR HO_846002.out) hb) (Kd.R_below (PR HO_871002.out) hb) (bB BK819.out hb) (bB BK832.out hb) (bB BK838.out hb) (bB BK845.out hb) (bB BK870.out hb) (below_step (BL HB.out) hb) ?_; clear HO_833002 HO_839002 HO_846002 HO_871002 BK819 BK832 BK838 BK845 BK870 HB; intro HO_833002 HO_839002 HO_846002 HO_871002 BK819 BK832 BK838 BK845 BK870 HB; (try clear hb); (try clear hb2); (try clear hk); (try clear hi)))
    go_ret
    exact ⟨RF, BL HB.out⟩
  replace c58 := Bool.eq_false_iff.mpr c58
  subst c58
  have H1 : (some false) = some true := by rw [if_neg (show ¬ (false = true) by decide)] at H; exact H
  exact absurd H1 (by simp)
end Go.Proofs.Ytakihdabbpconaa.P
