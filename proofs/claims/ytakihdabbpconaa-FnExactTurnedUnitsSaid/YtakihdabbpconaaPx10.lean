-- PRINTED by print.py (a twelfth state) out of the translation. Not trusted: Lean checks it.
import Derived.Test.YtakihdabbpconaaPx0
import Derived.Test.YtakihdabbpconaaPx3
import Derived.Test.YtakihdabbpconaaPx4
namespace Go.Proofs.Ytakihdabbpconaa.P
open Go.RowKit Go.Proofs.YtakihdabbpconaaW.PrintWords Go.Proofs.YtakihdabbpconaaW.PrintLast Go.Proofs.YtakihdabbpconaaW.PrintMore
attribute [local go_sem] max2_int min2_int max_two min_two max_three min_three max_four min_four   -- for this text's walks alone
set_option linter.unusedVariables false
set_option linter.unusedSimpArgs false

/-! ### spec_saBits: function 47 -/
def spec_saBits.l0 : Nat → List Int → List (List Int) → Int → Int → Int → Int → List (S73) → Option (List Int)
  | 0, _, _, _, _, _, _, _ => none
  | k + 1, x3, x7, x8, x9, x191000, x191001, x191002 => if x9 < x8 then (if 0 ≤ x9 then (if x9 < (x7.length : Int) then (if 0 < ((rd_L3 x7 x9).length : Int) then (if 0 ≤ (rd (rd_L3 x7 x9) 0) then (if (rd (rd_L3 x7 x9) 0) < (x191002.length : Int) then (if x3.length < 17592186044416 then (spec_saBits.l0 k (x3 ++ [(rd_T73 x191002 (rd (rd_L3 x7 x9) 0)).f1]) x7 x8 (wrap64 (x9 + 1)) x191000 x191001 x191002) else (none)) else (none)) else (none)) else (none)) else (none)) else (none)) else (some x3)
def spec_saBits.f (k : Nat) (a0_0 : Int) (a0_1 : Int) (l0_2 : List (S73)) : Option (List Int) := (spec_saUnits.f k a0_0 a0_1 l0_2).bind fun t191 => (spec_saBits.l0 k ([] : List Int) t191 (t191.length : Int) 0 a0_0 a0_1 l0_2)
theorem spec_saBits.mono_l : ∀ k, (∀ y0 y1 y2 y3 y4 y5 y6, LeO (spec_saBits.l0 k y0 y1 y2 y3 y4 y5 y6) (spec_saBits.l0 (k + 1) y0 y1 y2 y3 y4 y5 y6))
  | 0 => fun _ _ _ _ _ _ _ r h => by simp [spec_saBits.l0] at h
  | k + 1 => by
    have ih0 := spec_saBits.mono_l k
    intros
    first | unfold spec_saBits.l0
    repeat' first | (with_reducible first | apply ih0 | apply spec_saUnits.mono | exact LeO.refl _ | exact LeO.none _ | refine LeO.ite ?_ ?_ | refine LeO.bind ?_ (fun _ => ?_)) | apply ih0 | apply spec_saUnits.mono | exact LeO.none _ | refine LeO.ite ?_ ?_ | refine LeO.bind ?_ (fun _ => ?_)
theorem spec_saBits.mono : ∀ a0 a1 a2 k, LeO (spec_saBits.f k a0 a1 a2) (spec_saBits.f (k + 1) a0 a1 a2) := by
  intro a0 a1 a2 k
  have ih0 := spec_saBits.mono_l k
  unfold spec_saBits.f
  repeat' first | (with_reducible first | apply ih0 | apply spec_saUnits.mono | exact LeO.refl _ | exact LeO.none _ | refine LeO.ite ?_ ?_ | refine LeO.bind ?_ (fun _ => ?_)) | apply ih0 | apply spec_saUnits.mono | exact LeO.none _ | refine LeO.ite ?_ ?_ | refine LeO.bind ?_ (fun _ => ?_)
def spec_saBits.T5 : Bool × List (List Nat × List Nat) := (true, [([], []), ([], []), ([1], [1]), ([], []), ([3], [3]), ([4], [4]), ([2, 5], [2, 5]), ([6], [6]), ([7], [7]), ([8], [8]), ([0, 9], [0, 9]), ([10, 10, 0, 1, 2, 3, 4, 5, 6, 7, 8, 9, 10], [0, 10])])
def spec_saBits.B5 : List Nat := [0, 0, 2, 0, 8, 24, 62, 126, 254, 510, 1023, 2047]
theorem spec_saBits.tab5 : rtab .any (opsOf Try.f47 5) = spec_saBits.T5 := by kernel_rfl
theorem spec_saBits.bits5 : waitsOk spec_saBits.T5.2 spec_saBits.B5 = true := by kernel_rfl
set_option maxHeartbeats 8000000 in
set_option maxRecDepth 100000 in
theorem spec_saBits.calls (k : Nat) (a0_0 : Int) (a0_1 : Int) (A0_2 : Option Addr) (c0_2 : Nat) (l0_2 : List (S73)) (r : List Int) (w : World) (hr0_2 : Kd.C k73 w A0_2 l0_2.length l0_2) (hc0_2 : l0_2.length ≤ c0_2) (h : spec_saBits.f k a0_0 a0_1 l0_2 = some r) :
    Calls Try.prog 47 #[.agg #[.int .i64 a0_0, .int .i64 a0_1, .slice A0_2 l0_2.length c0_2]] w fun e w' => ∃ v0_ : Value, e = .returned (v0_) ∧ Kd.R (Kd.int .i64) 3 w' w.heap.size (fun _ => True) v0_ r ∧ Below w.heap.size w w' := by
  have hu30 := Try.underlying30
  have HR0_2 := Aside0.mk hr0_2
  have HC0_2 := Aside0.mk hc0_2
  clear hr0_2 hc0_2
  have HB := Aside0.mk (Below.refl w.heap.size w)
  have H := h
  clear h
  unfold spec_saBits.f at H
  replace H := bindA H; obtain ⟨t191, A2, H⟩ := H
  have H' := Aside0.mk H
  clear H
  go_enter Try.func47, Try.ntmps47
  go_wp2_with (first | ((with_reducible refine gate_dst (N := 1) rfl ?_); refine boxE (N := 1) (cs := #[.int .i64 a0_0, .int .i64 a0_1, .slice A0_2 l0_2.length c0_2]) (t := 30) ?_; intro gb190 hg w3 hbox hb; refine E4b HB.out hg hbox hb ?_; clear HB; intro HB BK190 GW190 GE190; clear hb hbox hg; obtain ⟨hcz4_0, hcz4_1, hcz4_2, hfz4_0, hfz4_1, hfz4_2⟩ := cz3 BK190.out) | ((with_reducible refine gate_callee (f := 59) rfl ?_); refine goesM (N := (some 7)) #[.agg #[.int .i64 a0_0, .int .i64 a0_1, .slice A0_2 l0_2.length c0_2]] Try.func59 ?_; (with_reducible refine (spec_saUnits.calls k a0_0 a0_1 _ _ l0_2 t191 _ ?side1 ?side2 A2.out).mono ?_); (case side1 => exact CB (Kd.C_below HR0_2.out HB.out)); (case side2 => exact HC0_2.out); rintro e w5 ⟨v192, rfl, ho0, hb⟩; refine ⟨_, rfl, ?_⟩; refine E3 (Kd.S_lower ho0 (below_size (BL HB.out))) (bB BK190.out hb) (below_step (BL HB.out) hb) ?_; clear BK190 HB; intro HO193 BK190 HB; (try clear hb); (try clear hb2); (try clear hk); (try clear hi); (try clear ho0); obtain ⟨Ao6, co6, eo6⟩ := Kd.S_slice HO193.out; subst eo6))
  go_loopg [3, 9] k (fun kq v3 v9 w' => ∃ (x3_1 : List Int) (x9_1 : Int), v9 = .int .i64 x9_1 ∧ Aside0 (spec_saBits.l0 kq x3_1 t191 (t191.length : Int) x9_1 a0_0 a0_1 l0_2 = some r) ∧ Aside0 (kq ≤ k) ∧ Aside0 (Kd.R (Kd.int .i64) 3 w' w.heap.size (fun _ => True) v3 x3_1) ∧ Aside0 (Kd.S (Kd.slice 3 (Kd.int .i64)) 36 w' w.heap.size (fun k_ => some k_ ≠ (v3 : Value).ownBlock) (.slice Ao6 t191.length co6) t191) ∧ Aside0 (w'.heap[gb190]? = some (.cells #[.int .i64 a0_0, .int .i64 a0_1, (.slice A0_2 l0_2.length c0_2)] 30 (0, 0))) ∧ Aside0 (Below w.heap.size w w'))
  case atStart => exact ⟨(([] : List Int)), (0), RG, H', ⟨Nat.le_refl _⟩, ⟨by first | exact Kd.R_nil _ _ _ _ _ | exact Kd.N_nil _ _ _ _ _ | exact Kd.V_nil _ _ _ _ _ | exact Kd.Q_nil _ _ _ _ _ | exact Kd.S_nil _ _ _ _ _⟩, ⟨by (with_reducible repeat (first | apply Kd.S_alloc | apply Kd.S_drewN | apply Kd.S_drew)); exact Kd.S_mono HO193.out (fun _ hk => (by simp [Value.ownBlock]))⟩, ⟨PB BK190.out⟩, ⟨BL HB.out⟩⟩
  clear H'
  try clear hcz4_0; try clear hcz4_1; try clear hcz4_2; try clear hfz4_0; try clear hfz4_1; try clear hfz4_2
  obtain ⟨x3_1, x9_1, rfl, HA, HK1, HO_3, HO_7, BK190, HB⟩ := hrel
  cases gk with
  | zero => exact absurd HA.out (by simp [spec_saBits.l0])
  | succ k1 => ?_
  have H := HA.out
  clear HA
  simp only [spec_saBits.l0] at H
  replace H := ifB H; rcases H with ⟨c7b0, H⟩ | ⟨c7b0, H⟩
  · replace H := ifN H; obtain ⟨c8b0, H⟩ := H
    replace H := ifN H; obtain ⟨c9b0, H⟩ := H
    replace H := ifP H; obtain ⟨c10, H⟩ := H
    have c10b0 := decide_eq_true c10
    have c10b1 : decide (0 < (rd_L3 t191 x9_1).length) = true := decide_eq_true (by omega)
    clear c10
    replace H := ifN H; obtain ⟨c11b0, H⟩ := H
    replace H := ifN H; obtain ⟨c12b0, H⟩ := H
    replace H := ifP H; obtain ⟨c13, H⟩ := H
    have LMc13 := Aside0.mk c13
    clear c13
    generalize hy197 : ((x3_1 ++ [(rd_T73 l0_2 (rd (rd_L3 t191 x9_1) 0)).f1]) : List Int) = y197 at H
    have Ny197 := Aside0.mk hy197.symm; clear hy197
    have H' := Aside0.mk H
    clear H
    have p194 : 0 ≤ (x9_1 : Int) := OD
    have q194 : x9_1 < (t191.length : Int) := OD
    obtain ⟨ad194, A194_0, c194_0, e194, hx194_0, hl194_0, hi194_0⟩ := at_L3 (Kd.S_reads' HO_7.out).2.2 x9_1 p194 q194
    cases e194
    obtain ⟨ce194, hce194, hMe194, hcc194⟩ := Kd.S_get HO_7.out [] x9_1 p194 (by first | exact q194 | exact OD | (have e_ := (Kd.S_reads' HO_7.out).1; omega))
    obtain ⟨ve194_0, rfl, ge194_0⟩ := hMe194
    have hv194_0 := hcc194 0 _ rfl
    rw [Nat.add_zero, show ((Kd.slice 3 (Kd.int .i64))).sz = 1 from rfl, Nat.mul_one] at hv194_0
    replace hv194_0 := Option.some.inj (hv194_0.symm.trans hx194_0)
    rw [hv194_0] at ge194_0
    have HL194_0 := Aside0.mk (show Kd.R (Kd.int .i64) 3 _ _ _ _ (rd_L3 t191 x9_1) from ge194_0)
    clear hv194_0 ge194_0
    clear hcc194 hce194
    have HR194_0 := Aside0.mk hi194_0
    have HC194_0 := Aside0.mk hl194_0
    clear hi194_0 hl194_0
    replace p194 := eq_true p194
    replace q194 := eq_true q194
    try go_wp2
    refine E6 (Kd.R_drew HO_3.out) (Kd.S_drew HO_7.out) (Kd.R_drew HL194_0.out) (blk_drew BK190.out) (Kd.C_drew HR194_0.out) (below_drew1 HB.out) ?_
    clear HO_3 HO_7 HL194_0 BK190 HR194_0 HB
    intro HO_3 HO_7 HL194_0 BK190 HR194_0 HB
    have p195 : 0 ≤ (0 : Int) := (by omega)
    have q195 : 0 < ((rd_L3 t191 x9_1).length : Int) := OD
    obtain ⟨ad195, e195, hx195_0⟩ := Kd.at_int (by repeat (first | (with_reducible exact HR194_0.out) | (with_reducible refine Kd.C_alloc ?_ _) | (with_reducible refine Kd.C_drewN ?_ _) | (with_reducible refine Kd.C_drew ?_) | exact HR194_0.out)) 0 p195 q195
    cases e195
    have qi195 : (0 < (rd_L3 t191 x9_1).length) = True := eq_true (by omega)
    (try rw [show ((0 : Int)).toNat = 0 from rfl] at hx195_0)
    (try rw [Addr.add_zero'] at hx195_0)
    replace p195 := eq_true p195
    replace q195 := eq_true q195
    have p196 : 0 ≤ ((rd (rd_L3 t191 x9_1) 0) : Int) := OD
    have q196 : (rd (rd_L3 t191 x9_1) 0) < (l0_2.length : Int) := OD
    obtain ⟨ad196, e196, hx196_0, hx196_1⟩ := at_T73 HR0_2.out (rd (rd_L3 t191 x9_1) 0) p196 q196
    have hw196_1 := hx196_1
    have hw196_0 := hx196_0
    cases e196
    replace hx196_0 := (HB.out.cell (World.block_lt_of_cell? w _ hx196_0)).trans hx196_0
    replace hx196_1 := (HB.out.cell (World.block_lt_of_cell? w _ hx196_1)).trans hx196_1
    replace p196 := eq_true p196
    replace q196 := eq_true q196
    refine start_ (n := 12) (S := fun w' => w'.cell? ⟨gb190, 0, none⟩ = some (.int .i64 a0_0) ∧ w'.cell? ⟨gb190, 1, none⟩ = some (.int .i64 a0_1) ∧ w'.cell? ⟨gb190, 2, none⟩ = some (.slice (some ad196) l0_2.length c0_2) ∧ w'.cell? ad195 = some (.int .i64 (rd (rd_L3 t191 x9_1) 0)) ∧ w'.cell? (ad196.add (((rd (rd_L3 t191 x9_1) 0)).toNat * 2)) = some (.int .i64 ((rd_T73 l0_2 (rd (rd_L3 t191 x9_1) 0)).f0)) ∧ w'.cell? ⟨(ad196.add (((rd (rd_L3 t191 x9_1) 0)).toNat * 2)).block, (ad196.add (((rd (rd_L3 t191 x9_1) 0)).toNat * 2)).off + 1, none⟩ = some (.int .i64 ((rd_T73 l0_2 (rd (rd_L3 t191 x9_1) 0)).f1))) (ds := [9, 10]) #[false, false, false, false, false, false, false, false, false, false, false, false] (by kernel_rfl) rfl rfl ⟨(blk_cell BK190.out 0).trans rfl, (blk_cell BK190.out 1).trans rfl, (blk_cell BK190.out 2).trans rfl, hx195_0, ((HB.out.cell (World.block_lt_of_cell? w _ hw196_0)).trans hw196_0), ((HB.out.cell (World.block_lt_of_cell? w _ hw196_1)).trans hw196_1)⟩ (fun hHeld => ?_); refine with_tabW spec_saBits.tab5 spec_saBits.bits5 (fun HT_ HW_ => ?_)
    generalize wr.drew = w14 at HO_3 HO_7 HL194_0 BK190 HR194_0 HB hx195_0 hx196_0 hx196_1 hHeld ⊢
    refine pureE (i := 0) (N := some 13) #[true, false, false, false, false, false, false, false, false, false, false, false] HT_.out ?_
    refine pureE (i := 1) (N := some 14) #[true, true, false, false, false, false, false, false, false, false, false, false] HT_.out ?_
    refine pureE (i := 3) (N := some 16) #[true, true, false, true, false, false, false, false, false, false, false, false] HT_.out ?_
    refine pureE (i := 4) (N := some 17) #[true, true, false, true, true, false, false, false, false, false, false, false] HT_.out ?_
    refine take_ (i := 2) (N := some 15) (v := ?_) (a' := ?_) #[true, true, true, true, true, false, false, false, false, false, false, false] rfl rfl (take_ofW HT_.out HW_.out (by kernel_rfl)) (fun _ _ _ h => h) (Or.inl ⟨by rfl, ?_⟩) hHeld ?_ ?_
    rotate_left
    · rintro w' ⟨s0, s1, s2, s3, s4, s5⟩
      go_simp
      with_reducible rfl
    rotate_left
    · simp only [Act.put, List.setIfInBounds_toArray, List.set_cons_zero, List.set_cons_succ, i64_w, i32_w]
      rfl
    refine take_ (i := 5) (N := some 18) (v := ?_) (a' := ?_) #[true, true, true, true, true, true, false, false, false, false, false, false] rfl rfl (take_ofW HT_.out HW_.out (by kernel_rfl)) (fun _ _ _ h => h) (Or.inl ⟨by rfl, ?_⟩) hHeld ?_ ?_
    rotate_left
    · rintro w' ⟨s0, s1, s2, s3, s4, s5⟩
      go_simp
      with_reducible rfl
    rotate_left
    · simp only [Act.put, List.setIfInBounds_toArray, List.set_cons_zero, List.set_cons_succ, i64_w, i32_w]
      rfl
    refine pureE (i := 6) (N := some 19) #[true, true, true, true, true, true, true, false, false, false, false, false] HT_.out ?_
    refine pureE (i := 7) (N := some 20) #[true, true, true, true, true, true, true, true, false, false, false, false] HT_.out ?_
    refine take_ (i := 8) (N := some 21) (v := ?_) (a' := ?_) #[true, true, true, true, true, true, true, true, true, false, false, false] rfl rfl (take_ofW HT_.out HW_.out (by kernel_rfl)) (fun _ _ _ h => h) (Or.inl ⟨by rfl, ?_⟩) hHeld ?_ ?_
    rotate_left
    · rintro w' ⟨s0, s1, s2, s3, s4, s5⟩
      go_simp
      with_reducible rfl
    rotate_left
    · simp only [Act.put, List.setIfInBounds_toArray, List.set_cons_zero, List.set_cons_succ, i64_w, i32_w]
      rfl
    refine last_ (i := 9) (N := some 22) #[true, true, true, true, true, true, true, true, true, true, false, false] rfl rfl (one_of HT_.out (by kernel_rfl)) (by decide) (fun K hK => ?_)
    refine value_ (w1 := ?_) (v := ?_) (by rfl) rfl ?_ ?_
    rotate_left 2
    · go_simp
      constructor
      · rfl
      rfl
    refine hK.out _ _ ?_
    clear hK K
    refine norm_ (a' := ?_) ?_ ?_
    rotate_left
    · show Act.put _ (some 22) _ = _
      simp only [Act.put, List.setIfInBounds_toArray, List.set_cons_zero, List.set_cons_succ, i64_w, i32_w]
      rfl
    refine last_ (i := 10) (N := some 23) #[true, true, true, true, true, true, true, true, true, true, true, false] rfl rfl (one_of HT_.out (by kernel_rfl)) (by decide) (fun K hK => ?_)
    refine Kd.R_append_step (Kd.int .i64) (w0 := w) w.heap.size (by rfl) (.tmp 13) (.tmp 22) 36 3 (.int .i64 0) 8 rfl Try.underlying36 info3 rfl (by decide) (by omega) u3 x3_1 ((rd_T73 l0_2 (rd (rd_L3 t191 x9_1) 0)).f1) [.int .i64 ((rd_T73 l0_2 (rd (rd_L3 t191 x9_1) 0)).f1)] (fun _ => True) (fun _ => False) rfl rfl ?aP (fun _ hk => hk.elim) ?aF ?aO ?aB ?aS ?aL ?_
    (case aP => exact rfl)
    (case aB => exact (BL HB.out))
    (case aF => exact (fun _ _ => trivial))
    (case aO => exact (PR HO_3.out))
    (case aS => exact (below_size (BL HB.out)))
    (case aL => have := LMc13.out; omega)
    intro v198 w15 ho hb hg hat
    rw [← Ny197.out] at ho
    refine E5 (Kd.S_after (ok := (fun _ => True)) (by (with_reducible repeat (first | apply Kd.S_alloc | apply Kd.S_drewN | apply Kd.S_drew)); exact Kd.S_mono HO_7.out (fun _ hk => ⟨trivial, hk⟩)) hg hat) (bG BK190.out hg (Kd.R_ne HO_3.out BK190.out (by decide))) (Kd.R_after (ok := (fun k_ => some k_ ≠ (.slice (some ad194) t191.length co6 : Value).ownBlock)) (by (with_reducible repeat (first | apply Kd.R_alloc | apply Kd.R_drewN | apply Kd.R_drew)); exact Kd.R_mono HL194_0.out (fun _ hk => ⟨hk.2, hk.1⟩)) hg hat) (hb) (ho) ?_
    clear HO_7 BK190 HL194_0 HB HO_3
    intro HO_7 BK190 HL194_0 HB HO199
    clear ho hb hg hat
    refine hK.out _ _ ?_
    clear hK K
    refine norm_ (a' := ?_) ?_ ?_
    rotate_left
    · show Act.put _ (some 23) _ = _
      simp only [Act.put, List.setIfInBounds_toArray, List.set_cons_zero, List.set_cons_succ, i64_w, i32_w]
      rfl
    refine pureE (i := 11) (N := some 3) #[true, true, true, true, true, true, true, true, true, true, true, true] HT_.out ?_
    refine done_ (done_of HT_.out (by kernel_rfl)) ?_
    try go_wp2
    go_roundg k1
    case measure => have := HK1.out; omega
    case rel => exact ⟨(y197), (wrap64 (x9_1 + 1)), RG, H', ⟨by have := HK1.out; omega⟩, ⟨PR HO199.out⟩, ⟨by (with_reducible repeat (first | apply Kd.S_alloc | apply Kd.S_drewN | apply Kd.S_drew)); exact Kd.S_mono HO_7.out (fun _ hk => hk.2)⟩, ⟨PB BK190.out⟩, ⟨BL HB.out⟩⟩
  obtain rfl := Option.some.inj H
  go_wp2
  go_ret
  exact ⟨_, RF, by (with_reducible repeat (first | apply Kd.R_alloc | apply Kd.R_drewN | apply Kd.R_drew)); exact HO_3.out, BL HB.out⟩
/-! ### impl_bitsOf: function 52 -/
def impl_bitsOf.l0 : Nat → List Int → List (List Int) → Int → Int → Int → Int → List (S73) → Option (List Int)
  | 0, _, _, _, _, _, _, _ => none
  | k + 1, x3, x8, x9, x10, x324000, x324001, x324002 => if x10 < x9 then (if 0 ≤ x10 then (if x10 < (x8.length : Int) then (if 0 < ((rd_L3 x8 x10).length : Int) then (if 0 ≤ (rd (rd_L3 x8 x10) 0) then (if (rd (rd_L3 x8 x10) 0) < (x324002.length : Int) then (if x3.length < 17592186044416 then (impl_bitsOf.l0 k (x3 ++ [(rd_T73 x324002 (rd (rd_L3 x8 x10) 0)).f1]) x8 x9 (wrap64 (x10 + 1)) x324000 x324001 x324002) else (none)) else (none)) else (none)) else (none)) else (none)) else (none)) else (some x3)
def impl_bitsOf.f (k : Nat) (a0_0 : Int) (a0_1 : Int) (l0_2 : List (S73)) : Option (List Int) := (impl_unitsOf.f k a0_0 a0_1 l0_2).bind fun t327 => (impl_bitsOf.l0 k (([] : List Int)) t327 (t327.length : Int) 0 a0_0 a0_1 l0_2)
theorem impl_bitsOf.mono_l : ∀ k, (∀ y0 y1 y2 y3 y4 y5 y6, LeO (impl_bitsOf.l0 k y0 y1 y2 y3 y4 y5 y6) (impl_bitsOf.l0 (k + 1) y0 y1 y2 y3 y4 y5 y6))
  | 0 => fun _ _ _ _ _ _ _ r h => by simp [impl_bitsOf.l0] at h
  | k + 1 => by
    have ih0 := impl_bitsOf.mono_l k
    intros
    first | unfold impl_bitsOf.l0
    repeat' first | (with_reducible first | apply ih0 | apply impl_unitsOf.mono | exact LeO.refl _ | exact LeO.none _ | refine LeO.ite ?_ ?_ | refine LeO.bind ?_ (fun _ => ?_)) | apply ih0 | apply impl_unitsOf.mono | exact LeO.none _ | refine LeO.ite ?_ ?_ | refine LeO.bind ?_ (fun _ => ?_)
theorem impl_bitsOf.mono : ∀ a0 a1 a2 k, LeO (impl_bitsOf.f k a0 a1 a2) (impl_bitsOf.f (k + 1) a0 a1 a2) := by
  intro a0 a1 a2 k
  have ih0 := impl_bitsOf.mono_l k
  unfold impl_bitsOf.f
  repeat' first | (with_reducible first | apply ih0 | apply impl_unitsOf.mono | exact LeO.refl _ | exact LeO.none _ | refine LeO.ite ?_ ?_ | refine LeO.bind ?_ (fun _ => ?_)) | apply ih0 | apply impl_unitsOf.mono | exact LeO.none _ | refine LeO.ite ?_ ?_ | refine LeO.bind ?_ (fun _ => ?_)
def impl_bitsOf.T5 : Bool × List (List Nat × List Nat) := (true, [([], []), ([], []), ([1], [1]), ([], []), ([3], [3]), ([4], [4]), ([2, 5], [2, 5]), ([6], [6]), ([7], [7]), ([8], [8]), ([0, 9], [0, 9]), ([10, 10, 0, 1, 2, 3, 4, 5, 6, 7, 8, 9, 10], [0, 10])])
def impl_bitsOf.B5 : List Nat := [0, 0, 2, 0, 8, 24, 62, 126, 254, 510, 1023, 2047]
theorem impl_bitsOf.tab5 : rtab .any (opsOf Try.f52 5) = impl_bitsOf.T5 := by kernel_rfl
theorem impl_bitsOf.bits5 : waitsOk impl_bitsOf.T5.2 impl_bitsOf.B5 = true := by kernel_rfl
set_option maxHeartbeats 8000000 in
set_option maxRecDepth 100000 in
theorem impl_bitsOf.calls (k : Nat) (a0_0 : Int) (a0_1 : Int) (A0_2 : Option Addr) (c0_2 : Nat) (l0_2 : List (S73)) (r : List Int) (w : World) (hr0_2 : Kd.C k73 w A0_2 l0_2.length l0_2) (hc0_2 : l0_2.length ≤ c0_2) (h : impl_bitsOf.f k a0_0 a0_1 l0_2 = some r) :
    Calls Try.prog 52 #[.agg #[.int .i64 a0_0, .int .i64 a0_1, .slice A0_2 l0_2.length c0_2]] w fun e w' => ∃ v0_ : Value, e = .returned (v0_) ∧ Kd.R (Kd.int .i64) 3 w' w.heap.size (fun _ => True) v0_ r ∧ Below w.heap.size w w' := by
  have hu30 := Try.underlying30
  have HR0_2 := Aside0.mk hr0_2
  have HC0_2 := Aside0.mk hc0_2
  clear hr0_2 hc0_2
  have HB := Aside0.mk (Below.refl w.heap.size w)
  have H := h
  clear h
  unfold impl_bitsOf.f at H
  generalize hy324 : ((([] : List Int)) : List Int) = y324 at H
  have Ny324 := Aside0.mk hy324.symm; clear hy324
  replace H := bindA H; obtain ⟨t327, A2, H⟩ := H
  have H' := Aside0.mk H
  clear H
  go_enter Try.func52, Try.ntmps52
  go_wp2_with (first | ((with_reducible refine gate_dst (N := 1) rfl ?_); refine boxE (N := 1) (cs := #[.int .i64 a0_0, .int .i64 a0_1, .slice A0_2 l0_2.length c0_2]) (t := 30) ?_; intro gb323 hg w3 hbox hb; refine E4b HB.out hg hbox hb ?_; clear HB; intro HB BK323 GW323 GE323; clear hb hbox hg) | ((with_reducible refine gate_dst (N := 6) rfl ?_); refine Kd.R_lit (Kd.int .i64) _ 3 ?hg (N := 6) ?hd (xs := ([] : List Int)) (inner := []) (ok := fun _ => True) (okp := fun _ => True) ?hr ?hp (fun _ hk => hk) trivial (Below.refl _ _) (Nat.le_refl _) (by simp) ?_; (case hd => rfl); (case hg => rfl); (case hr => first | (go_simp; done) | (go_simp; rfl)); (case hp => exact (Reps.none _ _)); intro v325 w4 ho5 hb hg_ hnew_; clear hg_ hnew_; (first | rw [← Ny324.out] at ho5 | (simp only [Int.reduceToNat] at ho5; rw [← Ny324.out] at ho5)); refine E3 (Kd.R_lower ho5 (below_size (BL HB.out))) (bB BK323.out hb) (below_step (BL HB.out) hb) ?_; clear BK323 HB; intro HO326 BK323 HB; clear hb ho5; obtain ⟨hcz6_0, hcz6_1, hcz6_2, hfz6_0, hfz6_1, hfz6_2⟩ := cz3 BK323.out) | ((with_reducible refine gate_callee (f := 62) rfl ?_); refine goesM (N := (some 8)) #[.agg #[.int .i64 a0_0, .int .i64 a0_1, .slice A0_2 l0_2.length c0_2]] Try.func62 ?_; (with_reducible refine (impl_unitsOf.calls k a0_0 a0_1 _ _ l0_2 t327 _ ?side1 ?side2 A2.out).mono ?_); (case side1 => exact CB (Kd.C_below HR0_2.out HB.out)); (case side2 => exact HC0_2.out); rintro e w7 ⟨v328, rfl, ho0, hb⟩; refine ⟨_, rfl, ?_⟩; refine E4 (Kd.R_below (PR HO326.out) hb) (Kd.S_lower (Kd.S_new' ho0 (Kd.R_lt (PR HO326.out))) (below_size (BL HB.out))) (bB BK323.out hb) (below_step (BL HB.out) hb) ?_; clear HO326 BK323 HB; intro HO326 HO329 BK323 HB; (try clear hb); (try clear hb2); (try clear hk); (try clear hi); (try clear ho0); obtain ⟨Ao8, co8, eo8⟩ := Kd.S_slice HO329.out; subst eo8))
  go_loopg [3, 10] k (fun kq v3 v10 w' => ∃ (x3_1 : List Int) (x10_1 : Int), v10 = .int .i64 x10_1 ∧ Aside0 (impl_bitsOf.l0 kq x3_1 t327 (t327.length : Int) x10_1 a0_0 a0_1 l0_2 = some r) ∧ Aside0 (kq ≤ k) ∧ Aside0 (Kd.R (Kd.int .i64) 3 w' w.heap.size (fun _ => True) v3 x3_1) ∧ Aside0 (Kd.S (Kd.slice 3 (Kd.int .i64)) 36 w' w.heap.size (fun k_ => some k_ ≠ (v3 : Value).ownBlock) (.slice Ao8 t327.length co8) t327) ∧ Aside0 (w'.heap[gb323]? = some (.cells #[.int .i64 a0_0, .int .i64 a0_1, (.slice A0_2 l0_2.length c0_2)] 30 (0, 0))) ∧ Aside0 (Below w.heap.size w w'))
  case atStart => exact ⟨(y324), (0), RG, H', ⟨Nat.le_refl _⟩, ⟨PR HO326.out⟩, ⟨by (with_reducible repeat (first | apply Kd.S_alloc | apply Kd.S_drewN | apply Kd.S_drew)); exact Kd.S_mono HO329.out (fun _ hk => hk.2)⟩, ⟨PB BK323.out⟩, ⟨BL HB.out⟩⟩
  clear H'
  try clear hcz6_0; try clear hcz6_1; try clear hcz6_2; try clear hfz6_0; try clear hfz6_1; try clear hfz6_2
  obtain ⟨x3_1, x10_1, rfl, HA, HK1, HO_3, HO_8, BK323, HB⟩ := hrel
  cases gk with
  | zero => exact absurd HA.out (by simp [impl_bitsOf.l0])
  | succ k1 => ?_
  have H := HA.out
  clear HA
  simp only [impl_bitsOf.l0] at H
  replace H := ifB H; rcases H with ⟨c9b0, H⟩ | ⟨c9b0, H⟩
  · replace H := ifN H; obtain ⟨c10b0, H⟩ := H
    replace H := ifN H; obtain ⟨c11b0, H⟩ := H
    replace H := ifP H; obtain ⟨c12, H⟩ := H
    have c12b0 := decide_eq_true c12
    have c12b1 : decide (0 < (rd_L3 t327 x10_1).length) = true := decide_eq_true (by omega)
    clear c12
    replace H := ifN H; obtain ⟨c13b0, H⟩ := H
    replace H := ifN H; obtain ⟨c14b0, H⟩ := H
    replace H := ifP H; obtain ⟨c15, H⟩ := H
    have LMc15 := Aside0.mk c15
    clear c15
    generalize hy333 : ((x3_1 ++ [(rd_T73 l0_2 (rd (rd_L3 t327 x10_1) 0)).f1]) : List Int) = y333 at H
    have Ny333 := Aside0.mk hy333.symm; clear hy333
    have H' := Aside0.mk H
    clear H
    have p330 : 0 ≤ (x10_1 : Int) := OD
    have q330 : x10_1 < (t327.length : Int) := OD
    obtain ⟨ad330, A330_0, c330_0, e330, hx330_0, hl330_0, hi330_0⟩ := at_L3 (Kd.S_reads' HO_8.out).2.2 x10_1 p330 q330
    cases e330
    obtain ⟨ce330, hce330, hMe330, hcc330⟩ := Kd.S_get HO_8.out [] x10_1 p330 (by first | exact q330 | exact OD | (have e_ := (Kd.S_reads' HO_8.out).1; omega))
    obtain ⟨ve330_0, rfl, ge330_0⟩ := hMe330
    have hv330_0 := hcc330 0 _ rfl
    rw [Nat.add_zero, show ((Kd.slice 3 (Kd.int .i64))).sz = 1 from rfl, Nat.mul_one] at hv330_0
    replace hv330_0 := Option.some.inj (hv330_0.symm.trans hx330_0)
    rw [hv330_0] at ge330_0
    have HL330_0 := Aside0.mk (show Kd.R (Kd.int .i64) 3 _ _ _ _ (rd_L3 t327 x10_1) from ge330_0)
    clear hv330_0 ge330_0
    clear hcc330 hce330
    have HR330_0 := Aside0.mk hi330_0
    have HC330_0 := Aside0.mk hl330_0
    clear hi330_0 hl330_0
    replace p330 := eq_true p330
    replace q330 := eq_true q330
    try go_wp2
    refine E6 (Kd.R_drew HO_3.out) (Kd.S_drew HO_8.out) (Kd.R_drew HL330_0.out) (blk_drew BK323.out) (Kd.C_drew HR330_0.out) (below_drew1 HB.out) ?_
    clear HO_3 HO_8 HL330_0 BK323 HR330_0 HB
    intro HO_3 HO_8 HL330_0 BK323 HR330_0 HB
    have p331 : 0 ≤ (0 : Int) := (by omega)
    have q331 : 0 < ((rd_L3 t327 x10_1).length : Int) := OD
    obtain ⟨ad331, e331, hx331_0⟩ := Kd.at_int (by repeat (first | (with_reducible exact HR330_0.out) | (with_reducible refine Kd.C_alloc ?_ _) | (with_reducible refine Kd.C_drewN ?_ _) | (with_reducible refine Kd.C_drew ?_) | exact HR330_0.out)) 0 p331 q331
    cases e331
    have qi331 : (0 < (rd_L3 t327 x10_1).length) = True := eq_true (by omega)
    (try rw [show ((0 : Int)).toNat = 0 from rfl] at hx331_0)
    (try rw [Addr.add_zero'] at hx331_0)
    replace p331 := eq_true p331
    replace q331 := eq_true q331
    have p332 : 0 ≤ ((rd (rd_L3 t327 x10_1) 0) : Int) := OD
    have q332 : (rd (rd_L3 t327 x10_1) 0) < (l0_2.length : Int) := OD
    obtain ⟨ad332, e332, hx332_0, hx332_1⟩ := at_T73 HR0_2.out (rd (rd_L3 t327 x10_1) 0) p332 q332
    have hw332_1 := hx332_1
    have hw332_0 := hx332_0
    cases e332
    replace hx332_0 := (HB.out.cell (World.block_lt_of_cell? w _ hx332_0)).trans hx332_0
    replace hx332_1 := (HB.out.cell (World.block_lt_of_cell? w _ hx332_1)).trans hx332_1
    replace p332 := eq_true p332
    replace q332 := eq_true q332
    refine start_ (n := 12) (S := fun w' => w'.cell? ⟨gb323, 0, none⟩ = some (.int .i64 a0_0) ∧ w'.cell? ⟨gb323, 1, none⟩ = some (.int .i64 a0_1) ∧ w'.cell? ⟨gb323, 2, none⟩ = some (.slice (some ad332) l0_2.length c0_2) ∧ w'.cell? ad331 = some (.int .i64 (rd (rd_L3 t327 x10_1) 0)) ∧ w'.cell? (ad332.add (((rd (rd_L3 t327 x10_1) 0)).toNat * 2)) = some (.int .i64 ((rd_T73 l0_2 (rd (rd_L3 t327 x10_1) 0)).f0)) ∧ w'.cell? ⟨(ad332.add (((rd (rd_L3 t327 x10_1) 0)).toNat * 2)).block, (ad332.add (((rd (rd_L3 t327 x10_1) 0)).toNat * 2)).off + 1, none⟩ = some (.int .i64 ((rd_T73 l0_2 (rd (rd_L3 t327 x10_1) 0)).f1))) (ds := [9, 10]) #[false, false, false, false, false, false, false, false, false, false, false, false] (by kernel_rfl) rfl rfl ⟨(blk_cell BK323.out 0).trans rfl, (blk_cell BK323.out 1).trans rfl, (blk_cell BK323.out 2).trans rfl, hx331_0, ((HB.out.cell (World.block_lt_of_cell? w _ hw332_0)).trans hw332_0), ((HB.out.cell (World.block_lt_of_cell? w _ hw332_1)).trans hw332_1)⟩ (fun hHeld => ?_); refine with_tabW impl_bitsOf.tab5 impl_bitsOf.bits5 (fun HT_ HW_ => ?_)
    generalize wr.drew = w16 at HO_3 HO_8 HL330_0 BK323 HR330_0 HB hx331_0 hx332_0 hx332_1 hHeld ⊢
    refine pureE (i := 0) (N := some 14) #[true, false, false, false, false, false, false, false, false, false, false, false] HT_.out ?_
    refine pureE (i := 1) (N := some 15) #[true, true, false, false, false, false, false, false, false, false, false, false] HT_.out ?_
    refine pureE (i := 3) (N := some 17) #[true, true, false, true, false, false, false, false, false, false, false, false] HT_.out ?_
    refine pureE (i := 4) (N := some 18) #[true, true, false, true, true, false, false, false, false, false, false, false] HT_.out ?_
    refine take_ (i := 2) (N := some 16) (v := ?_) (a' := ?_) #[true, true, true, true, true, false, false, false, false, false, false, false] rfl rfl (take_ofW HT_.out HW_.out (by kernel_rfl)) (fun _ _ _ h => h) (Or.inl ⟨by rfl, ?_⟩) hHeld ?_ ?_
    rotate_left
    · rintro w' ⟨s0, s1, s2, s3, s4, s5⟩
      go_simp
      with_reducible rfl
    rotate_left
    · simp only [Act.put, List.setIfInBounds_toArray, List.set_cons_zero, List.set_cons_succ, i64_w, i32_w]
      rfl
    refine take_ (i := 5) (N := some 19) (v := ?_) (a' := ?_) #[true, true, true, true, true, true, false, false, false, false, false, false] rfl rfl (take_ofW HT_.out HW_.out (by kernel_rfl)) (fun _ _ _ h => h) (Or.inl ⟨by rfl, ?_⟩) hHeld ?_ ?_
    rotate_left
    · rintro w' ⟨s0, s1, s2, s3, s4, s5⟩
      go_simp
      with_reducible rfl
    rotate_left
    · simp only [Act.put, List.setIfInBounds_toArray, List.set_cons_zero, List.set_cons_succ, i64_w, i32_w]
      rfl
    refine pureE (i := 6) (N := some 20) #[true, true, true, true, true, true, true, false, false, false, false, false] HT_.out ?_
    refine pureE (i := 7) (N := some 21) #[true, true, true, true, true, true, true, true, false, false, false, false] HT_.out ?_
    refine take_ (i := 8) (N := some 22) (v := ?_) (a' := ?_) #[true, true, true, true, true, true, true, true, true, false, false, false] rfl rfl (take_ofW HT_.out HW_.out (by kernel_rfl)) (fun _ _ _ h => h) (Or.inl ⟨by rfl, ?_⟩) hHeld ?_ ?_
    rotate_left
    · rintro w' ⟨s0, s1, s2, s3, s4, s5⟩
      go_simp
      with_reducible rfl
    rotate_left
    · simp only [Act.put, List.setIfInBounds_toArray, List.set_cons_zero, List.set_cons_succ, i64_w, i32_w]
      rfl
    refine last_ (i := 9) (N := some 23) #[true, true, true, true, true, true, true, true, true, true, false, false] rfl rfl (one_of HT_.out (by kernel_rfl)) (by decide) (fun K hK => ?_)
    refine value_ (w1 := ?_) (v := ?_) (by rfl) rfl ?_ ?_
    rotate_left 2
    · go_simp
      constructor
      · rfl
      rfl
    refine hK.out _ _ ?_
    clear hK K
    refine norm_ (a' := ?_) ?_ ?_
    rotate_left
    · show Act.put _ (some 23) _ = _
      simp only [Act.put, List.setIfInBounds_toArray, List.set_cons_zero, List.set_cons_succ, i64_w, i32_w]
      rfl
    refine last_ (i := 10) (N := some 24) #[true, true, true, true, true, true, true, true, true, true, true, false] rfl rfl (one_of HT_.out (by kernel_rfl)) (by decide) (fun K hK => ?_)
    refine Kd.R_append_step (Kd.int .i64) (w0 := w) w.heap.size (by rfl) (.tmp 14) (.tmp 23) 36 3 (.int .i64 0) 8 rfl Try.underlying36 info3 rfl (by decide) (by omega) u3 x3_1 ((rd_T73 l0_2 (rd (rd_L3 t327 x10_1) 0)).f1) [.int .i64 ((rd_T73 l0_2 (rd (rd_L3 t327 x10_1) 0)).f1)] (fun _ => True) (fun _ => False) rfl rfl ?aP (fun _ hk => hk.elim) ?aF ?aO ?aB ?aS ?aL ?_
    (case aP => exact rfl)
    (case aB => exact (BL HB.out))
    (case aF => exact (fun _ _ => trivial))
    (case aO => exact (PR HO_3.out))
    (case aS => exact (below_size (BL HB.out)))
    (case aL => have := LMc15.out; omega)
    intro v334 w17 ho hb hg hat
    rw [← Ny333.out] at ho
    refine E5 (Kd.S_after (ok := (fun _ => True)) (by (with_reducible repeat (first | apply Kd.S_alloc | apply Kd.S_drewN | apply Kd.S_drew)); exact Kd.S_mono HO_8.out (fun _ hk => ⟨trivial, hk⟩)) hg hat) (bG BK323.out hg (Kd.R_ne HO_3.out BK323.out (by decide))) (Kd.R_after (ok := (fun k_ => some k_ ≠ (.slice (some ad330) t327.length co8 : Value).ownBlock)) (by (with_reducible repeat (first | apply Kd.R_alloc | apply Kd.R_drewN | apply Kd.R_drew)); exact Kd.R_mono HL330_0.out (fun _ hk => ⟨hk.2, hk.1⟩)) hg hat) (hb) (ho) ?_
    clear HO_8 BK323 HL330_0 HB HO_3
    intro HO_8 BK323 HL330_0 HB HO335
    clear ho hb hg hat
    refine hK.out _ _ ?_
    clear hK K
    refine norm_ (a' := ?_) ?_ ?_
    rotate_left
    · show Act.put _ (some 24) _ = _
      simp only [Act.put, List.setIfInBounds_toArray, List.set_cons_zero, List.set_cons_succ, i64_w, i32_w]
      rfl
    refine pureE (i := 11) (N := some 3) #[true, true, true, true, true, true, true, true, true, true, true, true] HT_.out ?_
    refine done_ (done_of HT_.out (by kernel_rfl)) ?_
    try go_wp2
    go_roundg k1
    case measure => have := HK1.out; omega
    case rel => exact ⟨(y333), (wrap64 (x10_1 + 1)), RG, H', ⟨by have := HK1.out; omega⟩, ⟨PR HO335.out⟩, ⟨by (with_reducible repeat (first | apply Kd.S_alloc | apply Kd.S_drewN | apply Kd.S_drew)); exact Kd.S_mono HO_8.out (fun _ hk => hk.2)⟩, ⟨PB BK323.out⟩, ⟨BL HB.out⟩⟩
  obtain rfl := Option.some.inj H
  go_wp2
  go_ret
  exact ⟨_, RF, by (with_reducible repeat (first | apply Kd.R_alloc | apply Kd.R_drewN | apply Kd.R_drew)); exact HO_3.out, BL HB.out⟩
end Go.Proofs.Ytakihdabbpconaa.P
