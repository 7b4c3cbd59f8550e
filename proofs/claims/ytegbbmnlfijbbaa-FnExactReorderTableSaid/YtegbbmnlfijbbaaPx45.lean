-- PRINTED by print.py (a twelfth state) out of the translation. Not trusted: Lean checks it.
import Derived.Test.YtegbbmnlfijbbaaPx0
import Derived.Test.YtegbbmnlfijbbaaPx3
import Derived.Test.YtegbbmnlfijbbaaPx4
import Derived.Test.YtegbbmnlfijbbaaPx5
import Derived.Test.YtegbbmnlfijbbaaPx7
import Derived.Test.YtegbbmnlfijbbaaPx10
import Derived.Test.YtegbbmnlfijbbaaPx43
import Derived.Test.YtegbbmnlfijbbaaPx44
namespace Go.Proofs.Ytegbbmnlfijbbaa.P
open Go.RowKit Go.Proofs.YtegbbmnlfijbbaaW.PrintWords Go.Proofs.YtegbbmnlfijbbaaW.PrintLast Go.Proofs.YtegbbmnlfijbbaaW.PrintMore
attribute [local go_sem] max2_int min2_int max_two min_two max_three min_three max_four min_four   -- for this text's walks alone
set_option linter.unusedVariables false
set_option linter.unusedSimpArgs false

/-! ### laws_FnExactReorderTable: function 9 -/
mutual
def laws_FnExactReorderTable.j0 : Nat → List Int → Bool → List Int → Bool → Bool → Int → List Int → Int → List Int → Int → List Int → Int → List Int → Option (Bool)
  | 0, _, _, _, _, _, _, _, _, _, _, _, _, _ => none
  | k + 1, x1, x7, x9, x11, x51, x632000, x632001, x646000, x646001, x651000, x651001, x660000, x660001 => if x51 = true then (some false) else ((laws_toTable.f k x632000 x632001).bind fun bt661 => ((laws_eqTable.f k x651000 x651001 bt661.1 bt661.2).bind fun t665 => (if t665 = true then ((laws_toIntS.f k x1).bind fun t666 => ((laws_eqIntS.f k x9 t666).bind fun t669 => (if t669 = true then ((laws_markTable.f k x651000 x651001 1).bind fun bt670 => ((laws_markIntS.f k x9 bt670.1).bind fun bt672 => (if bt672.1 < 0 then (laws_FnExactReorderTable.j1 k x1 x7 true x632000 x632001 x646000 x646001 x660000 x660001) else ((laws_eqTable.f k x660000 x660001 x646000 x646001).bind fun t674 => (if t674 = true then (laws_FnExactReorderTable.j1 k x1 x7 (x11 != x7) x632000 x632001 x646000 x646001 x660000 x660001) else (laws_FnExactReorderTable.j1 k x1 x7 true x632000 x632001 x646000 x646001 x660000 x660001)))))) else (some false)))) else (some false))))
def laws_FnExactReorderTable.j1 : Nat → List Int → Bool → Bool → Int → List Int → Int → List Int → Int → List Int → Option (Bool)
  | 0, _, _, _, _, _, _, _, _, _ => none
  | k + 1, x1, x7, x80, x632000, x632001, x646000, x646001, x660000, x660001 => if x80 = true then (some false) else ((laws_markTable.f k x660000 x660001 1).bind fun bt675 => ((laws_heldTable.f k x660000 bt675.2 1).bind fun t677 => (if t677 < 0 then (some false) else (if t677 = bt675.1 then ((laws_toTable.f k x632000 x632001).bind fun bt678 => ((laws_toIntS.f k x1).bind fun t682 => ((impl_ReorderTable.f k bt678.1 bt678.2 t682).bind fun bt685 => ((laws_eqTable.f k bt685.1 bt685.2.1 x646000 x646001).bind fun t691 => (if t691 = true then (laws_FnExactReorderTable.j2 k bt675.1 (bt685.2.2 != x7) x660000 bt675.2) else (laws_FnExactReorderTable.j2 k bt675.1 true x660000 bt675.2)))))) else (some false)))))
def laws_FnExactReorderTable.j2 : Nat → Int → Bool → Int → List Int → Option (Bool)
  | 0, _, _, _, _ => none
  | k + 1, x13, x108, x660000, x660001 => if x108 = true then (some false) else ((laws_heldTable.f k x660000 x660001 1).bind fun t692 => (if t692 < 0 then (some false) else (if t692 = x13 then (some true) else (some false))))
end
def laws_FnExactReorderTable.f (k : Nat) (a0_0 : Int) (l0_1 : List Int) (l1 : List Int) : Option (Bool) := if (l1.length : Int) > 1048576 then (some true) else ((laws_szTable.f a0_0 l0_1 1048576).bind fun t632 => (if t632 < 0 then (some true) else ((laws_toTable.f k a0_0 l0_1).bind fun bt633 => ((laws_toIntS.f k l1).bind fun t637 => ((spec_ReorderTable.f k bt633.1 bt633.2 t637).bind fun bt640 => ((laws_toTable.f k a0_0 l0_1).bind fun bt646 => ((laws_toIntS.f k l1).bind fun t651 => ((impl_ReorderTable.f k bt646.1 bt646.2 t651).bind fun bt654 => ((laws_eqTable.f k bt654.1 bt654.2.1 bt640.1 bt640.2.1).bind fun t660 => (if t660 = true then (laws_FnExactReorderTable.j0 k l1 bt640.2.2 t651 bt654.2.2 (bt654.2.2 != bt640.2.2) a0_0 l0_1 bt640.1 bt640.2.1 bt646.1 bt646.2 bt654.1 bt654.2.1) else (laws_FnExactReorderTable.j0 k l1 bt640.2.2 t651 bt654.2.2 true a0_0 l0_1 bt640.1 bt640.2.1 bt646.1 bt646.2 bt654.1 bt654.2.1)))))))))))
theorem laws_FnExactReorderTable.mono_l : ∀ k, (∀ y0 y1 y2 y3 y4 y5 y6 y7 y8 y9 y10 y11 y12, LeO (laws_FnExactReorderTable.j0 k y0 y1 y2 y3 y4 y5 y6 y7 y8 y9 y10 y11 y12) (laws_FnExactReorderTable.j0 (k + 1) y0 y1 y2 y3 y4 y5 y6 y7 y8 y9 y10 y11 y12)) ∧ (∀ y0 y1 y2 y3 y4 y5 y6 y7 y8, LeO (laws_FnExactReorderTable.j1 k y0 y1 y2 y3 y4 y5 y6 y7 y8) (laws_FnExactReorderTable.j1 (k + 1) y0 y1 y2 y3 y4 y5 y6 y7 y8)) ∧ (∀ y0 y1 y2 y3, LeO (laws_FnExactReorderTable.j2 k y0 y1 y2 y3) (laws_FnExactReorderTable.j2 (k + 1) y0 y1 y2 y3))
  | 0 => ⟨fun _ _ _ _ _ _ _ _ _ _ _ _ _ r h => by simp [laws_FnExactReorderTable.j0] at h, fun _ _ _ _ _ _ _ _ _ r h => by simp [laws_FnExactReorderTable.j1] at h, fun _ _ _ _ r h => by simp [laws_FnExactReorderTable.j2] at h⟩
  | k + 1 => by
    obtain ⟨ih0, ih1, ih2⟩ := laws_FnExactReorderTable.mono_l k
    refine ⟨?_, ?_, ?_⟩
    · intro y0 y1 y2 y3 y4 y5 y6 y7 y8 y9 y10 y11 y12
      unfold laws_FnExactReorderTable.j0
      repeat' first
      | (with_reducible exact ih0 _ _ _ _ _ _ _ _ _ _ _ _ _)
      | (with_reducible exact ih1 _ _ _ _ _ _ _ _ _)
      | (with_reducible exact ih2 _ _ _ _)
      | (with_reducible exact impl_ReorderTable.mono _ _ _ _)
      | (with_reducible exact laws_eqIntS.mono _ _ _)
      | (with_reducible exact laws_eqTable.mono _ _ _ _ _)
      | (with_reducible exact laws_heldTable.mono _ _ _ _)
      | (with_reducible exact laws_markIntS.mono _ _ _)
      | (with_reducible exact laws_markTable.mono _ _ _ _)
      | (with_reducible exact laws_toIntS.mono _ _)
      | (with_reducible exact laws_toTable.mono _ _ _)
      | (with_reducible exact spec_ReorderTable.mono _ _ _ _)
      | (with_reducible exact LeO.refl _)
      | (with_reducible exact LeO.none _)
      | (with_reducible refine LeO.ite ?_ ?_)
      | (with_reducible refine LeO.bind ?_ (fun _ => ?_))
      | exact ih0 _ _ _ _ _ _ _ _ _ _ _ _ _
      | exact ih1 _ _ _ _ _ _ _ _ _
      | exact ih2 _ _ _ _
      | exact impl_ReorderTable.mono _ _ _ _
      | exact laws_eqIntS.mono _ _ _
      | exact laws_eqTable.mono _ _ _ _ _
      | exact laws_heldTable.mono _ _ _ _
      | exact laws_markIntS.mono _ _ _
      | exact laws_markTable.mono _ _ _ _
      | exact laws_toIntS.mono _ _
      | exact laws_toTable.mono _ _ _
      | exact spec_ReorderTable.mono _ _ _ _
      | exact LeO.none _
      | refine LeO.ite ?_ ?_
      | refine LeO.bind ?_ (fun _ => ?_)
    · intro y0 y1 y2 y3 y4 y5 y6 y7 y8
      unfold laws_FnExactReorderTable.j1
      repeat' first
      | (with_reducible exact ih0 _ _ _ _ _ _ _ _ _ _ _ _ _)
      | (with_reducible exact ih1 _ _ _ _ _ _ _ _ _)
      | (with_reducible exact ih2 _ _ _ _)
      | (with_reducible exact impl_ReorderTable.mono _ _ _ _)
      | (with_reducible exact laws_eqIntS.mono _ _ _)
      | (with_reducible exact laws_eqTable.mono _ _ _ _ _)
      | (with_reducible exact laws_heldTable.mono _ _ _ _)
      | (with_reducible exact laws_markIntS.mono _ _ _)
      | (with_reducible exact laws_markTable.mono _ _ _ _)
      | (with_reducible exact laws_toIntS.mono _ _)
      | (with_reducible exact laws_toTable.mono _ _ _)
      | (with_reducible exact spec_ReorderTable.mono _ _ _ _)
      | (with_reducible exact LeO.refl _)
      | (with_reducible exact LeO.none _)
      | (with_reducible refine LeO.ite ?_ ?_)
      | (with_reducible refine LeO.bind ?_ (fun _ => ?_))
      | exact ih0 _ _ _ _ _ _ _ _ _ _ _ _ _
      | exact ih1 _ _ _ _ _ _ _ _ _
      | exact ih2 _ _ _ _
      | exact impl_ReorderTable.mono _ _ _ _
      | exact laws_eqIntS.mono _ _ _
      | exact laws_eqTable.mono _ _ _ _ _
      | exact laws_heldTable.mono _ _ _ _
      | exact laws_markIntS.mono _ _ _
      | exact laws_markTable.mono _ _ _ _
      | exact laws_toIntS.mono _ _
      | exact laws_toTable.mono _ _ _
      | exact spec_ReorderTable.mono _ _ _ _
      | exact LeO.none _
      | refine LeO.ite ?_ ?_
      | refine LeO.bind ?_ (fun _ => ?_)
    · intro y0 y1 y2 y3
      unfold laws_FnExactReorderTable.j2
      repeat' first
      | (with_reducible exact ih0 _ _ _ _ _ _ _ _ _ _ _ _ _)
      | (with_reducible exact ih1 _ _ _ _ _ _ _ _ _)
      | (with_reducible exact ih2 _ _ _ _)
      | (with_reducible exact impl_ReorderTable.mono _ _ _ _)
      | (with_reducible exact laws_eqIntS.mono _ _ _)
      | (with_reducible exact laws_eqTable.mono _ _ _ _ _)
      | (with_reducible exact laws_heldTable.mono _ _ _ _)
      | (with_reducible exact laws_markIntS.mono _ _ _)
      | (with_reducible exact laws_markTable.mono _ _ _ _)
      | (with_reducible exact laws_toIntS.mono _ _)
      | (with_reducible exact laws_toTable.mono _ _ _)
      | (with_reducible exact spec_ReorderTable.mono _ _ _ _)
      | (with_reducible exact LeO.refl _)
      | (with_reducible exact LeO.none _)
      | (with_reducible refine LeO.ite ?_ ?_)
      | (with_reducible refine LeO.bind ?_ (fun _ => ?_))
      | exact ih0 _ _ _ _ _ _ _ _ _ _ _ _ _
      | exact ih1 _ _ _ _ _ _ _ _ _
      | exact ih2 _ _ _ _
      | exact impl_ReorderTable.mono _ _ _ _
      | exact laws_eqIntS.mono _ _ _
      | exact laws_eqTable.mono _ _ _ _ _
      | exact laws_heldTable.mono _ _ _ _
      | exact laws_markIntS.mono _ _ _
      | exact laws_markTable.mono _ _ _ _
      | exact laws_toIntS.mono _ _
      | exact laws_toTable.mono _ _ _
      | exact spec_ReorderTable.mono _ _ _ _
      | exact LeO.none _
      | refine LeO.ite ?_ ?_
      | refine LeO.bind ?_ (fun _ => ?_)
theorem laws_FnExactReorderTable.mono : ∀ a0 a1 a2 k, LeO (laws_FnExactReorderTable.f k a0 a1 a2) (laws_FnExactReorderTable.f (k + 1) a0 a1 a2) := by
  intro a0 a1 a2 k
  obtain ⟨ih0, ih1, ih2⟩ := laws_FnExactReorderTable.mono_l k
  unfold laws_FnExactReorderTable.f
  repeat' first
      | (with_reducible exact ih0 _ _ _ _ _ _ _ _ _ _ _ _ _)
      | (with_reducible exact ih1 _ _ _ _ _ _ _ _ _)
      | (with_reducible exact ih2 _ _ _ _)
      | (with_reducible exact impl_ReorderTable.mono _ _ _ _)
      | (with_reducible exact laws_eqIntS.mono _ _ _)
      | (with_reducible exact laws_eqTable.mono _ _ _ _ _)
      | (with_reducible exact laws_heldTable.mono _ _ _ _)
      | (with_reducible exact laws_markIntS.mono _ _ _)
      | (with_reducible exact laws_markTable.mono _ _ _ _)
      | (with_reducible exact laws_toIntS.mono _ _)
      | (with_reducible exact laws_toTable.mono _ _ _)
      | (with_reducible exact spec_ReorderTable.mono _ _ _ _)
      | (with_reducible exact LeO.refl _)
      | (with_reducible exact LeO.none _)
      | (with_reducible refine LeO.ite ?_ ?_)
      | (with_reducible refine LeO.bind ?_ (fun _ => ?_))
      | exact ih0 _ _ _ _ _ _ _ _ _ _ _ _ _
      | exact ih1 _ _ _ _ _ _ _ _ _
      | exact ih2 _ _ _ _
      | exact impl_ReorderTable.mono _ _ _ _
      | exact laws_eqIntS.mono _ _ _
      | exact laws_eqTable.mono _ _ _ _ _
      | exact laws_heldTable.mono _ _ _ _
      | exact laws_markIntS.mono _ _ _
      | exact laws_markTable.mono _ _ _ _
      | exact laws_toIntS.mono _ _
      | exact laws_toTable.mono _ _ _
      | exact spec_ReorderTable.mono _ _ _ _
      | exact LeO.none _
      | refine LeO.ite ?_ ?_
      | refine LeO.bind ?_ (fun _ => ?_)
set_option maxHeartbeats 8000000 in
set_option maxRecDepth 100000 in
theorem laws_FnExactReorderTable.calls (k : Nat) (a0_0 : Int) (A0_1 : Option Addr) (c0_1 : Nat) (l0_1 : List Int) (A1 : Option Addr) (c1 : Nat) (l1 : List Int) (w : World) (hr0_1 : Kd.C (Kd.int .i64) w A0_1 l0_1.length l0_1) (hc0_1 : l0_1.length ≤ c0_1) (hr1 : Kd.C (Kd.int .i64) w A1 l1.length l1) (hc1 : l1.length ≤ c1) (h : laws_FnExactReorderTable.f k a0_0 l0_1 l1 = some true) :
    Calls Try.prog 9 #[.agg #[.int .i64 a0_0, .slice A0_1 l0_1.length c0_1], .slice A1 l1.length c1] w fun e w' => e = .returned (.bool true) ∧ Below w.heap.size w w' := by
  have hu41 := Try.underlying41
  have hu24 := Try.underlying24
  have HR0_1 := Aside0.mk hr0_1
  have HC0_1 := Aside0.mk hc0_1
  clear hr0_1 hc0_1
  have HR1 := Aside0.mk hr1
  have HC1 := Aside0.mk hc1
  clear hr1 hc1
  have HB := Aside0.mk (Below.refl w.heap.size w)
  have H : (if (l1.length : Int) > 1048576 then (some true) else ((laws_szTable.f a0_0 l0_1 1048576).bind fun t632 => (if t632 < 0 then (some true) else ((laws_toTable.f k a0_0 l0_1).bind fun bt633 => ((laws_toIntS.f k l1).bind fun t637 => ((spec_ReorderTable.f k bt633.1 bt633.2 t637).bind fun bt640 => ((laws_toTable.f k a0_0 l0_1).bind fun bt646 => ((laws_toIntS.f k l1).bind fun t651 => ((impl_ReorderTable.f k bt646.1 bt646.2 t651).bind fun bt654 => ((laws_eqTable.f k bt654.1 bt654.2.1 bt640.1 bt640.2.1).bind fun t660 => (if t660 = true then (laws_FnExactReorderTable.j0 k l1 bt640.2.2 t651 bt654.2.2 (bt654.2.2 != bt640.2.2) a0_0 l0_1 bt640.1 bt640.2.1 bt646.1 bt646.2 bt654.1 bt654.2.1) else (laws_FnExactReorderTable.j0 k l1 bt640.2.2 t651 bt654.2.2 true a0_0 l0_1 bt640.1 bt640.2.1 bt646.1 bt646.2 bt654.1 bt654.2.1)))))))))))) = some true := h
  clear h
  by_cases c3 : (l1.length : Int) > 1048576
  · rw [if_pos c3] at H
    have c3b0 : decide (1048576 < (l1.length : Int)) = true := decide_eq_true c3
    have c3b1 : decide (1048576 < l1.length) = true := decide_eq_true (by omega)
    clear c3
    first | (obtain rfl := Option.some.inj H) | clear H
    go_enter Try.func9, Try.ntmps9
    go_wp2_with (first | ((with_reducible refine gate_dst (N := 2) rfl ?_); refine box_event ?hg (N := 2) ?hd (cs := #[.int .i64 a0_0, .slice A0_1 l0_1.length c0_1]) (t := 41) ?hr ?_; (case hd => rfl); (case hg => rfl); (case hr => first | (go_simp; done) | (go_simp; rfl)); intro gb631 hg w4 hbox hb; have n0_ := Aside0.mk (below_step (by repeat (first | (with_reducible first | exact HB.out | apply below_alloc | apply pw_below_drewN | apply below_drew1) | exact HB.out)) hb); have n1_ := Aside0.mk (hbox); have n2_ := Aside0.mk ((by rw [hg]; exact (below_size (by repeat (first | (with_reducible first | exact HB.out | apply below_alloc | apply pw_below_drewN | apply below_drew1) | exact HB.out))) : w.heap.size ≤ gb631)); have n3_ := Aside0.mk ((by rw [hg]; exact (below_size (by repeat (first | (with_reducible first | exact HB.out | apply below_alloc | apply pw_below_drewN | apply below_drew1) | exact HB.out))) : w.heap.size ≤ gb631)); clear HB; have HB := n0_; have BK631 := n1_; have GW631 := n2_; have GE631 := n3_; clear n0_ n1_ n2_ n3_; clear hb hbox hg))
    go_ret
    exact ⟨by first | rfl | (simp [errW_none, errW_some] <;> rfl) | (simp [*, errW_none, errW_some] <;> rfl), by repeat (first | (with_reducible first | exact HB.out | apply below_alloc | apply pw_below_drewN | apply below_drew1 | refine below_set ?_ GE631.out) | exact HB.out)⟩
  · rw [if_neg c3] at H
    have c3b0 : decide (1048576 < (l1.length : Int)) = false := decide_eq_false c3
    have c3b1 : decide (1048576 < l1.length) = false := decide_eq_false (by omega)
    clear c3
    replace H := Option.bind_eq_some_iff.mp H
    obtain ⟨t632, A50, H⟩ := H
    replace H : (if t632 < 0 then (some true) else ((laws_toTable.f k a0_0 l0_1).bind fun bt633 => ((laws_toIntS.f k l1).bind fun t637 => ((spec_ReorderTable.f k bt633.1 bt633.2 t637).bind fun bt640 => ((laws_toTable.f k a0_0 l0_1).bind fun bt646 => ((laws_toIntS.f k l1).bind fun t651 => ((impl_ReorderTable.f k bt646.1 bt646.2 t651).bind fun bt654 => ((laws_eqTable.f k bt654.1 bt654.2.1 bt640.1 bt640.2.1).bind fun t660 => (if t660 = true then (laws_FnExactReorderTable.j0 k l1 bt640.2.2 t651 bt654.2.2 (bt654.2.2 != bt640.2.2) a0_0 l0_1 bt640.1 bt640.2.1 bt646.1 bt646.2 bt654.1 bt654.2.1) else (laws_FnExactReorderTable.j0 k l1 bt640.2.2 t651 bt654.2.2 true a0_0 l0_1 bt640.1 bt640.2.1 bt646.1 bt646.2 bt654.1 bt654.2.1)))))))))) = some true := H
    have A5 := Aside0.mk A50
    clear A50
    by_cases c6 : t632 < 0
    · rw [if_pos c6] at H
      have c6b0 : decide (t632 < 0) = true := decide_eq_true c6
      clear c6
      first | (obtain rfl := Option.some.inj H) | clear H
      go_enter Try.func9, Try.ntmps9
      go_wp2_with (first | ((with_reducible refine gate_dst (N := 2) rfl ?_); refine box_event ?hg (N := 2) ?hd (cs := #[.int .i64 a0_0, .slice A0_1 l0_1.length c0_1]) (t := 41) ?hr ?_; (case hd => rfl); (case hg => rfl); (case hr => first | (go_simp; done) | (go_simp; rfl)); intro gb631 hg w7 hbox hb; have n0_ := Aside0.mk (below_step (by repeat (first | (with_reducible first | exact HB.out | apply below_alloc | apply pw_below_drewN | apply below_drew1) | exact HB.out)) hb); have n1_ := Aside0.mk (hbox); have n2_ := Aside0.mk ((by rw [hg]; exact (below_size (by repeat (first | (with_reducible first | exact HB.out | apply below_alloc | apply pw_below_drewN | apply below_drew1) | exact HB.out))) : w.heap.size ≤ gb631)); have n3_ := Aside0.mk ((by rw [hg]; exact (below_size (by repeat (first | (with_reducible first | exact HB.out | apply below_alloc | apply pw_below_drewN | apply below_drew1) | exact HB.out))) : w.heap.size ≤ gb631)); clear HB; have HB := n0_; have BK631 := n1_; have GW631 := n2_; have GE631 := n3_; clear n0_ n1_ n2_ n3_; clear hb hbox hg; have hcz8_0 : w7.cell? ⟨gb631, 0, none⟩ = some (.int .i64 a0_0) := (blk_cell BK631.out 0).trans rfl; have hcz8_1 : w7.cell? ⟨gb631, 1, none⟩ = some (.slice A0_1 l0_1.length c0_1) := (blk_cell BK631.out 1).trans rfl; have hfz8_0 := blk_frozen BK631.out 0; have hfz8_1 := blk_frozen BK631.out 1) | ((with_reducible refine gate_callee (f := 28) rfl ?_); refine goesL_ (some 22) rfl rfl Try.func28 (by kernel_rfl) rfl #[.agg #[.int .i64 a0_0, .slice A0_1 l0_1.length c0_1], .int .i64 1048576] rfl (by (try simp only [List.map_toArray, List.map_cons, List.map_nil]); first | done | rfl | (simp only [List.length_drop, List.length_take]; rfl)) ?_; (with_reducible refine (laws_szTable.calls a0_0 _ _ l0_1 1048576 t632 _ ?side1 ?side2 A5.out).mono ?_); (case side1 => repeat (first | exact (Kd.C_below HR0_1.out HB.out) | (with_reducible refine Kd.C_alloc ?_ _) | (with_reducible refine Kd.C_drewN ?_ _) | (with_reducible refine Kd.C_drew ?_))); (case side2 => exact HC0_1.out); rintro e w9 ⟨rfl, hb⟩; refine ⟨_, rfl, ?_⟩; have n0_ := Aside0.mk (blk_below (g := gb631) (o := .cells #[.int .i64 a0_0, .slice A0_1 l0_1.length c0_1] 41 (0, 0)) (by (with_reducible repeat (first | refine blk_drewN ?_ _ | refine blk_drew ?_ | refine blk_alloc ?_ _)); exact BK631.out) hb); have n1_ := Aside0.mk (below_step (by repeat (first | (with_reducible first | exact HB.out | apply below_alloc | apply pw_below_drewN | apply below_drew1 | refine below_set ?_ GE631.out) | exact HB.out)) hb); clear BK631; clear HB; have BK631 := n0_; have HB := n1_; clear n0_ n1_; (try clear hb); (try clear hb2); (try clear hk); (try clear hi)))
      go_ret
      exact ⟨by first | rfl | (simp [errW_none, errW_some] <;> rfl) | (simp [*, errW_none, errW_some] <;> rfl), by repeat (first | (with_reducible first | exact HB.out | apply below_alloc | apply pw_below_drewN | apply below_drew1 | refine below_set ?_ GE631.out) | exact HB.out)⟩
    · rw [if_neg c6] at H
      have c6b0 : decide (t632 < 0) = false := decide_eq_false c6
      clear c6
      replace H := Option.bind_eq_some_iff.mp H
      obtain ⟨⟨t633, t634⟩, A100, H⟩ := H
      replace H : ((laws_toIntS.f k l1).bind fun t637 => ((spec_ReorderTable.f k t633 t634 t637).bind fun bt640 => ((laws_toTable.f k a0_0 l0_1).bind fun bt646 => ((laws_toIntS.f k l1).bind fun t651 => ((impl_ReorderTable.f k bt646.1 bt646.2 t651).bind fun bt654 => ((laws_eqTable.f k bt654.1 bt654.2.1 bt640.1 bt640.2.1).bind fun t660 => (if t660 = true then (laws_FnExactReorderTable.j0 k l1 bt640.2.2 t651 bt654.2.2 (bt654.2.2 != bt640.2.2) a0_0 l0_1 bt640.1 bt640.2.1 bt646.1 bt646.2 bt654.1 bt654.2.1) else (laws_FnExactReorderTable.j0 k l1 bt640.2.2 t651 bt654.2.2 true a0_0 l0_1 bt640.1 bt640.2.1 bt646.1 bt646.2 bt654.1 bt654.2.1)))))))) = some true := H
      have A10 := Aside0.mk A100
      clear A100
      replace H := Option.bind_eq_some_iff.mp H
      obtain ⟨t637, A110, H⟩ := H
      replace H : ((spec_ReorderTable.f k t633 t634 t637).bind fun bt640 => ((laws_toTable.f k a0_0 l0_1).bind fun bt646 => ((laws_toIntS.f k l1).bind fun t651 => ((impl_ReorderTable.f k bt646.1 bt646.2 t651).bind fun bt654 => ((laws_eqTable.f k bt654.1 bt654.2.1 bt640.1 bt640.2.1).bind fun t660 => (if t660 = true then (laws_FnExactReorderTable.j0 k l1 bt640.2.2 t651 bt654.2.2 (bt654.2.2 != bt640.2.2) a0_0 l0_1 bt640.1 bt640.2.1 bt646.1 bt646.2 bt654.1 bt654.2.1) else (laws_FnExactReorderTable.j0 k l1 bt640.2.2 t651 bt654.2.2 true a0_0 l0_1 bt640.1 bt640.2.1 bt646.1 bt646.2 bt654.1 bt654.2.1))))))) = some true := H
      have A11 := Aside0.mk A110
      clear A110
      replace H := Option.bind_eq_some_iff.mp H
      obtain ⟨⟨t640, t641, t644⟩, A120, H⟩ := H
      replace H : ((laws_toTable.f k a0_0 l0_1).bind fun bt646 => ((laws_toIntS.f k l1).bind fun t651 => ((impl_ReorderTable.f k bt646.1 bt646.2 t651).bind fun bt654 => ((laws_eqTable.f k bt654.1 bt654.2.1 t640 t641).bind fun t660 => (if t660 = true then (laws_FnExactReorderTable.j0 k l1 t644 t651 bt654.2.2 (bt654.2.2 != t644) a0_0 l0_1 t640 t641 bt646.1 bt646.2 bt654.1 bt654.2.1) else (laws_FnExactReorderTable.j0 k l1 t644 t651 bt654.2.2 true a0_0 l0_1 t640 t641 bt646.1 bt646.2 bt654.1 bt654.2.1)))))) = some true := H
      have A12 := Aside0.mk A120
      clear A120
      replace H := Option.bind_eq_some_iff.mp H
      obtain ⟨⟨t646, t647⟩, A130, H⟩ := H
      replace H : ((laws_toIntS.f k l1).bind fun t651 => ((impl_ReorderTable.f k t646 t647 t651).bind fun bt654 => ((laws_eqTable.f k bt654.1 bt654.2.1 t640 t641).bind fun t660 => (if t660 = true then (laws_FnExactReorderTable.j0 k l1 t644 t651 bt654.2.2 (bt654.2.2 != t644) a0_0 l0_1 t640 t641 t646 t647 bt654.1 bt654.2.1) else (laws_FnExactReorderTable.j0 k l1 t644 t651 bt654.2.2 true a0_0 l0_1 t640 t641 t646 t647 bt654.1 bt654.2.1))))) = some true := H
      have A13 := Aside0.mk A130
      clear A130
      replace H := Option.bind_eq_some_iff.mp H
      obtain ⟨t651, A140, H⟩ := H
      replace H : ((impl_ReorderTable.f k t646 t647 t651).bind fun bt654 => ((laws_eqTable.f k bt654.1 bt654.2.1 t640 t641).bind fun t660 => (if t660 = true then (laws_FnExactReorderTable.j0 k l1 t644 t651 bt654.2.2 (bt654.2.2 != t644) a0_0 l0_1 t640 t641 t646 t647 bt654.1 bt654.2.1) else (laws_FnExactReorderTable.j0 k l1 t644 t651 bt654.2.2 true a0_0 l0_1 t640 t641 t646 t647 bt654.1 bt654.2.1)))) = some true := H
      have A14 := Aside0.mk A140
      clear A140
      replace H := Option.bind_eq_some_iff.mp H
      obtain ⟨⟨t654, t655, t658⟩, A150, H⟩ := H
      replace H : ((laws_eqTable.f k t654 t655 t640 t641).bind fun t660 => (if t660 = true then (laws_FnExactReorderTable.j0 k l1 t644 t651 t658 (t658 != t644) a0_0 l0_1 t640 t641 t646 t647 t654 t655) else (laws_FnExactReorderTable.j0 k l1 t644 t651 t658 true a0_0 l0_1 t640 t641 t646 t647 t654 t655))) = some true := H
      have A15 := Aside0.mk A150
      clear A150
      have HC16 := Aside0.mk H
      clear H
      go_enter Try.func9, Try.ntmps9
      go_upto_region 11 with (first | ((with_reducible refine gate_dst (N := 2) rfl ?_); refine box_event ?hg (N := 2) ?hd (cs := #[.int .i64 a0_0, .slice A0_1 l0_1.length c0_1]) (t := 41) ?hr ?_; (case hd => rfl); (case hg => rfl); (case hr => first | (go_simp; done) | (go_simp; rfl)); intro gb631 hg w17 hbox hb; have n0_ := Aside0.mk (below_step (by repeat (first | (with_reducible first | exact HB.out | apply below_alloc | apply pw_below_drewN | apply below_drew1) | exact HB.out)) hb); have n1_ := Aside0.mk (hbox); have n2_ := Aside0.mk ((by rw [hg]; exact (below_size (by repeat (first | (with_reducible first | exact HB.out | apply below_alloc | apply pw_below_drewN | apply below_drew1) | exact HB.out))) : w.heap.size ≤ gb631)); have n3_ := Aside0.mk ((by rw [hg]; exact (below_size (by repeat (first | (with_reducible first | exact HB.out | apply below_alloc | apply pw_below_drewN | apply below_drew1) | exact HB.out))) : w.heap.size ≤ gb631)); clear HB; have HB := n0_; have BK631 := n1_; have GW631 := n2_; have GE631 := n3_; clear n0_ n1_ n2_ n3_; clear hb hbox hg; have hcz18_0 : w17.cell? ⟨gb631, 0, none⟩ = some (.int .i64 a0_0) := (blk_cell BK631.out 0).trans rfl; have hcz18_1 : w17.cell? ⟨gb631, 1, none⟩ = some (.slice A0_1 l0_1.length c0_1) := (blk_cell BK631.out 1).trans rfl; have hfz18_0 := blk_frozen BK631.out 0; have hfz18_1 := blk_frozen BK631.out 1) | ((with_reducible refine gate_callee (f := 28) rfl ?_); refine goesL_ (some 22) rfl rfl Try.func28 (by kernel_rfl) rfl #[.agg #[.int .i64 a0_0, .slice A0_1 l0_1.length c0_1], .int .i64 1048576] rfl (by (try simp only [List.map_toArray, List.map_cons, List.map_nil]); first | done | rfl | (simp only [List.length_drop, List.length_take]; rfl)) ?_; (with_reducible refine (laws_szTable.calls a0_0 _ _ l0_1 1048576 t632 _ ?side1 ?side2 A5.out).mono ?_); (case side1 => repeat (first | exact (Kd.C_below HR0_1.out HB.out) | (with_reducible refine Kd.C_alloc ?_ _) | (with_reducible refine Kd.C_drewN ?_ _) | (with_reducible refine Kd.C_drew ?_))); (case side2 => exact HC0_1.out); rintro e w19 ⟨rfl, hb⟩; refine ⟨_, rfl, ?_⟩; have n0_ := Aside0.mk (blk_below (g := gb631) (o := .cells #[.int .i64 a0_0, .slice A0_1 l0_1.length c0_1] 41 (0, 0)) (by (with_reducible repeat (first | refine blk_drewN ?_ _ | refine blk_drew ?_ | refine blk_alloc ?_ _)); exact BK631.out) hb); have n1_ := Aside0.mk (below_step (by repeat (first | (with_reducible first | exact HB.out | apply below_alloc | apply pw_below_drewN | apply below_drew1 | refine below_set ?_ GE631.out) | exact HB.out)) hb); clear BK631; clear HB; have BK631 := n0_; have HB := n1_; clear n0_ n1_; (try clear hb); (try clear hb2); (try clear hk); (try clear hi); have hcz20_0 : w19.cell? ⟨gb631, 0, none⟩ = some (.int .i64 a0_0) := (blk_cell BK631.out 0).trans rfl; have hcz20_1 : w19.cell? ⟨gb631, 1, none⟩ = some (.slice A0_1 l0_1.length c0_1) := (blk_cell BK631.out 1).trans rfl; have hfz20_0 := blk_frozen BK631.out 0; have hfz20_1 := blk_frozen BK631.out 1) | ((with_reducible refine gate_callee (f := 30) rfl ?_); refine goesL_ (some 27) rfl rfl Try.func30 (by kernel_rfl) rfl #[.agg #[.int .i64 a0_0, .slice A0_1 l0_1.length c0_1]] rfl (by (try simp only [List.map_toArray, List.map_cons, List.map_nil]); first | done | rfl | (simp only [List.length_drop, List.length_take]; rfl)) ?_; (with_reducible refine (laws_toTable.calls k a0_0 _ _ l0_1 t633 t634 _ ?side1 ?side2 A10.out).mono ?_); (case side1 => repeat (first | exact (Kd.C_below HR0_1.out HB.out) | (with_reducible refine Kd.C_alloc ?_ _) | (with_reducible refine Kd.C_drewN ?_ _) | (with_reducible refine Kd.C_drew ?_))); (case side2 => exact HC0_1.out); rintro e w21 ⟨v635, rfl, ho0, hb⟩; refine ⟨_, rfl, ?_⟩; have n0_ := Aside0.mk (Kd.R_lower ho0 (below_size (by repeat (first | (with_reducible first | exact HB.out | apply below_alloc | apply pw_below_drewN | apply below_drew1 | refine below_set ?_ GE631.out) | exact HB.out)))); have n1_ := Aside0.mk (blk_below (g := gb631) (o := .cells #[.int .i64 a0_0, .slice A0_1 l0_1.length c0_1] 41 (0, 0)) (by (with_reducible repeat (first | refine blk_drewN ?_ _ | refine blk_drew ?_ | refine blk_alloc ?_ _)); exact BK631.out) hb); have n2_ := Aside0.mk (below_step (by repeat (first | (with_reducible first | exact HB.out | apply below_alloc | apply pw_below_drewN | apply below_drew1 | refine below_set ?_ GE631.out) | exact HB.out)) hb); clear BK631; clear HB; have HO636 := n0_; have BK631 := n1_; have HB := n2_; clear n0_ n1_ n2_; (try clear hb); (try clear hb2); (try clear hk); (try clear hi); (try clear ho0)) | ((with_reducible refine gate_callee (f := 39) rfl ?_); refine goesL_ (some 29) rfl rfl Try.func39 (by kernel_rfl) rfl #[.slice A1 l1.length c1] rfl (by (try simp only [List.map_toArray, List.map_cons, List.map_nil]); first | done | rfl | (simp only [List.length_drop, List.length_take]; rfl)) ?_; (with_reducible refine (laws_toIntS.calls k _ _ l1 t637 _ ?side1 ?side2 A11.out).mono ?_); (case side1 => repeat (first | exact (Kd.C_below HR1.out HB.out) | (with_reducible refine Kd.C_alloc ?_ _) | (with_reducible refine Kd.C_drewN ?_ _) | (with_reducible refine Kd.C_drew ?_))); (case side2 => exact HC1.out); rintro e w22 ⟨v638, rfl, ho0, hb⟩; refine ⟨_, rfl, ?_⟩; have n0_ := Aside0.mk (Kd.R_elder' (by (with_reducible repeat (first | apply Kd.R_alloc | apply Kd.R_drewN | apply Kd.R_drew)); exact HO636.out) (Kd.R_base ho0) hb); have n1_ := Aside0.mk (Kd.R_lower (Kd.R_new' ho0 (Kd.R_lt (by (with_reducible repeat (first | apply Kd.R_alloc | apply Kd.R_drewN | apply Kd.R_drew)); exact HO636.out))) (below_size (by repeat (first | (with_reducible first | exact HB.out | apply below_alloc | apply pw_below_drewN | apply below_drew1 | refine below_set ?_ GE631.out) | exact HB.out)))); have n2_ := Aside0.mk (blk_below (g := gb631) (o := .cells #[.int .i64 a0_0, .slice A0_1 l0_1.length c0_1] 41 (0, 0)) (by (with_reducible repeat (first | refine blk_drewN ?_ _ | refine blk_drew ?_ | refine blk_alloc ?_ _)); exact BK631.out) hb); have n3_ := Aside0.mk (below_step (by repeat (first | (with_reducible first | exact HB.out | apply below_alloc | apply pw_below_drewN | apply below_drew1 | refine below_set ?_ GE631.out) | exact HB.out)) hb); clear HO636; clear BK631; clear HB; have HO636 := n0_; have HO639 := n1_; have BK631 := n2_; have HB := n3_; clear n0_ n1_ n2_ n3_; (try clear hb); (try clear hb2); (try clear hk); (try clear hi); (try clear ho0); obtain ⟨Ao23, co23, eo23⟩ := Kd.R_slice HO636.out; subst eo23; obtain ⟨Ao24, co24, eo24⟩ := Kd.R_slice HO639.out; subst eo24) | ((with_reducible refine gate_callee (f := 38) rfl ?_); refine goesL_ (some 30) rfl rfl Try.func38 (by kernel_rfl) rfl #[.agg #[.int .i64 t633, .slice Ao23 t634.length co23], .slice Ao24 t637.length co24] rfl (by (try simp only [List.map_toArray, List.map_cons, List.map_nil]); first | done | rfl | (simp only [List.length_drop, List.length_take]; rfl)) ?_; (with_reducible refine (spec_ReorderTable.calls k t633 _ _ t634 _ _ t637 t640 t641 t644 _ ?side1 ?side2 ?side3 ?side4 A12.out).mono ?_); (case side1 => repeat (first | exact (Kd.R_reads' HO636.out).2.2 | (with_reducible refine Kd.C_alloc ?_ _) | (with_reducible refine Kd.C_drewN ?_ _) | (with_reducible refine Kd.C_drew ?_))); (case side2 => exact (Kd.R_reads' HO636.out).2.1); (case side3 => repeat (first | exact (Kd.R_reads' HO639.out).2.2 | (with_reducible refine Kd.C_alloc ?_ _) | (with_reducible refine Kd.C_drewN ?_ _) | (with_reducible refine Kd.C_drew ?_))); (case side4 => exact (Kd.R_reads' HO639.out).2.1); rintro e w25 ⟨v642, rfl, ho0, hb⟩; refine ⟨_, rfl, ?_⟩; have n0_ := Aside0.mk (Kd.R_elder' (by (with_reducible repeat (first | apply Kd.R_alloc | apply Kd.R_drewN | apply Kd.R_drew)); exact HO636.out) (Kd.R_base ho0) hb); have n1_ := Aside0.mk (Kd.R_elder' (by (with_reducible repeat (first | apply Kd.R_alloc | apply Kd.R_drewN | apply Kd.R_drew)); exact HO639.out) (Kd.R_base ho0) hb); have n2_ := Aside0.mk (Kd.R_lower (Kd.R_new' (Kd.R_new' ho0 (Kd.R_lt (by (with_reducible repeat (first | apply Kd.R_alloc | apply Kd.R_drewN | apply Kd.R_drew)); exact HO636.out))) (Kd.R_lt (by (with_reducible repeat (first | apply Kd.R_alloc | apply Kd.R_drewN | apply Kd.R_drew)); exact HO639.out))) (below_size (by repeat (first | (with_reducible first | exact HB.out | apply below_alloc | apply pw_below_drewN | apply below_drew1 | refine below_set ?_ GE631.out) | exact HB.out)))); have n3_ := Aside0.mk (blk_below (g := gb631) (o := .cells #[.int .i64 a0_0, .slice A0_1 l0_1.length c0_1] 41 (0, 0)) (by (with_reducible repeat (first | refine blk_drewN ?_ _ | refine blk_drew ?_ | refine blk_alloc ?_ _)); exact BK631.out) hb); have n4_ := Aside0.mk (below_step (by repeat (first | (with_reducible first | exact HB.out | apply below_alloc | apply pw_below_drewN | apply below_drew1 | refine below_set ?_ GE631.out) | exact HB.out)) hb); clear HO636; clear HO639; clear BK631; clear HB; have HO636 := n0_; have HO639 := n1_; have HO643 := n2_; have BK631 := n3_; have HB := n4_; clear n0_ n1_ n2_ n3_ n4_; (try clear hb); (try clear hb2); (try clear hk); (try clear hi); (try clear ho0)) | ((with_reducible refine gate_dst (N := 6) rfl ?_); refine box_event ?hg (N := 6) ?hd (cs := #[.int .i64 0, .slice none 0 0]) (t := 24) ?hr ?_; (case hd => rfl); (case hg => rfl); (case hr => first | (go_simp; done) | (go_simp; rfl)); intro gb645 hg w26 hbox hb; have n0_ := Aside0.mk (Kd.R_below (by (with_reducible repeat (first | apply Kd.R_alloc | apply Kd.R_drewN | apply Kd.R_drew)); exact HO636.out) hb); have n1_ := Aside0.mk (Kd.R_below (by (with_reducible repeat (first | apply Kd.R_alloc | apply Kd.R_drewN | apply Kd.R_drew)); exact HO639.out) hb); have n2_ := Aside0.mk (Kd.R_below (by (with_reducible repeat (first | apply Kd.R_alloc | apply Kd.R_drewN | apply Kd.R_drew)); exact HO643.out) hb); have n3_ := Aside0.mk (blk_below (g := gb631) (o := .cells #[.int .i64 a0_0, .slice A0_1 l0_1.length c0_1] 41 (0, 0)) (by (with_reducible repeat (first | refine blk_drewN ?_ _ | refine blk_drew ?_ | refine blk_alloc ?_ _)); exact BK631.out) hb); have n4_ := Aside0.mk (below_step (by repeat (first | (with_reducible first | exact HB.out | apply below_alloc | apply pw_below_drewN | apply below_drew1 | refine below_set ?_ GE631.out) | exact HB.out)) hb); have n5_ := Aside0.mk (hbox); have n6_ := Aside0.mk ((by rw [hg]; exact (below_size (by repeat (first | (with_reducible first | exact HB.out | apply below_alloc | apply pw_below_drewN | apply below_drew1 | refine below_set ?_ GE631.out) | exact HB.out))) : w.heap.size ≤ gb645)); have n7_ := Aside0.mk ((by rw [hg]; exact (below_size (by repeat (first | (with_reducible first | exact HB.out | apply below_alloc | apply pw_below_drewN | apply below_drew1 | refine below_set ?_ GE631.out) | exact HB.out))) : w.heap.size ≤ gb645)); have n8_ := Aside0.mk ((by rw [hg]; exact Nat.ne_of_lt (blk_lt (g := gb631) (o := .cells #[.int .i64 a0_0, .slice A0_1 l0_1.length c0_1] 41 (0, 0)) (by (with_reducible repeat (first | refine blk_drewN ?_ _ | refine blk_drew ?_ | refine blk_alloc ?_ _)); exact BK631.out)) : gb631 ≠ gb645)); have n9_ := Aside0.mk ((by rw [hg]; exact Nat.ne_of_gt (blk_lt (g := gb631) (o := .cells #[.int .i64 a0_0, .slice A0_1 l0_1.length c0_1] 41 (0, 0)) (by (with_reducible repeat (first | refine blk_drewN ?_ _ | refine blk_drew ?_ | refine blk_alloc ?_ _)); exact BK631.out)) : gb645 ≠ gb631)); clear HO636; clear HO639; clear HO643; clear BK631; clear HB; have HO636 := n0_; have HO639 := n1_; have HO643 := n2_; have BK631 := n3_; have HB := n4_; have BK645 := n5_; have GW645 := n6_; have GE645 := n7_; have NB631_645 := n8_; have NB645_631 := n9_; clear n0_ n1_ n2_ n3_ n4_ n5_ n6_ n7_ n8_ n9_; clear hb hbox hg; have hnb27 := NB645_631.out; have hnc27 := NB631_645.out; have hcz28_0 : w26.cell? ⟨gb645, 0, none⟩ = some (.int .i64 0) := (blk_cell BK645.out 0).trans rfl; have hcz28_1 : w26.cell? ⟨gb645, 1, none⟩ = some (.slice none 0 0) := (blk_cell BK645.out 1).trans rfl; have hfz28_0 := blk_frozen BK645.out 0; have hfz28_1 := blk_frozen BK645.out 1; obtain ⟨Ao29, co29, eo29⟩ := Kd.R_slice HO643.out; subst eo29; have hcz30_0 : w26.cell? ⟨gb631, 0, none⟩ = some (.int .i64 a0_0) := (blk_cell BK631.out 0).trans rfl; have hcz30_1 : w26.cell? ⟨gb631, 1, none⟩ = some (.slice A0_1 l0_1.length c0_1) := (blk_cell BK631.out 1).trans rfl; have hfz30_0 := blk_frozen BK631.out 0; have hfz30_1 := blk_frozen BK631.out 1) | ((with_reducible refine gate_callee (f := 30) rfl ?_); refine goesL_ (some 34) rfl rfl Try.func30 (by kernel_rfl) rfl #[.agg #[.int .i64 a0_0, .slice A0_1 l0_1.length c0_1]] rfl (by (try simp only [List.map_toArray, List.map_cons, List.map_nil]); first | done | rfl | (simp only [List.length_drop, List.length_take]; rfl)) ?_; (with_reducible refine (laws_toTable.calls k a0_0 _ _ l0_1 t646 t647 _ ?side1 ?side2 A13.out).mono ?_); (case side1 => exact Kd.C_below HR0_1.out (by repeat (first | (with_reducible first | exact HB.out | apply below_alloc | apply pw_below_drewN | apply below_drew1 | refine below_set ?_ GE631.out | refine below_set ?_ GE645.out) | exact HB.out))); (case side2 => exact HC0_1.out); rintro e w31 ⟨v648, rfl, ho0, hb⟩; refine ⟨_, rfl, ?_⟩; have n0_ := Aside0.mk (Kd.R_elder' (by (with_reducible repeat (first | apply Kd.R_alloc | apply Kd.R_drewN | apply Kd.R_drew)); exact (Kd.R_mono (Kd.R_far (p := ⟨gb645, 1, none⟩) (Kd.R_far (p := ⟨gb645, 0, none⟩) (Kd.R_types HO636.out BK645.out (by decide)) (fun _ hk => hk.2) (.int .i64 t640)) (fun _ hk => hk.2) (.slice Ao29 t641.length co29)) (fun _ h_ => h_.1))) (Kd.R_base ho0) hb); have n1_ := Aside0.mk (Kd.R_elder' (by (with_reducible repeat (first | apply Kd.R_alloc | apply Kd.R_drewN | apply Kd.R_drew)); exact (Kd.R_mono (Kd.R_far (p := ⟨gb645, 1, none⟩) (Kd.R_far (p := ⟨gb645, 0, none⟩) (Kd.R_types HO639.out BK645.out (by decide)) (fun _ hk => hk.2) (.int .i64 t640)) (fun _ hk => hk.2) (.slice Ao29 t641.length co29)) (fun _ h_ => h_.1))) (Kd.R_base ho0) hb); have n2_ := Aside0.mk (Kd.R_elder' (by (with_reducible repeat (first | apply Kd.R_alloc | apply Kd.R_drewN | apply Kd.R_drew)); exact (Kd.R_mono (Kd.R_far (p := ⟨gb645, 1, none⟩) (Kd.R_far (p := ⟨gb645, 0, none⟩) (Kd.R_types HO643.out BK645.out (by decide)) (fun _ hk => hk.2) (.int .i64 t640)) (fun _ hk => hk.2) (.slice Ao29 t641.length co29)) (fun _ h_ => h_.1))) (Kd.R_base ho0) hb); have n3_ := Aside0.mk (Kd.R_lower (Kd.R_new' (Kd.R_new' (Kd.R_new' ho0 (Kd.R_lt (by (with_reducible repeat (first | apply Kd.R_alloc | apply Kd.R_drewN | apply Kd.R_drew)); exact (Kd.R_mono (Kd.R_far (p := ⟨gb645, 1, none⟩) (Kd.R_far (p := ⟨gb645, 0, none⟩) (Kd.R_types HO636.out BK645.out (by decide)) (fun _ hk => hk.2) (.int .i64 t640)) (fun _ hk => hk.2) (.slice Ao29 t641.length co29)) (fun _ h_ => h_.1))))) (Kd.R_lt (by (with_reducible repeat (first | apply Kd.R_alloc | apply Kd.R_drewN | apply Kd.R_drew)); exact (Kd.R_mono (Kd.R_far (p := ⟨gb645, 1, none⟩) (Kd.R_far (p := ⟨gb645, 0, none⟩) (Kd.R_types HO639.out BK645.out (by decide)) (fun _ hk => hk.2) (.int .i64 t640)) (fun _ hk => hk.2) (.slice Ao29 t641.length co29)) (fun _ h_ => h_.1))))) (Kd.R_lt (by (with_reducible repeat (first | apply Kd.R_alloc | apply Kd.R_drewN | apply Kd.R_drew)); exact (Kd.R_mono (Kd.R_far (p := ⟨gb645, 1, none⟩) (Kd.R_far (p := ⟨gb645, 0, none⟩) (Kd.R_types HO643.out BK645.out (by decide)) (fun _ hk => hk.2) (.int .i64 t640)) (fun _ hk => hk.2) (.slice Ao29 t641.length co29)) (fun _ h_ => h_.1))))) (below_size (by repeat (first | (with_reducible first | exact HB.out | apply below_alloc | apply pw_below_drewN | apply below_drew1 | refine below_set ?_ GE631.out | refine below_set ?_ GE645.out) | exact HB.out)))); have n4_ := Aside0.mk (blk_below (g := gb631) (o := .cells #[.int .i64 a0_0, .slice A0_1 l0_1.length c0_1] 41 (0, 0)) (by (with_reducible repeat (first | refine blk_drewN ?_ _ | refine blk_drew ?_ | refine blk_alloc ?_ _)); refine blk_far ?_ NB631_645.out _; (with_reducible repeat (first | refine blk_drewN ?_ _ | refine blk_drew ?_ | refine blk_alloc ?_ _)); refine blk_far ?_ NB631_645.out _; (with_reducible repeat (first | refine blk_drewN ?_ _ | refine blk_drew ?_ | refine blk_alloc ?_ _)); exact BK631.out) hb); have n5_ := Aside0.mk (blk_below (g := gb645) (o := .cells #[.int .i64 t640, .slice Ao29 t641.length co29] 24 (0, 0)) (by (with_reducible repeat (first | refine blk_drewN ?_ _ | refine blk_drew ?_ | refine blk_alloc ?_ _)); refine blk_put (cs := #[.int .i64 t640, .slice none 0 0]) ?_ 1 _ rfl; (with_reducible repeat (first | refine blk_drewN ?_ _ | refine blk_drew ?_ | refine blk_alloc ?_ _)); refine blk_put (cs := #[.int .i64 0, .slice none 0 0]) ?_ 0 _ rfl; (with_reducible repeat (first | refine blk_drewN ?_ _ | refine blk_drew ?_ | refine blk_alloc ?_ _)); exact BK645.out) hb); have n6_ := Aside0.mk (below_step (by repeat (first | (with_reducible first | exact HB.out | apply below_alloc | apply pw_below_drewN | apply below_drew1 | refine below_set ?_ GE631.out | refine below_set ?_ GE645.out) | exact HB.out)) hb); clear HO636; clear HO639; clear HO643; clear BK631; clear BK645; clear HB; have HO636 := n0_; have HO639 := n1_; have HO643 := n2_; have HO649 := n3_; have BK631 := n4_; have BK645 := n5_; have HB := n6_; clear n0_ n1_ n2_ n3_ n4_ n5_ n6_; (try clear hb); (try clear hb2); (try clear hk); (try clear hi); (try clear ho0)) | ((with_reducible refine gate_dst (N := 8) rfl ?_); refine box_event ?hg (N := 8) ?hd (cs := #[.int .i64 0, .slice none 0 0]) (t := 24) ?hr ?_; (case hd => rfl); (case hg => rfl); (case hr => first | (go_simp; done) | (go_simp; rfl)); intro gb650 hg w32 hbox hb; have n0_ := Aside0.mk (Kd.R_below (by (with_reducible repeat (first | apply Kd.R_alloc | apply Kd.R_drewN | apply Kd.R_drew)); exact HO636.out) hb); have n1_ := Aside0.mk (Kd.R_below (by (with_reducible repeat (first | apply Kd.R_alloc | apply Kd.R_drewN | apply Kd.R_drew)); exact HO639.out) hb); have n2_ := Aside0.mk (Kd.R_below (by (with_reducible repeat (first | apply Kd.R_alloc | apply Kd.R_drewN | apply Kd.R_drew)); exact HO643.out) hb); have n3_ := Aside0.mk (Kd.R_below (by (with_reducible repeat (first | apply Kd.R_alloc | apply Kd.R_drewN | apply Kd.R_drew)); exact HO649.out) hb); have n4_ := Aside0.mk (blk_below (g := gb631) (o := .cells #[.int .i64 a0_0, .slice A0_1 l0_1.length c0_1] 41 (0, 0)) (by (with_reducible repeat (first | refine blk_drewN ?_ _ | refine blk_drew ?_ | refine blk_alloc ?_ _)); exact BK631.out) hb); have n5_ := Aside0.mk (blk_below (g := gb645) (o := .cells #[.int .i64 t640, .slice Ao29 t641.length co29] 24 (0, 0)) (by (with_reducible repeat (first | refine blk_drewN ?_ _ | refine blk_drew ?_ | refine blk_alloc ?_ _)); exact BK645.out) hb); have n6_ := Aside0.mk (below_step (by repeat (first | (with_reducible first | exact HB.out | apply below_alloc | apply pw_below_drewN | apply below_drew1 | refine below_set ?_ GE631.out | refine below_set ?_ GE645.out) | exact HB.out)) hb); have n7_ := Aside0.mk (hbox); have n8_ := Aside0.mk ((by rw [hg]; exact (below_size (by repeat (first | (with_reducible first | exact HB.out | apply below_alloc | apply pw_below_drewN | apply below_drew1 | refine below_set ?_ GE631.out | refine below_set ?_ GE645.out) | exact HB.out))) : w.heap.size ≤ gb650)); have n9_ := Aside0.mk ((by rw [hg]; exact (below_size (by repeat (first | (with_reducible first | exact HB.out | apply below_alloc | apply pw_below_drewN | apply below_drew1 | refine below_set ?_ GE631.out | refine below_set ?_ GE645.out) | exact HB.out))) : w.heap.size ≤ gb650)); have n10_ := Aside0.mk ((by rw [hg]; exact Nat.ne_of_lt (blk_lt (g := gb631) (o := .cells #[.int .i64 a0_0, .slice A0_1 l0_1.length c0_1] 41 (0, 0)) (by (with_reducible repeat (first | refine blk_drewN ?_ _ | refine blk_drew ?_ | refine blk_alloc ?_ _)); exact BK631.out)) : gb631 ≠ gb650)); have n11_ := Aside0.mk ((by rw [hg]; exact Nat.ne_of_gt (blk_lt (g := gb631) (o := .cells #[.int .i64 a0_0, .slice A0_1 l0_1.length c0_1] 41 (0, 0)) (by (with_reducible repeat (first | refine blk_drewN ?_ _ | refine blk_drew ?_ | refine blk_alloc ?_ _)); exact BK631.out)) : gb650 ≠ gb631)); have n12_ := Aside0.mk ((by rw [hg]; exact Nat.ne_of_lt (blk_lt (g := gb645) (o := .cells #[.int .i64 t640, .slice Ao29 t641.length co29] 24 (0, 0)) (by (with_reducible repeat (first | refine blk_drewN ?_ _ | refine blk_drew ?_ | refine blk_alloc ?_ _)); exact BK645.out)) : gb645 ≠ gb650)); have n13_ := Aside0.mk ((by rw [hg]; exact Nat.ne_of_gt (blk_lt (g := gb645) (o := .cells #[.int .i64 t640, .slice Ao29 t641.length co29] 24 (0, 0)) (by (with_reducible repeat (first | refine blk_drewN ?_ _ | refine blk_drew ?_ | refine blk_alloc ?_ _)); exact BK645.out)) : gb650 ≠ gb645)); clear HO636; clear HO639; clear HO643; clear HO649; clear BK631; clear BK645; clear HB; have HO636 := n0_; have HO639 := n1_; have HO643 := n2_; have HO649 := n3_; have BK631 := n4_; have BK645 := n5_; have HB := n6_; have BK650 := n7_; have GW650 := n8_; have GE650 := n9_; have NB631_650 := n10_; have NB650_631 := n11_; have NB645_650 := n12_; have NB650_645 := n13_; clear n0_ n1_ n2_ n3_ n4_ n5_ n6_ n7_ n8_ n9_ n10_ n11_ n12_ n13_; clear hb hbox hg; have hnb33 := NB650_631.out; have hnc33 := NB631_650.out; have hnb34 := NB650_645.out; have hnc34 := NB645_650.out; have hcz35_0 : w32.cell? ⟨gb650, 0, none⟩ = some (.int .i64 0) := (blk_cell BK650.out 0).trans rfl; have hcz35_1 : w32.cell? ⟨gb650, 1, none⟩ = some (.slice none 0 0) := (blk_cell BK650.out 1).trans rfl; have hfz35_0 := blk_frozen BK650.out 0; have hfz35_1 := blk_frozen BK650.out 1; obtain ⟨Ao36, co36, eo36⟩ := Kd.R_slice HO649.out; subst eo36) | ((with_reducible refine gate_callee (f := 39) rfl ?_); refine goesL_ (some 36) rfl rfl Try.func39 (by kernel_rfl) rfl #[.slice A1 l1.length c1] rfl (by (try simp only [List.map_toArray, List.map_cons, List.map_nil]); first | done | rfl | (simp only [List.length_drop, List.length_take]; rfl)) ?_; (with_reducible refine (laws_toIntS.calls k _ _ l1 t651 _ ?side1 ?side2 A14.out).mono ?_); (case side1 => exact Kd.C_below HR1.out (by repeat (first | (with_reducible first | exact HB.out | apply below_alloc | apply pw_below_drewN | apply below_drew1 | refine below_set ?_ GE631.out | refine below_set ?_ GE645.out | refine below_set ?_ GE650.out) | exact HB.out))); (case side2 => exact HC1.out); rintro e w37 ⟨v652, rfl, ho0, hb⟩; refine ⟨_, rfl, ?_⟩; have n0_ := Aside0.mk (Kd.R_elder' (by (with_reducible repeat (first | apply Kd.R_alloc | apply Kd.R_drewN | apply Kd.R_drew)); exact (Kd.R_mono (Kd.R_far (p := ⟨gb650, 1, none⟩) (Kd.R_far (p := ⟨gb650, 0, none⟩) (Kd.R_types HO636.out BK650.out (by decide)) (fun _ hk => hk.2) (.int .i64 t646)) (fun _ hk => hk.2) (.slice Ao36 t647.length co36)) (fun _ h_ => h_.1))) (Kd.R_base ho0) hb); have n1_ := Aside0.mk (Kd.R_elder' (by (with_reducible repeat (first | apply Kd.R_alloc | apply Kd.R_drewN | apply Kd.R_drew)); exact (Kd.R_mono (Kd.R_far (p := ⟨gb650, 1, none⟩) (Kd.R_far (p := ⟨gb650, 0, none⟩) (Kd.R_types HO639.out BK650.out (by decide)) (fun _ hk => hk.2) (.int .i64 t646)) (fun _ hk => hk.2) (.slice Ao36 t647.length co36)) (fun _ h_ => h_.1))) (Kd.R_base ho0) hb); have n2_ := Aside0.mk (Kd.R_elder' (by (with_reducible repeat (first | apply Kd.R_alloc | apply Kd.R_drewN | apply Kd.R_drew)); exact (Kd.R_mono (Kd.R_far (p := ⟨gb650, 1, none⟩) (Kd.R_far (p := ⟨gb650, 0, none⟩) (Kd.R_types HO643.out BK650.out (by decide)) (fun _ hk => hk.2) (.int .i64 t646)) (fun _ hk => hk.2) (.slice Ao36 t647.length co36)) (fun _ h_ => h_.1))) (Kd.R_base ho0) hb); have n3_ := Aside0.mk (Kd.R_elder' (by (with_reducible repeat (first | apply Kd.R_alloc | apply Kd.R_drewN | apply Kd.R_drew)); exact (Kd.R_mono (Kd.R_far (p := ⟨gb650, 1, none⟩) (Kd.R_far (p := ⟨gb650, 0, none⟩) (Kd.R_types HO649.out BK650.out (by decide)) (fun _ hk => hk.2) (.int .i64 t646)) (fun _ hk => hk.2) (.slice Ao36 t647.length co36)) (fun _ h_ => h_.1))) (Kd.R_base ho0) hb); have n4_ := Aside0.mk (Kd.R_lower (Kd.R_new' (Kd.R_new' (Kd.R_new' (Kd.R_new' ho0 (Kd.R_lt (by (with_reducible repeat (first | apply Kd.R_alloc | apply Kd.R_drewN | apply Kd.R_drew)); exact (Kd.R_mono (Kd.R_far (p := ⟨gb650, 1, none⟩) (Kd.R_far (p := ⟨gb650, 0, none⟩) (Kd.R_types HO636.out BK650.out (by decide)) (fun _ hk => hk.2) (.int .i64 t646)) (fun _ hk => hk.2) (.slice Ao36 t647.length co36)) (fun _ h_ => h_.1))))) (Kd.R_lt (by (with_reducible repeat (first | apply Kd.R_alloc | apply Kd.R_drewN | apply Kd.R_drew)); exact (Kd.R_mono (Kd.R_far (p := ⟨gb650, 1, none⟩) (Kd.R_far (p := ⟨gb650, 0, none⟩) (Kd.R_types HO639.out BK650.out (by decide)) (fun _ hk => hk.2) (.int .i64 t646)) (fun _ hk => hk.2) (.slice Ao36 t647.length co36)) (fun _ h_ => h_.1))))) (Kd.R_lt (by (with_reducible repeat (first | apply Kd.R_alloc | apply Kd.R_drewN | apply Kd.R_drew)); exact (Kd.R_mono (Kd.R_far (p := ⟨gb650, 1, none⟩) (Kd.R_far (p := ⟨gb650, 0, none⟩) (Kd.R_types HO643.out BK650.out (by decide)) (fun _ hk => hk.2) (.int .i64 t646)) (fun _ hk => hk.2) (.slice Ao36 t647.length co36)) (fun _ h_ => h_.1))))) (Kd.R_lt (by (with_reducible repeat (first | apply Kd.R_alloc | apply Kd.R_drewN | apply Kd.R_drew)); exact (Kd.R_mono (Kd.R_far (p := ⟨gb650, 1, none⟩) (Kd.R_far (p := ⟨gb650, 0, none⟩) (Kd.R_types HO649.out BK650.out (by decide)) (fun _ hk => hk.2) (.int .i64 t646)) (fun _ hk => hk.2) (.slice Ao36 t647.length co36)) (fun _ h_ => h_.1))))) (below_size (by repeat (first | (with_reducible first | exact HB.out | apply below_alloc | apply pw_below_drewN | apply below_drew1 | refine below_set ?_ GE631.out | refine below_set ?_ GE645.out | refine below_set ?_ GE650.out) | exact HB.out)))); have n5_ := Aside0.mk (blk_below (g := gb631) (o := .cells #[.int .i64 a0_0, .slice A0_1 l0_1.length c0_1] 41 (0, 0)) (by (with_reducible repeat (first | refine blk_drewN ?_ _ | refine blk_drew ?_ | refine blk_alloc ?_ _)); refine blk_far ?_ NB631_650.out _; (with_reducible repeat (first | refine blk_drewN ?_ _ | refine blk_drew ?_ | refine blk_alloc ?_ _)); refine blk_far ?_ NB631_650.out _; (with_reducible repeat (first | refine blk_drewN ?_ _ | refine blk_drew ?_ | refine blk_alloc ?_ _)); exact BK631.out) hb); have n6_ := Aside0.mk (blk_below (g := gb645) (o := .cells #[.int .i64 t640, .slice Ao29 t641.length co29] 24 (0, 0)) (by (with_reducible repeat (first | refine blk_drewN ?_ _ | refine blk_drew ?_ | refine blk_alloc ?_ _)); refine blk_far ?_ NB645_650.out _; (with_reducible repeat (first | refine blk_drewN ?_ _ | refine blk_drew ?_ | refine blk_alloc ?_ _)); refine blk_far ?_ NB645_650.out _; (with_reducible repeat (first | refine blk_drewN ?_ _ | refine blk_drew ?_ | refine blk_alloc ?_ _)); exact BK645.out) hb); have n7_ := Aside0.mk (blk_below (g := gb650) (o := .cells #[.int .i64 t646, .slice Ao36 t647.length co36] 24 (0, 0)) (by (with_reducible repeat (first | refine blk_drewN ?_ _ | refine blk_drew ?_ | refine blk_alloc ?_ _)); refine blk_put (cs := #[.int .i64 t646, .slice none 0 0]) ?_ 1 _ rfl; (with_reducible repeat (first | refine blk_drewN ?_ _ | refine blk_drew ?_ | refine blk_alloc ?_ _)); refine blk_put (cs := #[.int .i64 0, .slice none 0 0]) ?_ 0 _ rfl; (with_reducible repeat (first | refine blk_drewN ?_ _ | refine blk_drew ?_ | refine blk_alloc ?_ _)); exact BK650.out) hb); have n8_ := Aside0.mk (below_step (by repeat (first | (with_reducible first | exact HB.out | apply below_alloc | apply pw_below_drewN | apply below_drew1 | refine below_set ?_ GE631.out | refine below_set ?_ GE645.out | refine below_set ?_ GE650.out) | exact HB.out)) hb); clear HO636; clear HO639; clear HO643; clear HO649; clear BK631; clear BK645; clear BK650; clear HB; have HO636 := n0_; have HO639 := n1_; have HO643 := n2_; have HO649 := n3_; have HO653 := n4_; have BK631 := n5_; have BK645 := n6_; have BK650 := n7_; have HB := n8_; clear n0_ n1_ n2_ n3_ n4_ n5_ n6_ n7_ n8_; (try clear hb); (try clear hb2); (try clear hk); (try clear hi); (try clear ho0); have hcz38_0 : w37.cell? ⟨gb650, 0, none⟩ = some (.int .i64 t646) := (blk_cell BK650.out 0).trans rfl; have hcz38_1 : w37.cell? ⟨gb650, 1, none⟩ = some (.slice Ao36 t647.length co36) := (blk_cell BK650.out 1).trans rfl; have hfz38_0 := blk_frozen BK650.out 0; have hfz38_1 := blk_frozen BK650.out 1; obtain ⟨Ao39, co39, eo39⟩ := Kd.R_slice HO653.out; subst eo39) | ((with_reducible refine gate_callee (f := 40) rfl ?_); refine goesL_ (some 40) rfl rfl Try.func40 (by kernel_rfl) rfl #[.agg #[.int .i64 t646, .slice Ao36 t647.length co36], .slice Ao39 t651.length co39] rfl (by (try simp only [List.map_toArray, List.map_cons, List.map_nil]); first | done | rfl | (simp only [List.length_drop, List.length_take]; rfl)) ?_; (with_reducible refine (impl_ReorderTable.calls k t646 _ _ t647 _ _ t651 t654 t655 t658 _ ?side1 ?side2 ?side3 ?side4 A15.out).mono ?_); (case side1 => repeat (first | exact (Kd.R_reads' HO649.out).2.2 | (with_reducible refine Kd.C_alloc ?_ _) | (with_reducible refine Kd.C_drewN ?_ _) | (with_reducible refine Kd.C_drew ?_))); (case side2 => exact (Kd.R_reads' HO649.out).2.1); (case side3 => repeat (first | exact (Kd.R_reads' HO653.out).2.2 | (with_reducible refine Kd.C_alloc ?_ _) | (with_reducible refine Kd.C_drewN ?_ _) | (with_reducible refine Kd.C_drew ?_))); (case side4 => exact (Kd.R_reads' HO653.out).2.1); rintro e w40 ⟨v656, rfl, ho0, hb⟩; refine ⟨_, rfl, ?_⟩; have n0_ := Aside0.mk (Kd.R_elder' (by (with_reducible repeat (first | apply Kd.R_alloc | apply Kd.R_drewN | apply Kd.R_drew)); exact HO636.out) (Kd.R_base ho0) hb); have n1_ := Aside0.mk (Kd.R_elder' (by (with_reducible repeat (first | apply Kd.R_alloc | apply Kd.R_drewN | apply Kd.R_drew)); exact HO639.out) (Kd.R_base ho0) hb); have n2_ := Aside0.mk (Kd.R_elder' (by (with_reducible repeat (first | apply Kd.R_alloc | apply Kd.R_drewN | apply Kd.R_drew)); exact HO643.out) (Kd.R_base ho0) hb); have n3_ := Aside0.mk (Kd.R_elder' (by (with_reducible repeat (first | apply Kd.R_alloc | apply Kd.R_drewN | apply Kd.R_drew)); exact HO649.out) (Kd.R_base ho0) hb); have n4_ := Aside0.mk (Kd.R_elder' (by (with_reducible repeat (first | apply Kd.R_alloc | apply Kd.R_drewN | apply Kd.R_drew)); exact HO653.out) (Kd.R_base ho0) hb); have n5_ := Aside0.mk (Kd.R_lower (Kd.R_new' (Kd.R_new' (Kd.R_new' (Kd.R_new' (Kd.R_new' ho0 (Kd.R_lt (by (with_reducible repeat (first | apply Kd.R_alloc | apply Kd.R_drewN | apply Kd.R_drew)); exact HO636.out))) (Kd.R_lt (by (with_reducible repeat (first | apply Kd.R_alloc | apply Kd.R_drewN | apply Kd.R_drew)); exact HO639.out))) (Kd.R_lt (by (with_reducible repeat (first | apply Kd.R_alloc | apply Kd.R_drewN | apply Kd.R_drew)); exact HO643.out))) (Kd.R_lt (by (with_reducible repeat (first | apply Kd.R_alloc | apply Kd.R_drewN | apply Kd.R_drew)); exact HO649.out))) (Kd.R_lt (by (with_reducible repeat (first | apply Kd.R_alloc | apply Kd.R_drewN | apply Kd.R_drew)); exact HO653.out))) (below_size (by repeat (first | (with_reducible first | exact HB.out | apply below_alloc | apply pw_below_drewN | apply below_drew1 | refine below_set ?_ GE631.out | refine below_set ?_ GE645.out | refine below_set ?_ GE650.out) | exact HB.out)))); have n6_ := Aside0.mk (blk_below (g := gb631) (o := .cells #[.int .i64 a0_0, .slice A0_1 l0_1.length c0_1] 41 (0, 0)) (by (with_reducible repeat (first | refine blk_drewN ?_ _ | refine blk_drew ?_ | refine blk_alloc ?_ _)); exact BK631.out) hb); have n7_ := Aside0.mk (blk_below (g := gb645) (o := .cells #[.int .i64 t640, .slice Ao29 t641.length co29] 24 (0, 0)) (by (with_reducible repeat (first | refine blk_drewN ?_ _ | refine blk_drew ?_ | refine blk_alloc ?_ _)); exact BK645.out) hb); have n8_ := Aside0.mk (blk_below (g := gb650) (o := .cells #[.int .i64 t646, .slice Ao36 t647.length co36] 24 (0, 0)) (by (with_reducible repeat (first | refine blk_drewN ?_ _ | refine blk_drew ?_ | refine blk_alloc ?_ _)); exact BK650.out) hb); have n9_ := Aside0.mk (below_step (by repeat (first | (with_reducible first | exact HB.out | apply below_alloc | apply pw_below_drewN | apply below_drew1 | refine below_set ?_ GE631.out | refine below_set ?_ GE645.out | refine below_set ?_ GE650.out) | exact HB.out)) hb); clear HO636; clear HO639; clear HO643; clear HO649; clear HO653; clear BK631; clear BK645; clear BK650; clear HB; have HO636 := n0_; have HO639 := n1_; have HO643 := n2_; have HO649 := n3_; have HO653 := n4_; have HO657 := n5_; have BK631 := n6_; have BK645 := n7_; have BK650 := n8_; have HB := n9_; clear n0_ n1_ n2_ n3_ n4_ n5_ n6_ n7_ n8_ n9_; (try clear hb); (try clear hb2); (try clear hk); (try clear hi); (try clear ho0)) | ((with_reducible refine gate_dst (N := 10) rfl ?_); refine box_event ?hg (N := 10) ?hd (cs := #[.int .i64 0, .slice none 0 0]) (t := 24) ?hr ?_; (case hd => rfl); (case hg => rfl); (case hr => first | (go_simp; done) | (go_simp; rfl)); intro gb659 hg w41 hbox hb; have n0_ := Aside0.mk (Kd.R_below (by (with_reducible repeat (first | apply Kd.R_alloc | apply Kd.R_drewN | apply Kd.R_drew)); exact HO636.out) hb); have n1_ := Aside0.mk (Kd.R_below (by (with_reducible repeat (first | apply Kd.R_alloc | apply Kd.R_drewN | apply Kd.R_drew)); exact HO639.out) hb); have n2_ := Aside0.mk (Kd.R_below (by (with_reducible repeat (first | apply Kd.R_alloc | apply Kd.R_drewN | apply Kd.R_drew)); exact HO643.out) hb); have n3_ := Aside0.mk (Kd.R_below (by (with_reducible repeat (first | apply Kd.R_alloc | apply Kd.R_drewN | apply Kd.R_drew)); exact HO649.out) hb); have n4_ := Aside0.mk (Kd.R_below (by (with_reducible repeat (first | apply Kd.R_alloc | apply Kd.R_drewN | apply Kd.R_drew)); exact HO653.out) hb); have n5_ := Aside0.mk (Kd.R_below (by (with_reducible repeat (first | apply Kd.R_alloc | apply Kd.R_drewN | apply Kd.R_drew)); exact HO657.out) hb); have n6_ := Aside0.mk (blk_below (g := gb631) (o := .cells #[.int .i64 a0_0, .slice A0_1 l0_1.length c0_1] 41 (0, 0)) (by (with_reducible repeat (first | refine blk_drewN ?_ _ | refine blk_drew ?_ | refine blk_alloc ?_ _)); exact BK631.out) hb); have n7_ := Aside0.mk (blk_below (g := gb645) (o := .cells #[.int .i64 t640, .slice Ao29 t641.length co29] 24 (0, 0)) (by (with_reducible repeat (first | refine blk_drewN ?_ _ | refine blk_drew ?_ | refine blk_alloc ?_ _)); exact BK645.out) hb); have n8_ := Aside0.mk (blk_below (g := gb650) (o := .cells #[.int .i64 t646, .slice Ao36 t647.length co36] 24 (0, 0)) (by (with_reducible repeat (first | refine blk_drewN ?_ _ | refine blk_drew ?_ | refine blk_alloc ?_ _)); exact BK650.out) hb); have n9_ := Aside0.mk (below_step (by repeat (first | (with_reducible first | exact HB.out | apply below_alloc | apply pw_below_drewN | apply below_drew1 | refine below_set ?_ GE631.out | refine below_set ?_ GE645.out | refine below_set ?_ GE650.out) | exact HB.out)) hb); have n10_ := Aside0.mk (hbox); have n11_ := Aside0.mk ((by rw [hg]; exact (below_size (by repeat (first | (with_reducible first | exact HB.out | apply below_alloc | apply pw_below_drewN | apply below_drew1 | refine below_set ?_ GE631.out | refine below_set ?_ GE645.out | refine below_set ?_ GE650.out) | exact HB.out))) : w.heap.size ≤ gb659)); have n12_ := Aside0.mk ((by rw [hg]; exact (below_size (by repeat (first | (with_reducible first | exact HB.out | apply below_alloc | apply pw_below_drewN | apply below_drew1 | refine below_set ?_ GE631.out | refine below_set ?_ GE645.out | refine below_set ?_ GE650.out) | exact HB.out))) : w.heap.size ≤ gb659)); have n13_ := Aside0.mk ((by rw [hg]; exact Nat.ne_of_lt (blk_lt (g := gb631) (o := .cells #[.int .i64 a0_0, .slice A0_1 l0_1.length c0_1] 41 (0, 0)) (by (with_reducible repeat (first | refine blk_drewN ?_ _ | refine blk_drew ?_ | refine blk_alloc ?_ _)); exact BK631.out)) : gb631 ≠ gb659)); have n14_ := Aside0.mk ((by rw [hg]; exact Nat.ne_of_gt (blk_lt (g := gb631) (o := .cells #[.int .i64 a0_0, .slice A0_1 l0_1.length c0_1] 41 (0, 0)) (by (with_reducible repeat (first | refine blk_drewN ?_ _ | refine blk_drew ?_ | refine blk_alloc ?_ _)); exact BK631.out)) : gb659 ≠ gb631)); have n15_ := Aside0.mk ((by rw [hg]; exact Nat.ne_of_lt (blk_lt (g := gb645) (o := .cells #[.int .i64 t640, .slice Ao29 t641.length co29] 24 (0, 0)) (by (with_reducible repeat (first | refine blk_drewN ?_ _ | refine blk_drew ?_ | refine blk_alloc ?_ _)); exact BK645.out)) : gb645 ≠ gb659)); have n16_ := Aside0.mk ((by rw [hg]; exact Nat.ne_of_gt (blk_lt (g := gb645) (o := .cells #[.int .i64 t640, .slice Ao29 t641.length co29] 24 (0, 0)) (by (with_reducible repeat (first | refine blk_drewN ?_ _ | refine blk_drew ?_ | refine blk_alloc ?_ _)); exact BK645.out)) : gb659 ≠ gb645)); have n17_ := Aside0.mk ((by rw [hg]; exact Nat.ne_of_lt (blk_lt (g := gb650) (o := .cells #[.int .i64 t646, .slice Ao36 t647.length co36] 24 (0, 0)) (by (with_reducible repeat (first | refine blk_drewN ?_ _ | refine blk_drew ?_ | refine blk_alloc ?_ _)); exact BK650.out)) : gb650 ≠ gb659)); have n18_ := Aside0.mk ((by rw [hg]; exact Nat.ne_of_gt (blk_lt (g := gb650) (o := .cells #[.int .i64 t646, .slice Ao36 t647.length co36] 24 (0, 0)) (by (with_reducible repeat (first | refine blk_drewN ?_ _ | refine blk_drew ?_ | refine blk_alloc ?_ _)); exact BK650.out)) : gb659 ≠ gb650)); clear HO636; clear HO639; clear HO643; clear HO649; clear HO653; clear HO657; clear BK631; clear BK645; clear BK650; clear HB; have HO636 := n0_; have HO639 := n1_; have HO643 := n2_; have HO649 := n3_; have HO653 := n4_; have HO657 := n5_; have BK631 := n6_; have BK645 := n7_; have BK650 := n8_; have HB := n9_; have BK659 := n10_; have GW659 := n11_; have GE659 := n12_; have NB631_659 := n13_; have NB659_631 := n14_; have NB645_659 := n15_; have NB659_645 := n16_; have NB650_659 := n17_; have NB659_650 := n18_; clear n0_ n1_ n2_ n3_ n4_ n5_ n6_ n7_ n8_ n9_ n10_ n11_ n12_ n13_ n14_ n15_ n16_ n17_ n18_; clear hb hbox hg; have hnb42 := NB659_631.out; have hnc42 := NB631_659.out; have hnb43 := NB659_645.out; have hnc43 := NB645_659.out; have hnb44 := NB659_650.out; have hnc44 := NB650_659.out; have hcz45_0 : w41.cell? ⟨gb659, 0, none⟩ = some (.int .i64 0) := (blk_cell BK659.out 0).trans rfl; have hcz45_1 : w41.cell? ⟨gb659, 1, none⟩ = some (.slice none 0 0) := (blk_cell BK659.out 1).trans rfl; have hfz45_0 := blk_frozen BK659.out 0; have hfz45_1 := blk_frozen BK659.out 1; obtain ⟨Ao46, co46, eo46⟩ := Kd.R_slice HO657.out; subst eo46))
      (try simp only [Act.put, List.setIfInBounds_toArray, List.set_cons_zero, List.set_cons_succ])
      go_cut [51] (fun v51 wc => ∃ (kq : Nat) (x51_15 : Bool), v51 = .bool x51_15 ∧ Aside0 (laws_FnExactReorderTable.j0 kq l1 t644 t651 t658 x51_15 a0_0 l0_1 t640 t641 t646 t647 t654 t655 = some true) ∧ Aside0 (kq ≤ k) ∧ Aside0 (Kd.R (Kd.int .i64) 3 wc w.heap.size (fun k_ => some k_ ≠ ((.slice Ao29 t641.length co29) : Value).ownBlock ∧ some k_ ≠ ((.slice Ao36 t647.length co36) : Value).ownBlock ∧ some k_ ≠ ((.slice Ao46 t655.length co46) : Value).ownBlock) (.slice Ao39 t651.length co39) t651) ∧ Aside0 (Kd.R (Kd.int .i64) 3 wc w.heap.size (fun k_ => some k_ ≠ ((.slice Ao39 t651.length co39) : Value).ownBlock ∧ some k_ ≠ ((.slice Ao36 t647.length co36) : Value).ownBlock ∧ some k_ ≠ ((.slice Ao46 t655.length co46) : Value).ownBlock) (.slice Ao29 t641.length co29) t641) ∧ Aside0 (Kd.R (Kd.int .i64) 3 wc w.heap.size (fun k_ => some k_ ≠ ((.slice Ao39 t651.length co39) : Value).ownBlock ∧ some k_ ≠ ((.slice Ao29 t641.length co29) : Value).ownBlock ∧ some k_ ≠ ((.slice Ao46 t655.length co46) : Value).ownBlock) (.slice Ao36 t647.length co36) t647) ∧ Aside0 (Kd.R (Kd.int .i64) 3 wc w.heap.size (fun k_ => some k_ ≠ ((.slice Ao39 t651.length co39) : Value).ownBlock ∧ some k_ ≠ ((.slice Ao29 t641.length co29) : Value).ownBlock ∧ some k_ ≠ ((.slice Ao36 t647.length co36) : Value).ownBlock) (.slice Ao46 t655.length co46) t655) ∧ Aside0 (wc.heap[gb631]? = some (.cells #[.int .i64 a0_0, (.slice A0_1 l0_1.length c0_1)] 41 (0, 0))) ∧ Aside0 (wc.heap[gb645]? = some (.cells #[.int .i64 t640, (.slice Ao29 t641.length co29)] 24 (0, 0))) ∧ Aside0 (wc.heap[gb650]? = some (.cells #[.int .i64 t646, (.slice Ao36 t647.length co36)] 24 (0, 0))) ∧ Aside0 (wc.heap[gb659]? = some (.cells #[.int .i64 t654, (.slice Ao46 t655.length co46)] 24 (0, 0))) ∧ Aside0 (Below w.heap.size w wc))
      case first =>
        have H := HC16.out
        clear HC16
        replace H := Option.bind_eq_some_iff.mp H
        obtain ⟨t660, A470, H⟩ := H
        replace H : (if t660 = true then (laws_FnExactReorderTable.j0 k l1 t644 t651 t658 (t658 != t644) a0_0 l0_1 t640 t641 t646 t647 t654 t655) else (laws_FnExactReorderTable.j0 k l1 t644 t651 t658 true a0_0 l0_1 t640 t641 t646 t647 t654 t655)) = some true := H
        have A47 := Aside0.mk A470
        clear A470
        by_cases c48 : t660 = true
        · subst c48
          have H1 : (laws_FnExactReorderTable.j0 k l1 t644 t651 t658 (t658 != t644) a0_0 l0_1 t640 t641 t646 t647 t654 t655) = some true := by rw [if_pos rfl] at H; exact H
          clear H
          have H := H1
          clear H1
          have H' := Aside0.mk H
          clear H
          have hnb49 := NB659_631.out
          have hnc49 := NB631_659.out
          have hnb50 := NB659_645.out
          have hnc50 := NB645_659.out
          have hnb51 := NB659_650.out
          have hnc51 := NB650_659.out
          have hcz52_0 : w41.cell? ⟨gb659, 0, none⟩ = some (.int .i64 0) := (blk_cell BK659.out 0).trans rfl
          have hcz52_1 : w41.cell? ⟨gb659, 1, none⟩ = some (.slice none 0 0) := (blk_cell BK659.out 1).trans rfl
          have hfz52_0 := blk_frozen BK659.out 0
          have hfz52_1 := blk_frozen BK659.out 1
          have hnb53 := NB645_631.out
          have hnc53 := NB631_645.out
          have hnb54 := NB645_650.out
          have hnc54 := NB650_645.out
          have hcz55_0 : w41.cell? ⟨gb645, 0, none⟩ = some (.int .i64 t640) := (blk_cell BK645.out 0).trans rfl
          have hcz55_1 : w41.cell? ⟨gb645, 1, none⟩ = some (.slice Ao29 t641.length co29) := (blk_cell BK645.out 1).trans rfl
          have hfz55_0 := blk_frozen BK645.out 0
          have hfz55_1 := blk_frozen BK645.out 1
          go_wp2_with (first | ((with_reducible refine gate_callee (f := 16) rfl ?_); refine goesL_ (some 45) rfl rfl Try.func16 (by kernel_rfl) rfl #[.agg #[.int .i64 t654, .slice Ao46 t655.length co46], .agg #[.int .i64 t640, .slice Ao29 t641.length co29]] rfl (by (try simp only [List.map_toArray, List.map_cons, List.map_nil]); first | done | rfl | (simp only [List.length_drop, List.length_take]; rfl)) ?_; (with_reducible refine (laws_eqTable.calls k t654 _ _ t655 t640 _ _ t641 true _ ?side1 ?side2 ?side3 ?side4 A47.out).mono ?_); (case side1 => refine (Kd.R_reads' (e := 3) (base := w.heap.size) (ok := fun k_ => (((((True ∧ some k_ ≠ (.slice Ao23 t634.length co23 : Value).ownBlock) ∧ some k_ ≠ (.slice Ao24 t637.length co24 : Value).ownBlock) ∧ some k_ ≠ (.slice Ao29 t641.length co29 : Value).ownBlock) ∧ some k_ ≠ (.slice Ao36 t647.length co36 : Value).ownBlock) ∧ some k_ ≠ (.slice Ao39 t651.length co39 : Value).ownBlock)) (n := t655.length) (c := co46) ?_).2.2; exact (by (with_reducible repeat (first | apply Kd.R_alloc | apply Kd.R_drewN | apply Kd.R_drew)); exact (Kd.R_mono (Kd.R_far (p := ⟨gb659, 1, none⟩) (Kd.R_far (p := ⟨gb659, 0, none⟩) (Kd.R_types HO657.out BK659.out (by decide)) (fun _ hk => hk.2) (.int .i64 t654)) (fun _ hk => hk.2) (.slice Ao46 t655.length co46)) (fun _ h_ => h_.1)))); (case side2 => exact (Kd.R_reads' HO657.out).2.1); (case side3 => refine (Kd.R_reads' (e := 3) (base := w.heap.size) (ok := fun k_ => (((((True ∧ some k_ ≠ (.slice Ao23 t634.length co23 : Value).ownBlock) ∧ some k_ ≠ (.slice Ao24 t637.length co24 : Value).ownBlock) ∧ some k_ ≠ (.slice Ao36 t647.length co36 : Value).ownBlock) ∧ some k_ ≠ (.slice Ao39 t651.length co39 : Value).ownBlock) ∧ some k_ ≠ (.slice Ao46 t655.length co46 : Value).ownBlock)) (n := t641.length) (c := co29) ?_).2.2; exact (by (with_reducible repeat (first | apply Kd.R_alloc | apply Kd.R_drewN | apply Kd.R_drew)); exact (Kd.R_mono (Kd.R_far (p := ⟨gb659, 1, none⟩) (Kd.R_far (p := ⟨gb659, 0, none⟩) (Kd.R_types HO643.out BK659.out (by decide)) (fun _ hk => hk.2) (.int .i64 t654)) (fun _ hk => hk.2) (.slice Ao46 t655.length co46)) (fun _ h_ => h_.1)))); (case side4 => exact (Kd.R_reads' HO643.out).2.1); rintro e w56 ⟨rfl, hb⟩; refine ⟨_, rfl, ?_⟩; have n0_ := Aside0.mk (Kd.R_below (by (with_reducible repeat (first | apply Kd.R_alloc | apply Kd.R_drewN | apply Kd.R_drew)); exact (Kd.R_mono (Kd.R_far (p := ⟨gb659, 1, none⟩) (Kd.R_far (p := ⟨gb659, 0, none⟩) (Kd.R_types HO636.out BK659.out (by decide)) (fun _ hk => hk.2) (.int .i64 t654)) (fun _ hk => hk.2) (.slice Ao46 t655.length co46)) (fun _ h_ => h_.1))) hb); have n1_ := Aside0.mk (Kd.R_below (by (with_reducible repeat (first | apply Kd.R_alloc | apply Kd.R_drewN | apply Kd.R_drew)); exact (Kd.R_mono (Kd.R_far (p := ⟨gb659, 1, none⟩) (Kd.R_far (p := ⟨gb659, 0, none⟩) (Kd.R_types HO639.out BK659.out (by decide)) (fun _ hk => hk.2) (.int .i64 t654)) (fun _ hk => hk.2) (.slice Ao46 t655.length co46)) (fun _ h_ => h_.1))) hb); have n2_ := Aside0.mk (Kd.R_below (by (with_reducible repeat (first | apply Kd.R_alloc | apply Kd.R_drewN | apply Kd.R_drew)); exact (Kd.R_mono (Kd.R_far (p := ⟨gb659, 1, none⟩) (Kd.R_far (p := ⟨gb659, 0, none⟩) (Kd.R_types HO643.out BK659.out (by decide)) (fun _ hk => hk.2) (.int .i64 t654)) (fun _ hk => hk.2) (.slice Ao46 t655.length co46)) (fun _ h_ => h_.1))) hb); have n3_ := Aside0.mk (Kd.R_below (by (with_reducible repeat (first | apply Kd.R_alloc | apply Kd.R_drewN | apply Kd.R_drew)); exact (Kd.R_mono (Kd.R_far (p := ⟨gb659, 1, none⟩) (Kd.R_far (p := ⟨gb659, 0, none⟩) (Kd.R_types HO649.out BK659.out (by decide)) (fun _ hk => hk.2) (.int .i64 t654)) (fun _ hk => hk.2) (.slice Ao46 t655.length co46)) (fun _ h_ => h_.1))) hb); have n4_ := Aside0.mk (Kd.R_below (by (with_reducible repeat (first | apply Kd.R_alloc | apply Kd.R_drewN | apply Kd.R_drew)); exact (Kd.R_mono (Kd.R_far (p := ⟨gb659, 1, none⟩) (Kd.R_far (p := ⟨gb659, 0, none⟩) (Kd.R_types HO653.out BK659.out (by decide)) (fun _ hk => hk.2) (.int .i64 t654)) (fun _ hk => hk.2) (.slice Ao46 t655.length co46)) (fun _ h_ => h_.1))) hb); have n5_ := Aside0.mk (Kd.R_below (by (with_reducible repeat (first | apply Kd.R_alloc | apply Kd.R_drewN | apply Kd.R_drew)); exact (Kd.R_mono (Kd.R_far (p := ⟨gb659, 1, none⟩) (Kd.R_far (p := ⟨gb659, 0, none⟩) (Kd.R_types HO657.out BK659.out (by decide)) (fun _ hk => hk.2) (.int .i64 t654)) (fun _ hk => hk.2) (.slice Ao46 t655.length co46)) (fun _ h_ => h_.1))) hb); have n6_ := Aside0.mk (blk_below (g := gb631) (o := .cells #[.int .i64 a0_0, .slice A0_1 l0_1.length c0_1] 41 (0, 0)) (by (with_reducible repeat (first | refine blk_drewN ?_ _ | refine blk_drew ?_ | refine blk_alloc ?_ _)); refine blk_far ?_ NB631_659.out _; (with_reducible repeat (first | refine blk_drewN ?_ _ | refine blk_drew ?_ | refine blk_alloc ?_ _)); refine blk_far ?_ NB631_659.out _; (with_reducible repeat (first | refine blk_drewN ?_ _ | refine blk_drew ?_ | refine blk_alloc ?_ _)); exact BK631.out) hb); have n7_ := Aside0.mk (blk_below (g := gb645) (o := .cells #[.int .i64 t640, .slice Ao29 t641.length co29] 24 (0, 0)) (by (with_reducible repeat (first | refine blk_drewN ?_ _ | refine blk_drew ?_ | refine blk_alloc ?_ _)); refine blk_far ?_ NB645_659.out _; (with_reducible repeat (first | refine blk_drewN ?_ _ | refine blk_drew ?_ | refine blk_alloc ?_ _)); refine blk_far ?_ NB645_659.out _; (with_reducible repeat (first | refine blk_drewN ?_ _ | refine blk_drew ?_ | refine blk_alloc ?_ _)); exact BK645.out) hb); have n8_ := Aside0.mk (blk_below (g := gb650) (o := .cells #[.int .i64 t646, .slice Ao36 t647.length co36] 24 (0, 0)) (by (with_reducible repeat (first | refine blk_drewN ?_ _ | refine blk_drew ?_ | refine blk_alloc ?_ _)); refine blk_far ?_ NB650_659.out _; (with_reducible repeat (first | refine blk_drewN ?_ _ | refine blk_drew ?_ | refine blk_alloc ?_ _)); refine blk_far ?_ NB650_659.out _; (with_reducible repeat (first | refine blk_drewN ?_ _ | refine blk_drew ?_ | refine blk_alloc ?_ _)); exact BK650.out) hb); have n9_ := Aside0.mk (blk_below (g := gb659) (o := .cells #[.int .i64 t654, .slice Ao46 t655.length co46] 24 (0, 0)) (by (with_reducible repeat (first | refine blk_drewN ?_ _ | refine blk_drew ?_ | refine blk_alloc ?_ _)); refine blk_put (cs := #[.int .i64 t654, .slice none 0 0]) ?_ 1 _ rfl; (with_reducible repeat (first | refine blk_drewN ?_ _ | refine blk_drew ?_ | refine blk_alloc ?_ _)); refine blk_put (cs := #[.int .i64 0, .slice none 0 0]) ?_ 0 _ rfl; (with_reducible repeat (first | refine blk_drewN ?_ _ | refine blk_drew ?_ | refine blk_alloc ?_ _)); exact BK659.out) hb); have n10_ := Aside0.mk (below_step (by repeat (first | (with_reducible first | exact HB.out | apply below_alloc | apply pw_below_drewN | apply below_drew1 | refine below_set ?_ GE631.out | refine below_set ?_ GE645.out | refine below_set ?_ GE650.out | refine below_set ?_ GE659.out) | exact HB.out)) hb); clear HO636; clear HO639; clear HO643; clear HO649; clear HO653; clear HO657; clear BK631; clear BK645; clear BK650; clear BK659; clear HB; have HO636 := n0_; have HO639 := n1_; have HO643 := n2_; have HO649 := n3_; have HO653 := n4_; have HO657 := n5_; have BK631 := n6_; have BK645 := n7_; have BK650 := n8_; have BK659 := n9_; have HB := n10_; clear n0_ n1_ n2_ n3_ n4_ n5_ n6_ n7_ n8_ n9_ n10_; (try clear hb); (try clear hb2); (try clear hk); (try clear hi)))
          go_meet
          case rel => exact ⟨_, ((t658 != t644)), (by first | rfl | (simp; done) | (simp [*]; done)), H', ⟨by first | omega | exact Nat.le_refl _⟩, ⟨by (with_reducible repeat (first | apply Kd.R_alloc | apply Kd.R_drewN | apply Kd.R_drew)); exact Kd.R_mono HO653.out (fun _ hk => ⟨hk.1.1.2, ⟨hk.1.2, hk.2⟩⟩)⟩, ⟨by (with_reducible repeat (first | apply Kd.R_alloc | apply Kd.R_drewN | apply Kd.R_drew)); exact Kd.R_mono HO643.out (fun _ hk => ⟨hk.1.2, ⟨hk.1.1.2, hk.2⟩⟩)⟩, ⟨by (with_reducible repeat (first | apply Kd.R_alloc | apply Kd.R_drewN | apply Kd.R_drew)); exact Kd.R_mono HO649.out (fun _ hk => ⟨hk.1.2, ⟨hk.1.1.2, hk.2⟩⟩)⟩, ⟨by (with_reducible repeat (first | apply Kd.R_alloc | apply Kd.R_drewN | apply Kd.R_drew)); exact Kd.R_mono HO657.out (fun _ hk => ⟨hk.2, ⟨hk.1.1.2, hk.1.2⟩⟩)⟩, ⟨by (with_reducible repeat (first | refine blk_drewN ?_ _ | refine blk_drew ?_ | refine blk_alloc ?_ _)); exact BK631.out⟩, ⟨by (with_reducible repeat (first | refine blk_drewN ?_ _ | refine blk_drew ?_ | refine blk_alloc ?_ _)); exact BK645.out⟩, ⟨by (with_reducible repeat (first | refine blk_drewN ?_ _ | refine blk_drew ?_ | refine blk_alloc ?_ _)); exact BK650.out⟩, ⟨by (with_reducible repeat (first | refine blk_drewN ?_ _ | refine blk_drew ?_ | refine blk_alloc ?_ _)); exact BK659.out⟩, ⟨by repeat (first | (with_reducible first | exact HB.out | apply below_alloc | apply pw_below_drewN | apply below_drew1 | refine below_set ?_ GE631.out | refine below_set ?_ GE645.out | refine below_set ?_ GE650.out | refine below_set ?_ GE659.out) | exact HB.out)⟩⟩
        · replace c48 := Bool.eq_false_iff.mpr c48
          subst c48
          have H1 : (laws_FnExactReorderTable.j0 k l1 t644 t651 t658 true a0_0 l0_1 t640 t641 t646 t647 t654 t655) = some true := by rw [if_neg (show ¬ (false = true) by decide)] at H; exact H
          exact absurd H1 (by cases k <;> simp [laws_FnExactReorderTable.j0])
      case rest =>
        clear HC16
        try clear c1
        try clear c2
        try clear p2
        try clear c3
        try clear c3b0
        try clear c3b1
        try clear c4
        try clear c5
        try clear c6
        try clear c6b0
        try clear c9
        try clear c16
        try clear c27
        try clear c28
        try clear c30
        try clear c33
        try clear c34
        try clear c38
        try clear c39
        try clear c40
        try clear c42
        try clear c43
        try clear c44
        try clear c48
        try clear c49
        try clear c50
        try clear c51
        try clear c53
        try clear c54
        try clear c57
        try clear c58
        try clear c59
        try clear c61
        try clear c62
        try clear hcz18_0
        try clear hcz18_1
        try clear hcz20_0
        try clear hcz20_1
        try clear hcz28_0
        try clear hcz28_1
        try clear hcz30_0
        try clear hcz30_1
        try clear hcz35_0
        try clear hcz35_1
        try clear hcz38_0
        try clear hcz38_1
        try clear hcz45_0
        try clear hcz45_1
        try clear hcz52_0
        try clear hcz52_1
        try clear hcz55_0
        try clear hcz55_1
        try clear hcz60_0
        try clear hcz60_1
        try clear hcz63_0
        try clear hcz63_1
        try clear hcz8_0
        try clear hcz8_1
        try clear hfz18_0
        try clear hfz18_1
        try clear hfz20_0
        try clear hfz20_1
        try clear hfz28_0
        try clear hfz28_1
        try clear hfz30_0
        try clear hfz30_1
        try clear hfz35_0
        try clear hfz35_1
        try clear hfz38_0
        try clear hfz38_1
        try clear hfz45_0
        try clear hfz45_1
        try clear hfz52_0
        try clear hfz52_1
        try clear hfz55_0
        try clear hfz55_1
        try clear hfz60_0
        try clear hfz60_1
        try clear hfz63_0
        try clear hfz63_1
        try clear hfz8_0
        try clear hfz8_1
        obtain ⟨kq, x51_15, rfl, HA, HJ15, HO_9, HO_646001, HO_651001, HO_660001, BK631, BK645, BK650, BK659, HB⟩ := hcut
        cases kq with
        | zero => exact absurd HA.out (by simp [laws_FnExactReorderTable.j0])
        | succ kj15 =>
          have H := HA.out
          clear HA
          simp only [laws_FnExactReorderTable.j0] at H
          by_cases c65 : x51_15 = true
          · subst c65
            have H1 : (some false) = some true := by rw [if_pos rfl] at H; exact H
            exact absurd H1 (by simp)
          · replace c65 := Bool.eq_false_iff.mpr c65
            subst c65
            have H1 : ((laws_toTable.f kj15 a0_0 l0_1).bind fun bt661 => ((laws_eqTable.f kj15 t646 t647 bt661.1 bt661.2).bind fun t665 => (if t665 = true then ((laws_toIntS.f kj15 l1).bind fun t666 => ((laws_eqIntS.f kj15 t651 t666).bind fun t669 => (if t669 = true then ((laws_markTable.f kj15 t646 t647 1).bind fun bt670 => ((laws_markIntS.f kj15 t651 bt670.1).bind fun bt672 => (if bt672.1 < 0 then (laws_FnExactReorderTable.j1 kj15 l1 t644 true a0_0 l0_1 t640 t641 t654 t655) else ((laws_eqTable.f kj15 t654 t655 t640 t641).bind fun t674 => (if t674 = true then (laws_FnExactReorderTable.j1 kj15 l1 t644 (t658 != t644) a0_0 l0_1 t640 t641 t654 t655) else (laws_FnExactReorderTable.j1 kj15 l1 t644 true a0_0 l0_1 t640 t641 t654 t655)))))) else (some false)))) else (some false)))) = some true := by rw [if_neg (show ¬ (false = true) by decide)] at H; exact H
            clear H
            have H := H1
            clear H1
            replace H := Option.bind_eq_some_iff.mp H
            obtain ⟨⟨t661, t662⟩, A660, H⟩ := H
            replace H : ((laws_eqTable.f kj15 t646 t647 t661 t662).bind fun t665 => (if t665 = true then ((laws_toIntS.f kj15 l1).bind fun t666 => ((laws_eqIntS.f kj15 t651 t666).bind fun t669 => (if t669 = true then ((laws_markTable.f kj15 t646 t647 1).bind fun bt670 => ((laws_markIntS.f kj15 t651 bt670.1).bind fun bt672 => (if bt672.1 < 0 then (laws_FnExactReorderTable.j1 kj15 l1 t644 true a0_0 l0_1 t640 t641 t654 t655) else ((laws_eqTable.f kj15 t654 t655 t640 t641).bind fun t674 => (if t674 = true then (laws_FnExactReorderTable.j1 kj15 l1 t644 (t658 != t644) a0_0 l0_1 t640 t641 t654 t655) else (laws_FnExactReorderTable.j1 kj15 l1 t644 true a0_0 l0_1 t640 t641 t654 t655)))))) else (some false)))) else (some false))) = some true := H
            have A66 := Aside0.mk A660
            clear A660
            replace H := Option.bind_eq_some_iff.mp H
            obtain ⟨t665, A670, H⟩ := H
            replace H : (if t665 = true then ((laws_toIntS.f kj15 l1).bind fun t666 => ((laws_eqIntS.f kj15 t651 t666).bind fun t669 => (if t669 = true then ((laws_markTable.f kj15 t646 t647 1).bind fun bt670 => ((laws_markIntS.f kj15 t651 bt670.1).bind fun bt672 => (if bt672.1 < 0 then (laws_FnExactReorderTable.j1 kj15 l1 t644 true a0_0 l0_1 t640 t641 t654 t655) else ((laws_eqTable.f kj15 t654 t655 t640 t641).bind fun t674 => (if t674 = true then (laws_FnExactReorderTable.j1 kj15 l1 t644 (t658 != t644) a0_0 l0_1 t640 t641 t654 t655) else (laws_FnExactReorderTable.j1 kj15 l1 t644 true a0_0 l0_1 t640 t641 t654 t655)))))) else (some false)))) else (some false)) = some true := H
            have A67 := Aside0.mk A670
            clear A670
            by_cases c68 : t665 = true
            · subst c68
              have H1 : ((laws_toIntS.f kj15 l1).bind fun t666 => ((laws_eqIntS.f kj15 t651 t666).bind fun t669 => (if t669 = true then ((laws_markTable.f kj15 t646 t647 1).bind fun bt670 => ((laws_markIntS.f kj15 t651 bt670.1).bind fun bt672 => (if bt672.1 < 0 then (laws_FnExactReorderTable.j1 kj15 l1 t644 true a0_0 l0_1 t640 t641 t654 t655) else ((laws_eqTable.f kj15 t654 t655 t640 t641).bind fun t674 => (if t674 = true then (laws_FnExactReorderTable.j1 kj15 l1 t644 (t658 != t644) a0_0 l0_1 t640 t641 t654 t655) else (laws_FnExactReorderTable.j1 kj15 l1 t644 true a0_0 l0_1 t640 t641 t654 t655)))))) else (some false)))) = some true := by rw [if_pos rfl] at H; exact H
              clear H
              have H := H1
              clear H1
              replace H := Option.bind_eq_some_iff.mp H
              obtain ⟨t666, A690, H⟩ := H
              replace H : ((laws_eqIntS.f kj15 t651 t666).bind fun t669 => (if t669 = true then ((laws_markTable.f kj15 t646 t647 1).bind fun bt670 => ((laws_markIntS.f kj15 t651 bt670.1).bind fun bt672 => (if bt672.1 < 0 then (laws_FnExactReorderTable.j1 kj15 l1 t644 true a0_0 l0_1 t640 t641 t654 t655) else ((laws_eqTable.f kj15 t654 t655 t640 t641).bind fun t674 => (if t674 = true then (laws_FnExactReorderTable.j1 kj15 l1 t644 (t658 != t644) a0_0 l0_1 t640 t641 t654 t655) else (laws_FnExactReorderTable.j1 kj15 l1 t644 true a0_0 l0_1 t640 t641 t654 t655)))))) else (some false))) = some true := H
              have A69 := Aside0.mk A690
              clear A690
              replace H := Option.bind_eq_some_iff.mp H
              obtain ⟨t669, A700, H⟩ := H
              replace H : (if t669 = true then ((laws_markTable.f kj15 t646 t647 1).bind fun bt670 => ((laws_markIntS.f kj15 t651 bt670.1).bind fun bt672 => (if bt672.1 < 0 then (laws_FnExactReorderTable.j1 kj15 l1 t644 true a0_0 l0_1 t640 t641 t654 t655) else ((laws_eqTable.f kj15 t654 t655 t640 t641).bind fun t674 => (if t674 = true then (laws_FnExactReorderTable.j1 kj15 l1 t644 (t658 != t644) a0_0 l0_1 t640 t641 t654 t655) else (laws_FnExactReorderTable.j1 kj15 l1 t644 true a0_0 l0_1 t640 t641 t654 t655)))))) else (some false)) = some true := H
              have A70 := Aside0.mk A700
              clear A700
              by_cases c71 : t669 = true
              · subst c71
                have H1 : ((laws_markTable.f kj15 t646 t647 1).bind fun bt670 => ((laws_markIntS.f kj15 t651 bt670.1).bind fun bt672 => (if bt672.1 < 0 then (laws_FnExactReorderTable.j1 kj15 l1 t644 true a0_0 l0_1 t640 t641 t654 t655) else ((laws_eqTable.f kj15 t654 t655 t640 t641).bind fun t674 => (if t674 = true then (laws_FnExactReorderTable.j1 kj15 l1 t644 (t658 != t644) a0_0 l0_1 t640 t641 t654 t655) else (laws_FnExactReorderTable.j1 kj15 l1 t644 true a0_0 l0_1 t640 t641 t654 t655)))))) = some true := by rw [if_pos rfl] at H; exact H
                clear H
                have H := H1
                clear H1
                replace H := Option.bind_eq_some_iff.mp H
                obtain ⟨⟨t670, t671⟩, A720, H⟩ := H
                replace H : ((laws_markIntS.f kj15 t651 t670).bind fun bt672 => (if bt672.1 < 0 then (laws_FnExactReorderTable.j1 kj15 l1 t644 true a0_0 l0_1 t640 t641 t654 t655) else ((laws_eqTable.f kj15 t654 t655 t640 t641).bind fun t674 => (if t674 = true then (laws_FnExactReorderTable.j1 kj15 l1 t644 (t658 != t644) a0_0 l0_1 t640 t641 t654 t655) else (laws_FnExactReorderTable.j1 kj15 l1 t644 true a0_0 l0_1 t640 t641 t654 t655))))) = some true := H
                have A72 := Aside0.mk A720
                clear A720
                replace H := Option.bind_eq_some_iff.mp H
                obtain ⟨⟨t672, t673⟩, A730, H⟩ := H
                replace H : (if t672 < 0 then (laws_FnExactReorderTable.j1 kj15 l1 t644 true a0_0 l0_1 t640 t641 t654 t655) else ((laws_eqTable.f kj15 t654 t655 t640 t641).bind fun t674 => (if t674 = true then (laws_FnExactReorderTable.j1 kj15 l1 t644 (t658 != t644) a0_0 l0_1 t640 t641 t654 t655) else (laws_FnExactReorderTable.j1 kj15 l1 t644 true a0_0 l0_1 t640 t641 t654 t655)))) = some true := H
                have A73 := Aside0.mk A730
                clear A730
                have HC74 := Aside0.mk H
                clear H
                try go_wp2
                have n0_ := Aside0.mk (Kd.R_drew HO_9.out)
                have n1_ := Aside0.mk (Kd.R_drew HO_646001.out)
                have n2_ := Aside0.mk (Kd.R_drew HO_651001.out)
                have n3_ := Aside0.mk (Kd.R_drew HO_660001.out)
                have n4_ := Aside0.mk (blk_drew BK631.out)
                have n5_ := Aside0.mk (blk_drew BK645.out)
                have n6_ := Aside0.mk (blk_drew BK650.out)
                have n7_ := Aside0.mk (blk_drew BK659.out)
                have n8_ := Aside0.mk (below_drew1 HB.out)
                clear HO_9
                clear HO_646001
                clear HO_651001
                clear HO_660001
                clear BK631
                clear BK645
                clear BK650
                clear BK659
                clear HB
                have HO_9 := n0_
                have HO_646001 := n1_
                have HO_651001 := n2_
                have HO_660001 := n3_
                have BK631 := n4_
                have BK645 := n5_
                have BK650 := n6_
                have BK659 := n7_
                have HB := n8_
                clear n0_ n1_ n2_ n3_ n4_ n5_ n6_ n7_ n8_
                refine start_ (n := 5) (S := fun w' => w'.cell? ⟨gb650, 0, none⟩ = some (.int .i64 t646) ∧ w'.cell? ⟨gb650, 1, none⟩ = some (.slice Ao36 t647.length co36) ∧ w'.cell? ⟨gb631, 0, none⟩ = some (.int .i64 a0_0) ∧ w'.cell? ⟨gb631, 1, none⟩ = some (.slice A0_1 l0_1.length c0_1)) (ds := []) #[false, false, false, false, false] (by kernel_rfl) rfl rfl ⟨(blk_cell BK650.out 0).trans rfl, (blk_cell BK650.out 1).trans rfl, (blk_cell BK631.out 0).trans rfl, (blk_cell BK631.out 1).trans rfl⟩ (fun hHeld => ?_)
                generalize wc.drew = w75 at HO_9 HO_646001 HO_651001 HO_660001 BK631 BK645 BK650 BK659 HB hHeld ⊢
                refine take_ (i := 0) (N := some 52) (v := ?_) (a' := ?_) #[true, false, false, false, false] rfl rfl (by kernel_rfl) (fun _ _ _ h => h) (Or.inl ⟨by rfl, ?_⟩) hHeld ?_ ?_
                rotate_left
                · rintro w' ⟨s0, s1, s2, s3⟩
                  go_simp
                  with_reducible rfl
                rotate_left
                · simp only [Act.put, List.setIfInBounds_toArray, List.set_cons_zero, List.set_cons_succ, i64_w, i32_w]
                  rfl
                refine take_ (i := 1) (N := some 53) (v := ?_) (a' := ?_) #[true, true, false, false, false] rfl rfl (by kernel_rfl) (fun _ _ _ h => h) (Or.inl ⟨by rfl, ?_⟩) hHeld ?_ ?_
                rotate_left
                · rintro w' ⟨s0, s1, s2, s3⟩
                  go_simp
                  with_reducible rfl
                rotate_left
                · simp only [Act.put, List.setIfInBounds_toArray, List.set_cons_zero, List.set_cons_succ, i64_w, i32_w]
                  rfl
                refine one_ (i := 2) (N := some 54) #[true, true, true, false, false] rfl rfl (by kernel_rfl) (by decide) (fun K hK => ?_)
                refine goes_ Try.func30 (by kernel_rfl) rfl #[.agg #[.int .i64 a0_0, .slice A0_1 l0_1.length c0_1]] (by rfl) rfl rfl (by (try simp only [List.map_toArray, List.map_cons, List.map_nil]); first | done | rfl | (simp only [List.length_drop, List.length_take]; rfl)) ?_
                with_reducible refine (laws_toTable.calls kj15 a0_0 _ _ l0_1 t661 t662 _ ?side1 ?side2 A66.out).mono ?_
                (case side1 => repeat (first | exact (Kd.C_below HR0_1.out HB.out) | (with_reducible refine Kd.C_alloc ?_ _) | (with_reducible refine Kd.C_drewN ?_ _) | (with_reducible refine Kd.C_drew ?_)))
                (case side2 => exact HC0_1.out)
                rintro e w76 ⟨v663, rfl, ho0, hb⟩
                refine ⟨_, rfl, ?_⟩
                have n0_ := Aside0.mk (Kd.R_elder' (by (with_reducible repeat (first | apply Kd.R_alloc | apply Kd.R_drewN | apply Kd.R_drew)); exact HO_9.out) (Kd.R_base ho0) hb)
                have n1_ := Aside0.mk (Kd.R_elder' (by (with_reducible repeat (first | apply Kd.R_alloc | apply Kd.R_drewN | apply Kd.R_drew)); exact HO_646001.out) (Kd.R_base ho0) hb)
                have n2_ := Aside0.mk (Kd.R_elder' (by (with_reducible repeat (first | apply Kd.R_alloc | apply Kd.R_drewN | apply Kd.R_drew)); exact HO_651001.out) (Kd.R_base ho0) hb)
                have n3_ := Aside0.mk (Kd.R_elder' (by (with_reducible repeat (first | apply Kd.R_alloc | apply Kd.R_drewN | apply Kd.R_drew)); exact HO_660001.out) (Kd.R_base ho0) hb)
                have n4_ := Aside0.mk (Kd.R_lower (Kd.R_new' (Kd.R_new' (Kd.R_new' (Kd.R_new' ho0 (Kd.R_lt (by (with_reducible repeat (first | apply Kd.R_alloc | apply Kd.R_drewN | apply Kd.R_drew)); exact HO_9.out))) (Kd.R_lt (by (with_reducible repeat (first | apply Kd.R_alloc | apply Kd.R_drewN | apply Kd.R_drew)); exact HO_646001.out))) (Kd.R_lt (by (with_reducible repeat (first | apply Kd.R_alloc | apply Kd.R_drewN | apply Kd.R_drew)); exact HO_651001.out))) (Kd.R_lt (by (with_reducible repeat (first | apply Kd.R_alloc | apply Kd.R_drewN | apply Kd.R_drew)); exact HO_660001.out))) (below_size (by repeat (first | (with_reducible first | exact HB.out | apply below_alloc | apply pw_below_drewN | apply below_drew1 | refine below_set ?_ GE631.out | refine below_set ?_ GE645.out | refine below_set ?_ GE650.out | refine below_set ?_ GE659.out) | exact HB.out))))
                have n5_ := Aside0.mk (blk_below (g := gb631) (o := .cells #[.int .i64 a0_0, .slice A0_1 l0_1.length c0_1] 41 (0, 0)) (by (with_reducible repeat (first | refine blk_drewN ?_ _ | refine blk_drew ?_ | refine blk_alloc ?_ _)); exact BK631.out) hb)
                have n6_ := Aside0.mk (blk_below (g := gb645) (o := .cells #[.int .i64 t640, .slice Ao29 t641.length co29] 24 (0, 0)) (by (with_reducible repeat (first | refine blk_drewN ?_ _ | refine blk_drew ?_ | refine blk_alloc ?_ _)); exact BK645.out) hb)
                have n7_ := Aside0.mk (blk_below (g := gb650) (o := .cells #[.int .i64 t646, .slice Ao36 t647.length co36] 24 (0, 0)) (by (with_reducible repeat (first | refine blk_drewN ?_ _ | refine blk_drew ?_ | refine blk_alloc ?_ _)); exact BK650.out) hb)
                have n8_ := Aside0.mk (blk_below (g := gb659) (o := .cells #[.int .i64 t654, .slice Ao46 t655.length co46] 24 (0, 0)) (by (with_reducible repeat (first | refine blk_drewN ?_ _ | refine blk_drew ?_ | refine blk_alloc ?_ _)); exact BK659.out) hb)
                have n9_ := Aside0.mk (below_step (by repeat (first | (with_reducible first | exact HB.out | apply below_alloc | apply pw_below_drewN | apply below_drew1 | refine below_set ?_ GE631.out | refine below_set ?_ GE645.out | refine below_set ?_ GE650.out | refine below_set ?_ GE659.out) | exact HB.out)) hb)
                clear HO_9
                clear HO_646001
                clear HO_651001
                clear HO_660001
                clear BK631
                clear BK645
                clear BK650
                clear BK659
                clear HB
                have HO_9 := n0_
                have HO_646001 := n1_
                have HO_651001 := n2_
                have HO_660001 := n3_
                have HO664 := n4_
                have BK631 := n5_
                have BK645 := n6_
                have BK650 := n7_
                have BK659 := n8_
                have HB := n9_
                clear n0_ n1_ n2_ n3_ n4_ n5_ n6_ n7_ n8_ n9_
                (try clear hb)
                (try clear hb2)
                (try clear hk)
                (try clear hi)
                (try clear ho0)
                obtain ⟨Ao77, co77, eo77⟩ := Kd.R_slice HO664.out
                (first | subst eo77 | (injection eo77 with f1_ f2_ f3_; have f4_ := f1_.symm; have f5_ := f3_.symm; clear f1_ f2_ f3_; subst f4_; subst f5_))
                refine hK.out _ _ ⟨(blk_cell BK650.out 0).trans rfl, (blk_cell BK650.out 1).trans rfl, (blk_cell BK631.out 0).trans rfl, (blk_cell BK631.out 1).trans rfl⟩ (fun hHeld => ?_)
                clear hK K
                refine norm_ (a' := ?_) ?_ ?_
                rotate_left
                · show Act.put _ (some 54) _ = _
                  simp only [Act.put, List.setIfInBounds_toArray, List.set_cons_zero, List.set_cons_succ, i64_w, i32_w]
                  rfl
                refine one_ (i := 3) (N := some 55) #[true, true, true, true, false] rfl rfl (by kernel_rfl) (by decide) (fun K hK => ?_)
                refine goes_ Try.func16 (by kernel_rfl) rfl #[.agg #[.int .i64 t646, .slice Ao36 t647.length co36], .agg #[.int .i64 t661, .slice Ao77 t662.length co77]] (by rfl) rfl rfl (by (try simp only [List.map_toArray, List.map_cons, List.map_nil]); first | done | rfl | (simp only [List.length_drop, List.length_take]; rfl)) ?_
                with_reducible refine (laws_eqTable.calls kj15 t646 _ _ t647 t661 _ _ t662 true _ ?side1 ?side2 ?side3 ?side4 A67.out).mono ?_
                (case side1 => repeat (first | exact (Kd.R_reads' HO_651001.out).2.2 | (with_reducible refine Kd.C_alloc ?_ _) | (with_reducible refine Kd.C_drewN ?_ _) | (with_reducible refine Kd.C_drew ?_)))
                (case side2 => exact (Kd.R_reads' HO_651001.out).2.1)
                (case side3 => repeat (first | exact (Kd.R_reads' HO664.out).2.2 | (with_reducible refine Kd.C_alloc ?_ _) | (with_reducible refine Kd.C_drewN ?_ _) | (with_reducible refine Kd.C_drew ?_)))
                (case side4 => exact (Kd.R_reads' HO664.out).2.1)
                rintro e w78 ⟨rfl, hb⟩
                refine ⟨_, rfl, ?_⟩
                have n0_ := Aside0.mk (Kd.R_below (by (with_reducible repeat (first | apply Kd.R_alloc | apply Kd.R_drewN | apply Kd.R_drew)); exact HO_9.out) hb)
                have n1_ := Aside0.mk (Kd.R_below (by (with_reducible repeat (first | apply Kd.R_alloc | apply Kd.R_drewN | apply Kd.R_drew)); exact HO_646001.out) hb)
                have n2_ := Aside0.mk (Kd.R_below (by (with_reducible repeat (first | apply Kd.R_alloc | apply Kd.R_drewN | apply Kd.R_drew)); exact HO_651001.out) hb)
                have n3_ := Aside0.mk (Kd.R_below (by (with_reducible repeat (first | apply Kd.R_alloc | apply Kd.R_drewN | apply Kd.R_drew)); exact HO_660001.out) hb)
                have n4_ := Aside0.mk (Kd.R_below (by (with_reducible repeat (first | apply Kd.R_alloc | apply Kd.R_drewN | apply Kd.R_drew)); exact HO664.out) hb)
                have n5_ := Aside0.mk (blk_below (g := gb631) (o := .cells #[.int .i64 a0_0, .slice A0_1 l0_1.length c0_1] 41 (0, 0)) (by (with_reducible repeat (first | refine blk_drewN ?_ _ | refine blk_drew ?_ | refine blk_alloc ?_ _)); exact BK631.out) hb)
                have n6_ := Aside0.mk (blk_below (g := gb645) (o := .cells #[.int .i64 t640, .slice Ao29 t641.length co29] 24 (0, 0)) (by (with_reducible repeat (first | refine blk_drewN ?_ _ | refine blk_drew ?_ | refine blk_alloc ?_ _)); exact BK645.out) hb)
                have n7_ := Aside0.mk (blk_below (g := gb650) (o := .cells #[.int .i64 t646, .slice Ao36 t647.length co36] 24 (0, 0)) (by (with_reducible repeat (first | refine blk_drewN ?_ _ | refine blk_drew ?_ | refine blk_alloc ?_ _)); exact BK650.out) hb)
                have n8_ := Aside0.mk (blk_below (g := gb659) (o := .cells #[.int .i64 t654, .slice Ao46 t655.length co46] 24 (0, 0)) (by (with_reducible repeat (first | refine blk_drewN ?_ _ | refine blk_drew ?_ | refine blk_alloc ?_ _)); exact BK659.out) hb)
                have n9_ := Aside0.mk (below_step (by repeat (first | (with_reducible first | exact HB.out | apply below_alloc | apply pw_below_drewN | apply below_drew1 | refine below_set ?_ GE631.out | refine below_set ?_ GE645.out | refine below_set ?_ GE650.out | refine below_set ?_ GE659.out) | exact HB.out)) hb)
                clear HO_9
                clear HO_646001
                clear HO_651001
                clear HO_660001
                clear HO664
                clear BK631
                clear BK645
                clear BK650
                clear BK659
                clear HB
                have HO_9 := n0_
                have HO_646001 := n1_
                have HO_651001 := n2_
                have HO_660001 := n3_
                have HO664 := n4_
                have BK631 := n5_
                have BK645 := n6_
                have BK650 := n7_
                have BK659 := n8_
                have HB := n9_
                clear n0_ n1_ n2_ n3_ n4_ n5_ n6_ n7_ n8_ n9_
                (try clear hb)
                (try clear hb2)
                (try clear hk)
                (try clear hi)
                refine hK.out _ _ ⟨(blk_cell BK650.out 0).trans rfl, (blk_cell BK650.out 1).trans rfl, (blk_cell BK631.out 0).trans rfl, (blk_cell BK631.out 1).trans rfl⟩ (fun hHeld => ?_)
                clear hK K
                refine norm_ (a' := ?_) ?_ ?_
                rotate_left
                · show Act.put _ (some 55) _ = _
                  simp only [Act.put, List.setIfInBounds_toArray, List.set_cons_zero, List.set_cons_succ, i64_w, i32_w]
                  rfl
                refine pure_ (i := 4) (N := some 56) (v := ?_) (a' := ?_) #[true, true, true, true, true] rfl rfl (by kernel_rfl) (fun _ _ _ h => h) (Or.inl ⟨by rfl, ?_⟩) ?_ ?_
                rotate_left
                · intro w'
                  go_simp
                  with_reducible rfl
                rotate_left
                · simp only [Act.put, List.setIfInBounds_toArray, List.set_cons_zero, List.set_cons_succ, i64_w, i32_w]
                  rfl
                refine done_ (by kernel_rfl) ?_
                go_upto_region 20 with (first | ((with_reducible refine gate_callee (f := 39) rfl ?_); refine goesL_ (some 59) rfl rfl Try.func39 (by kernel_rfl) rfl #[.slice A1 l1.length c1] rfl (by (try simp only [List.map_toArray, List.map_cons, List.map_nil]); first | done | rfl | (simp only [List.length_drop, List.length_take]; rfl)) ?_; (with_reducible refine (laws_toIntS.calls kj15 _ _ l1 t666 _ ?side1 ?side2 A69.out).mono ?_); (case side1 => repeat (first | exact (Kd.C_below HR1.out HB.out) | (with_reducible refine Kd.C_alloc ?_ _) | (with_reducible refine Kd.C_drewN ?_ _) | (with_reducible refine Kd.C_drew ?_))); (case side2 => exact HC1.out); rintro e w79 ⟨v667, rfl, ho0, hb⟩; refine ⟨_, rfl, ?_⟩; have n0_ := Aside0.mk (Kd.R_elder' (by (with_reducible repeat (first | apply Kd.R_alloc | apply Kd.R_drewN | apply Kd.R_drew)); exact HO_9.out) (Kd.R_base ho0) hb); have n1_ := Aside0.mk (Kd.R_elder' (by (with_reducible repeat (first | apply Kd.R_alloc | apply Kd.R_drewN | apply Kd.R_drew)); exact HO_646001.out) (Kd.R_base ho0) hb); have n2_ := Aside0.mk (Kd.R_elder' (by (with_reducible repeat (first | apply Kd.R_alloc | apply Kd.R_drewN | apply Kd.R_drew)); exact HO_651001.out) (Kd.R_base ho0) hb); have n3_ := Aside0.mk (Kd.R_elder' (by (with_reducible repeat (first | apply Kd.R_alloc | apply Kd.R_drewN | apply Kd.R_drew)); exact HO_660001.out) (Kd.R_base ho0) hb); have n4_ := Aside0.mk (Kd.R_elder' (by (with_reducible repeat (first | apply Kd.R_alloc | apply Kd.R_drewN | apply Kd.R_drew)); exact HO664.out) (Kd.R_base ho0) hb); have n5_ := Aside0.mk (Kd.R_lower (Kd.R_new' (Kd.R_new' (Kd.R_new' (Kd.R_new' (Kd.R_new' ho0 (Kd.R_lt (by (with_reducible repeat (first | apply Kd.R_alloc | apply Kd.R_drewN | apply Kd.R_drew)); exact HO_9.out))) (Kd.R_lt (by (with_reducible repeat (first | apply Kd.R_alloc | apply Kd.R_drewN | apply Kd.R_drew)); exact HO_646001.out))) (Kd.R_lt (by (with_reducible repeat (first | apply Kd.R_alloc | apply Kd.R_drewN | apply Kd.R_drew)); exact HO_651001.out))) (Kd.R_lt (by (with_reducible repeat (first | apply Kd.R_alloc | apply Kd.R_drewN | apply Kd.R_drew)); exact HO_660001.out))) (Kd.R_lt (by (with_reducible repeat (first | apply Kd.R_alloc | apply Kd.R_drewN | apply Kd.R_drew)); exact HO664.out))) (below_size (by repeat (first | (with_reducible first | exact HB.out | apply below_alloc | apply pw_below_drewN | apply below_drew1 | refine below_set ?_ GE631.out | refine below_set ?_ GE645.out | refine below_set ?_ GE650.out | refine below_set ?_ GE659.out) | exact HB.out)))); have n6_ := Aside0.mk (blk_below (g := gb631) (o := .cells #[.int .i64 a0_0, .slice A0_1 l0_1.length c0_1] 41 (0, 0)) (by (with_reducible repeat (first | refine blk_drewN ?_ _ | refine blk_drew ?_ | refine blk_alloc ?_ _)); exact BK631.out) hb); have n7_ := Aside0.mk (blk_below (g := gb645) (o := .cells #[.int .i64 t640, .slice Ao29 t641.length co29] 24 (0, 0)) (by (with_reducible repeat (first | refine blk_drewN ?_ _ | refine blk_drew ?_ | refine blk_alloc ?_ _)); exact BK645.out) hb); have n8_ := Aside0.mk (blk_below (g := gb650) (o := .cells #[.int .i64 t646, .slice Ao36 t647.length co36] 24 (0, 0)) (by (with_reducible repeat (first | refine blk_drewN ?_ _ | refine blk_drew ?_ | refine blk_alloc ?_ _)); exact BK650.out) hb); have n9_ := Aside0.mk (blk_below (g := gb659) (o := .cells #[.int .i64 t654, .slice Ao46 t655.length co46] 24 (0, 0)) (by (with_reducible repeat (first | refine blk_drewN ?_ _ | refine blk_drew ?_ | refine blk_alloc ?_ _)); exact BK659.out) hb); have n10_ := Aside0.mk (below_step (by repeat (first | (with_reducible first | exact HB.out | apply below_alloc | apply pw_below_drewN | apply below_drew1 | refine below_set ?_ GE631.out | refine below_set ?_ GE645.out | refine below_set ?_ GE650.out | refine below_set ?_ GE659.out) | exact HB.out)) hb); clear HO_9; clear HO_646001; clear HO_651001; clear HO_660001; clear HO664; clear BK631; clear BK645; clear BK650; clear BK659; clear HB; have HO_9 := n0_; have HO_646001 := n1_; have HO_651001 := n2_; have HO_660001 := n3_; have HO664 := n4_; have HO668 := n5_; have BK631 := n6_; have BK645 := n7_; have BK650 := n8_; have BK659 := n9_; have HB := n10_; clear n0_ n1_ n2_ n3_ n4_ n5_ n6_ n7_ n8_ n9_ n10_; (try clear hb); (try clear hb2); (try clear hk); (try clear hi); (try clear ho0); obtain ⟨Ao80, co80, eo80⟩ := Kd.R_slice HO668.out; subst eo80) | ((with_reducible refine gate_callee (f := 23) rfl ?_); refine goesL_ (some 60) rfl rfl Try.func23 (by kernel_rfl) rfl #[.slice Ao39 t651.length co39, .slice Ao80 t666.length co80] rfl (by (try simp only [List.map_toArray, List.map_cons, List.map_nil]); first | done | rfl | (simp only [List.length_drop, List.length_take]; rfl)) ?_; (with_reducible refine (laws_eqIntS.calls kj15 _ _ t651 _ _ t666 true _ ?side1 ?side2 ?side3 ?side4 A70.out).mono ?_); (case side1 => repeat (first | exact (Kd.R_reads' HO_9.out).2.2 | (with_reducible refine Kd.C_alloc ?_ _) | (with_reducible refine Kd.C_drewN ?_ _) | (with_reducible refine Kd.C_drew ?_))); (case side2 => exact (Kd.R_reads' HO_9.out).2.1); (case side3 => repeat (first | exact (Kd.R_reads' HO668.out).2.2 | (with_reducible refine Kd.C_alloc ?_ _) | (with_reducible refine Kd.C_drewN ?_ _) | (with_reducible refine Kd.C_drew ?_))); (case side4 => exact (Kd.R_reads' HO668.out).2.1); rintro e w' ⟨rfl, ⟨nd, rfl⟩⟩; refine ⟨_, rfl, ?_⟩; have hnb81 := NB650_631.out; have hnc81 := NB631_650.out; have hnb82 := NB650_645.out; have hnc82 := NB645_650.out; have hnb83 := NB650_659.out; have hnc83 := NB659_650.out; have hcz84_0 : w79.cell? ⟨gb650, 0, none⟩ = some (.int .i64 t646) := (blk_cell BK650.out 0).trans rfl; have hcz84_1 : w79.cell? ⟨gb650, 1, none⟩ = some (.slice Ao36 t647.length co36) := (blk_cell BK650.out 1).trans rfl; have hfz84_0 := blk_frozen BK650.out 0; have hfz84_1 := blk_frozen BK650.out 1) | ((with_reducible refine gate_callee (f := 17) rfl ?_); refine goesL_ (some 64) rfl rfl Try.func17 (by kernel_rfl) rfl #[.agg #[.int .i64 t646, .slice Ao36 t647.length co36], .int .i64 1] rfl (by (try simp only [List.map_toArray, List.map_cons, List.map_nil]); first | done | rfl | (simp only [List.length_drop, List.length_take]; rfl)) ?_; (with_reducible refine (laws_markTable.calls kj15 t646 (fun k_ => some k_ = (.slice Ao36 t647.length co36 : Value).ownBlock) (.slice Ao36 t647.length co36) t647 1 t670 t671 w _ ?side1 ?side2 A72.out).mono ?_); (case side1 => repeat (first | (with_reducible first | exact HB.out | apply below_alloc | apply pw_below_drewN | apply below_drew1 | refine below_set ?_ GE631.out | refine below_set ?_ GE645.out | refine below_set ?_ GE650.out | refine below_set ?_ GE659.out) | exact HB.out)); (case side2 => exact Kd.R_tight rfl HO_651001.out); rintro e w85 ⟨rfl, hy0, hb, hkp⟩; refine ⟨_, rfl, ?_⟩; have n0_ := Aside0.mk (Kd.R_mono (ok' := fun k_ => some k_ ≠ (.slice Ao29 t641.length co29 : Value).ownBlock ∧ some k_ ≠ (.slice Ao36 t647.length co36 : Value).ownBlock ∧ some k_ ≠ (.slice Ao46 t655.length co46 : Value).ownBlock ∧ some k_ ≠ (.slice Ao77 t662.length co77 : Value).ownBlock ∧ some k_ ≠ (.slice Ao80 t666.length co80 : Value).ownBlock) (Kd.R_keptB (HO_9.out) hkp (fun k_ hk_ hs_ => (hk_.1.1.2.1) hs_)) (fun k_ hk_ => ⟨hk_.1.1.1.1, hk_.1.1.1.2.1, hk_.1.1.1.2.2, hk_.1.1.2, hk_.1.2⟩)); have n1_ := Aside0.mk (Kd.R_mono (ok' := fun k_ => some k_ ≠ (.slice Ao39 t651.length co39 : Value).ownBlock ∧ some k_ ≠ (.slice Ao36 t647.length co36 : Value).ownBlock ∧ some k_ ≠ (.slice Ao46 t655.length co46 : Value).ownBlock ∧ some k_ ≠ (.slice Ao77 t662.length co77 : Value).ownBlock ∧ some k_ ≠ (.slice Ao80 t666.length co80 : Value).ownBlock) (Kd.R_keptB (HO_646001.out) hkp (fun k_ hk_ hs_ => (hk_.1.1.2.1) hs_)) (fun k_ hk_ => ⟨hk_.1.1.1.1, hk_.1.1.1.2.1, hk_.1.1.1.2.2, hk_.1.1.2, hk_.1.2⟩)); have n2_ := Aside0.mk (Kd.R_reok rfl hy0 (fun k_ e_ => HO_651001.out.1 k_ e_)); have n3_ := Aside0.mk (Kd.R_mono (ok' := fun k_ => some k_ ≠ (.slice Ao39 t651.length co39 : Value).ownBlock ∧ some k_ ≠ (.slice Ao29 t641.length co29 : Value).ownBlock ∧ some k_ ≠ (.slice Ao36 t647.length co36 : Value).ownBlock ∧ some k_ ≠ (.slice Ao77 t662.length co77 : Value).ownBlock ∧ some k_ ≠ (.slice Ao80 t666.length co80 : Value).ownBlock) (Kd.R_keptB (HO_660001.out) hkp (fun k_ hk_ hs_ => (hk_.1.1.2.2) hs_)) (fun k_ hk_ => ⟨hk_.1.1.1.1, hk_.1.1.1.2.1, hk_.1.1.1.2.2, hk_.1.1.2, hk_.1.2⟩)); have n4_ := Aside0.mk (blk_kept (by (with_reducible repeat (first | refine blk_drewN ?_ _ | refine blk_drew ?_ | refine blk_alloc ?_ _)); exact BK631.out) hkp (fun hs_ => (fun e_ => (Kd.R_ne HO_651001.out BK631.out (by decide)) e_) hs_)); have n5_ := Aside0.mk (blk_kept (by (with_reducible repeat (first | refine blk_drewN ?_ _ | refine blk_drew ?_ | refine blk_alloc ?_ _)); exact BK645.out) hkp (fun hs_ => (fun e_ => (Kd.R_ne HO_651001.out BK645.out (by decide)) e_) hs_)); have n6_ := Aside0.mk (blk_kept (by (with_reducible repeat (first | refine blk_drewN ?_ _ | refine blk_drew ?_ | refine blk_alloc ?_ _)); exact BK650.out) hkp (fun hs_ => (fun e_ => (Kd.R_ne HO_651001.out BK650.out (by decide)) e_) hs_)); have n7_ := Aside0.mk (blk_kept (by (with_reducible repeat (first | refine blk_drewN ?_ _ | refine blk_drew ?_ | refine blk_alloc ?_ _)); exact BK659.out) hkp (fun hs_ => (fun e_ => (Kd.R_ne HO_651001.out BK659.out (by decide)) e_) hs_)); have n8_ := Aside0.mk (Kd.R_mono (ok' := fun k_ => some k_ ≠ (.slice Ao39 t651.length co39 : Value).ownBlock ∧ some k_ ≠ (.slice Ao29 t641.length co29 : Value).ownBlock ∧ some k_ ≠ (.slice Ao36 t647.length co36 : Value).ownBlock ∧ some k_ ≠ (.slice Ao46 t655.length co46 : Value).ownBlock ∧ some k_ ≠ (.slice Ao80 t666.length co80 : Value).ownBlock) (Kd.R_keptB (HO664.out) hkp (fun k_ hk_ hs_ => (hk_.1.1.2) hs_)) (fun k_ hk_ => ⟨hk_.1.1.1.1.1.2, hk_.1.1.1.1.2, hk_.1.1.1.2, hk_.1.1.2, hk_.1.2⟩)); have n9_ := Aside0.mk (Kd.R_mono (ok' := fun k_ => some k_ ≠ (.slice Ao39 t651.length co39 : Value).ownBlock ∧ some k_ ≠ (.slice Ao29 t641.length co29 : Value).ownBlock ∧ some k_ ≠ (.slice Ao36 t647.length co36 : Value).ownBlock ∧ some k_ ≠ (.slice Ao46 t655.length co46 : Value).ownBlock ∧ some k_ ≠ (.slice Ao77 t662.length co77 : Value).ownBlock) (Kd.R_keptB (HO668.out) hkp (fun k_ hk_ hs_ => (hk_.1.1.2) hs_)) (fun k_ hk_ => ⟨hk_.1.1.1.1.1.2, hk_.1.1.1.1.2, hk_.1.1.1.2, hk_.1.1.2, hk_.1.2⟩)); have n10_ := Aside0.mk (hb); clear HO_9; clear HO_646001; clear HO_651001; clear HO_660001; clear BK631; clear BK645; clear BK650; clear BK659; clear HO664; clear HO668; clear HB; have HO_9 := n0_; have HO_646001 := n1_; have HO_651001 := n2_; have HO_660001 := n3_; have BK631 := n4_; have BK645 := n5_; have BK650 := n6_; have BK659 := n7_; have HO664 := n8_; have HO668 := n9_; have HB := n10_; clear n0_ n1_ n2_ n3_ n4_ n5_ n6_ n7_ n8_ n9_ n10_; (try clear hb); (try clear hkp); (try clear hy0)) | ((with_reducible refine gate_callee (f := 26) rfl ?_); refine goesL_ (some 67) rfl rfl Try.func26 (by kernel_rfl) rfl #[.slice Ao39 t651.length co39, .int .i64 t670] rfl (by (try simp only [List.map_toArray, List.map_cons, List.map_nil]); first | done | rfl | (simp only [List.length_drop, List.length_take]; rfl)) ?_; (with_reducible refine (laws_markIntS.calls kj15 (fun k_ => some k_ = (.slice Ao39 t651.length co39 : Value).ownBlock) (.slice Ao39 t651.length co39) t651 t670 t672 t673 w _ ?side1 ?side2 A73.out).mono ?_); (case side1 => repeat (first | (with_reducible first | exact HB.out | apply below_alloc | apply pw_below_drewN | apply below_drew1 | refine below_set ?_ GE631.out | refine below_set ?_ GE645.out | refine below_set ?_ GE650.out | refine below_set ?_ GE659.out) | exact HB.out)); (case side2 => exact Kd.R_tight rfl HO_9.out); rintro e w86 ⟨rfl, hy0, hb, hkp⟩; refine ⟨_, rfl, ?_⟩; have n0_ := Aside0.mk (Kd.R_reok rfl hy0 (fun k_ e_ => HO_9.out.1 k_ e_)); have n1_ := Aside0.mk (Kd.R_mono (ok' := fun k_ => some k_ ≠ (.slice Ao39 t651.length co39 : Value).ownBlock ∧ some k_ ≠ (.slice Ao36 t647.length co36 : Value).ownBlock ∧ some k_ ≠ (.slice Ao46 t655.length co46 : Value).ownBlock ∧ some k_ ≠ (.slice Ao77 t662.length co77 : Value).ownBlock ∧ some k_ ≠ (.slice Ao80 t666.length co80 : Value).ownBlock) (Kd.R_keptB (HO_646001.out) hkp (fun k_ hk_ hs_ => (hk_.1) hs_)) (fun k_ hk_ => ⟨hk_.1.1, hk_.1.2.1, hk_.1.2.2.1, hk_.1.2.2.2.1, hk_.1.2.2.2.2⟩)); have n2_ := Aside0.mk (Kd.R_mono (ok' := fun k_ => some k_ ≠ (.slice Ao39 t651.length co39 : Value).ownBlock ∧ some k_ ≠ (.slice Ao29 t641.length co29 : Value).ownBlock ∧ some k_ ≠ (.slice Ao46 t655.length co46 : Value).ownBlock ∧ some k_ ≠ (.slice Ao77 t662.length co77 : Value).ownBlock ∧ some k_ ≠ (.slice Ao80 t666.length co80 : Value).ownBlock) (Kd.R_keptB (HO_651001.out) hkp (fun k_ hk_ hs_ => (hk_.1.1.1) hs_)) (fun k_ hk_ => ⟨hk_.1.1.1.1, hk_.1.1.1.2.1, hk_.1.1.1.2.2, hk_.1.1.2, hk_.1.2⟩)); have n3_ := Aside0.mk (Kd.R_mono (ok' := fun k_ => some k_ ≠ (.slice Ao39 t651.length co39 : Value).ownBlock ∧ some k_ ≠ (.slice Ao29 t641.length co29 : Value).ownBlock ∧ some k_ ≠ (.slice Ao36 t647.length co36 : Value).ownBlock ∧ some k_ ≠ (.slice Ao77 t662.length co77 : Value).ownBlock ∧ some k_ ≠ (.slice Ao80 t666.length co80 : Value).ownBlock) (Kd.R_keptB (HO_660001.out) hkp (fun k_ hk_ hs_ => (hk_.1) hs_)) (fun k_ hk_ => ⟨hk_.1.1, hk_.1.2.1, hk_.1.2.2.1, hk_.1.2.2.2.1, hk_.1.2.2.2.2⟩)); have n4_ := Aside0.mk (blk_kept (by (with_reducible repeat (first | refine blk_drewN ?_ _ | refine blk_drew ?_ | refine blk_alloc ?_ _)); exact BK631.out) hkp (fun hs_ => (fun e_ => (Kd.R_ne HO_9.out BK631.out (by decide)) e_) hs_)); have n5_ := Aside0.mk (blk_kept (by (with_reducible repeat (first | refine blk_drewN ?_ _ | refine blk_drew ?_ | refine blk_alloc ?_ _)); exact BK645.out) hkp (fun hs_ => (fun e_ => (Kd.R_ne HO_9.out BK645.out (by decide)) e_) hs_)); have n6_ := Aside0.mk (blk_kept (by (with_reducible repeat (first | refine blk_drewN ?_ _ | refine blk_drew ?_ | refine blk_alloc ?_ _)); exact BK650.out) hkp (fun hs_ => (fun e_ => (Kd.R_ne HO_9.out BK650.out (by decide)) e_) hs_)); have n7_ := Aside0.mk (blk_kept (by (with_reducible repeat (first | refine blk_drewN ?_ _ | refine blk_drew ?_ | refine blk_alloc ?_ _)); exact BK659.out) hkp (fun hs_ => (fun e_ => (Kd.R_ne HO_9.out BK659.out (by decide)) e_) hs_)); have n8_ := Aside0.mk (Kd.R_mono (ok' := fun k_ => some k_ ≠ (.slice Ao39 t651.length co39 : Value).ownBlock ∧ some k_ ≠ (.slice Ao29 t641.length co29 : Value).ownBlock ∧ some k_ ≠ (.slice Ao36 t647.length co36 : Value).ownBlock ∧ some k_ ≠ (.slice Ao46 t655.length co46 : Value).ownBlock ∧ some k_ ≠ (.slice Ao80 t666.length co80 : Value).ownBlock) (Kd.R_keptB (HO664.out) hkp (fun k_ hk_ hs_ => (hk_.1) hs_)) (fun k_ hk_ => ⟨hk_.1.1, hk_.1.2.1, hk_.1.2.2.1, hk_.1.2.2.2.1, hk_.1.2.2.2.2⟩)); have n9_ := Aside0.mk (Kd.R_mono (ok' := fun k_ => some k_ ≠ (.slice Ao39 t651.length co39 : Value).ownBlock ∧ some k_ ≠ (.slice Ao29 t641.length co29 : Value).ownBlock ∧ some k_ ≠ (.slice Ao36 t647.length co36 : Value).ownBlock ∧ some k_ ≠ (.slice Ao46 t655.length co46 : Value).ownBlock ∧ some k_ ≠ (.slice Ao77 t662.length co77 : Value).ownBlock) (Kd.R_keptB (HO668.out) hkp (fun k_ hk_ hs_ => (hk_.1) hs_)) (fun k_ hk_ => ⟨hk_.1.1, hk_.1.2.1, hk_.1.2.2.1, hk_.1.2.2.2.1, hk_.1.2.2.2.2⟩)); have n10_ := Aside0.mk (hb); clear HO_9; clear HO_646001; clear HO_651001; clear HO_660001; clear BK631; clear BK645; clear BK650; clear BK659; clear HO664; clear HO668; clear HB; have HO_9 := n0_; have HO_646001 := n1_; have HO_651001 := n2_; have HO_660001 := n3_; have BK631 := n4_; have BK645 := n5_; have BK650 := n6_; have BK659 := n7_; have HO664 := n8_; have HO668 := n9_; have HB := n10_; clear n0_ n1_ n2_ n3_ n4_ n5_ n6_ n7_ n8_ n9_ n10_; (try clear hb); (try clear hkp); (try clear hy0)))
                (try simp only [Act.put, List.setIfInBounds_toArray, List.set_cons_zero, List.set_cons_succ])
                go_cut [80] (fun v80 wc => ∃ (kq : Nat) (x80_73 : Bool), v80 = .bool x80_73 ∧ Aside0 (laws_FnExactReorderTable.j1 kq l1 t644 x80_73 a0_0 l0_1 t640 t641 t654 t655 = some true) ∧ Aside0 (kq ≤ kj15) ∧ Aside0 (Kd.R (Kd.int .i64) 3 wc w.heap.size (fun k_ => some k_ ≠ ((.slice Ao36 t647.length co36) : Value).ownBlock ∧ some k_ ≠ ((.slice Ao46 t655.length co46) : Value).ownBlock) (.slice Ao29 t641.length co29) t641) ∧ Aside0 (Kd.R (Kd.int .i64) 3 wc w.heap.size (fun k_ => some k_ ≠ ((.slice Ao29 t641.length co29) : Value).ownBlock ∧ some k_ ≠ ((.slice Ao46 t655.length co46) : Value).ownBlock) (.slice Ao36 t647.length co36) t671) ∧ Aside0 (Kd.R (Kd.int .i64) 3 wc w.heap.size (fun k_ => some k_ ≠ ((.slice Ao29 t641.length co29) : Value).ownBlock ∧ some k_ ≠ ((.slice Ao36 t647.length co36) : Value).ownBlock) (.slice Ao46 t655.length co46) t655) ∧ Aside0 (wc.heap[gb631]? = some (.cells #[.int .i64 a0_0, (.slice A0_1 l0_1.length c0_1)] 41 (0, 0))) ∧ Aside0 (wc.heap[gb645]? = some (.cells #[.int .i64 t640, (.slice Ao29 t641.length co29)] 24 (0, 0))) ∧ Aside0 (wc.heap[gb650]? = some (.cells #[.int .i64 t646, (.slice Ao36 t647.length co36)] 24 (0, 0))) ∧ Aside0 (wc.heap[gb659]? = some (.cells #[.int .i64 t654, (.slice Ao46 t655.length co46)] 24 (0, 0))) ∧ Aside0 (Below w.heap.size w wc))
                case first =>
                  have H := HC74.out
                  clear HC74
                  by_cases c87 : t672 < 0
                  · rw [if_pos c87] at H
                    exact absurd H (by cases kj15 <;> simp [laws_FnExactReorderTable.j1])
                  · rw [if_neg c87] at H
                    have c87b0 : decide (t672 < 0) = false := decide_eq_false c87
                    clear c87
                    (first | rw [c87b0] | (simp only [i64_w, i32_w]; rw [c87b0]) | skip)
                    replace H := Option.bind_eq_some_iff.mp H
                    obtain ⟨t674, A880, H⟩ := H
                    replace H : (if t674 = true then (laws_FnExactReorderTable.j1 kj15 l1 t644 (t658 != t644) a0_0 l0_1 t640 t641 t654 t655) else (laws_FnExactReorderTable.j1 kj15 l1 t644 true a0_0 l0_1 t640 t641 t654 t655)) = some true := H
                    have A88 := Aside0.mk A880
                    clear A880
                    by_cases c89 : t674 = true
                    · subst c89
                      have H1 : (laws_FnExactReorderTable.j1 kj15 l1 t644 (t658 != t644) a0_0 l0_1 t640 t641 t654 t655) = some true := by rw [if_pos rfl] at H; exact H
                      clear H
                      have H := H1
                      clear H1
                      have H' := Aside0.mk H
                      clear H
                      have hnb90 := NB659_631.out
                      have hnc90 := NB631_659.out
                      have hnb91 := NB659_645.out
                      have hnc91 := NB645_659.out
                      have hnb92 := NB659_650.out
                      have hnc92 := NB650_659.out
                      have hcz93_0 : w86.cell? ⟨gb659, 0, none⟩ = some (.int .i64 t654) := (blk_cell BK659.out 0).trans rfl
                      have hcz93_1 : w86.cell? ⟨gb659, 1, none⟩ = some (.slice Ao46 t655.length co46) := (blk_cell BK659.out 1).trans rfl
                      have hfz93_0 := blk_frozen BK659.out 0
                      have hfz93_1 := blk_frozen BK659.out 1
                      have hnb94 := NB645_631.out
                      have hnc94 := NB631_645.out
                      have hnb95 := NB645_650.out
                      have hnc95 := NB650_645.out
                      have hcz96_0 : w86.cell? ⟨gb645, 0, none⟩ = some (.int .i64 t640) := (blk_cell BK645.out 0).trans rfl
                      have hcz96_1 : w86.cell? ⟨gb645, 1, none⟩ = some (.slice Ao29 t641.length co29) := (blk_cell BK645.out 1).trans rfl
                      have hfz96_0 := blk_frozen BK645.out 0
                      have hfz96_1 := blk_frozen BK645.out 1
                      go_wp2_with (first | (go_at_call 16; (with_reducible refine (laws_eqTable.calls kj15 t654 _ _ t655 t640 _ _ t641 true _ ?side1 ?side2 ?side3 ?side4 A88.out).mono ?_); (case side1 => repeat (first | exact (Kd.R_reads' HO_660001.out).2.2 | (with_reducible refine Kd.C_alloc ?_ _) | (with_reducible refine Kd.C_drewN ?_ _) | (with_reducible refine Kd.C_drew ?_))); (case side2 => exact (Kd.R_reads' HO_660001.out).2.1); (case side3 => repeat (first | exact (Kd.R_reads' HO_646001.out).2.2 | (with_reducible refine Kd.C_alloc ?_ _) | (with_reducible refine Kd.C_drewN ?_ _) | (with_reducible refine Kd.C_drew ?_))); (case side4 => exact (Kd.R_reads' HO_646001.out).2.1); rintro e w97 ⟨rfl, hb⟩; have n0_ := Aside0.mk (Kd.R_below (by (with_reducible repeat (first | apply Kd.R_alloc | apply Kd.R_drewN | apply Kd.R_drew)); exact HO_9.out) hb); have n1_ := Aside0.mk (Kd.R_below (by (with_reducible repeat (first | apply Kd.R_alloc | apply Kd.R_drewN | apply Kd.R_drew)); exact HO_646001.out) hb); have n2_ := Aside0.mk (Kd.R_below (by (with_reducible repeat (first | apply Kd.R_alloc | apply Kd.R_drewN | apply Kd.R_drew)); exact HO_651001.out) hb); have n3_ := Aside0.mk (Kd.R_below (by (with_reducible repeat (first | apply Kd.R_alloc | apply Kd.R_drewN | apply Kd.R_drew)); exact HO_660001.out) hb); have n4_ := Aside0.mk (Kd.R_below (by (with_reducible repeat (first | apply Kd.R_alloc | apply Kd.R_drewN | apply Kd.R_drew)); exact HO664.out) hb); have n5_ := Aside0.mk (Kd.R_below (by (with_reducible repeat (first | apply Kd.R_alloc | apply Kd.R_drewN | apply Kd.R_drew)); exact HO668.out) hb); have n6_ := Aside0.mk (blk_below (g := gb631) (o := .cells #[.int .i64 a0_0, .slice A0_1 l0_1.length c0_1] 41 (0, 0)) (by (with_reducible repeat (first | refine blk_drewN ?_ _ | refine blk_drew ?_ | refine blk_alloc ?_ _)); exact BK631.out) hb); have n7_ := Aside0.mk (blk_below (g := gb645) (o := .cells #[.int .i64 t640, .slice Ao29 t641.length co29] 24 (0, 0)) (by (with_reducible repeat (first | refine blk_drewN ?_ _ | refine blk_drew ?_ | refine blk_alloc ?_ _)); exact BK645.out) hb); have n8_ := Aside0.mk (blk_below (g := gb650) (o := .cells #[.int .i64 t646, .slice Ao36 t647.length co36] 24 (0, 0)) (by (with_reducible repeat (first | refine blk_drewN ?_ _ | refine blk_drew ?_ | refine blk_alloc ?_ _)); exact BK650.out) hb); have n9_ := Aside0.mk (blk_below (g := gb659) (o := .cells #[.int .i64 t654, .slice Ao46 t655.length co46] 24 (0, 0)) (by (with_reducible repeat (first | refine blk_drewN ?_ _ | refine blk_drew ?_ | refine blk_alloc ?_ _)); exact BK659.out) hb); have n10_ := Aside0.mk (below_step (by repeat (first | (with_reducible first | exact HB.out | apply below_alloc | apply pw_below_drewN | apply below_drew1 | refine below_set ?_ GE631.out | refine below_set ?_ GE645.out | refine below_set ?_ GE650.out | refine below_set ?_ GE659.out) | exact HB.out)) hb); clear HO_9; clear HO_646001; clear HO_651001; clear HO_660001; clear HO664; clear HO668; clear BK631; clear BK645; clear BK650; clear BK659; clear HB; have HO_9 := n0_; have HO_646001 := n1_; have HO_651001 := n2_; have HO_660001 := n3_; have HO664 := n4_; have HO668 := n5_; have BK631 := n6_; have BK645 := n7_; have BK650 := n8_; have BK659 := n9_; have HB := n10_; clear n0_ n1_ n2_ n3_ n4_ n5_ n6_ n7_ n8_ n9_ n10_; (try clear hb); (try clear hb2); (try clear hk); (try clear hi)))
                      go_meet
                      case rel => exact ⟨_, ((t658 != t644)), (by first | rfl | (simp; done) | (simp [*]; done)), H', ⟨by have := HJ15.out; first | omega | exact Nat.le_refl _⟩, ⟨by (with_reducible repeat (first | apply Kd.R_alloc | apply Kd.R_drewN | apply Kd.R_drew)); exact Kd.R_mono HO_646001.out (fun _ hk => ⟨hk.2.1, hk.2.2.1⟩)⟩, ⟨by (with_reducible repeat (first | apply Kd.R_alloc | apply Kd.R_drewN | apply Kd.R_drew)); exact Kd.R_mono HO_651001.out (fun _ hk => ⟨hk.2.1, hk.2.2.1⟩)⟩, ⟨by (with_reducible repeat (first | apply Kd.R_alloc | apply Kd.R_drewN | apply Kd.R_drew)); exact Kd.R_mono HO_660001.out (fun _ hk => ⟨hk.2.1, hk.2.2.1⟩)⟩, ⟨by (with_reducible repeat (first | refine blk_drewN ?_ _ | refine blk_drew ?_ | refine blk_alloc ?_ _)); exact BK631.out⟩, ⟨by (with_reducible repeat (first | refine blk_drewN ?_ _ | refine blk_drew ?_ | refine blk_alloc ?_ _)); exact BK645.out⟩, ⟨by (with_reducible repeat (first | refine blk_drewN ?_ _ | refine blk_drew ?_ | refine blk_alloc ?_ _)); exact BK650.out⟩, ⟨by (with_reducible repeat (first | refine blk_drewN ?_ _ | refine blk_drew ?_ | refine blk_alloc ?_ _)); exact BK659.out⟩, ⟨by repeat (first | (with_reducible first | exact HB.out | apply below_alloc | apply pw_below_drewN | apply below_drew1 | refine below_set ?_ GE631.out | refine below_set ?_ GE645.out | refine below_set ?_ GE650.out | refine below_set ?_ GE659.out) | exact HB.out)⟩⟩
                    · replace c89 := Bool.eq_false_iff.mpr c89
                      subst c89
                      have H1 : (laws_FnExactReorderTable.j1 kj15 l1 t644 true a0_0 l0_1 t640 t641 t654 t655) = some true := by rw [if_neg (show ¬ (false = true) by decide)] at H; exact H
                      exact absurd H1 (by cases kj15 <;> simp [laws_FnExactReorderTable.j1])
                case rest =>
                  clear HC74
                  try clear c1
                  try clear c2
                  try clear p2
                  try clear c3
                  try clear c3b0
                  try clear c3b1
                  try clear c4
                  try clear c5
                  try clear c6
                  try clear c6b0
                  try clear c7
                  try clear c8
                  try clear c9
                  try clear c10
                  try clear c16
                  try clear c17
                  try clear c23
                  try clear c26
                  try clear c27
                  try clear c28
                  try clear c30
                  try clear c33
                  try clear c34
                  try clear c38
                  try clear c39
                  try clear c40
                  try clear c42
                  try clear c43
                  try clear c44
                  try clear c48
                  try clear c49
                  try clear c50
                  try clear c51
                  try clear c53
                  try clear c54
                  try clear c57
                  try clear c58
                  try clear c59
                  try clear c61
                  try clear c62
                  try clear c65
                  try clear c68
                  try clear c71
                  try clear c81
                  try clear c82
                  try clear c83
                  try clear c87
                  try clear c87b0
                  try clear c89
                  try clear c90
                  try clear c91
                  try clear c92
                  try clear c94
                  try clear c95
                  try clear c98
                  try clear c99
                  try clear c100
                  try clear c102
                  try clear c103
                  try clear hcz101_0
                  try clear hcz101_1
                  try clear hcz104_0
                  try clear hcz104_1
                  try clear hcz18_0
                  try clear hcz18_1
                  try clear hcz20_0
                  try clear hcz20_1
                  try clear hcz28_0
                  try clear hcz28_1
                  try clear hcz30_0
                  try clear hcz30_1
                  try clear hcz35_0
                  try clear hcz35_1
                  try clear hcz38_0
                  try clear hcz38_1
                  try clear hcz45_0
                  try clear hcz45_1
                  try clear hcz52_0
                  try clear hcz52_1
                  try clear hcz55_0
                  try clear hcz55_1
                  try clear hcz60_0
                  try clear hcz60_1
                  try clear hcz63_0
                  try clear hcz63_1
                  try clear hcz84_0
                  try clear hcz84_1
                  try clear hcz8_0
                  try clear hcz8_1
                  try clear hcz93_0
                  try clear hcz93_1
                  try clear hcz96_0
                  try clear hcz96_1
                  try clear hfz101_0
                  try clear hfz101_1
                  try clear hfz104_0
                  try clear hfz104_1
                  try clear hfz18_0
                  try clear hfz18_1
                  try clear hfz20_0
                  try clear hfz20_1
                  try clear hfz28_0
                  try clear hfz28_1
                  try clear hfz30_0
                  try clear hfz30_1
                  try clear hfz35_0
                  try clear hfz35_1
                  try clear hfz38_0
                  try clear hfz38_1
                  try clear hfz45_0
                  try clear hfz45_1
                  try clear hfz52_0
                  try clear hfz52_1
                  try clear hfz55_0
                  try clear hfz55_1
                  try clear hfz60_0
                  try clear hfz60_1
                  try clear hfz63_0
                  try clear hfz63_1
                  try clear hfz84_0
                  try clear hfz84_1
                  try clear hfz8_0
                  try clear hfz8_1
                  try clear hfz93_0
                  try clear hfz93_1
                  try clear hfz96_0
                  try clear hfz96_1
                  try clear p2
                  obtain ⟨kq, x80_73, rfl, HA, HJ73, HO_646001, HO_651001, HO_660001, BK631, BK645, BK650, BK659, HB⟩ := hcut
                  have hl651001_73 := (Kd.R_reads' HO_651001.out).1
                  rw [hl651001_73] at HO_651001
                  (try simp only [hl651001_73])
                  (try simp only [hl651001_73] at BK631)
                  (try simp only [hl651001_73] at BK645)
                  (try simp only [hl651001_73] at BK650)
                  (try simp only [hl651001_73] at BK659)
                  (try simp only [hl651001_73] at HO_646001)
                  (try simp only [hl651001_73] at HO_660001)
                  cases kq with
                  | zero => exact absurd HA.out (by simp [laws_FnExactReorderTable.j1])
                  | succ kj73 =>
                    have H := HA.out
                    clear HA
                    simp only [laws_FnExactReorderTable.j1] at H
                    by_cases c106 : x80_73 = true
                    · subst c106
                      have H1 : (some false) = some true := by rw [if_pos rfl] at H; exact H
                      exact absurd H1 (by simp)
                    · replace c106 := Bool.eq_false_iff.mpr c106
                      subst c106
                      have H1 : ((laws_markTable.f kj73 t654 t655 1).bind fun bt675 => ((laws_heldTable.f kj73 t654 bt675.2 1).bind fun t677 => (if t677 < 0 then (some false) else (if t677 = bt675.1 then ((laws_toTable.f kj73 a0_0 l0_1).bind fun bt678 => ((laws_toIntS.f kj73 l1).bind fun t682 => ((impl_ReorderTable.f kj73 bt678.1 bt678.2 t682).bind fun bt685 => ((laws_eqTable.f kj73 bt685.1 bt685.2.1 t640 t641).bind fun t691 => (if t691 = true then (laws_FnExactReorderTable.j2 kj73 bt675.1 (bt685.2.2 != t644) t654 bt675.2) else (laws_FnExactReorderTable.j2 kj73 bt675.1 true t654 bt675.2)))))) else (some false))))) = some true := by rw [if_neg (show ¬ (false = true) by decide)] at H; exact H
                      clear H
                      have H := H1
                      clear H1
                      replace H := Option.bind_eq_some_iff.mp H
                      obtain ⟨⟨t675, t676⟩, A1070, H⟩ := H
                      replace H : ((laws_heldTable.f kj73 t654 t676 1).bind fun t677 => (if t677 < 0 then (some false) else (if t677 = t675 then ((laws_toTable.f kj73 a0_0 l0_1).bind fun bt678 => ((laws_toIntS.f kj73 l1).bind fun t682 => ((impl_ReorderTable.f kj73 bt678.1 bt678.2 t682).bind fun bt685 => ((laws_eqTable.f kj73 bt685.1 bt685.2.1 t640 t641).bind fun t691 => (if t691 = true then (laws_FnExactReorderTable.j2 kj73 t675 (bt685.2.2 != t644) t654 t676) else (laws_FnExactReorderTable.j2 kj73 t675 true t654 t676)))))) else (some false)))) = some true := H
                      have A107 := Aside0.mk A1070
                      clear A1070
                      replace H := Option.bind_eq_some_iff.mp H
                      obtain ⟨t677, A1080, H⟩ := H
                      replace H : (if t677 < 0 then (some false) else (if t677 = t675 then ((laws_toTable.f kj73 a0_0 l0_1).bind fun bt678 => ((laws_toIntS.f kj73 l1).bind fun t682 => ((impl_ReorderTable.f kj73 bt678.1 bt678.2 t682).bind fun bt685 => ((laws_eqTable.f kj73 bt685.1 bt685.2.1 t640 t641).bind fun t691 => (if t691 = true then (laws_FnExactReorderTable.j2 kj73 t675 (bt685.2.2 != t644) t654 t676) else (laws_FnExactReorderTable.j2 kj73 t675 true t654 t676)))))) else (some false))) = some true := H
                      have A108 := Aside0.mk A1080
                      clear A1080
                      by_cases c109 : t677 < 0
                      · rw [if_pos c109] at H
                        exact absurd H (by simp)
                      · rw [if_neg c109] at H
                        have c109b0 : decide (t677 < 0) = false := decide_eq_false c109
                        clear c109
                        by_cases c117 : t677 = t675
                        · rw [if_pos c117] at H
                          have c117b0 : (t677 == t675) = true := beq_iff_eq.mpr c117
                          have c117b1 : (t677 != t675) = false := bne_eq_false_iff_eq.mpr c117
                          clear c117
                          replace H := Option.bind_eq_some_iff.mp H
                          obtain ⟨⟨t678, t679⟩, A1180, H⟩ := H
                          replace H : ((laws_toIntS.f kj73 l1).bind fun t682 => ((impl_ReorderTable.f kj73 t678 t679 t682).bind fun bt685 => ((laws_eqTable.f kj73 bt685.1 bt685.2.1 t640 t641).bind fun t691 => (if t691 = true then (laws_FnExactReorderTable.j2 kj73 t675 (bt685.2.2 != t644) t654 t676) else (laws_FnExactReorderTable.j2 kj73 t675 true t654 t676))))) = some true := H
                          have A118 := Aside0.mk A1180
                          clear A1180
                          replace H := Option.bind_eq_some_iff.mp H
                          obtain ⟨t682, A1190, H⟩ := H
                          replace H : ((impl_ReorderTable.f kj73 t678 t679 t682).bind fun bt685 => ((laws_eqTable.f kj73 bt685.1 bt685.2.1 t640 t641).bind fun t691 => (if t691 = true then (laws_FnExactReorderTable.j2 kj73 t675 (bt685.2.2 != t644) t654 t676) else (laws_FnExactReorderTable.j2 kj73 t675 true t654 t676)))) = some true := H
                          have A119 := Aside0.mk A1190
                          clear A1190
                          replace H := Option.bind_eq_some_iff.mp H
                          obtain ⟨⟨t685, t686, t689⟩, A1200, H⟩ := H
                          replace H : ((laws_eqTable.f kj73 t685 t686 t640 t641).bind fun t691 => (if t691 = true then (laws_FnExactReorderTable.j2 kj73 t675 (t689 != t644) t654 t676) else (laws_FnExactReorderTable.j2 kj73 t675 true t654 t676))) = some true := H
                          have A120 := Aside0.mk A1200
                          clear A1200
                          have HC121 := Aside0.mk H
                          clear H
                          have hnb122 := NB659_631.out
                          have hnc122 := NB631_659.out
                          have hnb123 := NB659_645.out
                          have hnc123 := NB645_659.out
                          have hnb124 := NB659_650.out
                          have hnc124 := NB650_659.out
                          have hcz125_0 : wc.cell? ⟨gb659, 0, none⟩ = some (.int .i64 t654) := (blk_cell BK659.out 0).trans rfl
                          have hcz125_1 : wc.cell? ⟨gb659, 1, none⟩ = some (.slice Ao46 t655.length co46) := (blk_cell BK659.out 1).trans rfl
                          have hfz125_0 := blk_frozen BK659.out 0
                          have hfz125_1 := blk_frozen BK659.out 1
                          go_upto_region 31 with (first | ((with_reducible refine gate_callee (f := 17) rfl ?_); refine goesL_ (some 83) rfl rfl Try.func17 (by kernel_rfl) rfl #[.agg #[.int .i64 t654, .slice Ao46 t655.length co46], .int .i64 1] rfl (by (try simp only [List.map_toArray, List.map_cons, List.map_nil]); first | done | rfl | (simp only [List.length_drop, List.length_take]; rfl)) ?_; (with_reducible refine (laws_markTable.calls kj73 t654 (fun k_ => some k_ = (.slice Ao46 t655.length co46 : Value).ownBlock) (.slice Ao46 t655.length co46) t655 1 t675 t676 w _ ?side1 ?side2 A107.out).mono ?_); (case side1 => repeat (first | (with_reducible first | exact HB.out | apply below_alloc | apply pw_below_drewN | apply below_drew1 | refine below_set ?_ GE631.out | refine below_set ?_ GE645.out | refine below_set ?_ GE650.out | refine below_set ?_ GE659.out) | exact HB.out)); (case side2 => exact Kd.R_tight rfl HO_660001.out); rintro e w126 ⟨rfl, hy0, hb, hkp⟩; refine ⟨_, rfl, ?_⟩; have n0_ := Aside0.mk (Kd.R_mono (ok' := fun k_ => some k_ ≠ (.slice Ao36 t671.length co36 : Value).ownBlock ∧ some k_ ≠ (.slice Ao46 t655.length co46 : Value).ownBlock) (Kd.R_keptB (HO_646001.out) hkp (fun k_ hk_ hs_ => (hk_.2) hs_)) (fun k_ hk_ => ⟨hk_.1.1, hk_.1.2⟩)); have n1_ := Aside0.mk (Kd.R_mono (ok' := fun k_ => some k_ ≠ (.slice Ao29 t641.length co29 : Value).ownBlock ∧ some k_ ≠ (.slice Ao46 t655.length co46 : Value).ownBlock) (Kd.R_keptB (HO_651001.out) hkp (fun k_ hk_ hs_ => (hk_.2) hs_)) (fun k_ hk_ => ⟨hk_.1.1, hk_.1.2⟩)); have n2_ := Aside0.mk (Kd.R_reok rfl hy0 (fun k_ e_ => HO_660001.out.1 k_ e_)); have n3_ := Aside0.mk (blk_kept (by (with_reducible repeat (first | refine blk_drewN ?_ _ | refine blk_drew ?_ | refine blk_alloc ?_ _)); exact BK631.out) hkp (fun hs_ => (fun e_ => (Kd.R_ne HO_660001.out BK631.out (by decide)) e_) hs_)); have n4_ := Aside0.mk (blk_kept (by (with_reducible repeat (first | refine blk_drewN ?_ _ | refine blk_drew ?_ | refine blk_alloc ?_ _)); exact BK645.out) hkp (fun hs_ => (fun e_ => (Kd.R_ne HO_660001.out BK645.out (by decide)) e_) hs_)); have n5_ := Aside0.mk (blk_kept (by (with_reducible repeat (first | refine blk_drewN ?_ _ | refine blk_drew ?_ | refine blk_alloc ?_ _)); exact BK650.out) hkp (fun hs_ => (fun e_ => (Kd.R_ne HO_660001.out BK650.out (by decide)) e_) hs_)); have n6_ := Aside0.mk (blk_kept (by (with_reducible repeat (first | refine blk_drewN ?_ _ | refine blk_drew ?_ | refine blk_alloc ?_ _)); exact BK659.out) hkp (fun hs_ => (fun e_ => (Kd.R_ne HO_660001.out BK659.out (by decide)) e_) hs_)); have n7_ := Aside0.mk (hb); clear HO_646001; clear HO_651001; clear HO_660001; clear BK631; clear BK645; clear BK650; clear BK659; clear HB; have HO_646001 := n0_; have HO_651001 := n1_; have HO_660001 := n2_; have BK631 := n3_; have BK645 := n4_; have BK650 := n5_; have BK659 := n6_; have HB := n7_; clear n0_ n1_ n2_ n3_ n4_ n5_ n6_ n7_; (try clear hb); (try clear hkp); (try clear hy0); have hcz127_0 : w126.cell? ⟨gb659, 0, none⟩ = some (.int .i64 t654) := (blk_cell BK659.out 0).trans rfl; have hcz127_1 : w126.cell? ⟨gb659, 1, none⟩ = some (.slice Ao46 t655.length co46) := (blk_cell BK659.out 1).trans rfl; have hfz127_0 := blk_frozen BK659.out 0; have hfz127_1 := blk_frozen BK659.out 1) | ((with_reducible refine gate_callee (f := 18) rfl ?_); refine goesL_ (some 86) rfl rfl Try.func18 (by kernel_rfl) rfl #[.agg #[.int .i64 t654, .slice Ao46 t676.length co46], .int .i64 1] rfl (by (try simp only [List.map_toArray, List.map_cons, List.map_nil]); first | done | (rw [show t676.length = t655.length from (Kd.R_reads' HO_660001.out).1.symm] <;> rfl) | rfl | (simp only [List.length_drop, List.length_take]; rfl)) ?_; (with_reducible refine (laws_heldTable.calls kj73 t654 _ _ t676 1 t677 _ ?side1 ?side2 A108.out).mono ?_); (case side1 => repeat (first | exact (Kd.R_reads' HO_660001.out).2.2 | (with_reducible refine Kd.C_alloc ?_ _) | (with_reducible refine Kd.C_drewN ?_ _) | (with_reducible refine Kd.C_drew ?_))); (case side2 => rw [show t676.length = t655.length from (Kd.R_reads' HO_660001.out).1.symm]; exact (Kd.R_reads' HO_660001.out).2.1); rintro e w128 ⟨rfl, hb⟩; refine ⟨_, rfl, ?_⟩; have n0_ := Aside0.mk (Kd.R_below (by (with_reducible repeat (first | apply Kd.R_alloc | apply Kd.R_drewN | apply Kd.R_drew)); exact HO_646001.out) hb); have n1_ := Aside0.mk (Kd.R_below (by (with_reducible repeat (first | apply Kd.R_alloc | apply Kd.R_drewN | apply Kd.R_drew)); exact HO_651001.out) hb); have n2_ := Aside0.mk (Kd.R_below (by (with_reducible repeat (first | apply Kd.R_alloc | apply Kd.R_drewN | apply Kd.R_drew)); exact HO_660001.out) hb); have n3_ := Aside0.mk (blk_below (g := gb631) (o := .cells #[.int .i64 a0_0, .slice A0_1 l0_1.length c0_1] 41 (0, 0)) (by (with_reducible repeat (first | refine blk_drewN ?_ _ | refine blk_drew ?_ | refine blk_alloc ?_ _)); exact BK631.out) hb); have n4_ := Aside0.mk (blk_below (g := gb645) (o := .cells #[.int .i64 t640, .slice Ao29 t641.length co29] 24 (0, 0)) (by (with_reducible repeat (first | refine blk_drewN ?_ _ | refine blk_drew ?_ | refine blk_alloc ?_ _)); exact BK645.out) hb); have n5_ := Aside0.mk (blk_below (g := gb650) (o := .cells #[.int .i64 t646, .slice Ao36 t671.length co36] 24 (0, 0)) (by (with_reducible repeat (first | refine blk_drewN ?_ _ | refine blk_drew ?_ | refine blk_alloc ?_ _)); exact BK650.out) hb); have n6_ := Aside0.mk (blk_below (g := gb659) (o := .cells #[.int .i64 t654, .slice Ao46 t655.length co46] 24 (0, 0)) (by (with_reducible repeat (first | refine blk_drewN ?_ _ | refine blk_drew ?_ | refine blk_alloc ?_ _)); exact BK659.out) hb); have n7_ := Aside0.mk (below_step (by repeat (first | (with_reducible first | exact HB.out | apply below_alloc | apply pw_below_drewN | apply below_drew1 | refine below_set ?_ GE631.out | refine below_set ?_ GE645.out | refine below_set ?_ GE650.out | refine below_set ?_ GE659.out) | exact HB.out)) hb); clear HO_646001; clear HO_651001; clear HO_660001; clear BK631; clear BK645; clear BK650; clear BK659; clear HB; have HO_646001 := n0_; have HO_651001 := n1_; have HO_660001 := n2_; have BK631 := n3_; have BK645 := n4_; have BK650 := n5_; have BK659 := n6_; have HB := n7_; clear n0_ n1_ n2_ n3_ n4_ n5_ n6_ n7_; (try clear hb); (try clear hb2); (try clear hk); (try clear hi); have hnb129 := NB631_645.out; have hnc129 := NB645_631.out; have hnb130 := NB631_650.out; have hnc130 := NB650_631.out; have hcz131_0 : w128.cell? ⟨gb631, 0, none⟩ = some (.int .i64 a0_0) := (blk_cell BK631.out 0).trans rfl; have hcz131_1 : w128.cell? ⟨gb631, 1, none⟩ = some (.slice A0_1 l0_1.length c0_1) := (blk_cell BK631.out 1).trans rfl; have hfz131_0 := blk_frozen BK631.out 0; have hfz131_1 := blk_frozen BK631.out 1) | ((with_reducible refine gate_callee (f := 30) rfl ?_); refine goesL_ (some 94) rfl rfl Try.func30 (by kernel_rfl) rfl #[.agg #[.int .i64 a0_0, .slice A0_1 l0_1.length c0_1]] rfl (by (try simp only [List.map_toArray, List.map_cons, List.map_nil]); first | done | rfl | (simp only [List.length_drop, List.length_take]; rfl)) ?_; (with_reducible refine (laws_toTable.calls kj73 a0_0 _ _ l0_1 t678 t679 _ ?side1 ?side2 A118.out).mono ?_); (case side1 => repeat (first | exact (Kd.C_below HR0_1.out HB.out) | (with_reducible refine Kd.C_alloc ?_ _) | (with_reducible refine Kd.C_drewN ?_ _) | (with_reducible refine Kd.C_drew ?_))); (case side2 => exact HC0_1.out); rintro e w132 ⟨v680, rfl, ho0, hb⟩; refine ⟨_, rfl, ?_⟩; have n0_ := Aside0.mk (Kd.R_elder' (by (with_reducible repeat (first | apply Kd.R_alloc | apply Kd.R_drewN | apply Kd.R_drew)); exact HO_646001.out) (Kd.R_base ho0) hb); have n1_ := Aside0.mk (Kd.R_elder' (by (with_reducible repeat (first | apply Kd.R_alloc | apply Kd.R_drewN | apply Kd.R_drew)); exact HO_651001.out) (Kd.R_base ho0) hb); have n2_ := Aside0.mk (Kd.R_elder' (by (with_reducible repeat (first | apply Kd.R_alloc | apply Kd.R_drewN | apply Kd.R_drew)); exact HO_660001.out) (Kd.R_base ho0) hb); have n3_ := Aside0.mk (Kd.R_lower (Kd.R_new' (Kd.R_new' (Kd.R_new' ho0 (Kd.R_lt (by (with_reducible repeat (first | apply Kd.R_alloc | apply Kd.R_drewN | apply Kd.R_drew)); exact HO_646001.out))) (Kd.R_lt (by (with_reducible repeat (first | apply Kd.R_alloc | apply Kd.R_drewN | apply Kd.R_drew)); exact HO_651001.out))) (Kd.R_lt (by (with_reducible repeat (first | apply Kd.R_alloc | apply Kd.R_drewN | apply Kd.R_drew)); exact HO_660001.out))) (below_size (by repeat (first | (with_reducible first | exact HB.out | apply below_alloc | apply pw_below_drewN | apply below_drew1 | refine below_set ?_ GE631.out | refine below_set ?_ GE645.out | refine below_set ?_ GE650.out | refine below_set ?_ GE659.out) | exact HB.out)))); have n4_ := Aside0.mk (blk_below (g := gb631) (o := .cells #[.int .i64 a0_0, .slice A0_1 l0_1.length c0_1] 41 (0, 0)) (by (with_reducible repeat (first | refine blk_drewN ?_ _ | refine blk_drew ?_ | refine blk_alloc ?_ _)); exact BK631.out) hb); have n5_ := Aside0.mk (blk_below (g := gb645) (o := .cells #[.int .i64 t640, .slice Ao29 t641.length co29] 24 (0, 0)) (by (with_reducible repeat (first | refine blk_drewN ?_ _ | refine blk_drew ?_ | refine blk_alloc ?_ _)); exact BK645.out) hb); have n6_ := Aside0.mk (blk_below (g := gb650) (o := .cells #[.int .i64 t646, .slice Ao36 t671.length co36] 24 (0, 0)) (by (with_reducible repeat (first | refine blk_drewN ?_ _ | refine blk_drew ?_ | refine blk_alloc ?_ _)); exact BK650.out) hb); have n7_ := Aside0.mk (blk_below (g := gb659) (o := .cells #[.int .i64 t654, .slice Ao46 t655.length co46] 24 (0, 0)) (by (with_reducible repeat (first | refine blk_drewN ?_ _ | refine blk_drew ?_ | refine blk_alloc ?_ _)); exact BK659.out) hb); have n8_ := Aside0.mk (below_step (by repeat (first | (with_reducible first | exact HB.out | apply below_alloc | apply pw_below_drewN | apply below_drew1 | refine below_set ?_ GE631.out | refine below_set ?_ GE645.out | refine below_set ?_ GE650.out | refine below_set ?_ GE659.out) | exact HB.out)) hb); clear HO_646001; clear HO_651001; clear HO_660001; clear BK631; clear BK645; clear BK650; clear BK659; clear HB; have HO_646001 := n0_; have HO_651001 := n1_; have HO_660001 := n2_; have HO681 := n3_; have BK631 := n4_; have BK645 := n5_; have BK650 := n6_; have BK659 := n7_; have HB := n8_; clear n0_ n1_ n2_ n3_ n4_ n5_ n6_ n7_ n8_; (try clear hb); (try clear hb2); (try clear hk); (try clear hi); (try clear ho0)) | ((with_reducible refine gate_callee (f := 39) rfl ?_); refine goesL_ (some 96) rfl rfl Try.func39 (by kernel_rfl) rfl #[.slice A1 l1.length c1] rfl (by (try simp only [List.map_toArray, List.map_cons, List.map_nil]); first | done | rfl | (simp only [List.length_drop, List.length_take]; rfl)) ?_; (with_reducible refine (laws_toIntS.calls kj73 _ _ l1 t682 _ ?side1 ?side2 A119.out).mono ?_); (case side1 => repeat (first | exact (Kd.C_below HR1.out HB.out) | (with_reducible refine Kd.C_alloc ?_ _) | (with_reducible refine Kd.C_drewN ?_ _) | (with_reducible refine Kd.C_drew ?_))); (case side2 => exact HC1.out); rintro e w133 ⟨v683, rfl, ho0, hb⟩; refine ⟨_, rfl, ?_⟩; have n0_ := Aside0.mk (Kd.R_elder' (by (with_reducible repeat (first | apply Kd.R_alloc | apply Kd.R_drewN | apply Kd.R_drew)); exact HO_646001.out) (Kd.R_base ho0) hb); have n1_ := Aside0.mk (Kd.R_elder' (by (with_reducible repeat (first | apply Kd.R_alloc | apply Kd.R_drewN | apply Kd.R_drew)); exact HO_651001.out) (Kd.R_base ho0) hb); have n2_ := Aside0.mk (Kd.R_elder' (by (with_reducible repeat (first | apply Kd.R_alloc | apply Kd.R_drewN | apply Kd.R_drew)); exact HO_660001.out) (Kd.R_base ho0) hb); have n3_ := Aside0.mk (Kd.R_elder' (by (with_reducible repeat (first | apply Kd.R_alloc | apply Kd.R_drewN | apply Kd.R_drew)); exact HO681.out) (Kd.R_base ho0) hb); have n4_ := Aside0.mk (Kd.R_lower (Kd.R_new' (Kd.R_new' (Kd.R_new' (Kd.R_new' ho0 (Kd.R_lt (by (with_reducible repeat (first | apply Kd.R_alloc | apply Kd.R_drewN | apply Kd.R_drew)); exact HO_646001.out))) (Kd.R_lt (by (with_reducible repeat (first | apply Kd.R_alloc | apply Kd.R_drewN | apply Kd.R_drew)); exact HO_651001.out))) (Kd.R_lt (by (with_reducible repeat (first | apply Kd.R_alloc | apply Kd.R_drewN | apply Kd.R_drew)); exact HO_660001.out))) (Kd.R_lt (by (with_reducible repeat (first | apply Kd.R_alloc | apply Kd.R_drewN | apply Kd.R_drew)); exact HO681.out))) (below_size (by repeat (first | (with_reducible first | exact HB.out | apply below_alloc | apply pw_below_drewN | apply below_drew1 | refine below_set ?_ GE631.out | refine below_set ?_ GE645.out | refine below_set ?_ GE650.out | refine below_set ?_ GE659.out) | exact HB.out)))); have n5_ := Aside0.mk (blk_below (g := gb631) (o := .cells #[.int .i64 a0_0, .slice A0_1 l0_1.length c0_1] 41 (0, 0)) (by (with_reducible repeat (first | refine blk_drewN ?_ _ | refine blk_drew ?_ | refine blk_alloc ?_ _)); exact BK631.out) hb); have n6_ := Aside0.mk (blk_below (g := gb645) (o := .cells #[.int .i64 t640, .slice Ao29 t641.length co29] 24 (0, 0)) (by (with_reducible repeat (first | refine blk_drewN ?_ _ | refine blk_drew ?_ | refine blk_alloc ?_ _)); exact BK645.out) hb); have n7_ := Aside0.mk (blk_below (g := gb650) (o := .cells #[.int .i64 t646, .slice Ao36 t671.length co36] 24 (0, 0)) (by (with_reducible repeat (first | refine blk_drewN ?_ _ | refine blk_drew ?_ | refine blk_alloc ?_ _)); exact BK650.out) hb); have n8_ := Aside0.mk (blk_below (g := gb659) (o := .cells #[.int .i64 t654, .slice Ao46 t655.length co46] 24 (0, 0)) (by (with_reducible repeat (first | refine blk_drewN ?_ _ | refine blk_drew ?_ | refine blk_alloc ?_ _)); exact BK659.out) hb); have n9_ := Aside0.mk (below_step (by repeat (first | (with_reducible first | exact HB.out | apply below_alloc | apply pw_below_drewN | apply below_drew1 | refine below_set ?_ GE631.out | refine below_set ?_ GE645.out | refine below_set ?_ GE650.out | refine below_set ?_ GE659.out) | exact HB.out)) hb); clear HO_646001; clear HO_651001; clear HO_660001; clear HO681; clear BK631; clear BK645; clear BK650; clear BK659; clear HB; have HO_646001 := n0_; have HO_651001 := n1_; have HO_660001 := n2_; have HO681 := n3_; have HO684 := n4_; have BK631 := n5_; have BK645 := n6_; have BK650 := n7_; have BK659 := n8_; have HB := n9_; clear n0_ n1_ n2_ n3_ n4_ n5_ n6_ n7_ n8_ n9_; (try clear hb); (try clear hb2); (try clear hk); (try clear hi); (try clear ho0); obtain ⟨Ao134, co134, eo134⟩ := Kd.R_slice HO681.out; subst eo134; obtain ⟨Ao135, co135, eo135⟩ := Kd.R_slice HO684.out; subst eo135) | ((with_reducible refine gate_callee (f := 40) rfl ?_); refine goesL_ (some 97) rfl rfl Try.func40 (by kernel_rfl) rfl #[.agg #[.int .i64 t678, .slice Ao134 t679.length co134], .slice Ao135 t682.length co135] rfl (by (try simp only [List.map_toArray, List.map_cons, List.map_nil]); first | done | rfl | (simp only [List.length_drop, List.length_take]; rfl)) ?_; (with_reducible refine (impl_ReorderTable.calls kj73 t678 _ _ t679 _ _ t682 t685 t686 t689 _ ?side1 ?side2 ?side3 ?side4 A120.out).mono ?_); (case side1 => repeat (first | exact (Kd.R_reads' HO681.out).2.2 | (with_reducible refine Kd.C_alloc ?_ _) | (with_reducible refine Kd.C_drewN ?_ _) | (with_reducible refine Kd.C_drew ?_))); (case side2 => exact (Kd.R_reads' HO681.out).2.1); (case side3 => repeat (first | exact (Kd.R_reads' HO684.out).2.2 | (with_reducible refine Kd.C_alloc ?_ _) | (with_reducible refine Kd.C_drewN ?_ _) | (with_reducible refine Kd.C_drew ?_))); (case side4 => exact (Kd.R_reads' HO684.out).2.1); rintro e w136 ⟨v687, rfl, ho0, hb⟩; refine ⟨_, rfl, ?_⟩; have n0_ := Aside0.mk (Kd.R_elder' (by (with_reducible repeat (first | apply Kd.R_alloc | apply Kd.R_drewN | apply Kd.R_drew)); exact HO_646001.out) (Kd.R_base ho0) hb); have n1_ := Aside0.mk (Kd.R_elder' (by (with_reducible repeat (first | apply Kd.R_alloc | apply Kd.R_drewN | apply Kd.R_drew)); exact HO_651001.out) (Kd.R_base ho0) hb); have n2_ := Aside0.mk (Kd.R_elder' (by (with_reducible repeat (first | apply Kd.R_alloc | apply Kd.R_drewN | apply Kd.R_drew)); exact HO_660001.out) (Kd.R_base ho0) hb); have n3_ := Aside0.mk (Kd.R_elder' (by (with_reducible repeat (first | apply Kd.R_alloc | apply Kd.R_drewN | apply Kd.R_drew)); exact HO681.out) (Kd.R_base ho0) hb); have n4_ := Aside0.mk (Kd.R_elder' (by (with_reducible repeat (first | apply Kd.R_alloc | apply Kd.R_drewN | apply Kd.R_drew)); exact HO684.out) (Kd.R_base ho0) hb); have n5_ := Aside0.mk (Kd.R_lower (Kd.R_new' (Kd.R_new' (Kd.R_new' (Kd.R_new' (Kd.R_new' ho0 (Kd.R_lt (by (with_reducible repeat (first | apply Kd.R_alloc | apply Kd.R_drewN | apply Kd.R_drew)); exact HO_646001.out))) (Kd.R_lt (by (with_reducible repeat (first | apply Kd.R_alloc | apply Kd.R_drewN | apply Kd.R_drew)); exact HO_651001.out))) (Kd.R_lt (by (with_reducible repeat (first | apply Kd.R_alloc | apply Kd.R_drewN | apply Kd.R_drew)); exact HO_660001.out))) (Kd.R_lt (by (with_reducible repeat (first | apply Kd.R_alloc | apply Kd.R_drewN | apply Kd.R_drew)); exact HO681.out))) (Kd.R_lt (by (with_reducible repeat (first | apply Kd.R_alloc | apply Kd.R_drewN | apply Kd.R_drew)); exact HO684.out))) (below_size (by repeat (first | (with_reducible first | exact HB.out | apply below_alloc | apply pw_below_drewN | apply below_drew1 | refine below_set ?_ GE631.out | refine below_set ?_ GE645.out | refine below_set ?_ GE650.out | refine below_set ?_ GE659.out) | exact HB.out)))); have n6_ := Aside0.mk (blk_below (g := gb631) (o := .cells #[.int .i64 a0_0, .slice A0_1 l0_1.length c0_1] 41 (0, 0)) (by (with_reducible repeat (first | refine blk_drewN ?_ _ | refine blk_drew ?_ | refine blk_alloc ?_ _)); exact BK631.out) hb); have n7_ := Aside0.mk (blk_below (g := gb645) (o := .cells #[.int .i64 t640, .slice Ao29 t641.length co29] 24 (0, 0)) (by (with_reducible repeat (first | refine blk_drewN ?_ _ | refine blk_drew ?_ | refine blk_alloc ?_ _)); exact BK645.out) hb); have n8_ := Aside0.mk (blk_below (g := gb650) (o := .cells #[.int .i64 t646, .slice Ao36 t671.length co36] 24 (0, 0)) (by (with_reducible repeat (first | refine blk_drewN ?_ _ | refine blk_drew ?_ | refine blk_alloc ?_ _)); exact BK650.out) hb); have n9_ := Aside0.mk (blk_below (g := gb659) (o := .cells #[.int .i64 t654, .slice Ao46 t655.length co46] 24 (0, 0)) (by (with_reducible repeat (first | refine blk_drewN ?_ _ | refine blk_drew ?_ | refine blk_alloc ?_ _)); exact BK659.out) hb); have n10_ := Aside0.mk (below_step (by repeat (first | (with_reducible first | exact HB.out | apply below_alloc | apply pw_below_drewN | apply below_drew1 | refine below_set ?_ GE631.out | refine below_set ?_ GE645.out | refine below_set ?_ GE650.out | refine below_set ?_ GE659.out) | exact HB.out)) hb); clear HO_646001; clear HO_651001; clear HO_660001; clear HO681; clear HO684; clear BK631; clear BK645; clear BK650; clear BK659; clear HB; have HO_646001 := n0_; have HO_651001 := n1_; have HO_660001 := n2_; have HO681 := n3_; have HO684 := n4_; have HO688 := n5_; have BK631 := n6_; have BK645 := n7_; have BK650 := n8_; have BK659 := n9_; have HB := n10_; clear n0_ n1_ n2_ n3_ n4_ n5_ n6_ n7_ n8_ n9_ n10_; (try clear hb); (try clear hb2); (try clear hk); (try clear hi); (try clear ho0)) | ((with_reducible refine gate_dst (N := 15) rfl ?_); refine box_event ?hg (N := 15) ?hd (cs := #[.int .i64 0, .slice none 0 0]) (t := 24) ?hr ?_; (case hd => rfl); (case hg => rfl); (case hr => first | (go_simp; done) | (go_simp; rfl)); intro gb690 hg w137 hbox hb; have n0_ := Aside0.mk (Kd.R_below (by (with_reducible repeat (first | apply Kd.R_alloc | apply Kd.R_drewN | apply Kd.R_drew)); exact HO_646001.out) hb); have n1_ := Aside0.mk (Kd.R_below (by (with_reducible repeat (first | apply Kd.R_alloc | apply Kd.R_drewN | apply Kd.R_drew)); exact HO_651001.out) hb); have n2_ := Aside0.mk (Kd.R_below (by (with_reducible repeat (first | apply Kd.R_alloc | apply Kd.R_drewN | apply Kd.R_drew)); exact HO_660001.out) hb); have n3_ := Aside0.mk (Kd.R_below (by (with_reducible repeat (first | apply Kd.R_alloc | apply Kd.R_drewN | apply Kd.R_drew)); exact HO681.out) hb); have n4_ := Aside0.mk (Kd.R_below (by (with_reducible repeat (first | apply Kd.R_alloc | apply Kd.R_drewN | apply Kd.R_drew)); exact HO684.out) hb); have n5_ := Aside0.mk (Kd.R_below (by (with_reducible repeat (first | apply Kd.R_alloc | apply Kd.R_drewN | apply Kd.R_drew)); exact HO688.out) hb); have n6_ := Aside0.mk (blk_below (g := gb631) (o := .cells #[.int .i64 a0_0, .slice A0_1 l0_1.length c0_1] 41 (0, 0)) (by (with_reducible repeat (first | refine blk_drewN ?_ _ | refine blk_drew ?_ | refine blk_alloc ?_ _)); exact BK631.out) hb); have n7_ := Aside0.mk (blk_below (g := gb645) (o := .cells #[.int .i64 t640, .slice Ao29 t641.length co29] 24 (0, 0)) (by (with_reducible repeat (first | refine blk_drewN ?_ _ | refine blk_drew ?_ | refine blk_alloc ?_ _)); exact BK645.out) hb); have n8_ := Aside0.mk (blk_below (g := gb650) (o := .cells #[.int .i64 t646, .slice Ao36 t671.length co36] 24 (0, 0)) (by (with_reducible repeat (first | refine blk_drewN ?_ _ | refine blk_drew ?_ | refine blk_alloc ?_ _)); exact BK650.out) hb); have n9_ := Aside0.mk (blk_below (g := gb659) (o := .cells #[.int .i64 t654, .slice Ao46 t655.length co46] 24 (0, 0)) (by (with_reducible repeat (first | refine blk_drewN ?_ _ | refine blk_drew ?_ | refine blk_alloc ?_ _)); exact BK659.out) hb); have n10_ := Aside0.mk (below_step (by repeat (first | (with_reducible first | exact HB.out | apply below_alloc | apply pw_below_drewN | apply below_drew1 | refine below_set ?_ GE631.out | refine below_set ?_ GE645.out | refine below_set ?_ GE650.out | refine below_set ?_ GE659.out) | exact HB.out)) hb); have n11_ := Aside0.mk (hbox); have n12_ := Aside0.mk ((by rw [hg]; exact (below_size (by repeat (first | (with_reducible first | exact HB.out | apply below_alloc | apply pw_below_drewN | apply below_drew1 | refine below_set ?_ GE631.out | refine below_set ?_ GE645.out | refine below_set ?_ GE650.out | refine below_set ?_ GE659.out) | exact HB.out))) : w.heap.size ≤ gb690)); have n13_ := Aside0.mk ((by rw [hg]; exact (below_size (by repeat (first | (with_reducible first | exact HB.out | apply below_alloc | apply pw_below_drewN | apply below_drew1 | refine below_set ?_ GE631.out | refine below_set ?_ GE645.out | refine below_set ?_ GE650.out | refine below_set ?_ GE659.out) | exact HB.out))) : w.heap.size ≤ gb690)); have n14_ := Aside0.mk ((by rw [hg]; exact Nat.ne_of_lt (blk_lt (g := gb631) (o := .cells #[.int .i64 a0_0, .slice A0_1 l0_1.length c0_1] 41 (0, 0)) (by (with_reducible repeat (first | refine blk_drewN ?_ _ | refine blk_drew ?_ | refine blk_alloc ?_ _)); exact BK631.out)) : gb631 ≠ gb690)); have n15_ := Aside0.mk ((by rw [hg]; exact Nat.ne_of_gt (blk_lt (g := gb631) (o := .cells #[.int .i64 a0_0, .slice A0_1 l0_1.length c0_1] 41 (0, 0)) (by (with_reducible repeat (first | refine blk_drewN ?_ _ | refine blk_drew ?_ | refine blk_alloc ?_ _)); exact BK631.out)) : gb690 ≠ gb631)); have n16_ := Aside0.mk ((by rw [hg]; exact Nat.ne_of_lt (blk_lt (g := gb645) (o := .cells #[.int .i64 t640, .slice Ao29 t641.length co29] 24 (0, 0)) (by (with_reducible repeat (first | refine blk_drewN ?_ _ | refine blk_drew ?_ | refine blk_alloc ?_ _)); exact BK645.out)) : gb645 ≠ gb690)); have n17_ := Aside0.mk ((by rw [hg]; exact Nat.ne_of_gt (blk_lt (g := gb645) (o := .cells #[.int .i64 t640, .slice Ao29 t641.length co29] 24 (0, 0)) (by (with_reducible repeat (first | refine blk_drewN ?_ _ | refine blk_drew ?_ | refine blk_alloc ?_ _)); exact BK645.out)) : gb690 ≠ gb645)); have n18_ := Aside0.mk ((by rw [hg]; exact Nat.ne_of_lt (blk_lt (g := gb650) (o := .cells #[.int .i64 t646, .slice Ao36 t671.length co36] 24 (0, 0)) (by (with_reducible repeat (first | refine blk_drewN ?_ _ | refine blk_drew ?_ | refine blk_alloc ?_ _)); exact BK650.out)) : gb650 ≠ gb690)); have n19_ := Aside0.mk ((by rw [hg]; exact Nat.ne_of_gt (blk_lt (g := gb650) (o := .cells #[.int .i64 t646, .slice Ao36 t671.length co36] 24 (0, 0)) (by (with_reducible repeat (first | refine blk_drewN ?_ _ | refine blk_drew ?_ | refine blk_alloc ?_ _)); exact BK650.out)) : gb690 ≠ gb650)); have n20_ := Aside0.mk ((by rw [hg]; exact Nat.ne_of_lt (blk_lt (g := gb659) (o := .cells #[.int .i64 t654, .slice Ao46 t655.length co46] 24 (0, 0)) (by (with_reducible repeat (first | refine blk_drewN ?_ _ | refine blk_drew ?_ | refine blk_alloc ?_ _)); exact BK659.out)) : gb659 ≠ gb690)); have n21_ := Aside0.mk ((by rw [hg]; exact Nat.ne_of_gt (blk_lt (g := gb659) (o := .cells #[.int .i64 t654, .slice Ao46 t655.length co46] 24 (0, 0)) (by (with_reducible repeat (first | refine blk_drewN ?_ _ | refine blk_drew ?_ | refine blk_alloc ?_ _)); exact BK659.out)) : gb690 ≠ gb659)); clear HO_646001; clear HO_651001; clear HO_660001; clear HO681; clear HO684; clear HO688; clear BK631; clear BK645; clear BK650; clear BK659; clear HB; have HO_646001 := n0_; have HO_651001 := n1_; have HO_660001 := n2_; have HO681 := n3_; have HO684 := n4_; have HO688 := n5_; have BK631 := n6_; have BK645 := n7_; have BK650 := n8_; have BK659 := n9_; have HB := n10_; have BK690 := n11_; have GW690 := n12_; have GE690 := n13_; have NB631_690 := n14_; have NB690_631 := n15_; have NB645_690 := n16_; have NB690_645 := n17_; have NB650_690 := n18_; have NB690_650 := n19_; have NB659_690 := n20_; have NB690_659 := n21_; clear n0_ n1_ n2_ n3_ n4_ n5_ n6_ n7_ n8_ n9_ n10_ n11_ n12_ n13_ n14_ n15_ n16_ n17_ n18_ n19_ n20_ n21_; clear hb hbox hg; have hnb138 := NB690_631.out; have hnc138 := NB631_690.out; have hnb139 := NB690_645.out; have hnc139 := NB645_690.out; have hnb140 := NB690_650.out; have hnc140 := NB650_690.out; have hnb141 := NB690_659.out; have hnc141 := NB659_690.out; have hcz142_0 : w137.cell? ⟨gb690, 0, none⟩ = some (.int .i64 0) := (blk_cell BK690.out 0).trans rfl; have hcz142_1 : w137.cell? ⟨gb690, 1, none⟩ = some (.slice none 0 0) := (blk_cell BK690.out 1).trans rfl; have hfz142_0 := blk_frozen BK690.out 0; have hfz142_1 := blk_frozen BK690.out 1; obtain ⟨Ao143, co143, eo143⟩ := Kd.R_slice HO688.out; subst eo143))
                          (try simp only [Act.put, List.setIfInBounds_toArray, List.set_cons_zero, List.set_cons_succ])
                          go_cut [108] (fun v108 wc => ∃ (kq : Nat) (x108_120 : Bool), v108 = .bool x108_120 ∧ Aside0 (laws_FnExactReorderTable.j2 kq t675 x108_120 t654 t676 = some true) ∧ Aside0 (kq ≤ kj73) ∧ Aside0 (Kd.R (Kd.int .i64) 3 wc w.heap.size (fun k_ => some k_ ≠ ((.slice Ao36 t671.length co36) : Value).ownBlock ∧ some k_ ≠ ((.slice Ao46 t655.length co46) : Value).ownBlock ∧ some k_ ≠ ((.slice Ao143 t686.length co143) : Value).ownBlock) (.slice Ao29 t641.length co29) t641) ∧ Aside0 (Kd.R (Kd.int .i64) 3 wc w.heap.size (fun k_ => some k_ ≠ ((.slice Ao29 t641.length co29) : Value).ownBlock ∧ some k_ ≠ ((.slice Ao46 t655.length co46) : Value).ownBlock ∧ some k_ ≠ ((.slice Ao143 t686.length co143) : Value).ownBlock) (.slice Ao36 t671.length co36) t671) ∧ Aside0 (Kd.R (Kd.int .i64) 3 wc w.heap.size (fun k_ => some k_ ≠ ((.slice Ao29 t641.length co29) : Value).ownBlock ∧ some k_ ≠ ((.slice Ao36 t671.length co36) : Value).ownBlock ∧ some k_ ≠ ((.slice Ao143 t686.length co143) : Value).ownBlock) (.slice Ao46 t655.length co46) t676) ∧ Aside0 (Kd.R (Kd.int .i64) 3 wc w.heap.size (fun k_ => some k_ ≠ ((.slice Ao29 t641.length co29) : Value).ownBlock ∧ some k_ ≠ ((.slice Ao36 t671.length co36) : Value).ownBlock ∧ some k_ ≠ ((.slice Ao46 t655.length co46) : Value).ownBlock) (.slice Ao143 t686.length co143) t686) ∧ Aside0 (wc.heap[gb631]? = some (.cells #[.int .i64 a0_0, (.slice A0_1 l0_1.length c0_1)] 41 (0, 0))) ∧ Aside0 (wc.heap[gb645]? = some (.cells #[.int .i64 t640, (.slice Ao29 t641.length co29)] 24 (0, 0))) ∧ Aside0 (wc.heap[gb650]? = some (.cells #[.int .i64 t646, (.slice Ao36 t671.length co36)] 24 (0, 0))) ∧ Aside0 (wc.heap[gb659]? = some (.cells #[.int .i64 t654, (.slice Ao46 t655.length co46)] 24 (0, 0))) ∧ Aside0 (wc.heap[gb690]? = some (.cells #[.int .i64 t685, (.slice Ao143 t686.length co143)] 24 (0, 0))) ∧ Aside0 (Below w.heap.size w wc))
                          case first =>
                            have H := HC121.out
                            clear HC121
                            replace H := Option.bind_eq_some_iff.mp H
                            obtain ⟨t691, A1440, H⟩ := H
                            replace H : (if t691 = true then (laws_FnExactReorderTable.j2 kj73 t675 (t689 != t644) t654 t676) else (laws_FnExactReorderTable.j2 kj73 t675 true t654 t676)) = some true := H
                            have A144 := Aside0.mk A1440
                            clear A1440
                            by_cases c145 : t691 = true
                            · subst c145
                              have H1 : (laws_FnExactReorderTable.j2 kj73 t675 (t689 != t644) t654 t676) = some true := by rw [if_pos rfl] at H; exact H
                              clear H
                              have H := H1
                              clear H1
                              have H' := Aside0.mk H
                              clear H
                              have hnb146 := NB690_631.out
                              have hnc146 := NB631_690.out
                              have hnb147 := NB690_645.out
                              have hnc147 := NB645_690.out
                              have hnb148 := NB690_650.out
                              have hnc148 := NB650_690.out
                              have hnb149 := NB690_659.out
                              have hnc149 := NB659_690.out
                              have hcz150_0 : w137.cell? ⟨gb690, 0, none⟩ = some (.int .i64 0) := (blk_cell BK690.out 0).trans rfl
                              have hcz150_1 : w137.cell? ⟨gb690, 1, none⟩ = some (.slice none 0 0) := (blk_cell BK690.out 1).trans rfl
                              have hfz150_0 := blk_frozen BK690.out 0
                              have hfz150_1 := blk_frozen BK690.out 1
                              have hnb151 := NB645_631.out
                              have hnc151 := NB631_645.out
                              have hnb152 := NB645_650.out
                              have hnc152 := NB650_645.out
                              have hnb153 := NB645_659.out
                              have hnc153 := NB659_645.out
                              have hcz154_0 : w137.cell? ⟨gb645, 0, none⟩ = some (.int .i64 t640) := (blk_cell BK645.out 0).trans rfl
                              have hcz154_1 : w137.cell? ⟨gb645, 1, none⟩ = some (.slice Ao29 t641.length co29) := (blk_cell BK645.out 1).trans rfl
                              have hfz154_0 := blk_frozen BK645.out 0
                              have hfz154_1 := blk_frozen BK645.out 1
                              go_wp2_with (first | ((with_reducible refine gate_callee (f := 16) rfl ?_); refine goesL_ (some 102) rfl rfl Try.func16 (by kernel_rfl) rfl #[.agg #[.int .i64 t685, .slice Ao143 t686.length co143], .agg #[.int .i64 t640, .slice Ao29 t641.length co29]] rfl (by (try simp only [List.map_toArray, List.map_cons, List.map_nil]); first | done | rfl | (simp only [List.length_drop, List.length_take]; rfl)) ?_; (with_reducible refine (laws_eqTable.calls kj73 t685 _ _ t686 t640 _ _ t641 true _ ?side1 ?side2 ?side3 ?side4 A144.out).mono ?_); (case side1 => refine (Kd.R_reads' (e := 3) (base := w.heap.size) (ok := fun k_ => (((((True ∧ some k_ ≠ (.slice Ao29 t641.length co29 : Value).ownBlock) ∧ some k_ ≠ (.slice Ao36 t671.length co36 : Value).ownBlock) ∧ some k_ ≠ (.slice Ao46 t655.length co46 : Value).ownBlock) ∧ some k_ ≠ (.slice Ao134 t679.length co134 : Value).ownBlock) ∧ some k_ ≠ (.slice Ao135 t682.length co135 : Value).ownBlock)) (n := t686.length) (c := co143) ?_).2.2; exact (by (with_reducible repeat (first | apply Kd.R_alloc | apply Kd.R_drewN | apply Kd.R_drew)); exact (Kd.R_mono (Kd.R_far (p := ⟨gb690, 1, none⟩) (Kd.R_far (p := ⟨gb690, 0, none⟩) (Kd.R_types HO688.out BK690.out (by decide)) (fun _ hk => hk.2) (.int .i64 t685)) (fun _ hk => hk.2) (.slice Ao143 t686.length co143)) (fun _ h_ => h_.1)))); (case side2 => exact (Kd.R_reads' HO688.out).2.1); (case side3 => refine (Kd.R_reads' (e := 3) (base := w.heap.size) (ok := fun k_ => ((((some k_ ≠ (.slice Ao36 t671.length co36 : Value).ownBlock ∧ some k_ ≠ (.slice Ao46 t655.length co46 : Value).ownBlock) ∧ some k_ ≠ (.slice Ao134 t679.length co134 : Value).ownBlock) ∧ some k_ ≠ (.slice Ao135 t682.length co135 : Value).ownBlock) ∧ some k_ ≠ (.slice Ao143 t686.length co143 : Value).ownBlock)) (n := t641.length) (c := co29) ?_).2.2; exact (by (with_reducible repeat (first | apply Kd.R_alloc | apply Kd.R_drewN | apply Kd.R_drew)); exact (Kd.R_mono (Kd.R_far (p := ⟨gb690, 1, none⟩) (Kd.R_far (p := ⟨gb690, 0, none⟩) (Kd.R_types HO_646001.out BK690.out (by decide)) (fun _ hk => hk.2) (.int .i64 t685)) (fun _ hk => hk.2) (.slice Ao143 t686.length co143)) (fun _ h_ => h_.1)))); (case side4 => exact (Kd.R_reads' HO_646001.out).2.1); rintro e w155 ⟨rfl, hb⟩; refine ⟨_, rfl, ?_⟩; have n0_ := Aside0.mk (Kd.R_below (by (with_reducible repeat (first | apply Kd.R_alloc | apply Kd.R_drewN | apply Kd.R_drew)); exact (Kd.R_mono (Kd.R_far (p := ⟨gb690, 1, none⟩) (Kd.R_far (p := ⟨gb690, 0, none⟩) (Kd.R_types HO_646001.out BK690.out (by decide)) (fun _ hk => hk.2) (.int .i64 t685)) (fun _ hk => hk.2) (.slice Ao143 t686.length co143)) (fun _ h_ => h_.1))) hb); have n1_ := Aside0.mk (Kd.R_below (by (with_reducible repeat (first | apply Kd.R_alloc | apply Kd.R_drewN | apply Kd.R_drew)); exact (Kd.R_mono (Kd.R_far (p := ⟨gb690, 1, none⟩) (Kd.R_far (p := ⟨gb690, 0, none⟩) (Kd.R_types HO_651001.out BK690.out (by decide)) (fun _ hk => hk.2) (.int .i64 t685)) (fun _ hk => hk.2) (.slice Ao143 t686.length co143)) (fun _ h_ => h_.1))) hb); have n2_ := Aside0.mk (Kd.R_below (by (with_reducible repeat (first | apply Kd.R_alloc | apply Kd.R_drewN | apply Kd.R_drew)); exact (Kd.R_mono (Kd.R_far (p := ⟨gb690, 1, none⟩) (Kd.R_far (p := ⟨gb690, 0, none⟩) (Kd.R_types HO_660001.out BK690.out (by decide)) (fun _ hk => hk.2) (.int .i64 t685)) (fun _ hk => hk.2) (.slice Ao143 t686.length co143)) (fun _ h_ => h_.1))) hb); have n3_ := Aside0.mk (Kd.R_below (by (with_reducible repeat (first | apply Kd.R_alloc | apply Kd.R_drewN | apply Kd.R_drew)); exact (Kd.R_mono (Kd.R_far (p := ⟨gb690, 1, none⟩) (Kd.R_far (p := ⟨gb690, 0, none⟩) (Kd.R_types HO681.out BK690.out (by decide)) (fun _ hk => hk.2) (.int .i64 t685)) (fun _ hk => hk.2) (.slice Ao143 t686.length co143)) (fun _ h_ => h_.1))) hb); have n4_ := Aside0.mk (Kd.R_below (by (with_reducible repeat (first | apply Kd.R_alloc | apply Kd.R_drewN | apply Kd.R_drew)); exact (Kd.R_mono (Kd.R_far (p := ⟨gb690, 1, none⟩) (Kd.R_far (p := ⟨gb690, 0, none⟩) (Kd.R_types HO684.out BK690.out (by decide)) (fun _ hk => hk.2) (.int .i64 t685)) (fun _ hk => hk.2) (.slice Ao143 t686.length co143)) (fun _ h_ => h_.1))) hb); have n5_ := Aside0.mk (Kd.R_below (by (with_reducible repeat (first | apply Kd.R_alloc | apply Kd.R_drewN | apply Kd.R_drew)); exact (Kd.R_mono (Kd.R_far (p := ⟨gb690, 1, none⟩) (Kd.R_far (p := ⟨gb690, 0, none⟩) (Kd.R_types HO688.out BK690.out (by decide)) (fun _ hk => hk.2) (.int .i64 t685)) (fun _ hk => hk.2) (.slice Ao143 t686.length co143)) (fun _ h_ => h_.1))) hb); have n6_ := Aside0.mk (blk_below (g := gb631) (o := .cells #[.int .i64 a0_0, .slice A0_1 l0_1.length c0_1] 41 (0, 0)) (by (with_reducible repeat (first | refine blk_drewN ?_ _ | refine blk_drew ?_ | refine blk_alloc ?_ _)); refine blk_far ?_ NB631_690.out _; (with_reducible repeat (first | refine blk_drewN ?_ _ | refine blk_drew ?_ | refine blk_alloc ?_ _)); refine blk_far ?_ NB631_690.out _; (with_reducible repeat (first | refine blk_drewN ?_ _ | refine blk_drew ?_ | refine blk_alloc ?_ _)); exact BK631.out) hb); have n7_ := Aside0.mk (blk_below (g := gb645) (o := .cells #[.int .i64 t640, .slice Ao29 t641.length co29] 24 (0, 0)) (by (with_reducible repeat (first | refine blk_drewN ?_ _ | refine blk_drew ?_ | refine blk_alloc ?_ _)); refine blk_far ?_ NB645_690.out _; (with_reducible repeat (first | refine blk_drewN ?_ _ | refine blk_drew ?_ | refine blk_alloc ?_ _)); refine blk_far ?_ NB645_690.out _; (with_reducible repeat (first | refine blk_drewN ?_ _ | refine blk_drew ?_ | refine blk_alloc ?_ _)); exact BK645.out) hb); have n8_ := Aside0.mk (blk_below (g := gb650) (o := .cells #[.int .i64 t646, .slice Ao36 t671.length co36] 24 (0, 0)) (by (with_reducible repeat (first | refine blk_drewN ?_ _ | refine blk_drew ?_ | refine blk_alloc ?_ _)); refine blk_far ?_ NB650_690.out _; (with_reducible repeat (first | refine blk_drewN ?_ _ | refine blk_drew ?_ | refine blk_alloc ?_ _)); refine blk_far ?_ NB650_690.out _; (with_reducible repeat (first | refine blk_drewN ?_ _ | refine blk_drew ?_ | refine blk_alloc ?_ _)); exact BK650.out) hb); have n9_ := Aside0.mk (blk_below (g := gb659) (o := .cells #[.int .i64 t654, .slice Ao46 t655.length co46] 24 (0, 0)) (by (with_reducible repeat (first | refine blk_drewN ?_ _ | refine blk_drew ?_ | refine blk_alloc ?_ _)); refine blk_far ?_ NB659_690.out _; (with_reducible repeat (first | refine blk_drewN ?_ _ | refine blk_drew ?_ | refine blk_alloc ?_ _)); refine blk_far ?_ NB659_690.out _; (with_reducible repeat (first | refine blk_drewN ?_ _ | refine blk_drew ?_ | refine blk_alloc ?_ _)); exact BK659.out) hb); have n10_ := Aside0.mk (blk_below (g := gb690) (o := .cells #[.int .i64 t685, .slice Ao143 t686.length co143] 24 (0, 0)) (by (with_reducible repeat (first | refine blk_drewN ?_ _ | refine blk_drew ?_ | refine blk_alloc ?_ _)); refine blk_put (cs := #[.int .i64 t685, .slice none 0 0]) ?_ 1 _ rfl; (with_reducible repeat (first | refine blk_drewN ?_ _ | refine blk_drew ?_ | refine blk_alloc ?_ _)); refine blk_put (cs := #[.int .i64 0, .slice none 0 0]) ?_ 0 _ rfl; (with_reducible repeat (first | refine blk_drewN ?_ _ | refine blk_drew ?_ | refine blk_alloc ?_ _)); exact BK690.out) hb); have n11_ := Aside0.mk (below_step (by repeat (first | (with_reducible first | exact HB.out | apply below_alloc | apply pw_below_drewN | apply below_drew1 | refine below_set ?_ GE631.out | refine below_set ?_ GE645.out | refine below_set ?_ GE650.out | refine below_set ?_ GE659.out | refine below_set ?_ GE690.out) | exact HB.out)) hb); clear HO_646001; clear HO_651001; clear HO_660001; clear HO681; clear HO684; clear HO688; clear BK631; clear BK645; clear BK650; clear BK659; clear BK690; clear HB; have HO_646001 := n0_; have HO_651001 := n1_; have HO_660001 := n2_; have HO681 := n3_; have HO684 := n4_; have HO688 := n5_; have BK631 := n6_; have BK645 := n7_; have BK650 := n8_; have BK659 := n9_; have BK690 := n10_; have HB := n11_; clear n0_ n1_ n2_ n3_ n4_ n5_ n6_ n7_ n8_ n9_ n10_ n11_; (try clear hb); (try clear hb2); (try clear hk); (try clear hi)))
                              go_meet
                              case rel => exact ⟨_, ((t689 != t644)), (by first | rfl | (simp; done) | (simp [*]; done)), H', ⟨by have := HJ15.out; have := HJ73.out; first | omega | exact Nat.le_refl _⟩, ⟨by (try simp only [hl651001_73]); (with_reducible repeat (first | apply Kd.R_alloc | apply Kd.R_drewN | apply Kd.R_drew)); exact Kd.R_mono HO_646001.out (fun _ hk => ⟨hk.1.1.1.1, ⟨hk.1.1.1.2, hk.2⟩⟩)⟩, ⟨by (try simp only [hl651001_73]); (with_reducible repeat (first | apply Kd.R_alloc | apply Kd.R_drewN | apply Kd.R_drew)); exact Kd.R_mono HO_651001.out (fun _ hk => ⟨hk.1.1.1.1, ⟨hk.1.1.1.2, hk.2⟩⟩)⟩, ⟨by (try simp only [hl651001_73]); (with_reducible repeat (first | apply Kd.R_alloc | apply Kd.R_drewN | apply Kd.R_drew)); exact Kd.R_mono HO_660001.out (fun _ hk => ⟨hk.1.1.1.1, ⟨hk.1.1.1.2, hk.2⟩⟩)⟩, ⟨by (try simp only [hl651001_73]); (with_reducible repeat (first | apply Kd.R_alloc | apply Kd.R_drewN | apply Kd.R_drew)); exact Kd.R_mono HO688.out (fun _ hk => ⟨hk.1.1.1.1.2, ⟨hk.1.1.1.2, hk.1.1.2⟩⟩)⟩, ⟨by (try simp only [hl651001_73]); (with_reducible repeat (first | refine blk_drewN ?_ _ | refine blk_drew ?_ | refine blk_alloc ?_ _)); exact BK631.out⟩, ⟨by (try simp only [hl651001_73]); (with_reducible repeat (first | refine blk_drewN ?_ _ | refine blk_drew ?_ | refine blk_alloc ?_ _)); exact BK645.out⟩, ⟨by (try simp only [hl651001_73]); (with_reducible repeat (first | refine blk_drewN ?_ _ | refine blk_drew ?_ | refine blk_alloc ?_ _)); exact BK650.out⟩, ⟨by (try simp only [hl651001_73]); (with_reducible repeat (first | refine blk_drewN ?_ _ | refine blk_drew ?_ | refine blk_alloc ?_ _)); exact BK659.out⟩, ⟨by (try simp only [hl651001_73]); (with_reducible repeat (first | refine blk_drewN ?_ _ | refine blk_drew ?_ | refine blk_alloc ?_ _)); exact BK690.out⟩, ⟨by repeat (first | (with_reducible first | exact HB.out | apply below_alloc | apply pw_below_drewN | apply below_drew1 | refine below_set ?_ GE631.out | refine below_set ?_ GE645.out | refine below_set ?_ GE650.out | refine below_set ?_ GE659.out | refine below_set ?_ GE690.out) | exact HB.out)⟩⟩
                            · replace c145 := Bool.eq_false_iff.mpr c145
                              subst c145
                              have H1 : (laws_FnExactReorderTable.j2 kj73 t675 true t654 t676) = some true := by rw [if_neg (show ¬ (false = true) by decide)] at H; exact H
                              exact absurd H1 (by cases kj73 <;> simp [laws_FnExactReorderTable.j2])
                          case rest =>
                            clear HC121
                            try clear c1
                            try clear c2
                            try clear p2
                            try clear c3
                            try clear c3b0
                            try clear c3b1
                            try clear c4
                            try clear c5
                            try clear c6
                            try clear c6b0
                            try clear c7
                            try clear c8
                            try clear c9
                            try clear c10
                            try clear c11
                            try clear c12
                            try clear c13
                            try clear c14
                            try clear c15
                            try clear c16
                            try clear c17
                            try clear c18
                            try clear c23
                            try clear c26
                            try clear c27
                            try clear c28
                            try clear c30
                            try clear c33
                            try clear c34
                            try clear c38
                            try clear c39
                            try clear c40
                            try clear c42
                            try clear c43
                            try clear c44
                            try clear c48
                            try clear c49
                            try clear c50
                            try clear c51
                            try clear c53
                            try clear c54
                            try clear c57
                            try clear c58
                            try clear c59
                            try clear c61
                            try clear c62
                            try clear c65
                            try clear c68
                            try clear c71
                            try clear c81
                            try clear c82
                            try clear c83
                            try clear c87
                            try clear c87b0
                            try clear c89
                            try clear c90
                            try clear c91
                            try clear c92
                            try clear c94
                            try clear c95
                            try clear c98
                            try clear c99
                            try clear c100
                            try clear c102
                            try clear c103
                            try clear c106
                            try clear c109
                            try clear c109b0
                            try clear c110
                            try clear c111
                            try clear c112
                            try clear c117
                            try clear c117b0
                            try clear c117b1
                            try clear c122
                            try clear c123
                            try clear c124
                            try clear c129
                            try clear c130
                            try clear c138
                            try clear c139
                            try clear c140
                            try clear c141
                            try clear c145
                            try clear c146
                            try clear c147
                            try clear c148
                            try clear c149
                            try clear c151
                            try clear c152
                            try clear c153
                            try clear c156
                            try clear c157
                            try clear c158
                            try clear c159
                            try clear c161
                            try clear c162
                            try clear c163
                            try clear hcz101_0
                            try clear hcz101_1
                            try clear hcz104_0
                            try clear hcz104_1
                            try clear hcz113_0
                            try clear hcz113_1
                            try clear hcz115_0
                            try clear hcz115_1
                            try clear hcz125_0
                            try clear hcz125_1
                            try clear hcz127_0
                            try clear hcz127_1
                            try clear hcz131_0
                            try clear hcz131_1
                            try clear hcz142_0
                            try clear hcz142_1
                            try clear hcz150_0
                            try clear hcz150_1
                            try clear hcz154_0
                            try clear hcz154_1
                            try clear hcz160_0
                            try clear hcz160_1
                            try clear hcz164_0
                            try clear hcz164_1
                            try clear hcz18_0
                            try clear hcz18_1
                            try clear hcz20_0
                            try clear hcz20_1
                            try clear hcz28_0
                            try clear hcz28_1
                            try clear hcz30_0
                            try clear hcz30_1
                            try clear hcz35_0
                            try clear hcz35_1
                            try clear hcz38_0
                            try clear hcz38_1
                            try clear hcz45_0
                            try clear hcz45_1
                            try clear hcz52_0
                            try clear hcz52_1
                            try clear hcz55_0
                            try clear hcz55_1
                            try clear hcz60_0
                            try clear hcz60_1
                            try clear hcz63_0
                            try clear hcz63_1
                            try clear hcz84_0
                            try clear hcz84_1
                            try clear hcz8_0
                            try clear hcz8_1
                            try clear hcz93_0
                            try clear hcz93_1
                            try clear hcz96_0
                            try clear hcz96_1
                            try clear hfz101_0
                            try clear hfz101_1
                            try clear hfz104_0
                            try clear hfz104_1
                            try clear hfz113_0
                            try clear hfz113_1
                            try clear hfz115_0
                            try clear hfz115_1
                            try clear hfz125_0
                            try clear hfz125_1
                            try clear hfz127_0
                            try clear hfz127_1
                            try clear hfz131_0
                            try clear hfz131_1
                            try clear hfz142_0
                            try clear hfz142_1
                            try clear hfz150_0
                            try clear hfz150_1
                            try clear hfz154_0
                            try clear hfz154_1
                            try clear hfz160_0
                            try clear hfz160_1
                            try clear hfz164_0
                            try clear hfz164_1
                            try clear hfz18_0
                            try clear hfz18_1
                            try clear hfz20_0
                            try clear hfz20_1
                            try clear hfz28_0
                            try clear hfz28_1
                            try clear hfz30_0
                            try clear hfz30_1
                            try clear hfz35_0
                            try clear hfz35_1
                            try clear hfz38_0
                            try clear hfz38_1
                            try clear hfz45_0
                            try clear hfz45_1
                            try clear hfz52_0
                            try clear hfz52_1
                            try clear hfz55_0
                            try clear hfz55_1
                            try clear hfz60_0
                            try clear hfz60_1
                            try clear hfz63_0
                            try clear hfz63_1
                            try clear hfz84_0
                            try clear hfz84_1
                            try clear hfz8_0
                            try clear hfz8_1
                            try clear hfz93_0
                            try clear hfz93_1
                            try clear hfz96_0
                            try clear hfz96_1
                            try clear p2
                            obtain ⟨kq, x108_120, rfl, HA, HJ120, HO_646001, HO_651001, HO_660001, HO_691001, BK631, BK645, BK650, BK659, BK690, HB⟩ := hcut
                            have hl660001_120 := (Kd.R_reads' HO_660001.out).1
                            rw [hl660001_120] at HO_660001
                            (try simp only [hl660001_120])
                            (try simp only [hl660001_120] at BK631)
                            (try simp only [hl660001_120] at BK645)
                            (try simp only [hl660001_120] at BK650)
                            (try simp only [hl660001_120] at BK659)
                            (try simp only [hl660001_120] at BK690)
                            (try simp only [hl660001_120] at HO_646001)
                            (try simp only [hl660001_120] at HO_651001)
                            (try simp only [hl660001_120] at HO_691001)
                            cases kq with
                            | zero => exact absurd HA.out (by simp [laws_FnExactReorderTable.j2])
                            | succ kj120 =>
                              have H := HA.out
                              clear HA
                              simp only [laws_FnExactReorderTable.j2] at H
                              by_cases c166 : x108_120 = true
                              · subst c166
                                have H1 : (some false) = some true := by rw [if_pos rfl] at H; exact H
                                exact absurd H1 (by simp)
                              · replace c166 := Bool.eq_false_iff.mpr c166
                                subst c166
                                have H1 : ((laws_heldTable.f kj120 t654 t676 1).bind fun t692 => (if t692 < 0 then (some false) else (if t692 = t675 then (some true) else (some false)))) = some true := by rw [if_neg (show ¬ (false = true) by decide)] at H; exact H
                                clear H
                                have H := H1
                                clear H1
                                replace H := Option.bind_eq_some_iff.mp H
                                obtain ⟨t692, A1670, H⟩ := H
                                replace H : (if t692 < 0 then (some false) else (if t692 = t675 then (some true) else (some false))) = some true := H
                                have A167 := Aside0.mk A1670
                                clear A1670
                                by_cases c168 : t692 < 0
                                · rw [if_pos c168] at H
                                  exact absurd H (by simp)
                                · rw [if_neg c168] at H
                                  have c168b0 : decide (t692 < 0) = false := decide_eq_false c168
                                  clear c168
                                  by_cases c175 : t692 = t675
                                  · rw [if_pos c175] at H
                                    have c175b0 : (t692 == t675) = true := beq_iff_eq.mpr c175
                                    have c175b1 : (t692 != t675) = false := bne_eq_false_iff_eq.mpr c175
                                    clear c175
                                    first | (obtain rfl := Option.some.inj H) | clear H
                                    have hnb176 := NB659_631.out
                                    have hnc176 := NB631_659.out
                                    have hnb177 := NB659_645.out
                                    have hnc177 := NB645_659.out
                                    have hnb178 := NB659_650.out
                                    have hnc178 := NB650_659.out
                                    have hnb179 := NB659_690.out
                                    have hnc179 := NB690_659.out
                                    have hcz180_0 : wc.cell? ⟨gb659, 0, none⟩ = some (.int .i64 t654) := (blk_cell BK659.out 0).trans rfl
                                    have hcz180_1 : wc.cell? ⟨gb659, 1, none⟩ = some (.slice Ao46 t676.length co46) := (blk_cell BK659.out 1).trans rfl
                                    have hfz180_0 := blk_frozen BK659.out 0
                                    have hfz180_1 := blk_frozen BK659.out 1
                                    go_wp2_with (first | ((with_reducible refine gate_callee (f := 18) rfl ?_); refine goesL_ (some 111) rfl rfl Try.func18 (by kernel_rfl) rfl #[.agg #[.int .i64 t654, .slice Ao46 t676.length co46], .int .i64 1] rfl (by (try simp only [List.map_toArray, List.map_cons, List.map_nil]); first | done | rfl | (simp only [List.length_drop, List.length_take]; rfl)) ?_; (with_reducible refine (laws_heldTable.calls kj120 t654 _ _ t676 1 t692 _ ?side1 ?side2 A167.out).mono ?_); (case side1 => repeat (first | exact (Kd.R_reads' HO_660001.out).2.2 | (with_reducible refine Kd.C_alloc ?_ _) | (with_reducible refine Kd.C_drewN ?_ _) | (with_reducible refine Kd.C_drew ?_))); (case side2 => exact (Kd.R_reads' HO_660001.out).2.1); rintro e w181 ⟨rfl, hb⟩; refine ⟨_, rfl, ?_⟩; have n0_ := Aside0.mk (Kd.R_below (by (with_reducible repeat (first | apply Kd.R_alloc | apply Kd.R_drewN | apply Kd.R_drew)); exact HO_646001.out) hb); have n1_ := Aside0.mk (Kd.R_below (by (with_reducible repeat (first | apply Kd.R_alloc | apply Kd.R_drewN | apply Kd.R_drew)); exact HO_651001.out) hb); have n2_ := Aside0.mk (Kd.R_below (by (with_reducible repeat (first | apply Kd.R_alloc | apply Kd.R_drewN | apply Kd.R_drew)); exact HO_660001.out) hb); have n3_ := Aside0.mk (Kd.R_below (by (with_reducible repeat (first | apply Kd.R_alloc | apply Kd.R_drewN | apply Kd.R_drew)); exact HO_691001.out) hb); have n4_ := Aside0.mk (blk_below (g := gb631) (o := .cells #[.int .i64 a0_0, .slice A0_1 l0_1.length c0_1] 41 (0, 0)) (by (with_reducible repeat (first | refine blk_drewN ?_ _ | refine blk_drew ?_ | refine blk_alloc ?_ _)); exact BK631.out) hb); have n5_ := Aside0.mk (blk_below (g := gb645) (o := .cells #[.int .i64 t640, .slice Ao29 t641.length co29] 24 (0, 0)) (by (with_reducible repeat (first | refine blk_drewN ?_ _ | refine blk_drew ?_ | refine blk_alloc ?_ _)); exact BK645.out) hb); have n6_ := Aside0.mk (blk_below (g := gb650) (o := .cells #[.int .i64 t646, .slice Ao36 t671.length co36] 24 (0, 0)) (by (with_reducible repeat (first | refine blk_drewN ?_ _ | refine blk_drew ?_ | refine blk_alloc ?_ _)); exact BK650.out) hb); have n7_ := Aside0.mk (blk_below (g := gb659) (o := .cells #[.int .i64 t654, .slice Ao46 t676.length co46] 24 (0, 0)) (by (with_reducible repeat (first | refine blk_drewN ?_ _ | refine blk_drew ?_ | refine blk_alloc ?_ _)); exact BK659.out) hb); have n8_ := Aside0.mk (blk_below (g := gb690) (o := .cells #[.int .i64 t685, .slice Ao143 t686.length co143] 24 (0, 0)) (by (with_reducible repeat (first | refine blk_drewN ?_ _ | refine blk_drew ?_ | refine blk_alloc ?_ _)); exact BK690.out) hb); have n9_ := Aside0.mk (below_step (by repeat (first | (with_reducible first | exact HB.out | apply below_alloc | apply pw_below_drewN | apply below_drew1 | refine below_set ?_ GE631.out | refine below_set ?_ GE645.out | refine below_set ?_ GE650.out | refine below_set ?_ GE659.out | refine below_set ?_ GE690.out) | exact HB.out)) hb); clear HO_646001; clear HO_651001; clear HO_660001; clear HO_691001; clear BK631; clear BK645; clear BK650; clear BK659; clear BK690; clear HB; have HO_646001 := n0_; have HO_651001 := n1_; have HO_660001 := n2_; have HO_691001 := n3_; have BK631 := n4_; have BK645 := n5_; have BK650 := n6_; have BK659 := n7_; have BK690 := n8_; have HB := n9_; clear n0_ n1_ n2_ n3_ n4_ n5_ n6_ n7_ n8_ n9_; (try clear hb); (try clear hb2); (try clear hk); (try clear hi)))
                                    go_ret
                                    exact ⟨by first | rfl | (simp [errW_none, errW_some] <;> rfl) | (simp [*, errW_none, errW_some] <;> rfl), by repeat (first | (with_reducible first | exact HB.out | apply below_alloc | apply pw_below_drewN | apply below_drew1 | refine below_set ?_ GE631.out | refine below_set ?_ GE645.out | refine below_set ?_ GE650.out | refine below_set ?_ GE659.out | refine below_set ?_ GE690.out) | exact HB.out)⟩
                                  · rw [if_neg c175] at H
                                    exact absurd H (by simp)
                        · rw [if_neg c117] at H
                          exact absurd H (by simp)
              · replace c71 := Bool.eq_false_iff.mpr c71
                subst c71
                have H1 : (some false) = some true := by rw [if_neg (show ¬ (false = true) by decide)] at H; exact H
                exact absurd H1 (by simp)
            · replace c68 := Bool.eq_false_iff.mpr c68
              subst c68
              have H1 : (some false) = some true := by rw [if_neg (show ¬ (false = true) by decide)] at H; exact H
              exact absurd H1 (by simp)

end Go.Proofs.Ytegbbmnlfijbbaa.P
