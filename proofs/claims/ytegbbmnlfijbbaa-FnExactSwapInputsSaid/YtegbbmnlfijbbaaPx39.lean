-- PRINTED by print.py (a twelfth state) out of the translation. Not trusted: Lean checks it.
import Derived.Test.YtegbbmnlfijbbaaPx0
import Derived.Test.YtegbbmnlfijbbaaPx5
import Derived.Test.YtegbbmnlfijbbaaPx7
import Derived.Test.YtegbbmnlfijbbaaPx10
import Derived.Test.YtegbbmnlfijbbaaPx38
namespace Go.Proofs.Ytegbbmnlfijbbaa.P
open Go.RowKit Go.Proofs.YtegbbmnlfijbbaaW.PrintWords Go.Proofs.YtegbbmnlfijbbaaW.PrintLast Go.Proofs.YtegbbmnlfijbbaaW.PrintMore
attribute [local go_sem] max2_int min2_int max_two min_two max_three min_three max_four min_four   -- for this text's walks alone
set_option linter.unusedVariables false
set_option linter.unusedSimpArgs false

/-! ### laws_FnExactSwapInputs: function 6 -/
mutual
def laws_FnExactSwapInputs.j0 : Nat → Int → Int → Bool → Bool → Bool → Int → List Int → Int → List Int → Int → List Int → Int → List Int → Option (Bool)
  | 0, _, _, _, _, _, _, _, _, _, _, _, _, _ => none
  | k + 1, x1, x2, x9, x12, x48, x395000, x395001, x406000, x406001, x411000, x411001, x417000, x417001 => if x48 = true then (some false) else ((laws_toTable.f k x395000 x395001).bind fun bt418 => ((laws_eqTable.f k x411000 x411001 bt418.1 bt418.2).bind fun t422 => (if t422 = true then ((laws_markTable.f k x411000 x411001 1).bind fun bt423 => (if bt423.1 < 0 then (laws_FnExactSwapInputs.j1 k x1 x2 x9 true x395000 x395001 x406000 x406001 x417000 x417001) else ((laws_eqTable.f k x417000 x417001 x406000 x406001).bind fun t425 => (if t425 = true then (laws_FnExactSwapInputs.j1 k x1 x2 x9 (x12 != x9) x395000 x395001 x406000 x406001 x417000 x417001) else (laws_FnExactSwapInputs.j1 k x1 x2 x9 true x395000 x395001 x406000 x406001 x417000 x417001))))) else (some false))))
def laws_FnExactSwapInputs.j1 : Nat → Int → Int → Bool → Bool → Int → List Int → Int → List Int → Int → List Int → Option (Bool)
  | 0, _, _, _, _, _, _, _, _, _, _ => none
  | k + 1, x1, x2, x9, x69, x395000, x395001, x406000, x406001, x417000, x417001 => if x69 = true then (some false) else ((laws_markTable.f k x417000 x417001 1).bind fun bt426 => ((laws_heldTable.f k x417000 bt426.2 1).bind fun t428 => (if t428 < 0 then (some false) else (if t428 = bt426.1 then ((laws_toTable.f k x395000 x395001).bind fun bt429 => ((impl_SwapInputs.f k bt429.1 bt429.2 x1 x2).bind fun bt433 => ((laws_eqTable.f k bt433.1 bt433.2.1 x406000 x406001).bind fun t439 => (if t439 = true then (laws_FnExactSwapInputs.j2 k bt426.1 (bt433.2.2 != x9) x417000 bt426.2) else (laws_FnExactSwapInputs.j2 k bt426.1 true x417000 bt426.2))))) else (some false)))))
def laws_FnExactSwapInputs.j2 : Nat → Int → Bool → Int → List Int → Option (Bool)
  | 0, _, _, _, _ => none
  | k + 1, x14, x97, x417000, x417001 => if x97 = true then (some false) else ((laws_heldTable.f k x417000 x417001 1).bind fun t440 => (if t440 < 0 then (some false) else (if t440 = x14 then (some true) else (some false))))
end
def laws_FnExactSwapInputs.f (k : Nat) (a0_0 : Int) (l0_1 : List Int) (a1 : Int) (a2 : Int) : Option (Bool) := (laws_szTable.f a0_0 l0_1 1048576).bind fun t395 => (if t395 < 0 then (some true) else ((laws_toTable.f k a0_0 l0_1).bind fun bt396 => ((spec_SwapInputs.f k bt396.1 bt396.2 a1 a2).bind fun bt400 => ((laws_toTable.f k a0_0 l0_1).bind fun bt406 => ((impl_SwapInputs.f k bt406.1 bt406.2 a1 a2).bind fun bt411 => ((laws_eqTable.f k bt411.1 bt411.2.1 bt400.1 bt400.2.1).bind fun t417 => (if t417 = true then (laws_FnExactSwapInputs.j0 k a1 a2 bt400.2.2 bt411.2.2 (bt411.2.2 != bt400.2.2) a0_0 l0_1 bt400.1 bt400.2.1 bt406.1 bt406.2 bt411.1 bt411.2.1) else (laws_FnExactSwapInputs.j0 k a1 a2 bt400.2.2 bt411.2.2 true a0_0 l0_1 bt400.1 bt400.2.1 bt406.1 bt406.2 bt411.1 bt411.2.1))))))))
theorem laws_FnExactSwapInputs.mono_l : ∀ k, (∀ y0 y1 y2 y3 y4 y5 y6 y7 y8 y9 y10 y11 y12, LeO (laws_FnExactSwapInputs.j0 k y0 y1 y2 y3 y4 y5 y6 y7 y8 y9 y10 y11 y12) (laws_FnExactSwapInputs.j0 (k + 1) y0 y1 y2 y3 y4 y5 y6 y7 y8 y9 y10 y11 y12)) ∧ (∀ y0 y1 y2 y3 y4 y5 y6 y7 y8 y9, LeO (laws_FnExactSwapInputs.j1 k y0 y1 y2 y3 y4 y5 y6 y7 y8 y9) (laws_FnExactSwapInputs.j1 (k + 1) y0 y1 y2 y3 y4 y5 y6 y7 y8 y9)) ∧ (∀ y0 y1 y2 y3, LeO (laws_FnExactSwapInputs.j2 k y0 y1 y2 y3) (laws_FnExactSwapInputs.j2 (k + 1) y0 y1 y2 y3))
  | 0 => ⟨fun _ _ _ _ _ _ _ _ _ _ _ _ _ r h => by simp [laws_FnExactSwapInputs.j0] at h, fun _ _ _ _ _ _ _ _ _ _ r h => by simp [laws_FnExactSwapInputs.j1] at h, fun _ _ _ _ r h => by simp [laws_FnExactSwapInputs.j2] at h⟩
  | k + 1 => by
    obtain ⟨ih0, ih1, ih2⟩ := laws_FnExactSwapInputs.mono_l k
    refine ⟨?_, ?_, ?_⟩
    · intro y0 y1 y2 y3 y4 y5 y6 y7 y8 y9 y10 y11 y12
      unfold laws_FnExactSwapInputs.j0
      repeat' first
      | (with_reducible exact ih0 _ _ _ _ _ _ _ _ _ _ _ _ _)
      | (with_reducible exact ih1 _ _ _ _ _ _ _ _ _ _)
      | (with_reducible exact ih2 _ _ _ _)
      | (with_reducible exact impl_SwapInputs.mono _ _ _ _ _)
      | (with_reducible exact laws_eqTable.mono _ _ _ _ _)
      | (with_reducible exact laws_heldTable.mono _ _ _ _)
      | (with_reducible exact laws_markTable.mono _ _ _ _)
      | (with_reducible exact laws_toTable.mono _ _ _)
      | (with_reducible exact spec_SwapInputs.mono _ _ _ _ _)
      | (with_reducible exact LeO.refl _)
      | (with_reducible exact LeO.none _)
      | (with_reducible refine LeO.ite ?_ ?_)
      | (with_reducible refine LeO.bind ?_ (fun _ => ?_))
      | exact ih0 _ _ _ _ _ _ _ _ _ _ _ _ _
      | exact ih1 _ _ _ _ _ _ _ _ _ _
      | exact ih2 _ _ _ _
      | exact impl_SwapInputs.mono _ _ _ _ _
      | exact laws_eqTable.mono _ _ _ _ _
      | exact laws_heldTable.mono _ _ _ _
      | exact laws_markTable.mono _ _ _ _
      | exact laws_toTable.mono _ _ _
      | exact spec_SwapInputs.mono _ _ _ _ _
      | exact LeO.none _
      | refine LeO.ite ?_ ?_
      | refine LeO.bind ?_ (fun _ => ?_)
    · intro y0 y1 y2 y3 y4 y5 y6 y7 y8 y9
      unfold laws_FnExactSwapInputs.j1
      repeat' first
      | (with_reducible exact ih0 _ _ _ _ _ _ _ _ _ _ _ _ _)
      | (with_reducible exact ih1 _ _ _ _ _ _ _ _ _ _)
      | (with_reducible exact ih2 _ _ _ _)
      | (with_reducible exact impl_SwapInputs.mono _ _ _ _ _)
      | (with_reducible exact laws_eqTable.mono _ _ _ _ _)
      | (with_reducible exact laws_heldTable.mono _ _ _ _)
      | (with_reducible exact laws_markTable.mono _ _ _ _)
      | (with_reducible exact laws_toTable.mono _ _ _)
      | (with_reducible exact spec_SwapInputs.mono _ _ _ _ _)
      | (with_reducible exact LeO.refl _)
      | (with_reducible exact LeO.none _)
      | (with_reducible refine LeO.ite ?_ ?_)
      | (with_reducible refine LeO.bind ?_ (fun _ => ?_))
      | exact ih0 _ _ _ _ _ _ _ _ _ _ _ _ _
      | exact ih1 _ _ _ _ _ _ _ _ _ _
      | exact ih2 _ _ _ _
      | exact impl_SwapInputs.mono _ _ _ _ _
      | exact laws_eqTable.mono _ _ _ _ _
      | exact laws_heldTable.mono _ _ _ _
      | exact laws_markTable.mono _ _ _ _
      | exact laws_toTable.mono _ _ _
      | exact spec_SwapInputs.mono _ _ _ _ _
      | exact LeO.none _
      | refine LeO.ite ?_ ?_
      | refine LeO.bind ?_ (fun _ => ?_)
    · intro y0 y1 y2 y3
      unfold laws_FnExactSwapInputs.j2
      repeat' first
      | (with_reducible exact ih0 _ _ _ _ _ _ _ _ _ _ _ _ _)
      | (with_reducible exact ih1 _ _ _ _ _ _ _ _ _ _)
      | (with_reducible exact ih2 _ _ _ _)
      | (with_reducible exact impl_SwapInputs.mono _ _ _ _ _)
      | (with_reducible exact laws_eqTable.mono _ _ _ _ _)
      | (with_reducible exact laws_heldTable.mono _ _ _ _)
      | (with_reducible exact laws_markTable.mono _ _ _ _)
      | (with_reducible exact laws_toTable.mono _ _ _)
      | (with_reducible exact spec_SwapInputs.mono _ _ _ _ _)
      | (with_reducible exact LeO.refl _)
      | (with_reducible exact LeO.none _)
      | (with_reducible refine LeO.ite ?_ ?_)
      | (with_reducible refine LeO.bind ?_ (fun _ => ?_))
      | exact ih0 _ _ _ _ _ _ _ _ _ _ _ _ _
      | exact ih1 _ _ _ _ _ _ _ _ _ _
      | exact ih2 _ _ _ _
      | exact impl_SwapInputs.mono _ _ _ _ _
      | exact laws_eqTable.mono _ _ _ _ _
      | exact laws_heldTable.mono _ _ _ _
      | exact laws_markTable.mono _ _ _ _
      | exact laws_toTable.mono _ _ _
      | exact spec_SwapInputs.mono _ _ _ _ _
      | exact LeO.none _
      | refine LeO.ite ?_ ?_
      | refine LeO.bind ?_ (fun _ => ?_)
theorem laws_FnExactSwapInputs.mono : ∀ a0 a1 a2 a3 k, LeO (laws_FnExactSwapInputs.f k a0 a1 a2 a3) (laws_FnExactSwapInputs.f (k + 1) a0 a1 a2 a3) := by
  intro a0 a1 a2 a3 k
  obtain ⟨ih0, ih1, ih2⟩ := laws_FnExactSwapInputs.mono_l k
  unfold laws_FnExactSwapInputs.f
  repeat' first
      | (with_reducible exact ih0 _ _ _ _ _ _ _ _ _ _ _ _ _)
      | (with_reducible exact ih1 _ _ _ _ _ _ _ _ _ _)
      | (with_reducible exact ih2 _ _ _ _)
      | (with_reducible exact impl_SwapInputs.mono _ _ _ _ _)
      | (with_reducible exact laws_eqTable.mono _ _ _ _ _)
      | (with_reducible exact laws_heldTable.mono _ _ _ _)
      | (with_reducible exact laws_markTable.mono _ _ _ _)
      | (with_reducible exact laws_toTable.mono _ _ _)
      | (with_reducible exact spec_SwapInputs.mono _ _ _ _ _)
      | (with_reducible exact LeO.refl _)
      | (with_reducible exact LeO.none _)
      | (with_reducible refine LeO.ite ?_ ?_)
      | (with_reducible refine LeO.bind ?_ (fun _ => ?_))
      | exact ih0 _ _ _ _ _ _ _ _ _ _ _ _ _
      | exact ih1 _ _ _ _ _ _ _ _ _ _
      | exact ih2 _ _ _ _
      | exact impl_SwapInputs.mono _ _ _ _ _
      | exact laws_eqTable.mono _ _ _ _ _
      | exact laws_heldTable.mono _ _ _ _
      | exact laws_markTable.mono _ _ _ _
      | exact laws_toTable.mono _ _ _
      | exact spec_SwapInputs.mono _ _ _ _ _
      | exact LeO.none _
      | refine LeO.ite ?_ ?_
      | refine LeO.bind ?_ (fun _ => ?_)
set_option maxHeartbeats 8000000 in
set_option maxRecDepth 100000 in
theorem laws_FnExactSwapInputs.calls (k : Nat) (a0_0 : Int) (A0_1 : Option Addr) (c0_1 : Nat) (l0_1 : List Int) (a1 : Int) (a2 : Int) (w : World) (hr0_1 : Kd.C (Kd.int .i64) w A0_1 l0_1.length l0_1) (hc0_1 : l0_1.length ≤ c0_1) (h : laws_FnExactSwapInputs.f k a0_0 l0_1 a1 a2 = some true) :
    Calls Try.prog 6 #[.agg #[.int .i64 a0_0, .slice A0_1 l0_1.length c0_1], .int .i64 a1, .int .i64 a2] w fun e w' => e = .returned (.bool true) ∧ Below w.heap.size w w' := by
  have hu41 := Try.underlying41
  have hu24 := Try.underlying24
  have HR0_1 := Aside0.mk hr0_1
  have HC0_1 := Aside0.mk hc0_1
  clear hr0_1 hc0_1
  have HB := Aside0.mk (Below.refl w.heap.size w)
  have H : ((laws_szTable.f a0_0 l0_1 1048576).bind fun t395 => (if t395 < 0 then (some true) else ((laws_toTable.f k a0_0 l0_1).bind fun bt396 => ((spec_SwapInputs.f k bt396.1 bt396.2 a1 a2).bind fun bt400 => ((laws_toTable.f k a0_0 l0_1).bind fun bt406 => ((impl_SwapInputs.f k bt406.1 bt406.2 a1 a2).bind fun bt411 => ((laws_eqTable.f k bt411.1 bt411.2.1 bt400.1 bt400.2.1).bind fun t417 => (if t417 = true then (laws_FnExactSwapInputs.j0 k a1 a2 bt400.2.2 bt411.2.2 (bt411.2.2 != bt400.2.2) a0_0 l0_1 bt400.1 bt400.2.1 bt406.1 bt406.2 bt411.1 bt411.2.1) else (laws_FnExactSwapInputs.j0 k a1 a2 bt400.2.2 bt411.2.2 true a0_0 l0_1 bt400.1 bt400.2.1 bt406.1 bt406.2 bt411.1 bt411.2.1))))))))) = some true := h
  clear h
  replace H := Option.bind_eq_some_iff.mp H
  obtain ⟨t395, A40, H⟩ := H
  replace H : (if t395 < 0 then (some true) else ((laws_toTable.f k a0_0 l0_1).bind fun bt396 => ((spec_SwapInputs.f k bt396.1 bt396.2 a1 a2).bind fun bt400 => ((laws_toTable.f k a0_0 l0_1).bind fun bt406 => ((impl_SwapInputs.f k bt406.1 bt406.2 a1 a2).bind fun bt411 => ((laws_eqTable.f k bt411.1 bt411.2.1 bt400.1 bt400.2.1).bind fun t417 => (if t417 = true then (laws_FnExactSwapInputs.j0 k a1 a2 bt400.2.2 bt411.2.2 (bt411.2.2 != bt400.2.2) a0_0 l0_1 bt400.1 bt400.2.1 bt406.1 bt406.2 bt411.1 bt411.2.1) else (laws_FnExactSwapInputs.j0 k a1 a2 bt400.2.2 bt411.2.2 true a0_0 l0_1 bt400.1 bt400.2.1 bt406.1 bt406.2 bt411.1 bt411.2.1)))))))) = some true := H
  have A4 := Aside0.mk A40
  clear A40
  by_cases c5 : t395 < 0
  · rw [if_pos c5] at H
    have c5b0 : decide (t395 < 0) = true := decide_eq_true c5
    clear c5
    first | (obtain rfl := Option.some.inj H) | clear H
    go_enter Try.func6, Try.ntmps6
    go_wp2_with (first | ((with_reducible refine gate_dst (N := 3) rfl ?_); refine box_event ?hg (N := 3) ?hd (cs := #[.int .i64 a0_0, .slice A0_1 l0_1.length c0_1]) (t := 41) ?hr ?_; (case hd => rfl); (case hg => rfl); (case hr => first | (go_simp; done) | (go_simp; rfl)); intro gb394 hg w6 hbox hb; have n0_ := Aside0.mk (below_step (by repeat (first | (with_reducible first | exact HB.out | apply below_alloc | apply pw_below_drewN | apply below_drew1) | exact HB.out)) hb); have n1_ := Aside0.mk (hbox); have n2_ := Aside0.mk ((by rw [hg]; exact (below_size (by repeat (first | (with_reducible first | exact HB.out | apply below_alloc | apply pw_below_drewN | apply below_drew1) | exact HB.out))) : w.heap.size ≤ gb394)); have n3_ := Aside0.mk ((by rw [hg]; exact (below_size (by repeat (first | (with_reducible first | exact HB.out | apply below_alloc | apply pw_below_drewN | apply below_drew1) | exact HB.out))) : w.heap.size ≤ gb394)); clear HB; have HB := n0_; have BK394 := n1_; have GW394 := n2_; have GE394 := n3_; clear n0_ n1_ n2_ n3_; clear hb hbox hg; have hcz7_0 : w6.cell? ⟨gb394, 0, none⟩ = some (.int .i64 a0_0) := (blk_cell BK394.out 0).trans rfl; have hcz7_1 : w6.cell? ⟨gb394, 1, none⟩ = some (.slice A0_1 l0_1.length c0_1) := (blk_cell BK394.out 1).trans rfl; have hfz7_0 := blk_frozen BK394.out 0; have hfz7_1 := blk_frozen BK394.out 1) | ((with_reducible refine gate_callee (f := 28) rfl ?_); refine goesL_ (some 20) rfl rfl Try.func28 (by kernel_rfl) rfl #[.agg #[.int .i64 a0_0, .slice A0_1 l0_1.length c0_1], .int .i64 1048576] rfl (by (try simp only [List.map_toArray, List.map_cons, List.map_nil]); first | done | rfl | (simp only [List.length_drop, List.length_take]; rfl)) ?_; (with_reducible refine (laws_szTable.calls a0_0 _ _ l0_1 1048576 t395 _ ?side1 ?side2 A4.out).mono ?_); (case side1 => repeat (first | exact (Kd.C_below HR0_1.out HB.out) | (with_reducible refine Kd.C_alloc ?_ _) | (with_reducible refine Kd.C_drewN ?_ _) | (with_reducible refine Kd.C_drew ?_))); (case side2 => exact HC0_1.out); rintro e w8 ⟨rfl, hb⟩; refine ⟨_, rfl, ?_⟩; have n0_ := Aside0.mk (blk_below (g := gb394) (o := .cells #[.int .i64 a0_0, .slice A0_1 l0_1.length c0_1] 41 (0, 0)) (by (with_reducible repeat (first | refine blk_drewN ?_ _ | refine blk_drew ?_ | refine blk_alloc ?_ _)); exact BK394.out) hb); have n1_ := Aside0.mk (below_step (by repeat (first | (with_reducible first | exact HB.out | apply below_alloc | apply pw_below_drewN | apply below_drew1 | refine below_set ?_ GE394.out) | exact HB.out)) hb); clear BK394; clear HB; have BK394 := n0_; have HB := n1_; clear n0_ n1_; (try clear hb); (try clear hb2); (try clear hk); (try clear hi)))
    go_ret
    exact ⟨by first | rfl | (simp [errW_none, errW_some] <;> rfl) | (simp [*, errW_none, errW_some] <;> rfl), by repeat (first | (with_reducible first | exact HB.out | apply below_alloc | apply pw_below_drewN | apply below_drew1 | refine below_set ?_ GE394.out) | exact HB.out)⟩
  · rw [if_neg c5] at H
    have c5b0 : decide (t395 < 0) = false := decide_eq_false c5
    clear c5
    replace H := Option.bind_eq_some_iff.mp H
    obtain ⟨⟨t396, t397⟩, A90, H⟩ := H
    replace H : ((spec_SwapInputs.f k t396 t397 a1 a2).bind fun bt400 => ((laws_toTable.f k a0_0 l0_1).bind fun bt406 => ((impl_SwapInputs.f k bt406.1 bt406.2 a1 a2).bind fun bt411 => ((laws_eqTable.f k bt411.1 bt411.2.1 bt400.1 bt400.2.1).bind fun t417 => (if t417 = true then (laws_FnExactSwapInputs.j0 k a1 a2 bt400.2.2 bt411.2.2 (bt411.2.2 != bt400.2.2) a0_0 l0_1 bt400.1 bt400.2.1 bt406.1 bt406.2 bt411.1 bt411.2.1) else (laws_FnExactSwapInputs.j0 k a1 a2 bt400.2.2 bt411.2.2 true a0_0 l0_1 bt400.1 bt400.2.1 bt406.1 bt406.2 bt411.1 bt411.2.1)))))) = some true := H
    have A9 := Aside0.mk A90
    clear A90
    replace H := Option.bind_eq_some_iff.mp H
    obtain ⟨⟨t400, t401, t404⟩, A100, H⟩ := H
    replace H : ((laws_toTable.f k a0_0 l0_1).bind fun bt406 => ((impl_SwapInputs.f k bt406.1 bt406.2 a1 a2).bind fun bt411 => ((laws_eqTable.f k bt411.1 bt411.2.1 t400 t401).bind fun t417 => (if t417 = true then (laws_FnExactSwapInputs.j0 k a1 a2 t404 bt411.2.2 (bt411.2.2 != t404) a0_0 l0_1 t400 t401 bt406.1 bt406.2 bt411.1 bt411.2.1) else (laws_FnExactSwapInputs.j0 k a1 a2 t404 bt411.2.2 true a0_0 l0_1 t400 t401 bt406.1 bt406.2 bt411.1 bt411.2.1))))) = some true := H
    have A10 := Aside0.mk A100
    clear A100
    replace H := Option.bind_eq_some_iff.mp H
    obtain ⟨⟨t406, t407⟩, A110, H⟩ := H
    replace H : ((impl_SwapInputs.f k t406 t407 a1 a2).bind fun bt411 => ((laws_eqTable.f k bt411.1 bt411.2.1 t400 t401).bind fun t417 => (if t417 = true then (laws_FnExactSwapInputs.j0 k a1 a2 t404 bt411.2.2 (bt411.2.2 != t404) a0_0 l0_1 t400 t401 t406 t407 bt411.1 bt411.2.1) else (laws_FnExactSwapInputs.j0 k a1 a2 t404 bt411.2.2 true a0_0 l0_1 t400 t401 t406 t407 bt411.1 bt411.2.1)))) = some true := H
    have A11 := Aside0.mk A110
    clear A110
    replace H := Option.bind_eq_some_iff.mp H
    obtain ⟨⟨t411, t412, t415⟩, A120, H⟩ := H
    replace H : ((laws_eqTable.f k t411 t412 t400 t401).bind fun t417 => (if t417 = true then (laws_FnExactSwapInputs.j0 k a1 a2 t404 t415 (t415 != t404) a0_0 l0_1 t400 t401 t406 t407 t411 t412) else (laws_FnExactSwapInputs.j0 k a1 a2 t404 t415 true a0_0 l0_1 t400 t401 t406 t407 t411 t412))) = some true := H
    have A12 := Aside0.mk A120
    clear A120
    have HC13 := Aside0.mk H
    clear H
    go_enter Try.func6, Try.ntmps6
    go_upto_region 8 with (first | ((with_reducible refine gate_dst (N := 3) rfl ?_); refine box_event ?hg (N := 3) ?hd (cs := #[.int .i64 a0_0, .slice A0_1 l0_1.length c0_1]) (t := 41) ?hr ?_; (case hd => rfl); (case hg => rfl); (case hr => first | (go_simp; done) | (go_simp; rfl)); intro gb394 hg w14 hbox hb; have n0_ := Aside0.mk (below_step (by repeat (first | (with_reducible first | exact HB.out | apply below_alloc | apply pw_below_drewN | apply below_drew1) | exact HB.out)) hb); have n1_ := Aside0.mk (hbox); have n2_ := Aside0.mk ((by rw [hg]; exact (below_size (by repeat (first | (with_reducible first | exact HB.out | apply below_alloc | apply pw_below_drewN | apply below_drew1) | exact HB.out))) : w.heap.size ≤ gb394)); have n3_ := Aside0.mk ((by rw [hg]; exact (below_size (by repeat (first | (with_reducible first | exact HB.out | apply below_alloc | apply pw_below_drewN | apply below_drew1) | exact HB.out))) : w.heap.size ≤ gb394)); clear HB; have HB := n0_; have BK394 := n1_; have GW394 := n2_; have GE394 := n3_; clear n0_ n1_ n2_ n3_; clear hb hbox hg; have hcz15_0 : w14.cell? ⟨gb394, 0, none⟩ = some (.int .i64 a0_0) := (blk_cell BK394.out 0).trans rfl; have hcz15_1 : w14.cell? ⟨gb394, 1, none⟩ = some (.slice A0_1 l0_1.length c0_1) := (blk_cell BK394.out 1).trans rfl; have hfz15_0 := blk_frozen BK394.out 0; have hfz15_1 := blk_frozen BK394.out 1) | ((with_reducible refine gate_callee (f := 28) rfl ?_); refine goesL_ (some 20) rfl rfl Try.func28 (by kernel_rfl) rfl #[.agg #[.int .i64 a0_0, .slice A0_1 l0_1.length c0_1], .int .i64 1048576] rfl (by (try simp only [List.map_toArray, List.map_cons, List.map_nil]); first | done | rfl | (simp only [List.length_drop, List.length_take]; rfl)) ?_; (with_reducible refine (laws_szTable.calls a0_0 _ _ l0_1 1048576 t395 _ ?side1 ?side2 A4.out).mono ?_); (case side1 => repeat (first | exact (Kd.C_below HR0_1.out HB.out) | (with_reducible refine Kd.C_alloc ?_ _) | (with_reducible refine Kd.C_drewN ?_ _) | (with_reducible refine Kd.C_drew ?_))); (case side2 => exact HC0_1.out); rintro e w16 ⟨rfl, hb⟩; refine ⟨_, rfl, ?_⟩; have n0_ := Aside0.mk (blk_below (g := gb394) (o := .cells #[.int .i64 a0_0, .slice A0_1 l0_1.length c0_1] 41 (0, 0)) (by (with_reducible repeat (first | refine blk_drewN ?_ _ | refine blk_drew ?_ | refine blk_alloc ?_ _)); exact BK394.out) hb); have n1_ := Aside0.mk (below_step (by repeat (first | (with_reducible first | exact HB.out | apply below_alloc | apply pw_below_drewN | apply below_drew1 | refine below_set ?_ GE394.out) | exact HB.out)) hb); clear BK394; clear HB; have BK394 := n0_; have HB := n1_; clear n0_ n1_; (try clear hb); (try clear hb2); (try clear hk); (try clear hi); have hcz17_0 : w16.cell? ⟨gb394, 0, none⟩ = some (.int .i64 a0_0) := (blk_cell BK394.out 0).trans rfl; have hcz17_1 : w16.cell? ⟨gb394, 1, none⟩ = some (.slice A0_1 l0_1.length c0_1) := (blk_cell BK394.out 1).trans rfl; have hfz17_0 := blk_frozen BK394.out 0; have hfz17_1 := blk_frozen BK394.out 1) | ((with_reducible refine gate_callee (f := 30) rfl ?_); refine goesL_ (some 25) rfl rfl Try.func30 (by kernel_rfl) rfl #[.agg #[.int .i64 a0_0, .slice A0_1 l0_1.length c0_1]] rfl (by (try simp only [List.map_toArray, List.map_cons, List.map_nil]); first | done | rfl | (simp only [List.length_drop, List.length_take]; rfl)) ?_; (with_reducible refine (laws_toTable.calls k a0_0 _ _ l0_1 t396 t397 _ ?side1 ?side2 A9.out).mono ?_); (case side1 => repeat (first | exact (Kd.C_below HR0_1.out HB.out) | (with_reducible refine Kd.C_alloc ?_ _) | (with_reducible refine Kd.C_drewN ?_ _) | (with_reducible refine Kd.C_drew ?_))); (case side2 => exact HC0_1.out); rintro e w18 ⟨v398, rfl, ho0, hb⟩; refine ⟨_, rfl, ?_⟩; have n0_ := Aside0.mk (Kd.R_lower ho0 (below_size (by repeat (first | (with_reducible first | exact HB.out | apply below_alloc | apply pw_below_drewN | apply below_drew1 | refine below_set ?_ GE394.out) | exact HB.out)))); have n1_ := Aside0.mk (blk_below (g := gb394) (o := .cells #[.int .i64 a0_0, .slice A0_1 l0_1.length c0_1] 41 (0, 0)) (by (with_reducible repeat (first | refine blk_drewN ?_ _ | refine blk_drew ?_ | refine blk_alloc ?_ _)); exact BK394.out) hb); have n2_ := Aside0.mk (below_step (by repeat (first | (with_reducible first | exact HB.out | apply below_alloc | apply pw_below_drewN | apply below_drew1 | refine below_set ?_ GE394.out) | exact HB.out)) hb); clear BK394; clear HB; have HO399 := n0_; have BK394 := n1_; have HB := n2_; clear n0_ n1_ n2_; (try clear hb); (try clear hb2); (try clear hk); (try clear hi); (try clear ho0); obtain ⟨Ao19, co19, eo19⟩ := Kd.R_slice HO399.out; subst eo19) | ((with_reducible refine gate_callee (f := 32) rfl ?_); refine goesL_ (some 28) rfl rfl Try.func32 (by kernel_rfl) rfl #[.agg #[.int .i64 t396, .slice Ao19 t397.length co19], .int .i64 a1, .int .i64 a2] rfl (by (try simp only [List.map_toArray, List.map_cons, List.map_nil]); first | done | rfl | (simp only [List.length_drop, List.length_take]; rfl)) ?_; (with_reducible refine (spec_SwapInputs.calls k t396 _ _ t397 a1 a2 t400 t401 t404 _ ?side1 ?side2 A10.out).mono ?_); (case side1 => repeat (first | exact (Kd.R_reads' HO399.out).2.2 | (with_reducible refine Kd.C_alloc ?_ _) | (with_reducible refine Kd.C_drewN ?_ _) | (with_reducible refine Kd.C_drew ?_))); (case side2 => exact (Kd.R_reads' HO399.out).2.1); rintro e w20 ⟨v402, rfl, ho0, hb⟩; refine ⟨_, rfl, ?_⟩; have n0_ := Aside0.mk (Kd.R_elder' (by (with_reducible repeat (first | apply Kd.R_alloc | apply Kd.R_drewN | apply Kd.R_drew)); exact HO399.out) (Kd.R_base ho0) hb); have n1_ := Aside0.mk (Kd.R_lower (Kd.R_new' ho0 (Kd.R_lt (by (with_reducible repeat (first | apply Kd.R_alloc | apply Kd.R_drewN | apply Kd.R_drew)); exact HO399.out))) (below_size (by repeat (first | (with_reducible first | exact HB.out | apply below_alloc | apply pw_below_drewN | apply below_drew1 | refine below_set ?_ GE394.out) | exact HB.out)))); have n2_ := Aside0.mk (blk_below (g := gb394) (o := .cells #[.int .i64 a0_0, .slice A0_1 l0_1.length c0_1] 41 (0, 0)) (by (with_reducible repeat (first | refine blk_drewN ?_ _ | refine blk_drew ?_ | refine blk_alloc ?_ _)); exact BK394.out) hb); have n3_ := Aside0.mk (below_step (by repeat (first | (with_reducible first | exact HB.out | apply below_alloc | apply pw_below_drewN | apply below_drew1 | refine below_set ?_ GE394.out) | exact HB.out)) hb); clear HO399; clear BK394; clear HB; have HO399 := n0_; have HO403 := n1_; have BK394 := n2_; have HB := n3_; clear n0_ n1_ n2_ n3_; (try clear hb); (try clear hb2); (try clear hk); (try clear hi); (try clear ho0)) | ((with_reducible refine gate_dst (N := 8) rfl ?_); refine box_event ?hg (N := 8) ?hd (cs := #[.int .i64 0, .slice none 0 0]) (t := 24) ?hr ?_; (case hd => rfl); (case hg => rfl); (case hr => first | (go_simp; done) | (go_simp; rfl)); intro gb405 hg w21 hbox hb; have n0_ := Aside0.mk (Kd.R_below (by (with_reducible repeat (first | apply Kd.R_alloc | apply Kd.R_drewN | apply Kd.R_drew)); exact HO399.out) hb); have n1_ := Aside0.mk (Kd.R_below (by (with_reducible repeat (first | apply Kd.R_alloc | apply Kd.R_drewN | apply Kd.R_drew)); exact HO403.out) hb); have n2_ := Aside0.mk (blk_below (g := gb394) (o := .cells #[.int .i64 a0_0, .slice A0_1 l0_1.length c0_1] 41 (0, 0)) (by (with_reducible repeat (first | refine blk_drewN ?_ _ | refine blk_drew ?_ | refine blk_alloc ?_ _)); exact BK394.out) hb); have n3_ := Aside0.mk (below_step (by repeat (first | (with_reducible first | exact HB.out | apply below_alloc | apply pw_below_drewN | apply below_drew1 | refine below_set ?_ GE394.out) | exact HB.out)) hb); have n4_ := Aside0.mk (hbox); have n5_ := Aside0.mk ((by rw [hg]; exact (below_size (by repeat (first | (with_reducible first | exact HB.out | apply below_alloc | apply pw_below_drewN | apply below_drew1 | refine below_set ?_ GE394.out) | exact HB.out))) : w.heap.size ≤ gb405)); have n6_ := Aside0.mk ((by rw [hg]; exact (below_size (by repeat (first | (with_reducible first | exact HB.out | apply below_alloc | apply pw_below_drewN | apply below_drew1 | refine below_set ?_ GE394.out) | exact HB.out))) : w.heap.size ≤ gb405)); have n7_ := Aside0.mk ((by rw [hg]; exact Nat.ne_of_lt (blk_lt (g := gb394) (o := .cells #[.int .i64 a0_0, .slice A0_1 l0_1.length c0_1] 41 (0, 0)) (by (with_reducible repeat (first | refine blk_drewN ?_ _ | refine blk_drew ?_ | refine blk_alloc ?_ _)); exact BK394.out)) : gb394 ≠ gb405)); have n8_ := Aside0.mk ((by rw [hg]; exact Nat.ne_of_gt (blk_lt (g := gb394) (o := .cells #[.int .i64 a0_0, .slice A0_1 l0_1.length c0_1] 41 (0, 0)) (by (with_reducible repeat (first | refine blk_drewN ?_ _ | refine blk_drew ?_ | refine blk_alloc ?_ _)); exact BK394.out)) : gb405 ≠ gb394)); clear HO399; clear HO403; clear BK394; clear HB; have HO399 := n0_; have HO403 := n1_; have BK394 := n2_; have HB := n3_; have BK405 := n4_; have GW405 := n5_; have GE405 := n6_; have NB394_405 := n7_; have NB405_394 := n8_; clear n0_ n1_ n2_ n3_ n4_ n5_ n6_ n7_ n8_; clear hb hbox hg; have hnb22 := NB405_394.out; have hnc22 := NB394_405.out; have hcz23_0 : w21.cell? ⟨gb405, 0, none⟩ = some (.int .i64 0) := (blk_cell BK405.out 0).trans rfl; have hcz23_1 : w21.cell? ⟨gb405, 1, none⟩ = some (.slice none 0 0) := (blk_cell BK405.out 1).trans rfl; have hfz23_0 := blk_frozen BK405.out 0; have hfz23_1 := blk_frozen BK405.out 1; obtain ⟨Ao24, co24, eo24⟩ := Kd.R_slice HO403.out; subst eo24; have hcz25_0 : w21.cell? ⟨gb394, 0, none⟩ = some (.int .i64 a0_0) := (blk_cell BK394.out 0).trans rfl; have hcz25_1 : w21.cell? ⟨gb394, 1, none⟩ = some (.slice A0_1 l0_1.length c0_1) := (blk_cell BK394.out 1).trans rfl; have hfz25_0 := blk_frozen BK394.out 0; have hfz25_1 := blk_frozen BK394.out 1) | ((with_reducible refine gate_callee (f := 30) rfl ?_); refine goesL_ (some 32) rfl rfl Try.func30 (by kernel_rfl) rfl #[.agg #[.int .i64 a0_0, .slice A0_1 l0_1.length c0_1]] rfl (by (try simp only [List.map_toArray, List.map_cons, List.map_nil]); first | done | rfl | (simp only [List.length_drop, List.length_take]; rfl)) ?_; (with_reducible refine (laws_toTable.calls k a0_0 _ _ l0_1 t406 t407 _ ?side1 ?side2 A11.out).mono ?_); (case side1 => exact Kd.C_below HR0_1.out (by repeat (first | (with_reducible first | exact HB.out | apply below_alloc | apply pw_below_drewN | apply below_drew1 | refine below_set ?_ GE394.out | refine below_set ?_ GE405.out) | exact HB.out))); (case side2 => exact HC0_1.out); rintro e w26 ⟨v408, rfl, ho0, hb⟩; refine ⟨_, rfl, ?_⟩; have n0_ := Aside0.mk (Kd.R_elder' (by (with_reducible repeat (first | apply Kd.R_alloc | apply Kd.R_drewN | apply Kd.R_drew)); exact (Kd.R_mono (Kd.R_far (p := ⟨gb405, 1, none⟩) (Kd.R_far (p := ⟨gb405, 0, none⟩) (Kd.R_types HO399.out BK405.out (by decide)) (fun _ hk => hk.2) (.int .i64 t400)) (fun _ hk => hk.2) (.slice Ao24 t401.length co24)) (fun _ h_ => h_.1))) (Kd.R_base ho0) hb); have n1_ := Aside0.mk (Kd.R_elder' (by (with_reducible repeat (first | apply Kd.R_alloc | apply Kd.R_drewN | apply Kd.R_drew)); exact (Kd.R_mono (Kd.R_far (p := ⟨gb405, 1, none⟩) (Kd.R_far (p := ⟨gb405, 0, none⟩) (Kd.R_types HO403.out BK405.out (by decide)) (fun _ hk => hk.2) (.int .i64 t400)) (fun _ hk => hk.2) (.slice Ao24 t401.length co24)) (fun _ h_ => h_.1))) (Kd.R_base ho0) hb); have n2_ := Aside0.mk (Kd.R_lower (Kd.R_new' (Kd.R_new' ho0 (Kd.R_lt (by (with_reducible repeat (first | apply Kd.R_alloc | apply Kd.R_drewN | apply Kd.R_drew)); exact (Kd.R_mono (Kd.R_far (p := ⟨gb405, 1, none⟩) (Kd.R_far (p := ⟨gb405, 0, none⟩) (Kd.R_types HO399.out BK405.out (by decide)) (fun _ hk => hk.2) (.int .i64 t400)) (fun _ hk => hk.2) (.slice Ao24 t401.length co24)) (fun _ h_ => h_.1))))) (Kd.R_lt (by (with_reducible repeat (first | apply Kd.R_alloc | apply Kd.R_drewN | apply Kd.R_drew)); exact (Kd.R_mono (Kd.R_far (p := ⟨gb405, 1, none⟩) (Kd.R_far (p := ⟨gb405, 0, none⟩) (Kd.R_types HO403.out BK405.out (by decide)) (fun _ hk => hk.2) (.int .i64 t400)) (fun _ hk => hk.2) (.slice Ao24 t401.length co24)) (fun _ h_ => h_.1))))) (below_size (by repeat (first | (with_reducible first | exact HB.out | apply below_alloc | apply pw_below_drewN | apply below_drew1 | refine below_set ?_ GE394.out | refine below_set ?_ GE405.out) | exact HB.out)))); have n3_ := Aside0.mk (blk_below (g := gb394) (o := .cells #[.int .i64 a0_0, .slice A0_1 l0_1.length c0_1] 41 (0, 0)) (by (with_reducible repeat (first | refine blk_drewN ?_ _ | refine blk_drew ?_ | refine blk_alloc ?_ _)); refine blk_far ?_ NB394_405.out _; (with_reducible repeat (first | refine blk_drewN ?_ _ | refine blk_drew ?_ | refine blk_alloc ?_ _)); refine blk_far ?_ NB394_405.out _; (with_reducible repeat (first | refine blk_drewN ?_ _ | refine blk_drew ?_ | refine blk_alloc ?_ _)); exact BK394.out) hb); have n4_ := Aside0.mk (blk_below (g := gb405) (o := .cells #[.int .i64 t400, .slice Ao24 t401.length co24] 24 (0, 0)) (by (with_reducible repeat (first | refine blk_drewN ?_ _ | refine blk_drew ?_ | refine blk_alloc ?_ _)); refine blk_put (cs := #[.int .i64 t400, .slice none 0 0]) ?_ 1 _ rfl; (with_reducible repeat (first | refine blk_drewN ?_ _ | refine blk_drew ?_ | refine blk_alloc ?_ _)); refine blk_put (cs := #[.int .i64 0, .slice none 0 0]) ?_ 0 _ rfl; (with_reducible repeat (first | refine blk_drewN ?_ _ | refine blk_drew ?_ | refine blk_alloc ?_ _)); exact BK405.out) hb); have n5_ := Aside0.mk (below_step (by repeat (first | (with_reducible first | exact HB.out | apply below_alloc | apply pw_below_drewN | apply below_drew1 | refine below_set ?_ GE394.out | refine below_set ?_ GE405.out) | exact HB.out)) hb); clear HO399; clear HO403; clear BK394; clear BK405; clear HB; have HO399 := n0_; have HO403 := n1_; have HO409 := n2_; have BK394 := n3_; have BK405 := n4_; have HB := n5_; clear n0_ n1_ n2_ n3_ n4_ n5_; (try clear hb); (try clear hb2); (try clear hk); (try clear hi); (try clear ho0)) | ((with_reducible refine gate_dst (N := 10) rfl ?_); refine box_event ?hg (N := 10) ?hd (cs := #[.int .i64 0, .slice none 0 0]) (t := 24) ?hr ?_; (case hd => rfl); (case hg => rfl); (case hr => first | (go_simp; done) | (go_simp; rfl)); intro gb410 hg w27 hbox hb; have n0_ := Aside0.mk (Kd.R_below (by (with_reducible repeat (first | apply Kd.R_alloc | apply Kd.R_drewN | apply Kd.R_drew)); exact HO399.out) hb); have n1_ := Aside0.mk (Kd.R_below (by (with_reducible repeat (first | apply Kd.R_alloc | apply Kd.R_drewN | apply Kd.R_drew)); exact HO403.out) hb); have n2_ := Aside0.mk (Kd.R_below (by (with_reducible repeat (first | apply Kd.R_alloc | apply Kd.R_drewN | apply Kd.R_drew)); exact HO409.out) hb); have n3_ := Aside0.mk (blk_below (g := gb394) (o := .cells #[.int .i64 a0_0, .slice A0_1 l0_1.length c0_1] 41 (0, 0)) (by (with_reducible repeat (first | refine blk_drewN ?_ _ | refine blk_drew ?_ | refine blk_alloc ?_ _)); exact BK394.out) hb); have n4_ := Aside0.mk (blk_below (g := gb405) (o := .cells #[.int .i64 t400, .slice Ao24 t401.length co24] 24 (0, 0)) (by (with_reducible repeat (first | refine blk_drewN ?_ _ | refine blk_drew ?_ | refine blk_alloc ?_ _)); exact BK405.out) hb); have n5_ := Aside0.mk (below_step (by repeat (first | (with_reducible first | exact HB.out | apply below_alloc | apply pw_below_drewN | apply below_drew1 | refine below_set ?_ GE394.out | refine below_set ?_ GE405.out) | exact HB.out)) hb); have n6_ := Aside0.mk (hbox); have n7_ := Aside0.mk ((by rw [hg]; exact (below_size (by repeat (first | (with_reducible first | exact HB.out | apply below_alloc | apply pw_below_drewN | apply below_drew1 | refine below_set ?_ GE394.out | refine below_set ?_ GE405.out) | exact HB.out))) : w.heap.size ≤ gb410)); have n8_ := Aside0.mk ((by rw [hg]; exact (below_size (by repeat (first | (with_reducible first | exact HB.out | apply below_alloc | apply pw_below_drewN | apply below_drew1 | refine below_set ?_ GE394.out | refine below_set ?_ GE405.out) | exact HB.out))) : w.heap.size ≤ gb410)); have n9_ := Aside0.mk ((by rw [hg]; exact Nat.ne_of_lt (blk_lt (g := gb394) (o := .cells #[.int .i64 a0_0, .slice A0_1 l0_1.length c0_1] 41 (0, 0)) (by (with_reducible repeat (first | refine blk_drewN ?_ _ | refine blk_drew ?_ | refine blk_alloc ?_ _)); exact BK394.out)) : gb394 ≠ gb410)); have n10_ := Aside0.mk ((by rw [hg]; exact Nat.ne_of_gt (blk_lt (g := gb394) (o := .cells #[.int .i64 a0_0, .slice A0_1 l0_1.length c0_1] 41 (0, 0)) (by (with_reducible repeat (first | refine blk_drewN ?_ _ | refine blk_drew ?_ | refine blk_alloc ?_ _)); exact BK394.out)) : gb410 ≠ gb394)); have n11_ := Aside0.mk ((by rw [hg]; exact Nat.ne_of_lt (blk_lt (g := gb405) (o := .cells #[.int .i64 t400, .slice Ao24 t401.length co24] 24 (0, 0)) (by (with_reducible repeat (first | refine blk_drewN ?_ _ | refine blk_drew ?_ | refine blk_alloc ?_ _)); exact BK405.out)) : gb405 ≠ gb410)); have n12_ := Aside0.mk ((by rw [hg]; exact Nat.ne_of_gt (blk_lt (g := gb405) (o := .cells #[.int .i64 t400, .slice Ao24 t401.length co24] 24 (0, 0)) (by (with_reducible repeat (first | refine blk_drewN ?_ _ | refine blk_drew ?_ | refine blk_alloc ?_ _)); exact BK405.out)) : gb410 ≠ gb405)); clear HO399; clear HO403; clear HO409; clear BK394; clear BK405; clear HB; have HO399 := n0_; have HO403 := n1_; have HO409 := n2_; have BK394 := n3_; have BK405 := n4_; have HB := n5_; have BK410 := n6_; have GW410 := n7_; have GE410 := n8_; have NB394_410 := n9_; have NB410_394 := n10_; have NB405_410 := n11_; have NB410_405 := n12_; clear n0_ n1_ n2_ n3_ n4_ n5_ n6_ n7_ n8_ n9_ n10_ n11_ n12_; clear hb hbox hg; have hnb28 := NB410_394.out; have hnc28 := NB394_410.out; have hnb29 := NB410_405.out; have hnc29 := NB405_410.out; have hcz30_0 : w27.cell? ⟨gb410, 0, none⟩ = some (.int .i64 0) := (blk_cell BK410.out 0).trans rfl; have hcz30_1 : w27.cell? ⟨gb410, 1, none⟩ = some (.slice none 0 0) := (blk_cell BK410.out 1).trans rfl; have hfz30_0 := blk_frozen BK410.out 0; have hfz30_1 := blk_frozen BK410.out 1; obtain ⟨Ao31, co31, eo31⟩ := Kd.R_slice HO409.out; subst eo31) | ((with_reducible refine gate_callee (f := 33) rfl ?_); refine goesL_ (some 37) rfl rfl Try.func33 (by kernel_rfl) rfl #[.agg #[.int .i64 t406, .slice Ao31 t407.length co31], .int .i64 a1, .int .i64 a2] rfl (by (try simp only [List.map_toArray, List.map_cons, List.map_nil]); first | done | rfl | (simp only [List.length_drop, List.length_take]; rfl)) ?_; (with_reducible refine (impl_SwapInputs.calls k t406 _ _ t407 a1 a2 t411 t412 t415 _ ?side1 ?side2 A12.out).mono ?_); (case side1 => refine (Kd.R_reads' (e := 3) (base := w.heap.size) (ok := fun k_ => ((True ∧ some k_ ≠ (.slice Ao19 t397.length co19 : Value).ownBlock) ∧ some k_ ≠ (.slice Ao24 t401.length co24 : Value).ownBlock)) (n := t407.length) (c := co31) ?_).2.2; exact (by (with_reducible repeat (first | apply Kd.R_alloc | apply Kd.R_drewN | apply Kd.R_drew)); exact (Kd.R_mono (Kd.R_far (p := ⟨gb410, 1, none⟩) (Kd.R_far (p := ⟨gb410, 0, none⟩) (Kd.R_types HO409.out BK410.out (by decide)) (fun _ hk => hk.2) (.int .i64 t406)) (fun _ hk => hk.2) (.slice Ao31 t407.length co31)) (fun _ h_ => h_.1)))); (case side2 => exact (Kd.R_reads' HO409.out).2.1); rintro e w32 ⟨v413, rfl, ho0, hb⟩; refine ⟨_, rfl, ?_⟩; have n0_ := Aside0.mk (Kd.R_elder' (by (with_reducible repeat (first | apply Kd.R_alloc | apply Kd.R_drewN | apply Kd.R_drew)); exact (Kd.R_mono (Kd.R_far (p := ⟨gb410, 1, none⟩) (Kd.R_far (p := ⟨gb410, 0, none⟩) (Kd.R_types HO399.out BK410.out (by decide)) (fun _ hk => hk.2) (.int .i64 t406)) (fun _ hk => hk.2) (.slice Ao31 t407.length co31)) (fun _ h_ => h_.1))) (Kd.R_base ho0) hb); have n1_ := Aside0.mk (Kd.R_elder' (by (with_reducible repeat (first | apply Kd.R_alloc | apply Kd.R_drewN | apply Kd.R_drew)); exact (Kd.R_mono (Kd.R_far (p := ⟨gb410, 1, none⟩) (Kd.R_far (p := ⟨gb410, 0, none⟩) (Kd.R_types HO403.out BK410.out (by decide)) (fun _ hk => hk.2) (.int .i64 t406)) (fun _ hk => hk.2) (.slice Ao31 t407.length co31)) (fun _ h_ => h_.1))) (Kd.R_base ho0) hb); have n2_ := Aside0.mk (Kd.R_elder' (by (with_reducible repeat (first | apply Kd.R_alloc | apply Kd.R_drewN | apply Kd.R_drew)); exact (Kd.R_mono (Kd.R_far (p := ⟨gb410, 1, none⟩) (Kd.R_far (p := ⟨gb410, 0, none⟩) (Kd.R_types HO409.out BK410.out (by decide)) (fun _ hk => hk.2) (.int .i64 t406)) (fun _ hk => hk.2) (.slice Ao31 t407.length co31)) (fun _ h_ => h_.1))) (Kd.R_base ho0) hb); have n3_ := Aside0.mk (Kd.R_lower (Kd.R_new' (Kd.R_new' (Kd.R_new' ho0 (Kd.R_lt (by (with_reducible repeat (first | apply Kd.R_alloc | apply Kd.R_drewN | apply Kd.R_drew)); exact (Kd.R_mono (Kd.R_far (p := ⟨gb410, 1, none⟩) (Kd.R_far (p := ⟨gb410, 0, none⟩) (Kd.R_types HO399.out BK410.out (by decide)) (fun _ hk => hk.2) (.int .i64 t406)) (fun _ hk => hk.2) (.slice Ao31 t407.length co31)) (fun _ h_ => h_.1))))) (Kd.R_lt (by (with_reducible repeat (first | apply Kd.R_alloc | apply Kd.R_drewN | apply Kd.R_drew)); exact (Kd.R_mono (Kd.R_far (p := ⟨gb410, 1, none⟩) (Kd.R_far (p := ⟨gb410, 0, none⟩) (Kd.R_types HO403.out BK410.out (by decide)) (fun _ hk => hk.2) (.int .i64 t406)) (fun _ hk => hk.2) (.slice Ao31 t407.length co31)) (fun _ h_ => h_.1))))) (Kd.R_lt (by (with_reducible repeat (first | apply Kd.R_alloc | apply Kd.R_drewN | apply Kd.R_drew)); exact (Kd.R_mono (Kd.R_far (p := ⟨gb410, 1, none⟩) (Kd.R_far (p := ⟨gb410, 0, none⟩) (Kd.R_types HO409.out BK410.out (by decide)) (fun _ hk => hk.2) (.int .i64 t406)) (fun _ hk => hk.2) (.slice Ao31 t407.length co31)) (fun _ h_ => h_.1))))) (below_size (by repeat (first | (with_reducible first | exact HB.out | apply below_alloc | apply pw_below_drewN | apply below_drew1 | refine below_set ?_ GE394.out | refine below_set ?_ GE405.out | refine below_set ?_ GE410.out) | exact HB.out)))); have n4_ := Aside0.mk (blk_below (g := gb394) (o := .cells #[.int .i64 a0_0, .slice A0_1 l0_1.length c0_1] 41 (0, 0)) (by (with_reducible repeat (first | refine blk_drewN ?_ _ | refine blk_drew ?_ | refine blk_alloc ?_ _)); refine blk_far ?_ NB394_410.out _; (with_reducible repeat (first | refine blk_drewN ?_ _ | refine blk_drew ?_ | refine blk_alloc ?_ _)); refine blk_far ?_ NB394_410.out _; (with_reducible repeat (first | refine blk_drewN ?_ _ | refine blk_drew ?_ | refine blk_alloc ?_ _)); exact BK394.out) hb); have n5_ := Aside0.mk (blk_below (g := gb405) (o := .cells #[.int .i64 t400, .slice Ao24 t401.length co24] 24 (0, 0)) (by (with_reducible repeat (first | refine blk_drewN ?_ _ | refine blk_drew ?_ | refine blk_alloc ?_ _)); refine blk_far ?_ NB405_410.out _; (with_reducible repeat (first | refine blk_drewN ?_ _ | refine blk_drew ?_ | refine blk_alloc ?_ _)); refine blk_far ?_ NB405_410.out _; (with_reducible repeat (first | refine blk_drewN ?_ _ | refine blk_drew ?_ | refine blk_alloc ?_ _)); exact BK405.out) hb); have n6_ := Aside0.mk (blk_below (g := gb410) (o := .cells #[.int .i64 t406, .slice Ao31 t407.length co31] 24 (0, 0)) (by (with_reducible repeat (first | refine blk_drewN ?_ _ | refine blk_drew ?_ | refine blk_alloc ?_ _)); refine blk_put (cs := #[.int .i64 t406, .slice none 0 0]) ?_ 1 _ rfl; (with_reducible repeat (first | refine blk_drewN ?_ _ | refine blk_drew ?_ | refine blk_alloc ?_ _)); refine blk_put (cs := #[.int .i64 0, .slice none 0 0]) ?_ 0 _ rfl; (with_reducible repeat (first | refine blk_drewN ?_ _ | refine blk_drew ?_ | refine blk_alloc ?_ _)); exact BK410.out) hb); have n7_ := Aside0.mk (below_step (by repeat (first | (with_reducible first | exact HB.out | apply below_alloc | apply pw_below_drewN | apply below_drew1 | refine below_set ?_ GE394.out | refine below_set ?_ GE405.out | refine below_set ?_ GE410.out) | exact HB.out)) hb); clear HO399; clear HO403; clear HO409; clear BK394; clear BK405; clear BK410; clear HB; have HO399 := n0_; have HO403 := n1_; have HO409 := n2_; have HO414 := n3_; have BK394 := n4_; have BK405 := n5_; have BK410 := n6_; have HB := n7_; clear n0_ n1_ n2_ n3_ n4_ n5_ n6_ n7_; (try clear hb); (try clear hb2); (try clear hk); (try clear hi); (try clear ho0)) | ((with_reducible refine gate_dst (N := 11) rfl ?_); refine box_event ?hg (N := 11) ?hd (cs := #[.int .i64 0, .slice none 0 0]) (t := 24) ?hr ?_; (case hd => rfl); (case hg => rfl); (case hr => first | (go_simp; done) | (go_simp; rfl)); intro gb416 hg w33 hbox hb; have n0_ := Aside0.mk (Kd.R_below (by (with_reducible repeat (first | apply Kd.R_alloc | apply Kd.R_drewN | apply Kd.R_drew)); exact HO399.out) hb); have n1_ := Aside0.mk (Kd.R_below (by (with_reducible repeat (first | apply Kd.R_alloc | apply Kd.R_drewN | apply Kd.R_drew)); exact HO403.out) hb); have n2_ := Aside0.mk (Kd.R_below (by (with_reducible repeat (first | apply Kd.R_alloc | apply Kd.R_drewN | apply Kd.R_drew)); exact HO409.out) hb); have n3_ := Aside0.mk (Kd.R_below (by (with_reducible repeat (first | apply Kd.R_alloc | apply Kd.R_drewN | apply Kd.R_drew)); exact HO414.out) hb); have n4_ := Aside0.mk (blk_below (g := gb394) (o := .cells #[.int .i64 a0_0, .slice A0_1 l0_1.length c0_1] 41 (0, 0)) (by (with_reducible repeat (first | refine blk_drewN ?_ _ | refine blk_drew ?_ | refine blk_alloc ?_ _)); exact BK394.out) hb); have n5_ := Aside0.mk (blk_below (g := gb405) (o := .cells #[.int .i64 t400, .slice Ao24 t401.length co24] 24 (0, 0)) (by (with_reducible repeat (first | refine blk_drewN ?_ _ | refine blk_drew ?_ | refine blk_alloc ?_ _)); exact BK405.out) hb); have n6_ := Aside0.mk (blk_below (g := gb410) (o := .cells #[.int .i64 t406, .slice Ao31 t407.length co31] 24 (0, 0)) (by (with_reducible repeat (first | refine blk_drewN ?_ _ | refine blk_drew ?_ | refine blk_alloc ?_ _)); exact BK410.out) hb); have n7_ := Aside0.mk (below_step (by repeat (first | (with_reducible first | exact HB.out | apply below_alloc | apply pw_below_drewN | apply below_drew1 | refine below_set ?_ GE394.out | refine below_set ?_ GE405.out | refine below_set ?_ GE410.out) | exact HB.out)) hb); have n8_ := Aside0.mk (hbox); have n9_ := Aside0.mk ((by rw [hg]; exact (below_size (by repeat (first | (with_reducible first | exact HB.out | apply below_alloc | apply pw_below_drewN | apply below_drew1 | refine below_set ?_ GE394.out | refine below_set ?_ GE405.out | refine below_set ?_ GE410.out) | exact HB.out))) : w.heap.size ≤ gb416)); have n10_ := Aside0.mk ((by rw [hg]; exact (below_size (by repeat (first | (with_reducible first | exact HB.out | apply below_alloc | apply pw_below_drewN | apply below_drew1 | refine below_set ?_ GE394.out | refine below_set ?_ GE405.out | refine below_set ?_ GE410.out) | exact HB.out))) : w.heap.size ≤ gb416)); have n11_ := Aside0.mk ((by rw [hg]; exact Nat.ne_of_lt (blk_lt (g := gb394) (o := .cells #[.int .i64 a0_0, .slice A0_1 l0_1.length c0_1] 41 (0, 0)) (by (with_reducible repeat (first | refine blk_drewN ?_ _ | refine blk_drew ?_ | refine blk_alloc ?_ _)); exact BK394.out)) : gb394 ≠ gb416)); have n12_ := Aside0.mk ((by rw [hg]; exact Nat.ne_of_gt (blk_lt (g := gb394) (o := .cells #[.int .i64 a0_0, .slice A0_1 l0_1.length c0_1] 41 (0, 0)) (by (with_reducible repeat (first | refine blk_drewN ?_ _ | refine blk_drew ?_ | refine blk_alloc ?_ _)); exact BK394.out)) : gb416 ≠ gb394)); have n13_ := Aside0.mk ((by rw [hg]; exact Nat.ne_of_lt (blk_lt (g := gb405) (o := .cells #[.int .i64 t400, .slice Ao24 t401.length co24] 24 (0, 0)) (by (with_reducible repeat (first | refine blk_drewN ?_ _ | refine blk_drew ?_ | refine blk_alloc ?_ _)); exact BK405.out)) : gb405 ≠ gb416)); have n14_ := Aside0.mk ((by rw [hg]; exact Nat.ne_of_gt (blk_lt (g := gb405) (o := .cells #[.int .i64 t400, .slice Ao24 t401.length co24] 24 (0, 0)) (by (with_reducible repeat (first | refine blk_drewN ?_ _ | refine blk_drew ?_ | refine blk_alloc ?_ _)); exact BK405.out)) : gb416 ≠ gb405)); have n15_ := Aside0.mk ((by rw [hg]; exact Nat.ne_of_lt (blk_lt (g := gb410) (o := .cells #[.int .i64 t406, .slice Ao31 t407.length co31] 24 (0, 0)) (by (with_reducible repeat (first | refine blk_drewN ?_ _ | refine blk_drew ?_ | refine blk_alloc ?_ _)); exact BK410.out)) : gb410 ≠ gb416)); have n16_ := Aside0.mk ((by rw [hg]; exact Nat.ne_of_gt (blk_lt (g := gb410) (o := .cells #[.int .i64 t406, .slice Ao31 t407.length co31] 24 (0, 0)) (by (with_reducible repeat (first | refine blk_drewN ?_ _ | refine blk_drew ?_ | refine blk_alloc ?_ _)); exact BK410.out)) : gb416 ≠ gb410)); clear HO399; clear HO403; clear HO409; clear HO414; clear BK394; clear BK405; clear BK410; clear HB; have HO399 := n0_; have HO403 := n1_; have HO409 := n2_; have HO414 := n3_; have BK394 := n4_; have BK405 := n5_; have BK410 := n6_; have HB := n7_; have BK416 := n8_; have GW416 := n9_; have GE416 := n10_; have NB394_416 := n11_; have NB416_394 := n12_; have NB405_416 := n13_; have NB416_405 := n14_; have NB410_416 := n15_; have NB416_410 := n16_; clear n0_ n1_ n2_ n3_ n4_ n5_ n6_ n7_ n8_ n9_ n10_ n11_ n12_ n13_ n14_ n15_ n16_; clear hb hbox hg; have hnb34 := NB416_394.out; have hnc34 := NB394_416.out; have hnb35 := NB416_405.out; have hnc35 := NB405_416.out; have hnb36 := NB416_410.out; have hnc36 := NB410_416.out; have hcz37_0 : w33.cell? ⟨gb416, 0, none⟩ = some (.int .i64 0) := (blk_cell BK416.out 0).trans rfl; have hcz37_1 : w33.cell? ⟨gb416, 1, none⟩ = some (.slice none 0 0) := (blk_cell BK416.out 1).trans rfl; have hfz37_0 := blk_frozen BK416.out 0; have hfz37_1 := blk_frozen BK416.out 1; obtain ⟨Ao38, co38, eo38⟩ := Kd.R_slice HO414.out; subst eo38))
    (try simp only [Act.put, List.setIfInBounds_toArray, List.set_cons_zero, List.set_cons_succ])
    go_cut [48] (fun v48 wc => ∃ (kq : Nat) (x48_12 : Bool), v48 = .bool x48_12 ∧ Aside0 (laws_FnExactSwapInputs.j0 kq a1 a2 t404 t415 x48_12 a0_0 l0_1 t400 t401 t406 t407 t411 t412 = some true) ∧ Aside0 (kq ≤ k) ∧ Aside0 (Kd.R (Kd.int .i64) 3 wc w.heap.size (fun k_ => some k_ ≠ ((.slice Ao31 t407.length co31) : Value).ownBlock ∧ some k_ ≠ ((.slice Ao38 t412.length co38) : Value).ownBlock) (.slice Ao24 t401.length co24) t401) ∧ Aside0 (Kd.R (Kd.int .i64) 3 wc w.heap.size (fun k_ => some k_ ≠ ((.slice Ao24 t401.length co24) : Value).ownBlock ∧ some k_ ≠ ((.slice Ao38 t412.length co38) : Value).ownBlock) (.slice Ao31 t407.length co31) t407) ∧ Aside0 (Kd.R (Kd.int .i64) 3 wc w.heap.size (fun k_ => some k_ ≠ ((.slice Ao24 t401.length co24) : Value).ownBlock ∧ some k_ ≠ ((.slice Ao31 t407.length co31) : Value).ownBlock) (.slice Ao38 t412.length co38) t412) ∧ Aside0 (wc.heap[gb394]? = some (.cells #[.int .i64 a0_0, (.slice A0_1 l0_1.length c0_1)] 41 (0, 0))) ∧ Aside0 (wc.heap[gb405]? = some (.cells #[.int .i64 t400, (.slice Ao24 t401.length co24)] 24 (0, 0))) ∧ Aside0 (wc.heap[gb410]? = some (.cells #[.int .i64 t406, (.slice Ao31 t407.length co31)] 24 (0, 0))) ∧ Aside0 (wc.heap[gb416]? = some (.cells #[.int .i64 t411, (.slice Ao38 t412.length co38)] 24 (0, 0))) ∧ Aside0 (Below w.heap.size w wc))
    case first =>
      have H := HC13.out
      clear HC13
      replace H := Option.bind_eq_some_iff.mp H
      obtain ⟨t417, A390, H⟩ := H
      replace H : (if t417 = true then (laws_FnExactSwapInputs.j0 k a1 a2 t404 t415 (t415 != t404) a0_0 l0_1 t400 t401 t406 t407 t411 t412) else (laws_FnExactSwapInputs.j0 k a1 a2 t404 t415 true a0_0 l0_1 t400 t401 t406 t407 t411 t412)) = some true := H
      have A39 := Aside0.mk A390
      clear A390
      by_cases c40 : t417 = true
      · subst c40
        have H1 : (laws_FnExactSwapInputs.j0 k a1 a2 t404 t415 (t415 != t404) a0_0 l0_1 t400 t401 t406 t407 t411 t412) = some true := by rw [if_pos rfl] at H; exact H
        clear H
        have H := H1
        clear H1
        have H' := Aside0.mk H
        clear H
        have hnb41 := NB416_394.out
        have hnc41 := NB394_416.out
        have hnb42 := NB416_405.out
        have hnc42 := NB405_416.out
        have hnb43 := NB416_410.out
        have hnc43 := NB410_416.out
        have hcz44_0 : w33.cell? ⟨gb416, 0, none⟩ = some (.int .i64 0) := (blk_cell BK416.out 0).trans rfl
        have hcz44_1 : w33.cell? ⟨gb416, 1, none⟩ = some (.slice none 0 0) := (blk_cell BK416.out 1).trans rfl
        have hfz44_0 := blk_frozen BK416.out 0
        have hfz44_1 := blk_frozen BK416.out 1
        have hnb45 := NB405_394.out
        have hnc45 := NB394_405.out
        have hnb46 := NB405_410.out
        have hnc46 := NB410_405.out
        have hcz47_0 : w33.cell? ⟨gb405, 0, none⟩ = some (.int .i64 t400) := (blk_cell BK405.out 0).trans rfl
        have hcz47_1 : w33.cell? ⟨gb405, 1, none⟩ = some (.slice Ao24 t401.length co24) := (blk_cell BK405.out 1).trans rfl
        have hfz47_0 := blk_frozen BK405.out 0
        have hfz47_1 := blk_frozen BK405.out 1
        go_wp2_with (first | ((with_reducible refine gate_callee (f := 16) rfl ?_); refine goesL_ (some 42) rfl rfl Try.func16 (by kernel_rfl) rfl #[.agg #[.int .i64 t411, .slice Ao38 t412.length co38], .agg #[.int .i64 t400, .slice Ao24 t401.length co24]] rfl (by (try simp only [List.map_toArray, List.map_cons, List.map_nil]); first | done | rfl | (simp only [List.length_drop, List.length_take]; rfl)) ?_; (with_reducible refine (laws_eqTable.calls k t411 _ _ t412 t400 _ _ t401 true _ ?side1 ?side2 ?side3 ?side4 A39.out).mono ?_); (case side1 => refine (Kd.R_reads' (e := 3) (base := w.heap.size) (ok := fun k_ => (((True ∧ some k_ ≠ (.slice Ao19 t397.length co19 : Value).ownBlock) ∧ some k_ ≠ (.slice Ao24 t401.length co24 : Value).ownBlock) ∧ some k_ ≠ (.slice Ao31 t407.length co31 : Value).ownBlock)) (n := t412.length) (c := co38) ?_).2.2; exact (by (with_reducible repeat (first | apply Kd.R_alloc | apply Kd.R_drewN | apply Kd.R_drew)); exact (Kd.R_mono (Kd.R_far (p := ⟨gb416, 1, none⟩) (Kd.R_far (p := ⟨gb416, 0, none⟩) (Kd.R_types HO414.out BK416.out (by decide)) (fun _ hk => hk.2) (.int .i64 t411)) (fun _ hk => hk.2) (.slice Ao38 t412.length co38)) (fun _ h_ => h_.1)))); (case side2 => exact (Kd.R_reads' HO414.out).2.1); (case side3 => refine (Kd.R_reads' (e := 3) (base := w.heap.size) (ok := fun k_ => (((True ∧ some k_ ≠ (.slice Ao19 t397.length co19 : Value).ownBlock) ∧ some k_ ≠ (.slice Ao31 t407.length co31 : Value).ownBlock) ∧ some k_ ≠ (.slice Ao38 t412.length co38 : Value).ownBlock)) (n := t401.length) (c := co24) ?_).2.2; exact (by (with_reducible repeat (first | apply Kd.R_alloc | apply Kd.R_drewN | apply Kd.R_drew)); exact (Kd.R_mono (Kd.R_far (p := ⟨gb416, 1, none⟩) (Kd.R_far (p := ⟨gb416, 0, none⟩) (Kd.R_types HO403.out BK416.out (by decide)) (fun _ hk => hk.2) (.int .i64 t411)) (fun _ hk => hk.2) (.slice Ao38 t412.length co38)) (fun _ h_ => h_.1)))); (case side4 => exact (Kd.R_reads' HO403.out).2.1); rintro e w48 ⟨rfl, hb⟩; refine ⟨_, rfl, ?_⟩; have n0_ := Aside0.mk (Kd.R_below (by (with_reducible repeat (first | apply Kd.R_alloc | apply Kd.R_drewN | apply Kd.R_drew)); exact (Kd.R_mono (Kd.R_far (p := ⟨gb416, 1, none⟩) (Kd.R_far (p := ⟨gb416, 0, none⟩) (Kd.R_types HO399.out BK416.out (by decide)) (fun _ hk => hk.2) (.int .i64 t411)) (fun _ hk => hk.2) (.slice Ao38 t412.length co38)) (fun _ h_ => h_.1))) hb); have n1_ := Aside0.mk (Kd.R_below (by (with_reducible repeat (first | apply Kd.R_alloc | apply Kd.R_drewN | apply Kd.R_drew)); exact (Kd.R_mono (Kd.R_far (p := ⟨gb416, 1, none⟩) (Kd.R_far (p := ⟨gb416, 0, none⟩) (Kd.R_types HO403.out BK416.out (by decide)) (fun _ hk => hk.2) (.int .i64 t411)) (fun _ hk => hk.2) (.slice Ao38 t412.length co38)) (fun _ h_ => h_.1))) hb); have n2_ := Aside0.mk (Kd.R_below (by (with_reducible repeat (first | apply Kd.R_alloc | apply Kd.R_drewN | apply Kd.R_drew)); exact (Kd.R_mono (Kd.R_far (p := ⟨gb416, 1, none⟩) (Kd.R_far (p := ⟨gb416, 0, none⟩) (Kd.R_types HO409.out BK416.out (by decide)) (fun _ hk => hk.2) (.int .i64 t411)) (fun _ hk => hk.2) (.slice Ao38 t412.length co38)) (fun _ h_ => h_.1))) hb); have n3_ := Aside0.mk (Kd.R_below (by (with_reducible repeat (first | apply Kd.R_alloc | apply Kd.R_drewN | apply Kd.R_drew)); exact (Kd.R_mono (Kd.R_far (p := ⟨gb416, 1, none⟩) (Kd.R_far (p := ⟨gb416, 0, none⟩) (Kd.R_types HO414.out BK416.out (by decide)) (fun _ hk => hk.2) (.int .i64 t411)) (fun _ hk => hk.2) (.slice Ao38 t412.length co38)) (fun _ h_ => h_.1))) hb); have n4_ := Aside0.mk (blk_below (g := gb394) (o := .cells #[.int .i64 a0_0, .slice A0_1 l0_1.length c0_1] 41 (0, 0)) (by (with_reducible repeat (first | refine blk_drewN ?_ _ | refine blk_drew ?_ | refine blk_alloc ?_ _)); refine blk_far ?_ NB394_416.out _; (with_reducible repeat (first | refine blk_drewN ?_ _ | refine blk_drew ?_ | refine blk_alloc ?_ _)); refine blk_far ?_ NB394_416.out _; (with_reducible repeat (first | refine blk_drewN ?_ _ | refine blk_drew ?_ | refine blk_alloc ?_ _)); exact BK394.out) hb); have n5_ := Aside0.mk (blk_below (g := gb405) (o := .cells #[.int .i64 t400, .slice Ao24 t401.length co24] 24 (0, 0)) (by (with_reducible repeat (first | refine blk_drewN ?_ _ | refine blk_drew ?_ | refine blk_alloc ?_ _)); refine blk_far ?_ NB405_416.out _; (with_reducible repeat (first | refine blk_drewN ?_ _ | refine blk_drew ?_ | refine blk_alloc ?_ _)); refine blk_far ?_ NB405_416.out _; (with_reducible repeat (first | refine blk_drewN ?_ _ | refine blk_drew ?_ | refine blk_alloc ?_ _)); exact BK405.out) hb); have n6_ := Aside0.mk (blk_below (g := gb410) (o := .cells #[.int .i64 t406, .slice Ao31 t407.length co31] 24 (0, 0)) (by (with_reducible repeat (first | refine blk_drewN ?_ _ | refine blk_drew ?_ | refine blk_alloc ?_ _)); refine blk_far ?_ NB410_416.out _; (with_reducible repeat (first | refine blk_drewN ?_ _ | refine blk_drew ?_ | refine blk_alloc ?_ _)); refine blk_far ?_ NB410_416.out _; (with_reducible repeat (first | refine blk_drewN ?_ _ | refine blk_drew ?_ | refine blk_alloc ?_ _)); exact BK410.out) hb); have n7_ := Aside0.mk (blk_below (g := gb416) (o := .cells #[.int .i64 t411, .slice Ao38 t412.length co38] 24 (0, 0)) (by (with_reducible repeat (first | refine blk_drewN ?_ _ | refine blk_drew ?_ | refine blk_alloc ?_ _)); refine blk_put (cs := #[.int .i64 t411, .slice none 0 0]) ?_ 1 _ rfl; (with_reducible repeat (first | refine blk_drewN ?_ _ | refine blk_drew ?_ | refine blk_alloc ?_ _)); refine blk_put (cs := #[.int .i64 0, .slice none 0 0]) ?_ 0 _ rfl; (with_reducible repeat (first | refine blk_drewN ?_ _ | refine blk_drew ?_ | refine blk_alloc ?_ _)); exact BK416.out) hb); have n8_ := Aside0.mk (below_step (by repeat (first | (with_reducible first | exact HB.out | apply below_alloc | apply pw_below_drewN | apply below_drew1 | refine below_set ?_ GE394.out | refine below_set ?_ GE405.out | refine below_set ?_ GE410.out | refine below_set ?_ GE416.out) | exact HB.out)) hb); clear HO399; clear HO403; clear HO409; clear HO414; clear BK394; clear BK405; clear BK410; clear BK416; clear HB; have HO399 := n0_; have HO403 := n1_; have HO409 := n2_; have HO414 := n3_; have BK394 := n4_; have BK405 := n5_; have BK410 := n6_; have BK416 := n7_; have HB := n8_; clear n0_ n1_ n2_ n3_ n4_ n5_ n6_ n7_ n8_; (try clear hb); (try clear hb2); (try clear hk); (try clear hi)))
        go_meet
        case rel => exact ⟨_, ((t415 != t404)), (by first | rfl | (simp; done) | (simp [*]; done)), H', ⟨by first | omega | exact Nat.le_refl _⟩, ⟨by (with_reducible repeat (first | apply Kd.R_alloc | apply Kd.R_drewN | apply Kd.R_drew)); exact Kd.R_mono HO403.out (fun _ hk => ⟨hk.1.2, hk.2⟩)⟩, ⟨by (with_reducible repeat (first | apply Kd.R_alloc | apply Kd.R_drewN | apply Kd.R_drew)); exact Kd.R_mono HO409.out (fun _ hk => ⟨hk.1.2, hk.2⟩)⟩, ⟨by (with_reducible repeat (first | apply Kd.R_alloc | apply Kd.R_drewN | apply Kd.R_drew)); exact Kd.R_mono HO414.out (fun _ hk => ⟨hk.1.2, hk.2⟩)⟩, ⟨by (with_reducible repeat (first | refine blk_drewN ?_ _ | refine blk_drew ?_ | refine blk_alloc ?_ _)); exact BK394.out⟩, ⟨by (with_reducible repeat (first | refine blk_drewN ?_ _ | refine blk_drew ?_ | refine blk_alloc ?_ _)); exact BK405.out⟩, ⟨by (with_reducible repeat (first | refine blk_drewN ?_ _ | refine blk_drew ?_ | refine blk_alloc ?_ _)); exact BK410.out⟩, ⟨by (with_reducible repeat (first | refine blk_drewN ?_ _ | refine blk_drew ?_ | refine blk_alloc ?_ _)); exact BK416.out⟩, ⟨by repeat (first | (with_reducible first | exact HB.out | apply below_alloc | apply pw_below_drewN | apply below_drew1 | refine below_set ?_ GE394.out | refine below_set ?_ GE405.out | refine below_set ?_ GE410.out | refine below_set ?_ GE416.out) | exact HB.out)⟩⟩
      · replace c40 := Bool.eq_false_iff.mpr c40
        subst c40
        have H1 : (laws_FnExactSwapInputs.j0 k a1 a2 t404 t415 true a0_0 l0_1 t400 t401 t406 t407 t411 t412) = some true := by rw [if_neg (show ¬ (false = true) by decide)] at H; exact H
        exact absurd H1 (by cases k <;> simp [laws_FnExactSwapInputs.j0])
    case rest =>
      clear HC13
      try clear c1
      try clear c2
      try clear p2
      try clear c3
      try clear c4
      try clear c5
      try clear c5b0
      try clear c6
      try clear c16
      try clear c22
      try clear c28
      try clear c29
      try clear c30
      try clear c32
      try clear c33
      try clear c34
      try clear c35
      try clear c36
      try clear c40
      try clear c41
      try clear c42
      try clear c43
      try clear c45
      try clear c46
      try clear c49
      try clear c50
      try clear c51
      try clear c53
      try clear c54
      try clear hcz15_0
      try clear hcz15_1
      try clear hcz17_0
      try clear hcz17_1
      try clear hcz23_0
      try clear hcz23_1
      try clear hcz25_0
      try clear hcz25_1
      try clear hcz30_0
      try clear hcz30_1
      try clear hcz37_0
      try clear hcz37_1
      try clear hcz44_0
      try clear hcz44_1
      try clear hcz47_0
      try clear hcz47_1
      try clear hcz52_0
      try clear hcz52_1
      try clear hcz55_0
      try clear hcz55_1
      try clear hcz7_0
      try clear hcz7_1
      try clear hfz15_0
      try clear hfz15_1
      try clear hfz17_0
      try clear hfz17_1
      try clear hfz23_0
      try clear hfz23_1
      try clear hfz25_0
      try clear hfz25_1
      try clear hfz30_0
      try clear hfz30_1
      try clear hfz37_0
      try clear hfz37_1
      try clear hfz44_0
      try clear hfz44_1
      try clear hfz47_0
      try clear hfz47_1
      try clear hfz52_0
      try clear hfz52_1
      try clear hfz55_0
      try clear hfz55_1
      try clear hfz7_0
      try clear hfz7_1
      obtain ⟨kq, x48_12, rfl, HA, HJ12, HO_406001, HO_411001, HO_417001, BK394, BK405, BK410, BK416, HB⟩ := hcut
      cases kq with
      | zero => exact absurd HA.out (by simp [laws_FnExactSwapInputs.j0])
      | succ kj12 =>
        have H := HA.out
        clear HA
        simp only [laws_FnExactSwapInputs.j0] at H
        by_cases c57 : x48_12 = true
        · subst c57
          have H1 : (some false) = some true := by rw [if_pos rfl] at H; exact H
          exact absurd H1 (by simp)
        · replace c57 := Bool.eq_false_iff.mpr c57
          subst c57
          have H1 : ((laws_toTable.f kj12 a0_0 l0_1).bind fun bt418 => ((laws_eqTable.f kj12 t406 t407 bt418.1 bt418.2).bind fun t422 => (if t422 = true then ((laws_markTable.f kj12 t406 t407 1).bind fun bt423 => (if bt423.1 < 0 then (laws_FnExactSwapInputs.j1 kj12 a1 a2 t404 true a0_0 l0_1 t400 t401 t411 t412) else ((laws_eqTable.f kj12 t411 t412 t400 t401).bind fun t425 => (if t425 = true then (laws_FnExactSwapInputs.j1 kj12 a1 a2 t404 (t415 != t404) a0_0 l0_1 t400 t401 t411 t412) else (laws_FnExactSwapInputs.j1 kj12 a1 a2 t404 true a0_0 l0_1 t400 t401 t411 t412))))) else (some false)))) = some true := by rw [if_neg (show ¬ (false = true) by decide)] at H; exact H
          clear H
          have H := H1
          clear H1
          replace H := Option.bind_eq_some_iff.mp H
          obtain ⟨⟨t418, t419⟩, A580, H⟩ := H
          replace H : ((laws_eqTable.f kj12 t406 t407 t418 t419).bind fun t422 => (if t422 = true then ((laws_markTable.f kj12 t406 t407 1).bind fun bt423 => (if bt423.1 < 0 then (laws_FnExactSwapInputs.j1 kj12 a1 a2 t404 true a0_0 l0_1 t400 t401 t411 t412) else ((laws_eqTable.f kj12 t411 t412 t400 t401).bind fun t425 => (if t425 = true then (laws_FnExactSwapInputs.j1 kj12 a1 a2 t404 (t415 != t404) a0_0 l0_1 t400 t401 t411 t412) else (laws_FnExactSwapInputs.j1 kj12 a1 a2 t404 true a0_0 l0_1 t400 t401 t411 t412))))) else (some false))) = some true := H
          have A58 := Aside0.mk A580
          clear A580
          replace H := Option.bind_eq_some_iff.mp H
          obtain ⟨t422, A590, H⟩ := H
          replace H : (if t422 = true then ((laws_markTable.f kj12 t406 t407 1).bind fun bt423 => (if bt423.1 < 0 then (laws_FnExactSwapInputs.j1 kj12 a1 a2 t404 true a0_0 l0_1 t400 t401 t411 t412) else ((laws_eqTable.f kj12 t411 t412 t400 t401).bind fun t425 => (if t425 = true then (laws_FnExactSwapInputs.j1 kj12 a1 a2 t404 (t415 != t404) a0_0 l0_1 t400 t401 t411 t412) else (laws_FnExactSwapInputs.j1 kj12 a1 a2 t404 true a0_0 l0_1 t400 t401 t411 t412))))) else (some false)) = some true := H
          have A59 := Aside0.mk A590
          clear A590
          by_cases c60 : t422 = true
          · subst c60
            have H1 : ((laws_markTable.f kj12 t406 t407 1).bind fun bt423 => (if bt423.1 < 0 then (laws_FnExactSwapInputs.j1 kj12 a1 a2 t404 true a0_0 l0_1 t400 t401 t411 t412) else ((laws_eqTable.f kj12 t411 t412 t400 t401).bind fun t425 => (if t425 = true then (laws_FnExactSwapInputs.j1 kj12 a1 a2 t404 (t415 != t404) a0_0 l0_1 t400 t401 t411 t412) else (laws_FnExactSwapInputs.j1 kj12 a1 a2 t404 true a0_0 l0_1 t400 t401 t411 t412))))) = some true := by rw [if_pos rfl] at H; exact H
            clear H
            have H := H1
            clear H1
            replace H := Option.bind_eq_some_iff.mp H
            obtain ⟨⟨t423, t424⟩, A610, H⟩ := H
            replace H : (if t423 < 0 then (laws_FnExactSwapInputs.j1 kj12 a1 a2 t404 true a0_0 l0_1 t400 t401 t411 t412) else ((laws_eqTable.f kj12 t411 t412 t400 t401).bind fun t425 => (if t425 = true then (laws_FnExactSwapInputs.j1 kj12 a1 a2 t404 (t415 != t404) a0_0 l0_1 t400 t401 t411 t412) else (laws_FnExactSwapInputs.j1 kj12 a1 a2 t404 true a0_0 l0_1 t400 t401 t411 t412)))) = some true := H
            have A61 := Aside0.mk A610
            clear A610
            have HC62 := Aside0.mk H
            clear H
            try go_wp2
            have n0_ := Aside0.mk (Kd.R_drew HO_406001.out)
            have n1_ := Aside0.mk (Kd.R_drew HO_411001.out)
            have n2_ := Aside0.mk (Kd.R_drew HO_417001.out)
            have n3_ := Aside0.mk (blk_drew BK394.out)
            have n4_ := Aside0.mk (blk_drew BK405.out)
            have n5_ := Aside0.mk (blk_drew BK410.out)
            have n6_ := Aside0.mk (blk_drew BK416.out)
            have n7_ := Aside0.mk (below_drew1 HB.out)
            clear HO_406001
            clear HO_411001
            clear HO_417001
            clear BK394
            clear BK405
            clear BK410
            clear BK416
            clear HB
            have HO_406001 := n0_
            have HO_411001 := n1_
            have HO_417001 := n2_
            have BK394 := n3_
            have BK405 := n4_
            have BK410 := n5_
            have BK416 := n6_
            have HB := n7_
            clear n0_ n1_ n2_ n3_ n4_ n5_ n6_ n7_
            refine start_ (n := 5) (S := fun w' => w'.cell? ⟨gb410, 0, none⟩ = some (.int .i64 t406) ∧ w'.cell? ⟨gb410, 1, none⟩ = some (.slice Ao31 t407.length co31) ∧ w'.cell? ⟨gb394, 0, none⟩ = some (.int .i64 a0_0) ∧ w'.cell? ⟨gb394, 1, none⟩ = some (.slice A0_1 l0_1.length c0_1)) (ds := []) #[false, false, false, false, false] (by kernel_rfl) rfl rfl ⟨(blk_cell BK410.out 0).trans rfl, (blk_cell BK410.out 1).trans rfl, (blk_cell BK394.out 0).trans rfl, (blk_cell BK394.out 1).trans rfl⟩ (fun hHeld => ?_)
            generalize wc.drew = w63 at HO_406001 HO_411001 HO_417001 BK394 BK405 BK410 BK416 HB hHeld ⊢
            refine take_ (i := 0) (N := some 49) (v := ?_) (a' := ?_) #[true, false, false, false, false] rfl rfl (by kernel_rfl) (fun _ _ _ h => h) (Or.inl ⟨by rfl, ?_⟩) hHeld ?_ ?_
            rotate_left
            · rintro w' ⟨s0, s1, s2, s3⟩
              go_simp
              with_reducible rfl
            rotate_left
            · simp only [Act.put, List.setIfInBounds_toArray, List.set_cons_zero, List.set_cons_succ, i64_w, i32_w]
              rfl
            refine take_ (i := 1) (N := some 50) (v := ?_) (a' := ?_) #[true, true, false, false, false] rfl rfl (by kernel_rfl) (fun _ _ _ h => h) (Or.inl ⟨by rfl, ?_⟩) hHeld ?_ ?_
            rotate_left
            · rintro w' ⟨s0, s1, s2, s3⟩
              go_simp
              with_reducible rfl
            rotate_left
            · simp only [Act.put, List.setIfInBounds_toArray, List.set_cons_zero, List.set_cons_succ, i64_w, i32_w]
              rfl
            refine one_ (i := 2) (N := some 51) #[true, true, true, false, false] rfl rfl (by kernel_rfl) (by decide) (fun K hK => ?_)
            refine goes_ Try.func30 (by kernel_rfl) rfl #[.agg #[.int .i64 a0_0, .slice A0_1 l0_1.length c0_1]] (by rfl) rfl rfl (by (try simp only [List.map_toArray, List.map_cons, List.map_nil]); first | done | rfl | (simp only [List.length_drop, List.length_take]; rfl)) ?_
            with_reducible refine (laws_toTable.calls kj12 a0_0 _ _ l0_1 t418 t419 _ ?side1 ?side2 A58.out).mono ?_
            (case side1 => repeat (first | exact (Kd.C_below HR0_1.out HB.out) | (with_reducible refine Kd.C_alloc ?_ _) | (with_reducible refine Kd.C_drewN ?_ _) | (with_reducible refine Kd.C_drew ?_)))
            (case side2 => exact HC0_1.out)
            rintro e w64 ⟨v420, rfl, ho0, hb⟩
            refine ⟨_, rfl, ?_⟩
            have n0_ := Aside0.mk (Kd.R_elder' (by (with_reducible repeat (first | apply Kd.R_alloc | apply Kd.R_drewN | apply Kd.R_drew)); exact HO_406001.out) (Kd.R_base ho0) hb)
            have n1_ := Aside0.mk (Kd.R_elder' (by (with_reducible repeat (first | apply Kd.R_alloc | apply Kd.R_drewN | apply Kd.R_drew)); exact HO_411001.out) (Kd.R_base ho0) hb)
            have n2_ := Aside0.mk (Kd.R_elder' (by (with_reducible repeat (first | apply Kd.R_alloc | apply Kd.R_drewN | apply Kd.R_drew)); exact HO_417001.out) (Kd.R_base ho0) hb)
            have n3_ := Aside0.mk (Kd.R_lower (Kd.R_new' (Kd.R_new' (Kd.R_new' ho0 (Kd.R_lt (by (with_reducible repeat (first | apply Kd.R_alloc | apply Kd.R_drewN | apply Kd.R_drew)); exact HO_406001.out))) (Kd.R_lt (by (with_reducible repeat (first | apply Kd.R_alloc | apply Kd.R_drewN | apply Kd.R_drew)); exact HO_411001.out))) (Kd.R_lt (by (with_reducible repeat (first | apply Kd.R_alloc | apply Kd.R_drewN | apply Kd.R_drew)); exact HO_417001.out))) (below_size (by repeat (first | (with_reducible first | exact HB.out | apply below_alloc | apply pw_below_drewN | apply below_drew1 | refine below_set ?_ GE394.out | refine below_set ?_ GE405.out | refine below_set ?_ GE410.out | refine below_set ?_ GE416.out) | exact HB.out))))
            have n4_ := Aside0.mk (blk_below (g := gb394) (o := .cells #[.int .i64 a0_0, .slice A0_1 l0_1.length c0_1] 41 (0, 0)) (by (with_reducible repeat (first | refine blk_drewN ?_ _ | refine blk_drew ?_ | refine blk_alloc ?_ _)); exact BK394.out) hb)
            have n5_ := Aside0.mk (blk_below (g := gb405) (o := .cells #[.int .i64 t400, .slice Ao24 t401.length co24] 24 (0, 0)) (by (with_reducible repeat (first | refine blk_drewN ?_ _ | refine blk_drew ?_ | refine blk_alloc ?_ _)); exact BK405.out) hb)
            have n6_ := Aside0.mk (blk_below (g := gb410) (o := .cells #[.int .i64 t406, .slice Ao31 t407.length co31] 24 (0, 0)) (by (with_reducible repeat (first | refine blk_drewN ?_ _ | refine blk_drew ?_ | refine blk_alloc ?_ _)); exact BK410.out) hb)
            have n7_ := Aside0.mk (blk_below (g := gb416) (o := .cells #[.int .i64 t411, .slice Ao38 t412.length co38] 24 (0, 0)) (by (with_reducible repeat (first | refine blk_drewN ?_ _ | refine blk_drew ?_ | refine blk_alloc ?_ _)); exact BK416.out) hb)
            have n8_ := Aside0.mk (below_step (by repeat (first | (with_reducible first | exact HB.out | apply below_alloc | apply pw_below_drewN | apply below_drew1 | refine below_set ?_ GE394.out | refine below_set ?_ GE405.out | refine below_set ?_ GE410.out | refine below_set ?_ GE416.out) | exact HB.out)) hb)
            clear HO_406001
            clear HO_411001
            clear HO_417001
            clear BK394
            clear BK405
            clear BK410
            clear BK416
            clear HB
            have HO_406001 := n0_
            have HO_411001 := n1_
            have HO_417001 := n2_
            have HO421 := n3_
            have BK394 := n4_
            have BK405 := n5_
            have BK410 := n6_
            have BK416 := n7_
            have HB := n8_
            clear n0_ n1_ n2_ n3_ n4_ n5_ n6_ n7_ n8_
            (try clear hb)
            (try clear hb2)
            (try clear hk)
            (try clear hi)
            (try clear ho0)
            obtain ⟨Ao65, co65, eo65⟩ := Kd.R_slice HO421.out
            (first | subst eo65 | (injection eo65 with f1_ f2_ f3_; have f4_ := f1_.symm; have f5_ := f3_.symm; clear f1_ f2_ f3_; subst f4_; subst f5_))
            refine hK.out _ _ ⟨(blk_cell BK410.out 0).trans rfl, (blk_cell BK410.out 1).trans rfl, (blk_cell BK394.out 0).trans rfl, (blk_cell BK394.out 1).trans rfl⟩ (fun hHeld => ?_)
            clear hK K
            refine norm_ (a' := ?_) ?_ ?_
            rotate_left
            · show Act.put _ (some 51) _ = _
              simp only [Act.put, List.setIfInBounds_toArray, List.set_cons_zero, List.set_cons_succ, i64_w, i32_w]
              rfl
            refine one_ (i := 3) (N := some 52) #[true, true, true, true, false] rfl rfl (by kernel_rfl) (by decide) (fun K hK => ?_)
            refine goes_ Try.func16 (by kernel_rfl) rfl #[.agg #[.int .i64 t406, .slice Ao31 t407.length co31], .agg #[.int .i64 t418, .slice Ao65 t419.length co65]] (by rfl) rfl rfl (by (try simp only [List.map_toArray, List.map_cons, List.map_nil]); first | done | rfl | (simp only [List.length_drop, List.length_take]; rfl)) ?_
            with_reducible refine (laws_eqTable.calls kj12 t406 _ _ t407 t418 _ _ t419 true _ ?side1 ?side2 ?side3 ?side4 A59.out).mono ?_
            (case side1 => repeat (first | exact (Kd.R_reads' HO_411001.out).2.2 | (with_reducible refine Kd.C_alloc ?_ _) | (with_reducible refine Kd.C_drewN ?_ _) | (with_reducible refine Kd.C_drew ?_)))
            (case side2 => exact (Kd.R_reads' HO_411001.out).2.1)
            (case side3 => repeat (first | exact (Kd.R_reads' HO421.out).2.2 | (with_reducible refine Kd.C_alloc ?_ _) | (with_reducible refine Kd.C_drewN ?_ _) | (with_reducible refine Kd.C_drew ?_)))
            (case side4 => exact (Kd.R_reads' HO421.out).2.1)
            rintro e w66 ⟨rfl, hb⟩
            refine ⟨_, rfl, ?_⟩
            have n0_ := Aside0.mk (Kd.R_below (by (with_reducible repeat (first | apply Kd.R_alloc | apply Kd.R_drewN | apply Kd.R_drew)); exact HO_406001.out) hb)
            have n1_ := Aside0.mk (Kd.R_below (by (with_reducible repeat (first | apply Kd.R_alloc | apply Kd.R_drewN | apply Kd.R_drew)); exact HO_411001.out) hb)
            have n2_ := Aside0.mk (Kd.R_below (by (with_reducible repeat (first | apply Kd.R_alloc | apply Kd.R_drewN | apply Kd.R_drew)); exact HO_417001.out) hb)
            have n3_ := Aside0.mk (Kd.R_below (by (with_reducible repeat (first | apply Kd.R_alloc | apply Kd.R_drewN | apply Kd.R_drew)); exact HO421.out) hb)
            have n4_ := Aside0.mk (blk_below (g := gb394) (o := .cells #[.int .i64 a0_0, .slice A0_1 l0_1.length c0_1] 41 (0, 0)) (by (with_reducible repeat (first | refine blk_drewN ?_ _ | refine blk_drew ?_ | refine blk_alloc ?_ _)); exact BK394.out) hb)
            have n5_ := Aside0.mk (blk_below (g := gb405) (o := .cells #[.int .i64 t400, .slice Ao24 t401.length co24] 24 (0, 0)) (by (with_reducible repeat (first | refine blk_drewN ?_ _ | refine blk_drew ?_ | refine blk_alloc ?_ _)); exact BK405.out) hb)
            have n6_ := Aside0.mk (blk_below (g := gb410) (o := .cells #[.int .i64 t406, .slice Ao31 t407.length co31] 24 (0, 0)) (by (with_reducible repeat (first | refine blk_drewN ?_ _ | refine blk_drew ?_ | refine blk_alloc ?_ _)); exact BK410.out) hb)
            have n7_ := Aside0.mk (blk_below (g := gb416) (o := .cells #[.int .i64 t411, .slice Ao38 t412.length co38] 24 (0, 0)) (by (with_reducible repeat (first | refine blk_drewN ?_ _ | refine blk_drew ?_ | refine blk_alloc ?_ _)); exact BK416.out) hb)
            have n8_ := Aside0.mk (below_step (by repeat (first | (with_reducible first | exact HB.out | apply below_alloc | apply pw_below_drewN | apply below_drew1 | refine below_set ?_ GE394.out | refine below_set ?_ GE405.out | refine below_set ?_ GE410.out | refine below_set ?_ GE416.out) | exact HB.out)) hb)
            clear HO_406001
            clear HO_411001
            clear HO_417001
            clear HO421
            clear BK394
            clear BK405
            clear BK410
            clear BK416
            clear HB
            have HO_406001 := n0_
            have HO_411001 := n1_
            have HO_417001 := n2_
            have HO421 := n3_
            have BK394 := n4_
            have BK405 := n5_
            have BK410 := n6_
            have BK416 := n7_
            have HB := n8_
            clear n0_ n1_ n2_ n3_ n4_ n5_ n6_ n7_ n8_
            (try clear hb)
            (try clear hb2)
            (try clear hk)
            (try clear hi)
            refine hK.out _ _ ⟨(blk_cell BK410.out 0).trans rfl, (blk_cell BK410.out 1).trans rfl, (blk_cell BK394.out 0).trans rfl, (blk_cell BK394.out 1).trans rfl⟩ (fun hHeld => ?_)
            clear hK K
            refine norm_ (a' := ?_) ?_ ?_
            rotate_left
            · show Act.put _ (some 52) _ = _
              simp only [Act.put, List.setIfInBounds_toArray, List.set_cons_zero, List.set_cons_succ, i64_w, i32_w]
              rfl
            refine pure_ (i := 4) (N := some 53) (v := ?_) (a' := ?_) #[true, true, true, true, true] rfl rfl (by kernel_rfl) (fun _ _ _ h => h) (Or.inl ⟨by rfl, ?_⟩) ?_ ?_
            rotate_left
            · intro w'
              go_simp
              with_reducible rfl
            rotate_left
            · simp only [Act.put, List.setIfInBounds_toArray, List.set_cons_zero, List.set_cons_succ, i64_w, i32_w]
              rfl
            refine done_ (by kernel_rfl) ?_
            have hnb67 := NB410_394.out
            have hnc67 := NB394_410.out
            have hnb68 := NB410_405.out
            have hnc68 := NB405_410.out
            have hnb69 := NB410_416.out
            have hnc69 := NB416_410.out
            have hcz70_0 : w66.cell? ⟨gb410, 0, none⟩ = some (.int .i64 t406) := (blk_cell BK410.out 0).trans rfl
            have hcz70_1 : w66.cell? ⟨gb410, 1, none⟩ = some (.slice Ao31 t407.length co31) := (blk_cell BK410.out 1).trans rfl
            have hfz70_0 := blk_frozen BK410.out 0
            have hfz70_1 := blk_frozen BK410.out 1
            go_upto_region 14 with (first | ((with_reducible refine gate_callee (f := 17) rfl ?_); refine goesL_ (some 56) rfl rfl Try.func17 (by kernel_rfl) rfl #[.agg #[.int .i64 t406, .slice Ao31 t407.length co31], .int .i64 1] rfl (by (try simp only [List.map_toArray, List.map_cons, List.map_nil]); first | done | rfl | (simp only [List.length_drop, List.length_take]; rfl)) ?_; (with_reducible refine (laws_markTable.calls kj12 t406 (fun k_ => some k_ = (.slice Ao31 t407.length co31 : Value).ownBlock) (.slice Ao31 t407.length co31) t407 1 t423 t424 w _ ?side1 ?side2 A61.out).mono ?_); (case side1 => repeat (first | (with_reducible first | exact HB.out | apply below_alloc | apply pw_below_drewN | apply below_drew1 | refine below_set ?_ GE394.out | refine below_set ?_ GE405.out | refine below_set ?_ GE410.out | refine below_set ?_ GE416.out) | exact HB.out)); (case side2 => exact Kd.R_tight rfl HO_411001.out); rintro e w71 ⟨rfl, hy0, hb, hkp⟩; refine ⟨_, rfl, ?_⟩; have n0_ := Aside0.mk (Kd.R_mono (ok' := fun k_ => some k_ ≠ (.slice Ao31 t407.length co31 : Value).ownBlock ∧ some k_ ≠ (.slice Ao38 t412.length co38 : Value).ownBlock ∧ some k_ ≠ (.slice Ao65 t419.length co65 : Value).ownBlock) (Kd.R_keptB (HO_406001.out) hkp (fun k_ hk_ hs_ => (hk_.1.1) hs_)) (fun k_ hk_ => ⟨hk_.1.1.1, hk_.1.1.2, hk_.1.2⟩)); have n1_ := Aside0.mk (Kd.R_reok rfl hy0 (fun k_ e_ => HO_411001.out.1 k_ e_)); have n2_ := Aside0.mk (Kd.R_mono (ok' := fun k_ => some k_ ≠ (.slice Ao24 t401.length co24 : Value).ownBlock ∧ some k_ ≠ (.slice Ao31 t407.length co31 : Value).ownBlock ∧ some k_ ≠ (.slice Ao65 t419.length co65 : Value).ownBlock) (Kd.R_keptB (HO_417001.out) hkp (fun k_ hk_ hs_ => (hk_.1.2) hs_)) (fun k_ hk_ => ⟨hk_.1.1.1, hk_.1.1.2, hk_.1.2⟩)); have n3_ := Aside0.mk (blk_kept (by (with_reducible repeat (first | refine blk_drewN ?_ _ | refine blk_drew ?_ | refine blk_alloc ?_ _)); exact BK394.out) hkp (fun hs_ => (fun e_ => (Kd.R_ne HO_411001.out BK394.out (by decide)) e_) hs_)); have n4_ := Aside0.mk (blk_kept (by (with_reducible repeat (first | refine blk_drewN ?_ _ | refine blk_drew ?_ | refine blk_alloc ?_ _)); exact BK405.out) hkp (fun hs_ => (fun e_ => (Kd.R_ne HO_411001.out BK405.out (by decide)) e_) hs_)); have n5_ := Aside0.mk (blk_kept (by (with_reducible repeat (first | refine blk_drewN ?_ _ | refine blk_drew ?_ | refine blk_alloc ?_ _)); exact BK410.out) hkp (fun hs_ => (fun e_ => (Kd.R_ne HO_411001.out BK410.out (by decide)) e_) hs_)); have n6_ := Aside0.mk (blk_kept (by (with_reducible repeat (first | refine blk_drewN ?_ _ | refine blk_drew ?_ | refine blk_alloc ?_ _)); exact BK416.out) hkp (fun hs_ => (fun e_ => (Kd.R_ne HO_411001.out BK416.out (by decide)) e_) hs_)); have n7_ := Aside0.mk (Kd.R_mono (ok' := fun k_ => some k_ ≠ (.slice Ao24 t401.length co24 : Value).ownBlock ∧ some k_ ≠ (.slice Ao31 t407.length co31 : Value).ownBlock ∧ some k_ ≠ (.slice Ao38 t412.length co38 : Value).ownBlock) (Kd.R_keptB (HO421.out) hkp (fun k_ hk_ hs_ => (hk_.1.2) hs_)) (fun k_ hk_ => ⟨hk_.1.1.1.2, hk_.1.1.2, hk_.1.2⟩)); have n8_ := Aside0.mk (hb); clear HO_406001; clear HO_411001; clear HO_417001; clear BK394; clear BK405; clear BK410; clear BK416; clear HO421; clear HB; have HO_406001 := n0_; have HO_411001 := n1_; have HO_417001 := n2_; have BK394 := n3_; have BK405 := n4_; have BK410 := n5_; have BK416 := n6_; have HO421 := n7_; have HB := n8_; clear n0_ n1_ n2_ n3_ n4_ n5_ n6_ n7_ n8_; (try clear hb); (try clear hkp); (try clear hy0)))
            (try simp only [Act.put, List.setIfInBounds_toArray, List.set_cons_zero, List.set_cons_succ])
            go_cut [69] (fun v69 wc => ∃ (kq : Nat) (x69_61 : Bool), v69 = .bool x69_61 ∧ Aside0 (laws_FnExactSwapInputs.j1 kq a1 a2 t404 x69_61 a0_0 l0_1 t400 t401 t411 t412 = some true) ∧ Aside0 (kq ≤ kj12) ∧ Aside0 (Kd.R (Kd.int .i64) 3 wc w.heap.size (fun k_ => some k_ ≠ ((.slice Ao31 t407.length co31) : Value).ownBlock ∧ some k_ ≠ ((.slice Ao38 t412.length co38) : Value).ownBlock) (.slice Ao24 t401.length co24) t401) ∧ Aside0 (Kd.R (Kd.int .i64) 3 wc w.heap.size (fun k_ => some k_ ≠ ((.slice Ao24 t401.length co24) : Value).ownBlock ∧ some k_ ≠ ((.slice Ao38 t412.length co38) : Value).ownBlock) (.slice Ao31 t407.length co31) t424) ∧ Aside0 (Kd.R (Kd.int .i64) 3 wc w.heap.size (fun k_ => some k_ ≠ ((.slice Ao24 t401.length co24) : Value).ownBlock ∧ some k_ ≠ ((.slice Ao31 t407.length co31) : Value).ownBlock) (.slice Ao38 t412.length co38) t412) ∧ Aside0 (wc.heap[gb394]? = some (.cells #[.int .i64 a0_0, (.slice A0_1 l0_1.length c0_1)] 41 (0, 0))) ∧ Aside0 (wc.heap[gb405]? = some (.cells #[.int .i64 t400, (.slice Ao24 t401.length co24)] 24 (0, 0))) ∧ Aside0 (wc.heap[gb410]? = some (.cells #[.int .i64 t406, (.slice Ao31 t407.length co31)] 24 (0, 0))) ∧ Aside0 (wc.heap[gb416]? = some (.cells #[.int .i64 t411, (.slice Ao38 t412.length co38)] 24 (0, 0))) ∧ Aside0 (Below w.heap.size w wc))
            case first =>
              have H := HC62.out
              clear HC62
              by_cases c72 : t423 < 0
              · rw [if_pos c72] at H
                exact absurd H (by cases kj12 <;> simp [laws_FnExactSwapInputs.j1])
              · rw [if_neg c72] at H
                have c72b0 : decide (t423 < 0) = false := decide_eq_false c72
                clear c72
                (first | rw [c72b0] | (simp only [i64_w, i32_w]; rw [c72b0]) | skip)
                replace H := Option.bind_eq_some_iff.mp H
                obtain ⟨t425, A730, H⟩ := H
                replace H : (if t425 = true then (laws_FnExactSwapInputs.j1 kj12 a1 a2 t404 (t415 != t404) a0_0 l0_1 t400 t401 t411 t412) else (laws_FnExactSwapInputs.j1 kj12 a1 a2 t404 true a0_0 l0_1 t400 t401 t411 t412)) = some true := H
                have A73 := Aside0.mk A730
                clear A730
                by_cases c74 : t425 = true
                · subst c74
                  have H1 : (laws_FnExactSwapInputs.j1 kj12 a1 a2 t404 (t415 != t404) a0_0 l0_1 t400 t401 t411 t412) = some true := by rw [if_pos rfl] at H; exact H
                  clear H
                  have H := H1
                  clear H1
                  have H' := Aside0.mk H
                  clear H
                  have hnb75 := NB416_394.out
                  have hnc75 := NB394_416.out
                  have hnb76 := NB416_405.out
                  have hnc76 := NB405_416.out
                  have hnb77 := NB416_410.out
                  have hnc77 := NB410_416.out
                  have hcz78_0 : w71.cell? ⟨gb416, 0, none⟩ = some (.int .i64 t411) := (blk_cell BK416.out 0).trans rfl
                  have hcz78_1 : w71.cell? ⟨gb416, 1, none⟩ = some (.slice Ao38 t412.length co38) := (blk_cell BK416.out 1).trans rfl
                  have hfz78_0 := blk_frozen BK416.out 0
                  have hfz78_1 := blk_frozen BK416.out 1
                  have hnb79 := NB405_394.out
                  have hnc79 := NB394_405.out
                  have hnb80 := NB405_410.out
                  have hnc80 := NB410_405.out
                  have hcz81_0 : w71.cell? ⟨gb405, 0, none⟩ = some (.int .i64 t400) := (blk_cell BK405.out 0).trans rfl
                  have hcz81_1 : w71.cell? ⟨gb405, 1, none⟩ = some (.slice Ao24 t401.length co24) := (blk_cell BK405.out 1).trans rfl
                  have hfz81_0 := blk_frozen BK405.out 0
                  have hfz81_1 := blk_frozen BK405.out 1
                  go_wp2_with (first | (go_at_call 16; (with_reducible refine (laws_eqTable.calls kj12 t411 _ _ t412 t400 _ _ t401 true _ ?side1 ?side2 ?side3 ?side4 A73.out).mono ?_); (case side1 => repeat (first | exact (Kd.R_reads' HO_417001.out).2.2 | (with_reducible refine Kd.C_alloc ?_ _) | (with_reducible refine Kd.C_drewN ?_ _) | (with_reducible refine Kd.C_drew ?_))); (case side2 => exact (Kd.R_reads' HO_417001.out).2.1); (case side3 => repeat (first | exact (Kd.R_reads' HO_406001.out).2.2 | (with_reducible refine Kd.C_alloc ?_ _) | (with_reducible refine Kd.C_drewN ?_ _) | (with_reducible refine Kd.C_drew ?_))); (case side4 => exact (Kd.R_reads' HO_406001.out).2.1); rintro e w82 ⟨rfl, hb⟩; have n0_ := Aside0.mk (Kd.R_below (by (with_reducible repeat (first | apply Kd.R_alloc | apply Kd.R_drewN | apply Kd.R_drew)); exact HO_406001.out) hb); have n1_ := Aside0.mk (Kd.R_below (by (with_reducible repeat (first | apply Kd.R_alloc | apply Kd.R_drewN | apply Kd.R_drew)); exact HO_411001.out) hb); have n2_ := Aside0.mk (Kd.R_below (by (with_reducible repeat (first | apply Kd.R_alloc | apply Kd.R_drewN | apply Kd.R_drew)); exact HO_417001.out) hb); have n3_ := Aside0.mk (Kd.R_below (by (with_reducible repeat (first | apply Kd.R_alloc | apply Kd.R_drewN | apply Kd.R_drew)); exact HO421.out) hb); have n4_ := Aside0.mk (blk_below (g := gb394) (o := .cells #[.int .i64 a0_0, .slice A0_1 l0_1.length c0_1] 41 (0, 0)) (by (with_reducible repeat (first | refine blk_drewN ?_ _ | refine blk_drew ?_ | refine blk_alloc ?_ _)); exact BK394.out) hb); have n5_ := Aside0.mk (blk_below (g := gb405) (o := .cells #[.int .i64 t400, .slice Ao24 t401.length co24] 24 (0, 0)) (by (with_reducible repeat (first | refine blk_drewN ?_ _ | refine blk_drew ?_ | refine blk_alloc ?_ _)); exact BK405.out) hb); have n6_ := Aside0.mk (blk_below (g := gb410) (o := .cells #[.int .i64 t406, .slice Ao31 t407.length co31] 24 (0, 0)) (by (with_reducible repeat (first | refine blk_drewN ?_ _ | refine blk_drew ?_ | refine blk_alloc ?_ _)); exact BK410.out) hb); have n7_ := Aside0.mk (blk_below (g := gb416) (o := .cells #[.int .i64 t411, .slice Ao38 t412.length co38] 24 (0, 0)) (by (with_reducible repeat (first | refine blk_drewN ?_ _ | refine blk_drew ?_ | refine blk_alloc ?_ _)); exact BK416.out) hb); have n8_ := Aside0.mk (below_step (by repeat (first | (with_reducible first | exact HB.out | apply below_alloc | apply pw_below_drewN | apply below_drew1 | refine below_set ?_ GE394.out | refine below_set ?_ GE405.out | refine below_set ?_ GE410.out | refine below_set ?_ GE416.out) | exact HB.out)) hb); clear HO_406001; clear HO_411001; clear HO_417001; clear HO421; clear BK394; clear BK405; clear BK410; clear BK416; clear HB; have HO_406001 := n0_; have HO_411001 := n1_; have HO_417001 := n2_; have HO421 := n3_; have BK394 := n4_; have BK405 := n5_; have BK410 := n6_; have BK416 := n7_; have HB := n8_; clear n0_ n1_ n2_ n3_ n4_ n5_ n6_ n7_ n8_; (try clear hb); (try clear hb2); (try clear hk); (try clear hi)))
                  go_meet
                  case rel => exact ⟨_, ((t415 != t404)), (by first | rfl | (simp; done) | (simp [*]; done)), H', ⟨by have := HJ12.out; first | omega | exact Nat.le_refl _⟩, ⟨by (with_reducible repeat (first | apply Kd.R_alloc | apply Kd.R_drewN | apply Kd.R_drew)); exact Kd.R_mono HO_406001.out (fun _ hk => ⟨hk.1, hk.2.1⟩)⟩, ⟨by (with_reducible repeat (first | apply Kd.R_alloc | apply Kd.R_drewN | apply Kd.R_drew)); exact Kd.R_mono HO_411001.out (fun _ hk => ⟨hk.1.1, hk.1.2⟩)⟩, ⟨by (with_reducible repeat (first | apply Kd.R_alloc | apply Kd.R_drewN | apply Kd.R_drew)); exact Kd.R_mono HO_417001.out (fun _ hk => ⟨hk.1, hk.2.1⟩)⟩, ⟨by (with_reducible repeat (first | refine blk_drewN ?_ _ | refine blk_drew ?_ | refine blk_alloc ?_ _)); exact BK394.out⟩, ⟨by (with_reducible repeat (first | refine blk_drewN ?_ _ | refine blk_drew ?_ | refine blk_alloc ?_ _)); exact BK405.out⟩, ⟨by (with_reducible repeat (first | refine blk_drewN ?_ _ | refine blk_drew ?_ | refine blk_alloc ?_ _)); exact BK410.out⟩, ⟨by (with_reducible repeat (first | refine blk_drewN ?_ _ | refine blk_drew ?_ | refine blk_alloc ?_ _)); exact BK416.out⟩, ⟨by repeat (first | (with_reducible first | exact HB.out | apply below_alloc | apply pw_below_drewN | apply below_drew1 | refine below_set ?_ GE394.out | refine below_set ?_ GE405.out | refine below_set ?_ GE410.out | refine below_set ?_ GE416.out) | exact HB.out)⟩⟩
                · replace c74 := Bool.eq_false_iff.mpr c74
                  subst c74
                  have H1 : (laws_FnExactSwapInputs.j1 kj12 a1 a2 t404 true a0_0 l0_1 t400 t401 t411 t412) = some true := by rw [if_neg (show ¬ (false = true) by decide)] at H; exact H
                  exact absurd H1 (by cases kj12 <;> simp [laws_FnExactSwapInputs.j1])
            case rest =>
              clear HC62
              try clear c1
              try clear c2
              try clear p2
              try clear c3
              try clear c4
              try clear c5
              try clear c5b0
              try clear c6
              try clear c7
              try clear c8
              try clear c16
              try clear c17
              try clear c22
              try clear c28
              try clear c29
              try clear c30
              try clear c32
              try clear c33
              try clear c34
              try clear c35
              try clear c36
              try clear c40
              try clear c41
              try clear c42
              try clear c43
              try clear c45
              try clear c46
              try clear c49
              try clear c50
              try clear c51
              try clear c53
              try clear c54
              try clear c57
              try clear c60
              try clear c67
              try clear c68
              try clear c69
              try clear c72
              try clear c72b0
              try clear c74
              try clear c75
              try clear c76
              try clear c77
              try clear c79
              try clear c80
              try clear c83
              try clear c84
              try clear c85
              try clear c87
              try clear c88
              try clear hcz15_0
              try clear hcz15_1
              try clear hcz17_0
              try clear hcz17_1
              try clear hcz23_0
              try clear hcz23_1
              try clear hcz25_0
              try clear hcz25_1
              try clear hcz30_0
              try clear hcz30_1
              try clear hcz37_0
              try clear hcz37_1
              try clear hcz44_0
              try clear hcz44_1
              try clear hcz47_0
              try clear hcz47_1
              try clear hcz52_0
              try clear hcz52_1
              try clear hcz55_0
              try clear hcz55_1
              try clear hcz70_0
              try clear hcz70_1
              try clear hcz78_0
              try clear hcz78_1
              try clear hcz7_0
              try clear hcz7_1
              try clear hcz81_0
              try clear hcz81_1
              try clear hcz86_0
              try clear hcz86_1
              try clear hcz89_0
              try clear hcz89_1
              try clear hfz15_0
              try clear hfz15_1
              try clear hfz17_0
              try clear hfz17_1
              try clear hfz23_0
              try clear hfz23_1
              try clear hfz25_0
              try clear hfz25_1
              try clear hfz30_0
              try clear hfz30_1
              try clear hfz37_0
              try clear hfz37_1
              try clear hfz44_0
              try clear hfz44_1
              try clear hfz47_0
              try clear hfz47_1
              try clear hfz52_0
              try clear hfz52_1
              try clear hfz55_0
              try clear hfz55_1
              try clear hfz70_0
              try clear hfz70_1
              try clear hfz78_0
              try clear hfz78_1
              try clear hfz7_0
              try clear hfz7_1
              try clear hfz81_0
              try clear hfz81_1
              try clear hfz86_0
              try clear hfz86_1
              try clear hfz89_0
              try clear hfz89_1
              try clear p2
              obtain ⟨kq, x69_61, rfl, HA, HJ61, HO_406001, HO_411001, HO_417001, BK394, BK405, BK410, BK416, HB⟩ := hcut
              have hl411001_61 := (Kd.R_reads' HO_411001.out).1
              rw [hl411001_61] at HO_411001
              (try simp only [hl411001_61])
              (try simp only [hl411001_61] at BK394)
              (try simp only [hl411001_61] at BK405)
              (try simp only [hl411001_61] at BK410)
              (try simp only [hl411001_61] at BK416)
              (try simp only [hl411001_61] at HO_406001)
              (try simp only [hl411001_61] at HO_417001)
              cases kq with
              | zero => exact absurd HA.out (by simp [laws_FnExactSwapInputs.j1])
              | succ kj61 =>
                have H := HA.out
                clear HA
                simp only [laws_FnExactSwapInputs.j1] at H
                by_cases c91 : x69_61 = true
                · subst c91
                  have H1 : (some false) = some true := by rw [if_pos rfl] at H; exact H
                  exact absurd H1 (by simp)
                · replace c91 := Bool.eq_false_iff.mpr c91
                  subst c91
                  have H1 : ((laws_markTable.f kj61 t411 t412 1).bind fun bt426 => ((laws_heldTable.f kj61 t411 bt426.2 1).bind fun t428 => (if t428 < 0 then (some false) else (if t428 = bt426.1 then ((laws_toTable.f kj61 a0_0 l0_1).bind fun bt429 => ((impl_SwapInputs.f kj61 bt429.1 bt429.2 a1 a2).bind fun bt433 => ((laws_eqTable.f kj61 bt433.1 bt433.2.1 t400 t401).bind fun t439 => (if t439 = true then (laws_FnExactSwapInputs.j2 kj61 bt426.1 (bt433.2.2 != t404) t411 bt426.2) else (laws_FnExactSwapInputs.j2 kj61 bt426.1 true t411 bt426.2))))) else (some false))))) = some true := by rw [if_neg (show ¬ (false = true) by decide)] at H; exact H
                  clear H
                  have H := H1
                  clear H1
                  replace H := Option.bind_eq_some_iff.mp H
                  obtain ⟨⟨t426, t427⟩, A920, H⟩ := H
                  replace H : ((laws_heldTable.f kj61 t411 t427 1).bind fun t428 => (if t428 < 0 then (some false) else (if t428 = t426 then ((laws_toTable.f kj61 a0_0 l0_1).bind fun bt429 => ((impl_SwapInputs.f kj61 bt429.1 bt429.2 a1 a2).bind fun bt433 => ((laws_eqTable.f kj61 bt433.1 bt433.2.1 t400 t401).bind fun t439 => (if t439 = true then (laws_FnExactSwapInputs.j2 kj61 t426 (bt433.2.2 != t404) t411 t427) else (laws_FnExactSwapInputs.j2 kj61 t426 true t411 t427))))) else (some false)))) = some true := H
                  have A92 := Aside0.mk A920
                  clear A920
                  replace H := Option.bind_eq_some_iff.mp H
                  obtain ⟨t428, A930, H⟩ := H
                  replace H : (if t428 < 0 then (some false) else (if t428 = t426 then ((laws_toTable.f kj61 a0_0 l0_1).bind fun bt429 => ((impl_SwapInputs.f kj61 bt429.1 bt429.2 a1 a2).bind fun bt433 => ((laws_eqTable.f kj61 bt433.1 bt433.2.1 t400 t401).bind fun t439 => (if t439 = true then (laws_FnExactSwapInputs.j2 kj61 t426 (bt433.2.2 != t404) t411 t427) else (laws_FnExactSwapInputs.j2 kj61 t426 true t411 t427))))) else (some false))) = some true := H
                  have A93 := Aside0.mk A930
                  clear A930
                  by_cases c94 : t428 < 0
                  · rw [if_pos c94] at H
                    exact absurd H (by simp)
                  · rw [if_neg c94] at H
                    have c94b0 : decide (t428 < 0) = false := decide_eq_false c94
                    clear c94
                    by_cases c102 : t428 = t426
                    · rw [if_pos c102] at H
                      have c102b0 : (t428 == t426) = true := beq_iff_eq.mpr c102
                      have c102b1 : (t428 != t426) = false := bne_eq_false_iff_eq.mpr c102
                      clear c102
                      replace H := Option.bind_eq_some_iff.mp H
                      obtain ⟨⟨t429, t430⟩, A1030, H⟩ := H
                      replace H : ((impl_SwapInputs.f kj61 t429 t430 a1 a2).bind fun bt433 => ((laws_eqTable.f kj61 bt433.1 bt433.2.1 t400 t401).bind fun t439 => (if t439 = true then (laws_FnExactSwapInputs.j2 kj61 t426 (bt433.2.2 != t404) t411 t427) else (laws_FnExactSwapInputs.j2 kj61 t426 true t411 t427)))) = some true := H
                      have A103 := Aside0.mk A1030
                      clear A1030
                      replace H := Option.bind_eq_some_iff.mp H
                      obtain ⟨⟨t433, t434, t437⟩, A1040, H⟩ := H
                      replace H : ((laws_eqTable.f kj61 t433 t434 t400 t401).bind fun t439 => (if t439 = true then (laws_FnExactSwapInputs.j2 kj61 t426 (t437 != t404) t411 t427) else (laws_FnExactSwapInputs.j2 kj61 t426 true t411 t427))) = some true := H
                      have A104 := Aside0.mk A1040
                      clear A1040
                      have HC105 := Aside0.mk H
                      clear H
                      have hnb106 := NB416_394.out
                      have hnc106 := NB394_416.out
                      have hnb107 := NB416_405.out
                      have hnc107 := NB405_416.out
                      have hnb108 := NB416_410.out
                      have hnc108 := NB410_416.out
                      have hcz109_0 : wc.cell? ⟨gb416, 0, none⟩ = some (.int .i64 t411) := (blk_cell BK416.out 0).trans rfl
                      have hcz109_1 : wc.cell? ⟨gb416, 1, none⟩ = some (.slice Ao38 t412.length co38) := (blk_cell BK416.out 1).trans rfl
                      have hfz109_0 := blk_frozen BK416.out 0
                      have hfz109_1 := blk_frozen BK416.out 1
                      go_upto_region 25 with (first | ((with_reducible refine gate_callee (f := 17) rfl ?_); refine goesL_ (some 72) rfl rfl Try.func17 (by kernel_rfl) rfl #[.agg #[.int .i64 t411, .slice Ao38 t412.length co38], .int .i64 1] rfl (by (try simp only [List.map_toArray, List.map_cons, List.map_nil]); first | done | rfl | (simp only [List.length_drop, List.length_take]; rfl)) ?_; (with_reducible refine (laws_markTable.calls kj61 t411 (fun k_ => some k_ = (.slice Ao38 t412.length co38 : Value).ownBlock) (.slice Ao38 t412.length co38) t412 1 t426 t427 w _ ?side1 ?side2 A92.out).mono ?_); (case side1 => repeat (first | (with_reducible first | exact HB.out | apply below_alloc | apply pw_below_drewN | apply below_drew1 | refine below_set ?_ GE394.out | refine below_set ?_ GE405.out | refine below_set ?_ GE410.out | refine below_set ?_ GE416.out) | exact HB.out)); (case side2 => exact Kd.R_tight rfl HO_417001.out); rintro e w110 ⟨rfl, hy0, hb, hkp⟩; refine ⟨_, rfl, ?_⟩; have n0_ := Aside0.mk (Kd.R_mono (ok' := fun k_ => some k_ ≠ (.slice Ao31 t424.length co31 : Value).ownBlock ∧ some k_ ≠ (.slice Ao38 t412.length co38 : Value).ownBlock) (Kd.R_keptB (HO_406001.out) hkp (fun k_ hk_ hs_ => (hk_.2) hs_)) (fun k_ hk_ => ⟨hk_.1.1, hk_.1.2⟩)); have n1_ := Aside0.mk (Kd.R_mono (ok' := fun k_ => some k_ ≠ (.slice Ao24 t401.length co24 : Value).ownBlock ∧ some k_ ≠ (.slice Ao38 t412.length co38 : Value).ownBlock) (Kd.R_keptB (HO_411001.out) hkp (fun k_ hk_ hs_ => (hk_.2) hs_)) (fun k_ hk_ => ⟨hk_.1.1, hk_.1.2⟩)); have n2_ := Aside0.mk (Kd.R_reok rfl hy0 (fun k_ e_ => HO_417001.out.1 k_ e_)); have n3_ := Aside0.mk (blk_kept (by (with_reducible repeat (first | refine blk_drewN ?_ _ | refine blk_drew ?_ | refine blk_alloc ?_ _)); exact BK394.out) hkp (fun hs_ => (fun e_ => (Kd.R_ne HO_417001.out BK394.out (by decide)) e_) hs_)); have n4_ := Aside0.mk (blk_kept (by (with_reducible repeat (first | refine blk_drewN ?_ _ | refine blk_drew ?_ | refine blk_alloc ?_ _)); exact BK405.out) hkp (fun hs_ => (fun e_ => (Kd.R_ne HO_417001.out BK405.out (by decide)) e_) hs_)); have n5_ := Aside0.mk (blk_kept (by (with_reducible repeat (first | refine blk_drewN ?_ _ | refine blk_drew ?_ | refine blk_alloc ?_ _)); exact BK410.out) hkp (fun hs_ => (fun e_ => (Kd.R_ne HO_417001.out BK410.out (by decide)) e_) hs_)); have n6_ := Aside0.mk (blk_kept (by (with_reducible repeat (first | refine blk_drewN ?_ _ | refine blk_drew ?_ | refine blk_alloc ?_ _)); exact BK416.out) hkp (fun hs_ => (fun e_ => (Kd.R_ne HO_417001.out BK416.out (by decide)) e_) hs_)); have n7_ := Aside0.mk (hb); clear HO_406001; clear HO_411001; clear HO_417001; clear BK394; clear BK405; clear BK410; clear BK416; clear HB; have HO_406001 := n0_; have HO_411001 := n1_; have HO_417001 := n2_; have BK394 := n3_; have BK405 := n4_; have BK410 := n5_; have BK416 := n6_; have HB := n7_; clear n0_ n1_ n2_ n3_ n4_ n5_ n6_ n7_; (try clear hb); (try clear hkp); (try clear hy0); have hcz111_0 : w110.cell? ⟨gb416, 0, none⟩ = some (.int .i64 t411) := (blk_cell BK416.out 0).trans rfl; have hcz111_1 : w110.cell? ⟨gb416, 1, none⟩ = some (.slice Ao38 t412.length co38) := (blk_cell BK416.out 1).trans rfl; have hfz111_0 := blk_frozen BK416.out 0; have hfz111_1 := blk_frozen BK416.out 1) | ((with_reducible refine gate_callee (f := 18) rfl ?_); refine goesL_ (some 75) rfl rfl Try.func18 (by kernel_rfl) rfl #[.agg #[.int .i64 t411, .slice Ao38 t427.length co38], .int .i64 1] rfl (by (try simp only [List.map_toArray, List.map_cons, List.map_nil]); first | done | (rw [show t427.length = t412.length from (Kd.R_reads' HO_417001.out).1.symm] <;> rfl) | rfl | (simp only [List.length_drop, List.length_take]; rfl)) ?_; (with_reducible refine (laws_heldTable.calls kj61 t411 _ _ t427 1 t428 _ ?side1 ?side2 A93.out).mono ?_); (case side1 => repeat (first | exact (Kd.R_reads' HO_417001.out).2.2 | (with_reducible refine Kd.C_alloc ?_ _) | (with_reducible refine Kd.C_drewN ?_ _) | (with_reducible refine Kd.C_drew ?_))); (case side2 => rw [show t427.length = t412.length from (Kd.R_reads' HO_417001.out).1.symm]; exact (Kd.R_reads' HO_417001.out).2.1); rintro e w112 ⟨rfl, hb⟩; refine ⟨_, rfl, ?_⟩; have n0_ := Aside0.mk (Kd.R_below (by (with_reducible repeat (first | apply Kd.R_alloc | apply Kd.R_drewN | apply Kd.R_drew)); exact HO_406001.out) hb); have n1_ := Aside0.mk (Kd.R_below (by (with_reducible repeat (first | apply Kd.R_alloc | apply Kd.R_drewN | apply Kd.R_drew)); exact HO_411001.out) hb); have n2_ := Aside0.mk (Kd.R_below (by (with_reducible repeat (first | apply Kd.R_alloc | apply Kd.R_drewN | apply Kd.R_drew)); exact HO_417001.out) hb); have n3_ := Aside0.mk (blk_below (g := gb394) (o := .cells #[.int .i64 a0_0, .slice A0_1 l0_1.length c0_1] 41 (0, 0)) (by (with_reducible repeat (first | refine blk_drewN ?_ _ | refine blk_drew ?_ | refine blk_alloc ?_ _)); exact BK394.out) hb); have n4_ := Aside0.mk (blk_below (g := gb405) (o := .cells #[.int .i64 t400, .slice Ao24 t401.length co24] 24 (0, 0)) (by (with_reducible repeat (first | refine blk_drewN ?_ _ | refine blk_drew ?_ | refine blk_alloc ?_ _)); exact BK405.out) hb); have n5_ := Aside0.mk (blk_below (g := gb410) (o := .cells #[.int .i64 t406, .slice Ao31 t424.length co31] 24 (0, 0)) (by (with_reducible repeat (first | refine blk_drewN ?_ _ | refine blk_drew ?_ | refine blk_alloc ?_ _)); exact BK410.out) hb); have n6_ := Aside0.mk (blk_below (g := gb416) (o := .cells #[.int .i64 t411, .slice Ao38 t412.length co38] 24 (0, 0)) (by (with_reducible repeat (first | refine blk_drewN ?_ _ | refine blk_drew ?_ | refine blk_alloc ?_ _)); exact BK416.out) hb); have n7_ := Aside0.mk (below_step (by repeat (first | (with_reducible first | exact HB.out | apply below_alloc | apply pw_below_drewN | apply below_drew1 | refine below_set ?_ GE394.out | refine below_set ?_ GE405.out | refine below_set ?_ GE410.out | refine below_set ?_ GE416.out) | exact HB.out)) hb); clear HO_406001; clear HO_411001; clear HO_417001; clear BK394; clear BK405; clear BK410; clear BK416; clear HB; have HO_406001 := n0_; have HO_411001 := n1_; have HO_417001 := n2_; have BK394 := n3_; have BK405 := n4_; have BK410 := n5_; have BK416 := n6_; have HB := n7_; clear n0_ n1_ n2_ n3_ n4_ n5_ n6_ n7_; (try clear hb); (try clear hb2); (try clear hk); (try clear hi); have hnb113 := NB394_405.out; have hnc113 := NB405_394.out; have hnb114 := NB394_410.out; have hnc114 := NB410_394.out; have hcz115_0 : w112.cell? ⟨gb394, 0, none⟩ = some (.int .i64 a0_0) := (blk_cell BK394.out 0).trans rfl; have hcz115_1 : w112.cell? ⟨gb394, 1, none⟩ = some (.slice A0_1 l0_1.length c0_1) := (blk_cell BK394.out 1).trans rfl; have hfz115_0 := blk_frozen BK394.out 0; have hfz115_1 := blk_frozen BK394.out 1) | ((with_reducible refine gate_callee (f := 30) rfl ?_); refine goesL_ (some 83) rfl rfl Try.func30 (by kernel_rfl) rfl #[.agg #[.int .i64 a0_0, .slice A0_1 l0_1.length c0_1]] rfl (by (try simp only [List.map_toArray, List.map_cons, List.map_nil]); first | done | rfl | (simp only [List.length_drop, List.length_take]; rfl)) ?_; (with_reducible refine (laws_toTable.calls kj61 a0_0 _ _ l0_1 t429 t430 _ ?side1 ?side2 A103.out).mono ?_); (case side1 => repeat (first | exact (Kd.C_below HR0_1.out HB.out) | (with_reducible refine Kd.C_alloc ?_ _) | (with_reducible refine Kd.C_drewN ?_ _) | (with_reducible refine Kd.C_drew ?_))); (case side2 => exact HC0_1.out); rintro e w116 ⟨v431, rfl, ho0, hb⟩; refine ⟨_, rfl, ?_⟩; have n0_ := Aside0.mk (Kd.R_elder' (by (with_reducible repeat (first | apply Kd.R_alloc | apply Kd.R_drewN | apply Kd.R_drew)); exact HO_406001.out) (Kd.R_base ho0) hb); have n1_ := Aside0.mk (Kd.R_elder' (by (with_reducible repeat (first | apply Kd.R_alloc | apply Kd.R_drewN | apply Kd.R_drew)); exact HO_411001.out) (Kd.R_base ho0) hb); have n2_ := Aside0.mk (Kd.R_elder' (by (with_reducible repeat (first | apply Kd.R_alloc | apply Kd.R_drewN | apply Kd.R_drew)); exact HO_417001.out) (Kd.R_base ho0) hb); have n3_ := Aside0.mk (Kd.R_lower (Kd.R_new' (Kd.R_new' (Kd.R_new' ho0 (Kd.R_lt (by (with_reducible repeat (first | apply Kd.R_alloc | apply Kd.R_drewN | apply Kd.R_drew)); exact HO_406001.out))) (Kd.R_lt (by (with_reducible repeat (first | apply Kd.R_alloc | apply Kd.R_drewN | apply Kd.R_drew)); exact HO_411001.out))) (Kd.R_lt (by (with_reducible repeat (first | apply Kd.R_alloc | apply Kd.R_drewN | apply Kd.R_drew)); exact HO_417001.out))) (below_size (by repeat (first | (with_reducible first | exact HB.out | apply below_alloc | apply pw_below_drewN | apply below_drew1 | refine below_set ?_ GE394.out | refine below_set ?_ GE405.out | refine below_set ?_ GE410.out | refine below_set ?_ GE416.out) | exact HB.out)))); have n4_ := Aside0.mk (blk_below (g := gb394) (o := .cells #[.int .i64 a0_0, .slice A0_1 l0_1.length c0_1] 41 (0, 0)) (by (with_reducible repeat (first | refine blk_drewN ?_ _ | refine blk_drew ?_ | refine blk_alloc ?_ _)); exact BK394.out) hb); have n5_ := Aside0.mk (blk_below (g := gb405) (o := .cells #[.int .i64 t400, .slice Ao24 t401.length co24] 24 (0, 0)) (by (with_reducible repeat (first | refine blk_drewN ?_ _ | refine blk_drew ?_ | refine blk_alloc ?_ _)); exact BK405.out) hb); have n6_ := Aside0.mk (blk_below (g := gb410) (o := .cells #[.int .i64 t406, .slice Ao31 t424.length co31] 24 (0, 0)) (by (with_reducible repeat (first | refine blk_drewN ?_ _ | refine blk_drew ?_ | refine blk_alloc ?_ _)); exact BK410.out) hb); have n7_ := Aside0.mk (blk_below (g := gb416) (o := .cells #[.int .i64 t411, .slice Ao38 t412.length co38] 24 (0, 0)) (by (with_reducible repeat (first | refine blk_drewN ?_ _ | refine blk_drew ?_ | refine blk_alloc ?_ _)); exact BK416.out) hb); have n8_ := Aside0.mk (below_step (by repeat (first | (with_reducible first | exact HB.out | apply below_alloc | apply pw_below_drewN | apply below_drew1 | refine below_set ?_ GE394.out | refine below_set ?_ GE405.out | refine below_set ?_ GE410.out | refine below_set ?_ GE416.out) | exact HB.out)) hb); clear HO_406001; clear HO_411001; clear HO_417001; clear BK394; clear BK405; clear BK410; clear BK416; clear HB; have HO_406001 := n0_; have HO_411001 := n1_; have HO_417001 := n2_; have HO432 := n3_; have BK394 := n4_; have BK405 := n5_; have BK410 := n6_; have BK416 := n7_; have HB := n8_; clear n0_ n1_ n2_ n3_ n4_ n5_ n6_ n7_ n8_; (try clear hb); (try clear hb2); (try clear hk); (try clear hi); (try clear ho0); obtain ⟨Ao117, co117, eo117⟩ := Kd.R_slice HO432.out; subst eo117) | ((with_reducible refine gate_callee (f := 33) rfl ?_); refine goesL_ (some 86) rfl rfl Try.func33 (by kernel_rfl) rfl #[.agg #[.int .i64 t429, .slice Ao117 t430.length co117], .int .i64 a1, .int .i64 a2] rfl (by (try simp only [List.map_toArray, List.map_cons, List.map_nil]); first | done | rfl | (simp only [List.length_drop, List.length_take]; rfl)) ?_; (with_reducible refine (impl_SwapInputs.calls kj61 t429 _ _ t430 a1 a2 t433 t434 t437 _ ?side1 ?side2 A104.out).mono ?_); (case side1 => repeat (first | exact (Kd.R_reads' HO432.out).2.2 | (with_reducible refine Kd.C_alloc ?_ _) | (with_reducible refine Kd.C_drewN ?_ _) | (with_reducible refine Kd.C_drew ?_))); (case side2 => exact (Kd.R_reads' HO432.out).2.1); rintro e w118 ⟨v435, rfl, ho0, hb⟩; refine ⟨_, rfl, ?_⟩; have n0_ := Aside0.mk (Kd.R_elder' (by (with_reducible repeat (first | apply Kd.R_alloc | apply Kd.R_drewN | apply Kd.R_drew)); exact HO_406001.out) (Kd.R_base ho0) hb); have n1_ := Aside0.mk (Kd.R_elder' (by (with_reducible repeat (first | apply Kd.R_alloc | apply Kd.R_drewN | apply Kd.R_drew)); exact HO_411001.out) (Kd.R_base ho0) hb); have n2_ := Aside0.mk (Kd.R_elder' (by (with_reducible repeat (first | apply Kd.R_alloc | apply Kd.R_drewN | apply Kd.R_drew)); exact HO_417001.out) (Kd.R_base ho0) hb); have n3_ := Aside0.mk (Kd.R_elder' (by (with_reducible repeat (first | apply Kd.R_alloc | apply Kd.R_drewN | apply Kd.R_drew)); exact HO432.out) (Kd.R_base ho0) hb); have n4_ := Aside0.mk (Kd.R_lower (Kd.R_new' (Kd.R_new' (Kd.R_new' (Kd.R_new' ho0 (Kd.R_lt (by (with_reducible repeat (first | apply Kd.R_alloc | apply Kd.R_drewN | apply Kd.R_drew)); exact HO_406001.out))) (Kd.R_lt (by (with_reducible repeat (first | apply Kd.R_alloc | apply Kd.R_drewN | apply Kd.R_drew)); exact HO_411001.out))) (Kd.R_lt (by (with_reducible repeat (first | apply Kd.R_alloc | apply Kd.R_drewN | apply Kd.R_drew)); exact HO_417001.out))) (Kd.R_lt (by (with_reducible repeat (first | apply Kd.R_alloc | apply Kd.R_drewN | apply Kd.R_drew)); exact HO432.out))) (below_size (by repeat (first | (with_reducible first | exact HB.out | apply below_alloc | apply pw_below_drewN | apply below_drew1 | refine below_set ?_ GE394.out | refine below_set ?_ GE405.out | refine below_set ?_ GE410.out | refine below_set ?_ GE416.out) | exact HB.out)))); have n5_ := Aside0.mk (blk_below (g := gb394) (o := .cells #[.int .i64 a0_0, .slice A0_1 l0_1.length c0_1] 41 (0, 0)) (by (with_reducible repeat (first | refine blk_drewN ?_ _ | refine blk_drew ?_ | refine blk_alloc ?_ _)); exact BK394.out) hb); have n6_ := Aside0.mk (blk_below (g := gb405) (o := .cells #[.int .i64 t400, .slice Ao24 t401.length co24] 24 (0, 0)) (by (with_reducible repeat (first | refine blk_drewN ?_ _ | refine blk_drew ?_ | refine blk_alloc ?_ _)); exact BK405.out) hb); have n7_ := Aside0.mk (blk_below (g := gb410) (o := .cells #[.int .i64 t406, .slice Ao31 t424.length co31] 24 (0, 0)) (by (with_reducible repeat (first | refine blk_drewN ?_ _ | refine blk_drew ?_ | refine blk_alloc ?_ _)); exact BK410.out) hb); have n8_ := Aside0.mk (blk_below (g := gb416) (o := .cells #[.int .i64 t411, .slice Ao38 t412.length co38] 24 (0, 0)) (by (with_reducible repeat (first | refine blk_drewN ?_ _ | refine blk_drew ?_ | refine blk_alloc ?_ _)); exact BK416.out) hb); have n9_ := Aside0.mk (below_step (by repeat (first | (with_reducible first | exact HB.out | apply below_alloc | apply pw_below_drewN | apply below_drew1 | refine below_set ?_ GE394.out | refine below_set ?_ GE405.out | refine below_set ?_ GE410.out | refine below_set ?_ GE416.out) | exact HB.out)) hb); clear HO_406001; clear HO_411001; clear HO_417001; clear HO432; clear BK394; clear BK405; clear BK410; clear BK416; clear HB; have HO_406001 := n0_; have HO_411001 := n1_; have HO_417001 := n2_; have HO432 := n3_; have HO436 := n4_; have BK394 := n5_; have BK405 := n6_; have BK410 := n7_; have BK416 := n8_; have HB := n9_; clear n0_ n1_ n2_ n3_ n4_ n5_ n6_ n7_ n8_ n9_; (try clear hb); (try clear hb2); (try clear hk); (try clear hi); (try clear ho0)) | ((with_reducible refine gate_dst (N := 16) rfl ?_); refine box_event ?hg (N := 16) ?hd (cs := #[.int .i64 0, .slice none 0 0]) (t := 24) ?hr ?_; (case hd => rfl); (case hg => rfl); (case hr => first | (go_simp; done) | (go_simp; rfl)); intro gb438 hg w119 hbox hb; have n0_ := Aside0.mk (Kd.R_below (by (with_reducible repeat (first | apply Kd.R_alloc | apply Kd.R_drewN | apply Kd.R_drew)); exact HO_406001.out) hb); have n1_ := Aside0.mk (Kd.R_below (by (with_reducible repeat (first | apply Kd.R_alloc | apply Kd.R_drewN | apply Kd.R_drew)); exact HO_411001.out) hb); have n2_ := Aside0.mk (Kd.R_below (by (with_reducible repeat (first | apply Kd.R_alloc | apply Kd.R_drewN | apply Kd.R_drew)); exact HO_417001.out) hb); have n3_ := Aside0.mk (Kd.R_below (by (with_reducible repeat (first | apply Kd.R_alloc | apply Kd.R_drewN | apply Kd.R_drew)); exact HO432.out) hb); have n4_ := Aside0.mk (Kd.R_below (by (with_reducible repeat (first | apply Kd.R_alloc | apply Kd.R_drewN | apply Kd.R_drew)); exact HO436.out) hb); have n5_ := Aside0.mk (blk_below (g := gb394) (o := .cells #[.int .i64 a0_0, .slice A0_1 l0_1.length c0_1] 41 (0, 0)) (by (with_reducible repeat (first | refine blk_drewN ?_ _ | refine blk_drew ?_ | refine blk_alloc ?_ _)); exact BK394.out) hb); have n6_ := Aside0.mk (blk_below (g := gb405) (o := .cells #[.int .i64 t400, .slice Ao24 t401.length co24] 24 (0, 0)) (by (with_reducible repeat (first | refine blk_drewN ?_ _ | refine blk_drew ?_ | refine blk_alloc ?_ _)); exact BK405.out) hb); have n7_ := Aside0.mk (blk_below (g := gb410) (o := .cells #[.int .i64 t406, .slice Ao31 t424.length co31] 24 (0, 0)) (by (with_reducible repeat (first | refine blk_drewN ?_ _ | refine blk_drew ?_ | refine blk_alloc ?_ _)); exact BK410.out) hb); have n8_ := Aside0.mk (blk_below (g := gb416) (o := .cells #[.int .i64 t411, .slice Ao38 t412.length co38] 24 (0, 0)) (by (with_reducible repeat (first | refine blk_drewN ?_ _ | refine blk_drew ?_ | refine blk_alloc ?_ _)); exact BK416.out) hb); have n9_ := Aside0.mk (below_step (by repeat (first | (with_reducible first | exact HB.out | apply below_alloc | apply pw_below_drewN | apply below_drew1 | refine below_set ?_ GE394.out | refine below_set ?_ GE405.out | refine below_set ?_ GE410.out | refine below_set ?_ GE416.out) | exact HB.out)) hb); have n10_ := Aside0.mk (hbox); have n11_ := Aside0.mk ((by rw [hg]; exact (below_size (by repeat (first | (with_reducible first | exact HB.out | apply below_alloc | apply pw_below_drewN | apply below_drew1 | refine below_set ?_ GE394.out | refine below_set ?_ GE405.out | refine below_set ?_ GE410.out | refine below_set ?_ GE416.out) | exact HB.out))) : w.heap.size ≤ gb438)); have n12_ := Aside0.mk ((by rw [hg]; exact (below_size (by repeat (first | (with_reducible first | exact HB.out | apply below_alloc | apply pw_below_drewN | apply below_drew1 | refine below_set ?_ GE394.out | refine below_set ?_ GE405.out | refine below_set ?_ GE410.out | refine below_set ?_ GE416.out) | exact HB.out))) : w.heap.size ≤ gb438)); have n13_ := Aside0.mk ((by rw [hg]; exact Nat.ne_of_lt (blk_lt (g := gb394) (o := .cells #[.int .i64 a0_0, .slice A0_1 l0_1.length c0_1] 41 (0, 0)) (by (with_reducible repeat (first | refine blk_drewN ?_ _ | refine blk_drew ?_ | refine blk_alloc ?_ _)); exact BK394.out)) : gb394 ≠ gb438)); have n14_ := Aside0.mk ((by rw [hg]; exact Nat.ne_of_gt (blk_lt (g := gb394) (o := .cells #[.int .i64 a0_0, .slice A0_1 l0_1.length c0_1] 41 (0, 0)) (by (with_reducible repeat (first | refine blk_drewN ?_ _ | refine blk_drew ?_ | refine blk_alloc ?_ _)); exact BK394.out)) : gb438 ≠ gb394)); have n15_ := Aside0.mk ((by rw [hg]; exact Nat.ne_of_lt (blk_lt (g := gb405) (o := .cells #[.int .i64 t400, .slice Ao24 t401.length co24] 24 (0, 0)) (by (with_reducible repeat (first | refine blk_drewN ?_ _ | refine blk_drew ?_ | refine blk_alloc ?_ _)); exact BK405.out)) : gb405 ≠ gb438)); have n16_ := Aside0.mk ((by rw [hg]; exact Nat.ne_of_gt (blk_lt (g := gb405) (o := .cells #[.int .i64 t400, .slice Ao24 t401.length co24] 24 (0, 0)) (by (with_reducible repeat (first | refine blk_drewN ?_ _ | refine blk_drew ?_ | refine blk_alloc ?_ _)); exact BK405.out)) : gb438 ≠ gb405)); have n17_ := Aside0.mk ((by rw [hg]; exact Nat.ne_of_lt (blk_lt (g := gb410) (o := .cells #[.int .i64 t406, .slice Ao31 t424.length co31] 24 (0, 0)) (by (with_reducible repeat (first | refine blk_drewN ?_ _ | refine blk_drew ?_ | refine blk_alloc ?_ _)); exact BK410.out)) : gb410 ≠ gb438)); have n18_ := Aside0.mk ((by rw [hg]; exact Nat.ne_of_gt (blk_lt (g := gb410) (o := .cells #[.int .i64 t406, .slice Ao31 t424.length co31] 24 (0, 0)) (by (with_reducible repeat (first | refine blk_drewN ?_ _ | refine blk_drew ?_ | refine blk_alloc ?_ _)); exact BK410.out)) : gb438 ≠ gb410)); have n19_ := Aside0.mk ((by rw [hg]; exact Nat.ne_of_lt (blk_lt (g := gb416) (o := .cells #[.int .i64 t411, .slice Ao38 t412.length co38] 24 (0, 0)) (by (with_reducible repeat (first | refine blk_drewN ?_ _ | refine blk_drew ?_ | refine blk_alloc ?_ _)); exact BK416.out)) : gb416 ≠ gb438)); have n20_ := Aside0.mk ((by rw [hg]; exact Nat.ne_of_gt (blk_lt (g := gb416) (o := .cells #[.int .i64 t411, .slice Ao38 t412.length co38] 24 (0, 0)) (by (with_reducible repeat (first | refine blk_drewN ?_ _ | refine blk_drew ?_ | refine blk_alloc ?_ _)); exact BK416.out)) : gb438 ≠ gb416)); clear HO_406001; clear HO_411001; clear HO_417001; clear HO432; clear HO436; clear BK394; clear BK405; clear BK410; clear BK416; clear HB; have HO_406001 := n0_; have HO_411001 := n1_; have HO_417001 := n2_; have HO432 := n3_; have HO436 := n4_; have BK394 := n5_; have BK405 := n6_; have BK410 := n7_; have BK416 := n8_; have HB := n9_; have BK438 := n10_; have GW438 := n11_; have GE438 := n12_; have NB394_438 := n13_; have NB438_394 := n14_; have NB405_438 := n15_; have NB438_405 := n16_; have NB410_438 := n17_; have NB438_410 := n18_; have NB416_438 := n19_; have NB438_416 := n20_; clear n0_ n1_ n2_ n3_ n4_ n5_ n6_ n7_ n8_ n9_ n10_ n11_ n12_ n13_ n14_ n15_ n16_ n17_ n18_ n19_ n20_; clear hb hbox hg; have hnb120 := NB438_394.out; have hnc120 := NB394_438.out; have hnb121 := NB438_405.out; have hnc121 := NB405_438.out; have hnb122 := NB438_410.out; have hnc122 := NB410_438.out; have hnb123 := NB438_416.out; have hnc123 := NB416_438.out; have hcz124_0 : w119.cell? ⟨gb438, 0, none⟩ = some (.int .i64 0) := (blk_cell BK438.out 0).trans rfl; have hcz124_1 : w119.cell? ⟨gb438, 1, none⟩ = some (.slice none 0 0) := (blk_cell BK438.out 1).trans rfl; have hfz124_0 := blk_frozen BK438.out 0; have hfz124_1 := blk_frozen BK438.out 1; obtain ⟨Ao125, co125, eo125⟩ := Kd.R_slice HO436.out; subst eo125))
                      (try simp only [Act.put, List.setIfInBounds_toArray, List.set_cons_zero, List.set_cons_succ])
                      go_cut [97] (fun v97 wc => ∃ (kq : Nat) (x97_104 : Bool), v97 = .bool x97_104 ∧ Aside0 (laws_FnExactSwapInputs.j2 kq t426 x97_104 t411 t427 = some true) ∧ Aside0 (kq ≤ kj61) ∧ Aside0 (Kd.R (Kd.int .i64) 3 wc w.heap.size (fun k_ => some k_ ≠ ((.slice Ao31 t424.length co31) : Value).ownBlock ∧ some k_ ≠ ((.slice Ao38 t412.length co38) : Value).ownBlock ∧ some k_ ≠ ((.slice Ao125 t434.length co125) : Value).ownBlock) (.slice Ao24 t401.length co24) t401) ∧ Aside0 (Kd.R (Kd.int .i64) 3 wc w.heap.size (fun k_ => some k_ ≠ ((.slice Ao24 t401.length co24) : Value).ownBlock ∧ some k_ ≠ ((.slice Ao38 t412.length co38) : Value).ownBlock ∧ some k_ ≠ ((.slice Ao125 t434.length co125) : Value).ownBlock) (.slice Ao31 t424.length co31) t424) ∧ Aside0 (Kd.R (Kd.int .i64) 3 wc w.heap.size (fun k_ => some k_ ≠ ((.slice Ao24 t401.length co24) : Value).ownBlock ∧ some k_ ≠ ((.slice Ao31 t424.length co31) : Value).ownBlock ∧ some k_ ≠ ((.slice Ao125 t434.length co125) : Value).ownBlock) (.slice Ao38 t412.length co38) t427) ∧ Aside0 (Kd.R (Kd.int .i64) 3 wc w.heap.size (fun k_ => some k_ ≠ ((.slice Ao24 t401.length co24) : Value).ownBlock ∧ some k_ ≠ ((.slice Ao31 t424.length co31) : Value).ownBlock ∧ some k_ ≠ ((.slice Ao38 t412.length co38) : Value).ownBlock) (.slice Ao125 t434.length co125) t434) ∧ Aside0 (wc.heap[gb394]? = some (.cells #[.int .i64 a0_0, (.slice A0_1 l0_1.length c0_1)] 41 (0, 0))) ∧ Aside0 (wc.heap[gb405]? = some (.cells #[.int .i64 t400, (.slice Ao24 t401.length co24)] 24 (0, 0))) ∧ Aside0 (wc.heap[gb410]? = some (.cells #[.int .i64 t406, (.slice Ao31 t424.length co31)] 24 (0, 0))) ∧ Aside0 (wc.heap[gb416]? = some (.cells #[.int .i64 t411, (.slice Ao38 t412.length co38)] 24 (0, 0))) ∧ Aside0 (wc.heap[gb438]? = some (.cells #[.int .i64 t433, (.slice Ao125 t434.length co125)] 24 (0, 0))) ∧ Aside0 (Below w.heap.size w wc))
                      case first =>
                        have H := HC105.out
                        clear HC105
                        replace H := Option.bind_eq_some_iff.mp H
                        obtain ⟨t439, A1260, H⟩ := H
                        replace H : (if t439 = true then (laws_FnExactSwapInputs.j2 kj61 t426 (t437 != t404) t411 t427) else (laws_FnExactSwapInputs.j2 kj61 t426 true t411 t427)) = some true := H
                        have A126 := Aside0.mk A1260
                        clear A1260
                        by_cases c127 : t439 = true
                        · subst c127
                          have H1 : (laws_FnExactSwapInputs.j2 kj61 t426 (t437 != t404) t411 t427) = some true := by rw [if_pos rfl] at H; exact H
                          clear H
                          have H := H1
                          clear H1
                          have H' := Aside0.mk H
                          clear H
                          have hnb128 := NB438_394.out
                          have hnc128 := NB394_438.out
                          have hnb129 := NB438_405.out
                          have hnc129 := NB405_438.out
                          have hnb130 := NB438_410.out
                          have hnc130 := NB410_438.out
                          have hnb131 := NB438_416.out
                          have hnc131 := NB416_438.out
                          have hcz132_0 : w119.cell? ⟨gb438, 0, none⟩ = some (.int .i64 0) := (blk_cell BK438.out 0).trans rfl
                          have hcz132_1 : w119.cell? ⟨gb438, 1, none⟩ = some (.slice none 0 0) := (blk_cell BK438.out 1).trans rfl
                          have hfz132_0 := blk_frozen BK438.out 0
                          have hfz132_1 := blk_frozen BK438.out 1
                          have hnb133 := NB405_394.out
                          have hnc133 := NB394_405.out
                          have hnb134 := NB405_410.out
                          have hnc134 := NB410_405.out
                          have hnb135 := NB405_416.out
                          have hnc135 := NB416_405.out
                          have hcz136_0 : w119.cell? ⟨gb405, 0, none⟩ = some (.int .i64 t400) := (blk_cell BK405.out 0).trans rfl
                          have hcz136_1 : w119.cell? ⟨gb405, 1, none⟩ = some (.slice Ao24 t401.length co24) := (blk_cell BK405.out 1).trans rfl
                          have hfz136_0 := blk_frozen BK405.out 0
                          have hfz136_1 := blk_frozen BK405.out 1
                          go_wp2_with (first | ((with_reducible refine gate_callee (f := 16) rfl ?_); refine goesL_ (some 91) rfl rfl Try.func16 (by kernel_rfl) rfl #[.agg #[.int .i64 t433, .slice Ao125 t434.length co125], .agg #[.int .i64 t400, .slice Ao24 t401.length co24]] rfl (by (try simp only [List.map_toArray, List.map_cons, List.map_nil]); first | done | rfl | (simp only [List.length_drop, List.length_take]; rfl)) ?_; (with_reducible refine (laws_eqTable.calls kj61 t433 _ _ t434 t400 _ _ t401 true _ ?side1 ?side2 ?side3 ?side4 A126.out).mono ?_); (case side1 => refine (Kd.R_reads' (e := 3) (base := w.heap.size) (ok := fun k_ => ((((True ∧ some k_ ≠ (.slice Ao24 t401.length co24 : Value).ownBlock) ∧ some k_ ≠ (.slice Ao31 t424.length co31 : Value).ownBlock) ∧ some k_ ≠ (.slice Ao38 t412.length co38 : Value).ownBlock) ∧ some k_ ≠ (.slice Ao117 t430.length co117 : Value).ownBlock)) (n := t434.length) (c := co125) ?_).2.2; exact (by (with_reducible repeat (first | apply Kd.R_alloc | apply Kd.R_drewN | apply Kd.R_drew)); exact (Kd.R_mono (Kd.R_far (p := ⟨gb438, 1, none⟩) (Kd.R_far (p := ⟨gb438, 0, none⟩) (Kd.R_types HO436.out BK438.out (by decide)) (fun _ hk => hk.2) (.int .i64 t433)) (fun _ hk => hk.2) (.slice Ao125 t434.length co125)) (fun _ h_ => h_.1)))); (case side2 => exact (Kd.R_reads' HO436.out).2.1); (case side3 => refine (Kd.R_reads' (e := 3) (base := w.heap.size) (ok := fun k_ => (((some k_ ≠ (.slice Ao31 t424.length co31 : Value).ownBlock ∧ some k_ ≠ (.slice Ao38 t412.length co38 : Value).ownBlock) ∧ some k_ ≠ (.slice Ao117 t430.length co117 : Value).ownBlock) ∧ some k_ ≠ (.slice Ao125 t434.length co125 : Value).ownBlock)) (n := t401.length) (c := co24) ?_).2.2; exact (by (with_reducible repeat (first | apply Kd.R_alloc | apply Kd.R_drewN | apply Kd.R_drew)); exact (Kd.R_mono (Kd.R_far (p := ⟨gb438, 1, none⟩) (Kd.R_far (p := ⟨gb438, 0, none⟩) (Kd.R_types HO_406001.out BK438.out (by decide)) (fun _ hk => hk.2) (.int .i64 t433)) (fun _ hk => hk.2) (.slice Ao125 t434.length co125)) (fun _ h_ => h_.1)))); (case side4 => exact (Kd.R_reads' HO_406001.out).2.1); rintro e w137 ⟨rfl, hb⟩; refine ⟨_, rfl, ?_⟩; have n0_ := Aside0.mk (Kd.R_below (by (with_reducible repeat (first | apply Kd.R_alloc | apply Kd.R_drewN | apply Kd.R_drew)); exact (Kd.R_mono (Kd.R_far (p := ⟨gb438, 1, none⟩) (Kd.R_far (p := ⟨gb438, 0, none⟩) (Kd.R_types HO_406001.out BK438.out (by decide)) (fun _ hk => hk.2) (.int .i64 t433)) (fun _ hk => hk.2) (.slice Ao125 t434.length co125)) (fun _ h_ => h_.1))) hb); have n1_ := Aside0.mk (Kd.R_below (by (with_reducible repeat (first | apply Kd.R_alloc | apply Kd.R_drewN | apply Kd.R_drew)); exact (Kd.R_mono (Kd.R_far (p := ⟨gb438, 1, none⟩) (Kd.R_far (p := ⟨gb438, 0, none⟩) (Kd.R_types HO_411001.out BK438.out (by decide)) (fun _ hk => hk.2) (.int .i64 t433)) (fun _ hk => hk.2) (.slice Ao125 t434.length co125)) (fun _ h_ => h_.1))) hb); have n2_ := Aside0.mk (Kd.R_below (by (with_reducible repeat (first | apply Kd.R_alloc | apply Kd.R_drewN | apply Kd.R_drew)); exact (Kd.R_mono (Kd.R_far (p := ⟨gb438, 1, none⟩) (Kd.R_far (p := ⟨gb438, 0, none⟩) (Kd.R_types HO_417001.out BK438.out (by decide)) (fun _ hk => hk.2) (.int .i64 t433)) (fun _ hk => hk.2) (.slice Ao125 t434.length co125)) (fun _ h_ => h_.1))) hb); have n3_ := Aside0.mk (Kd.R_below (by (with_reducible repeat (first | apply Kd.R_alloc | apply Kd.R_drewN | apply Kd.R_drew)); exact (Kd.R_mono (Kd.R_far (p := ⟨gb438, 1, none⟩) (Kd.R_far (p := ⟨gb438, 0, none⟩) (Kd.R_types HO432.out BK438.out (by decide)) (fun _ hk => hk.2) (.int .i64 t433)) (fun _ hk => hk.2) (.slice Ao125 t434.length co125)) (fun _ h_ => h_.1))) hb); have n4_ := Aside0.mk (Kd.R_below (by (with_reducible repeat (first | apply Kd.R_alloc | apply Kd.R_drewN | apply Kd.R_drew)); exact (Kd.R_mono (Kd.R_far (p := ⟨gb438, 1, none⟩) (Kd.R_far (p := ⟨gb438, 0, none⟩) (Kd.R_types HO436.out BK438.out (by decide)) (fun _ hk => hk.2) (.int .i64 t433)) (fun _ hk => hk.2) (.slice Ao125 t434.length co125)) (fun _ h_ => h_.1))) hb); have n5_ := Aside0.mk (blk_below (g := gb394) (o := .cells #[.int .i64 a0_0, .slice A0_1 l0_1.length c0_1] 41 (0, 0)) (by (with_reducible repeat (first | refine blk_drewN ?_ _ | refine blk_drew ?_ | refine blk_alloc ?_ _)); refine blk_far ?_ NB394_438.out _; (with_reducible repeat (first | refine blk_drewN ?_ _ | refine blk_drew ?_ | refine blk_alloc ?_ _)); refine blk_far ?_ NB394_438.out _; (with_reducible repeat (first | refine blk_drewN ?_ _ | refine blk_drew ?_ | refine blk_alloc ?_ _)); exact BK394.out) hb); have n6_ := Aside0.mk (blk_below (g := gb405) (o := .cells #[.int .i64 t400, .slice Ao24 t401.length co24] 24 (0, 0)) (by (with_reducible repeat (first | refine blk_drewN ?_ _ | refine blk_drew ?_ | refine blk_alloc ?_ _)); refine blk_far ?_ NB405_438.out _; (with_reducible repeat (first | refine blk_drewN ?_ _ | refine blk_drew ?_ | refine blk_alloc ?_ _)); refine blk_far ?_ NB405_438.out _; (with_reducible repeat (first | refine blk_drewN ?_ _ | refine blk_drew ?_ | refine blk_alloc ?_ _)); exact BK405.out) hb); have n7_ := Aside0.mk (blk_below (g := gb410) (o := .cells #[.int .i64 t406, .slice Ao31 t424.length co31] 24 (0, 0)) (by (with_reducible repeat (first | refine blk_drewN ?_ _ | refine blk_drew ?_ | refine blk_alloc ?_ _)); refine blk_far ?_ NB410_438.out _; (with_reducible repeat (first | refine blk_drewN ?_ _ | refine blk_drew ?_ | refine blk_alloc ?_ _)); refine blk_far ?_ NB410_438.out _; (with_reducible repeat (first | refine blk_drewN ?_ _ | refine blk_drew ?_ | refine blk_alloc ?_ _)); exact BK410.out) hb); have n8_ := Aside0.mk (blk_below (g := gb416) (o := .cells #[.int .i64 t411, .slice Ao38 t412.length co38] 24 (0, 0)) (by (with_reducible repeat (first | refine blk_drewN ?_ _ | refine blk_drew ?_ | refine blk_alloc ?_ _)); refine blk_far ?_ NB416_438.out _; (with_reducible repeat (first | refine blk_drewN ?_ _ | refine blk_drew ?_ | refine blk_alloc ?_ _)); refine blk_far ?_ NB416_438.out _; (with_reducible repeat (first | refine blk_drewN ?_ _ | refine blk_drew ?_ | refine blk_alloc ?_ _)); exact BK416.out) hb); have n9_ := Aside0.mk (blk_below (g := gb438) (o := .cells #[.int .i64 t433, .slice Ao125 t434.length co125] 24 (0, 0)) (by (with_reducible repeat (first | refine blk_drewN ?_ _ | refine blk_drew ?_ | refine blk_alloc ?_ _)); refine blk_put (cs := #[.int .i64 t433, .slice none 0 0]) ?_ 1 _ rfl; (with_reducible repeat (first | refine blk_drewN ?_ _ | refine blk_drew ?_ | refine blk_alloc ?_ _)); refine blk_put (cs := #[.int .i64 0, .slice none 0 0]) ?_ 0 _ rfl; (with_reducible repeat (first | refine blk_drewN ?_ _ | refine blk_drew ?_ | refine blk_alloc ?_ _)); exact BK438.out) hb); have n10_ := Aside0.mk (below_step (by repeat (first | (with_reducible first | exact HB.out | apply below_alloc | apply pw_below_drewN | apply below_drew1 | refine below_set ?_ GE394.out | refine below_set ?_ GE405.out | refine below_set ?_ GE410.out | refine below_set ?_ GE416.out | refine below_set ?_ GE438.out) | exact HB.out)) hb); clear HO_406001; clear HO_411001; clear HO_417001; clear HO432; clear HO436; clear BK394; clear BK405; clear BK410; clear BK416; clear BK438; clear HB; have HO_406001 := n0_; have HO_411001 := n1_; have HO_417001 := n2_; have HO432 := n3_; have HO436 := n4_; have BK394 := n5_; have BK405 := n6_; have BK410 := n7_; have BK416 := n8_; have BK438 := n9_; have HB := n10_; clear n0_ n1_ n2_ n3_ n4_ n5_ n6_ n7_ n8_ n9_ n10_; (try clear hb); (try clear hb2); (try clear hk); (try clear hi)))
                          go_meet
                          case rel => exact ⟨_, ((t437 != t404)), (by first | rfl | (simp; done) | (simp [*]; done)), H', ⟨by have := HJ12.out; have := HJ61.out; first | omega | exact Nat.le_refl _⟩, ⟨by (try simp only [hl411001_61]); (with_reducible repeat (first | apply Kd.R_alloc | apply Kd.R_drewN | apply Kd.R_drew)); exact Kd.R_mono HO_406001.out (fun _ hk => ⟨hk.1.1.1, ⟨hk.1.1.2, hk.2⟩⟩)⟩, ⟨by (try simp only [hl411001_61]); (with_reducible repeat (first | apply Kd.R_alloc | apply Kd.R_drewN | apply Kd.R_drew)); exact Kd.R_mono HO_411001.out (fun _ hk => ⟨hk.1.1.1, ⟨hk.1.1.2, hk.2⟩⟩)⟩, ⟨by (try simp only [hl411001_61]); (with_reducible repeat (first | apply Kd.R_alloc | apply Kd.R_drewN | apply Kd.R_drew)); exact Kd.R_mono HO_417001.out (fun _ hk => ⟨hk.1.1.1, ⟨hk.1.1.2, hk.2⟩⟩)⟩, ⟨by (try simp only [hl411001_61]); (with_reducible repeat (first | apply Kd.R_alloc | apply Kd.R_drewN | apply Kd.R_drew)); exact Kd.R_mono HO436.out (fun _ hk => ⟨hk.1.1.1.2, ⟨hk.1.1.2, hk.1.2⟩⟩)⟩, ⟨by (try simp only [hl411001_61]); (with_reducible repeat (first | refine blk_drewN ?_ _ | refine blk_drew ?_ | refine blk_alloc ?_ _)); exact BK394.out⟩, ⟨by (try simp only [hl411001_61]); (with_reducible repeat (first | refine blk_drewN ?_ _ | refine blk_drew ?_ | refine blk_alloc ?_ _)); exact BK405.out⟩, ⟨by (try simp only [hl411001_61]); (with_reducible repeat (first | refine blk_drewN ?_ _ | refine blk_drew ?_ | refine blk_alloc ?_ _)); exact BK410.out⟩, ⟨by (try simp only [hl411001_61]); (with_reducible repeat (first | refine blk_drewN ?_ _ | refine blk_drew ?_ | refine blk_alloc ?_ _)); exact BK416.out⟩, ⟨by (try simp only [hl411001_61]); (with_reducible repeat (first | refine blk_drewN ?_ _ | refine blk_drew ?_ | refine blk_alloc ?_ _)); exact BK438.out⟩, ⟨by repeat (first | (with_reducible first | exact HB.out | apply below_alloc | apply pw_below_drewN | apply below_drew1 | refine below_set ?_ GE394.out | refine below_set ?_ GE405.out | refine below_set ?_ GE410.out | refine below_set ?_ GE416.out | refine below_set ?_ GE438.out) | exact HB.out)⟩⟩
                        · replace c127 := Bool.eq_false_iff.mpr c127
                          subst c127
                          have H1 : (laws_FnExactSwapInputs.j2 kj61 t426 true t411 t427) = some true := by rw [if_neg (show ¬ (false = true) by decide)] at H; exact H
                          exact absurd H1 (by cases kj61 <;> simp [laws_FnExactSwapInputs.j2])
                      case rest =>
                        clear HC105
                        try clear c1
                        try clear c2
                        try clear p2
                        try clear c3
                        try clear c4
                        try clear c5
                        try clear c5b0
                        try clear c6
                        try clear c7
                        try clear c8
                        try clear c9
                        try clear c10
                        try clear c11
                        try clear c12
                        try clear c13
                        try clear c14
                        try clear c16
                        try clear c17
                        try clear c18
                        try clear c22
                        try clear c28
                        try clear c29
                        try clear c30
                        try clear c32
                        try clear c33
                        try clear c34
                        try clear c35
                        try clear c36
                        try clear c40
                        try clear c41
                        try clear c42
                        try clear c43
                        try clear c45
                        try clear c46
                        try clear c49
                        try clear c50
                        try clear c51
                        try clear c53
                        try clear c54
                        try clear c57
                        try clear c60
                        try clear c67
                        try clear c68
                        try clear c69
                        try clear c72
                        try clear c72b0
                        try clear c74
                        try clear c75
                        try clear c76
                        try clear c77
                        try clear c79
                        try clear c80
                        try clear c83
                        try clear c84
                        try clear c85
                        try clear c87
                        try clear c88
                        try clear c91
                        try clear c94
                        try clear c94b0
                        try clear c95
                        try clear c96
                        try clear c97
                        try clear c102
                        try clear c102b0
                        try clear c102b1
                        try clear c106
                        try clear c107
                        try clear c108
                        try clear c113
                        try clear c114
                        try clear c120
                        try clear c121
                        try clear c122
                        try clear c123
                        try clear c127
                        try clear c128
                        try clear c129
                        try clear c130
                        try clear c131
                        try clear c133
                        try clear c134
                        try clear c135
                        try clear c138
                        try clear c139
                        try clear c140
                        try clear c141
                        try clear c143
                        try clear c144
                        try clear c145
                        try clear hcz100_0
                        try clear hcz100_1
                        try clear hcz109_0
                        try clear hcz109_1
                        try clear hcz111_0
                        try clear hcz111_1
                        try clear hcz115_0
                        try clear hcz115_1
                        try clear hcz124_0
                        try clear hcz124_1
                        try clear hcz132_0
                        try clear hcz132_1
                        try clear hcz136_0
                        try clear hcz136_1
                        try clear hcz142_0
                        try clear hcz142_1
                        try clear hcz146_0
                        try clear hcz146_1
                        try clear hcz15_0
                        try clear hcz15_1
                        try clear hcz17_0
                        try clear hcz17_1
                        try clear hcz23_0
                        try clear hcz23_1
                        try clear hcz25_0
                        try clear hcz25_1
                        try clear hcz30_0
                        try clear hcz30_1
                        try clear hcz37_0
                        try clear hcz37_1
                        try clear hcz44_0
                        try clear hcz44_1
                        try clear hcz47_0
                        try clear hcz47_1
                        try clear hcz52_0
                        try clear hcz52_1
                        try clear hcz55_0
                        try clear hcz55_1
                        try clear hcz70_0
                        try clear hcz70_1
                        try clear hcz78_0
                        try clear hcz78_1
                        try clear hcz7_0
                        try clear hcz7_1
                        try clear hcz81_0
                        try clear hcz81_1
                        try clear hcz86_0
                        try clear hcz86_1
                        try clear hcz89_0
                        try clear hcz89_1
                        try clear hcz98_0
                        try clear hcz98_1
                        try clear hfz100_0
                        try clear hfz100_1
                        try clear hfz109_0
                        try clear hfz109_1
                        try clear hfz111_0
                        try clear hfz111_1
                        try clear hfz115_0
                        try clear hfz115_1
                        try clear hfz124_0
                        try clear hfz124_1
                        try clear hfz132_0
                        try clear hfz132_1
                        try clear hfz136_0
                        try clear hfz136_1
                        try clear hfz142_0
                        try clear hfz142_1
                        try clear hfz146_0
                        try clear hfz146_1
                        try clear hfz15_0
                        try clear hfz15_1
                        try clear hfz17_0
                        try clear hfz17_1
                        try clear hfz23_0
                        try clear hfz23_1
                        try clear hfz25_0
                        try clear hfz25_1
                        try clear hfz30_0
                        try clear hfz30_1
                        try clear hfz37_0
                        try clear hfz37_1
                        try clear hfz44_0
                        try clear hfz44_1
                        try clear hfz47_0
                        try clear hfz47_1
                        try clear hfz52_0
                        try clear hfz52_1
                        try clear hfz55_0
                        try clear hfz55_1
                        try clear hfz70_0
                        try clear hfz70_1
                        try clear hfz78_0
                        try clear hfz78_1
                        try clear hfz7_0
                        try clear hfz7_1
                        try clear hfz81_0
                        try clear hfz81_1
                        try clear hfz86_0
                        try clear hfz86_1
                        try clear hfz89_0
                        try clear hfz89_1
                        try clear hfz98_0
                        try clear hfz98_1
                        try clear p2
                        obtain ⟨kq, x97_104, rfl, HA, HJ104, HO_406001, HO_411001, HO_417001, HO_439001, BK394, BK405, BK410, BK416, BK438, HB⟩ := hcut
                        have hl417001_104 := (Kd.R_reads' HO_417001.out).1
                        rw [hl417001_104] at HO_417001
                        (try simp only [hl417001_104])
                        (try simp only [hl417001_104] at BK394)
                        (try simp only [hl417001_104] at BK405)
                        (try simp only [hl417001_104] at BK410)
                        (try simp only [hl417001_104] at BK416)
                        (try simp only [hl417001_104] at BK438)
                        (try simp only [hl417001_104] at HO_406001)
                        (try simp only [hl417001_104] at HO_411001)
                        (try simp only [hl417001_104] at HO_439001)
                        cases kq with
                        | zero => exact absurd HA.out (by simp [laws_FnExactSwapInputs.j2])
                        | succ kj104 =>
                          have H := HA.out
                          clear HA
                          simp only [laws_FnExactSwapInputs.j2] at H
                          by_cases c148 : x97_104 = true
                          · subst c148
                            have H1 : (some false) = some true := by rw [if_pos rfl] at H; exact H
                            exact absurd H1 (by simp)
                          · replace c148 := Bool.eq_false_iff.mpr c148
                            subst c148
                            have H1 : ((laws_heldTable.f kj104 t411 t427 1).bind fun t440 => (if t440 < 0 then (some false) else (if t440 = t426 then (some true) else (some false)))) = some true := by rw [if_neg (show ¬ (false = true) by decide)] at H; exact H
                            clear H
                            have H := H1
                            clear H1
                            replace H := Option.bind_eq_some_iff.mp H
                            obtain ⟨t440, A1490, H⟩ := H
                            replace H : (if t440 < 0 then (some false) else (if t440 = t426 then (some true) else (some false))) = some true := H
                            have A149 := Aside0.mk A1490
                            clear A1490
                            by_cases c150 : t440 < 0
                            · rw [if_pos c150] at H
                              exact absurd H (by simp)
                            · rw [if_neg c150] at H
                              have c150b0 : decide (t440 < 0) = false := decide_eq_false c150
                              clear c150
                              by_cases c157 : t440 = t426
                              · rw [if_pos c157] at H
                                have c157b0 : (t440 == t426) = true := beq_iff_eq.mpr c157
                                have c157b1 : (t440 != t426) = false := bne_eq_false_iff_eq.mpr c157
                                clear c157
                                first | (obtain rfl := Option.some.inj H) | clear H
                                have hnb158 := NB416_394.out
                                have hnc158 := NB394_416.out
                                have hnb159 := NB416_405.out
                                have hnc159 := NB405_416.out
                                have hnb160 := NB416_410.out
                                have hnc160 := NB410_416.out
                                have hnb161 := NB416_438.out
                                have hnc161 := NB438_416.out
                                have hcz162_0 : wc.cell? ⟨gb416, 0, none⟩ = some (.int .i64 t411) := (blk_cell BK416.out 0).trans rfl
                                have hcz162_1 : wc.cell? ⟨gb416, 1, none⟩ = some (.slice Ao38 t427.length co38) := (blk_cell BK416.out 1).trans rfl
                                have hfz162_0 := blk_frozen BK416.out 0
                                have hfz162_1 := blk_frozen BK416.out 1
                                go_wp2_with (first | ((with_reducible refine gate_callee (f := 18) rfl ?_); refine goesL_ (some 100) rfl rfl Try.func18 (by kernel_rfl) rfl #[.agg #[.int .i64 t411, .slice Ao38 t427.length co38], .int .i64 1] rfl (by (try simp only [List.map_toArray, List.map_cons, List.map_nil]); first | done | rfl | (simp only [List.length_drop, List.length_take]; rfl)) ?_; (with_reducible refine (laws_heldTable.calls kj104 t411 _ _ t427 1 t440 _ ?side1 ?side2 A149.out).mono ?_); (case side1 => repeat (first | exact (Kd.R_reads' HO_417001.out).2.2 | (with_reducible refine Kd.C_alloc ?_ _) | (with_reducible refine Kd.C_drewN ?_ _) | (with_reducible refine Kd.C_drew ?_))); (case side2 => exact (Kd.R_reads' HO_417001.out).2.1); rintro e w163 ⟨rfl, hb⟩; refine ⟨_, rfl, ?_⟩; have n0_ := Aside0.mk (Kd.R_below (by (with_reducible repeat (first | apply Kd.R_alloc | apply Kd.R_drewN | apply Kd.R_drew)); exact HO_406001.out) hb); have n1_ := Aside0.mk (Kd.R_below (by (with_reducible repeat (first | apply Kd.R_alloc | apply Kd.R_drewN | apply Kd.R_drew)); exact HO_411001.out) hb); have n2_ := Aside0.mk (Kd.R_below (by (with_reducible repeat (first | apply Kd.R_alloc | apply Kd.R_drewN | apply Kd.R_drew)); exact HO_417001.out) hb); have n3_ := Aside0.mk (Kd.R_below (by (with_reducible repeat (first | apply Kd.R_alloc | apply Kd.R_drewN | apply Kd.R_drew)); exact HO_439001.out) hb); have n4_ := Aside0.mk (blk_below (g := gb394) (o := .cells #[.int .i64 a0_0, .slice A0_1 l0_1.length c0_1] 41 (0, 0)) (by (with_reducible repeat (first | refine blk_drewN ?_ _ | refine blk_drew ?_ | refine blk_alloc ?_ _)); exact BK394.out) hb); have n5_ := Aside0.mk (blk_below (g := gb405) (o := .cells #[.int .i64 t400, .slice Ao24 t401.length co24] 24 (0, 0)) (by (with_reducible repeat (first | refine blk_drewN ?_ _ | refine blk_drew ?_ | refine blk_alloc ?_ _)); exact BK405.out) hb); have n6_ := Aside0.mk (blk_below (g := gb410) (o := .cells #[.int .i64 t406, .slice Ao31 t424.length co31] 24 (0, 0)) (by (with_reducible repeat (first | refine blk_drewN ?_ _ | refine blk_drew ?_ | refine blk_alloc ?_ _)); exact BK410.out) hb); have n7_ := Aside0.mk (blk_below (g := gb416) (o := .cells #[.int .i64 t411, .slice Ao38 t427.length co38] 24 (0, 0)) (by (with_reducible repeat (first | refine blk_drewN ?_ _ | refine blk_drew ?_ | refine blk_alloc ?_ _)); exact BK416.out) hb); have n8_ := Aside0.mk (blk_below (g := gb438) (o := .cells #[.int .i64 t433, .slice Ao125 t434.length co125] 24 (0, 0)) (by (with_reducible repeat (first | refine blk_drewN ?_ _ | refine blk_drew ?_ | refine blk_alloc ?_ _)); exact BK438.out) hb); have n9_ := Aside0.mk (below_step (by repeat (first | (with_reducible first | exact HB.out | apply below_alloc | apply pw_below_drewN | apply below_drew1 | refine below_set ?_ GE394.out | refine below_set ?_ GE405.out | refine below_set ?_ GE410.out | refine below_set ?_ GE416.out | refine below_set ?_ GE438.out) | exact HB.out)) hb); clear HO_406001; clear HO_411001; clear HO_417001; clear HO_439001; clear BK394; clear BK405; clear BK410; clear BK416; clear BK438; clear HB; have HO_406001 := n0_; have HO_411001 := n1_; have HO_417001 := n2_; have HO_439001 := n3_; have BK394 := n4_; have BK405 := n5_; have BK410 := n6_; have BK416 := n7_; have BK438 := n8_; have HB := n9_; clear n0_ n1_ n2_ n3_ n4_ n5_ n6_ n7_ n8_ n9_; (try clear hb); (try clear hb2); (try clear hk); (try clear hi)))
                                go_ret
                                exact ⟨by first | rfl | (simp [errW_none, errW_some] <;> rfl) | (simp [*, errW_none, errW_some] <;> rfl), by repeat (first | (with_reducible first | exact HB.out | apply below_alloc | apply pw_below_drewN | apply below_drew1 | refine below_set ?_ GE394.out | refine below_set ?_ GE405.out | refine below_set ?_ GE410.out | refine below_set ?_ GE416.out | refine below_set ?_ GE438.out) | exact HB.out)⟩
                              · rw [if_neg c157] at H
                                exact absurd H (by simp)
                    · rw [if_neg c102] at H
                      exact absurd H (by simp)
          · replace c60 := Bool.eq_false_iff.mpr c60
            subst c60
            have H1 : (some false) = some true := by rw [if_neg (show ¬ (false = true) by decide)] at H; exact H
            exact absurd H1 (by simp)

end Go.Proofs.Ytegbbmnlfijbbaa.P
