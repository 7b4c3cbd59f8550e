-- PRINTED by print.py (a twelfth state) out of the translation. Not trusted: Lean checks it.
import Derived.Test.YtlccgamaplaacaaPx0
import Derived.Test.YtlccgamaplaacaaPx2
import Derived.Test.YtlccgamaplaacaaPx3
import Derived.Test.YtlccgamaplaacaaPx4
import Derived.Test.YtlccgamaplaacaaPx24
import Derived.Test.YtlccgamaplaacaaPx33
import Derived.Test.YtlccgamaplaacaaPx34
namespace Go.Proofs.Ytlccgamaplaacaa.P
open Go.RowKit Go.Proofs.YtlccgamaplaacaaW.PrintWords Go.Proofs.YtlccgamaplaacaaW.PrintLast Go.Proofs.YtlccgamaplaacaaW.PrintMore
attribute [local go_sem] max2_int min2_int max_two min_two max_three min_three max_four min_four   -- for this text's walks alone
set_option linter.unusedVariables false
set_option linter.unusedSimpArgs false

/-! ### laws_FnExactFixInput: function 13 -/
mutual
def laws_FnExactFixInput.j0 : Nat → Int → Int → Bool → Bool → Bool → Int → List Int → Int → List Int → Int → List Int → Int → List Int → Option (Bool)
  | 0, _, _, _, _, _, _, _, _, _, _, _, _, _ => none
  | k + 1, x1, x2, x9, x12, x48, x572000, x572001, x583000, x583001, x588000, x588001, x594000, x594001 => if x48 = true then (some false) else ((laws_toTable.f k x572000 x572001).bind fun bt595 => ((laws_eqTable.f k x588000 x588001 bt595.1 bt595.2).bind fun t599 => (if t599 = true then ((laws_markTable.f k x588000 x588001 1).bind fun bt600 => (if bt600.1 < 0 then (laws_FnExactFixInput.j1 k x1 x2 x9 true x572000 x572001 x583000 x583001 x594000 x594001) else ((laws_eqTable.f k x594000 x594001 x583000 x583001).bind fun t602 => (if t602 = true then (laws_FnExactFixInput.j1 k x1 x2 x9 (x12 != x9) x572000 x572001 x583000 x583001 x594000 x594001) else (laws_FnExactFixInput.j1 k x1 x2 x9 true x572000 x572001 x583000 x583001 x594000 x594001))))) else (some false))))
def laws_FnExactFixInput.j1 : Nat → Int → Int → Bool → Bool → Int → List Int → Int → List Int → Int → List Int → Option (Bool)
  | 0, _, _, _, _, _, _, _, _, _, _ => none
  | k + 1, x1, x2, x9, x69, x572000, x572001, x583000, x583001, x594000, x594001 => if x69 = true then (some false) else ((laws_markTable.f k x594000 x594001 1).bind fun bt603 => ((laws_heldTable.f k x594000 bt603.2 1).bind fun t605 => (if t605 < 0 then (some false) else (if t605 = bt603.1 then ((laws_toTable.f k x572000 x572001).bind fun bt606 => ((impl_FixInput.f k bt606.1 bt606.2 x1 x2).bind fun bt610 => ((laws_eqTable.f k bt610.1 bt610.2.1 x583000 x583001).bind fun t616 => (if t616 = true then (laws_FnExactFixInput.j2 k bt603.1 (bt610.2.2 != x9) x594000 bt603.2) else (laws_FnExactFixInput.j2 k bt603.1 true x594000 bt603.2))))) else (some false)))))
def laws_FnExactFixInput.j2 : Nat → Int → Bool → Int → List Int → Option (Bool)
  | 0, _, _, _, _ => none
  | k + 1, x14, x97, x594000, x594001 => if x97 = true then (some false) else ((laws_heldTable.f k x594000 x594001 1).bind fun t617 => (if t617 < 0 then (some false) else (if t617 = x14 then (some true) else (some false))))
end
def laws_FnExactFixInput.f (k : Nat) (a0_0 : Int) (l0_1 : List Int) (a1 : Int) (a2 : Int) : Option (Bool) := (laws_szTable.f a0_0 l0_1 1048576).bind fun t572 => (if t572 < 0 then (some true) else ((laws_toTable.f k a0_0 l0_1).bind fun bt573 => ((spec_FixInput.f k bt573.1 bt573.2 a1 a2).bind fun bt577 => ((laws_toTable.f k a0_0 l0_1).bind fun bt583 => ((impl_FixInput.f k bt583.1 bt583.2 a1 a2).bind fun bt588 => ((laws_eqTable.f k bt588.1 bt588.2.1 bt577.1 bt577.2.1).bind fun t594 => (if t594 = true then (laws_FnExactFixInput.j0 k a1 a2 bt577.2.2 bt588.2.2 (bt588.2.2 != bt577.2.2) a0_0 l0_1 bt577.1 bt577.2.1 bt583.1 bt583.2 bt588.1 bt588.2.1) else (laws_FnExactFixInput.j0 k a1 a2 bt577.2.2 bt588.2.2 true a0_0 l0_1 bt577.1 bt577.2.1 bt583.1 bt583.2 bt588.1 bt588.2.1))))))))
theorem laws_FnExactFixInput.mono_l : ∀ k, (∀ y0 y1 y2 y3 y4 y5 y6 y7 y8 y9 y10 y11 y12, LeO (laws_FnExactFixInput.j0 k y0 y1 y2 y3 y4 y5 y6 y7 y8 y9 y10 y11 y12) (laws_FnExactFixInput.j0 (k + 1) y0 y1 y2 y3 y4 y5 y6 y7 y8 y9 y10 y11 y12)) ∧ (∀ y0 y1 y2 y3 y4 y5 y6 y7 y8 y9, LeO (laws_FnExactFixInput.j1 k y0 y1 y2 y3 y4 y5 y6 y7 y8 y9) (laws_FnExactFixInput.j1 (k + 1) y0 y1 y2 y3 y4 y5 y6 y7 y8 y9)) ∧ (∀ y0 y1 y2 y3, LeO (laws_FnExactFixInput.j2 k y0 y1 y2 y3) (laws_FnExactFixInput.j2 (k + 1) y0 y1 y2 y3))
  | 0 => ⟨fun _ _ _ _ _ _ _ _ _ _ _ _ _ r h => by simp [laws_FnExactFixInput.j0] at h, fun _ _ _ _ _ _ _ _ _ _ r h => by simp [laws_FnExactFixInput.j1] at h, fun _ _ _ _ r h => by simp [laws_FnExactFixInput.j2] at h⟩
  | k + 1 => by
    obtain ⟨ih0, ih1, ih2⟩ := laws_FnExactFixInput.mono_l k
    refine ⟨?_, ?_, ?_⟩
    · intro y0 y1 y2 y3 y4 y5 y6 y7 y8 y9 y10 y11 y12
      unfold laws_FnExactFixInput.j0
      repeat' first
      | (with_reducible exact ih0 _ _ _ _ _ _ _ _ _ _ _ _ _)
      | (with_reducible exact ih1 _ _ _ _ _ _ _ _ _ _)
      | (with_reducible exact ih2 _ _ _ _)
      | (with_reducible exact impl_FixInput.mono _ _ _ _ _)
      | (with_reducible exact laws_eqTable.mono _ _ _ _ _)
      | (with_reducible exact laws_heldTable.mono _ _ _ _)
      | (with_reducible exact laws_markTable.mono _ _ _ _)
      | (with_reducible exact laws_toTable.mono _ _ _)
      | (with_reducible exact spec_FixInput.mono _ _ _ _ _)
      | (with_reducible exact LeO.refl _)
      | (with_reducible exact LeO.none _)
      | (with_reducible refine LeO.ite ?_ ?_)
      | (with_reducible refine LeO.bind ?_ (fun _ => ?_))
      | exact ih0 _ _ _ _ _ _ _ _ _ _ _ _ _
      | exact ih1 _ _ _ _ _ _ _ _ _ _
      | exact ih2 _ _ _ _
      | exact impl_FixInput.mono _ _ _ _ _
      | exact laws_eqTable.mono _ _ _ _ _
      | exact laws_heldTable.mono _ _ _ _
      | exact laws_markTable.mono _ _ _ _
      | exact laws_toTable.mono _ _ _
      | exact spec_FixInput.mono _ _ _ _ _
      | exact LeO.none _
      | refine LeO.ite ?_ ?_
      | refine LeO.bind ?_ (fun _ => ?_)
    · intro y0 y1 y2 y3 y4 y5 y6 y7 y8 y9
      unfold laws_FnExactFixInput.j1
      repeat' first
      | (with_reducible exact ih0 _ _ _ _ _ _ _ _ _ _ _ _ _)
      | (with_reducible exact ih1 _ _ _ _ _ _ _ _ _ _)
      | (with_reducible exact ih2 _ _ _ _)
      | (with_reducible exact impl_FixInput.mono _ _ _ _ _)
      | (with_reducible exact laws_eqTable.mono _ _ _ _ _)
      | (with_reducible exact laws_heldTable.mono _ _ _ _)
      | (with_reducible exact laws_markTable.mono _ _ _ _)
      | (with_reducible exact laws_toTable.mono _ _ _)
      | (with_reducible exact spec_FixInput.mono _ _ _ _ _)
      | (with_reducible exact LeO.refl _)
      | (with_reducible exact LeO.none _)
      | (with_reducible refine LeO.ite ?_ ?_)
      | (with_reducible refine LeO.bind ?_ (fun _ => ?_))
      | exact ih0 _ _ _ _ _ _ _ _ _ _ _ _ _
      | exact ih1 _ _ _ _ _ _ _ _ _ _
      | exact ih2 _ _ _ _
      | exact impl_FixInput.mono _ _ _ _ _
      | exact laws_eqTable.mono _ _ _ _ _
      | exact laws_heldTable.mono _ _ _ _
      | exact laws_markTable.mono _ _ _ _
      | exact laws_toTable.mono _ _ _
      | exact spec_FixInput.mono _ _ _ _ _
      | exact LeO.none _
      | refine LeO.ite ?_ ?_
      | refine LeO.bind ?_ (fun _ => ?_)
    · intro y0 y1 y2 y3
      unfold laws_FnExactFixInput.j2
      repeat' first
      | (with_reducible exact ih0 _ _ _ _ _ _ _ _ _ _ _ _ _)
      | (with_reducible exact ih1 _ _ _ _ _ _ _ _ _ _)
      | (with_reducible exact ih2 _ _ _ _)
      | (with_reducible exact impl_FixInput.mono _ _ _ _ _)
      | (with_reducible exact laws_eqTable.mono _ _ _ _ _)
      | (with_reducible exact laws_heldTable.mono _ _ _ _)
      | (with_reducible exact laws_markTable.mono _ _ _ _)
      | (with_reducible exact laws_toTable.mono _ _ _)
      | (with_reducible exact spec_FixInput.mono _ _ _ _ _)
      | (with_reducible exact LeO.refl _)
      | (with_reducible exact LeO.none _)
      | (with_reducible refine LeO.ite ?_ ?_)
      | (with_reducible refine LeO.bind ?_ (fun _ => ?_))
      | exact ih0 _ _ _ _ _ _ _ _ _ _ _ _ _
      | exact ih1 _ _ _ _ _ _ _ _ _ _
      | exact ih2 _ _ _ _
      | exact impl_FixInput.mono _ _ _ _ _
      | exact laws_eqTable.mono _ _ _ _ _
      | exact laws_heldTable.mono _ _ _ _
      | exact laws_markTable.mono _ _ _ _
      | exact laws_toTable.mono _ _ _
      | exact spec_FixInput.mono _ _ _ _ _
      | exact LeO.none _
      | refine LeO.ite ?_ ?_
      | refine LeO.bind ?_ (fun _ => ?_)
theorem laws_FnExactFixInput.mono : ∀ a0 a1 a2 a3 k, LeO (laws_FnExactFixInput.f k a0 a1 a2 a3) (laws_FnExactFixInput.f (k + 1) a0 a1 a2 a3) := by
  intro a0 a1 a2 a3 k
  obtain ⟨ih0, ih1, ih2⟩ := laws_FnExactFixInput.mono_l k
  unfold laws_FnExactFixInput.f
  repeat' first
      | (with_reducible exact ih0 _ _ _ _ _ _ _ _ _ _ _ _ _)
      | (with_reducible exact ih1 _ _ _ _ _ _ _ _ _ _)
      | (with_reducible exact ih2 _ _ _ _)
      | (with_reducible exact impl_FixInput.mono _ _ _ _ _)
      | (with_reducible exact laws_eqTable.mono _ _ _ _ _)
      | (with_reducible exact laws_heldTable.mono _ _ _ _)
      | (with_reducible exact laws_markTable.mono _ _ _ _)
      | (with_reducible exact laws_toTable.mono _ _ _)
      | (with_reducible exact spec_FixInput.mono _ _ _ _ _)
      | (with_reducible exact LeO.refl _)
      | (with_reducible exact LeO.none _)
      | (with_reducible refine LeO.ite ?_ ?_)
      | (with_reducible refine LeO.bind ?_ (fun _ => ?_))
      | exact ih0 _ _ _ _ _ _ _ _ _ _ _ _ _
      | exact ih1 _ _ _ _ _ _ _ _ _ _
      | exact ih2 _ _ _ _
      | exact impl_FixInput.mono _ _ _ _ _
      | exact laws_eqTable.mono _ _ _ _ _
      | exact laws_heldTable.mono _ _ _ _
      | exact laws_markTable.mono _ _ _ _
      | exact laws_toTable.mono _ _ _
      | exact spec_FixInput.mono _ _ _ _ _
      | exact LeO.none _
      | refine LeO.ite ?_ ?_
      | refine LeO.bind ?_ (fun _ => ?_)
set_option maxHeartbeats 8000000 in
set_option maxRecDepth 100000 in
theorem laws_FnExactFixInput.calls (k : Nat) (a0_0 : Int) (A0_1 : Option Addr) (c0_1 : Nat) (l0_1 : List Int) (a1 : Int) (a2 : Int) (r : Bool) (w : World) (hr0_1 : Kd.C (Kd.int .i64) w A0_1 l0_1.length l0_1) (hc0_1 : l0_1.length ≤ c0_1) (h : laws_FnExactFixInput.f k a0_0 l0_1 a1 a2 = some r) :
    Calls Try.prog 13 #[.agg #[.int .i64 a0_0, .slice A0_1 l0_1.length c0_1], .int .i64 a1, .int .i64 a2] w fun e w' => e = .returned (.bool r) ∧ Below w.heap.size w w' := by
  have hu24 := Try.underlying24
  have hu27 := Try.underlying27
  have HR0_1 := Aside0.mk hr0_1
  have HC0_1 := Aside0.mk hc0_1
  clear hr0_1 hc0_1
  have HB := Aside0.mk (Below.refl w.heap.size w)
  have H : ((laws_szTable.f a0_0 l0_1 1048576).bind fun t572 => (if t572 < 0 then (some true) else ((laws_toTable.f k a0_0 l0_1).bind fun bt573 => ((spec_FixInput.f k bt573.1 bt573.2 a1 a2).bind fun bt577 => ((laws_toTable.f k a0_0 l0_1).bind fun bt583 => ((impl_FixInput.f k bt583.1 bt583.2 a1 a2).bind fun bt588 => ((laws_eqTable.f k bt588.1 bt588.2.1 bt577.1 bt577.2.1).bind fun t594 => (if t594 = true then (laws_FnExactFixInput.j0 k a1 a2 bt577.2.2 bt588.2.2 (bt588.2.2 != bt577.2.2) a0_0 l0_1 bt577.1 bt577.2.1 bt583.1 bt583.2 bt588.1 bt588.2.1) else (laws_FnExactFixInput.j0 k a1 a2 bt577.2.2 bt588.2.2 true a0_0 l0_1 bt577.1 bt577.2.1 bt583.1 bt583.2 bt588.1 bt588.2.1))))))))) = some r := h
  clear h
  replace H := Option.bind_eq_some_iff.mp H
  obtain ⟨t572, A40, H⟩ := H
  replace H : (if t572 < 0 then (some true) else ((laws_toTable.f k a0_0 l0_1).bind fun bt573 => ((spec_FixInput.f k bt573.1 bt573.2 a1 a2).bind fun bt577 => ((laws_toTable.f k a0_0 l0_1).bind fun bt583 => ((impl_FixInput.f k bt583.1 bt583.2 a1 a2).bind fun bt588 => ((laws_eqTable.f k bt588.1 bt588.2.1 bt577.1 bt577.2.1).bind fun t594 => (if t594 = true then (laws_FnExactFixInput.j0 k a1 a2 bt577.2.2 bt588.2.2 (bt588.2.2 != bt577.2.2) a0_0 l0_1 bt577.1 bt577.2.1 bt583.1 bt583.2 bt588.1 bt588.2.1) else (laws_FnExactFixInput.j0 k a1 a2 bt577.2.2 bt588.2.2 true a0_0 l0_1 bt577.1 bt577.2.1 bt583.1 bt583.2 bt588.1 bt588.2.1)))))))) = some r := H
  have A4 := Aside0.mk A40
  clear A40
  by_cases c5 : t572 < 0
  · rw [if_pos c5] at H
    have c5b0 : decide (t572 < 0) = true := decide_eq_true c5
    clear c5
    obtain rfl := Option.some.inj H
    go_enter Try.func13, Try.ntmps13
    go_wp2_with (first | ((with_reducible refine gate_dst (N := 3) rfl ?_); refine box_event ?hg (N := 3) ?hd (cs := #[.int .i64 a0_0, .slice A0_1 l0_1.length c0_1]) (t := 24) ?hr ?_; (case hd => rfl); (case hg => rfl); (case hr => first | (go_simp; done) | (go_simp; rfl)); intro gb571 hg w6 hbox hb; have n0_ := Aside0.mk (below_step (by repeat (first | (with_reducible first | exact HB.out | apply below_alloc | apply pw_below_drewN | apply below_drew1) | exact HB.out)) hb); have n1_ := Aside0.mk (hbox); have n2_ := Aside0.mk ((by rw [hg]; exact (below_size (by repeat (first | (with_reducible first | exact HB.out | apply below_alloc | apply pw_below_drewN | apply below_drew1) | exact HB.out))) : w.heap.size ≤ gb571)); have n3_ := Aside0.mk ((by rw [hg]; exact (below_size (by repeat (first | (with_reducible first | exact HB.out | apply below_alloc | apply pw_below_drewN | apply below_drew1) | exact HB.out))) : w.heap.size ≤ gb571)); clear HB; have HB := n0_; have BK571 := n1_; have GW571 := n2_; have GE571 := n3_; clear n0_ n1_ n2_ n3_; clear hb hbox hg; have hcz7_0 : w6.cell? ⟨gb571, 0, none⟩ = some (.int .i64 a0_0) := (blk_cell BK571.out 0).trans rfl; have hcz7_1 : w6.cell? ⟨gb571, 1, none⟩ = some (.slice A0_1 l0_1.length c0_1) := (blk_cell BK571.out 1).trans rfl; have hfz7_0 := blk_frozen BK571.out 0; have hfz7_1 := blk_frozen BK571.out 1) | ((with_reducible refine gate_callee (f := 15) rfl ?_); refine goesL_ (some 20) rfl rfl Try.func15 (by kernel_rfl) rfl #[.agg #[.int .i64 a0_0, .slice A0_1 l0_1.length c0_1], .int .i64 1048576] rfl (by (try simp only [List.map_toArray, List.map_cons, List.map_nil]); first | done | rfl | (simp only [List.length_drop, List.length_take]; rfl)) ?_; (with_reducible refine (laws_szTable.calls a0_0 _ _ l0_1 1048576 t572 _ ?side1 ?side2 A4.out).mono ?_); (case side1 => repeat (first | exact (Kd.C_below HR0_1.out HB.out) | (with_reducible refine Kd.C_alloc ?_ _) | (with_reducible refine Kd.C_drewN ?_ _) | (with_reducible refine Kd.C_drew ?_))); (case side2 => exact HC0_1.out); rintro e w8 ⟨rfl, hb⟩; refine ⟨_, rfl, ?_⟩; have n0_ := Aside0.mk (blk_below (g := gb571) (o := .cells #[.int .i64 a0_0, .slice A0_1 l0_1.length c0_1] 24 (0, 0)) (by (with_reducible repeat (first | refine blk_drewN ?_ _ | refine blk_drew ?_ | refine blk_alloc ?_ _)); exact BK571.out) hb); have n1_ := Aside0.mk (below_step (by repeat (first | (with_reducible first | exact HB.out | apply below_alloc | apply pw_below_drewN | apply below_drew1 | refine below_set ?_ GE571.out) | exact HB.out)) hb); clear BK571; clear HB; have BK571 := n0_; have HB := n1_; clear n0_ n1_; (try clear hb); (try clear hb2); (try clear hk); (try clear hi)))
    go_ret
    exact ⟨by first | rfl | (simp [errW_none, errW_some] <;> rfl) | (simp [*, errW_none, errW_some] <;> rfl), by repeat (first | (with_reducible first | exact HB.out | apply below_alloc | apply pw_below_drewN | apply below_drew1 | refine below_set ?_ GE571.out) | exact HB.out)⟩
  · rw [if_neg c5] at H
    have c5b0 : decide (t572 < 0) = false := decide_eq_false c5
    clear c5
    replace H := Option.bind_eq_some_iff.mp H
    obtain ⟨⟨t573, t574⟩, A90, H⟩ := H
    replace H : ((spec_FixInput.f k t573 t574 a1 a2).bind fun bt577 => ((laws_toTable.f k a0_0 l0_1).bind fun bt583 => ((impl_FixInput.f k bt583.1 bt583.2 a1 a2).bind fun bt588 => ((laws_eqTable.f k bt588.1 bt588.2.1 bt577.1 bt577.2.1).bind fun t594 => (if t594 = true then (laws_FnExactFixInput.j0 k a1 a2 bt577.2.2 bt588.2.2 (bt588.2.2 != bt577.2.2) a0_0 l0_1 bt577.1 bt577.2.1 bt583.1 bt583.2 bt588.1 bt588.2.1) else (laws_FnExactFixInput.j0 k a1 a2 bt577.2.2 bt588.2.2 true a0_0 l0_1 bt577.1 bt577.2.1 bt583.1 bt583.2 bt588.1 bt588.2.1)))))) = some r := H
    have A9 := Aside0.mk A90
    clear A90
    replace H := Option.bind_eq_some_iff.mp H
    obtain ⟨⟨t577, t578, t581⟩, A100, H⟩ := H
    replace H : ((laws_toTable.f k a0_0 l0_1).bind fun bt583 => ((impl_FixInput.f k bt583.1 bt583.2 a1 a2).bind fun bt588 => ((laws_eqTable.f k bt588.1 bt588.2.1 t577 t578).bind fun t594 => (if t594 = true then (laws_FnExactFixInput.j0 k a1 a2 t581 bt588.2.2 (bt588.2.2 != t581) a0_0 l0_1 t577 t578 bt583.1 bt583.2 bt588.1 bt588.2.1) else (laws_FnExactFixInput.j0 k a1 a2 t581 bt588.2.2 true a0_0 l0_1 t577 t578 bt583.1 bt583.2 bt588.1 bt588.2.1))))) = some r := H
    have A10 := Aside0.mk A100
    clear A100
    replace H := Option.bind_eq_some_iff.mp H
    obtain ⟨⟨t583, t584⟩, A110, H⟩ := H
    replace H : ((impl_FixInput.f k t583 t584 a1 a2).bind fun bt588 => ((laws_eqTable.f k bt588.1 bt588.2.1 t577 t578).bind fun t594 => (if t594 = true then (laws_FnExactFixInput.j0 k a1 a2 t581 bt588.2.2 (bt588.2.2 != t581) a0_0 l0_1 t577 t578 t583 t584 bt588.1 bt588.2.1) else (laws_FnExactFixInput.j0 k a1 a2 t581 bt588.2.2 true a0_0 l0_1 t577 t578 t583 t584 bt588.1 bt588.2.1)))) = some r := H
    have A11 := Aside0.mk A110
    clear A110
    replace H := Option.bind_eq_some_iff.mp H
    obtain ⟨⟨t588, t589, t592⟩, A120, H⟩ := H
    replace H : ((laws_eqTable.f k t588 t589 t577 t578).bind fun t594 => (if t594 = true then (laws_FnExactFixInput.j0 k a1 a2 t581 t592 (t592 != t581) a0_0 l0_1 t577 t578 t583 t584 t588 t589) else (laws_FnExactFixInput.j0 k a1 a2 t581 t592 true a0_0 l0_1 t577 t578 t583 t584 t588 t589))) = some r := H
    have A12 := Aside0.mk A120
    clear A120
    have HC13 := Aside0.mk H
    clear H
    go_enter Try.func13, Try.ntmps13
    go_upto_region 8 with (first | ((with_reducible refine gate_dst (N := 3) rfl ?_); refine box_event ?hg (N := 3) ?hd (cs := #[.int .i64 a0_0, .slice A0_1 l0_1.length c0_1]) (t := 24) ?hr ?_; (case hd => rfl); (case hg => rfl); (case hr => first | (go_simp; done) | (go_simp; rfl)); intro gb571 hg w14 hbox hb; have n0_ := Aside0.mk (below_step (by repeat (first | (with_reducible first | exact HB.out | apply below_alloc | apply pw_below_drewN | apply below_drew1) | exact HB.out)) hb); have n1_ := Aside0.mk (hbox); have n2_ := Aside0.mk ((by rw [hg]; exact (below_size (by repeat (first | (with_reducible first | exact HB.out | apply below_alloc | apply pw_below_drewN | apply below_drew1) | exact HB.out))) : w.heap.size ≤ gb571)); have n3_ := Aside0.mk ((by rw [hg]; exact (below_size (by repeat (first | (with_reducible first | exact HB.out | apply below_alloc | apply pw_below_drewN | apply below_drew1) | exact HB.out))) : w.heap.size ≤ gb571)); clear HB; have HB := n0_; have BK571 := n1_; have GW571 := n2_; have GE571 := n3_; clear n0_ n1_ n2_ n3_; clear hb hbox hg; have hcz15_0 : w14.cell? ⟨gb571, 0, none⟩ = some (.int .i64 a0_0) := (blk_cell BK571.out 0).trans rfl; have hcz15_1 : w14.cell? ⟨gb571, 1, none⟩ = some (.slice A0_1 l0_1.length c0_1) := (blk_cell BK571.out 1).trans rfl; have hfz15_0 := blk_frozen BK571.out 0; have hfz15_1 := blk_frozen BK571.out 1) | ((with_reducible refine gate_callee (f := 15) rfl ?_); refine goesL_ (some 20) rfl rfl Try.func15 (by kernel_rfl) rfl #[.agg #[.int .i64 a0_0, .slice A0_1 l0_1.length c0_1], .int .i64 1048576] rfl (by (try simp only [List.map_toArray, List.map_cons, List.map_nil]); first | done | rfl | (simp only [List.length_drop, List.length_take]; rfl)) ?_; (with_reducible refine (laws_szTable.calls a0_0 _ _ l0_1 1048576 t572 _ ?side1 ?side2 A4.out).mono ?_); (case side1 => repeat (first | exact (Kd.C_below HR0_1.out HB.out) | (with_reducible refine Kd.C_alloc ?_ _) | (with_reducible refine Kd.C_drewN ?_ _) | (with_reducible refine Kd.C_drew ?_))); (case side2 => exact HC0_1.out); rintro e w16 ⟨rfl, hb⟩; refine ⟨_, rfl, ?_⟩; have n0_ := Aside0.mk (blk_below (g := gb571) (o := .cells #[.int .i64 a0_0, .slice A0_1 l0_1.length c0_1] 24 (0, 0)) (by (with_reducible repeat (first | refine blk_drewN ?_ _ | refine blk_drew ?_ | refine blk_alloc ?_ _)); exact BK571.out) hb); have n1_ := Aside0.mk (below_step (by repeat (first | (with_reducible first | exact HB.out | apply below_alloc | apply pw_below_drewN | apply below_drew1 | refine below_set ?_ GE571.out) | exact HB.out)) hb); clear BK571; clear HB; have BK571 := n0_; have HB := n1_; clear n0_ n1_; (try clear hb); (try clear hb2); (try clear hk); (try clear hi); have hcz17_0 : w16.cell? ⟨gb571, 0, none⟩ = some (.int .i64 a0_0) := (blk_cell BK571.out 0).trans rfl; have hcz17_1 : w16.cell? ⟨gb571, 1, none⟩ = some (.slice A0_1 l0_1.length c0_1) := (blk_cell BK571.out 1).trans rfl; have hfz17_0 := blk_frozen BK571.out 0; have hfz17_1 := blk_frozen BK571.out 1) | ((with_reducible refine gate_callee (f := 17) rfl ?_); refine goesL_ (some 25) rfl rfl Try.func17 (by kernel_rfl) rfl #[.agg #[.int .i64 a0_0, .slice A0_1 l0_1.length c0_1]] rfl (by (try simp only [List.map_toArray, List.map_cons, List.map_nil]); first | done | rfl | (simp only [List.length_drop, List.length_take]; rfl)) ?_; (with_reducible refine (laws_toTable.calls k a0_0 _ _ l0_1 t573 t574 _ ?side1 ?side2 A9.out).mono ?_); (case side1 => repeat (first | exact (Kd.C_below HR0_1.out HB.out) | (with_reducible refine Kd.C_alloc ?_ _) | (with_reducible refine Kd.C_drewN ?_ _) | (with_reducible refine Kd.C_drew ?_))); (case side2 => exact HC0_1.out); rintro e w18 ⟨v575, rfl, ho0, hb⟩; refine ⟨_, rfl, ?_⟩; have n0_ := Aside0.mk (Kd.R_lower ho0 (below_size (by repeat (first | (with_reducible first | exact HB.out | apply below_alloc | apply pw_below_drewN | apply below_drew1 | refine below_set ?_ GE571.out) | exact HB.out)))); have n1_ := Aside0.mk (blk_below (g := gb571) (o := .cells #[.int .i64 a0_0, .slice A0_1 l0_1.length c0_1] 24 (0, 0)) (by (with_reducible repeat (first | refine blk_drewN ?_ _ | refine blk_drew ?_ | refine blk_alloc ?_ _)); exact BK571.out) hb); have n2_ := Aside0.mk (below_step (by repeat (first | (with_reducible first | exact HB.out | apply below_alloc | apply pw_below_drewN | apply below_drew1 | refine below_set ?_ GE571.out) | exact HB.out)) hb); clear BK571; clear HB; have HO576 := n0_; have BK571 := n1_; have HB := n2_; clear n0_ n1_ n2_; (try clear hb); (try clear hb2); (try clear hk); (try clear hi); (try clear ho0); obtain ⟨Ao19, co19, eo19⟩ := Kd.R_slice HO576.out; subst eo19) | ((with_reducible refine gate_callee (f := 47) rfl ?_); refine goesL_ (some 28) rfl rfl Try.func47 (by kernel_rfl) rfl #[.agg #[.int .i64 t573, .slice Ao19 t574.length co19], .int .i64 a1, .int .i64 a2] rfl (by (try simp only [List.map_toArray, List.map_cons, List.map_nil]); first | done | rfl | (simp only [List.length_drop, List.length_take]; rfl)) ?_; (with_reducible refine (spec_FixInput.calls k t573 _ _ t574 a1 a2 t577 t578 t581 _ ?side1 ?side2 A10.out).mono ?_); (case side1 => repeat (first | exact (Kd.R_reads' HO576.out).2.2 | (with_reducible refine Kd.C_alloc ?_ _) | (with_reducible refine Kd.C_drewN ?_ _) | (with_reducible refine Kd.C_drew ?_))); (case side2 => exact (Kd.R_reads' HO576.out).2.1); rintro e w20 ⟨v579, rfl, ho0, hb⟩; refine ⟨_, rfl, ?_⟩; have n0_ := Aside0.mk (Kd.R_elder' (by (with_reducible repeat (first | apply Kd.R_alloc | apply Kd.R_drewN | apply Kd.R_drew)); exact HO576.out) (Kd.R_base ho0) hb); have n1_ := Aside0.mk (Kd.R_lower (Kd.R_new' ho0 (Kd.R_lt (by (with_reducible repeat (first | apply Kd.R_alloc | apply Kd.R_drewN | apply Kd.R_drew)); exact HO576.out))) (below_size (by repeat (first | (with_reducible first | exact HB.out | apply below_alloc | apply pw_below_drewN | apply below_drew1 | refine below_set ?_ GE571.out) | exact HB.out)))); have n2_ := Aside0.mk (blk_below (g := gb571) (o := .cells #[.int .i64 a0_0, .slice A0_1 l0_1.length c0_1] 24 (0, 0)) (by (with_reducible repeat (first | refine blk_drewN ?_ _ | refine blk_drew ?_ | refine blk_alloc ?_ _)); exact BK571.out) hb); have n3_ := Aside0.mk (below_step (by repeat (first | (with_reducible first | exact HB.out | apply below_alloc | apply pw_below_drewN | apply below_drew1 | refine below_set ?_ GE571.out) | exact HB.out)) hb); clear HO576; clear BK571; clear HB; have HO576 := n0_; have HO580 := n1_; have BK571 := n2_; have HB := n3_; clear n0_ n1_ n2_ n3_; (try clear hb); (try clear hb2); (try clear hk); (try clear hi); (try clear ho0)) | ((with_reducible refine gate_dst (N := 8) rfl ?_); refine box_event ?hg (N := 8) ?hd (cs := #[.int .i64 0, .slice none 0 0]) (t := 27) ?hr ?_; (case hd => rfl); (case hg => rfl); (case hr => first | (go_simp; done) | (go_simp; rfl)); intro gb582 hg w21 hbox hb; have n0_ := Aside0.mk (Kd.R_below (by (with_reducible repeat (first | apply Kd.R_alloc | apply Kd.R_drewN | apply Kd.R_drew)); exact HO576.out) hb); have n1_ := Aside0.mk (Kd.R_below (by (with_reducible repeat (first | apply Kd.R_alloc | apply Kd.R_drewN | apply Kd.R_drew)); exact HO580.out) hb); have n2_ := Aside0.mk (blk_below (g := gb571) (o := .cells #[.int .i64 a0_0, .slice A0_1 l0_1.length c0_1] 24 (0, 0)) (by (with_reducible repeat (first | refine blk_drewN ?_ _ | refine blk_drew ?_ | refine blk_alloc ?_ _)); exact BK571.out) hb); have n3_ := Aside0.mk (below_step (by repeat (first | (with_reducible first | exact HB.out | apply below_alloc | apply pw_below_drewN | apply below_drew1 | refine below_set ?_ GE571.out) | exact HB.out)) hb); have n4_ := Aside0.mk (hbox); have n5_ := Aside0.mk ((by rw [hg]; exact (below_size (by repeat (first | (with_reducible first | exact HB.out | apply below_alloc | apply pw_below_drewN | apply below_drew1 | refine below_set ?_ GE571.out) | exact HB.out))) : w.heap.size ≤ gb582)); have n6_ := Aside0.mk ((by rw [hg]; exact (below_size (by repeat (first | (with_reducible first | exact HB.out | apply below_alloc | apply pw_below_drewN | apply below_drew1 | refine below_set ?_ GE571.out) | exact HB.out))) : w.heap.size ≤ gb582)); have n7_ := Aside0.mk ((by rw [hg]; exact Nat.ne_of_lt (blk_lt (g := gb571) (o := .cells #[.int .i64 a0_0, .slice A0_1 l0_1.length c0_1] 24 (0, 0)) (by (with_reducible repeat (first | refine blk_drewN ?_ _ | refine blk_drew ?_ | refine blk_alloc ?_ _)); exact BK571.out)) : gb571 ≠ gb582)); have n8_ := Aside0.mk ((by rw [hg]; exact Nat.ne_of_gt (blk_lt (g := gb571) (o := .cells #[.int .i64 a0_0, .slice A0_1 l0_1.length c0_1] 24 (0, 0)) (by (with_reducible repeat (first | refine blk_drewN ?_ _ | refine blk_drew ?_ | refine blk_alloc ?_ _)); exact BK571.out)) : gb582 ≠ gb571)); clear HO576; clear HO580; clear BK571; clear HB; have HO576 := n0_; have HO580 := n1_; have BK571 := n2_; have HB := n3_; have BK582 := n4_; have GW582 := n5_; have GE582 := n6_; have NB571_582 := n7_; have NB582_571 := n8_; clear n0_ n1_ n2_ n3_ n4_ n5_ n6_ n7_ n8_; clear hb hbox hg; have hnb22 := NB582_571.out; have hnc22 := NB571_582.out; have hcz23_0 : w21.cell? ⟨gb582, 0, none⟩ = some (.int .i64 0) := (blk_cell BK582.out 0).trans rfl; have hcz23_1 : w21.cell? ⟨gb582, 1, none⟩ = some (.slice none 0 0) := (blk_cell BK582.out 1).trans rfl; have hfz23_0 := blk_frozen BK582.out 0; have hfz23_1 := blk_frozen BK582.out 1; obtain ⟨Ao24, co24, eo24⟩ := Kd.R_slice HO580.out; subst eo24; have hcz25_0 : w21.cell? ⟨gb571, 0, none⟩ = some (.int .i64 a0_0) := (blk_cell BK571.out 0).trans rfl; have hcz25_1 : w21.cell? ⟨gb571, 1, none⟩ = some (.slice A0_1 l0_1.length c0_1) := (blk_cell BK571.out 1).trans rfl; have hfz25_0 := blk_frozen BK571.out 0; have hfz25_1 := blk_frozen BK571.out 1) | ((with_reducible refine gate_callee (f := 17) rfl ?_); refine goesL_ (some 32) rfl rfl Try.func17 (by kernel_rfl) rfl #[.agg #[.int .i64 a0_0, .slice A0_1 l0_1.length c0_1]] rfl (by (try simp only [List.map_toArray, List.map_cons, List.map_nil]); first | done | rfl | (simp only [List.length_drop, List.length_take]; rfl)) ?_; (with_reducible refine (laws_toTable.calls k a0_0 _ _ l0_1 t583 t584 _ ?side1 ?side2 A11.out).mono ?_); (case side1 => exact Kd.C_below HR0_1.out (by repeat (first | (with_reducible first | exact HB.out | apply below_alloc | apply pw_below_drewN | apply below_drew1 | refine below_set ?_ GE571.out | refine below_set ?_ GE582.out) | exact HB.out))); (case side2 => exact HC0_1.out); rintro e w26 ⟨v585, rfl, ho0, hb⟩; refine ⟨_, rfl, ?_⟩; have n0_ := Aside0.mk (Kd.R_elder' (by (with_reducible repeat (first | apply Kd.R_alloc | apply Kd.R_drewN | apply Kd.R_drew)); exact (Kd.R_mono (Kd.R_far (p := ⟨gb582, 1, none⟩) (Kd.R_far (p := ⟨gb582, 0, none⟩) (Kd.R_types HO576.out BK582.out (by decide)) (fun _ hk => hk.2) (.int .i64 t577)) (fun _ hk => hk.2) (.slice Ao24 t578.length co24)) (fun _ h_ => h_.1))) (Kd.R_base ho0) hb); have n1_ := Aside0.mk (Kd.R_elder' (by (with_reducible repeat (first | apply Kd.R_alloc | apply Kd.R_drewN | apply Kd.R_drew)); exact (Kd.R_mono (Kd.R_far (p := ⟨gb582, 1, none⟩) (Kd.R_far (p := ⟨gb582, 0, none⟩) (Kd.R_types HO580.out BK582.out (by decide)) (fun _ hk => hk.2) (.int .i64 t577)) (fun _ hk => hk.2) (.slice Ao24 t578.length co24)) (fun _ h_ => h_.1))) (Kd.R_base ho0) hb); have n2_ := Aside0.mk (Kd.R_lower (Kd.R_new' (Kd.R_new' ho0 (Kd.R_lt (by (with_reducible repeat (first | apply Kd.R_alloc | apply Kd.R_drewN | apply Kd.R_drew)); exact (Kd.R_mono (Kd.R_far (p := ⟨gb582, 1, none⟩) (Kd.R_far (p := ⟨gb582, 0, none⟩) (Kd.R_types HO576.out BK582.out (by decide)) (fun _ hk => hk.2) (.int .i64 t577)) (fun _ hk => hk.2) (.slice Ao24 t578.length co24)) (fun _ h_ => h_.1))))) (Kd.R_lt (by (with_reducible repeat (first | apply Kd.R_alloc | apply Kd.R_drewN | apply Kd.R_drew)); exact (Kd.R_mono (Kd.R_far (p := ⟨gb582, 1, none⟩) (Kd.R_far (p := ⟨gb582, 0, none⟩) (Kd.R_types HO580.out BK582.out (by decide)) (fun _ hk => hk.2) (.int .i64 t577)) (fun _ hk => hk.2) (.slice Ao24 t578.length co24)) (fun _ h_ => h_.1))))) (below_size (by repeat (first | (with_reducible first | exact HB.out | apply below_alloc | apply pw_below_drewN | apply below_drew1 | refine below_set ?_ GE571.out | refine below_set ?_ GE582.out) | exact HB.out)))); have n3_ := Aside0.mk (blk_below (g := gb571) (o := .cells #[.int .i64 a0_0, .slice A0_1 l0_1.length c0_1] 24 (0, 0)) (by (with_reducible repeat (first | refine blk_drewN ?_ _ | refine blk_drew ?_ | refine blk_alloc ?_ _)); refine blk_far ?_ NB571_582.out _; (with_reducible repeat (first | refine blk_drewN ?_ _ | refine blk_drew ?_ | refine blk_alloc ?_ _)); refine blk_far ?_ NB571_582.out _; (with_reducible repeat (first | refine blk_drewN ?_ _ | refine blk_drew ?_ | refine blk_alloc ?_ _)); exact BK571.out) hb); have n4_ := Aside0.mk (blk_below (g := gb582) (o := .cells #[.int .i64 t577, .slice Ao24 t578.length co24] 27 (0, 0)) (by (with_reducible repeat (first | refine blk_drewN ?_ _ | refine blk_drew ?_ | refine blk_alloc ?_ _)); refine blk_put (cs := #[.int .i64 t577, .slice none 0 0]) ?_ 1 _ rfl; (with_reducible repeat (first | refine blk_drewN ?_ _ | refine blk_drew ?_ | refine blk_alloc ?_ _)); refine blk_put (cs := #[.int .i64 0, .slice none 0 0]) ?_ 0 _ rfl; (with_reducible repeat (first | refine blk_drewN ?_ _ | refine blk_drew ?_ | refine blk_alloc ?_ _)); exact BK582.out) hb); have n5_ := Aside0.mk (below_step (by repeat (first | (with_reducible first | exact HB.out | apply below_alloc | apply pw_below_drewN | apply below_drew1 | refine below_set ?_ GE571.out | refine below_set ?_ GE582.out) | exact HB.out)) hb); clear HO576; clear HO580; clear BK571; clear BK582; clear HB; have HO576 := n0_; have HO580 := n1_; have HO586 := n2_; have BK571 := n3_; have BK582 := n4_; have HB := n5_; clear n0_ n1_ n2_ n3_ n4_ n5_; (try clear hb); (try clear hb2); (try clear hk); (try clear hi); (try clear ho0)) | ((with_reducible refine gate_dst (N := 10) rfl ?_); refine box_event ?hg (N := 10) ?hd (cs := #[.int .i64 0, .slice none 0 0]) (t := 27) ?hr ?_; (case hd => rfl); (case hg => rfl); (case hr => first | (go_simp; done) | (go_simp; rfl)); intro gb587 hg w27 hbox hb; have n0_ := Aside0.mk (Kd.R_below (by (with_reducible repeat (first | apply Kd.R_alloc | apply Kd.R_drewN | apply Kd.R_drew)); exact HO576.out) hb); have n1_ := Aside0.mk (Kd.R_below (by (with_reducible repeat (first | apply Kd.R_alloc | apply Kd.R_drewN | apply Kd.R_drew)); exact HO580.out) hb); have n2_ := Aside0.mk (Kd.R_below (by (with_reducible repeat (first | apply Kd.R_alloc | apply Kd.R_drewN | apply Kd.R_drew)); exact HO586.out) hb); have n3_ := Aside0.mk (blk_below (g := gb571) (o := .cells #[.int .i64 a0_0, .slice A0_1 l0_1.length c0_1] 24 (0, 0)) (by (with_reducible repeat (first | refine blk_drewN ?_ _ | refine blk_drew ?_ | refine blk_alloc ?_ _)); exact BK571.out) hb); have n4_ := Aside0.mk (blk_below (g := gb582) (o := .cells #[.int .i64 t577, .slice Ao24 t578.length co24] 27 (0, 0)) (by (with_reducible repeat (first | refine blk_drewN ?_ _ | refine blk_drew ?_ | refine blk_alloc ?_ _)); exact BK582.out) hb); have n5_ := Aside0.mk (below_step (by repeat (first | (with_reducible first | exact HB.out | apply below_alloc | apply pw_below_drewN | apply below_drew1 | refine below_set ?_ GE571.out | refine below_set ?_ GE582.out) | exact HB.out)) hb); have n6_ := Aside0.mk (hbox); have n7_ := Aside0.mk ((by rw [hg]; exact (below_size (by repeat (first | (with_reducible first | exact HB.out | apply below_alloc | apply pw_below_drewN | apply below_drew1 | refine below_set ?_ GE571.out | refine below_set ?_ GE582.out) | exact HB.out))) : w.heap.size ≤ gb587)); have n8_ := Aside0.mk ((by rw [hg]; exact (below_size (by repeat (first | (with_reducible first | exact HB.out | apply below_alloc | apply pw_below_drewN | apply below_drew1 | refine below_set ?_ GE571.out | refine below_set ?_ GE582.out) | exact HB.out))) : w.heap.size ≤ gb587)); have n9_ := Aside0.mk ((by rw [hg]; exact Nat.ne_of_lt (blk_lt (g := gb571) (o := .cells #[.int .i64 a0_0, .slice A0_1 l0_1.length c0_1] 24 (0, 0)) (by (with_reducible repeat (first | refine blk_drewN ?_ _ | refine blk_drew ?_ | refine blk_alloc ?_ _)); exact BK571.out)) : gb571 ≠ gb587)); have n10_ := Aside0.mk ((by rw [hg]; exact Nat.ne_of_gt (blk_lt (g := gb571) (o := .cells #[.int .i64 a0_0, .slice A0_1 l0_1.length c0_1] 24 (0, 0)) (by (with_reducible repeat (first | refine blk_drewN ?_ _ | refine blk_drew ?_ | refine blk_alloc ?_ _)); exact BK571.out)) : gb587 ≠ gb571)); have n11_ := Aside0.mk ((by rw [hg]; exact Nat.ne_of_lt (blk_lt (g := gb582) (o := .cells #[.int .i64 t577, .slice Ao24 t578.length co24] 27 (0, 0)) (by (with_reducible repeat (first | refine blk_drewN ?_ _ | refine blk_drew ?_ | refine blk_alloc ?_ _)); exact BK582.out)) : gb582 ≠ gb587)); have n12_ := Aside0.mk ((by rw [hg]; exact Nat.ne_of_gt (blk_lt (g := gb582) (o := .cells #[.int .i64 t577, .slice Ao24 t578.length co24] 27 (0, 0)) (by (with_reducible repeat (first | refine blk_drewN ?_ _ | refine blk_drew ?_ | refine blk_alloc ?_ _)); exact BK582.out)) : gb587 ≠ gb582)); clear HO576; clear HO580; clear HO586; clear BK571; clear BK582; clear HB; have HO576 := n0_; have HO580 := n1_; have HO586 := n2_; have BK571 := n3_; have BK582 := n4_; have HB := n5_; have BK587 := n6_; have GW587 := n7_; have GE587 := n8_; have NB571_587 := n9_; have NB587_571 := n10_; have NB582_587 := n11_; have NB587_582 := n12_; clear n0_ n1_ n2_ n3_ n4_ n5_ n6_ n7_ n8_ n9_ n10_ n11_ n12_; clear hb hbox hg; have hnb28 := NB587_571.out; have hnc28 := NB571_587.out; have hnb29 := NB587_582.out; have hnc29 := NB582_587.out; have hcz30_0 : w27.cell? ⟨gb587, 0, none⟩ = some (.int .i64 0) := (blk_cell BK587.out 0).trans rfl; have hcz30_1 : w27.cell? ⟨gb587, 1, none⟩ = some (.slice none 0 0) := (blk_cell BK587.out 1).trans rfl; have hfz30_0 := blk_frozen BK587.out 0; have hfz30_1 := blk_frozen BK587.out 1; obtain ⟨Ao31, co31, eo31⟩ := Kd.R_slice HO586.out; subst eo31) | ((with_reducible refine gate_callee (f := 48) rfl ?_); refine goesL_ (some 37) rfl rfl Try.func48 (by kernel_rfl) rfl #[.agg #[.int .i64 t583, .slice Ao31 t584.length co31], .int .i64 a1, .int .i64 a2] rfl (by (try simp only [List.map_toArray, List.map_cons, List.map_nil]); first | done | rfl | (simp only [List.length_drop, List.length_take]; rfl)) ?_; (with_reducible refine (impl_FixInput.calls k t583 _ _ t584 a1 a2 t588 t589 t592 _ ?side1 ?side2 A12.out).mono ?_); (case side1 => refine (Kd.R_reads' (e := 3) (base := w.heap.size) (ok := fun k_ => ((True ∧ some k_ ≠ (.slice Ao19 t574.length co19 : Value).ownBlock) ∧ some k_ ≠ (.slice Ao24 t578.length co24 : Value).ownBlock)) (n := t584.length) (c := co31) ?_).2.2; exact (by (with_reducible repeat (first | apply Kd.R_alloc | apply Kd.R_drewN | apply Kd.R_drew)); exact (Kd.R_mono (Kd.R_far (p := ⟨gb587, 1, none⟩) (Kd.R_far (p := ⟨gb587, 0, none⟩) (Kd.R_types HO586.out BK587.out (by decide)) (fun _ hk => hk.2) (.int .i64 t583)) (fun _ hk => hk.2) (.slice Ao31 t584.length co31)) (fun _ h_ => h_.1)))); (case side2 => exact (Kd.R_reads' HO586.out).2.1); rintro e w32 ⟨v590, rfl, ho0, hb⟩; refine ⟨_, rfl, ?_⟩; have n0_ := Aside0.mk (Kd.R_elder' (by (with_reducible repeat (first | apply Kd.R_alloc | apply Kd.R_drewN | apply Kd.R_drew)); exact (Kd.R_mono (Kd.R_far (p := ⟨gb587, 1, none⟩) (Kd.R_far (p := ⟨gb587, 0, none⟩) (Kd.R_types HO576.out BK587.out (by decide)) (fun _ hk => hk.2) (.int .i64 t583)) (fun _ hk => hk.2) (.slice Ao31 t584.length co31)) (fun _ h_ => h_.1))) (Kd.R_base ho0) hb); have n1_ := Aside0.mk (Kd.R_elder' (by (with_reducible repeat (first | apply Kd.R_alloc | apply Kd.R_drewN | apply Kd.R_drew)); exact (Kd.R_mono (Kd.R_far (p := ⟨gb587, 1, none⟩) (Kd.R_far (p := ⟨gb587, 0, none⟩) (Kd.R_types HO580.out BK587.out (by decide)) (fun _ hk => hk.2) (.int .i64 t583)) (fun _ hk => hk.2) (.slice Ao31 t584.length co31)) (fun _ h_ => h_.1))) (Kd.R_base ho0) hb); have n2_ := Aside0.mk (Kd.R_elder' (by (with_reducible repeat (first | apply Kd.R_alloc | apply Kd.R_drewN | apply Kd.R_drew)); exact (Kd.R_mono (Kd.R_far (p := ⟨gb587, 1, none⟩) (Kd.R_far (p := ⟨gb587, 0, none⟩) (Kd.R_types HO586.out BK587.out (by decide)) (fun _ hk => hk.2) (.int .i64 t583)) (fun _ hk => hk.2) (.slice Ao31 t584.length co31)) (fun _ h_ => h_.1))) (Kd.R_base ho0) hb); have n3_ := Aside0.mk (Kd.R_lower (Kd.R_new' (Kd.R_new' (Kd.R_new' ho0 (Kd.R_lt (by (with_reducible repeat (first | apply Kd.R_alloc | apply Kd.R_drewN | apply Kd.R_drew)); exact (Kd.R_mono (Kd.R_far (p := ⟨gb587, 1, none⟩) (Kd.R_far (p := ⟨gb587, 0, none⟩) (Kd.R_types HO576.out BK587.out (by decide)) (fun _ hk => hk.2) (.int .i64 t583)) (fun _ hk => hk.2) (.slice Ao31 t584.length co31)) (fun _ h_ => h_.1))))) (Kd.R_lt (by (with_reducible repeat (first | apply Kd.R_alloc | apply Kd.R_drewN | apply Kd.R_drew)); exact (Kd.R_mono (Kd.R_far (p := ⟨gb587, 1, none⟩) (Kd.R_far (p := ⟨gb587, 0, none⟩) (Kd.R_types HO580.out BK587.out (by decide)) (fun _ hk => hk.2) (.int .i64 t583)) (fun _ hk => hk.2) (.slice Ao31 t584.length co31)) (fun _ h_ => h_.1))))) (Kd.R_lt (by (with_reducible repeat (first | apply Kd.R_alloc | apply Kd.R_drewN | apply Kd.R_drew)); exact (Kd.R_mono (Kd.R_far (p := ⟨gb587, 1, none⟩) (Kd.R_far (p := ⟨gb587, 0, none⟩) (Kd.R_types HO586.out BK587.out (by decide)) (fun _ hk => hk.2) (.int .i64 t583)) (fun _ hk => hk.2) (.slice Ao31 t584.length co31)) (fun _ h_ => h_.1))))) (below_size (by repeat (first | (with_reducible first | exact HB.out | apply below_alloc | apply pw_below_drewN | apply below_drew1 | refine below_set ?_ GE571.out | refine below_set ?_ GE582.out | refine below_set ?_ GE587.out) | exact HB.out)))); have n4_ := Aside0.mk (blk_below (g := gb571) (o := .cells #[.int .i64 a0_0, .slice A0_1 l0_1.length c0_1] 24 (0, 0)) (by (with_reducible repeat (first | refine blk_drewN ?_ _ | refine blk_drew ?_ | refine blk_alloc ?_ _)); refine blk_far ?_ NB571_587.out _; (with_reducible repeat (first | refine blk_drewN ?_ _ | refine blk_drew ?_ | refine blk_alloc ?_ _)); refine blk_far ?_ NB571_587.out _; (with_reducible repeat (first | refine blk_drewN ?_ _ | refine blk_drew ?_ | refine blk_alloc ?_ _)); exact BK571.out) hb); have n5_ := Aside0.mk (blk_below (g := gb582) (o := .cells #[.int .i64 t577, .slice Ao24 t578.length co24] 27 (0, 0)) (by (with_reducible repeat (first | refine blk_drewN ?_ _ | refine blk_drew ?_ | refine blk_alloc ?_ _)); refine blk_far ?_ NB582_587.out _; (with_reducible repeat (first | refine blk_drewN ?_ _ | refine blk_drew ?_ | refine blk_alloc ?_ _)); refine blk_far ?_ NB582_587.out _; (with_reducible repeat (first | refine blk_drewN ?_ _ | refine blk_drew ?_ | refine blk_alloc ?_ _)); exact BK582.out) hb); have n6_ := Aside0.mk (blk_below (g := gb587) (o := .cells #[.int .i64 t583, .slice Ao31 t584.length co31] 27 (0, 0)) (by (with_reducible repeat (first | refine blk_drewN ?_ _ | refine blk_drew ?_ | refine blk_alloc ?_ _)); refine blk_put (cs := #[.int .i64 t583, .slice none 0 0]) ?_ 1 _ rfl; (with_reducible repeat (first | refine blk_drewN ?_ _ | refine blk_drew ?_ | refine blk_alloc ?_ _)); refine blk_put (cs := #[.int .i64 0, .slice none 0 0]) ?_ 0 _ rfl; (with_reducible repeat (first | refine blk_drewN ?_ _ | refine blk_drew ?_ | refine blk_alloc ?_ _)); exact BK587.out) hb); have n7_ := Aside0.mk (below_step (by repeat (first | (with_reducible first | exact HB.out | apply below_alloc | apply pw_below_drewN | apply below_drew1 | refine below_set ?_ GE571.out | refine below_set ?_ GE582.out | refine below_set ?_ GE587.out) | exact HB.out)) hb); clear HO576; clear HO580; clear HO586; clear BK571; clear BK582; clear BK587; clear HB; have HO576 := n0_; have HO580 := n1_; have HO586 := n2_; have HO591 := n3_; have BK571 := n4_; have BK582 := n5_; have BK587 := n6_; have HB := n7_; clear n0_ n1_ n2_ n3_ n4_ n5_ n6_ n7_; (try clear hb); (try clear hb2); (try clear hk); (try clear hi); (try clear ho0)) | ((with_reducible refine gate_dst (N := 11) rfl ?_); refine box_event ?hg (N := 11) ?hd (cs := #[.int .i64 0, .slice none 0 0]) (t := 27) ?hr ?_; (case hd => rfl); (case hg => rfl); (case hr => first | (go_simp; done) | (go_simp; rfl)); intro gb593 hg w33 hbox hb; have n0_ := Aside0.mk (Kd.R_below (by (with_reducible repeat (first | apply Kd.R_alloc | apply Kd.R_drewN | apply Kd.R_drew)); exact HO576.out) hb); have n1_ := Aside0.mk (Kd.R_below (by (with_reducible repeat (first | apply Kd.R_alloc | apply Kd.R_drewN | apply Kd.R_drew)); exact HO580.out) hb); have n2_ := Aside0.mk (Kd.R_below (by (with_reducible repeat (first | apply Kd.R_alloc | apply Kd.R_drewN | apply Kd.R_drew)); exact HO586.out) hb); have n3_ := Aside0.mk (Kd.R_below (by (with_reducible repeat (first | apply Kd.R_alloc | apply Kd.R_drewN | apply Kd.R_drew)); exact HO591.out) hb); have n4_ := Aside0.mk (blk_below (g := gb571) (o := .cells #[.int .i64 a0_0, .slice A0_1 l0_1.length c0_1] 24 (0, 0)) (by (with_reducible repeat (first | refine blk_drewN ?_ _ | refine blk_drew ?_ | refine blk_alloc ?_ _)); exact BK571.out) hb); have n5_ := Aside0.mk (blk_below (g := gb582) (o := .cells #[.int .i64 t577, .slice Ao24 t578.length co24] 27 (0, 0)) (by (with_reducible repeat (first | refine blk_drewN ?_ _ | refine blk_drew ?_ | refine blk_alloc ?_ _)); exact BK582.out) hb); have n6_ := Aside0.mk (blk_below (g := gb587) (o := .cells #[.int .i64 t583, .slice Ao31 t584.length co31] 27 (0, 0)) (by (with_reducible repeat (first | refine blk_drewN ?_ _ | refine blk_drew ?_ | refine blk_alloc ?_ _)); exact BK587.out) hb); have n7_ := Aside0.mk (below_step (by repeat (first | (with_reducible first | exact HB.out | apply below_alloc | apply pw_below_drewN | apply below_drew1 | refine below_set ?_ GE571.out | refine below_set ?_ GE582.out | refine below_set ?_ GE587.out) | exact HB.out)) hb); have n8_ := Aside0.mk (hbox); have n9_ := Aside0.mk ((by rw [hg]; exact (below_size (by repeat (first | (with_reducible first | exact HB.out | apply below_alloc | apply pw_below_drewN | apply below_drew1 | refine below_set ?_ GE571.out | refine below_set ?_ GE582.out | refine below_set ?_ GE587.out) | exact HB.out))) : w.heap.size ≤ gb593)); have n10_ := Aside0.mk ((by rw [hg]; exact (below_size (by repeat (first | (with_reducible first | exact HB.out | apply below_alloc | apply pw_below_drewN | apply below_drew1 | refine below_set ?_ GE571.out | refine below_set ?_ GE582.out | refine below_set ?_ GE587.out) | exact HB.out))) : w.heap.size ≤ gb593)); have n11_ := Aside0.mk ((by rw [hg]; exact Nat.ne_of_lt (blk_lt (g := gb571) (o := .cells #[.int .i64 a0_0, .slice A0_1 l0_1.length c0_1] 24 (0, 0)) (by (with_reducible repeat (first | refine blk_drewN ?_ _ | refine blk_drew ?_ | refine blk_alloc ?_ _)); exact BK571.out)) : gb571 ≠ gb593)); have n12_ := Aside0.mk ((by rw [hg]; exact Nat.ne_of_gt (blk_lt (g := gb571) (o := .cells #[.int .i64 a0_0, .slice A0_1 l0_1.length c0_1] 24 (0, 0)) (by (with_reducible repeat (first | refine blk_drewN ?_ _ | refine blk_drew ?_ | refine blk_alloc ?_ _)); exact BK571.out)) : gb593 ≠ gb571)); have n13_ := Aside0.mk ((by rw [hg]; exact Nat.ne_of_lt (blk_lt (g := gb582) (o := .cells #[.int .i64 t577, .slice Ao24 t578.length co24] 27 (0, 0)) (by (with_reducible repeat (first | refine blk_drewN ?_ _ | refine blk_drew ?_ | refine blk_alloc ?_ _)); exact BK582.out)) : gb582 ≠ gb593)); have n14_ := Aside0.mk ((by rw [hg]; exact Nat.ne_of_gt (blk_lt (g := gb582) (o := .cells #[.int .i64 t577, .slice Ao24 t578.length co24] 27 (0, 0)) (by (with_reducible repeat (first | refine blk_drewN ?_ _ | refine blk_drew ?_ | refine blk_alloc ?_ _)); exact BK582.out)) : gb593 ≠ gb582)); have n15_ := Aside0.mk ((by rw [hg]; exact Nat.ne_of_lt (blk_lt (g := gb587) (o := .cells #[.int .i64 t583, .slice Ao31 t584.length co31] 27 (0, 0)) (by (with_reducible repeat (first | refine blk_drewN ?_ _ | refine blk_drew ?_ | refine blk_alloc ?_ _)); exact BK587.out)) : gb587 ≠ gb593)); have n16_ := Aside0.mk ((by rw [hg]; exact Nat.ne_of_gt (blk_lt (g := gb587) (o := .cells #[.int .i64 t583, .slice Ao31 t584.length co31] 27 (0, 0)) (by (with_reducible repeat (first | refine blk_drewN ?_ _ | refine blk_drew ?_ | refine blk_alloc ?_ _)); exact BK587.out)) : gb593 ≠ gb587)); clear HO576; clear HO580; clear HO586; clear HO591; clear BK571; clear BK582; clear BK587; clear HB; have HO576 := n0_; have HO580 := n1_; have HO586 := n2_; have HO591 := n3_; have BK571 := n4_; have BK582 := n5_; have BK587 := n6_; have HB := n7_; have BK593 := n8_; have GW593 := n9_; have GE593 := n10_; have NB571_593 := n11_; have NB593_571 := n12_; have NB582_593 := n13_; have NB593_582 := n14_; have NB587_593 := n15_; have NB593_587 := n16_; clear n0_ n1_ n2_ n3_ n4_ n5_ n6_ n7_ n8_ n9_ n10_ n11_ n12_ n13_ n14_ n15_ n16_; clear hb hbox hg; have hnb34 := NB593_571.out; have hnc34 := NB571_593.out; have hnb35 := NB593_582.out; have hnc35 := NB582_593.out; have hnb36 := NB593_587.out; have hnc36 := NB587_593.out; have hcz37_0 : w33.cell? ⟨gb593, 0, none⟩ = some (.int .i64 0) := (blk_cell BK593.out 0).trans rfl; have hcz37_1 : w33.cell? ⟨gb593, 1, none⟩ = some (.slice none 0 0) := (blk_cell BK593.out 1).trans rfl; have hfz37_0 := blk_frozen BK593.out 0; have hfz37_1 := blk_frozen BK593.out 1; obtain ⟨Ao38, co38, eo38⟩ := Kd.R_slice HO591.out; subst eo38))
    (try simp only [Act.put, List.setIfInBounds_toArray, List.set_cons_zero, List.set_cons_succ])
    go_cut [48] (fun v48 wc => ∃ (kq : Nat) (x48_12 : Bool), v48 = .bool x48_12 ∧ Aside0 (laws_FnExactFixInput.j0 kq a1 a2 t581 t592 x48_12 a0_0 l0_1 t577 t578 t583 t584 t588 t589 = some r) ∧ Aside0 (kq ≤ k) ∧ Aside0 (Kd.R (Kd.int .i64) 3 wc w.heap.size (fun k_ => some k_ ≠ ((.slice Ao31 t584.length co31) : Value).ownBlock ∧ some k_ ≠ ((.slice Ao38 t589.length co38) : Value).ownBlock) (.slice Ao24 t578.length co24) t578) ∧ Aside0 (Kd.R (Kd.int .i64) 3 wc w.heap.size (fun k_ => some k_ ≠ ((.slice Ao24 t578.length co24) : Value).ownBlock ∧ some k_ ≠ ((.slice Ao38 t589.length co38) : Value).ownBlock) (.slice Ao31 t584.length co31) t584) ∧ Aside0 (Kd.R (Kd.int .i64) 3 wc w.heap.size (fun k_ => some k_ ≠ ((.slice Ao24 t578.length co24) : Value).ownBlock ∧ some k_ ≠ ((.slice Ao31 t584.length co31) : Value).ownBlock) (.slice Ao38 t589.length co38) t589) ∧ Aside0 (wc.heap[gb571]? = some (.cells #[.int .i64 a0_0, (.slice A0_1 l0_1.length c0_1)] 24 (0, 0))) ∧ Aside0 (wc.heap[gb582]? = some (.cells #[.int .i64 t577, (.slice Ao24 t578.length co24)] 27 (0, 0))) ∧ Aside0 (wc.heap[gb587]? = some (.cells #[.int .i64 t583, (.slice Ao31 t584.length co31)] 27 (0, 0))) ∧ Aside0 (wc.heap[gb593]? = some (.cells #[.int .i64 t588, (.slice Ao38 t589.length co38)] 27 (0, 0))) ∧ Aside0 (Below w.heap.size w wc))
    case first =>
      have H := HC13.out
      clear HC13
      replace H := Option.bind_eq_some_iff.mp H
      obtain ⟨t594, A390, H⟩ := H
      replace H : (if t594 = true then (laws_FnExactFixInput.j0 k a1 a2 t581 t592 (t592 != t581) a0_0 l0_1 t577 t578 t583 t584 t588 t589) else (laws_FnExactFixInput.j0 k a1 a2 t581 t592 true a0_0 l0_1 t577 t578 t583 t584 t588 t589)) = some r := H
      have A39 := Aside0.mk A390
      clear A390
      by_cases c40 : t594 = true
      · subst c40
        have H1 : (laws_FnExactFixInput.j0 k a1 a2 t581 t592 (t592 != t581) a0_0 l0_1 t577 t578 t583 t584 t588 t589) = some r := by rw [if_pos rfl] at H; exact H
        clear H
        have H := H1
        clear H1
        have H' := Aside0.mk H
        clear H
        have hnb41 := NB593_571.out
        have hnc41 := NB571_593.out
        have hnb42 := NB593_582.out
        have hnc42 := NB582_593.out
        have hnb43 := NB593_587.out
        have hnc43 := NB587_593.out
        have hcz44_0 : w33.cell? ⟨gb593, 0, none⟩ = some (.int .i64 0) := (blk_cell BK593.out 0).trans rfl
        have hcz44_1 : w33.cell? ⟨gb593, 1, none⟩ = some (.slice none 0 0) := (blk_cell BK593.out 1).trans rfl
        have hfz44_0 := blk_frozen BK593.out 0
        have hfz44_1 := blk_frozen BK593.out 1
        have hnb45 := NB582_571.out
        have hnc45 := NB571_582.out
        have hnb46 := NB582_587.out
        have hnc46 := NB587_582.out
        have hcz47_0 : w33.cell? ⟨gb582, 0, none⟩ = some (.int .i64 t577) := (blk_cell BK582.out 0).trans rfl
        have hcz47_1 : w33.cell? ⟨gb582, 1, none⟩ = some (.slice Ao24 t578.length co24) := (blk_cell BK582.out 1).trans rfl
        have hfz47_0 := blk_frozen BK582.out 0
        have hfz47_1 := blk_frozen BK582.out 1
        go_wp2_with (first | ((with_reducible refine gate_callee (f := 19) rfl ?_); refine goesL_ (some 42) rfl rfl Try.func19 (by kernel_rfl) rfl #[.agg #[.int .i64 t588, .slice Ao38 t589.length co38], .agg #[.int .i64 t577, .slice Ao24 t578.length co24]] rfl (by (try simp only [List.map_toArray, List.map_cons, List.map_nil]); first | done | rfl | (simp only [List.length_drop, List.length_take]; rfl)) ?_; (with_reducible refine (laws_eqTable.calls k t588 _ _ t589 t577 _ _ t578 true _ ?side1 ?side2 ?side3 ?side4 A39.out).mono ?_); (case side1 => refine (Kd.R_reads' (e := 3) (base := w.heap.size) (ok := fun k_ => (((True ∧ some k_ ≠ (.slice Ao19 t574.length co19 : Value).ownBlock) ∧ some k_ ≠ (.slice Ao24 t578.length co24 : Value).ownBlock) ∧ some k_ ≠ (.slice Ao31 t584.length co31 : Value).ownBlock)) (n := t589.length) (c := co38) ?_).2.2; exact (by (with_reducible repeat (first | apply Kd.R_alloc | apply Kd.R_drewN | apply Kd.R_drew)); exact (Kd.R_mono (Kd.R_far (p := ⟨gb593, 1, none⟩) (Kd.R_far (p := ⟨gb593, 0, none⟩) (Kd.R_types HO591.out BK593.out (by decide)) (fun _ hk => hk.2) (.int .i64 t588)) (fun _ hk => hk.2) (.slice Ao38 t589.length co38)) (fun _ h_ => h_.1)))); (case side2 => exact (Kd.R_reads' HO591.out).2.1); (case side3 => refine (Kd.R_reads' (e := 3) (base := w.heap.size) (ok := fun k_ => (((True ∧ some k_ ≠ (.slice Ao19 t574.length co19 : Value).ownBlock) ∧ some k_ ≠ (.slice Ao31 t584.length co31 : Value).ownBlock) ∧ some k_ ≠ (.slice Ao38 t589.length co38 : Value).ownBlock)) (n := t578.length) (c := co24) ?_).2.2; exact (by (with_reducible repeat (first | apply Kd.R_alloc | apply Kd.R_drewN | apply Kd.R_drew)); exact (Kd.R_mono (Kd.R_far (p := ⟨gb593, 1, none⟩) (Kd.R_far (p := ⟨gb593, 0, none⟩) (Kd.R_types HO580.out BK593.out (by decide)) (fun _ hk => hk.2) (.int .i64 t588)) (fun _ hk => hk.2) (.slice Ao38 t589.length co38)) (fun _ h_ => h_.1)))); (case side4 => exact (Kd.R_reads' HO580.out).2.1); rintro e w48 ⟨rfl, hb⟩; refine ⟨_, rfl, ?_⟩; have n0_ := Aside0.mk (Kd.R_below (by (with_reducible repeat (first | apply Kd.R_alloc | apply Kd.R_drewN | apply Kd.R_drew)); exact (Kd.R_mono (Kd.R_far (p := ⟨gb593, 1, none⟩) (Kd.R_far (p := ⟨gb593, 0, none⟩) (Kd.R_types HO576.out BK593.out (by decide)) (fun _ hk => hk.2) (.int .i64 t588)) (fun _ hk => hk.2) (.slice Ao38 t589.length co38)) (fun _ h_ => h_.1))) hb); have n1_ := Aside0.mk (Kd.R_below (by (with_reducible repeat (first | apply Kd.R_alloc | apply Kd.R_drewN | apply Kd.R_drew)); exact (Kd.R_mono (Kd.R_far (p := ⟨gb593, 1, none⟩) (Kd.R_far (p := ⟨gb593, 0, none⟩) (Kd.R_types HO580.out BK593.out (by decide)) (fun _ hk => hk.2) (.int .i64 t588)) (fun _ hk => hk.2) (.slice Ao38 t589.length co38)) (fun _ h_ => h_.1))) hb); have n2_ := Aside0.mk (Kd.R_below (by (with_reducible repeat (first | apply Kd.R_alloc | apply Kd.R_drewN | apply Kd.R_drew)); exact (Kd.R_mono (Kd.R_far (p := ⟨gb593, 1, none⟩) (Kd.R_far (p := ⟨gb593, 0, none⟩) (Kd.R_types HO586.out BK593.out (by decide)) (fun _ hk => hk.2) (.int .i64 t588)) (fun _ hk => hk.2) (.slice Ao38 t589.length co38)) (fun _ h_ => h_.1))) hb); have n3_ := Aside0.mk (Kd.R_below (by (with_reducible repeat (first | apply Kd.R_alloc | apply Kd.R_drewN | apply Kd.R_drew)); exact (Kd.R_mono (Kd.R_far (p := ⟨gb593, 1, none⟩) (Kd.R_far (p := ⟨gb593, 0, none⟩) (Kd.R_types HO591.out BK593.out (by decide)) (fun _ hk => hk.2) (.int .i64 t588)) (fun _ hk => hk.2) (.slice Ao38 t589.length co38)) (fun _ h_ => h_.1))) hb); have n4_ := Aside0.mk (blk_below (g := gb571) (o := .cells #[.int .i64 a0_0, .slice A0_1 l0_1.length c0_1] 24 (0, 0)) (by (with_reducible repeat (first | refine blk_drewN ?_ _ | refine blk_drew ?_ | refine blk_alloc ?_ _)); refine blk_far ?_ NB571_593.out _; (with_reducible repeat (first | refine blk_drewN ?_ _ | refine blk_drew ?_ | refine blk_alloc ?_ _)); refine blk_far ?_ NB571_593.out _; (with_reducible repeat (first | refine blk_drewN ?_ _ | refine blk_drew ?_ | refine blk_alloc ?_ _)); exact BK571.out) hb); have n5_ := Aside0.mk (blk_below (g := gb582) (o := .cells #[.int .i64 t577, .slice Ao24 t578.length co24] 27 (0, 0)) (by (with_reducible repeat (first | refine blk_drewN ?_ _ | refine blk_drew ?_ | refine blk_alloc ?_ _)); refine blk_far ?_ NB582_593.out _; (with_reducible repeat (first | refine blk_drewN ?_ _ | refine blk_drew ?_ | refine blk_alloc ?_ _)); refine blk_far ?_ NB582_593.out _; (with_reducible repeat (first | refine blk_drewN ?_ _ | refine blk_drew ?_ | refine blk_alloc ?_ _)); exact BK582.out) hb); have n6_ := Aside0.mk (blk_below (g := gb587) (o := .cells #[.int .i64 t583, .slice Ao31 t584.length co31] 27 (0, 0)) (by (with_reducible repeat (first | refine blk_drewN ?_ _ | refine blk_drew ?_ | refine blk_alloc ?_ _)); refine blk_far ?_ NB587_593.out _; (with_reducible repeat (first | refine blk_drewN ?_ _ | refine blk_drew ?_ | refine blk_alloc ?_ _)); refine blk_far ?_ NB587_593.out _; (with_reducible repeat (first | refine blk_drewN ?_ _ | refine blk_drew ?_ | refine blk_alloc ?_ _)); exact BK587.out) hb); have n7_ := Aside0.mk (blk_below (g := gb593) (o := .cells #[.int .i64 t588, .slice Ao38 t589.length co38] 27 (0, 0)) (by (with_reducible repeat (first | refine blk_drewN ?_ _ | refine blk_drew ?_ | refine blk_alloc ?_ _)); refine blk_put (cs := #[.int .i64 t588, .slice none 0 0]) ?_ 1 _ rfl; (with_reducible repeat (first | refine blk_drewN ?_ _ | refine blk_drew ?_ | refine blk_alloc ?_ _)); refine blk_put (cs := #[.int .i64 0, .slice none 0 0]) ?_ 0 _ rfl; (with_reducible repeat (first | refine blk_drewN ?_ _ | refine blk_drew ?_ | refine blk_alloc ?_ _)); exact BK593.out) hb); have n8_ := Aside0.mk (below_step (by repeat (first | (with_reducible first | exact HB.out | apply below_alloc | apply pw_below_drewN | apply below_drew1 | refine below_set ?_ GE571.out | refine below_set ?_ GE582.out | refine below_set ?_ GE587.out | refine below_set ?_ GE593.out) | exact HB.out)) hb); clear HO576; clear HO580; clear HO586; clear HO591; clear BK571; clear BK582; clear BK587; clear BK593; clear HB; have HO576 := n0_; have HO580 := n1_; have HO586 := n2_; have HO591 := n3_; have BK571 := n4_; have BK582 := n5_; have BK587 := n6_; have BK593 := n7_; have HB := n8_; clear n0_ n1_ n2_ n3_ n4_ n5_ n6_ n7_ n8_; (try clear hb); (try clear hb2); (try clear hk); (try clear hi)))
        go_meet
        case rel => exact ⟨_, ((t592 != t581)), (by first | rfl | (simp; done) | (simp [*]; done)), H', ⟨by first | omega | exact Nat.le_refl _⟩, ⟨by (with_reducible repeat (first | apply Kd.R_alloc | apply Kd.R_drewN | apply Kd.R_drew)); exact Kd.R_mono HO580.out (fun _ hk => ⟨hk.1.2, hk.2⟩)⟩, ⟨by (with_reducible repeat (first | apply Kd.R_alloc | apply Kd.R_drewN | apply Kd.R_drew)); exact Kd.R_mono HO586.out (fun _ hk => ⟨hk.1.2, hk.2⟩)⟩, ⟨by (with_reducible repeat (first | apply Kd.R_alloc | apply Kd.R_drewN | apply Kd.R_drew)); exact Kd.R_mono HO591.out (fun _ hk => ⟨hk.1.2, hk.2⟩)⟩, ⟨by (with_reducible repeat (first | refine blk_drewN ?_ _ | refine blk_drew ?_ | refine blk_alloc ?_ _)); exact BK571.out⟩, ⟨by (with_reducible repeat (first | refine blk_drewN ?_ _ | refine blk_drew ?_ | refine blk_alloc ?_ _)); exact BK582.out⟩, ⟨by (with_reducible repeat (first | refine blk_drewN ?_ _ | refine blk_drew ?_ | refine blk_alloc ?_ _)); exact BK587.out⟩, ⟨by (with_reducible repeat (first | refine blk_drewN ?_ _ | refine blk_drew ?_ | refine blk_alloc ?_ _)); exact BK593.out⟩, ⟨by repeat (first | (with_reducible first | exact HB.out | apply below_alloc | apply pw_below_drewN | apply below_drew1 | refine below_set ?_ GE571.out | refine below_set ?_ GE582.out | refine below_set ?_ GE587.out | refine below_set ?_ GE593.out) | exact HB.out)⟩⟩
      · replace c40 := Bool.eq_false_iff.mpr c40
        subst c40
        have H1 : (laws_FnExactFixInput.j0 k a1 a2 t581 t592 true a0_0 l0_1 t577 t578 t583 t584 t588 t589) = some r := by rw [if_neg (show ¬ (false = true) by decide)] at H; exact H
        clear H
        have H := H1
        clear H1
        have H' := Aside0.mk H
        clear H
        have hnb49 := NB593_571.out
        have hnc49 := NB571_593.out
        have hnb50 := NB593_582.out
        have hnc50 := NB582_593.out
        have hnb51 := NB593_587.out
        have hnc51 := NB587_593.out
        have hcz52_0 : w33.cell? ⟨gb593, 0, none⟩ = some (.int .i64 0) := (blk_cell BK593.out 0).trans rfl
        have hcz52_1 : w33.cell? ⟨gb593, 1, none⟩ = some (.slice none 0 0) := (blk_cell BK593.out 1).trans rfl
        have hfz52_0 := blk_frozen BK593.out 0
        have hfz52_1 := blk_frozen BK593.out 1
        have hnb53 := NB582_571.out
        have hnc53 := NB571_582.out
        have hnb54 := NB582_587.out
        have hnc54 := NB587_582.out
        have hcz55_0 : w33.cell? ⟨gb582, 0, none⟩ = some (.int .i64 t577) := (blk_cell BK582.out 0).trans rfl
        have hcz55_1 : w33.cell? ⟨gb582, 1, none⟩ = some (.slice Ao24 t578.length co24) := (blk_cell BK582.out 1).trans rfl
        have hfz55_0 := blk_frozen BK582.out 0
        have hfz55_1 := blk_frozen BK582.out 1
        go_wp2_with (first | ((with_reducible refine gate_callee (f := 19) rfl ?_); refine goesL_ (some 42) rfl rfl Try.func19 (by kernel_rfl) rfl #[.agg #[.int .i64 t588, .slice Ao38 t589.length co38], .agg #[.int .i64 t577, .slice Ao24 t578.length co24]] rfl (by (try simp only [List.map_toArray, List.map_cons, List.map_nil]); first | done | rfl | (simp only [List.length_drop, List.length_take]; rfl)) ?_; (with_reducible refine (laws_eqTable.calls k t588 _ _ t589 t577 _ _ t578 false _ ?side1 ?side2 ?side3 ?side4 A39.out).mono ?_); (case side1 => refine (Kd.R_reads' (e := 3) (base := w.heap.size) (ok := fun k_ => (((True ∧ some k_ ≠ (.slice Ao19 t574.length co19 : Value).ownBlock) ∧ some k_ ≠ (.slice Ao24 t578.length co24 : Value).ownBlock) ∧ some k_ ≠ (.slice Ao31 t584.length co31 : Value).ownBlock)) (n := t589.length) (c := co38) ?_).2.2; exact (by (with_reducible repeat (first | apply Kd.R_alloc | apply Kd.R_drewN | apply Kd.R_drew)); exact (Kd.R_mono (Kd.R_far (p := ⟨gb593, 1, none⟩) (Kd.R_far (p := ⟨gb593, 0, none⟩) (Kd.R_types HO591.out BK593.out (by decide)) (fun _ hk => hk.2) (.int .i64 t588)) (fun _ hk => hk.2) (.slice Ao38 t589.length co38)) (fun _ h_ => h_.1)))); (case side2 => exact (Kd.R_reads' HO591.out).2.1); (case side3 => refine (Kd.R_reads' (e := 3) (base := w.heap.size) (ok := fun k_ => (((True ∧ some k_ ≠ (.slice Ao19 t574.length co19 : Value).ownBlock) ∧ some k_ ≠ (.slice Ao31 t584.length co31 : Value).ownBlock) ∧ some k_ ≠ (.slice Ao38 t589.length co38 : Value).ownBlock)) (n := t578.length) (c := co24) ?_).2.2; exact (by (with_reducible repeat (first | apply Kd.R_alloc | apply Kd.R_drewN | apply Kd.R_drew)); exact (Kd.R_mono (Kd.R_far (p := ⟨gb593, 1, none⟩) (Kd.R_far (p := ⟨gb593, 0, none⟩) (Kd.R_types HO580.out BK593.out (by decide)) (fun _ hk => hk.2) (.int .i64 t588)) (fun _ hk => hk.2) (.slice Ao38 t589.length co38)) (fun _ h_ => h_.1)))); (case side4 => exact (Kd.R_reads' HO580.out).2.1); rintro e w56 ⟨rfl, hb⟩; refine ⟨_, rfl, ?_⟩; have n0_ := Aside0.mk (Kd.R_below (by (with_reducible repeat (first | apply Kd.R_alloc | apply Kd.R_drewN | apply Kd.R_drew)); exact (Kd.R_mono (Kd.R_far (p := ⟨gb593, 1, none⟩) (Kd.R_far (p := ⟨gb593, 0, none⟩) (Kd.R_types HO576.out BK593.out (by decide)) (fun _ hk => hk.2) (.int .i64 t588)) (fun _ hk => hk.2) (.slice Ao38 t589.length co38)) (fun _ h_ => h_.1))) hb); have n1_ := Aside0.mk (Kd.R_below (by (with_reducible repeat (first | apply Kd.R_alloc | apply Kd.R_drewN | apply Kd.R_drew)); exact (Kd.R_mono (Kd.R_far (p := ⟨gb593, 1, none⟩) (Kd.R_far (p := ⟨gb593, 0, none⟩) (Kd.R_types HO580.out BK593.out (by decide)) (fun _ hk => hk.2) (.int .i64 t588)) (fun _ hk => hk.2) (.slice Ao38 t589.length co38)) (fun _ h_ => h_.1))) hb); have n2_ := Aside0.mk (Kd.R_below (by (with_reducible repeat (first | apply Kd.R_alloc | apply Kd.R_drewN | apply Kd.R_drew)); exact (Kd.R_mono (Kd.R_far (p := ⟨gb593, 1, none⟩) (Kd.R_far (p := ⟨gb593, 0, none⟩) (Kd.R_types HO586.out BK593.out (by decide)) (fun _ hk => hk.2) (.int .i64 t588)) (fun _ hk => hk.2) (.slice Ao38 t589.length co38)) (fun _ h_ => h_.1))) hb); have n3_ := Aside0.mk (Kd.R_below (by (with_reducible repeat (first | apply Kd.R_alloc | apply Kd.R_drewN | apply Kd.R_drew)); exact (Kd.R_mono (Kd.R_far (p := ⟨gb593, 1, none⟩) (Kd.R_far (p := ⟨gb593, 0, none⟩) (Kd.R_types HO591.out BK593.out (by decide)) (fun _ hk => hk.2) (.int .i64 t588)) (fun _ hk => hk.2) (.slice Ao38 t589.length co38)) (fun _ h_ => h_.1))) hb); have n4_ := Aside0.mk (blk_below (g := gb571) (o := .cells #[.int .i64 a0_0, .slice A0_1 l0_1.length c0_1] 24 (0, 0)) (by (with_reducible repeat (first | refine blk_drewN ?_ _ | refine blk_drew ?_ | refine blk_alloc ?_ _)); refine blk_far ?_ NB571_593.out _; (with_reducible repeat (first | refine blk_drewN ?_ _ | refine blk_drew ?_ | refine blk_alloc ?_ _)); refine blk_far ?_ NB571_593.out _; (with_reducible repeat (first | refine blk_drewN ?_ _ | refine blk_drew ?_ | refine blk_alloc ?_ _)); exact BK571.out) hb); have n5_ := Aside0.mk (blk_below (g := gb582) (o := .cells #[.int .i64 t577, .slice Ao24 t578.length co24] 27 (0, 0)) (by (with_reducible repeat (first | refine blk_drewN ?_ _ | refine blk_drew ?_ | refine blk_alloc ?_ _)); refine blk_far ?_ NB582_593.out _; (with_reducible repeat (first | refine blk_drewN ?_ _ | refine blk_drew ?_ | refine blk_alloc ?_ _)); refine blk_far ?_ NB582_593.out _; (with_reducible repeat (first | refine blk_drewN ?_ _ | refine blk_drew ?_ | refine blk_alloc ?_ _)); exact BK582.out) hb); have n6_ := Aside0.mk (blk_below (g := gb587) (o := .cells #[.int .i64 t583, .slice Ao31 t584.length co31] 27 (0, 0)) (by (with_reducible repeat (first | refine blk_drewN ?_ _ | refine blk_drew ?_ | refine blk_alloc ?_ _)); refine blk_far ?_ NB587_593.out _; (with_reducible repeat (first | refine blk_drewN ?_ _ | refine blk_drew ?_ | refine blk_alloc ?_ _)); refine blk_far ?_ NB587_593.out _; (with_reducible repeat (first | refine blk_drewN ?_ _ | refine blk_drew ?_ | refine blk_alloc ?_ _)); exact BK587.out) hb); have n7_ := Aside0.mk (blk_below (g := gb593) (o := .cells #[.int .i64 t588, .slice Ao38 t589.length co38] 27 (0, 0)) (by (with_reducible repeat (first | refine blk_drewN ?_ _ | refine blk_drew ?_ | refine blk_alloc ?_ _)); refine blk_put (cs := #[.int .i64 t588, .slice none 0 0]) ?_ 1 _ rfl; (with_reducible repeat (first | refine blk_drewN ?_ _ | refine blk_drew ?_ | refine blk_alloc ?_ _)); refine blk_put (cs := #[.int .i64 0, .slice none 0 0]) ?_ 0 _ rfl; (with_reducible repeat (first | refine blk_drewN ?_ _ | refine blk_drew ?_ | refine blk_alloc ?_ _)); exact BK593.out) hb); have n8_ := Aside0.mk (below_step (by repeat (first | (with_reducible first | exact HB.out | apply below_alloc | apply pw_below_drewN | apply below_drew1 | refine below_set ?_ GE571.out | refine below_set ?_ GE582.out | refine below_set ?_ GE587.out | refine below_set ?_ GE593.out) | exact HB.out)) hb); clear HO576; clear HO580; clear HO586; clear HO591; clear BK571; clear BK582; clear BK587; clear BK593; clear HB; have HO576 := n0_; have HO580 := n1_; have HO586 := n2_; have HO591 := n3_; have BK571 := n4_; have BK582 := n5_; have BK587 := n6_; have BK593 := n7_; have HB := n8_; clear n0_ n1_ n2_ n3_ n4_ n5_ n6_ n7_ n8_; (try clear hb); (try clear hb2); (try clear hk); (try clear hi)))
        go_meet
        case rel => exact ⟨_, (true), (by first | rfl | (simp; done) | (simp [*]; done)), H', ⟨by first | omega | exact Nat.le_refl _⟩, ⟨by (with_reducible repeat (first | apply Kd.R_alloc | apply Kd.R_drewN | apply Kd.R_drew)); exact Kd.R_mono HO580.out (fun _ hk => ⟨hk.1.2, hk.2⟩)⟩, ⟨by (with_reducible repeat (first | apply Kd.R_alloc | apply Kd.R_drewN | apply Kd.R_drew)); exact Kd.R_mono HO586.out (fun _ hk => ⟨hk.1.2, hk.2⟩)⟩, ⟨by (with_reducible repeat (first | apply Kd.R_alloc | apply Kd.R_drewN | apply Kd.R_drew)); exact Kd.R_mono HO591.out (fun _ hk => ⟨hk.1.2, hk.2⟩)⟩, ⟨by (with_reducible repeat (first | refine blk_drewN ?_ _ | refine blk_drew ?_ | refine blk_alloc ?_ _)); exact BK571.out⟩, ⟨by (with_reducible repeat (first | refine blk_drewN ?_ _ | refine blk_drew ?_ | refine blk_alloc ?_ _)); exact BK582.out⟩, ⟨by (with_reducible repeat (first | refine blk_drewN ?_ _ | refine blk_drew ?_ | refine blk_alloc ?_ _)); exact BK587.out⟩, ⟨by (with_reducible repeat (first | refine blk_drewN ?_ _ | refine blk_drew ?_ | refine blk_alloc ?_ _)); exact BK593.out⟩, ⟨by repeat (first | (with_reducible first | exact HB.out | apply below_alloc | apply pw_below_drewN | apply below_drew1 | refine below_set ?_ GE571.out | refine below_set ?_ GE582.out | refine below_set ?_ GE587.out | refine below_set ?_ GE593.out) | exact HB.out)⟩⟩
    case rest =>
      clear HC13
      try clear c1
      try clear c2
      try clear p2
      try clear c3
      try clear c4
      try clear c5
      try clear c5b0
      try clear c13
      try clear c15
      try clear c17
      try clear c19
      try clear c22
      try clear c28
      try clear c29
      try clear c34
      try clear c35
      try clear c36
      try clear c40
      try clear c41
      try clear c42
      try clear c43
      try clear c45
      try clear c46
      try clear c47
      try clear c48
      try clear c49
      try clear c50
      try clear c51
      try clear c53
      try clear c54
      try clear hcz15_0
      try clear hcz15_1
      try clear hcz17_0
      try clear hcz17_1
      try clear hcz23_0
      try clear hcz23_1
      try clear hcz25_0
      try clear hcz25_1
      try clear hcz30_0
      try clear hcz30_1
      try clear hcz37_0
      try clear hcz37_1
      try clear hcz44_0
      try clear hcz44_1
      try clear hcz47_0
      try clear hcz47_1
      try clear hcz52_0
      try clear hcz52_1
      try clear hcz55_0
      try clear hcz55_1
      try clear hcz7_0
      try clear hcz7_1
      try clear hfz15_0
      try clear hfz15_1
      try clear hfz17_0
      try clear hfz17_1
      try clear hfz23_0
      try clear hfz23_1
      try clear hfz25_0
      try clear hfz25_1
      try clear hfz30_0
      try clear hfz30_1
      try clear hfz37_0
      try clear hfz37_1
      try clear hfz44_0
      try clear hfz44_1
      try clear hfz47_0
      try clear hfz47_1
      try clear hfz52_0
      try clear hfz52_1
      try clear hfz55_0
      try clear hfz55_1
      try clear hfz7_0
      try clear hfz7_1
      obtain ⟨kq, x48_12, rfl, HA, HJ12, HO_583001, HO_588001, HO_594001, BK571, BK582, BK587, BK593, HB⟩ := hcut
      cases kq with
      | zero => exact absurd HA.out (by simp [laws_FnExactFixInput.j0])
      | succ kj12 =>
        have H := HA.out
        clear HA
        simp only [laws_FnExactFixInput.j0] at H
        by_cases c57 : x48_12 = true
        · subst c57
          have H1 : (some false) = some r := by rw [if_pos rfl] at H; exact H
          clear H
          have H := H1
          clear H1
          obtain rfl := Option.some.inj H
          go_wp2
          go_ret
          exact ⟨by first | rfl | (simp [errW_none, errW_some] <;> rfl) | (simp [*, errW_none, errW_some] <;> rfl), by repeat (first | (with_reducible first | exact HB.out | apply below_alloc | apply pw_below_drewN | apply below_drew1 | refine below_set ?_ GE571.out | refine below_set ?_ GE582.out | refine below_set ?_ GE587.out | refine below_set ?_ GE593.out) | exact HB.out)⟩
        · replace c57 := Bool.eq_false_iff.mpr c57
          subst c57
          have H1 : ((laws_toTable.f kj12 a0_0 l0_1).bind fun bt595 => ((laws_eqTable.f kj12 t583 t584 bt595.1 bt595.2).bind fun t599 => (if t599 = true then ((laws_markTable.f kj12 t583 t584 1).bind fun bt600 => (if bt600.1 < 0 then (laws_FnExactFixInput.j1 kj12 a1 a2 t581 true a0_0 l0_1 t577 t578 t588 t589) else ((laws_eqTable.f kj12 t588 t589 t577 t578).bind fun t602 => (if t602 = true then (laws_FnExactFixInput.j1 kj12 a1 a2 t581 (t592 != t581) a0_0 l0_1 t577 t578 t588 t589) else (laws_FnExactFixInput.j1 kj12 a1 a2 t581 true a0_0 l0_1 t577 t578 t588 t589))))) else (some false)))) = some r := by rw [if_neg (show ¬ (false = true) by decide)] at H; exact H
          clear H
          have H := H1
          clear H1
          replace H := Option.bind_eq_some_iff.mp H
          obtain ⟨⟨t595, t596⟩, A580, H⟩ := H
          replace H : ((laws_eqTable.f kj12 t583 t584 t595 t596).bind fun t599 => (if t599 = true then ((laws_markTable.f kj12 t583 t584 1).bind fun bt600 => (if bt600.1 < 0 then (laws_FnExactFixInput.j1 kj12 a1 a2 t581 true a0_0 l0_1 t577 t578 t588 t589) else ((laws_eqTable.f kj12 t588 t589 t577 t578).bind fun t602 => (if t602 = true then (laws_FnExactFixInput.j1 kj12 a1 a2 t581 (t592 != t581) a0_0 l0_1 t577 t578 t588 t589) else (laws_FnExactFixInput.j1 kj12 a1 a2 t581 true a0_0 l0_1 t577 t578 t588 t589))))) else (some false))) = some r := H
          have A58 := Aside0.mk A580
          clear A580
          replace H := Option.bind_eq_some_iff.mp H
          obtain ⟨t599, A590, H⟩ := H
          replace H : (if t599 = true then ((laws_markTable.f kj12 t583 t584 1).bind fun bt600 => (if bt600.1 < 0 then (laws_FnExactFixInput.j1 kj12 a1 a2 t581 true a0_0 l0_1 t577 t578 t588 t589) else ((laws_eqTable.f kj12 t588 t589 t577 t578).bind fun t602 => (if t602 = true then (laws_FnExactFixInput.j1 kj12 a1 a2 t581 (t592 != t581) a0_0 l0_1 t577 t578 t588 t589) else (laws_FnExactFixInput.j1 kj12 a1 a2 t581 true a0_0 l0_1 t577 t578 t588 t589))))) else (some false)) = some r := H
          have A59 := Aside0.mk A590
          clear A590
          by_cases c60 : t599 = true
          · subst c60
            have H1 : ((laws_markTable.f kj12 t583 t584 1).bind fun bt600 => (if bt600.1 < 0 then (laws_FnExactFixInput.j1 kj12 a1 a2 t581 true a0_0 l0_1 t577 t578 t588 t589) else ((laws_eqTable.f kj12 t588 t589 t577 t578).bind fun t602 => (if t602 = true then (laws_FnExactFixInput.j1 kj12 a1 a2 t581 (t592 != t581) a0_0 l0_1 t577 t578 t588 t589) else (laws_FnExactFixInput.j1 kj12 a1 a2 t581 true a0_0 l0_1 t577 t578 t588 t589))))) = some r := by rw [if_pos rfl] at H; exact H
            clear H
            have H := H1
            clear H1
            replace H := Option.bind_eq_some_iff.mp H
            obtain ⟨⟨t600, t601⟩, A610, H⟩ := H
            replace H : (if t600 < 0 then (laws_FnExactFixInput.j1 kj12 a1 a2 t581 true a0_0 l0_1 t577 t578 t588 t589) else ((laws_eqTable.f kj12 t588 t589 t577 t578).bind fun t602 => (if t602 = true then (laws_FnExactFixInput.j1 kj12 a1 a2 t581 (t592 != t581) a0_0 l0_1 t577 t578 t588 t589) else (laws_FnExactFixInput.j1 kj12 a1 a2 t581 true a0_0 l0_1 t577 t578 t588 t589)))) = some r := H
            have A61 := Aside0.mk A610
            clear A610
            have HC62 := Aside0.mk H
            clear H
            try go_wp2
            have n0_ := Aside0.mk (Kd.R_drew HO_583001.out)
            have n1_ := Aside0.mk (Kd.R_drew HO_588001.out)
            have n2_ := Aside0.mk (Kd.R_drew HO_594001.out)
            have n3_ := Aside0.mk (blk_drew BK571.out)
            have n4_ := Aside0.mk (blk_drew BK582.out)
            have n5_ := Aside0.mk (blk_drew BK587.out)
            have n6_ := Aside0.mk (blk_drew BK593.out)
            have n7_ := Aside0.mk (below_drew1 HB.out)
            clear HO_583001
            clear HO_588001
            clear HO_594001
            clear BK571
            clear BK582
            clear BK587
            clear BK593
            clear HB
            have HO_583001 := n0_
            have HO_588001 := n1_
            have HO_594001 := n2_
            have BK571 := n3_
            have BK582 := n4_
            have BK587 := n5_
            have BK593 := n6_
            have HB := n7_
            clear n0_ n1_ n2_ n3_ n4_ n5_ n6_ n7_
            refine start_ (n := 5) (S := fun w' => w'.cell? ⟨gb587, 0, none⟩ = some (.int .i64 t583) ∧ w'.cell? ⟨gb587, 1, none⟩ = some (.slice Ao31 t584.length co31) ∧ w'.cell? ⟨gb571, 0, none⟩ = some (.int .i64 a0_0) ∧ w'.cell? ⟨gb571, 1, none⟩ = some (.slice A0_1 l0_1.length c0_1)) (ds := []) #[false, false, false, false, false] (by kernel_rfl) rfl rfl ⟨(blk_cell BK587.out 0).trans rfl, (blk_cell BK587.out 1).trans rfl, (blk_cell BK571.out 0).trans rfl, (blk_cell BK571.out 1).trans rfl⟩ (fun hHeld => ?_)
            generalize wc.drew = w63 at HO_583001 HO_588001 HO_594001 BK571 BK582 BK587 BK593 HB hHeld ⊢
            refine take_ (i := 0) (N := some 49) (v := ?_) (a' := ?_) #[true, false, false, false, false] rfl rfl (by kernel_rfl) (fun _ _ _ h => h) (Or.inl ⟨by rfl, ?_⟩) hHeld ?_ ?_
            rotate_left
            · rintro w' ⟨s0, s1, s2, s3⟩
              go_simp
              with_reducible rfl
            rotate_left
            · simp only [Act.put, List.setIfInBounds_toArray, List.set_cons_zero, List.set_cons_succ, i64_w, i32_w]
              rfl
            refine take_ (i := 1) (N := some 50) (v := ?_) (a' := ?_) #[true, true, false, false, false] rfl rfl (by kernel_rfl) (fun _ _ _ h => h) (Or.inl ⟨by rfl, ?_⟩) hHeld ?_ ?_
            rotate_left
            · rintro w' ⟨s0, s1, s2, s3⟩
              go_simp
              with_reducible rfl
            rotate_left
            · simp only [Act.put, List.setIfInBounds_toArray, List.set_cons_zero, List.set_cons_succ, i64_w, i32_w]
              rfl
            refine one_ (i := 2) (N := some 51) #[true, true, true, false, false] rfl rfl (by kernel_rfl) (by decide) (fun K hK => ?_)
            refine goes_ Try.func17 (by kernel_rfl) rfl #[.agg #[.int .i64 a0_0, .slice A0_1 l0_1.length c0_1]] (by rfl) rfl rfl (by (try simp only [List.map_toArray, List.map_cons, List.map_nil]); first | done | rfl | (simp only [List.length_drop, List.length_take]; rfl)) ?_
            with_reducible refine (laws_toTable.calls kj12 a0_0 _ _ l0_1 t595 t596 _ ?side1 ?side2 A58.out).mono ?_
            (case side1 => repeat (first | exact (Kd.C_below HR0_1.out HB.out) | (with_reducible refine Kd.C_alloc ?_ _) | (with_reducible refine Kd.C_drewN ?_ _) | (with_reducible refine Kd.C_drew ?_)))
            (case side2 => exact HC0_1.out)
            rintro e w64 ⟨v597, rfl, ho0, hb⟩
            refine ⟨_, rfl, ?_⟩
            have n0_ := Aside0.mk (Kd.R_elder' (by (with_reducible repeat (first | apply Kd.R_alloc | apply Kd.R_drewN | apply Kd.R_drew)); exact HO_583001.out) (Kd.R_base ho0) hb)
            have n1_ := Aside0.mk (Kd.R_elder' (by (with_reducible repeat (first | apply Kd.R_alloc | apply Kd.R_drewN | apply Kd.R_drew)); exact HO_588001.out) (Kd.R_base ho0) hb)
            have n2_ := Aside0.mk (Kd.R_elder' (by (with_reducible repeat (first | apply Kd.R_alloc | apply Kd.R_drewN | apply Kd.R_drew)); exact HO_594001.out) (Kd.R_base ho0) hb)
            have n3_ := Aside0.mk (Kd.R_lower (Kd.R_new' (Kd.R_new' (Kd.R_new' ho0 (Kd.R_lt (by (with_reducible repeat (first | apply Kd.R_alloc | apply Kd.R_drewN | apply Kd.R_drew)); exact HO_583001.out))) (Kd.R_lt (by (with_reducible repeat (first | apply Kd.R_alloc | apply Kd.R_drewN | apply Kd.R_drew)); exact HO_588001.out))) (Kd.R_lt (by (with_reducible repeat (first | apply Kd.R_alloc | apply Kd.R_drewN | apply Kd.R_drew)); exact HO_594001.out))) (below_size (by repeat (first | (with_reducible first | exact HB.out | apply below_alloc | apply pw_below_drewN | apply below_drew1 | refine below_set ?_ GE571.out | refine below_set ?_ GE582.out | refine below_set ?_ GE587.out | refine below_set ?_ GE593.out) | exact HB.out))))
            have n4_ := Aside0.mk (blk_below (g := gb571) (o := .cells #[.int .i64 a0_0, .slice A0_1 l0_1.length c0_1] 24 (0, 0)) (by (with_reducible repeat (first | refine blk_drewN ?_ _ | refine blk_drew ?_ | refine blk_alloc ?_ _)); exact BK571.out) hb)
            have n5_ := Aside0.mk (blk_below (g := gb582) (o := .cells #[.int .i64 t577, .slice Ao24 t578.length co24] 27 (0, 0)) (by (with_reducible repeat (first | refine blk_drewN ?_ _ | refine blk_drew ?_ | refine blk_alloc ?_ _)); exact BK582.out) hb)
            have n6_ := Aside0.mk (blk_below (g := gb587) (o := .cells #[.int .i64 t583, .slice Ao31 t584.length co31] 27 (0, 0)) (by (with_reducible repeat (first | refine blk_drewN ?_ _ | refine blk_drew ?_ | refine blk_alloc ?_ _)); exact BK587.out) hb)
            have n7_ := Aside0.mk (blk_below (g := gb593) (o := .cells #[.int .i64 t588, .slice Ao38 t589.length co38] 27 (0, 0)) (by (with_reducible repeat (first | refine blk_drewN ?_ _ | refine blk_drew ?_ | refine blk_alloc ?_ _)); exact BK593.out) hb)
            have n8_ := Aside0.mk (below_step (by repeat (first | (with_reducible first | exact HB.out | apply below_alloc | apply pw_below_drewN | apply below_drew1 | refine below_set ?_ GE571.out | refine below_set ?_ GE582.out | refine below_set ?_ GE587.out | refine below_set ?_ GE593.out) | exact HB.out)) hb)
            clear HO_583001
            clear HO_588001
            clear HO_594001
            clear BK571
            clear BK582
            clear BK587
            clear BK593
            clear HB
            have HO_583001 := n0_
            have HO_588001 := n1_
            have HO_594001 := n2_
            have HO598 := n3_
            have BK571 := n4_
            have BK582 := n5_
            have BK587 := n6_
            have BK593 := n7_
            have HB := n8_
            clear n0_ n1_ n2_ n3_ n4_ n5_ n6_ n7_ n8_
            (try clear hb)
            (try clear hb2)
            (try clear hk)
            (try clear hi)
            (try clear ho0)
            obtain ⟨Ao65, co65, eo65⟩ := Kd.R_slice HO598.out
            (first | subst eo65 | (injection eo65 with f1_ f2_ f3_; have f4_ := f1_.symm; have f5_ := f3_.symm; clear f1_ f2_ f3_; subst f4_; subst f5_))
            refine hK.out _ _ ⟨(blk_cell BK587.out 0).trans rfl, (blk_cell BK587.out 1).trans rfl, (blk_cell BK571.out 0).trans rfl, (blk_cell BK571.out 1).trans rfl⟩ (fun hHeld => ?_)
            clear hK K
            refine norm_ (a' := ?_) ?_ ?_
            rotate_left
            · show Act.put _ (some 51) _ = _
              simp only [Act.put, List.setIfInBounds_toArray, List.set_cons_zero, List.set_cons_succ, i64_w, i32_w]
              rfl
            refine one_ (i := 3) (N := some 52) #[true, true, true, true, false] rfl rfl (by kernel_rfl) (by decide) (fun K hK => ?_)
            refine goes_ Try.func19 (by kernel_rfl) rfl #[.agg #[.int .i64 t583, .slice Ao31 t584.length co31], .agg #[.int .i64 t595, .slice Ao65 t596.length co65]] (by rfl) rfl rfl (by (try simp only [List.map_toArray, List.map_cons, List.map_nil]); first | done | rfl | (simp only [List.length_drop, List.length_take]; rfl)) ?_
            with_reducible refine (laws_eqTable.calls kj12 t583 _ _ t584 t595 _ _ t596 true _ ?side1 ?side2 ?side3 ?side4 A59.out).mono ?_
            (case side1 => repeat (first | exact (Kd.R_reads' HO_588001.out).2.2 | (with_reducible refine Kd.C_alloc ?_ _) | (with_reducible refine Kd.C_drewN ?_ _) | (with_reducible refine Kd.C_drew ?_)))
            (case side2 => exact (Kd.R_reads' HO_588001.out).2.1)
            (case side3 => repeat (first | exact (Kd.R_reads' HO598.out).2.2 | (with_reducible refine Kd.C_alloc ?_ _) | (with_reducible refine Kd.C_drewN ?_ _) | (with_reducible refine Kd.C_drew ?_)))
            (case side4 => exact (Kd.R_reads' HO598.out).2.1)
            rintro e w66 ⟨rfl, hb⟩
            refine ⟨_, rfl, ?_⟩
            have n0_ := Aside0.mk (Kd.R_below (by (with_reducible repeat (first | apply Kd.R_alloc | apply Kd.R_drewN | apply Kd.R_drew)); exact HO_583001.out) hb)
            have n1_ := Aside0.mk (Kd.R_below (by (with_reducible repeat (first | apply Kd.R_alloc | apply Kd.R_drewN | apply Kd.R_drew)); exact HO_588001.out) hb)
            have n2_ := Aside0.mk (Kd.R_below (by (with_reducible repeat (first | apply Kd.R_alloc | apply Kd.R_drewN | apply Kd.R_drew)); exact HO_594001.out) hb)
            have n3_ := Aside0.mk (Kd.R_below (by (with_reducible repeat (first | apply Kd.R_alloc | apply Kd.R_drewN | apply Kd.R_drew)); exact HO598.out) hb)
            have n4_ := Aside0.mk (blk_below (g := gb571) (o := .cells #[.int .i64 a0_0, .slice A0_1 l0_1.length c0_1] 24 (0, 0)) (by (with_reducible repeat (first | refine blk_drewN ?_ _ | refine blk_drew ?_ | refine blk_alloc ?_ _)); exact BK571.out) hb)
            have n5_ := Aside0.mk (blk_below (g := gb582) (o := .cells #[.int .i64 t577, .slice Ao24 t578.length co24] 27 (0, 0)) (by (with_reducible repeat (first | refine blk_drewN ?_ _ | refine blk_drew ?_ | refine blk_alloc ?_ _)); exact BK582.out) hb)
            have n6_ := Aside0.mk (blk_below (g := gb587) (o := .cells #[.int .i64 t583, .slice Ao31 t584.length co31] 27 (0, 0)) (by (with_reducible repeat (first | refine blk_drewN ?_ _ | refine blk_drew ?_ | refine blk_alloc ?_ _)); exact BK587.out) hb)
            have n7_ := Aside0.mk (blk_below (g := gb593) (o := .cells #[.int .i64 t588, .slice Ao38 t589.length co38] 27 (0, 0)) (by (with_reducible repeat (first | refine blk_drewN ?_ _ | refine blk_drew ?_ | refine blk_alloc ?_ _)); exact BK593.out) hb)
            have n8_ := Aside0.mk (below_step (by repeat (first | (with_reducible first | exact HB.out | apply below_alloc | apply pw_below_drewN | apply below_drew1 | refine below_set ?_ GE571.out | refine below_set ?_ GE582.out | refine below_set ?_ GE587.out | refine below_set ?_ GE593.out) | exact HB.out)) hb)
            clear HO_583001
            clear HO_588001
            clear HO_594001
            clear HO598
            clear BK571
            clear BK582
            clear BK587
            clear BK593
            clear HB
            have HO_583001 := n0_
            have HO_588001 := n1_
            have HO_594001 := n2_
            have HO598 := n3_
            have BK571 := n4_
            have BK582 := n5_
            have BK587 := n6_
            have BK593 := n7_
            have HB := n8_
            clear n0_ n1_ n2_ n3_ n4_ n5_ n6_ n7_ n8_
            (try clear hb)
            (try clear hb2)
            (try clear hk)
            (try clear hi)
            refine hK.out _ _ ⟨(blk_cell BK587.out 0).trans rfl, (blk_cell BK587.out 1).trans rfl, (blk_cell BK571.out 0).trans rfl, (blk_cell BK571.out 1).trans rfl⟩ (fun hHeld => ?_)
            clear hK K
            refine norm_ (a' := ?_) ?_ ?_
            rotate_left
            · show Act.put _ (some 52) _ = _
              simp only [Act.put, List.setIfInBounds_toArray, List.set_cons_zero, List.set_cons_succ, i64_w, i32_w]
              rfl
            refine pure_ (i := 4) (N := some 53) (v := ?_) (a' := ?_) #[true, true, true, true, true] rfl rfl (by kernel_rfl) (fun _ _ _ h => h) (Or.inl ⟨by rfl, ?_⟩) ?_ ?_
            rotate_left
            · intro w'
              go_simp
              with_reducible rfl
            rotate_left
            · simp only [Act.put, List.setIfInBounds_toArray, List.set_cons_zero, List.set_cons_succ, i64_w, i32_w]
              rfl
            refine done_ (by kernel_rfl) ?_
            have hnb67 := NB587_571.out
            have hnc67 := NB571_587.out
            have hnb68 := NB587_582.out
            have hnc68 := NB582_587.out
            have hnb69 := NB587_593.out
            have hnc69 := NB593_587.out
            have hcz70_0 : w66.cell? ⟨gb587, 0, none⟩ = some (.int .i64 t583) := (blk_cell BK587.out 0).trans rfl
            have hcz70_1 : w66.cell? ⟨gb587, 1, none⟩ = some (.slice Ao31 t584.length co31) := (blk_cell BK587.out 1).trans rfl
            have hfz70_0 := blk_frozen BK587.out 0
            have hfz70_1 := blk_frozen BK587.out 1
            go_upto_region 14 with (first | ((with_reducible refine gate_callee (f := 37) rfl ?_); refine goesL_ (some 56) rfl rfl Try.func37 (by kernel_rfl) rfl #[.agg #[.int .i64 t583, .slice Ao31 t584.length co31], .int .i64 1] rfl (by (try simp only [List.map_toArray, List.map_cons, List.map_nil]); first | done | rfl | (simp only [List.length_drop, List.length_take]; rfl)) ?_; (with_reducible refine (laws_markTable.calls kj12 t583 (fun k_ => some k_ = (.slice Ao31 t584.length co31 : Value).ownBlock) (.slice Ao31 t584.length co31) t584 1 t600 t601 w _ ?side1 ?side2 A61.out).mono ?_); (case side1 => repeat (first | (with_reducible first | exact HB.out | apply below_alloc | apply pw_below_drewN | apply below_drew1 | refine below_set ?_ GE571.out | refine below_set ?_ GE582.out | refine below_set ?_ GE587.out | refine below_set ?_ GE593.out) | exact HB.out)); (case side2 => exact Kd.R_tight rfl HO_588001.out); rintro e w71 ⟨rfl, hy0, hb, hkp⟩; refine ⟨_, rfl, ?_⟩; have n0_ := Aside0.mk (Kd.R_mono (ok' := fun k_ => some k_ ≠ (.slice Ao31 t584.length co31 : Value).ownBlock ∧ some k_ ≠ (.slice Ao38 t589.length co38 : Value).ownBlock ∧ some k_ ≠ (.slice Ao65 t596.length co65 : Value).ownBlock) (Kd.R_keptB (HO_583001.out) hkp (fun k_ hk_ hs_ => (hk_.1.1) hs_)) (fun k_ hk_ => ⟨hk_.1.1.1, hk_.1.1.2, hk_.1.2⟩)); have n1_ := Aside0.mk (Kd.R_reok rfl hy0 (fun k_ e_ => HO_588001.out.1 k_ e_)); have n2_ := Aside0.mk (Kd.R_mono (ok' := fun k_ => some k_ ≠ (.slice Ao24 t578.length co24 : Value).ownBlock ∧ some k_ ≠ (.slice Ao31 t584.length co31 : Value).ownBlock ∧ some k_ ≠ (.slice Ao65 t596.length co65 : Value).ownBlock) (Kd.R_keptB (HO_594001.out) hkp (fun k_ hk_ hs_ => (hk_.1.2) hs_)) (fun k_ hk_ => ⟨hk_.1.1.1, hk_.1.1.2, hk_.1.2⟩)); have n3_ := Aside0.mk (blk_kept (by (with_reducible repeat (first | refine blk_drewN ?_ _ | refine blk_drew ?_ | refine blk_alloc ?_ _)); exact BK571.out) hkp (fun hs_ => (fun e_ => (Kd.R_ne HO_588001.out BK571.out (by decide)) e_) hs_)); have n4_ := Aside0.mk (blk_kept (by (with_reducible repeat (first | refine blk_drewN ?_ _ | refine blk_drew ?_ | refine blk_alloc ?_ _)); exact BK582.out) hkp (fun hs_ => (fun e_ => (Kd.R_ne HO_588001.out BK582.out (by decide)) e_) hs_)); have n5_ := Aside0.mk (blk_kept (by (with_reducible repeat (first | refine blk_drewN ?_ _ | refine blk_drew ?_ | refine blk_alloc ?_ _)); exact BK587.out) hkp (fun hs_ => (fun e_ => (Kd.R_ne HO_588001.out BK587.out (by decide)) e_) hs_)); have n6_ := Aside0.mk (blk_kept (by (with_reducible repeat (first | refine blk_drewN ?_ _ | refine blk_drew ?_ | refine blk_alloc ?_ _)); exact BK593.out) hkp (fun hs_ => (fun e_ => (Kd.R_ne HO_588001.out BK593.out (by decide)) e_) hs_)); have n7_ := Aside0.mk (Kd.R_mono (ok' := fun k_ => some k_ ≠ (.slice Ao24 t578.length co24 : Value).ownBlock ∧ some k_ ≠ (.slice Ao31 t584.length co31 : Value).ownBlock ∧ some k_ ≠ (.slice Ao38 t589.length co38 : Value).ownBlock) (Kd.R_keptB (HO598.out) hkp (fun k_ hk_ hs_ => (hk_.1.2) hs_)) (fun k_ hk_ => ⟨hk_.1.1.1.2, hk_.1.1.2, hk_.1.2⟩)); have n8_ := Aside0.mk (hb); clear HO_583001; clear HO_588001; clear HO_594001; clear BK571; clear BK582; clear BK587; clear BK593; clear HO598; clear HB; have HO_583001 := n0_; have HO_588001 := n1_; have HO_594001 := n2_; have BK571 := n3_; have BK582 := n4_; have BK587 := n5_; have BK593 := n6_; have HO598 := n7_; have HB := n8_; clear n0_ n1_ n2_ n3_ n4_ n5_ n6_ n7_ n8_; (try clear hb); (try clear hkp); (try clear hy0)))
            (try simp only [Act.put, List.setIfInBounds_toArray, List.set_cons_zero, List.set_cons_succ])
            go_cut [69] (fun v69 wc => ∃ (kq : Nat) (x69_61 : Bool), v69 = .bool x69_61 ∧ Aside0 (laws_FnExactFixInput.j1 kq a1 a2 t581 x69_61 a0_0 l0_1 t577 t578 t588 t589 = some r) ∧ Aside0 (kq ≤ kj12) ∧ Aside0 (Kd.R (Kd.int .i64) 3 wc w.heap.size (fun k_ => some k_ ≠ ((.slice Ao31 t584.length co31) : Value).ownBlock ∧ some k_ ≠ ((.slice Ao38 t589.length co38) : Value).ownBlock) (.slice Ao24 t578.length co24) t578) ∧ Aside0 (Kd.R (Kd.int .i64) 3 wc w.heap.size (fun k_ => some k_ ≠ ((.slice Ao24 t578.length co24) : Value).ownBlock ∧ some k_ ≠ ((.slice Ao38 t589.length co38) : Value).ownBlock) (.slice Ao31 t584.length co31) t601) ∧ Aside0 (Kd.R (Kd.int .i64) 3 wc w.heap.size (fun k_ => some k_ ≠ ((.slice Ao24 t578.length co24) : Value).ownBlock ∧ some k_ ≠ ((.slice Ao31 t584.length co31) : Value).ownBlock) (.slice Ao38 t589.length co38) t589) ∧ Aside0 (wc.heap[gb571]? = some (.cells #[.int .i64 a0_0, (.slice A0_1 l0_1.length c0_1)] 24 (0, 0))) ∧ Aside0 (wc.heap[gb582]? = some (.cells #[.int .i64 t577, (.slice Ao24 t578.length co24)] 27 (0, 0))) ∧ Aside0 (wc.heap[gb587]? = some (.cells #[.int .i64 t583, (.slice Ao31 t584.length co31)] 27 (0, 0))) ∧ Aside0 (wc.heap[gb593]? = some (.cells #[.int .i64 t588, (.slice Ao38 t589.length co38)] 27 (0, 0))) ∧ Aside0 (Below w.heap.size w wc))
            case first =>
              have H := HC62.out
              clear HC62
              by_cases c72 : t600 < 0
              · rw [if_pos c72] at H
                have c72b0 : decide (t600 < 0) = true := decide_eq_true c72
                clear c72
                (first | rw [c72b0] | (simp only [i64_w, i32_w]; rw [c72b0]) | skip)
                have H' := Aside0.mk H
                clear H
                go_wp2
                go_meet
                case rel => exact ⟨_, (true), (by first | rfl | (simp; done) | (simp [*]; done)), H', ⟨by have := HJ12.out; first | omega | exact Nat.le_refl _⟩, ⟨by (with_reducible repeat (first | apply Kd.R_alloc | apply Kd.R_drewN | apply Kd.R_drew)); exact Kd.R_mono HO_583001.out (fun _ hk => ⟨hk.1, hk.2.1⟩)⟩, ⟨by (with_reducible repeat (first | apply Kd.R_alloc | apply Kd.R_drewN | apply Kd.R_drew)); exact Kd.R_mono HO_588001.out (fun _ hk => ⟨hk.1.1, hk.1.2⟩)⟩, ⟨by (with_reducible repeat (first | apply Kd.R_alloc | apply Kd.R_drewN | apply Kd.R_drew)); exact Kd.R_mono HO_594001.out (fun _ hk => ⟨hk.1, hk.2.1⟩)⟩, ⟨by (with_reducible repeat (first | refine blk_drewN ?_ _ | refine blk_drew ?_ | refine blk_alloc ?_ _)); exact BK571.out⟩, ⟨by (with_reducible repeat (first | refine blk_drewN ?_ _ | refine blk_drew ?_ | refine blk_alloc ?_ _)); exact BK582.out⟩, ⟨by (with_reducible repeat (first | refine blk_drewN ?_ _ | refine blk_drew ?_ | refine blk_alloc ?_ _)); exact BK587.out⟩, ⟨by (with_reducible repeat (first | refine blk_drewN ?_ _ | refine blk_drew ?_ | refine blk_alloc ?_ _)); exact BK593.out⟩, ⟨by repeat (first | (with_reducible first | exact HB.out | apply below_alloc | apply pw_below_drewN | apply below_drew1 | refine below_set ?_ GE571.out | refine below_set ?_ GE582.out | refine below_set ?_ GE587.out | refine below_set ?_ GE593.out) | exact HB.out)⟩⟩
              · rw [if_neg c72] at H
                have c72b0 : decide (t600 < 0) = false := decide_eq_false c72
                clear c72
                (first | rw [c72b0] | (simp only [i64_w, i32_w]; rw [c72b0]) | skip)
                replace H := Option.bind_eq_some_iff.mp H
                obtain ⟨t602, A730, H⟩ := H
                replace H : (if t602 = true then (laws_FnExactFixInput.j1 kj12 a1 a2 t581 (t592 != t581) a0_0 l0_1 t577 t578 t588 t589) else (laws_FnExactFixInput.j1 kj12 a1 a2 t581 true a0_0 l0_1 t577 t578 t588 t589)) = some r := H
                have A73 := Aside0.mk A730
                clear A730
                by_cases c74 : t602 = true
                · subst c74
                  have H1 : (laws_FnExactFixInput.j1 kj12 a1 a2 t581 (t592 != t581) a0_0 l0_1 t577 t578 t588 t589) = some r := by rw [if_pos rfl] at H; exact H
                  clear H
                  have H := H1
                  clear H1
                  have H' := Aside0.mk H
                  clear H
                  have hnb75 := NB593_571.out
                  have hnc75 := NB571_593.out
                  have hnb76 := NB593_582.out
                  have hnc76 := NB582_593.out
                  have hnb77 := NB593_587.out
                  have hnc77 := NB587_593.out
                  have hcz78_0 : w71.cell? ⟨gb593, 0, none⟩ = some (.int .i64 t588) := (blk_cell BK593.out 0).trans rfl
                  have hcz78_1 : w71.cell? ⟨gb593, 1, none⟩ = some (.slice Ao38 t589.length co38) := (blk_cell BK593.out 1).trans rfl
                  have hfz78_0 := blk_frozen BK593.out 0
                  have hfz78_1 := blk_frozen BK593.out 1
                  have hnb79 := NB582_571.out
                  have hnc79 := NB571_582.out
                  have hnb80 := NB582_587.out
                  have hnc80 := NB587_582.out
                  have hcz81_0 : w71.cell? ⟨gb582, 0, none⟩ = some (.int .i64 t577) := (blk_cell BK582.out 0).trans rfl
                  have hcz81_1 : w71.cell? ⟨gb582, 1, none⟩ = some (.slice Ao24 t578.length co24) := (blk_cell BK582.out 1).trans rfl
                  have hfz81_0 := blk_frozen BK582.out 0
                  have hfz81_1 := blk_frozen BK582.out 1
                  go_wp2_with (first | (go_at_call 19; (with_reducible refine (laws_eqTable.calls kj12 t588 _ _ t589 t577 _ _ t578 true _ ?side1 ?side2 ?side3 ?side4 A73.out).mono ?_); (case side1 => repeat (first | exact (Kd.R_reads' HO_594001.out).2.2 | (with_reducible refine Kd.C_alloc ?_ _) | (with_reducible refine Kd.C_drewN ?_ _) | (with_reducible refine Kd.C_drew ?_))); (case side2 => exact (Kd.R_reads' HO_594001.out).2.1); (case side3 => repeat (first | exact (Kd.R_reads' HO_583001.out).2.2 | (with_reducible refine Kd.C_alloc ?_ _) | (with_reducible refine Kd.C_drewN ?_ _) | (with_reducible refine Kd.C_drew ?_))); (case side4 => exact (Kd.R_reads' HO_583001.out).2.1); rintro e w82 ⟨rfl, hb⟩; have n0_ := Aside0.mk (Kd.R_below (by (with_reducible repeat (first | apply Kd.R_alloc | apply Kd.R_drewN | apply Kd.R_drew)); exact HO_583001.out) hb); have n1_ := Aside0.mk (Kd.R_below (by (with_reducible repeat (first | apply Kd.R_alloc | apply Kd.R_drewN | apply Kd.R_drew)); exact HO_588001.out) hb); have n2_ := Aside0.mk (Kd.R_below (by (with_reducible repeat (first | apply Kd.R_alloc | apply Kd.R_drewN | apply Kd.R_drew)); exact HO_594001.out) hb); have n3_ := Aside0.mk (Kd.R_below (by (with_reducible repeat (first | apply Kd.R_alloc | apply Kd.R_drewN | apply Kd.R_drew)); exact HO598.out) hb); have n4_ := Aside0.mk (blk_below (g := gb571) (o := .cells #[.int .i64 a0_0, .slice A0_1 l0_1.length c0_1] 24 (0, 0)) (by (with_reducible repeat (first | refine blk_drewN ?_ _ | refine blk_drew ?_ | refine blk_alloc ?_ _)); exact BK571.out) hb); have n5_ := Aside0.mk (blk_below (g := gb582) (o := .cells #[.int .i64 t577, .slice Ao24 t578.length co24] 27 (0, 0)) (by (with_reducible repeat (first | refine blk_drewN ?_ _ | refine blk_drew ?_ | refine blk_alloc ?_ _)); exact BK582.out) hb); have n6_ := Aside0.mk (blk_below (g := gb587) (o := .cells #[.int .i64 t583, .slice Ao31 t584.length co31] 27 (0, 0)) (by (with_reducible repeat (first | refine blk_drewN ?_ _ | refine blk_drew ?_ | refine blk_alloc ?_ _)); exact BK587.out) hb); have n7_ := Aside0.mk (blk_below (g := gb593) (o := .cells #[.int .i64 t588, .slice Ao38 t589.length co38] 27 (0, 0)) (by (with_reducible repeat (first | refine blk_drewN ?_ _ | refine blk_drew ?_ | refine blk_alloc ?_ _)); exact BK593.out) hb); have n8_ := Aside0.mk (below_step (by repeat (first | (with_reducible first | exact HB.out | apply below_alloc | apply pw_below_drewN | apply below_drew1 | refine below_set ?_ GE571.out | refine below_set ?_ GE582.out | refine below_set ?_ GE587.out | refine below_set ?_ GE593.out) | exact HB.out)) hb); clear HO_583001; clear HO_588001; clear HO_594001; clear HO598; clear BK571; clear BK582; clear BK587; clear BK593; clear HB; have HO_583001 := n0_; have HO_588001 := n1_; have HO_594001 := n2_; have HO598 := n3_; have BK571 := n4_; have BK582 := n5_; have BK587 := n6_; have BK593 := n7_; have HB := n8_; clear n0_ n1_ n2_ n3_ n4_ n5_ n6_ n7_ n8_; (try clear hb); (try clear hb2); (try clear hk); (try clear hi)))
                  go_meet
                  case rel => exact ⟨_, ((t592 != t581)), (by first | rfl | (simp; done) | (simp [*]; done)), H', ⟨by have := HJ12.out; first | omega | exact Nat.le_refl _⟩, ⟨by (with_reducible repeat (first | apply Kd.R_alloc | apply Kd.R_drewN | apply Kd.R_drew)); exact Kd.R_mono HO_583001.out (fun _ hk => ⟨hk.1, hk.2.1⟩)⟩, ⟨by (with_reducible repeat (first | apply Kd.R_alloc | apply Kd.R_drewN | apply Kd.R_drew)); exact Kd.R_mono HO_588001.out (fun _ hk => ⟨hk.1.1, hk.1.2⟩)⟩, ⟨by (with_reducible repeat (first | apply Kd.R_alloc | apply Kd.R_drewN | apply Kd.R_drew)); exact Kd.R_mono HO_594001.out (fun _ hk => ⟨hk.1, hk.2.1⟩)⟩, ⟨by (with_reducible repeat (first | refine blk_drewN ?_ _ | refine blk_drew ?_ | refine blk_alloc ?_ _)); exact BK571.out⟩, ⟨by (with_reducible repeat (first | refine blk_drewN ?_ _ | refine blk_drew ?_ | refine blk_alloc ?_ _)); exact BK582.out⟩, ⟨by (with_reducible repeat (first | refine blk_drewN ?_ _ | refine blk_drew ?_ | refine blk_alloc ?_ _)); exact BK587.out⟩, ⟨by (with_reducible repeat (first | refine blk_drewN ?_ _ | refine blk_drew ?_ | refine blk_alloc ?_ _)); exact BK593.out⟩, ⟨by repeat (first | (with_reducible first | exact HB.out | apply below_alloc | apply pw_below_drewN | apply below_drew1 | refine below_set ?_ GE571.out | refine below_set ?_ GE582.out | refine below_set ?_ GE587.out | refine below_set ?_ GE593.out) | exact HB.out)⟩⟩
                · replace c74 := Bool.eq_false_iff.mpr c74
                  subst c74
                  have H1 : (laws_FnExactFixInput.j1 kj12 a1 a2 t581 true a0_0 l0_1 t577 t578 t588 t589) = some r := by rw [if_neg (show ¬ (false = true) by decide)] at H; exact H
                  clear H
                  have H := H1
                  clear H1
                  have H' := Aside0.mk H
                  clear H
                  have hnb83 := NB593_571.out
                  have hnc83 := NB571_593.out
                  have hnb84 := NB593_582.out
                  have hnc84 := NB582_593.out
                  have hnb85 := NB593_587.out
                  have hnc85 := NB587_593.out
                  have hcz86_0 : w71.cell? ⟨gb593, 0, none⟩ = some (.int .i64 t588) := (blk_cell BK593.out 0).trans rfl
                  have hcz86_1 : w71.cell? ⟨gb593, 1, none⟩ = some (.slice Ao38 t589.length co38) := (blk_cell BK593.out 1).trans rfl
                  have hfz86_0 := blk_frozen BK593.out 0
                  have hfz86_1 := blk_frozen BK593.out 1
                  have hnb87 := NB582_571.out
                  have hnc87 := NB571_582.out
                  have hnb88 := NB582_587.out
                  have hnc88 := NB587_582.out
                  have hcz89_0 : w71.cell? ⟨gb582, 0, none⟩ = some (.int .i64 t577) := (blk_cell BK582.out 0).trans rfl
                  have hcz89_1 : w71.cell? ⟨gb582, 1, none⟩ = some (.slice Ao24 t578.length co24) := (blk_cell BK582.out 1).trans rfl
                  have hfz89_0 := blk_frozen BK582.out 0
                  have hfz89_1 := blk_frozen BK582.out 1
                  go_wp2_with (first | (go_at_call 19; (with_reducible refine (laws_eqTable.calls kj12 t588 _ _ t589 t577 _ _ t578 false _ ?side1 ?side2 ?side3 ?side4 A73.out).mono ?_); (case side1 => repeat (first | exact (Kd.R_reads' HO_594001.out).2.2 | (with_reducible refine Kd.C_alloc ?_ _) | (with_reducible refine Kd.C_drewN ?_ _) | (with_reducible refine Kd.C_drew ?_))); (case side2 => exact (Kd.R_reads' HO_594001.out).2.1); (case side3 => repeat (first | exact (Kd.R_reads' HO_583001.out).2.2 | (with_reducible refine Kd.C_alloc ?_ _) | (with_reducible refine Kd.C_drewN ?_ _) | (with_reducible refine Kd.C_drew ?_))); (case side4 => exact (Kd.R_reads' HO_583001.out).2.1); rintro e w90 ⟨rfl, hb⟩; have n0_ := Aside0.mk (Kd.R_below (by (with_reducible repeat (first | apply Kd.R_alloc | apply Kd.R_drewN | apply Kd.R_drew)); exact HO_583001.out) hb); have n1_ := Aside0.mk (Kd.R_below (by (with_reducible repeat (first | apply Kd.R_alloc | apply Kd.R_drewN | apply Kd.R_drew)); exact HO_588001.out) hb); have n2_ := Aside0.mk (Kd.R_below (by (with_reducible repeat (first | apply Kd.R_alloc | apply Kd.R_drewN | apply Kd.R_drew)); exact HO_594001.out) hb); have n3_ := Aside0.mk (Kd.R_below (by (with_reducible repeat (first | apply Kd.R_alloc | apply Kd.R_drewN | apply Kd.R_drew)); exact HO598.out) hb); have n4_ := Aside0.mk (blk_below (g := gb571) (o := .cells #[.int .i64 a0_0, .slice A0_1 l0_1.length c0_1] 24 (0, 0)) (by (with_reducible repeat (first | refine blk_drewN ?_ _ | refine blk_drew ?_ | refine blk_alloc ?_ _)); exact BK571.out) hb); have n5_ := Aside0.mk (blk_below (g := gb582) (o := .cells #[.int .i64 t577, .slice Ao24 t578.length co24] 27 (0, 0)) (by (with_reducible repeat (first | refine blk_drewN ?_ _ | refine blk_drew ?_ | refine blk_alloc ?_ _)); exact BK582.out) hb); have n6_ := Aside0.mk (blk_below (g := gb587) (o := .cells #[.int .i64 t583, .slice Ao31 t584.length co31] 27 (0, 0)) (by (with_reducible repeat (first | refine blk_drewN ?_ _ | refine blk_drew ?_ | refine blk_alloc ?_ _)); exact BK587.out) hb); have n7_ := Aside0.mk (blk_below (g := gb593) (o := .cells #[.int .i64 t588, .slice Ao38 t589.length co38] 27 (0, 0)) (by (with_reducible repeat (first | refine blk_drewN ?_ _ | refine blk_drew ?_ | refine blk_alloc ?_ _)); exact BK593.out) hb); have n8_ := Aside0.mk (below_step (by repeat (first | (with_reducible first | exact HB.out | apply below_alloc | apply pw_below_drewN | apply below_drew1 | refine below_set ?_ GE571.out | refine below_set ?_ GE582.out | refine below_set ?_ GE587.out | refine below_set ?_ GE593.out) | exact HB.out)) hb); clear HO_583001; clear HO_588001; clear HO_594001; clear HO598; clear BK571; clear BK582; clear BK587; clear BK593; clear HB; have HO_583001 := n0_; have HO_588001 := n1_; have HO_594001 := n2_; have HO598 := n3_; have BK571 := n4_; have BK582 := n5_; have BK587 := n6_; have BK593 := n7_; have HB := n8_; clear n0_ n1_ n2_ n3_ n4_ n5_ n6_ n7_ n8_; (try clear hb); (try clear hb2); (try clear hk); (try clear hi)))
                  go_meet
                  case rel => exact ⟨_, (true), (by first | rfl | (simp; done) | (simp [*]; done)), H', ⟨by have := HJ12.out; first | omega | exact Nat.le_refl _⟩, ⟨by (with_reducible repeat (first | apply Kd.R_alloc | apply Kd.R_drewN | apply Kd.R_drew)); exact Kd.R_mono HO_583001.out (fun _ hk => ⟨hk.1, hk.2.1⟩)⟩, ⟨by (with_reducible repeat (first | apply Kd.R_alloc | apply Kd.R_drewN | apply Kd.R_drew)); exact Kd.R_mono HO_588001.out (fun _ hk => ⟨hk.1.1, hk.1.2⟩)⟩, ⟨by (with_reducible repeat (first | apply Kd.R_alloc | apply Kd.R_drewN | apply Kd.R_drew)); exact Kd.R_mono HO_594001.out (fun _ hk => ⟨hk.1, hk.2.1⟩)⟩, ⟨by (with_reducible repeat (first | refine blk_drewN ?_ _ | refine blk_drew ?_ | refine blk_alloc ?_ _)); exact BK571.out⟩, ⟨by (with_reducible repeat (first | refine blk_drewN ?_ _ | refine blk_drew ?_ | refine blk_alloc ?_ _)); exact BK582.out⟩, ⟨by (with_reducible repeat (first | refine blk_drewN ?_ _ | refine blk_drew ?_ | refine blk_alloc ?_ _)); exact BK587.out⟩, ⟨by (with_reducible repeat (first | refine blk_drewN ?_ _ | refine blk_drew ?_ | refine blk_alloc ?_ _)); exact BK593.out⟩, ⟨by repeat (first | (with_reducible first | exact HB.out | apply below_alloc | apply pw_below_drewN | apply below_drew1 | refine below_set ?_ GE571.out | refine below_set ?_ GE582.out | refine below_set ?_ GE587.out | refine below_set ?_ GE593.out) | exact HB.out)⟩⟩
            case rest =>
              clear HC62
              try clear c1
              try clear c2
              try clear p2
              try clear c3
              try clear c4
              try clear c5
              try clear c5b0
              try clear c6
              try clear c7
              try clear c8
              try clear c13
              try clear c15
              try clear c17
              try clear c19
              try clear c22
              try clear c28
              try clear c29
              try clear c34
              try clear c35
              try clear c36
              try clear c37
              try clear c40
              try clear c41
              try clear c42
              try clear c43
              try clear c45
              try clear c46
              try clear c47
              try clear c48
              try clear c49
              try clear c50
              try clear c51
              try clear c53
              try clear c54
              try clear c57
              try clear c60
              try clear c67
              try clear c68
              try clear c69
              try clear c72
              try clear c72b0
              try clear c74
              try clear c75
              try clear c76
              try clear c77
              try clear c79
              try clear c80
              try clear c83
              try clear c84
              try clear c85
              try clear c87
              try clear c88
              try clear hcz15_0
              try clear hcz15_1
              try clear hcz17_0
              try clear hcz17_1
              try clear hcz23_0
              try clear hcz23_1
              try clear hcz25_0
              try clear hcz25_1
              try clear hcz30_0
              try clear hcz30_1
              try clear hcz37_0
              try clear hcz37_1
              try clear hcz44_0
              try clear hcz44_1
              try clear hcz47_0
              try clear hcz47_1
              try clear hcz52_0
              try clear hcz52_1
              try clear hcz55_0
              try clear hcz55_1
              try clear hcz70_0
              try clear hcz70_1
              try clear hcz78_0
              try clear hcz78_1
              try clear hcz7_0
              try clear hcz7_1
              try clear hcz81_0
              try clear hcz81_1
              try clear hcz86_0
              try clear hcz86_1
              try clear hcz89_0
              try clear hcz89_1
              try clear hfz15_0
              try clear hfz15_1
              try clear hfz17_0
              try clear hfz17_1
              try clear hfz23_0
              try clear hfz23_1
              try clear hfz25_0
              try clear hfz25_1
              try clear hfz30_0
              try clear hfz30_1
              try clear hfz37_0
              try clear hfz37_1
              try clear hfz44_0
              try clear hfz44_1
              try clear hfz47_0
              try clear hfz47_1
              try clear hfz52_0
              try clear hfz52_1
              try clear hfz55_0
              try clear hfz55_1
              try clear hfz70_0
              try clear hfz70_1
              try clear hfz78_0
              try clear hfz78_1
              try clear hfz7_0
              try clear hfz7_1
              try clear hfz81_0
              try clear hfz81_1
              try clear hfz86_0
              try clear hfz86_1
              try clear hfz89_0
              try clear hfz89_1
              try clear p2
              obtain ⟨kq, x69_61, rfl, HA, HJ61, HO_583001, HO_588001, HO_594001, BK571, BK582, BK587, BK593, HB⟩ := hcut
              have hl588001_61 := (Kd.R_reads' HO_588001.out).1
              rw [hl588001_61] at HO_588001
              (try simp only [hl588001_61])
              (try simp only [hl588001_61] at BK571)
              (try simp only [hl588001_61] at BK582)
              (try simp only [hl588001_61] at BK587)
              (try simp only [hl588001_61] at BK593)
              (try simp only [hl588001_61] at HO_583001)
              (try simp only [hl588001_61] at HO_594001)
              cases kq with
              | zero => exact absurd HA.out (by simp [laws_FnExactFixInput.j1])
              | succ kj61 =>
                have H := HA.out
                clear HA
                simp only [laws_FnExactFixInput.j1] at H
                by_cases c91 : x69_61 = true
                · subst c91
                  have H1 : (some false) = some r := by rw [if_pos rfl] at H; exact H
                  clear H
                  have H := H1
                  clear H1
                  obtain rfl := Option.some.inj H
                  go_wp2
                  go_ret
                  exact ⟨by first | rfl | (simp [errW_none, errW_some] <;> rfl) | (simp [*, errW_none, errW_some] <;> rfl), by repeat (first | (with_reducible first | exact HB.out | apply below_alloc | apply pw_below_drewN | apply below_drew1 | refine below_set ?_ GE571.out | refine below_set ?_ GE582.out | refine below_set ?_ GE587.out | refine below_set ?_ GE593.out) | exact HB.out)⟩
                · replace c91 := Bool.eq_false_iff.mpr c91
                  subst c91
                  have H1 : ((laws_markTable.f kj61 t588 t589 1).bind fun bt603 => ((laws_heldTable.f kj61 t588 bt603.2 1).bind fun t605 => (if t605 < 0 then (some false) else (if t605 = bt603.1 then ((laws_toTable.f kj61 a0_0 l0_1).bind fun bt606 => ((impl_FixInput.f kj61 bt606.1 bt606.2 a1 a2).bind fun bt610 => ((laws_eqTable.f kj61 bt610.1 bt610.2.1 t577 t578).bind fun t616 => (if t616 = true then (laws_FnExactFixInput.j2 kj61 bt603.1 (bt610.2.2 != t581) t588 bt603.2) else (laws_FnExactFixInput.j2 kj61 bt603.1 true t588 bt603.2))))) else (some false))))) = some r := by rw [if_neg (show ¬ (false = true) by decide)] at H; exact H
                  clear H
                  have H := H1
                  clear H1
                  replace H := Option.bind_eq_some_iff.mp H
                  obtain ⟨⟨t603, t604⟩, A920, H⟩ := H
                  replace H : ((laws_heldTable.f kj61 t588 t604 1).bind fun t605 => (if t605 < 0 then (some false) else (if t605 = t603 then ((laws_toTable.f kj61 a0_0 l0_1).bind fun bt606 => ((impl_FixInput.f kj61 bt606.1 bt606.2 a1 a2).bind fun bt610 => ((laws_eqTable.f kj61 bt610.1 bt610.2.1 t577 t578).bind fun t616 => (if t616 = true then (laws_FnExactFixInput.j2 kj61 t603 (bt610.2.2 != t581) t588 t604) else (laws_FnExactFixInput.j2 kj61 t603 true t588 t604))))) else (some false)))) = some r := H
                  have A92 := Aside0.mk A920
                  clear A920
                  replace H := Option.bind_eq_some_iff.mp H
                  obtain ⟨t605, A930, H⟩ := H
                  replace H : (if t605 < 0 then (some false) else (if t605 = t603 then ((laws_toTable.f kj61 a0_0 l0_1).bind fun bt606 => ((impl_FixInput.f kj61 bt606.1 bt606.2 a1 a2).bind fun bt610 => ((laws_eqTable.f kj61 bt610.1 bt610.2.1 t577 t578).bind fun t616 => (if t616 = true then (laws_FnExactFixInput.j2 kj61 t603 (bt610.2.2 != t581) t588 t604) else (laws_FnExactFixInput.j2 kj61 t603 true t588 t604))))) else (some false))) = some r := H
                  have A93 := Aside0.mk A930
                  clear A930
                  by_cases c94 : t605 < 0
                  · rw [if_pos c94] at H
                    have c94b0 : decide (t605 < 0) = true := decide_eq_true c94
                    clear c94
                    obtain rfl := Option.some.inj H
                    have hnb95 := NB593_571.out
                    have hnc95 := NB571_593.out
                    have hnb96 := NB593_582.out
                    have hnc96 := NB582_593.out
                    have hnb97 := NB593_587.out
                    have hnc97 := NB587_593.out
                    have hcz98_0 : wc.cell? ⟨gb593, 0, none⟩ = some (.int .i64 t588) := (blk_cell BK593.out 0).trans rfl
                    have hcz98_1 : wc.cell? ⟨gb593, 1, none⟩ = some (.slice Ao38 t589.length co38) := (blk_cell BK593.out 1).trans rfl
                    have hfz98_0 := blk_frozen BK593.out 0
                    have hfz98_1 := blk_frozen BK593.out 1
                    go_wp2_with (first | ((with_reducible refine gate_callee (f := 37) rfl ?_); refine goesL_ (some 72) rfl rfl Try.func37 (by kernel_rfl) rfl #[.agg #[.int .i64 t588, .slice Ao38 t589.length co38], .int .i64 1] rfl (by (try simp only [List.map_toArray, List.map_cons, List.map_nil]); first | done | rfl | (simp only [List.length_drop, List.length_take]; rfl)) ?_; (with_reducible refine (laws_markTable.calls kj61 t588 (fun k_ => some k_ = (.slice Ao38 t589.length co38 : Value).ownBlock) (.slice Ao38 t589.length co38) t589 1 t603 t604 w _ ?side1 ?side2 A92.out).mono ?_); (case side1 => repeat (first | (with_reducible first | exact HB.out | apply below_alloc | apply pw_below_drewN | apply below_drew1 | refine below_set ?_ GE571.out | refine below_set ?_ GE582.out | refine below_set ?_ GE587.out | refine below_set ?_ GE593.out) | exact HB.out)); (case side2 => exact Kd.R_tight rfl HO_594001.out); rintro e w99 ⟨rfl, hy0, hb, hkp⟩; refine ⟨_, rfl, ?_⟩; have n0_ := Aside0.mk (Kd.R_mono (ok' := fun k_ => some k_ ≠ (.slice Ao31 t601.length co31 : Value).ownBlock ∧ some k_ ≠ (.slice Ao38 t589.length co38 : Value).ownBlock) (Kd.R_keptB (HO_583001.out) hkp (fun k_ hk_ hs_ => (hk_.2) hs_)) (fun k_ hk_ => ⟨hk_.1.1, hk_.1.2⟩)); have n1_ := Aside0.mk (Kd.R_mono (ok' := fun k_ => some k_ ≠ (.slice Ao24 t578.length co24 : Value).ownBlock ∧ some k_ ≠ (.slice Ao38 t589.length co38 : Value).ownBlock) (Kd.R_keptB (HO_588001.out) hkp (fun k_ hk_ hs_ => (hk_.2) hs_)) (fun k_ hk_ => ⟨hk_.1.1, hk_.1.2⟩)); have n2_ := Aside0.mk (Kd.R_reok rfl hy0 (fun k_ e_ => HO_594001.out.1 k_ e_)); have n3_ := Aside0.mk (blk_kept (by (with_reducible repeat (first | refine blk_drewN ?_ _ | refine blk_drew ?_ | refine blk_alloc ?_ _)); exact BK571.out) hkp (fun hs_ => (fun e_ => (Kd.R_ne HO_594001.out BK571.out (by decide)) e_) hs_)); have n4_ := Aside0.mk (blk_kept (by (with_reducible repeat (first | refine blk_drewN ?_ _ | refine blk_drew ?_ | refine blk_alloc ?_ _)); exact BK582.out) hkp (fun hs_ => (fun e_ => (Kd.R_ne HO_594001.out BK582.out (by decide)) e_) hs_)); have n5_ := Aside0.mk (blk_kept (by (with_reducible repeat (first | refine blk_drewN ?_ _ | refine blk_drew ?_ | refine blk_alloc ?_ _)); exact BK587.out) hkp (fun hs_ => (fun e_ => (Kd.R_ne HO_594001.out BK587.out (by decide)) e_) hs_)); have n6_ := Aside0.mk (blk_kept (by (with_reducible repeat (first | refine blk_drewN ?_ _ | refine blk_drew ?_ | refine blk_alloc ?_ _)); exact BK593.out) hkp (fun hs_ => (fun e_ => (Kd.R_ne HO_594001.out BK593.out (by decide)) e_) hs_)); have n7_ := Aside0.mk (hb); clear HO_583001; clear HO_588001; clear HO_594001; clear BK571; clear BK582; clear BK587; clear BK593; clear HB; have HO_583001 := n0_; have HO_588001 := n1_; have HO_594001 := n2_; have BK571 := n3_; have BK582 := n4_; have BK587 := n5_; have BK593 := n6_; have HB := n7_; clear n0_ n1_ n2_ n3_ n4_ n5_ n6_ n7_; (try clear hb); (try clear hkp); (try clear hy0); have hcz100_0 : w99.cell? ⟨gb593, 0, none⟩ = some (.int .i64 t588) := (blk_cell BK593.out 0).trans rfl; have hcz100_1 : w99.cell? ⟨gb593, 1, none⟩ = some (.slice Ao38 t589.length co38) := (blk_cell BK593.out 1).trans rfl; have hfz100_0 := blk_frozen BK593.out 0; have hfz100_1 := blk_frozen BK593.out 1) | ((with_reducible refine gate_callee (f := 38) rfl ?_); refine goesL_ (some 75) rfl rfl Try.func38 (by kernel_rfl) rfl #[.agg #[.int .i64 t588, .slice Ao38 t604.length co38], .int .i64 1] rfl (by (try simp only [List.map_toArray, List.map_cons, List.map_nil]); first | done | (rw [show t604.length = t589.length from (Kd.R_reads' HO_594001.out).1.symm] <;> rfl) | rfl | (simp only [List.length_drop, List.length_take]; rfl)) ?_; (with_reducible refine (laws_heldTable.calls kj61 t588 _ _ t604 1 t605 _ ?side1 ?side2 A93.out).mono ?_); (case side1 => repeat (first | exact (Kd.R_reads' HO_594001.out).2.2 | (with_reducible refine Kd.C_alloc ?_ _) | (with_reducible refine Kd.C_drewN ?_ _) | (with_reducible refine Kd.C_drew ?_))); (case side2 => rw [show t604.length = t589.length from (Kd.R_reads' HO_594001.out).1.symm]; exact (Kd.R_reads' HO_594001.out).2.1); rintro e w101 ⟨rfl, hb⟩; refine ⟨_, rfl, ?_⟩; have n0_ := Aside0.mk (Kd.R_below (by (with_reducible repeat (first | apply Kd.R_alloc | apply Kd.R_drewN | apply Kd.R_drew)); exact HO_583001.out) hb); have n1_ := Aside0.mk (Kd.R_below (by (with_reducible repeat (first | apply Kd.R_alloc | apply Kd.R_drewN | apply Kd.R_drew)); exact HO_588001.out) hb); have n2_ := Aside0.mk (Kd.R_below (by (with_reducible repeat (first | apply Kd.R_alloc | apply Kd.R_drewN | apply Kd.R_drew)); exact HO_594001.out) hb); have n3_ := Aside0.mk (blk_below (g := gb571) (o := .cells #[.int .i64 a0_0, .slice A0_1 l0_1.length c0_1] 24 (0, 0)) (by (with_reducible repeat (first | refine blk_drewN ?_ _ | refine blk_drew ?_ | refine blk_alloc ?_ _)); exact BK571.out) hb); have n4_ := Aside0.mk (blk_below (g := gb582) (o := .cells #[.int .i64 t577, .slice Ao24 t578.length co24] 27 (0, 0)) (by (with_reducible repeat (first | refine blk_drewN ?_ _ | refine blk_drew ?_ | refine blk_alloc ?_ _)); exact BK582.out) hb); have n5_ := Aside0.mk (blk_below (g := gb587) (o := .cells #[.int .i64 t583, .slice Ao31 t601.length co31] 27 (0, 0)) (by (with_reducible repeat (first | refine blk_drewN ?_ _ | refine blk_drew ?_ | refine blk_alloc ?_ _)); exact BK587.out) hb); have n6_ := Aside0.mk (blk_below (g := gb593) (o := .cells #[.int .i64 t588, .slice Ao38 t589.length co38] 27 (0, 0)) (by (with_reducible repeat (first | refine blk_drewN ?_ _ | refine blk_drew ?_ | refine blk_alloc ?_ _)); exact BK593.out) hb); have n7_ := Aside0.mk (below_step (by repeat (first | (with_reducible first | exact HB.out | apply below_alloc | apply pw_below_drewN | apply below_drew1 | refine below_set ?_ GE571.out | refine below_set ?_ GE582.out | refine below_set ?_ GE587.out | refine below_set ?_ GE593.out) | exact HB.out)) hb); clear HO_583001; clear HO_588001; clear HO_594001; clear BK571; clear BK582; clear BK587; clear BK593; clear HB; have HO_583001 := n0_; have HO_588001 := n1_; have HO_594001 := n2_; have BK571 := n3_; have BK582 := n4_; have BK587 := n5_; have BK593 := n6_; have HB := n7_; clear n0_ n1_ n2_ n3_ n4_ n5_ n6_ n7_; (try clear hb); (try clear hb2); (try clear hk); (try clear hi)))
                    go_ret
                    exact ⟨by first | rfl | (simp [errW_none, errW_some] <;> rfl) | (simp [*, errW_none, errW_some] <;> rfl), by repeat (first | (with_reducible first | exact HB.out | apply below_alloc | apply pw_below_drewN | apply below_drew1 | refine below_set ?_ GE571.out | refine below_set ?_ GE582.out | refine below_set ?_ GE587.out | refine below_set ?_ GE593.out) | exact HB.out)⟩
                  · rw [if_neg c94] at H
                    have c94b0 : decide (t605 < 0) = false := decide_eq_false c94
                    clear c94
                    by_cases c102 : t605 = t603
                    · rw [if_pos c102] at H
                      have c102b0 : (t605 == t603) = true := beq_iff_eq.mpr c102
                      have c102b1 : (t605 != t603) = false := bne_eq_false_iff_eq.mpr c102
                      clear c102
                      replace H := Option.bind_eq_some_iff.mp H
                      obtain ⟨⟨t606, t607⟩, A1030, H⟩ := H
                      replace H : ((impl_FixInput.f kj61 t606 t607 a1 a2).bind fun bt610 => ((laws_eqTable.f kj61 bt610.1 bt610.2.1 t577 t578).bind fun t616 => (if t616 = true then (laws_FnExactFixInput.j2 kj61 t603 (bt610.2.2 != t581) t588 t604) else (laws_FnExactFixInput.j2 kj61 t603 true t588 t604)))) = some r := H
                      have A103 := Aside0.mk A1030
                      clear A1030
                      replace H := Option.bind_eq_some_iff.mp H
                      obtain ⟨⟨t610, t611, t614⟩, A1040, H⟩ := H
                      replace H : ((laws_eqTable.f kj61 t610 t611 t577 t578).bind fun t616 => (if t616 = true then (laws_FnExactFixInput.j2 kj61 t603 (t614 != t581) t588 t604) else (laws_FnExactFixInput.j2 kj61 t603 true t588 t604))) = some r := H
                      have A104 := Aside0.mk A1040
                      clear A1040
                      have HC105 := Aside0.mk H
                      clear H
                      have hnb106 := NB593_571.out
                      have hnc106 := NB571_593.out
                      have hnb107 := NB593_582.out
                      have hnc107 := NB582_593.out
                      have hnb108 := NB593_587.out
                      have hnc108 := NB587_593.out
                      have hcz109_0 : wc.cell? ⟨gb593, 0, none⟩ = some (.int .i64 t588) := (blk_cell BK593.out 0).trans rfl
                      have hcz109_1 : wc.cell? ⟨gb593, 1, none⟩ = some (.slice Ao38 t589.length co38) := (blk_cell BK593.out 1).trans rfl
                      have hfz109_0 := blk_frozen BK593.out 0
                      have hfz109_1 := blk_frozen BK593.out 1
                      go_upto_region 25 with (first | ((with_reducible refine gate_callee (f := 37) rfl ?_); refine goesL_ (some 72) rfl rfl Try.func37 (by kernel_rfl) rfl #[.agg #[.int .i64 t588, .slice Ao38 t589.length co38], .int .i64 1] rfl (by (try simp only [List.map_toArray, List.map_cons, List.map_nil]); first | done | rfl | (simp only [List.length_drop, List.length_take]; rfl)) ?_; (with_reducible refine (laws_markTable.calls kj61 t588 (fun k_ => some k_ = (.slice Ao38 t589.length co38 : Value).ownBlock) (.slice Ao38 t589.length co38) t589 1 t603 t604 w _ ?side1 ?side2 A92.out).mono ?_); (case side1 => repeat (first | (with_reducible first | exact HB.out | apply below_alloc | apply pw_below_drewN | apply below_drew1 | refine below_set ?_ GE571.out | refine below_set ?_ GE582.out | refine below_set ?_ GE587.out | refine below_set ?_ GE593.out) | exact HB.out)); (case side2 => exact Kd.R_tight rfl HO_594001.out); rintro e w110 ⟨rfl, hy0, hb, hkp⟩; refine ⟨_, rfl, ?_⟩; have n0_ := Aside0.mk (Kd.R_mono (ok' := fun k_ => some k_ ≠ (.slice Ao31 t601.length co31 : Value).ownBlock ∧ some k_ ≠ (.slice Ao38 t589.length co38 : Value).ownBlock) (Kd.R_keptB (HO_583001.out) hkp (fun k_ hk_ hs_ => (hk_.2) hs_)) (fun k_ hk_ => ⟨hk_.1.1, hk_.1.2⟩)); have n1_ := Aside0.mk (Kd.R_mono (ok' := fun k_ => some k_ ≠ (.slice Ao24 t578.length co24 : Value).ownBlock ∧ some k_ ≠ (.slice Ao38 t589.length co38 : Value).ownBlock) (Kd.R_keptB (HO_588001.out) hkp (fun k_ hk_ hs_ => (hk_.2) hs_)) (fun k_ hk_ => ⟨hk_.1.1, hk_.1.2⟩)); have n2_ := Aside0.mk (Kd.R_reok rfl hy0 (fun k_ e_ => HO_594001.out.1 k_ e_)); have n3_ := Aside0.mk (blk_kept (by (with_reducible repeat (first | refine blk_drewN ?_ _ | refine blk_drew ?_ | refine blk_alloc ?_ _)); exact BK571.out) hkp (fun hs_ => (fun e_ => (Kd.R_ne HO_594001.out BK571.out (by decide)) e_) hs_)); have n4_ := Aside0.mk (blk_kept (by (with_reducible repeat (first | refine blk_drewN ?_ _ | refine blk_drew ?_ | refine blk_alloc ?_ _)); exact BK582.out) hkp (fun hs_ => (fun e_ => (Kd.R_ne HO_594001.out BK582.out (by decide)) e_) hs_)); have n5_ := Aside0.mk (blk_kept (by (with_reducible repeat (first | refine blk_drewN ?_ _ | refine blk_drew ?_ | refine blk_alloc ?_ _)); exact BK587.out) hkp (fun hs_ => (fun e_ => (Kd.R_ne HO_594001.out BK587.out (by decide)) e_) hs_)); have n6_ := Aside0.mk (blk_kept (by (with_reducible repeat (first | refine blk_drewN ?_ _ | refine blk_drew ?_ | refine blk_alloc ?_ _)); exact BK593.out) hkp (fun hs_ => (fun e_ => (Kd.R_ne HO_594001.out BK593.out (by decide)) e_) hs_)); have n7_ := Aside0.mk (hb); clear HO_583001; clear HO_588001; clear HO_594001; clear BK571; clear BK582; clear BK587; clear BK593; clear HB; have HO_583001 := n0_; have HO_588001 := n1_; have HO_594001 := n2_; have BK571 := n3_; have BK582 := n4_; have BK587 := n5_; have BK593 := n6_; have HB := n7_; clear n0_ n1_ n2_ n3_ n4_ n5_ n6_ n7_; (try clear hb); (try clear hkp); (try clear hy0); have hcz111_0 : w110.cell? ⟨gb593, 0, none⟩ = some (.int .i64 t588) := (blk_cell BK593.out 0).trans rfl; have hcz111_1 : w110.cell? ⟨gb593, 1, none⟩ = some (.slice Ao38 t589.length co38) := (blk_cell BK593.out 1).trans rfl; have hfz111_0 := blk_frozen BK593.out 0; have hfz111_1 := blk_frozen BK593.out 1) | ((with_reducible refine gate_callee (f := 38) rfl ?_); refine goesL_ (some 75) rfl rfl Try.func38 (by kernel_rfl) rfl #[.agg #[.int .i64 t588, .slice Ao38 t604.length co38], .int .i64 1] rfl (by (try simp only [List.map_toArray, List.map_cons, List.map_nil]); first | done | (rw [show t604.length = t589.length from (Kd.R_reads' HO_594001.out).1.symm] <;> rfl) | rfl | (simp only [List.length_drop, List.length_take]; rfl)) ?_; (with_reducible refine (laws_heldTable.calls kj61 t588 _ _ t604 1 t605 _ ?side1 ?side2 A93.out).mono ?_); (case side1 => repeat (first | exact (Kd.R_reads' HO_594001.out).2.2 | (with_reducible refine Kd.C_alloc ?_ _) | (with_reducible refine Kd.C_drewN ?_ _) | (with_reducible refine Kd.C_drew ?_))); (case side2 => rw [show t604.length = t589.length from (Kd.R_reads' HO_594001.out).1.symm]; exact (Kd.R_reads' HO_594001.out).2.1); rintro e w112 ⟨rfl, hb⟩; refine ⟨_, rfl, ?_⟩; have n0_ := Aside0.mk (Kd.R_below (by (with_reducible repeat (first | apply Kd.R_alloc | apply Kd.R_drewN | apply Kd.R_drew)); exact HO_583001.out) hb); have n1_ := Aside0.mk (Kd.R_below (by (with_reducible repeat (first | apply Kd.R_alloc | apply Kd.R_drewN | apply Kd.R_drew)); exact HO_588001.out) hb); have n2_ := Aside0.mk (Kd.R_below (by (with_reducible repeat (first | apply Kd.R_alloc | apply Kd.R_drewN | apply Kd.R_drew)); exact HO_594001.out) hb); have n3_ := Aside0.mk (blk_below (g := gb571) (o := .cells #[.int .i64 a0_0, .slice A0_1 l0_1.length c0_1] 24 (0, 0)) (by (with_reducible repeat (first | refine blk_drewN ?_ _ | refine blk_drew ?_ | refine blk_alloc ?_ _)); exact BK571.out) hb); have n4_ := Aside0.mk (blk_below (g := gb582) (o := .cells #[.int .i64 t577, .slice Ao24 t578.length co24] 27 (0, 0)) (by (with_reducible repeat (first | refine blk_drewN ?_ _ | refine blk_drew ?_ | refine blk_alloc ?_ _)); exact BK582.out) hb); have n5_ := Aside0.mk (blk_below (g := gb587) (o := .cells #[.int .i64 t583, .slice Ao31 t601.length co31] 27 (0, 0)) (by (with_reducible repeat (first | refine blk_drewN ?_ _ | refine blk_drew ?_ | refine blk_alloc ?_ _)); exact BK587.out) hb); have n6_ := Aside0.mk (blk_below (g := gb593) (o := .cells #[.int .i64 t588, .slice Ao38 t589.length co38] 27 (0, 0)) (by (with_reducible repeat (first | refine blk_drewN ?_ _ | refine blk_drew ?_ | refine blk_alloc ?_ _)); exact BK593.out) hb); have n7_ := Aside0.mk (below_step (by repeat (first | (with_reducible first | exact HB.out | apply below_alloc | apply pw_below_drewN | apply below_drew1 | refine below_set ?_ GE571.out | refine below_set ?_ GE582.out | refine below_set ?_ GE587.out | refine below_set ?_ GE593.out) | exact HB.out)) hb); clear HO_583001; clear HO_588001; clear HO_594001; clear BK571; clear BK582; clear BK587; clear BK593; clear HB; have HO_583001 := n0_; have HO_588001 := n1_; have HO_594001 := n2_; have BK571 := n3_; have BK582 := n4_; have BK587 := n5_; have BK593 := n6_; have HB := n7_; clear n0_ n1_ n2_ n3_ n4_ n5_ n6_ n7_; (try clear hb); (try clear hb2); (try clear hk); (try clear hi); have hnb113 := NB571_582.out; have hnc113 := NB582_571.out; have hnb114 := NB571_587.out; have hnc114 := NB587_571.out; have hcz115_0 : w112.cell? ⟨gb571, 0, none⟩ = some (.int .i64 a0_0) := (blk_cell BK571.out 0).trans rfl; have hcz115_1 : w112.cell? ⟨gb571, 1, none⟩ = some (.slice A0_1 l0_1.length c0_1) := (blk_cell BK571.out 1).trans rfl; have hfz115_0 := blk_frozen BK571.out 0; have hfz115_1 := blk_frozen BK571.out 1) | ((with_reducible refine gate_callee (f := 17) rfl ?_); refine goesL_ (some 83) rfl rfl Try.func17 (by kernel_rfl) rfl #[.agg #[.int .i64 a0_0, .slice A0_1 l0_1.length c0_1]] rfl (by (try simp only [List.map_toArray, List.map_cons, List.map_nil]); first | done | rfl | (simp only [List.length_drop, List.length_take]; rfl)) ?_; (with_reducible refine (laws_toTable.calls kj61 a0_0 _ _ l0_1 t606 t607 _ ?side1 ?side2 A103.out).mono ?_); (case side1 => repeat (first | exact (Kd.C_below HR0_1.out HB.out) | (with_reducible refine Kd.C_alloc ?_ _) | (with_reducible refine Kd.C_drewN ?_ _) | (with_reducible refine Kd.C_drew ?_))); (case side2 => exact HC0_1.out); rintro e w116 ⟨v608, rfl, ho0, hb⟩; refine ⟨_, rfl, ?_⟩; have n0_ := Aside0.mk (Kd.R_elder' (by (with_reducible repeat (first | apply Kd.R_alloc | apply Kd.R_drewN | apply Kd.R_drew)); exact HO_583001.out) (Kd.R_base ho0) hb); have n1_ := Aside0.mk (Kd.R_elder' (by (with_reducible repeat (first | apply Kd.R_alloc | apply Kd.R_drewN | apply Kd.R_drew)); exact HO_588001.out) (Kd.R_base ho0) hb); have n2_ := Aside0.mk (Kd.R_elder' (by (with_reducible repeat (first | apply Kd.R_alloc | apply Kd.R_drewN | apply Kd.R_drew)); exact HO_594001.out) (Kd.R_base ho0) hb); have n3_ := Aside0.mk (Kd.R_lower (Kd.R_new' (Kd.R_new' (Kd.R_new' ho0 (Kd.R_lt (by (with_reducible repeat (first | apply Kd.R_alloc | apply Kd.R_drewN | apply Kd.R_drew)); exact HO_583001.out))) (Kd.R_lt (by (with_reducible repeat (first | apply Kd.R_alloc | apply Kd.R_drewN | apply Kd.R_drew)); exact HO_588001.out))) (Kd.R_lt (by (with_reducible repeat (first | apply Kd.R_alloc | apply Kd.R_drewN | apply Kd.R_drew)); exact HO_594001.out))) (below_size (by repeat (first | (with_reducible first | exact HB.out | apply below_alloc | apply pw_below_drewN | apply below_drew1 | refine below_set ?_ GE571.out | refine below_set ?_ GE582.out | refine below_set ?_ GE587.out | refine below_set ?_ GE593.out) | exact HB.out)))); have n4_ := Aside0.mk (blk_below (g := gb571) (o := .cells #[.int .i64 a0_0, .slice A0_1 l0_1.length c0_1] 24 (0, 0)) (by (with_reducible repeat (first | refine blk_drewN ?_ _ | refine blk_drew ?_ | refine blk_alloc ?_ _)); exact BK571.out) hb); have n5_ := Aside0.mk (blk_below (g := gb582) (o := .cells #[.int .i64 t577, .slice Ao24 t578.length co24] 27 (0, 0)) (by (with_reducible repeat (first | refine blk_drewN ?_ _ | refine blk_drew ?_ | refine blk_alloc ?_ _)); exact BK582.out) hb); have n6_ := Aside0.mk (blk_below (g := gb587) (o := .cells #[.int .i64 t583, .slice Ao31 t601.length co31] 27 (0, 0)) (by (with_reducible repeat (first | refine blk_drewN ?_ _ | refine blk_drew ?_ | refine blk_alloc ?_ _)); exact BK587.out) hb); have n7_ := Aside0.mk (blk_below (g := gb593) (o := .cells #[.int .i64 t588, .slice Ao38 t589.length co38] 27 (0, 0)) (by (with_reducible repeat (first | refine blk_drewN ?_ _ | refine blk_drew ?_ | refine blk_alloc ?_ _)); exact BK593.out) hb); have n8_ := Aside0.mk (below_step (by repeat (first | (with_reducible first | exact HB.out | apply below_alloc | apply pw_below_drewN | apply below_drew1 | refine below_set ?_ GE571.out | refine below_set ?_ GE582.out | refine below_set ?_ GE587.out | refine below_set ?_ GE593.out) | exact HB.out)) hb); clear HO_583001; clear HO_588001; clear HO_594001; clear BK571; clear BK582; clear BK587; clear BK593; clear HB; have HO_583001 := n0_; have HO_588001 := n1_; have HO_594001 := n2_; have HO609 := n3_; have BK571 := n4_; have BK582 := n5_; have BK587 := n6_; have BK593 := n7_; have HB := n8_; clear n0_ n1_ n2_ n3_ n4_ n5_ n6_ n7_ n8_; (try clear hb); (try clear hb2); (try clear hk); (try clear hi); (try clear ho0); obtain ⟨Ao117, co117, eo117⟩ := Kd.R_slice HO609.out; subst eo117) | ((with_reducible refine gate_callee (f := 48) rfl ?_); refine goesL_ (some 86) rfl rfl Try.func48 (by kernel_rfl) rfl #[.agg #[.int .i64 t606, .slice Ao117 t607.length co117], .int .i64 a1, .int .i64 a2] rfl (by (try simp only [List.map_toArray, List.map_cons, List.map_nil]); first | done | rfl | (simp only [List.length_drop, List.length_take]; rfl)) ?_; (with_reducible refine (impl_FixInput.calls kj61 t606 _ _ t607 a1 a2 t610 t611 t614 _ ?side1 ?side2 A104.out).mono ?_); (case side1 => repeat (first | exact (Kd.R_reads' HO609.out).2.2 | (with_reducible refine Kd.C_alloc ?_ _) | (with_reducible refine Kd.C_drewN ?_ _) | (with_reducible refine Kd.C_drew ?_))); (case side2 => exact (Kd.R_reads' HO609.out).2.1); rintro e w118 ⟨v612, rfl, ho0, hb⟩; refine ⟨_, rfl, ?_⟩; have n0_ := Aside0.mk (Kd.R_elder' (by (with_reducible repeat (first | apply Kd.R_alloc | apply Kd.R_drewN | apply Kd.R_drew)); exact HO_583001.out) (Kd.R_base ho0) hb); have n1_ := Aside0.mk (Kd.R_elder' (by (with_reducible repeat (first | apply Kd.R_alloc | apply Kd.R_drewN | apply Kd.R_drew)); exact HO_588001.out) (Kd.R_base ho0) hb); have n2_ := Aside0.mk (Kd.R_elder' (by (with_reducible repeat (first | apply Kd.R_alloc | apply Kd.R_drewN | apply Kd.R_drew)); exact HO_594001.out) (Kd.R_base ho0) hb); have n3_ := Aside0.mk (Kd.R_elder' (by (with_reducible repeat (first | apply Kd.R_alloc | apply Kd.R_drewN | apply Kd.R_drew)); exact HO609.out) (Kd.R_base ho0) hb); have n4_ := Aside0.mk (Kd.R_lower (Kd.R_new' (Kd.R_new' (Kd.R_new' (Kd.R_new' ho0 (Kd.R_lt (by (with_reducible repeat (first | apply Kd.R_alloc | apply Kd.R_drewN | apply Kd.R_drew)); exact HO_583001.out))) (Kd.R_lt (by (with_reducible repeat (first | apply Kd.R_alloc | apply Kd.R_drewN | apply Kd.R_drew)); exact HO_588001.out))) (Kd.R_lt (by (with_reducible repeat (first | apply Kd.R_alloc | apply Kd.R_drewN | apply Kd.R_drew)); exact HO_594001.out))) (Kd.R_lt (by (with_reducible repeat (first | apply Kd.R_alloc | apply Kd.R_drewN | apply Kd.R_drew)); exact HO609.out))) (below_size (by repeat (first | (with_reducible first | exact HB.out | apply below_alloc | apply pw_below_drewN | apply below_drew1 | refine below_set ?_ GE571.out | refine below_set ?_ GE582.out | refine below_set ?_ GE587.out | refine below_set ?_ GE593.out) | exact HB.out)))); have n5_ := Aside0.mk (blk_below (g := gb571) (o := .cells #[.int .i64 a0_0, .slice A0_1 l0_1.length c0_1] 24 (0, 0)) (by (with_reducible repeat (first | refine blk_drewN ?_ _ | refine blk_drew ?_ | refine blk_alloc ?_ _)); exact BK571.out) hb); have n6_ := Aside0.mk (blk_below (g := gb582) (o := .cells #[.int .i64 t577, .slice Ao24 t578.length co24] 27 (0, 0)) (by (with_reducible repeat (first | refine blk_drewN ?_ _ | refine blk_drew ?_ | refine blk_alloc ?_ _)); exact BK582.out) hb); have n7_ := Aside0.mk (blk_below (g := gb587) (o := .cells #[.int .i64 t583, .slice Ao31 t601.length co31] 27 (0, 0)) (by (with_reducible repeat (first | refine blk_drewN ?_ _ | refine blk_drew ?_ | refine blk_alloc ?_ _)); exact BK587.out) hb); have n8_ := Aside0.mk (blk_below (g := gb593) (o := .cells #[.int .i64 t588, .slice Ao38 t589.length co38] 27 (0, 0)) (by (with_reducible repeat (first | refine blk_drewN ?_ _ | refine blk_drew ?_ | refine blk_alloc ?_ _)); exact BK593.out) hb); have n9_ := Aside0.mk (below_step (by repeat (first | (with_reducible first | exact HB.out | apply below_alloc | apply pw_below_drewN | apply below_drew1 | refine below_set ?_ GE571.out | refine below_set ?_ GE582.out | refine below_set ?_ GE587.out | refine below_set ?_ GE593.out) | exact HB.out)) hb); clear HO_583001; clear HO_588001; clear HO_594001; clear HO609; clear BK571; clear BK582; clear BK587; clear BK593; clear HB; have HO_583001 := n0_; have HO_588001 := n1_; have HO_594001 := n2_; have HO609 := n3_; have HO613 := n4_; have BK571 := n5_; have BK582 := n6_; have BK587 := n7_; have BK593 := n8_; have HB := n9_; clear n0_ n1_ n2_ n3_ n4_ n5_ n6_ n7_ n8_ n9_; (try clear hb); (try clear hb2); (try clear hk); (try clear hi); (try clear ho0)) | ((with_reducible refine gate_dst (N := 16) rfl ?_); refine box_event ?hg (N := 16) ?hd (cs := #[.int .i64 0, .slice none 0 0]) (t := 27) ?hr ?_; (case hd => rfl); (case hg => rfl); (case hr => first | (go_simp; done) | (go_simp; rfl)); intro gb615 hg w119 hbox hb; have n0_ := Aside0.mk (Kd.R_below (by (with_reducible repeat (first | apply Kd.R_alloc | apply Kd.R_drewN | apply Kd.R_drew)); exact HO_583001.out) hb); have n1_ := Aside0.mk (Kd.R_below (by (with_reducible repeat (first | apply Kd.R_alloc | apply Kd.R_drewN | apply Kd.R_drew)); exact HO_588001.out) hb); have n2_ := Aside0.mk (Kd.R_below (by (with_reducible repeat (first | apply Kd.R_alloc | apply Kd.R_drewN | apply Kd.R_drew)); exact HO_594001.out) hb); have n3_ := Aside0.mk (Kd.R_below (by (with_reducible repeat (first | apply Kd.R_alloc | apply Kd.R_drewN | apply Kd.R_drew)); exact HO609.out) hb); have n4_ := Aside0.mk (Kd.R_below (by (with_reducible repeat (first | apply Kd.R_alloc | apply Kd.R_drewN | apply Kd.R_drew)); exact HO613.out) hb); have n5_ := Aside0.mk (blk_below (g := gb571) (o := .cells #[.int .i64 a0_0, .slice A0_1 l0_1.length c0_1] 24 (0, 0)) (by (with_reducible repeat (first | refine blk_drewN ?_ _ | refine blk_drew ?_ | refine blk_alloc ?_ _)); exact BK571.out) hb); have n6_ := Aside0.mk (blk_below (g := gb582) (o := .cells #[.int .i64 t577, .slice Ao24 t578.length co24] 27 (0, 0)) (by (with_reducible repeat (first | refine blk_drewN ?_ _ | refine blk_drew ?_ | refine blk_alloc ?_ _)); exact BK582.out) hb); have n7_ := Aside0.mk (blk_below (g := gb587) (o := .cells #[.int .i64 t583, .slice Ao31 t601.length co31] 27 (0, 0)) (by (with_reducible repeat (first | refine blk_drewN ?_ _ | refine blk_drew ?_ | refine blk_alloc ?_ _)); exact BK587.out) hb); have n8_ := Aside0.mk (blk_below (g := gb593) (o := .cells #[.int .i64 t588, .slice Ao38 t589.length co38] 27 (0, 0)) (by (with_reducible repeat (first | refine blk_drewN ?_ _ | refine blk_drew ?_ | refine blk_alloc ?_ _)); exact BK593.out) hb); have n9_ := Aside0.mk (below_step (by repeat (first | (with_reducible first | exact HB.out | apply below_alloc | apply pw_below_drewN | apply below_drew1 | refine below_set ?_ GE571.out | refine below_set ?_ GE582.out | refine below_set ?_ GE587.out | refine below_set ?_ GE593.out) | exact HB.out)) hb); have n10_ := Aside0.mk (hbox); have n11_ := Aside0.mk ((by rw [hg]; exact (below_size (by repeat (first | (with_reducible first | exact HB.out | apply below_alloc | apply pw_below_drewN | apply below_drew1 | refine below_set ?_ GE571.out | refine below_set ?_ GE582.out | refine below_set ?_ GE587.out | refine below_set ?_ GE593.out) | exact HB.out))) : w.heap.size ≤ gb615)); have n12_ := Aside0.mk ((by rw [hg]; exact (below_size (by repeat (first | (with_reducible first | exact HB.out | apply below_alloc | apply pw_below_drewN | apply below_drew1 | refine below_set ?_ GE571.out | refine below_set ?_ GE582.out | refine below_set ?_ GE587.out | refine below_set ?_ GE593.out) | exact HB.out))) : w.heap.size ≤ gb615)); have n13_ := Aside0.mk ((by rw [hg]; exact Nat.ne_of_lt (blk_lt (g := gb571) (o := .cells #[.int .i64 a0_0, .slice A0_1 l0_1.length c0_1] 24 (0, 0)) (by (with_reducible repeat (first | refine blk_drewN ?_ _ | refine blk_drew ?_ | refine blk_alloc ?_ _)); exact BK571.out)) : gb571 ≠ gb615)); have n14_ := Aside0.mk ((by rw [hg]; exact Nat.ne_of_gt (blk_lt (g := gb571) (o := .cells #[.int .i64 a0_0, .slice A0_1 l0_1.length c0_1] 24 (0, 0)) (by (with_reducible repeat (first | refine blk_drewN ?_ _ | refine blk_drew ?_ | refine blk_alloc ?_ _)); exact BK571.out)) : gb615 ≠ gb571)); have n15_ := Aside0.mk ((by rw [hg]; exact Nat.ne_of_lt (blk_lt (g := gb582) (o := .cells #[.int .i64 t577, .slice Ao24 t578.length co24] 27 (0, 0)) (by (with_reducible repeat (first | refine blk_drewN ?_ _ | refine blk_drew ?_ | refine blk_alloc ?_ _)); exact BK582.out)) : gb582 ≠ gb615)); have n16_ := Aside0.mk ((by rw [hg]; exact Nat.ne_of_gt (blk_lt (g := gb582) (o := .cells #[.int .i64 t577, .slice Ao24 t578.length co24] 27 (0, 0)) (by (with_reducible repeat (first | refine blk_drewN ?_ _ | refine blk_drew ?_ | refine blk_alloc ?_ _)); exact BK582.out)) : gb615 ≠ gb582)); have n17_ := Aside0.mk ((by rw [hg]; exact Nat.ne_of_lt (blk_lt (g := gb587) (o := .cells #[.int .i64 t583, .slice Ao31 t601.length co31] 27 (0, 0)) (by (with_reducible repeat (first | refine blk_drewN ?_ _ | refine blk_drew ?_ | refine blk_alloc ?_ _)); exact BK587.out)) : gb587 ≠ gb615)); have n18_ := Aside0.mk ((by rw [hg]; exact Nat.ne_of_gt (blk_lt (g := gb587) (o := .cells #[.int .i64 t583, .slice Ao31 t601.length co31] 27 (0, 0)) (by (with_reducible repeat (first | refine blk_drewN ?_ _ | refine blk_drew ?_ | refine blk_alloc ?_ _)); exact BK587.out)) : gb615 ≠ gb587)); have n19_ := Aside0.mk ((by rw [hg]; exact Nat.ne_of_lt (blk_lt (g := gb593) (o := .cells #[.int .i64 t588, .slice Ao38 t589.length co38] 27 (0, 0)) (by (with_reducible repeat (first | refine blk_drewN ?_ _ | refine blk_drew ?_ | refine blk_alloc ?_ _)); exact BK593.out)) : gb593 ≠ gb615)); have n20_ := Aside0.mk ((by rw [hg]; exact Nat.ne_of_gt (blk_lt (g := gb593) (o := .cells #[.int .i64 t588, .slice Ao38 t589.length co38] 27 (0, 0)) (by (with_reducible repeat (first | refine blk_drewN ?_ _ | refine blk_drew ?_ | refine blk_alloc ?_ _)); exact BK593.out)) : gb615 ≠ gb593)); clear HO_583001; clear HO_588001; clear HO_594001; clear HO609; clear HO613; clear BK571; clear BK582; clear BK587; clear BK593; clear HB; have HO_583001 := n0_; have HO_588001 := n1_; have HO_594001 := n2_; have HO609 := n3_; have HO613 := n4_; have BK571 := n5_; have BK582 := n6_; have BK587 := n7_; have BK593 := n8_; have HB := n9_; have BK615 := n10_; have GW615 := n11_; have GE615 := n12_; have NB571_615 := n13_; have NB615_571 := n14_; have NB582_615 := n15_; have NB615_582 := n16_; have NB587_615 := n17_; have NB615_587 := n18_; have NB593_615 := n19_; have NB615_593 := n20_; clear n0_ n1_ n2_ n3_ n4_ n5_ n6_ n7_ n8_ n9_ n10_ n11_ n12_ n13_ n14_ n15_ n16_ n17_ n18_ n19_ n20_; clear hb hbox hg; have hnb120 := NB615_571.out; have hnc120 := NB571_615.out; have hnb121 := NB615_582.out; have hnc121 := NB582_615.out; have hnb122 := NB615_587.out; have hnc122 := NB587_615.out; have hnb123 := NB615_593.out; have hnc123 := NB593_615.out; have hcz124_0 : w119.cell? ⟨gb615, 0, none⟩ = some (.int .i64 0) := (blk_cell BK615.out 0).trans rfl; have hcz124_1 : w119.cell? ⟨gb615, 1, none⟩ = some (.slice none 0 0) := (blk_cell BK615.out 1).trans rfl; have hfz124_0 := blk_frozen BK615.out 0; have hfz124_1 := blk_frozen BK615.out 1; obtain ⟨Ao125, co125, eo125⟩ := Kd.R_slice HO613.out; subst eo125))
                      (try simp only [Act.put, List.setIfInBounds_toArray, List.set_cons_zero, List.set_cons_succ])
                      go_cut [97] (fun v97 wc => ∃ (kq : Nat) (x97_104 : Bool), v97 = .bool x97_104 ∧ Aside0 (laws_FnExactFixInput.j2 kq t603 x97_104 t588 t604 = some r) ∧ Aside0 (kq ≤ kj61) ∧ Aside0 (Kd.R (Kd.int .i64) 3 wc w.heap.size (fun k_ => some k_ ≠ ((.slice Ao31 t601.length co31) : Value).ownBlock ∧ some k_ ≠ ((.slice Ao38 t589.length co38) : Value).ownBlock ∧ some k_ ≠ ((.slice Ao125 t611.length co125) : Value).ownBlock) (.slice Ao24 t578.length co24) t578) ∧ Aside0 (Kd.R (Kd.int .i64) 3 wc w.heap.size (fun k_ => some k_ ≠ ((.slice Ao24 t578.length co24) : Value).ownBlock ∧ some k_ ≠ ((.slice Ao38 t589.length co38) : Value).ownBlock ∧ some k_ ≠ ((.slice Ao125 t611.length co125) : Value).ownBlock) (.slice Ao31 t601.length co31) t601) ∧ Aside0 (Kd.R (Kd.int .i64) 3 wc w.heap.size (fun k_ => some k_ ≠ ((.slice Ao24 t578.length co24) : Value).ownBlock ∧ some k_ ≠ ((.slice Ao31 t601.length co31) : Value).ownBlock ∧ some k_ ≠ ((.slice Ao125 t611.length co125) : Value).ownBlock) (.slice Ao38 t589.length co38) t604) ∧ Aside0 (Kd.R (Kd.int .i64) 3 wc w.heap.size (fun k_ => some k_ ≠ ((.slice Ao24 t578.length co24) : Value).ownBlock ∧ some k_ ≠ ((.slice Ao31 t601.length co31) : Value).ownBlock ∧ some k_ ≠ ((.slice Ao38 t589.length co38) : Value).ownBlock) (.slice Ao125 t611.length co125) t611) ∧ Aside0 (wc.heap[gb571]? = some (.cells #[.int .i64 a0_0, (.slice A0_1 l0_1.length c0_1)] 24 (0, 0))) ∧ Aside0 (wc.heap[gb582]? = some (.cells #[.int .i64 t577, (.slice Ao24 t578.length co24)] 27 (0, 0))) ∧ Aside0 (wc.heap[gb587]? = some (.cells #[.int .i64 t583, (.slice Ao31 t601.length co31)] 27 (0, 0))) ∧ Aside0 (wc.heap[gb593]? = some (.cells #[.int .i64 t588, (.slice Ao38 t589.length co38)] 27 (0, 0))) ∧ Aside0 (wc.heap[gb615]? = some (.cells #[.int .i64 t610, (.slice Ao125 t611.length co125)] 27 (0, 0))) ∧ Aside0 (Below w.heap.size w wc))
                      case first =>
                        have H := HC105.out
                        clear HC105
                        replace H := Option.bind_eq_some_iff.mp H
                        obtain ⟨t616, A1260, H⟩ := H
                        replace H : (if t616 = true then (laws_FnExactFixInput.j2 kj61 t603 (t614 != t581) t588 t604) else (laws_FnExactFixInput.j2 kj61 t603 true t588 t604)) = some r := H
                        have A126 := Aside0.mk A1260
                        clear A1260
                        by_cases c127 : t616 = true
                        · subst c127
                          have H1 : (laws_FnExactFixInput.j2 kj61 t603 (t614 != t581) t588 t604) = some r := by rw [if_pos rfl] at H; exact H
                          clear H
                          have H := H1
                          clear H1
                          have H' := Aside0.mk H
                          clear H
                          have hnb128 := NB615_571.out
                          have hnc128 := NB571_615.out
                          have hnb129 := NB615_582.out
                          have hnc129 := NB582_615.out
                          have hnb130 := NB615_587.out
                          have hnc130 := NB587_615.out
                          have hnb131 := NB615_593.out
                          have hnc131 := NB593_615.out
                          have hcz132_0 : w119.cell? ⟨gb615, 0, none⟩ = some (.int .i64 0) := (blk_cell BK615.out 0).trans rfl
                          have hcz132_1 : w119.cell? ⟨gb615, 1, none⟩ = some (.slice none 0 0) := (blk_cell BK615.out 1).trans rfl
                          have hfz132_0 := blk_frozen BK615.out 0
                          have hfz132_1 := blk_frozen BK615.out 1
                          have hnb133 := NB582_571.out
                          have hnc133 := NB571_582.out
                          have hnb134 := NB582_587.out
                          have hnc134 := NB587_582.out
                          have hnb135 := NB582_593.out
                          have hnc135 := NB593_582.out
                          have hcz136_0 : w119.cell? ⟨gb582, 0, none⟩ = some (.int .i64 t577) := (blk_cell BK582.out 0).trans rfl
                          have hcz136_1 : w119.cell? ⟨gb582, 1, none⟩ = some (.slice Ao24 t578.length co24) := (blk_cell BK582.out 1).trans rfl
                          have hfz136_0 := blk_frozen BK582.out 0
                          have hfz136_1 := blk_frozen BK582.out 1
                          go_wp2_with (first | ((with_reducible refine gate_callee (f := 19) rfl ?_); refine goesL_ (some 91) rfl rfl Try.func19 (by kernel_rfl) rfl #[.agg #[.int .i64 t610, .slice Ao125 t611.length co125], .agg #[.int .i64 t577, .slice Ao24 t578.length co24]] rfl (by (try simp only [List.map_toArray, List.map_cons, List.map_nil]); first | done | rfl | (simp only [List.length_drop, List.length_take]; rfl)) ?_; (with_reducible refine (laws_eqTable.calls kj61 t610 _ _ t611 t577 _ _ t578 true _ ?side1 ?side2 ?side3 ?side4 A126.out).mono ?_); (case side1 => refine (Kd.R_reads' (e := 3) (base := w.heap.size) (ok := fun k_ => ((((True ∧ some k_ ≠ (.slice Ao24 t578.length co24 : Value).ownBlock) ∧ some k_ ≠ (.slice Ao31 t601.length co31 : Value).ownBlock) ∧ some k_ ≠ (.slice Ao38 t589.length co38 : Value).ownBlock) ∧ some k_ ≠ (.slice Ao117 t607.length co117 : Value).ownBlock)) (n := t611.length) (c := co125) ?_).2.2; exact (by (with_reducible repeat (first | apply Kd.R_alloc | apply Kd.R_drewN | apply Kd.R_drew)); exact (Kd.R_mono (Kd.R_far (p := ⟨gb615, 1, none⟩) (Kd.R_far (p := ⟨gb615, 0, none⟩) (Kd.R_types HO613.out BK615.out (by decide)) (fun _ hk => hk.2) (.int .i64 t610)) (fun _ hk => hk.2) (.slice Ao125 t611.length co125)) (fun _ h_ => h_.1)))); (case side2 => exact (Kd.R_reads' HO613.out).2.1); (case side3 => refine (Kd.R_reads' (e := 3) (base := w.heap.size) (ok := fun k_ => (((some k_ ≠ (.slice Ao31 t601.length co31 : Value).ownBlock ∧ some k_ ≠ (.slice Ao38 t589.length co38 : Value).ownBlock) ∧ some k_ ≠ (.slice Ao117 t607.length co117 : Value).ownBlock) ∧ some k_ ≠ (.slice Ao125 t611.length co125 : Value).ownBlock)) (n := t578.length) (c := co24) ?_).2.2; exact (by (with_reducible repeat (first | apply Kd.R_alloc | apply Kd.R_drewN | apply Kd.R_drew)); exact (Kd.R_mono (Kd.R_far (p := ⟨gb615, 1, none⟩) (Kd.R_far (p := ⟨gb615, 0, none⟩) (Kd.R_types HO_583001.out BK615.out (by decide)) (fun _ hk => hk.2) (.int .i64 t610)) (fun _ hk => hk.2) (.slice Ao125 t611.length co125)) (fun _ h_ => h_.1)))); (case side4 => exact (Kd.R_reads' HO_583001.out).2.1); rintro e w137 ⟨rfl, hb⟩; refine ⟨_, rfl, ?_⟩; have n0_ := Aside0.mk (Kd.R_below (by (with_reducible repeat (first | apply Kd.R_alloc | apply Kd.R_drewN | apply Kd.R_drew)); exact (Kd.R_mono (Kd.R_far (p := ⟨gb615, 1, none⟩) (Kd.R_far (p := ⟨gb615, 0, none⟩) (Kd.R_types HO_583001.out BK615.out (by decide)) (fun _ hk => hk.2) (.int .i64 t610)) (fun _ hk => hk.2) (.slice Ao125 t611.length co125)) (fun _ h_ => h_.1))) hb); have n1_ := Aside0.mk (Kd.R_below (by (with_reducible repeat (first | apply Kd.R_alloc | apply Kd.R_drewN | apply Kd.R_drew)); exact (Kd.R_mono (Kd.R_far (p := ⟨gb615, 1, none⟩) (Kd.R_far (p := ⟨gb615, 0, none⟩) (Kd.R_types HO_588001.out BK615.out (by decide)) (fun _ hk => hk.2) (.int .i64 t610)) (fun _ hk => hk.2) (.slice Ao125 t611.length co125)) (fun _ h_ => h_.1))) hb); have n2_ := Aside0.mk (Kd.R_below (by (with_reducible repeat (first | apply Kd.R_alloc | apply Kd.R_drewN | apply Kd.R_drew)); exact (Kd.R_mono (Kd.R_far (p := ⟨gb615, 1, none⟩) (Kd.R_far (p := ⟨gb615, 0, none⟩) (Kd.R_types HO_594001.out BK615.out (by decide)) (fun _ hk => hk.2) (.int .i64 t610)) (fun _ hk => hk.2) (.slice Ao125 t611.length co125)) (fun _ h_ => h_.1))) hb); have n3_ := Aside0.mk (Kd.R_below (by (with_reducible repeat (first | apply Kd.R_alloc | apply Kd.R_drewN | apply Kd.R_drew)); exact (Kd.R_mono (Kd.R_far (p := ⟨gb615, 1, none⟩) (Kd.R_far (p := ⟨gb615, 0, none⟩) (Kd.R_types HO609.out BK615.out (by decide)) (fun _ hk => hk.2) (.int .i64 t610)) (fun _ hk => hk.2) (.slice Ao125 t611.length co125)) (fun _ h_ => h_.1))) hb); have n4_ := Aside0.mk (Kd.R_below (by (with_reducible repeat (first | apply Kd.R_alloc | apply Kd.R_drewN | apply Kd.R_drew)); exact (Kd.R_mono (Kd.R_far (p := ⟨gb615, 1, none⟩) (Kd.R_far (p := ⟨gb615, 0, none⟩) (Kd.R_types HO613.out BK615.out (by decide)) (fun _ hk => hk.2) (.int .i64 t610)) (fun _ hk => hk.2) (.slice Ao125 t611.length co125)) (fun _ h_ => h_.1))) hb); have n5_ := Aside0.mk (blk_below (g := gb571) (o := .cells #[.int .i64 a0_0, .slice A0_1 l0_1.length c0_1] 24 (0, 0)) (by (with_reducible repeat (first | refine blk_drewN ?_ _ | refine blk_drew ?_ | refine blk_alloc ?_ _)); refine blk_far ?_ NB571_615.out _; (with_reducible repeat (first | refine blk_drewN ?_ _ | refine blk_drew ?_ | refine blk_alloc ?_ _)); refine blk_far ?_ NB571_615.out _; (with_reducible repeat (first | refine blk_drewN ?_ _ | refine blk_drew ?_ | refine blk_alloc ?_ _)); exact BK571.out) hb); have n6_ := Aside0.mk (blk_below (g := gb582) (o := .cells #[.int .i64 t577, .slice Ao24 t578.length co24] 27 (0, 0)) (by (with_reducible repeat (first | refine blk_drewN ?_ _ | refine blk_drew ?_ | refine blk_alloc ?_ _)); refine blk_far ?_ NB582_615.out _; (with_reducible repeat (first | refine blk_drewN ?_ _ | refine blk_drew ?_ | refine blk_alloc ?_ _)); refine blk_far ?_ NB582_615.out _; (with_reducible repeat (first | refine blk_drewN ?_ _ | refine blk_drew ?_ | refine blk_alloc ?_ _)); exact BK582.out) hb); have n7_ := Aside0.mk (blk_below (g := gb587) (o := .cells #[.int .i64 t583, .slice Ao31 t601.length co31] 27 (0, 0)) (by (with_reducible repeat (first | refine blk_drewN ?_ _ | refine blk_drew ?_ | refine blk_alloc ?_ _)); refine blk_far ?_ NB587_615.out _; (with_reducible repeat (first | refine blk_drewN ?_ _ | refine blk_drew ?_ | refine blk_alloc ?_ _)); refine blk_far ?_ NB587_615.out _; (with_reducible repeat (first | refine blk_drewN ?_ _ | refine blk_drew ?_ | refine blk_alloc ?_ _)); exact BK587.out) hb); have n8_ := Aside0.mk (blk_below (g := gb593) (o := .cells #[.int .i64 t588, .slice Ao38 t589.length co38] 27 (0, 0)) (by (with_reducible repeat (first | refine blk_drewN ?_ _ | refine blk_drew ?_ | refine blk_alloc ?_ _)); refine blk_far ?_ NB593_615.out _; (with_reducible repeat (first | refine blk_drewN ?_ _ | refine blk_drew ?_ | refine blk_alloc ?_ _)); refine blk_far ?_ NB593_615.out _; (with_reducible repeat (first | refine blk_drewN ?_ _ | refine blk_drew ?_ | refine blk_alloc ?_ _)); exact BK593.out) hb); have n9_ := Aside0.mk (blk_below (g := gb615) (o := .cells #[.int .i64 t610, .slice Ao125 t611.length co125] 27 (0, 0)) (by (with_reducible repeat (first | refine blk_drewN ?_ _ | refine blk_drew ?_ | refine blk_alloc ?_ _)); refine blk_put (cs := #[.int .i64 t610, .slice none 0 0]) ?_ 1 _ rfl; (with_reducible repeat (first | refine blk_drewN ?_ _ | refine blk_drew ?_ | refine blk_alloc ?_ _)); refine blk_put (cs := #[.int .i64 0, .slice none 0 0]) ?_ 0 _ rfl; (with_reducible repeat (first | refine blk_drewN ?_ _ | refine blk_drew ?_ | refine blk_alloc ?_ _)); exact BK615.out) hb); have n10_ := Aside0.mk (below_step (by repeat (first | (with_reducible first | exact HB.out | apply below_alloc | apply pw_below_drewN | apply below_drew1 | refine below_set ?_ GE571.out | refine below_set ?_ GE582.out | refine below_set ?_ GE587.out | refine below_set ?_ GE593.out | refine below_set ?_ GE615.out) | exact HB.out)) hb); clear HO_583001; clear HO_588001; clear HO_594001; clear HO609; clear HO613; clear BK571; clear BK582; clear BK587; clear BK593; clear BK615; clear HB; have HO_583001 := n0_; have HO_588001 := n1_; have HO_594001 := n2_; have HO609 := n3_; have HO613 := n4_; have BK571 := n5_; have BK582 := n6_; have BK587 := n7_; have BK593 := n8_; have BK615 := n9_; have HB := n10_; clear n0_ n1_ n2_ n3_ n4_ n5_ n6_ n7_ n8_ n9_ n10_; (try clear hb); (try clear hb2); (try clear hk); (try clear hi)))
                          go_meet
                          case rel => exact ⟨_, ((t614 != t581)), (by first | rfl | (simp; done) | (simp [*]; done)), H', ⟨by have := HJ12.out; have := HJ61.out; first | omega | exact Nat.le_refl _⟩, ⟨by (try simp only [hl588001_61]); (with_reducible repeat (first | apply Kd.R_alloc | apply Kd.R_drewN | apply Kd.R_drew)); exact Kd.R_mono HO_583001.out (fun _ hk => ⟨hk.1.1.1, ⟨hk.1.1.2, hk.2⟩⟩)⟩, ⟨by (try simp only [hl588001_61]); (with_reducible repeat (first | apply Kd.R_alloc | apply Kd.R_drewN | apply Kd.R_drew)); exact Kd.R_mono HO_588001.out (fun _ hk => ⟨hk.1.1.1, ⟨hk.1.1.2, hk.2⟩⟩)⟩, ⟨by (try simp only [hl588001_61]); (with_reducible repeat (first | apply Kd.R_alloc | apply Kd.R_drewN | apply Kd.R_drew)); exact Kd.R_mono HO_594001.out (fun _ hk => ⟨hk.1.1.1, ⟨hk.1.1.2, hk.2⟩⟩)⟩, ⟨by (try simp only [hl588001_61]); (with_reducible repeat (first | apply Kd.R_alloc | apply Kd.R_drewN | apply Kd.R_drew)); exact Kd.R_mono HO613.out (fun _ hk => ⟨hk.1.1.1.2, ⟨hk.1.1.2, hk.1.2⟩⟩)⟩, ⟨by (try simp only [hl588001_61]); (with_reducible repeat (first | refine blk_drewN ?_ _ | refine blk_drew ?_ | refine blk_alloc ?_ _)); exact BK571.out⟩, ⟨by (try simp only [hl588001_61]); (with_reducible repeat (first | refine blk_drewN ?_ _ | refine blk_drew ?_ | refine blk_alloc ?_ _)); exact BK582.out⟩, ⟨by (try simp only [hl588001_61]); (with_reducible repeat (first | refine blk_drewN ?_ _ | refine blk_drew ?_ | refine blk_alloc ?_ _)); exact BK587.out⟩, ⟨by (try simp only [hl588001_61]); (with_reducible repeat (first | refine blk_drewN ?_ _ | refine blk_drew ?_ | refine blk_alloc ?_ _)); exact BK593.out⟩, ⟨by (try simp only [hl588001_61]); (with_reducible repeat (first | refine blk_drewN ?_ _ | refine blk_drew ?_ | refine blk_alloc ?_ _)); exact BK615.out⟩, ⟨by repeat (first | (with_reducible first | exact HB.out | apply below_alloc | apply pw_below_drewN | apply below_drew1 | refine below_set ?_ GE571.out | refine below_set ?_ GE582.out | refine below_set ?_ GE587.out | refine below_set ?_ GE593.out | refine below_set ?_ GE615.out) | exact HB.out)⟩⟩
                        · replace c127 := Bool.eq_false_iff.mpr c127
                          subst c127
                          have H1 : (laws_FnExactFixInput.j2 kj61 t603 true t588 t604) = some r := by rw [if_neg (show ¬ (false = true) by decide)] at H; exact H
                          clear H
                          have H := H1
                          clear H1
                          have H' := Aside0.mk H
                          clear H
                          have hnb138 := NB615_571.out
                          have hnc138 := NB571_615.out
                          have hnb139 := NB615_582.out
                          have hnc139 := NB582_615.out
                          have hnb140 := NB615_587.out
                          have hnc140 := NB587_615.out
                          have hnb141 := NB615_593.out
                          have hnc141 := NB593_615.out
                          have hcz142_0 : w119.cell? ⟨gb615, 0, none⟩ = some (.int .i64 0) := (blk_cell BK615.out 0).trans rfl
                          have hcz142_1 : w119.cell? ⟨gb615, 1, none⟩ = some (.slice none 0 0) := (blk_cell BK615.out 1).trans rfl
                          have hfz142_0 := blk_frozen BK615.out 0
                          have hfz142_1 := blk_frozen BK615.out 1
                          have hnb143 := NB582_571.out
                          have hnc143 := NB571_582.out
                          have hnb144 := NB582_587.out
                          have hnc144 := NB587_582.out
                          have hnb145 := NB582_593.out
                          have hnc145 := NB593_582.out
                          have hcz146_0 : w119.cell? ⟨gb582, 0, none⟩ = some (.int .i64 t577) := (blk_cell BK582.out 0).trans rfl
                          have hcz146_1 : w119.cell? ⟨gb582, 1, none⟩ = some (.slice Ao24 t578.length co24) := (blk_cell BK582.out 1).trans rfl
                          have hfz146_0 := blk_frozen BK582.out 0
                          have hfz146_1 := blk_frozen BK582.out 1
                          go_wp2_with (first | ((with_reducible refine gate_callee (f := 19) rfl ?_); refine goesL_ (some 91) rfl rfl Try.func19 (by kernel_rfl) rfl #[.agg #[.int .i64 t610, .slice Ao125 t611.length co125], .agg #[.int .i64 t577, .slice Ao24 t578.length co24]] rfl (by (try simp only [List.map_toArray, List.map_cons, List.map_nil]); first | done | rfl | (simp only [List.length_drop, List.length_take]; rfl)) ?_; (with_reducible refine (laws_eqTable.calls kj61 t610 _ _ t611 t577 _ _ t578 false _ ?side1 ?side2 ?side3 ?side4 A126.out).mono ?_); (case side1 => refine (Kd.R_reads' (e := 3) (base := w.heap.size) (ok := fun k_ => ((((True ∧ some k_ ≠ (.slice Ao24 t578.length co24 : Value).ownBlock) ∧ some k_ ≠ (.slice Ao31 t601.length co31 : Value).ownBlock) ∧ some k_ ≠ (.slice Ao38 t589.length co38 : Value).ownBlock) ∧ some k_ ≠ (.slice Ao117 t607.length co117 : Value).ownBlock)) (n := t611.length) (c := co125) ?_).2.2; exact (by (with_reducible repeat (first | apply Kd.R_alloc | apply Kd.R_drewN | apply Kd.R_drew)); exact (Kd.R_mono (Kd.R_far (p := ⟨gb615, 1, none⟩) (Kd.R_far (p := ⟨gb615, 0, none⟩) (Kd.R_types HO613.out BK615.out (by decide)) (fun _ hk => hk.2) (.int .i64 t610)) (fun _ hk => hk.2) (.slice Ao125 t611.length co125)) (fun _ h_ => h_.1)))); (case side2 => exact (Kd.R_reads' HO613.out).2.1); (case side3 => refine (Kd.R_reads' (e := 3) (base := w.heap.size) (ok := fun k_ => (((some k_ ≠ (.slice Ao31 t601.length co31 : Value).ownBlock ∧ some k_ ≠ (.slice Ao38 t589.length co38 : Value).ownBlock) ∧ some k_ ≠ (.slice Ao117 t607.length co117 : Value).ownBlock) ∧ some k_ ≠ (.slice Ao125 t611.length co125 : Value).ownBlock)) (n := t578.length) (c := co24) ?_).2.2; exact (by (with_reducible repeat (first | apply Kd.R_alloc | apply Kd.R_drewN | apply Kd.R_drew)); exact (Kd.R_mono (Kd.R_far (p := ⟨gb615, 1, none⟩) (Kd.R_far (p := ⟨gb615, 0, none⟩) (Kd.R_types HO_583001.out BK615.out (by decide)) (fun _ hk => hk.2) (.int .i64 t610)) (fun _ hk => hk.2) (.slice Ao125 t611.length co125)) (fun _ h_ => h_.1)))); (case side4 => exact (Kd.R_reads' HO_583001.out).2.1); rintro e w147 ⟨rfl, hb⟩; refine ⟨_, rfl, ?_⟩; have n0_ := Aside0.mk (Kd.R_below (by (with_reducible repeat (first | apply Kd.R_alloc | apply Kd.R_drewN | apply Kd.R_drew)); exact (Kd.R_mono (Kd.R_far (p := ⟨gb615, 1, none⟩) (Kd.R_far (p := ⟨gb615, 0, none⟩) (Kd.R_types HO_583001.out BK615.out (by decide)) (fun _ hk => hk.2) (.int .i64 t610)) (fun _ hk => hk.2) (.slice Ao125 t611.length co125)) (fun _ h_ => h_.1))) hb); have n1_ := Aside0.mk (Kd.R_below (by (with_reducible repeat (first | apply Kd.R_alloc | apply Kd.R_drewN | apply Kd.R_drew)); exact (Kd.R_mono (Kd.R_far (p := ⟨gb615, 1, none⟩) (Kd.R_far (p := ⟨gb615, 0, none⟩) (Kd.R_types HO_588001.out BK615.out (by decide)) (fun _ hk => hk.2) (.int .i64 t610)) (fun _ hk => hk.2) (.slice Ao125 t611.length co125)) (fun _ h_ => h_.1))) hb); have n2_ := Aside0.mk (Kd.R_below (by (with_reducible repeat (first | apply Kd.R_alloc | apply Kd.R_drewN | apply Kd.R_drew)); exact (Kd.R_mono (Kd.R_far (p := ⟨gb615, 1, none⟩) (Kd.R_far (p := ⟨gb615, 0, none⟩) (Kd.R_types HO_594001.out BK615.out (by decide)) (fun _ hk => hk.2) (.int .i64 t610)) (fun _ hk => hk.2) (.slice Ao125 t611.length co125)) (fun _ h_ => h_.1))) hb); have n3_ := Aside0.mk (Kd.R_below (by (with_reducible repeat (first | apply Kd.R_alloc | apply Kd.R_drewN | apply Kd.R_drew)); exact (Kd.R_mono (Kd.R_far (p := ⟨gb615, 1, none⟩) (Kd.R_far (p := ⟨gb615, 0, none⟩) (Kd.R_types HO609.out BK615.out (by decide)) (fun _ hk => hk.2) (.int .i64 t610)) (fun _ hk => hk.2) (.slice Ao125 t611.length co125)) (fun _ h_ => h_.1))) hb); have n4_ := Aside0.mk (Kd.R_below (by (with_reducible repeat (first | apply Kd.R_alloc | apply Kd.R_drewN | apply Kd.R_drew)); exact (Kd.R_mono (Kd.R_far (p := ⟨gb615, 1, none⟩) (Kd.R_far (p := ⟨gb615, 0, none⟩) (Kd.R_types HO613.out BK615.out (by decide)) (fun _ hk => hk.2) (.int .i64 t610)) (fun _ hk => hk.2) (.slice Ao125 t611.length co125)) (fun _ h_ => h_.1))) hb); have n5_ := Aside0.mk (blk_below (g := gb571) (o := .cells #[.int .i64 a0_0, .slice A0_1 l0_1.length c0_1] 24 (0, 0)) (by (with_reducible repeat (first | refine blk_drewN ?_ _ | refine blk_drew ?_ | refine blk_alloc ?_ _)); refine blk_far ?_ NB571_615.out _; (with_reducible repeat (first | refine blk_drewN ?_ _ | refine blk_drew ?_ | refine blk_alloc ?_ _)); refine blk_far ?_ NB571_615.out _; (with_reducible repeat (first | refine blk_drewN ?_ _ | refine blk_drew ?_ | refine blk_alloc ?_ _)); exact BK571.out) hb); have n6_ := Aside0.mk (blk_below (g := gb582) (o := .cells #[.int .i64 t577, .slice Ao24 t578.length co24] 27 (0, 0)) (by (with_reducible repeat (first | refine blk_drewN ?_ _ | refine blk_drew ?_ | refine blk_alloc ?_ _)); refine blk_far ?_ NB582_615.out _; (with_reducible repeat (first | refine blk_drewN ?_ _ | refine blk_drew ?_ | refine blk_alloc ?_ _)); refine blk_far ?_ NB582_615.out _; (with_reducible repeat (first | refine blk_drewN ?_ _ | refine blk_drew ?_ | refine blk_alloc ?_ _)); exact BK582.out) hb); have n7_ := Aside0.mk (blk_below (g := gb587) (o := .cells #[.int .i64 t583, .slice Ao31 t601.length co31] 27 (0, 0)) (by (with_reducible repeat (first | refine blk_drewN ?_ _ | refine blk_drew ?_ | refine blk_alloc ?_ _)); refine blk_far ?_ NB587_615.out _; (with_reducible repeat (first | refine blk_drewN ?_ _ | refine blk_drew ?_ | refine blk_alloc ?_ _)); refine blk_far ?_ NB587_615.out _; (with_reducible repeat (first | refine blk_drewN ?_ _ | refine blk_drew ?_ | refine blk_alloc ?_ _)); exact BK587.out) hb); have n8_ := Aside0.mk (blk_below (g := gb593) (o := .cells #[.int .i64 t588, .slice Ao38 t589.length co38] 27 (0, 0)) (by (with_reducible repeat (first | refine blk_drewN ?_ _ | refine blk_drew ?_ | refine blk_alloc ?_ _)); refine blk_far ?_ NB593_615.out _; (with_reducible repeat (first | refine blk_drewN ?_ _ | refine blk_drew ?_ | refine blk_alloc ?_ _)); refine blk_far ?_ NB593_615.out _; (with_reducible repeat (first | refine blk_drewN ?_ _ | refine blk_drew ?_ | refine blk_alloc ?_ _)); exact BK593.out) hb); have n9_ := Aside0.mk (blk_below (g := gb615) (o := .cells #[.int .i64 t610, .slice Ao125 t611.length co125] 27 (0, 0)) (by (with_reducible repeat (first | refine blk_drewN ?_ _ | refine blk_drew ?_ | refine blk_alloc ?_ _)); refine blk_put (cs := #[.int .i64 t610, .slice none 0 0]) ?_ 1 _ rfl; (with_reducible repeat (first | refine blk_drewN ?_ _ | refine blk_drew ?_ | refine blk_alloc ?_ _)); refine blk_put (cs := #[.int .i64 0, .slice none 0 0]) ?_ 0 _ rfl; (with_reducible repeat (first | refine blk_drewN ?_ _ | refine blk_drew ?_ | refine blk_alloc ?_ _)); exact BK615.out) hb); have n10_ := Aside0.mk (below_step (by repeat (first | (with_reducible first | exact HB.out | apply below_alloc | apply pw_below_drewN | apply below_drew1 | refine below_set ?_ GE571.out | refine below_set ?_ GE582.out | refine below_set ?_ GE587.out | refine below_set ?_ GE593.out | refine below_set ?_ GE615.out) | exact HB.out)) hb); clear HO_583001; clear HO_588001; clear HO_594001; clear HO609; clear HO613; clear BK571; clear BK582; clear BK587; clear BK593; clear BK615; clear HB; have HO_583001 := n0_; have HO_588001 := n1_; have HO_594001 := n2_; have HO609 := n3_; have HO613 := n4_; have BK571 := n5_; have BK582 := n6_; have BK587 := n7_; have BK593 := n8_; have BK615 := n9_; have HB := n10_; clear n0_ n1_ n2_ n3_ n4_ n5_ n6_ n7_ n8_ n9_ n10_; (try clear hb); (try clear hb2); (try clear hk); (try clear hi)))
                          go_meet
                          case rel => exact ⟨_, (true), (by first | rfl | (simp; done) | (simp [*]; done)), H', ⟨by have := HJ12.out; have := HJ61.out; first | omega | exact Nat.le_refl _⟩, ⟨by (try simp only [hl588001_61]); (with_reducible repeat (first | apply Kd.R_alloc | apply Kd.R_drewN | apply Kd.R_drew)); exact Kd.R_mono HO_583001.out (fun _ hk => ⟨hk.1.1.1, ⟨hk.1.1.2, hk.2⟩⟩)⟩, ⟨by (try simp only [hl588001_61]); (with_reducible repeat (first | apply Kd.R_alloc | apply Kd.R_drewN | apply Kd.R_drew)); exact Kd.R_mono HO_588001.out (fun _ hk => ⟨hk.1.1.1, ⟨hk.1.1.2, hk.2⟩⟩)⟩, ⟨by (try simp only [hl588001_61]); (with_reducible repeat (first | apply Kd.R_alloc | apply Kd.R_drewN | apply Kd.R_drew)); exact Kd.R_mono HO_594001.out (fun _ hk => ⟨hk.1.1.1, ⟨hk.1.1.2, hk.2⟩⟩)⟩, ⟨by (try simp only [hl588001_61]); (with_reducible repeat (first | apply Kd.R_alloc | apply Kd.R_drewN | apply Kd.R_drew)); exact Kd.R_mono HO613.out (fun _ hk => ⟨hk.1.1.1.2, ⟨hk.1.1.2, hk.1.2⟩⟩)⟩, ⟨by (try simp only [hl588001_61]); (with_reducible repeat (first | refine blk_drewN ?_ _ | refine blk_drew ?_ | refine blk_alloc ?_ _)); exact BK571.out⟩, ⟨by (try simp only [hl588001_61]); (with_reducible repeat (first | refine blk_drewN ?_ _ | refine blk_drew ?_ | refine blk_alloc ?_ _)); exact BK582.out⟩, ⟨by (try simp only [hl588001_61]); (with_reducible repeat (first | refine blk_drewN ?_ _ | refine blk_drew ?_ | refine blk_alloc ?_ _)); exact BK587.out⟩, ⟨by (try simp only [hl588001_61]); (with_reducible repeat (first | refine blk_drewN ?_ _ | refine blk_drew ?_ | refine blk_alloc ?_ _)); exact BK593.out⟩, ⟨by (try simp only [hl588001_61]); (with_reducible repeat (first | refine blk_drewN ?_ _ | refine blk_drew ?_ | refine blk_alloc ?_ _)); exact BK615.out⟩, ⟨by repeat (first | (with_reducible first | exact HB.out | apply below_alloc | apply pw_below_drewN | apply below_drew1 | refine below_set ?_ GE571.out | refine below_set ?_ GE582.out | refine below_set ?_ GE587.out | refine below_set ?_ GE593.out | refine below_set ?_ GE615.out) | exact HB.out)⟩⟩
                      case rest =>
                        clear HC105
                        try clear c1
                        try clear c2
                        try clear p2
                        try clear c3
                        try clear c4
                        try clear c5
                        try clear c5b0
                        try clear c6
                        try clear c7
                        try clear c8
                        try clear c9
                        try clear c10
                        try clear c11
                        try clear c12
                        try clear c13
                        try clear c14
                        try clear c15
                        try clear c17
                        try clear c19
                        try clear c22
                        try clear c28
                        try clear c29
                        try clear c34
                        try clear c35
                        try clear c36
                        try clear c37
                        try clear c38
                        try clear c40
                        try clear c41
                        try clear c42
                        try clear c43
                        try clear c45
                        try clear c46
                        try clear c47
                        try clear c48
                        try clear c49
                        try clear c50
                        try clear c51
                        try clear c53
                        try clear c54
                        try clear c57
                        try clear c60
                        try clear c67
                        try clear c68
                        try clear c69
                        try clear c72
                        try clear c72b0
                        try clear c74
                        try clear c75
                        try clear c76
                        try clear c77
                        try clear c79
                        try clear c80
                        try clear c83
                        try clear c84
                        try clear c85
                        try clear c87
                        try clear c88
                        try clear c91
                        try clear c94
                        try clear c94b0
                        try clear c95
                        try clear c96
                        try clear c97
                        try clear c102
                        try clear c102b0
                        try clear c102b1
                        try clear c106
                        try clear c107
                        try clear c108
                        try clear c113
                        try clear c114
                        try clear c120
                        try clear c121
                        try clear c122
                        try clear c123
                        try clear c127
                        try clear c128
                        try clear c129
                        try clear c130
                        try clear c131
                        try clear c133
                        try clear c134
                        try clear c135
                        try clear c138
                        try clear c139
                        try clear c140
                        try clear c141
                        try clear c143
                        try clear c144
                        try clear c145
                        try clear hcz100_0
                        try clear hcz100_1
                        try clear hcz109_0
                        try clear hcz109_1
                        try clear hcz111_0
                        try clear hcz111_1
                        try clear hcz115_0
                        try clear hcz115_1
                        try clear hcz124_0
                        try clear hcz124_1
                        try clear hcz132_0
                        try clear hcz132_1
                        try clear hcz136_0
                        try clear hcz136_1
                        try clear hcz142_0
                        try clear hcz142_1
                        try clear hcz146_0
                        try clear hcz146_1
                        try clear hcz15_0
                        try clear hcz15_1
                        try clear hcz17_0
                        try clear hcz17_1
                        try clear hcz23_0
                        try clear hcz23_1
                        try clear hcz25_0
                        try clear hcz25_1
                        try clear hcz30_0
                        try clear hcz30_1
                        try clear hcz37_0
                        try clear hcz37_1
                        try clear hcz44_0
                        try clear hcz44_1
                        try clear hcz47_0
                        try clear hcz47_1
                        try clear hcz52_0
                        try clear hcz52_1
                        try clear hcz55_0
                        try clear hcz55_1
                        try clear hcz70_0
                        try clear hcz70_1
                        try clear hcz78_0
                        try clear hcz78_1
                        try clear hcz7_0
                        try clear hcz7_1
                        try clear hcz81_0
                        try clear hcz81_1
                        try clear hcz86_0
                        try clear hcz86_1
                        try clear hcz89_0
                        try clear hcz89_1
                        try clear hcz98_0
                        try clear hcz98_1
                        try clear hfz100_0
                        try clear hfz100_1
                        try clear hfz109_0
                        try clear hfz109_1
                        try clear hfz111_0
                        try clear hfz111_1
                        try clear hfz115_0
                        try clear hfz115_1
                        try clear hfz124_0
                        try clear hfz124_1
                        try clear hfz132_0
                        try clear hfz132_1
                        try clear hfz136_0
                        try clear hfz136_1
                        try clear hfz142_0
                        try clear hfz142_1
                        try clear hfz146_0
                        try clear hfz146_1
                        try clear hfz15_0
                        try clear hfz15_1
                        try clear hfz17_0
                        try clear hfz17_1
                        try clear hfz23_0
                        try clear hfz23_1
                        try clear hfz25_0
                        try clear hfz25_1
                        try clear hfz30_0
                        try clear hfz30_1
                        try clear hfz37_0
                        try clear hfz37_1
                        try clear hfz44_0
                        try clear hfz44_1
                        try clear hfz47_0
                        try clear hfz47_1
                        try clear hfz52_0
                        try clear hfz52_1
                        try clear hfz55_0
                        try clear hfz55_1
                        try clear hfz70_0
                        try clear hfz70_1
                        try clear hfz78_0
                        try clear hfz78_1
                        try clear hfz7_0
                        try clear hfz7_1
                        try clear hfz81_0
                        try clear hfz81_1
                        try clear hfz86_0
                        try clear hfz86_1
                        try clear hfz89_0
                        try clear hfz89_1
                        try clear hfz98_0
                        try clear hfz98_1
                        try clear p2
                        obtain ⟨kq, x97_104, rfl, HA, HJ104, HO_583001, HO_588001, HO_594001, HO_616001, BK571, BK582, BK587, BK593, BK615, HB⟩ := hcut
                        have hl594001_104 := (Kd.R_reads' HO_594001.out).1
                        rw [hl594001_104] at HO_594001
                        (try simp only [hl594001_104])
                        (try simp only [hl594001_104] at BK571)
                        (try simp only [hl594001_104] at BK582)
                        (try simp only [hl594001_104] at BK587)
                        (try simp only [hl594001_104] at BK593)
                        (try simp only [hl594001_104] at BK615)
                        (try simp only [hl594001_104] at HO_583001)
                        (try simp only [hl594001_104] at HO_588001)
                        (try simp only [hl594001_104] at HO_616001)
                        cases kq with
                        | zero => exact absurd HA.out (by simp [laws_FnExactFixInput.j2])
                        | succ kj104 =>
                          have H := HA.out
                          clear HA
                          simp only [laws_FnExactFixInput.j2] at H
                          by_cases c148 : x97_104 = true
                          · subst c148
                            have H1 : (some false) = some r := by rw [if_pos rfl] at H; exact H
                            clear H
                            have H := H1
                            clear H1
                            obtain rfl := Option.some.inj H
                            go_wp2
                            go_ret
                            exact ⟨by first | rfl | (simp [errW_none, errW_some] <;> rfl) | (simp [*, errW_none, errW_some] <;> rfl), by repeat (first | (with_reducible first | exact HB.out | apply below_alloc | apply pw_below_drewN | apply below_drew1 | refine below_set ?_ GE571.out | refine below_set ?_ GE582.out | refine below_set ?_ GE587.out | refine below_set ?_ GE593.out | refine below_set ?_ GE615.out) | exact HB.out)⟩
                          · replace c148 := Bool.eq_false_iff.mpr c148
                            subst c148
                            have H1 : ((laws_heldTable.f kj104 t588 t604 1).bind fun t617 => (if t617 < 0 then (some false) else (if t617 = t603 then (some true) else (some false)))) = some r := by rw [if_neg (show ¬ (false = true) by decide)] at H; exact H
                            clear H
                            have H := H1
                            clear H1
                            replace H := Option.bind_eq_some_iff.mp H
                            obtain ⟨t617, A1490, H⟩ := H
                            replace H : (if t617 < 0 then (some false) else (if t617 = t603 then (some true) else (some false))) = some r := H
                            have A149 := Aside0.mk A1490
                            clear A1490
                            by_cases c150 : t617 < 0
                            · rw [if_pos c150] at H
                              have c150b0 : decide (t617 < 0) = true := decide_eq_true c150
                              clear c150
                              obtain rfl := Option.some.inj H
                              have hnb151 := NB593_571.out
                              have hnc151 := NB571_593.out
                              have hnb152 := NB593_582.out
                              have hnc152 := NB582_593.out
                              have hnb153 := NB593_587.out
                              have hnc153 := NB587_593.out
                              have hnb154 := NB593_615.out
                              have hnc154 := NB615_593.out
                              have hcz155_0 : wc.cell? ⟨gb593, 0, none⟩ = some (.int .i64 t588) := (blk_cell BK593.out 0).trans rfl
                              have hcz155_1 : wc.cell? ⟨gb593, 1, none⟩ = some (.slice Ao38 t604.length co38) := (blk_cell BK593.out 1).trans rfl
                              have hfz155_0 := blk_frozen BK593.out 0
                              have hfz155_1 := blk_frozen BK593.out 1
                              go_wp2_with (first | ((with_reducible refine gate_callee (f := 38) rfl ?_); refine goesL_ (some 100) rfl rfl Try.func38 (by kernel_rfl) rfl #[.agg #[.int .i64 t588, .slice Ao38 t604.length co38], .int .i64 1] rfl (by (try simp only [List.map_toArray, List.map_cons, List.map_nil]); first | done | rfl | (simp only [List.length_drop, List.length_take]; rfl)) ?_; (with_reducible refine (laws_heldTable.calls kj104 t588 _ _ t604 1 t617 _ ?side1 ?side2 A149.out).mono ?_); (case side1 => repeat (first | exact (Kd.R_reads' HO_594001.out).2.2 | (with_reducible refine Kd.C_alloc ?_ _) | (with_reducible refine Kd.C_drewN ?_ _) | (with_reducible refine Kd.C_drew ?_))); (case side2 => exact (Kd.R_reads' HO_594001.out).2.1); rintro e w156 ⟨rfl, hb⟩; refine ⟨_, rfl, ?_⟩; have n0_ := Aside0.mk (Kd.R_below (by (with_reducible repeat (first | apply Kd.R_alloc | apply Kd.R_drewN | apply Kd.R_drew)); exact HO_583001.out) hb); have n1_ := Aside0.mk (Kd.R_below (by (with_reducible repeat (first | apply Kd.R_alloc | apply Kd.R_drewN | apply Kd.R_drew)); exact HO_588001.out) hb); have n2_ := Aside0.mk (Kd.R_below (by (with_reducible repeat (first | apply Kd.R_alloc | apply Kd.R_drewN | apply Kd.R_drew)); exact HO_594001.out) hb); have n3_ := Aside0.mk (Kd.R_below (by (with_reducible repeat (first | apply Kd.R_alloc | apply Kd.R_drewN | apply Kd.R_drew)); exact HO_616001.out) hb); have n4_ := Aside0.mk (blk_below (g := gb571) (o := .cells #[.int .i64 a0_0, .slice A0_1 l0_1.length c0_1] 24 (0, 0)) (by (with_reducible repeat (first | refine blk_drewN ?_ _ | refine blk_drew ?_ | refine blk_alloc ?_ _)); exact BK571.out) hb); have n5_ := Aside0.mk (blk_below (g := gb582) (o := .cells #[.int .i64 t577, .slice Ao24 t578.length co24] 27 (0, 0)) (by (with_reducible repeat (first | refine blk_drewN ?_ _ | refine blk_drew ?_ | refine blk_alloc ?_ _)); exact BK582.out) hb); have n6_ := Aside0.mk (blk_below (g := gb587) (o := .cells #[.int .i64 t583, .slice Ao31 t601.length co31] 27 (0, 0)) (by (with_reducible repeat (first | refine blk_drewN ?_ _ | refine blk_drew ?_ | refine blk_alloc ?_ _)); exact BK587.out) hb); have n7_ := Aside0.mk (blk_below (g := gb593) (o := .cells #[.int .i64 t588, .slice Ao38 t604.length co38] 27 (0, 0)) (by (with_reducible repeat (first | refine blk_drewN ?_ _ | refine blk_drew ?_ | refine blk_alloc ?_ _)); exact BK593.out) hb); have n8_ := Aside0.mk (blk_below (g := gb615) (o := .cells #[.int .i64 t610, .slice Ao125 t611.length co125] 27 (0, 0)) (by (with_reducible repeat (first | refine blk_drewN ?_ _ | refine blk_drew ?_ | refine blk_alloc ?_ _)); exact BK615.out) hb); have n9_ := Aside0.mk (below_step (by repeat (first | (with_reducible first | exact HB.out | apply below_alloc | apply pw_below_drewN | apply below_drew1 | refine below_set ?_ GE571.out | refine below_set ?_ GE582.out | refine below_set ?_ GE587.out | refine below_set ?_ GE593.out | refine below_set ?_ GE615.out) | exact HB.out)) hb); clear HO_583001; clear HO_588001; clear HO_594001; clear HO_616001; clear BK571; clear BK582; clear BK587; clear BK593; clear BK615; clear HB; have HO_583001 := n0_; have HO_588001 := n1_; have HO_594001 := n2_; have HO_616001 := n3_; have BK571 := n4_; have BK582 := n5_; have BK587 := n6_; have BK593 := n7_; have BK615 := n8_; have HB := n9_; clear n0_ n1_ n2_ n3_ n4_ n5_ n6_ n7_ n8_ n9_; (try clear hb); (try clear hb2); (try clear hk); (try clear hi)))
                              go_ret
                              exact ⟨by first | rfl | (simp [errW_none, errW_some] <;> rfl) | (simp [*, errW_none, errW_some] <;> rfl), by repeat (first | (with_reducible first | exact HB.out | apply below_alloc | apply pw_below_drewN | apply below_drew1 | refine below_set ?_ GE571.out | refine below_set ?_ GE582.out | refine below_set ?_ GE587.out | refine below_set ?_ GE593.out | refine below_set ?_ GE615.out) | exact HB.out)⟩
                            · rw [if_neg c150] at H
                              have c150b0 : decide (t617 < 0) = false := decide_eq_false c150
                              clear c150
                              by_cases c157 : t617 = t603
                              · rw [if_pos c157] at H
                                have c157b0 : (t617 == t603) = true := beq_iff_eq.mpr c157
                                have c157b1 : (t617 != t603) = false := bne_eq_false_iff_eq.mpr c157
                                clear c157
                                obtain rfl := Option.some.inj H
                                have hnb158 := NB593_571.out
                                have hnc158 := NB571_593.out
                                have hnb159 := NB593_582.out
                                have hnc159 := NB582_593.out
                                have hnb160 := NB593_587.out
                                have hnc160 := NB587_593.out
                                have hnb161 := NB593_615.out
                                have hnc161 := NB615_593.out
                                have hcz162_0 : wc.cell? ⟨gb593, 0, none⟩ = some (.int .i64 t588) := (blk_cell BK593.out 0).trans rfl
                                have hcz162_1 : wc.cell? ⟨gb593, 1, none⟩ = some (.slice Ao38 t604.length co38) := (blk_cell BK593.out 1).trans rfl
                                have hfz162_0 := blk_frozen BK593.out 0
                                have hfz162_1 := blk_frozen BK593.out 1
                                go_wp2_with (first | ((with_reducible refine gate_callee (f := 38) rfl ?_); refine goesL_ (some 100) rfl rfl Try.func38 (by kernel_rfl) rfl #[.agg #[.int .i64 t588, .slice Ao38 t604.length co38], .int .i64 1] rfl (by (try simp only [List.map_toArray, List.map_cons, List.map_nil]); first | done | rfl | (simp only [List.length_drop, List.length_take]; rfl)) ?_; (with_reducible refine (laws_heldTable.calls kj104 t588 _ _ t604 1 t617 _ ?side1 ?side2 A149.out).mono ?_); (case side1 => repeat (first | exact (Kd.R_reads' HO_594001.out).2.2 | (with_reducible refine Kd.C_alloc ?_ _) | (with_reducible refine Kd.C_drewN ?_ _) | (with_reducible refine Kd.C_drew ?_))); (case side2 => exact (Kd.R_reads' HO_594001.out).2.1); rintro e w163 ⟨rfl, hb⟩; refine ⟨_, rfl, ?_⟩; have n0_ := Aside0.mk (Kd.R_below (by (with_reducible repeat (first | apply Kd.R_alloc | apply Kd.R_drewN | apply Kd.R_drew)); exact HO_583001.out) hb); have n1_ := Aside0.mk (Kd.R_below (by (with_reducible repeat (first | apply Kd.R_alloc | apply Kd.R_drewN | apply Kd.R_drew)); exact HO_588001.out) hb); have n2_ := Aside0.mk (Kd.R_below (by (with_reducible repeat (first | apply Kd.R_alloc | apply Kd.R_drewN | apply Kd.R_drew)); exact HO_594001.out) hb); have n3_ := Aside0.mk (Kd.R_below (by (with_reducible repeat (first | apply Kd.R_alloc | apply Kd.R_drewN | apply Kd.R_drew)); exact HO_616001.out) hb); have n4_ := Aside0.mk (blk_below (g := gb571) (o := .cells #[.int .i64 a0_0, .slice A0_1 l0_1.length c0_1] 24 (0, 0)) (by (with_reducible repeat (first | refine blk_drewN ?_ _ | refine blk_drew ?_ | refine blk_alloc ?_ _)); exact BK571.out) hb); have n5_ := Aside0.mk (blk_below (g := gb582) (o := .cells #[.int .i64 t577, .slice Ao24 t578.length co24] 27 (0, 0)) (by (with_reducible repeat (first | refine blk_drewN ?_ _ | refine blk_drew ?_ | refine blk_alloc ?_ _)); exact BK582.out) hb); have n6_ := Aside0.mk (blk_below (g := gb587) (o := .cells #[.int .i64 t583, .slice Ao31 t601.length co31] 27 (0, 0)) (by (with_reducible repeat (first | refine blk_drewN ?_ _ | refine blk_drew ?_ | refine blk_alloc ?_ _)); exact BK587.out) hb); have n7_ := Aside0.mk (blk_below (g := gb593) (o := .cells #[.int .i64 t588, .slice Ao38 t604.length co38] 27 (0, 0)) (by (with_reducible repeat (first | refine blk_drewN ?_ _ | refine blk_drew ?_ | refine blk_alloc ?_ _)); exact BK593.out) hb); have n8_ := Aside0.mk (blk_below (g := gb615) (o := .cells #[.int .i64 t610, .slice Ao125 t611.length co125] 27 (0, 0)) (by (with_reducible repeat (first | refine blk_drewN ?_ _ | refine blk_drew ?_ | refine blk_alloc ?_ _)); exact BK615.out) hb); have n9_ := Aside0.mk (below_step (by repeat (first | (with_reducible first | exact HB.out | apply below_alloc | apply pw_below_drewN | apply below_drew1 | refine below_set ?_ GE571.out | refine below_set ?_ GE582.out | refine below_set ?_ GE587.out | refine below_set ?_ GE593.out | refine below_set ?_ GE615.out) | exact HB.out)) hb); clear HO_583001; clear HO_588001; clear HO_594001; clear HO_616001; clear BK571; clear BK582; clear BK587; clear BK593; clear BK615; clear HB; have HO_583001 := n0_; have HO_588001 := n1_; have HO_594001 := n2_; have HO_616001 := n3_; have BK571 := n4_; have BK582 := n5_; have BK587 := n6_; have BK593 := n7_; have BK615 := n8_; have HB := n9_; clear n0_ n1_ n2_ n3_ n4_ n5_ n6_ n7_ n8_ n9_; (try clear hb); (try clear hb2); (try clear hk); (try clear hi)))
                                go_ret
                                exact ⟨by first | rfl | (simp [errW_none, errW_some] <;> rfl) | (simp [*, errW_none, errW_some] <;> rfl), by repeat (first | (with_reducible first | exact HB.out | apply below_alloc | apply pw_below_drewN | apply below_drew1 | refine below_set ?_ GE571.out | refine below_set ?_ GE582.out | refine below_set ?_ GE587.out | refine below_set ?_ GE593.out | refine below_set ?_ GE615.out) | exact HB.out)⟩
                              · rw [if_neg c157] at H
                                have c157b0 : (t617 == t603) = false := beq_eq_false_iff_ne.mpr c157
                                have c157b1 : (t617 != t603) = true := bne_iff_ne.mpr c157
                                obtain rfl := Option.some.inj H
                                have hnb164 := NB593_571.out
                                have hnc164 := NB571_593.out
                                have hnb165 := NB593_582.out
                                have hnc165 := NB582_593.out
                                have hnb166 := NB593_587.out
                                have hnc166 := NB587_593.out
                                have hnb167 := NB593_615.out
                                have hnc167 := NB615_593.out
                                have hcz168_0 : wc.cell? ⟨gb593, 0, none⟩ = some (.int .i64 t588) := (blk_cell BK593.out 0).trans rfl
                                have hcz168_1 : wc.cell? ⟨gb593, 1, none⟩ = some (.slice Ao38 t604.length co38) := (blk_cell BK593.out 1).trans rfl
                                have hfz168_0 := blk_frozen BK593.out 0
                                have hfz168_1 := blk_frozen BK593.out 1
                                go_wp2_with (first | ((with_reducible refine gate_callee (f := 38) rfl ?_); refine goesL_ (some 100) rfl rfl Try.func38 (by kernel_rfl) rfl #[.agg #[.int .i64 t588, .slice Ao38 t604.length co38], .int .i64 1] rfl (by (try simp only [List.map_toArray, List.map_cons, List.map_nil]); first | done | rfl | (simp only [List.length_drop, List.length_take]; rfl)) ?_; (with_reducible refine (laws_heldTable.calls kj104 t588 _ _ t604 1 t617 _ ?side1 ?side2 A149.out).mono ?_); (case side1 => repeat (first | exact (Kd.R_reads' HO_594001.out).2.2 | (with_reducible refine Kd.C_alloc ?_ _) | (with_reducible refine Kd.C_drewN ?_ _) | (with_reducible refine Kd.C_drew ?_))); (case side2 => exact (Kd.R_reads' HO_594001.out).2.1); rintro e w169 ⟨rfl, hb⟩; refine ⟨_, rfl, ?_⟩; have n0_ := Aside0.mk (Kd.R_below (by (with_reducible repeat (first | apply Kd.R_alloc | apply Kd.R_drewN | apply Kd.R_drew)); exact HO_583001.out) hb); have n1_ := Aside0.mk (Kd.R_below (by (with_reducible repeat (first | apply Kd.R_alloc | apply Kd.R_drewN | apply Kd.R_drew)); exact HO_588001.out) hb); have n2_ := Aside0.mk (Kd.R_below (by (with_reducible repeat (first | apply Kd.R_alloc | apply Kd.R_drewN | apply Kd.R_drew)); exact HO_594001.out) hb); have n3_ := Aside0.mk (Kd.R_below (by (with_reducible repeat (first | apply Kd.R_alloc | apply Kd.R_drewN | apply Kd.R_drew)); exact HO_616001.out) hb); have n4_ := Aside0.mk (blk_below (g := gb571) (o := .cells #[.int .i64 a0_0, .slice A0_1 l0_1.length c0_1] 24 (0, 0)) (by (with_reducible repeat (first | refine blk_drewN ?_ _ | refine blk_drew ?_ | refine blk_alloc ?_ _)); exact BK571.out) hb); have n5_ := Aside0.mk (blk_below (g := gb582) (o := .cells #[.int .i64 t577, .slice Ao24 t578.length co24] 27 (0, 0)) (by (with_reducible repeat (first | refine blk_drewN ?_ _ | refine blk_drew ?_ | refine blk_alloc ?_ _)); exact BK582.out) hb); have n6_ := Aside0.mk (blk_below (g := gb587) (o := .cells #[.int .i64 t583, .slice Ao31 t601.length co31] 27 (0, 0)) (by (with_reducible repeat (first | refine blk_drewN ?_ _ | refine blk_drew ?_ | refine blk_alloc ?_ _)); exact BK587.out) hb); have n7_ := Aside0.mk (blk_below (g := gb593) (o := .cells #[.int .i64 t588, .slice Ao38 t604.length co38] 27 (0, 0)) (by (with_reducible repeat (first | refine blk_drewN ?_ _ | refine blk_drew ?_ | refine blk_alloc ?_ _)); exact BK593.out) hb); have n8_ := Aside0.mk (blk_below (g := gb615) (o := .cells #[.int .i64 t610, .slice Ao125 t611.length co125] 27 (0, 0)) (by (with_reducible repeat (first | refine blk_drewN ?_ _ | refine blk_drew ?_ | refine blk_alloc ?_ _)); exact BK615.out) hb); have n9_ := Aside0.mk (below_step (by repeat (first | (with_reducible first | exact HB.out | apply below_alloc | apply pw_below_drewN | apply below_drew1 | refine below_set ?_ GE571.out | refine below_set ?_ GE582.out | refine below_set ?_ GE587.out | refine below_set ?_ GE593.out | refine below_set ?_ GE615.out) | exact HB.out)) hb); clear HO_583001; clear HO_588001; clear HO_594001; clear HO_616001; clear BK571; clear BK582; clear BK587; clear BK593; clear BK615; clear HB; have HO_583001 := n0_; have HO_588001 := n1_; have HO_594001 := n2_; have HO_616001 := n3_; have BK571 := n4_; have BK582 := n5_; have BK587 := n6_; have BK593 := n7_; have BK615 := n8_; have HB := n9_; clear n0_ n1_ n2_ n3_ n4_ n5_ n6_ n7_ n8_ n9_; (try clear hb); (try clear hb2); (try clear hk); (try clear hi)))
                                go_ret
                                exact ⟨by first | rfl | (simp [errW_none, errW_some] <;> rfl) | (simp [*, errW_none, errW_some] <;> rfl), by repeat (first | (with_reducible first | exact HB.out | apply below_alloc | apply pw_below_drewN | apply below_drew1 | refine below_set ?_ GE571.out | refine below_set ?_ GE582.out | refine below_set ?_ GE587.out | refine below_set ?_ GE593.out | refine below_set ?_ GE615.out) | exact HB.out)⟩
                    · rw [if_neg c102] at H
                      have c102b0 : (t605 == t603) = false := beq_eq_false_iff_ne.mpr c102
                      have c102b1 : (t605 != t603) = true := bne_iff_ne.mpr c102
                      obtain rfl := Option.some.inj H
                      have hnb170 := NB593_571.out
                      have hnc170 := NB571_593.out
                      have hnb171 := NB593_582.out
                      have hnc171 := NB582_593.out
                      have hnb172 := NB593_587.out
                      have hnc172 := NB587_593.out
                      have hcz173_0 : wc.cell? ⟨gb593, 0, none⟩ = some (.int .i64 t588) := (blk_cell BK593.out 0).trans rfl
                      have hcz173_1 : wc.cell? ⟨gb593, 1, none⟩ = some (.slice Ao38 t589.length co38) := (blk_cell BK593.out 1).trans rfl
                      have hfz173_0 := blk_frozen BK593.out 0
                      have hfz173_1 := blk_frozen BK593.out 1
                      go_wp2_with (first | ((with_reducible refine gate_callee (f := 37) rfl ?_); refine goesL_ (some 72) rfl rfl Try.func37 (by kernel_rfl) rfl #[.agg #[.int .i64 t588, .slice Ao38 t589.length co38], .int .i64 1] rfl (by (try simp only [List.map_toArray, List.map_cons, List.map_nil]); first | done | rfl | (simp only [List.length_drop, List.length_take]; rfl)) ?_; (with_reducible refine (laws_markTable.calls kj61 t588 (fun k_ => some k_ = (.slice Ao38 t589.length co38 : Value).ownBlock) (.slice Ao38 t589.length co38) t589 1 t603 t604 w _ ?side1 ?side2 A92.out).mono ?_); (case side1 => repeat (first | (with_reducible first | exact HB.out | apply below_alloc | apply pw_below_drewN | apply below_drew1 | refine below_set ?_ GE571.out | refine below_set ?_ GE582.out | refine below_set ?_ GE587.out | refine below_set ?_ GE593.out) | exact HB.out)); (case side2 => exact Kd.R_tight rfl HO_594001.out); rintro e w174 ⟨rfl, hy0, hb, hkp⟩; refine ⟨_, rfl, ?_⟩; have n0_ := Aside0.mk (Kd.R_mono (ok' := fun k_ => some k_ ≠ (.slice Ao31 t601.length co31 : Value).ownBlock ∧ some k_ ≠ (.slice Ao38 t589.length co38 : Value).ownBlock) (Kd.R_keptB (HO_583001.out) hkp (fun k_ hk_ hs_ => (hk_.2) hs_)) (fun k_ hk_ => ⟨hk_.1.1, hk_.1.2⟩)); have n1_ := Aside0.mk (Kd.R_mono (ok' := fun k_ => some k_ ≠ (.slice Ao24 t578.length co24 : Value).ownBlock ∧ some k_ ≠ (.slice Ao38 t589.length co38 : Value).ownBlock) (Kd.R_keptB (HO_588001.out) hkp (fun k_ hk_ hs_ => (hk_.2) hs_)) (fun k_ hk_ => ⟨hk_.1.1, hk_.1.2⟩)); have n2_ := Aside0.mk (Kd.R_reok rfl hy0 (fun k_ e_ => HO_594001.out.1 k_ e_)); have n3_ := Aside0.mk (blk_kept (by (with_reducible repeat (first | refine blk_drewN ?_ _ | refine blk_drew ?_ | refine blk_alloc ?_ _)); exact BK571.out) hkp (fun hs_ => (fun e_ => (Kd.R_ne HO_594001.out BK571.out (by decide)) e_) hs_)); have n4_ := Aside0.mk (blk_kept (by (with_reducible repeat (first | refine blk_drewN ?_ _ | refine blk_drew ?_ | refine blk_alloc ?_ _)); exact BK582.out) hkp (fun hs_ => (fun e_ => (Kd.R_ne HO_594001.out BK582.out (by decide)) e_) hs_)); have n5_ := Aside0.mk (blk_kept (by (with_reducible repeat (first | refine blk_drewN ?_ _ | refine blk_drew ?_ | refine blk_alloc ?_ _)); exact BK587.out) hkp (fun hs_ => (fun e_ => (Kd.R_ne HO_594001.out BK587.out (by decide)) e_) hs_)); have n6_ := Aside0.mk (blk_kept (by (with_reducible repeat (first | refine blk_drewN ?_ _ | refine blk_drew ?_ | refine blk_alloc ?_ _)); exact BK593.out) hkp (fun hs_ => (fun e_ => (Kd.R_ne HO_594001.out BK593.out (by decide)) e_) hs_)); have n7_ := Aside0.mk (hb); clear HO_583001; clear HO_588001; clear HO_594001; clear BK571; clear BK582; clear BK587; clear BK593; clear HB; have HO_583001 := n0_; have HO_588001 := n1_; have HO_594001 := n2_; have BK571 := n3_; have BK582 := n4_; have BK587 := n5_; have BK593 := n6_; have HB := n7_; clear n0_ n1_ n2_ n3_ n4_ n5_ n6_ n7_; (try clear hb); (try clear hkp); (try clear hy0); have hcz175_0 : w174.cell? ⟨gb593, 0, none⟩ = some (.int .i64 t588) := (blk_cell BK593.out 0).trans rfl; have hcz175_1 : w174.cell? ⟨gb593, 1, none⟩ = some (.slice Ao38 t589.length co38) := (blk_cell BK593.out 1).trans rfl; have hfz175_0 := blk_frozen BK593.out 0; have hfz175_1 := blk_frozen BK593.out 1) | ((with_reducible refine gate_callee (f := 38) rfl ?_); refine goesL_ (some 75) rfl rfl Try.func38 (by kernel_rfl) rfl #[.agg #[.int .i64 t588, .slice Ao38 t604.length co38], .int .i64 1] rfl (by (try simp only [List.map_toArray, List.map_cons, List.map_nil]); first | done | (rw [show t604.length = t589.length from (Kd.R_reads' HO_594001.out).1.symm] <;> rfl) | rfl | (simp only [List.length_drop, List.length_take]; rfl)) ?_; (with_reducible refine (laws_heldTable.calls kj61 t588 _ _ t604 1 t605 _ ?side1 ?side2 A93.out).mono ?_); (case side1 => repeat (first | exact (Kd.R_reads' HO_594001.out).2.2 | (with_reducible refine Kd.C_alloc ?_ _) | (with_reducible refine Kd.C_drewN ?_ _) | (with_reducible refine Kd.C_drew ?_))); (case side2 => rw [show t604.length = t589.length from (Kd.R_reads' HO_594001.out).1.symm]; exact (Kd.R_reads' HO_594001.out).2.1); rintro e w176 ⟨rfl, hb⟩; refine ⟨_, rfl, ?_⟩; have n0_ := Aside0.mk (Kd.R_below (by (with_reducible repeat (first | apply Kd.R_alloc | apply Kd.R_drewN | apply Kd.R_drew)); exact HO_583001.out) hb); have n1_ := Aside0.mk (Kd.R_below (by (with_reducible repeat (first | apply Kd.R_alloc | apply Kd.R_drewN | apply Kd.R_drew)); exact HO_588001.out) hb); have n2_ := Aside0.mk (Kd.R_below (by (with_reducible repeat (first | apply Kd.R_alloc | apply Kd.R_drewN | apply Kd.R_drew)); exact HO_594001.out) hb); have n3_ := Aside0.mk (blk_below (g := gb571) (o := .cells #[.int .i64 a0_0, .slice A0_1 l0_1.length c0_1] 24 (0, 0)) (by (with_reducible repeat (first | refine blk_drewN ?_ _ | refine blk_drew ?_ | refine blk_alloc ?_ _)); exact BK571.out) hb); have n4_ := Aside0.mk (blk_below (g := gb582) (o := .cells #[.int .i64 t577, .slice Ao24 t578.length co24] 27 (0, 0)) (by (with_reducible repeat (first | refine blk_drewN ?_ _ | refine blk_drew ?_ | refine blk_alloc ?_ _)); exact BK582.out) hb); have n5_ := Aside0.mk (blk_below (g := gb587) (o := .cells #[.int .i64 t583, .slice Ao31 t601.length co31] 27 (0, 0)) (by (with_reducible repeat (first | refine blk_drewN ?_ _ | refine blk_drew ?_ | refine blk_alloc ?_ _)); exact BK587.out) hb); have n6_ := Aside0.mk (blk_below (g := gb593) (o := .cells #[.int .i64 t588, .slice Ao38 t589.length co38] 27 (0, 0)) (by (with_reducible repeat (first | refine blk_drewN ?_ _ | refine blk_drew ?_ | refine blk_alloc ?_ _)); exact BK593.out) hb); have n7_ := Aside0.mk (below_step (by repeat (first | (with_reducible first | exact HB.out | apply below_alloc | apply pw_below_drewN | apply below_drew1 | refine below_set ?_ GE571.out | refine below_set ?_ GE582.out | refine below_set ?_ GE587.out | refine below_set ?_ GE593.out) | exact HB.out)) hb); clear HO_583001; clear HO_588001; clear HO_594001; clear BK571; clear BK582; clear BK587; clear BK593; clear HB; have HO_583001 := n0_; have HO_588001 := n1_; have HO_594001 := n2_; have BK571 := n3_; have BK582 := n4_; have BK587 := n5_; have BK593 := n6_; have HB := n7_; clear n0_ n1_ n2_ n3_ n4_ n5_ n6_ n7_; (try clear hb); (try clear hb2); (try clear hk); (try clear hi)))
                      go_ret
                      exact ⟨by first | rfl | (simp [errW_none, errW_some] <;> rfl) | (simp [*, errW_none, errW_some] <;> rfl), by repeat (first | (with_reducible first | exact HB.out | apply below_alloc | apply pw_below_drewN | apply below_drew1 | refine below_set ?_ GE571.out | refine below_set ?_ GE582.out | refine below_set ?_ GE587.out | refine below_set ?_ GE593.out) | exact HB.out)⟩
          · replace c60 := Bool.eq_false_iff.mpr c60
            subst c60
            have H1 : (some false) = some r := by rw [if_neg (show ¬ (false = true) by decide)] at H; exact H
            clear H
            have H := H1
            clear H1
            obtain rfl := Option.some.inj H
            try go_wp2
            have n0_ := Aside0.mk (Kd.R_drew HO_583001.out)
            have n1_ := Aside0.mk (Kd.R_drew HO_588001.out)
            have n2_ := Aside0.mk (Kd.R_drew HO_594001.out)
            have n3_ := Aside0.mk (blk_drew BK571.out)
            have n4_ := Aside0.mk (blk_drew BK582.out)
            have n5_ := Aside0.mk (blk_drew BK587.out)
            have n6_ := Aside0.mk (blk_drew BK593.out)
            have n7_ := Aside0.mk (below_drew1 HB.out)
            clear HO_583001
            clear HO_588001
            clear HO_594001
            clear BK571
            clear BK582
            clear BK587
            clear BK593
            clear HB
            have HO_583001 := n0_
            have HO_588001 := n1_
            have HO_594001 := n2_
            have BK571 := n3_
            have BK582 := n4_
            have BK587 := n5_
            have BK593 := n6_
            have HB := n7_
            clear n0_ n1_ n2_ n3_ n4_ n5_ n6_ n7_
            refine start_ (n := 5) (S := fun w' => w'.cell? ⟨gb587, 0, none⟩ = some (.int .i64 t583) ∧ w'.cell? ⟨gb587, 1, none⟩ = some (.slice Ao31 t584.length co31) ∧ w'.cell? ⟨gb571, 0, none⟩ = some (.int .i64 a0_0) ∧ w'.cell? ⟨gb571, 1, none⟩ = some (.slice A0_1 l0_1.length c0_1)) (ds := []) #[false, false, false, false, false] (by kernel_rfl) rfl rfl ⟨(blk_cell BK587.out 0).trans rfl, (blk_cell BK587.out 1).trans rfl, (blk_cell BK571.out 0).trans rfl, (blk_cell BK571.out 1).trans rfl⟩ (fun hHeld => ?_)
            generalize wc.drew = w177 at HO_583001 HO_588001 HO_594001 BK571 BK582 BK587 BK593 HB hHeld ⊢
            refine take_ (i := 0) (N := some 49) (v := ?_) (a' := ?_) #[true, false, false, false, false] rfl rfl (by kernel_rfl) (fun _ _ _ h => h) (Or.inl ⟨by rfl, ?_⟩) hHeld ?_ ?_
            rotate_left
            · rintro w' ⟨s0, s1, s2, s3⟩
              go_simp
              with_reducible rfl
            rotate_left
            · simp only [Act.put, List.setIfInBounds_toArray, List.set_cons_zero, List.set_cons_succ, i64_w, i32_w]
              rfl
            refine take_ (i := 1) (N := some 50) (v := ?_) (a' := ?_) #[true, true, false, false, false] rfl rfl (by kernel_rfl) (fun _ _ _ h => h) (Or.inl ⟨by rfl, ?_⟩) hHeld ?_ ?_
            rotate_left
            · rintro w' ⟨s0, s1, s2, s3⟩
              go_simp
              with_reducible rfl
            rotate_left
            · simp only [Act.put, List.setIfInBounds_toArray, List.set_cons_zero, List.set_cons_succ, i64_w, i32_w]
              rfl
            refine one_ (i := 2) (N := some 51) #[true, true, true, false, false] rfl rfl (by kernel_rfl) (by decide) (fun K hK => ?_)
            refine goes_ Try.func17 (by kernel_rfl) rfl #[.agg #[.int .i64 a0_0, .slice A0_1 l0_1.length c0_1]] (by rfl) rfl rfl (by (try simp only [List.map_toArray, List.map_cons, List.map_nil]); first | done | rfl | (simp only [List.length_drop, List.length_take]; rfl)) ?_
            with_reducible refine (laws_toTable.calls kj12 a0_0 _ _ l0_1 t595 t596 _ ?side1 ?side2 A58.out).mono ?_
            (case side1 => repeat (first | exact (Kd.C_below HR0_1.out HB.out) | (with_reducible refine Kd.C_alloc ?_ _) | (with_reducible refine Kd.C_drewN ?_ _) | (with_reducible refine Kd.C_drew ?_)))
            (case side2 => exact HC0_1.out)
            rintro e w178 ⟨v597, rfl, ho0, hb⟩
            refine ⟨_, rfl, ?_⟩
            have n0_ := Aside0.mk (Kd.R_elder' (by (with_reducible repeat (first | apply Kd.R_alloc | apply Kd.R_drewN | apply Kd.R_drew)); exact HO_583001.out) (Kd.R_base ho0) hb)
            have n1_ := Aside0.mk (Kd.R_elder' (by (with_reducible repeat (first | apply Kd.R_alloc | apply Kd.R_drewN | apply Kd.R_drew)); exact HO_588001.out) (Kd.R_base ho0) hb)
            have n2_ := Aside0.mk (Kd.R_elder' (by (with_reducible repeat (first | apply Kd.R_alloc | apply Kd.R_drewN | apply Kd.R_drew)); exact HO_594001.out) (Kd.R_base ho0) hb)
            have n3_ := Aside0.mk (Kd.R_lower (Kd.R_new' (Kd.R_new' (Kd.R_new' ho0 (Kd.R_lt (by (with_reducible repeat (first | apply Kd.R_alloc | apply Kd.R_drewN | apply Kd.R_drew)); exact HO_583001.out))) (Kd.R_lt (by (with_reducible repeat (first | apply Kd.R_alloc | apply Kd.R_drewN | apply Kd.R_drew)); exact HO_588001.out))) (Kd.R_lt (by (with_reducible repeat (first | apply Kd.R_alloc | apply Kd.R_drewN | apply Kd.R_drew)); exact HO_594001.out))) (below_size (by repeat (first | (with_reducible first | exact HB.out | apply below_alloc | apply pw_below_drewN | apply below_drew1 | refine below_set ?_ GE571.out | refine below_set ?_ GE582.out | refine below_set ?_ GE587.out | refine below_set ?_ GE593.out) | exact HB.out))))
            have n4_ := Aside0.mk (blk_below (g := gb571) (o := .cells #[.int .i64 a0_0, .slice A0_1 l0_1.length c0_1] 24 (0, 0)) (by (with_reducible repeat (first | refine blk_drewN ?_ _ | refine blk_drew ?_ | refine blk_alloc ?_ _)); exact BK571.out) hb)
            have n5_ := Aside0.mk (blk_below (g := gb582) (o := .cells #[.int .i64 t577, .slice Ao24 t578.length co24] 27 (0, 0)) (by (with_reducible repeat (first | refine blk_drewN ?_ _ | refine blk_drew ?_ | refine blk_alloc ?_ _)); exact BK582.out) hb)
            have n6_ := Aside0.mk (blk_below (g := gb587) (o := .cells #[.int .i64 t583, .slice Ao31 t584.length co31] 27 (0, 0)) (by (with_reducible repeat (first | refine blk_drewN ?_ _ | refine blk_drew ?_ | refine blk_alloc ?_ _)); exact BK587.out) hb)
            have n7_ := Aside0.mk (blk_below (g := gb593) (o := .cells #[.int .i64 t588, .slice Ao38 t589.length co38] 27 (0, 0)) (by (with_reducible repeat (first | refine blk_drewN ?_ _ | refine blk_drew ?_ | refine blk_alloc ?_ _)); exact BK593.out) hb)
            have n8_ := Aside0.mk (below_step (by repeat (first | (with_reducible first | exact HB.out | apply below_alloc | apply pw_below_drewN | apply below_drew1 | refine below_set ?_ GE571.out | refine below_set ?_ GE582.out | refine below_set ?_ GE587.out | refine below_set ?_ GE593.out) | exact HB.out)) hb)
            clear HO_583001
            clear HO_588001
            clear HO_594001
            clear BK571
            clear BK582
            clear BK587
            clear BK593
            clear HB
            have HO_583001 := n0_
            have HO_588001 := n1_
            have HO_594001 := n2_
            have HO598 := n3_
            have BK571 := n4_
            have BK582 := n5_
            have BK587 := n6_
            have BK593 := n7_
            have HB := n8_
            clear n0_ n1_ n2_ n3_ n4_ n5_ n6_ n7_ n8_
            (try clear hb)
            (try clear hb2)
            (try clear hk)
            (try clear hi)
            (try clear ho0)
            obtain ⟨Ao179, co179, eo179⟩ := Kd.R_slice HO598.out
            (first | subst eo179 | (injection eo179 with f1_ f2_ f3_; have f4_ := f1_.symm; have f5_ := f3_.symm; clear f1_ f2_ f3_; subst f4_; subst f5_))
            refine hK.out _ _ ⟨(blk_cell BK587.out 0).trans rfl, (blk_cell BK587.out 1).trans rfl, (blk_cell BK571.out 0).trans rfl, (blk_cell BK571.out 1).trans rfl⟩ (fun hHeld => ?_)
            clear hK K
            refine norm_ (a' := ?_) ?_ ?_
            rotate_left
            · show Act.put _ (some 51) _ = _
              simp only [Act.put, List.setIfInBounds_toArray, List.set_cons_zero, List.set_cons_succ, i64_w, i32_w]
              rfl
            refine one_ (i := 3) (N := some 52) #[true, true, true, true, false] rfl rfl (by kernel_rfl) (by decide) (fun K hK => ?_)
            refine goes_ Try.func19 (by kernel_rfl) rfl #[.agg #[.int .i64 t583, .slice Ao31 t584.length co31], .agg #[.int .i64 t595, .slice Ao179 t596.length co179]] (by rfl) rfl rfl (by (try simp only [List.map_toArray, List.map_cons, List.map_nil]); first | done | rfl | (simp only [List.length_drop, List.length_take]; rfl)) ?_
            with_reducible refine (laws_eqTable.calls kj12 t583 _ _ t584 t595 _ _ t596 false _ ?side1 ?side2 ?side3 ?side4 A59.out).mono ?_
            (case side1 => repeat (first | exact (Kd.R_reads' HO_588001.out).2.2 | (with_reducible refine Kd.C_alloc ?_ _) | (with_reducible refine Kd.C_drewN ?_ _) | (with_reducible refine Kd.C_drew ?_)))
            (case side2 => exact (Kd.R_reads' HO_588001.out).2.1)
            (case side3 => repeat (first | exact (Kd.R_reads' HO598.out).2.2 | (with_reducible refine Kd.C_alloc ?_ _) | (with_reducible refine Kd.C_drewN ?_ _) | (with_reducible refine Kd.C_drew ?_)))
            (case side4 => exact (Kd.R_reads' HO598.out).2.1)
            rintro e w180 ⟨rfl, hb⟩
            refine ⟨_, rfl, ?_⟩
            have n0_ := Aside0.mk (Kd.R_below (by (with_reducible repeat (first | apply Kd.R_alloc | apply Kd.R_drewN | apply Kd.R_drew)); exact HO_583001.out) hb)
            have n1_ := Aside0.mk (Kd.R_below (by (with_reducible repeat (first | apply Kd.R_alloc | apply Kd.R_drewN | apply Kd.R_drew)); exact HO_588001.out) hb)
            have n2_ := Aside0.mk (Kd.R_below (by (with_reducible repeat (first | apply Kd.R_alloc | apply Kd.R_drewN | apply Kd.R_drew)); exact HO_594001.out) hb)
            have n3_ := Aside0.mk (Kd.R_below (by (with_reducible repeat (first | apply Kd.R_alloc | apply Kd.R_drewN | apply Kd.R_drew)); exact HO598.out) hb)
            have n4_ := Aside0.mk (blk_below (g := gb571) (o := .cells #[.int .i64 a0_0, .slice A0_1 l0_1.length c0_1] 24 (0, 0)) (by (with_reducible repeat (first | refine blk_drewN ?_ _ | refine blk_drew ?_ | refine blk_alloc ?_ _)); exact BK571.out) hb)
            have n5_ := Aside0.mk (blk_below (g := gb582) (o := .cells #[.int .i64 t577, .slice Ao24 t578.length co24] 27 (0, 0)) (by (with_reducible repeat (first | refine blk_drewN ?_ _ | refine blk_drew ?_ | refine blk_alloc ?_ _)); exact BK582.out) hb)
            have n6_ := Aside0.mk (blk_below (g := gb587) (o := .cells #[.int .i64 t583, .slice Ao31 t584.length co31] 27 (0, 0)) (by (with_reducible repeat (first | refine blk_drewN ?_ _ | refine blk_drew ?_ | refine blk_alloc ?_ _)); exact BK587.out) hb)
            have n7_ := Aside0.mk (blk_below (g := gb593) (o := .cells #[.int .i64 t588, .slice Ao38 t589.length co38] 27 (0, 0)) (by (with_reducible repeat (first | refine blk_drewN ?_ _ | refine blk_drew ?_ | refine blk_alloc ?_ _)); exact BK593.out) hb)
            have n8_ := Aside0.mk (below_step (by repeat (first | (with_reducible first | exact HB.out | apply below_alloc | apply pw_below_drewN | apply below_drew1 | refine below_set ?_ GE571.out | refine below_set ?_ GE582.out | refine below_set ?_ GE587.out | refine below_set ?_ GE593.out) | exact HB.out)) hb)
            clear HO_583001
            clear HO_588001
            clear HO_594001
            clear HO598
            clear BK571
            clear BK582
            clear BK587
            clear BK593
            clear HB
            have HO_583001 := n0_
            have HO_588001 := n1_
            have HO_594001 := n2_
            have HO598 := n3_
            have BK571 := n4_
            have BK582 := n5_
            have BK587 := n6_
            have BK593 := n7_
            have HB := n8_
            clear n0_ n1_ n2_ n3_ n4_ n5_ n6_ n7_ n8_
            (try clear hb)
            (try clear hb2)
            (try clear hk)
            (try clear hi)
            refine hK.out _ _ ⟨(blk_cell BK587.out 0).trans rfl, (blk_cell BK587.out 1).trans rfl, (blk_cell BK571.out 0).trans rfl, (blk_cell BK571.out 1).trans rfl⟩ (fun hHeld => ?_)
            clear hK K
            refine norm_ (a' := ?_) ?_ ?_
            rotate_left
            · show Act.put _ (some 52) _ = _
              simp only [Act.put, List.setIfInBounds_toArray, List.set_cons_zero, List.set_cons_succ, i64_w, i32_w]
              rfl
            refine pure_ (i := 4) (N := some 53) (v := ?_) (a' := ?_) #[true, true, true, true, true] rfl rfl (by kernel_rfl) (fun _ _ _ h => h) (Or.inl ⟨by rfl, ?_⟩) ?_ ?_
            rotate_left
            · intro w'
              go_simp
              with_reducible rfl
            rotate_left
            · simp only [Act.put, List.setIfInBounds_toArray, List.set_cons_zero, List.set_cons_succ, i64_w, i32_w]
              rfl
            refine done_ (by kernel_rfl) ?_
            try go_wp2
            go_ret
            exact ⟨by first | rfl | (simp [errW_none, errW_some] <;> rfl) | (simp [*, errW_none, errW_some] <;> rfl), by repeat (first | (with_reducible first | exact HB.out | apply below_alloc | apply pw_below_drewN | apply below_drew1 | refine below_set ?_ GE571.out | refine below_set ?_ GE582.out | refine below_set ?_ GE587.out | refine below_set ?_ GE593.out) | exact HB.out)⟩

end Go.Proofs.Ytlccgamaplaacaa.P
