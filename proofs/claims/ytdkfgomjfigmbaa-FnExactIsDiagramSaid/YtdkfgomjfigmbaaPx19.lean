-- PRINTED by print.py (a twelfth state) out of the translation. Not trusted: Lean checks it.
import Derived.Test.YtdkfgomjfigmbaaPx0
import Derived.Test.YtdkfgomjfigmbaaPx4
import Derived.Test.YtdkfgomjfigmbaaPx5
import Derived.Test.YtdkfgomjfigmbaaPx6
namespace Go.Proofs.Ytdkfgomjfigmbaa.P
open Go.RowKit Go.Proofs.YtdkfgomjfigmbaaW.PrintWords Go.Proofs.YtdkfgomjfigmbaaW.PrintLast Go.Proofs.YtdkfgomjfigmbaaW.PrintMore
attribute [local go_sem] max2_int min2_int max_two min_two max_three min_three max_four min_four   -- for this text's walks alone
set_option linter.unusedVariables false
set_option linter.unusedSimpArgs false

/-! ### spec_IsDiagram: function 13 -/
open Kd
def spec_IsDiagram.f (k : Nat) (a0_0 : Int) (l0_1 : List (S63)) (a0_2 : Int) : Option (Bool) := (spec_ddGood.f k a0_0 l0_1 a0_2).bind fun t146 => (some t146)
theorem spec_IsDiagram.mono : ∀ a0 a1 a2 k, LeO (spec_IsDiagram.f k a0 a1 a2) (spec_IsDiagram.f (k + 1) a0 a1 a2) := by
 intro a0 a1 a2 k
 unfold spec_IsDiagram.f
 repeat' first
  | (with_reducible exact spec_ddGood.mono _ _ _ _)
  | (with_reducible exact LeO.refl _)
  | (with_reducible exact LeO.none _)
  | (with_reducible refine LeO.ite ?_ ?_)
  | (with_reducible refine LeO.bind ?_ (fun _ => ?_))
  | exact spec_ddGood.mono _ _ _ _
  | exact LeO.none _
  | refine LeO.ite ?_ ?_
  | refine LeO.bind ?_ (fun _ => ?_)
set_option maxHeartbeats 8000000 in
set_option maxRecDepth 100000 in
theorem spec_IsDiagram.calls (k : Nat) (a0_0 : Int) (A0_1 : Option Addr) (c0_1 : Nat) (l0_1 : List (S63)) (a0_2 : Int) (r : Bool) (w : World) (hr0_1 : Kd.C k63 w A0_1 l0_1.length l0_1) (hc0_1 : l0_1.length <= c0_1) (h : spec_IsDiagram.f k a0_0 l0_1 a0_2 = some r) :
 Calls Try.prog 13 #[.agg #[.int .i64 a0_0, .slice A0_1 l0_1.length c0_1, .int .i64 a0_2]] w fun e w' => e = .returned (.bool r) /\ Below w.heap.size w w' := by
 have hu29 := Try.underlying29
 have HR0_1 := Aside0.mk hr0_1
 have HC0_1 := Aside0.mk hc0_1
 clear hr0_1 hc0_1
 have HB := Aside0.mk (Below.refl w.heap.size w)
 have H := h
 clear h
 unfold spec_IsDiagram.f at H
 replace H := bindA H; obtain ⟨t146, A2, H⟩ := H
 obtain rfl := Option.some.inj H
 go_enter Try.func13, Try.ntmps13
 go_wp2_with (first | ((with_reducible refine gate_dst (N := 1) rfl ?_); refine boxE (cs := #[.int .i64 a0_0, .slice A0_1 l0_1.length c0_1, .int .i64 a0_2]) (t := 29) ?_; intro gb145 hg w3 hbox hb; refine E4b HB.1 hg hbox hb ?_; clear HB; intro HB BK145 GW145 GE145; clear hb hbox hg; obtain ⟨hcz4_0, hcz4_1, hcz4_2, hfz4_0, hfz4_1, hfz4_2⟩ := cz3 BK145.1) | ((with_reducible refine gate_callee (f := 45) rfl ?_); refine goesM (N := (some 4)) #[.agg #[.int .i64 a0_0, .slice A0_1 l0_1.length c0_1, .int .i64 a0_2]] Try.func45 ?_; (with_reducible refine (spec_ddGood.calls k a0_0 _ _ l0_1 a0_2 t146 _ ?side1 ?side2 A2.1).mono ?_); (case side1 => exact CB (C_below HR0_1.1 HB.1)); (case side2 => exact HC0_1.1); rintro e w5 ⟨rfl, hb⟩; refine ⟨_, rfl, ?_⟩; refine E2 (bB BK145.1 hb) (bS HB.1 hb) ?_; clear BK145 HB; intro BK145 HB; (try clear hb)))
 go_ret
 exact ⟨RF, BL HB.1⟩

/-! ### laws_FnExactIsDiagram: function 3 -/
open Kd
def laws_FnExactIsDiagram.f (k : Nat) (a0_0 : Int) (l0_1 : List (S86)) (a0_2 : Int) : Option (Bool) := (laws_szDiagram.f a0_0 l0_1 a0_2 1048576).bind fun t186 => (if t186 < 0 then (some true) else ((laws_toDiagram.f k a0_0 l0_1 a0_2).bind fun bt187 => ((spec_IsDiagram.f k bt187.1 bt187.2.1 bt187.2.2).bind fun t192 => ((laws_toDiagram.f k a0_0 l0_1 a0_2).bind fun bt193 => ((impl_IsDiagram.f k bt193.1 bt193.2.1 bt193.2.2).bind fun t199 => (if (t199 != t192) = true then (some false) else ((laws_toDiagram.f k a0_0 l0_1 a0_2).bind fun bt200 => ((laws_eqDiagram.f k bt193.1 bt193.2.1 bt193.2.2 bt200.1 bt200.2.1 bt200.2.2).bind fun t205 => (if t205 = true then (some true) else (some false))))))))))
theorem laws_FnExactIsDiagram.mono : ∀ a0 a1 a2 k, LeO (laws_FnExactIsDiagram.f k a0 a1 a2) (laws_FnExactIsDiagram.f (k + 1) a0 a1 a2) := by
 intro a0 a1 a2 k
 unfold laws_FnExactIsDiagram.f
 repeat' first
  | (with_reducible exact impl_IsDiagram.mono _ _ _ _)
  | (with_reducible exact laws_eqDiagram.mono _ _ _ _ _ _ _)
  | (with_reducible exact laws_toDiagram.mono _ _ _ _)
  | (with_reducible exact spec_IsDiagram.mono _ _ _ _)
  | (with_reducible exact LeO.refl _)
  | (with_reducible exact LeO.none _)
  | (with_reducible refine LeO.ite ?_ ?_)
  | (with_reducible refine LeO.bind ?_ (fun _ => ?_))
  | exact impl_IsDiagram.mono _ _ _ _
  | exact laws_eqDiagram.mono _ _ _ _ _ _ _
  | exact laws_toDiagram.mono _ _ _ _
  | exact spec_IsDiagram.mono _ _ _ _
  | exact LeO.none _
  | refine LeO.ite ?_ ?_
  | refine LeO.bind ?_ (fun _ => ?_)
set_option maxHeartbeats 8000000 in
set_option maxRecDepth 100000 in
theorem laws_FnExactIsDiagram.calls (k : Nat) (a0_0 : Int) (A0_1 : Option Addr) (c0_1 : Nat) (l0_1 : List (S86)) (a0_2 : Int) (w : World) (hr0_1 : Kd.C k86 w A0_1 l0_1.length l0_1) (hc0_1 : l0_1.length <= c0_1) (h : laws_FnExactIsDiagram.f k a0_0 l0_1 a0_2 = some true) :
 Calls Try.prog 3 #[.agg #[.int .i64 a0_0, .slice A0_1 l0_1.length c0_1, .int .i64 a0_2]] w fun e w' => e = .returned (.bool true) /\ Below w.heap.size w w' := by
 have hu24 := Try.underlying24
 have hu29 := Try.underlying29
 have HR0_1 := Aside0.mk hr0_1
 have HC0_1 := Aside0.mk hc0_1
 clear hr0_1 hc0_1
 have HB := Aside0.mk (Below.refl w.heap.size w)
 have H := h
 clear h
 unfold laws_FnExactIsDiagram.f at H
 replace H := bindA H; obtain ⟨t186, A2, H⟩ := H
 replace H := ifB H; rcases H with ⟨c3b0, H⟩ | ⟨c3b0, H⟩
 · first | (obtain rfl := Option.some.inj H) | clear H
   go_enter Try.func3, Try.ntmps3
   go_wp2_with (first | ((with_reducible refine gate_dst (N := 1) rfl ?_); refine boxE (cs := #[.int .i64 a0_0, .slice A0_1 l0_1.length c0_1, .int .i64 a0_2]) (t := 24) ?_; intro gb185 hg w4 hbox hb; refine E4b HB.1 hg hbox hb ?_; clear HB; intro HB BK185 GW185 GE185; clear hb hbox hg; obtain ⟨hcz5_0, hcz5_1, hcz5_2, hfz5_0, hfz5_1, hfz5_2⟩ := cz3 BK185.1) | ((with_reducible refine gate_callee (f := 12) rfl ?_); refine goesM (N := (some 9)) #[.agg #[.int .i64 a0_0, .slice A0_1 l0_1.length c0_1, .int .i64 a0_2], .int .i64 1048576] Try.func12 ?_; (with_reducible refine (laws_szDiagram.calls a0_0 _ _ l0_1 a0_2 1048576 t186 _ ?side1 ?side2 A2.1).mono ?_); (case side1 => exact CB (C_below HR0_1.1 HB.1)); (case side2 => exact HC0_1.1); rintro e w6 ⟨rfl, hb⟩; refine ⟨_, rfl, ?_⟩; refine E2 (bB BK185.1 hb) (bS HB.1 hb) ?_; clear BK185 HB; intro BK185 HB; (try clear hb)))
   go_ret
   exact ⟨RF, BL HB.1⟩
 replace H := bindA H; obtain ⟨⟨t187, t188, t191⟩, A7, H⟩ := H
 dsimp only at H
 replace H := bindA H; obtain ⟨t192, A8, H⟩ := H
 replace H := bindA H; obtain ⟨⟨t193, t194, t197⟩, A9, H⟩ := H
 dsimp only at H
 replace H := bindA H; obtain ⟨t199, A10, H⟩ := H
 replace H := ifQ H; rcases H with ⟨c11, H⟩ | ⟨c11, H⟩
 · exact absurd H (by simp)
 have c11b0 : (t199 != t192) = false := by simpa using c11
 (try (have c11b1 : decide (t199 = t192) = true := by simpa using c11))
 (try (have c11b2 : (t199 == t192) = true := by simpa using c11))
 clear c11
 replace H := bindA H; obtain ⟨⟨t200, t201, t204⟩, A26, H⟩ := H
 dsimp only at H
 replace H := bindA H; obtain ⟨t205, A27, H⟩ := H
 replace H := ifT H (by simp); obtain ⟨rfl, H⟩ := H
 first | (obtain rfl := Option.some.inj H) | clear H
 go_enter Try.func3, Try.ntmps3
 try go_wp2_with (first | ((with_reducible refine gate_dst (N := 1) rfl ?_); refine boxE (cs := #[.int .i64 a0_0, .slice A0_1 l0_1.length c0_1, .int .i64 a0_2]) (t := 24) ?_; intro gb185 hg w29 hbox hb; refine E4b HB.1 hg hbox hb ?_; clear HB; intro HB BK185 GW185 GE185; clear hb hbox hg; obtain ⟨hcz30_0, hcz30_1, hcz30_2, hfz30_0, hfz30_1, hfz30_2⟩ := cz3 BK185.1) | ((with_reducible refine gate_callee (f := 12) rfl ?_); refine goesM (N := (some 9)) #[.agg #[.int .i64 a0_0, .slice A0_1 l0_1.length c0_1, .int .i64 a0_2], .int .i64 1048576] Try.func12 ?_; (with_reducible refine (laws_szDiagram.calls a0_0 _ _ l0_1 a0_2 1048576 t186 _ ?side1 ?side2 A2.1).mono ?_); (case side1 => exact CB (C_below HR0_1.1 HB.1)); (case side2 => exact HC0_1.1); rintro e w31 ⟨rfl, hb⟩; refine ⟨_, rfl, ?_⟩; refine E2 (bB BK185.1 hb) (bS HB.1 hb) ?_; clear BK185 HB; intro BK185 HB; (try clear hb); obtain ⟨hcz32_0, hcz32_1, hcz32_2, hfz32_0, hfz32_1, hfz32_2⟩ := cz3 BK185.1) | ((with_reducible refine gate_callee (f := 14) rfl ?_); refine goesM (N := (some 13)) #[.agg #[.int .i64 a0_0, .slice A0_1 l0_1.length c0_1, .int .i64 a0_2]] Try.func14 ?_; (with_reducible refine (laws_toDiagram.calls k a0_0 _ _ l0_1 a0_2 t187 t188 t191 _ ?side1 ?side2 A7.1).mono ?_); (case side1 => exact CB (C_below HR0_1.1 HB.1)); (case side2 => exact HC0_1.1); rintro e w33 ⟨v189, rfl, ho0, hb⟩; refine ⟨_, rfl, ?_⟩; refine E3 (R_lower ho0 (bZ HB.1)) (bB BK185.1 hb) (bS HB.1 hb) ?_; clear BK185 HB; intro HO190 BK185 HB; (try clear hb); (try clear ho0); obtain ⟨Ao34, co34, eo34⟩ := R_slice HO190.1; subst eo34) | ((with_reducible refine gate_callee (f := 13) rfl ?_); refine goesM (N := (some 14)) #[.agg #[.int .i64 t187, .slice Ao34 t188.length co34, .int .i64 t191]] Try.func13 ?_; (with_reducible refine (spec_IsDiagram.calls k t187 _ _ t188 t191 t192 _ ?side1 ?side2 A8.1).mono ?_); (case side1 => exact CB (R_reads' HO190.1).2.2); (case side2 => exact (R_reads' HO190.1).2.1); rintro e w35 ⟨rfl, hb⟩; refine ⟨_, rfl, ?_⟩; refine E3 (rB HO190.1 hb) (bB BK185.1 hb) (bS HB.1 hb) ?_; clear HO190 BK185 HB; intro HO190 BK185 HB; (try clear hb); obtain ⟨hcz36_0, hcz36_1, hcz36_2, hfz36_0, hfz36_1, hfz36_2⟩ := cz3 BK185.1) | ((with_reducible refine gate_callee (f := 14) rfl ?_); refine goesM (N := (some 16)) #[.agg #[.int .i64 a0_0, .slice A0_1 l0_1.length c0_1, .int .i64 a0_2]] Try.func14 ?_; (with_reducible refine (laws_toDiagram.calls k a0_0 _ _ l0_1 a0_2 t193 t194 t197 _ ?side1 ?side2 A9.1).mono ?_); (case side1 => exact CB (C_below HR0_1.1 HB.1)); (case side2 => exact HC0_1.1); rintro e w37 ⟨v195, rfl, ho0, hb⟩; refine ⟨_, rfl, ?_⟩; refine E4 (R_elder' (PR HO190.1) (R_base ho0) hb) (R_lower (R_new' ho0 (R_lt (PR HO190.1))) (bZ HB.1)) (bB BK185.1 hb) (bS HB.1 hb) ?_; clear HO190 BK185 HB; intro HO190 HO196 BK185 HB; (try clear hb); (try clear ho0)) | ((with_reducible refine gate_dst (N := 5) rfl ?_); refine boxE (cs := #[.int .i64 0, .slice none 0 0, .int .i64 0]) (t := 29) ?_; intro gb198 hg w38 hbox hb; refine E9 (rB HO190.1 hb) (rB HO196.1 hb) (bB BK185.1 hb) (bS HB.1 hb) (hbox) (gX HB.1 hg) (gX HB.1 hg) (nB BK185.1 hg) (nC BK185.1 hg) ?_; clear HO190 HO196 BK185 HB; intro HO190 HO196 BK185 HB BK198 GW198 GE198 NB185_198 NB198_185; clear hb hbox hg; have hnb39 := NB198_185.1; have hnc39 := NB185_198.1; obtain ⟨hcz40_0, hcz40_1, hcz40_2, hfz40_0, hfz40_1, hfz40_2⟩ := cz3 BK198.1; obtain ⟨Ao41, co41, eo41⟩ := R_slice HO196.1; subst eo41) | ((with_reducible refine gate_callee (f := 15) rfl ?_); refine goesM (N := (some 18)) #[.agg #[.int .i64 t193, .slice Ao41 t194.length co41, .int .i64 t197]] Try.func15 ?_; (with_reducible refine (impl_IsDiagram.calls k t193 _ _ t194 t197 t199 _ ?side1 ?side2 A10.1).mono ?_); (case side1 => refine (R_reads' (e := 63) (base := w.heap.size) (ok := fun k_ => (True /\ some k_ ≠ (.slice Ao34 t188.length co34 : Value).ownBlock)) (n := t194.length) (c := co41) ?_).2.2; exact (by (with_reducible repeat (first | apply R_alloc | apply R_drewN | apply R_drew)); exact (R_mono (RQ gb198 2 (RQ gb198 1 (RQ gb198 0 (R_types HO196.1 BK198.1 (by decide)) _) _) _) (fun _ h_ => h_.1)))); (case side2 => exact (R_reads' HO196.1).2.1); rintro e w42 ⟨rfl, hb⟩; refine ⟨_, rfl, ?_⟩; refine E5 (R_below (by (with_reducible repeat (first | apply R_alloc | apply R_drewN | apply R_drew)); exact (R_mono (RQ gb198 2 (RQ gb198 1 (RQ gb198 0 (R_types HO190.1 BK198.1 (by decide)) _) _) _) (fun _ h_ => h_.1))) hb) (R_below (by (with_reducible repeat (first | apply R_alloc | apply R_drewN | apply R_drew)); exact (R_mono (RQ gb198 2 (RQ gb198 1 (RQ gb198 0 (R_types HO196.1 BK198.1 (by decide)) _) _) _) (fun _ h_ => h_.1))) hb) (blk_below (g := gb185) (o := .cells #[.int .i64 a0_0, .slice A0_1 l0_1.length c0_1, .int .i64 a0_2] 24 (0, 0)) (PF1 NB185_198.1 BK185.1) hb) (blk_below (g := gb198) (o := .cells #[.int .i64 t193, .slice Ao41 t194.length co41, .int .i64 t197] 29 (0, 0)) (PF0 BK198.1) hb) (bS HB.1 hb) ?_; clear HO190 HO196 BK185 BK198 HB; intro HO190 HO196 BK185 BK198 HB; (try clear hb)))
 refine E5 (R_drew HO190.1) (R_drew HO196.1) (blk_drew BK185.1) (blk_drew BK198.1) (below_drew1 HB.1) ?_
 clear HO190 HO196 BK185 BK198 HB
 intro HO190 HO196 BK185 BK198 HB
 refine start_ (n := 5) (S := fun w' => w'.cell? ⟨gb198, 0, none⟩ = some (.int .i64 t193) /\ w'.cell? ⟨gb198, 1, none⟩ = some (.slice Ao41 t194.length co41) /\ w'.cell? ⟨gb198, 2, none⟩ = some (.int .i64 t197) /\ w'.cell? ⟨gb185, 0, none⟩ = some (.int .i64 a0_0) /\ w'.cell? ⟨gb185, 1, none⟩ = some (.slice A0_1 l0_1.length c0_1) /\ w'.cell? ⟨gb185, 2, none⟩ = some (.int .i64 a0_2)) (ds := []) #[Zz,Zz,Zz,Zz,Zz] (by kernel_rfl) rfl rfl ⟨(blk_cell BK198.1 0).trans rfl, (blk_cell BK198.1 1).trans rfl, (blk_cell BK198.1 2).trans rfl, (blk_cell BK185.1 0).trans rfl, (blk_cell BK185.1 1).trans rfl, (blk_cell BK185.1 2).trans rfl⟩ (fun hHeld => ?_)
 generalize w42.drew = w43 at HO190 HO196 BK185 BK198 HB hHeld ⊢
 refine takeF 0 (N := some 22) hHeld ?_
 refine takeF 1 (N := some 23) hHeld ?_
 refine one_ (i := 2) (N := some 24) #[Yy,Yy,Yy,Zz,Zz] rfl rfl (by kernel_rfl) (by decide) (fun K hK => ?_)
 refine goes_ Try.func14 (by kernel_rfl) rfl #[.agg #[.int .i64 a0_0, .slice A0_1 l0_1.length c0_1, .int .i64 a0_2]] (by rfl) rfl rfl (by (try simp only [List.map_toArray, List.map_cons, List.map_nil]); first | done | rfl | (simp only [List.length_drop, List.length_take]; rfl)) ?_
 with_reducible refine (laws_toDiagram.calls k a0_0 _ _ l0_1 a0_2 t200 t201 t204 _ ?side1 ?side2 A26.1).mono ?_
 (case side1 => exact CB (C_below HR0_1.1 HB.1))
 (case side2 => exact HC0_1.1)
 rintro e w44 ⟨v202, rfl, ho0, hb⟩
 refine ⟨_, rfl, ?_⟩
 refine E6 (R_elder' (PR HO190.1) (R_base ho0) hb) (R_elder' (PR HO196.1) (R_base ho0) hb) (R_lower (R_new' (R_new' ho0 (R_lt (PR HO190.1))) (R_lt (PR HO196.1))) (bZ HB.1)) (bB BK185.1 hb) (bB BK198.1 hb) (bS HB.1 hb) ?_
 clear HO190 HO196 BK185 BK198 HB
 intro HO190 HO196 HO203 BK185 BK198 HB
 (try clear hb)
 (try clear hb2)
 (try clear hk)
 (try clear hi)
 (try clear ho0)
 obtain ⟨Ao45, co45, eo45⟩ := R_slice HO203.1
 (first | subst eo45 | (injection eo45 with f1_ f2_ f3_; have f4_ := f1_.symm; have f5_ := f3_.symm; clear f1_ f2_ f3_; subst f4_; subst f5_))
 refine hK.out _ _ ⟨(blk_cell BK198.1 0).trans rfl, (blk_cell BK198.1 1).trans rfl, (blk_cell BK198.1 2).trans rfl, (blk_cell BK185.1 0).trans rfl, (blk_cell BK185.1 1).trans rfl, (blk_cell BK185.1 2).trans rfl⟩ (fun hHeld => ?_)
 clear hK K
 refine norm_ (a' := ?_) ?_ ?_
 rotate_left
 · show Act.put _ (some 24) _ = _
   simp only [Act.put, List.setIfInBounds_toArray, List.set_cons_zero, List.set_cons_succ, i64_w, i32_w]
   rfl
 refine one_ (i := 3) (N := some 25) #[Yy,Yy,Yy,Yy,Zz] rfl rfl (by kernel_rfl) (by decide) (fun K hK => ?_)
 refine goes_ Try.func16 (by kernel_rfl) rfl #[.agg #[.int .i64 t193, .slice Ao41 t194.length co41, .int .i64 t197], .agg #[.int .i64 t200, .slice Ao45 t201.length co45, .int .i64 t204]] (by rfl) rfl rfl (by (try simp only [List.map_toArray, List.map_cons, List.map_nil]); first | done | rfl | (simp only [List.length_drop, List.length_take]; rfl)) ?_
 with_reducible refine (laws_eqDiagram.calls k t193 _ _ t194 t197 t200 _ _ t201 t204 true _ ?side1 ?side2 ?side3 ?side4 A27.1).mono ?_
 (case side1 => exact CB (R_reads' HO196.1).2.2)
 (case side2 => exact (R_reads' HO196.1).2.1)
 (case side3 => exact CB (R_reads' HO203.1).2.2)
 (case side4 => exact (R_reads' HO203.1).2.1)
 rintro e w46 ⟨rfl, hb⟩
 refine ⟨_, rfl, ?_⟩
 refine E6 (rB HO190.1 hb) (rB HO196.1 hb) (rB HO203.1 hb) (bB BK185.1 hb) (bB BK198.1 hb) (bS HB.1 hb) ?_
 clear HO190 HO196 HO203 BK185 BK198 HB
 intro HO190 HO196 HO203 BK185 BK198 HB
 (try clear hb)
 (try clear hb2)
 (try clear hk)
 (try clear hi)
 refine hK.out _ _ ⟨(blk_cell BK198.1 0).trans rfl, (blk_cell BK198.1 1).trans rfl, (blk_cell BK198.1 2).trans rfl, (blk_cell BK185.1 0).trans rfl, (blk_cell BK185.1 1).trans rfl, (blk_cell BK185.1 2).trans rfl⟩ (fun hHeld => ?_)
 clear hK K
 refine norm_ (a' := ?_) ?_ ?_
 rotate_left
 · show Act.put _ (some 25) _ = _
   simp only [Act.put, List.setIfInBounds_toArray, List.set_cons_zero, List.set_cons_succ, i64_w, i32_w]
   rfl
 refine pure_ (i := 4) (N := some 26) (v := ?_) (a' := ?_) #[Yy,Yy,Yy,Yy,Yy] rfl rfl (by kernel_rfl) (fun _ _ _ h => h) (Or.inl ⟨by rfl, ?_⟩) ?_ ?_
 rotate_left
 · intro w'
   go_simp
   with_reducible rfl
 rotate_left
 · simp only [Act.put, List.setIfInBounds_toArray, List.set_cons_zero, List.set_cons_succ, i64_w, i32_w]
   rfl
 refine done_ (by kernel_rfl) ?_
 try go_wp2
 go_ret
 exact ⟨RF, BL HB.1⟩
end Go.Proofs.Ytdkfgomjfigmbaa.P
