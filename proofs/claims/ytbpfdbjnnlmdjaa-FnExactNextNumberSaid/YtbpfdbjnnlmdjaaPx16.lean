-- PRINTED by print.py (a twelfth state) out of the translation. Not trusted: Lean checks it.
import Derived.Test.YtbpfdbjnnlmdjaaPx0
import Derived.Test.YtbpfdbjnnlmdjaaPx1
import Derived.Test.YtbpfdbjnnlmdjaaPx3
import Derived.Test.YtbpfdbjnnlmdjaaPx4
import Derived.Test.YtbpfdbjnnlmdjaaPx5
import Derived.Test.YtbpfdbjnnlmdjaaPx6
import Derived.Test.YtbpfdbjnnlmdjaaPx9
namespace Go.Proofs.Ytbpfdbjnnlmdjaa.P
open Go.RowKit Go.Proofs.YtbpfdbjnnlmdjaaW.PrintWords Go.Proofs.YtbpfdbjnnlmdjaaW.PrintLast Go.Proofs.YtbpfdbjnnlmdjaaW.PrintMore
attribute [local go_sem] max2_int min2_int max_two min_two max_three min_three max_four min_four   -- for this text's walks alone
set_option linter.unusedVariables false
set_option linter.unusedSimpArgs false

/-! ### spec_NextNumber: function 14 -/
def spec_NextNumber.f (k : Nat) (a0_0 : Int) (a0_1 : Int) (l0_2 : List (S83)) (a1 : Int) : Option (Int × Bool) := (spec_reHas.f k a0_0 a0_1 l0_2 a1).bind fun t334 => (if t334 = true then ((spec_saNumber.f k a0_0 a0_1 l0_2).bind fun t335 => ((spec_reNext.f k a0_0 a0_1 l0_2 t335 a1).bind fun bt336 => (some (bt336.1, true)))) else (some (0, false)))
theorem spec_NextNumber.mono : ∀ a0 a1 a2 a3 k, LeO (spec_NextNumber.f k a0 a1 a2 a3) (spec_NextNumber.f (k + 1) a0 a1 a2 a3) := by
  intro a0 a1 a2 a3 k
  unfold spec_NextNumber.f
  repeat' first
      | (with_reducible exact spec_reHas.mono _ _ _ _ _)
      | (with_reducible exact spec_reNext.mono _ _ _ _ _ _)
      | (with_reducible exact spec_saNumber.mono _ _ _ _)
      | (with_reducible exact LeO.refl _)
      | (with_reducible exact LeO.none _)
      | (with_reducible refine LeO.ite ?_ ?_)
      | (with_reducible refine LeO.bind ?_ (fun _ => ?_))
      | exact spec_reHas.mono _ _ _ _ _
      | exact spec_reNext.mono _ _ _ _ _ _
      | exact spec_saNumber.mono _ _ _ _
      | exact LeO.none _
      | refine LeO.ite ?_ ?_
      | refine LeO.bind ?_ (fun _ => ?_)
def spec_NextNumber.T3 : Bool × List (List Nat × List Nat) := (true, [([], []), ([], []), ([1], [1]), ([], []), ([0, 2, 3, 2], [0, 2, 3]), ([4], [4]), ([5], [5]), ([5], [5]), ([], []), ([6, 4, 0, 1, 2, 3, 4, 5, 6, 8], [6]), ([8, 7, 9, 0, 1, 2, 3, 4, 5, 6, 7, 8, 9], [7, 8])])
def spec_NextNumber.B3 : List Nat := [0, 0, 2, 0, 15, 31, 63, 63, 0, 383, 1023]
theorem spec_NextNumber.tab3 : rtab .any (opsOf Try.f14 3) = spec_NextNumber.T3 := by kernel_rfl
theorem spec_NextNumber.bits3 : waitsOk spec_NextNumber.T3.2 spec_NextNumber.B3 = true := by kernel_rfl
set_option maxHeartbeats 8000000 in
set_option maxRecDepth 100000 in
theorem spec_NextNumber.calls (k : Nat) (a0_0 : Int) (a0_1 : Int) (A0_2 : Option Addr) (c0_2 : Nat) (l0_2 : List (S83)) (a1 : Int) (r1 : Int) (r2 : Bool) (w : World) (hr0_2 : Kd.C k83 w A0_2 l0_2.length l0_2) (hc0_2 : l0_2.length ≤ c0_2) (h : spec_NextNumber.f k a0_0 a0_1 l0_2 a1 = some (r1, r2)) :
    Calls Try.prog 14 #[.agg #[.int .i64 a0_0, .int .i64 a0_1, .slice A0_2 l0_2.length c0_2], .int .i64 a1] w fun e w' => e = .returned (.tuple #[.int .i64 r1, .bool r2]) ∧ Below w.heap.size w w' := by
  have hu30 := Try.underlying30
  have hu54 := Try.underlying54
  have HR0_2 := Aside0.mk hr0_2
  have HC0_2 := Aside0.mk hc0_2
  clear hr0_2 hc0_2
  have HB := Aside0.mk (Below.refl w.heap.size w)
  have H := h
  clear h
  unfold spec_NextNumber.f at H
  replace H := bindA H; obtain ⟨t334, A3, H⟩ := H
  replace H := ifX H; rcases H with ⟨rfl, H⟩ | ⟨rfl, H⟩
  · replace H := bindA H; obtain ⟨t335, A5, H⟩ := H
    replace H := bindA H; obtain ⟨⟨t336, t337, t338, t339⟩, A6, H⟩ := H
    dsimp only at H
    simp only [Option.some.injEq, Prod.mk.injEq] at H
    obtain ⟨rfl, rfl⟩ := H
    go_enter Try.func14, Try.ntmps14
    try go_wp2_with (first | ((with_reducible refine gate_dst (N := 2) rfl ?_); refine boxE (cs := #[.int .i64 a0_0, .int .i64 a0_1, .slice A0_2 l0_2.length c0_2]) (t := 30) ?_; intro gb333 hg w7 hbox hb; refine E4b HB.1 hg hbox hb ?_; clear HB; intro HB BK333 GW333 GE333; clear hb hbox hg; obtain ⟨hcz8_0, hcz8_1, hcz8_2, hfz8_0, hfz8_1, hfz8_2⟩ := cz3 BK333.1) | ((with_reducible refine gate_callee (f := 42) rfl ?_); refine goesM (N := (some 10)) #[.agg #[.int .i64 a0_0, .int .i64 a0_1, .slice A0_2 l0_2.length c0_2], .int .i64 a1] Try.func42 ?_; (with_reducible refine (spec_reHas.calls k a0_0 a0_1 _ _ l0_2 a1 true _ ?side1 ?side2 A3.1).mono ?_); (case side1 => exact CB (Kd.C_below HR0_2.1 HB.1)); (case side2 => exact HC0_2.1); rintro e w9 ⟨rfl, hb⟩; refine ⟨_, rfl, ?_⟩; refine E2 (bB BK333.1 hb) (below_step (BL HB.1) hb) ?_; clear BK333 HB; intro BK333 HB; (try clear hb)))
    refine E2 (blk_drew BK333.1) (below_drew1 HB.1) ?_
    clear BK333 HB
    intro BK333 HB
    refine start_ (n := 11) (S := fun w' => w'.cell? ⟨gb333, 0, none⟩ = some (.int .i64 a0_0) ∧ w'.cell? ⟨gb333, 1, none⟩ = some (.int .i64 a0_1) ∧ w'.cell? ⟨gb333, 2, none⟩ = some (.slice A0_2 l0_2.length c0_2)) (ds := []) #[Zz,Zz,Zz,Zz,Zz,Zz,Zz,Zz,Zz,Zz,Zz] (by kernel_rfl) rfl rfl ⟨(blk_cell BK333.1 0).trans rfl, (blk_cell BK333.1 1).trans rfl, (blk_cell BK333.1 2).trans rfl⟩ (fun hHeld => ?_); refine with_tabW spec_NextNumber.tab3 spec_NextNumber.bits3 (fun HT_ HW_ => ?_)
    generalize w9.drew = w10 at BK333 HB hHeld ⊢
    refine pureE (i := 3) (N := some 16) #[Zz,Zz,Zz,Yy,Zz,Zz,Zz,Zz,Zz,Zz,Zz] HT_.1 ?_
    refine take_ (i := 0) (N := some 13) (v := ?_) (a' := ?_) #[Yy,Zz,Zz,Yy,Zz,Zz,Zz,Zz,Zz,Zz,Zz] rfl rfl (take_ofW HT_.1 HW_.1 (by kernel_rfl)) (fun _ _ _ h => h) (Or.inl ⟨by rfl, ?_⟩) hHeld ?_ ?_
    rotate_left
    · rintro w' ⟨s0, s1, s2⟩
      go_simp
      with_reducible rfl
    rotate_left
    · simp only [Act.put, List.setIfInBounds_toArray, List.set_cons_zero, List.set_cons_succ, i64_w, i32_w]
      rfl
    refine take_ (i := 1) (N := some 14) (v := ?_) (a' := ?_) #[Yy,Yy,Zz,Yy,Zz,Zz,Zz,Zz,Zz,Zz,Zz] rfl rfl (take_ofW HT_.1 HW_.1 (by kernel_rfl)) (fun _ _ _ h => h) (Or.inl ⟨by rfl, ?_⟩) hHeld ?_ ?_
    rotate_left
    · rintro w' ⟨s0, s1, s2⟩
      go_simp
      with_reducible rfl
    rotate_left
    · simp only [Act.put, List.setIfInBounds_toArray, List.set_cons_zero, List.set_cons_succ, i64_w, i32_w]
      rfl
    refine join_ (σ := Nat) 2 #[Yy,Yy,Yy,Yy,Yy,Yy,Yy,Yy,Yy,Zz,Zz] (fun s_ => [(15, .int .i64 t335), (17, .tuple #[.int .i64 t336, .agg #[.int .i64 t337, .int .i64 t338, .int .i64 t339]]), (7, .pointer (some ⟨s_, 0, none⟩)), (12, .tuple #[.int .i64 t336, .agg #[.int .i64 t337, .int .i64 t338, .int .i64 t339]]), (18, .int .i64 t336), (19, .agg #[.int .i64 t337, .int .i64 t338, .int .i64 t339])]) (fun s_ w' => (w'.cell? ⟨gb333, 0, none⟩ = some (.int .i64 a0_0) ∧ w'.cell? ⟨gb333, 1, none⟩ = some (.int .i64 a0_1) ∧ w'.cell? ⟨gb333, 2, none⟩ = some (.slice A0_2 l0_2.length c0_2)) ∧ (w'.heap[gb333]? = some (.cells #[.int .i64 a0_0, .int .i64 a0_1, .slice A0_2 l0_2.length c0_2] 30 (0, 0))) ∧ (w'.heap[s_]? = some (.cells #[.int .i64 0, .int .i64 0, .int .i64 0] 54 (0, 0))) ∧ (w.heap.size ≤ s_) ∧ (w.heap.size ≤ s_) ∧ (gb333 ≠ s_) ∧ (s_ ≠ gb333) ∧ (Below w.heap.size w w')) ?_ ?_
    rotate_left
    · intro hCont
      refine two_ (i := 2) (j := 8) (Ni := some 15) (Nj := some 7) #[Yy,Yy,Yy,Yy,Zz,Zz,Zz,Zz,Zz,Zz,Zz] #[Yy,Yy,Zz,Yy,Zz,Zz,Zz,Zz,Yy,Zz,Zz] rfl rfl rfl rfl (two_of HT_.1 (by kernel_rfl)) (by decide) (by decide) (fun K hK => ?_) (fun K hK => ?_)
      · skip
        refine goes_ Try.func44 (by kernel_rfl) rfl #[.agg #[.int .i64 a0_0, .int .i64 a0_1, .slice A0_2 l0_2.length c0_2]] (by rfl) rfl rfl (by (try simp only [List.map_toArray, List.map_cons, List.map_nil]); first | done | rfl | (simp only [List.length_drop, List.length_take]; rfl)) ?_
        with_reducible refine (spec_saNumber.calls k a0_0 a0_1 _ _ l0_2 t335 _ ?side1 ?side2 A5.1).mono ?_
        (case side1 => exact CB (Kd.C_below HR0_2.1 HB.1))
        (case side2 => exact HC0_2.1)
        rintro e w11 ⟨rfl, hb⟩
        refine ⟨_, rfl, ?_⟩
        refine E2 (bB BK333.1 hb) (below_step (BL HB.1) hb) ?_
        clear BK333 HB
        intro BK333 HB
        (try clear hb)
        (try clear hb2)
        (try clear hk)
        (try clear hi)
        refine hK.out _ _ ⟨(blk_cell BK333.1 0).trans rfl, (blk_cell BK333.1 1).trans rfl, (blk_cell BK333.1 2).trans rfl⟩ (fun hHeld => ?_)
        clear hK K
        refine norm_ (a' := ?_) ?_ ?_
        rotate_left
        · show Act.put _ (some 15) _ = _
          simp only [Act.put, List.setIfInBounds_toArray, List.set_cons_zero, List.set_cons_succ, i64_w, i32_w]
          rfl
        refine two_ (i := 4) (j := 8) (Ni := some 17) (Nj := some 7) #[Yy,Yy,Yy,Yy,Yy,Zz,Zz,Zz,Zz,Zz,Zz] #[Yy,Yy,Yy,Yy,Zz,Zz,Zz,Zz,Yy,Zz,Zz] rfl rfl rfl rfl (two_of HT_.1 (by kernel_rfl)) (by decide) (by decide) (fun K hK => ?_) (fun K hK => ?_)
        · skip
          refine goes_ Try.func43 (by kernel_rfl) rfl #[.agg #[.int .i64 a0_0, .int .i64 a0_1, .slice A0_2 l0_2.length c0_2], .int .i64 t335, .int .i64 a1] (by rfl) rfl rfl (by (try simp only [List.map_toArray, List.map_cons, List.map_nil]); first | done | rfl | (simp only [List.length_drop, List.length_take]; rfl)) ?_
          with_reducible refine (spec_reNext.calls k a0_0 a0_1 _ _ l0_2 t335 a1 t336 t337 t338 t339 _ ?side1 ?side2 A6.1).mono ?_
          (case side1 => exact CB (Kd.C_below HR0_2.1 HB.1))
          (case side2 => exact HC0_2.1)
          rintro e w12 ⟨rfl, hb⟩
          refine ⟨_, rfl, ?_⟩
          refine E2 (bB BK333.1 hb) (below_step (BL HB.1) hb) ?_
          clear BK333 HB
          intro BK333 HB
          (try clear hb)
          (try clear hb2)
          (try clear hk)
          (try clear hi)
          refine hK.out _ _ ⟨(blk_cell BK333.1 0).trans rfl, (blk_cell BK333.1 1).trans rfl, (blk_cell BK333.1 2).trans rfl⟩ (fun hHeld => ?_)
          clear hK K
          refine norm_ (a' := ?_) ?_ ?_
          rotate_left
          · show Act.put _ (some 17) _ = _
            simp only [Act.put, List.setIfInBounds_toArray, List.set_cons_zero, List.set_cons_succ, i64_w, i32_w]
            rfl
          refine pureE (i := 5) (N := some 12) #[Yy,Yy,Yy,Yy,Yy,Yy,Zz,Zz,Zz,Zz,Zz] HT_.1 ?_
          refine pureE (i := 6) (N := some 18) #[Yy,Yy,Yy,Yy,Yy,Yy,Yy,Zz,Zz,Zz,Zz] HT_.1 ?_
          refine pureE (i := 7) (N := some 19) #[Yy,Yy,Yy,Yy,Yy,Yy,Yy,Yy,Zz,Zz,Zz] HT_.1 ?_
          refine one_ (i := 8) (N := some 7) #[Yy,Yy,Yy,Yy,Yy,Yy,Yy,Yy,Yy,Zz,Zz] rfl rfl (one_of HT_.1 (by kernel_rfl)) (by decide) (fun K hK => ?_)
          refine box_step ?hg (N := 7) ?hd (cs := #[.int .i64 0, .int .i64 0, .int .i64 0]) (t := 54) ?hr ?_; (case hd => rfl); (case hg => rfl); (case hr => first | (go_simp; done) | (go_simp; rfl))
          intro gb340 hg w13 hbox hb
          refine E7 (bB BK333.1 hb) (below_step (BL HB.1) hb) (hbox) (gX HB.1 hg) (gX HB.1 hg) (nB BK333.1 hg) (nC BK333.1 hg) ?_
          clear BK333 HB
          intro BK333 HB BK340 GW340 GE340 NB333_340 NB340_333
          clear hb hbox hg
          refine hK.out _ _ ⟨(blk_cell BK333.1 0).trans rfl, (blk_cell BK333.1 1).trans rfl, (blk_cell BK333.1 2).trans rfl⟩ (fun hHeld => ?_)
          clear hK K
          refine norm_ (a' := ?_) ?_ ?_
          rotate_left
          · show Act.put _ (some 7) _ = _
            simp only [Act.put, List.setIfInBounds_toArray, List.set_cons_zero, List.set_cons_succ, i64_w, i32_w]
            rfl
          exact norm_ (by simp only [putAll, Act.put, List.setIfInBounds_toArray, List.set_cons_zero, List.set_cons_succ]) (hCont (gb340) _ ⟨hHeld, (PB BK333.1), (PB BK340.1), GW340.1, GE340.1, NB333_340.1, NB340_333.1, (BL HB.1)⟩)
        skip
        refine box_step ?hg (N := 7) ?hd (cs := #[.int .i64 0, .int .i64 0, .int .i64 0]) (t := 54) ?hr ?_; (case hd => rfl); (case hg => rfl); (case hr => first | (go_simp; done) | (go_simp; rfl))
        intro gb340 hg w12 hbox hb
        refine E7 (bB BK333.1 hb) (below_step (BL HB.1) hb) (hbox) (gX HB.1 hg) (gX HB.1 hg) (nB BK333.1 hg) (nC BK333.1 hg) ?_
        clear BK333 HB
        intro BK333 HB BK340 GW340 GE340 NB333_340 NB340_333
        clear hb hbox hg
        refine hK.out _ _ ⟨(blk_cell BK333.1 0).trans rfl, (blk_cell BK333.1 1).trans rfl, (blk_cell BK333.1 2).trans rfl⟩ (fun hHeld => ?_)
        clear hK K
        refine norm_ (a' := ?_) ?_ ?_
        rotate_left
        · show Act.put _ (some 7) _ = _
          simp only [Act.put, List.setIfInBounds_toArray, List.set_cons_zero, List.set_cons_succ, i64_w, i32_w]
          rfl
        refine one_ (i := 4) (N := some 17) #[Yy,Yy,Yy,Yy,Yy,Zz,Zz,Zz,Yy,Zz,Zz] rfl rfl (one_of HT_.1 (by kernel_rfl)) (by decide) (fun K hK => ?_)
        refine goes_ Try.func43 (by kernel_rfl) rfl #[.agg #[.int .i64 a0_0, .int .i64 a0_1, .slice A0_2 l0_2.length c0_2], .int .i64 t335, .int .i64 a1] (by rfl) rfl rfl (by (try simp only [List.map_toArray, List.map_cons, List.map_nil]); first | done | rfl | (simp only [List.length_drop, List.length_take]; rfl)) ?_
        with_reducible refine (spec_reNext.calls k a0_0 a0_1 _ _ l0_2 t335 a1 t336 t337 t338 t339 _ ?side1 ?side2 A6.1).mono ?_
        (case side1 => exact CB (Kd.C_below HR0_2.1 HB.1))
        (case side2 => exact HC0_2.1)
        rintro e w13 ⟨rfl, hb⟩
        refine ⟨_, rfl, ?_⟩
        refine E3 (bB BK333.1 hb) (bB BK340.1 hb) (below_step (BL HB.1) hb) ?_
        clear BK333 BK340 HB
        intro BK333 BK340 HB
        (try clear hb)
        (try clear hb2)
        (try clear hk)
        (try clear hi)
        refine hK.out _ _ ⟨(blk_cell BK333.1 0).trans rfl, (blk_cell BK333.1 1).trans rfl, (blk_cell BK333.1 2).trans rfl⟩ (fun hHeld => ?_)
        clear hK K
        refine norm_ (a' := ?_) ?_ ?_
        rotate_left
        · show Act.put _ (some 17) _ = _
          simp only [Act.put, List.setIfInBounds_toArray, List.set_cons_zero, List.set_cons_succ, i64_w, i32_w]
          rfl
        refine pureE (i := 5) (N := some 12) #[Yy,Yy,Yy,Yy,Yy,Yy,Zz,Zz,Yy,Zz,Zz] HT_.1 ?_
        refine pureE (i := 6) (N := some 18) #[Yy,Yy,Yy,Yy,Yy,Yy,Yy,Zz,Yy,Zz,Zz] HT_.1 ?_
        refine pureE (i := 7) (N := some 19) #[Yy,Yy,Yy,Yy,Yy,Yy,Yy,Yy,Yy,Zz,Zz] HT_.1 ?_
        exact norm_ (by simp only [putAll, Act.put, List.setIfInBounds_toArray, List.set_cons_zero, List.set_cons_succ]) (hCont (gb340) _ ⟨hHeld, (PB BK333.1), (PB BK340.1), GW340.1, GE340.1, NB333_340.1, NB340_333.1, (BL HB.1)⟩)
      skip
      refine box_step ?hg (N := 7) ?hd (cs := #[.int .i64 0, .int .i64 0, .int .i64 0]) (t := 54) ?hr ?_; (case hd => rfl); (case hg => rfl); (case hr => first | (go_simp; done) | (go_simp; rfl))
      intro gb340 hg w11 hbox hb
      refine E7 (bB BK333.1 hb) (below_step (BL HB.1) hb) (hbox) (gX HB.1 hg) (gX HB.1 hg) (nB BK333.1 hg) (nC BK333.1 hg) ?_
      clear BK333 HB
      intro BK333 HB BK340 GW340 GE340 NB333_340 NB340_333
      clear hb hbox hg
      refine hK.out _ _ ⟨(blk_cell BK333.1 0).trans rfl, (blk_cell BK333.1 1).trans rfl, (blk_cell BK333.1 2).trans rfl⟩ (fun hHeld => ?_)
      clear hK K
      refine norm_ (a' := ?_) ?_ ?_
      rotate_left
      · show Act.put _ (some 7) _ = _
        simp only [Act.put, List.setIfInBounds_toArray, List.set_cons_zero, List.set_cons_succ, i64_w, i32_w]
        rfl
      refine one_ (i := 2) (N := some 15) #[Yy,Yy,Yy,Yy,Zz,Zz,Zz,Zz,Yy,Zz,Zz] rfl rfl (one_of HT_.1 (by kernel_rfl)) (by decide) (fun K hK => ?_)
      refine goes_ Try.func44 (by kernel_rfl) rfl #[.agg #[.int .i64 a0_0, .int .i64 a0_1, .slice A0_2 l0_2.length c0_2]] (by rfl) rfl rfl (by (try simp only [List.map_toArray, List.map_cons, List.map_nil]); first | done | rfl | (simp only [List.length_drop, List.length_take]; rfl)) ?_
      with_reducible refine (spec_saNumber.calls k a0_0 a0_1 _ _ l0_2 t335 _ ?side1 ?side2 A5.1).mono ?_
      (case side1 => exact CB (Kd.C_below HR0_2.1 HB.1))
      (case side2 => exact HC0_2.1)
      rintro e w12 ⟨rfl, hb⟩
      refine ⟨_, rfl, ?_⟩
      refine E3 (bB BK333.1 hb) (bB BK340.1 hb) (below_step (BL HB.1) hb) ?_
      clear BK333 BK340 HB
      intro BK333 BK340 HB
      (try clear hb)
      (try clear hb2)
      (try clear hk)
      (try clear hi)
      refine hK.out _ _ ⟨(blk_cell BK333.1 0).trans rfl, (blk_cell BK333.1 1).trans rfl, (blk_cell BK333.1 2).trans rfl⟩ (fun hHeld => ?_)
      clear hK K
      refine norm_ (a' := ?_) ?_ ?_
      rotate_left
      · show Act.put _ (some 15) _ = _
        simp only [Act.put, List.setIfInBounds_toArray, List.set_cons_zero, List.set_cons_succ, i64_w, i32_w]
        rfl
      refine one_ (i := 4) (N := some 17) #[Yy,Yy,Yy,Yy,Yy,Zz,Zz,Zz,Yy,Zz,Zz] rfl rfl (one_of HT_.1 (by kernel_rfl)) (by decide) (fun K hK => ?_)
      refine goes_ Try.func43 (by kernel_rfl) rfl #[.agg #[.int .i64 a0_0, .int .i64 a0_1, .slice A0_2 l0_2.length c0_2], .int .i64 t335, .int .i64 a1] (by rfl) rfl rfl (by (try simp only [List.map_toArray, List.map_cons, List.map_nil]); first | done | rfl | (simp only [List.length_drop, List.length_take]; rfl)) ?_
      with_reducible refine (spec_reNext.calls k a0_0 a0_1 _ _ l0_2 t335 a1 t336 t337 t338 t339 _ ?side1 ?side2 A6.1).mono ?_
      (case side1 => exact CB (Kd.C_below HR0_2.1 HB.1))
      (case side2 => exact HC0_2.1)
      rintro e w13 ⟨rfl, hb⟩
      refine ⟨_, rfl, ?_⟩
      refine E3 (bB BK333.1 hb) (bB BK340.1 hb) (below_step (BL HB.1) hb) ?_
      clear BK333 BK340 HB
      intro BK333 BK340 HB
      (try clear hb)
      (try clear hb2)
      (try clear hk)
      (try clear hi)
      refine hK.out _ _ ⟨(blk_cell BK333.1 0).trans rfl, (blk_cell BK333.1 1).trans rfl, (blk_cell BK333.1 2).trans rfl⟩ (fun hHeld => ?_)
      clear hK K
      refine norm_ (a' := ?_) ?_ ?_
      rotate_left
      · show Act.put _ (some 17) _ = _
        simp only [Act.put, List.setIfInBounds_toArray, List.set_cons_zero, List.set_cons_succ, i64_w, i32_w]
        rfl
      refine pureE (i := 5) (N := some 12) #[Yy,Yy,Yy,Yy,Yy,Yy,Zz,Zz,Yy,Zz,Zz] HT_.1 ?_
      refine pureE (i := 6) (N := some 18) #[Yy,Yy,Yy,Yy,Yy,Yy,Yy,Zz,Yy,Zz,Zz] HT_.1 ?_
      refine pureE (i := 7) (N := some 19) #[Yy,Yy,Yy,Yy,Yy,Yy,Yy,Yy,Yy,Zz,Zz] HT_.1 ?_
      exact norm_ (by simp only [putAll, Act.put, List.setIfInBounds_toArray, List.set_cons_zero, List.set_cons_succ]) (hCont (gb340) _ ⟨hHeld, (PB BK333.1), (PB BK340.1), GW340.1, GE340.1, NB333_340.1, NB340_333.1, (BL HB.1)⟩)
    rintro gb340 w14 ⟨hS_, h0_, h1_, h2_, h3_, h4_, h5_, h6_⟩
    have n0_ : Aside0 (w14.heap[gb333]? = some (.cells #[.int .i64 a0_0, .int .i64 a0_1, .slice A0_2 l0_2.length c0_2] 30 (0, 0))) := ⟨h0_⟩
    have n1_ : Aside0 (w14.heap[gb340]? = some (.cells #[.int .i64 0, .int .i64 0, .int .i64 0] 54 (0, 0))) := ⟨h1_⟩
    have n2_ : Aside0 (w.heap.size ≤ gb340) := ⟨h2_⟩
    have n3_ : Aside0 (w.heap.size ≤ gb340) := ⟨h3_⟩
    have n4_ : Aside0 (gb333 ≠ gb340) := ⟨h4_⟩
    have n5_ : Aside0 (gb340 ≠ gb333) := ⟨h5_⟩
    have n6_ : Aside0 (Below w.heap.size w w14) := ⟨h6_⟩
    clear BK333
    clear HB
    clear h0_ h1_ h2_ h3_ h4_ h5_ h6_
    have BK333 := n0_
    have BK340 := n1_
    have GW340 := n2_
    have GE340 := n3_
    have NB333_340 := n4_
    have NB340_333 := n5_
    have HB := n6_
    clear n0_ n1_ n2_ n3_ n4_ n5_ n6_
    have hHeld : w14.cell? ⟨gb333, 0, none⟩ = some (.int .i64 a0_0) ∧ w14.cell? ⟨gb333, 1, none⟩ = some (.int .i64 a0_1) ∧ w14.cell? ⟨gb333, 2, none⟩ = some (.slice A0_2 l0_2.length c0_2) := hS_
    refine norm_ (a' := ?_) ?_ ?_
    rotate_left
    · simp only [putAll, Act.put, List.setIfInBounds_toArray, List.set_cons_zero, List.set_cons_succ]
      rfl
    refine pureE (i := 9) (N := some 6) #[Yy,Yy,Yy,Yy,Yy,Yy,Yy,Yy,Yy,Yy,Zz] HT_.1 ?_
    refine one_ (i := 10) (N := none) #[Yy,Yy,Yy,Yy,Yy,Yy,Yy,Yy,Yy,Yy,Yy] rfl rfl (one_of HT_.1 (by kernel_rfl)) (by decide) (fun K hK => ?_)
    have hs15 : w14.cell? ⟨gb340, 0, none⟩ = some (.int .i64 0) := (blk_cell BK340.1 0).trans rfl
    have hfs15 := blk_frozen BK340.1 0
    have hns15_0 := NB333_340.1
    have hms15_0 := NB340_333.1
    have hs16 : w14.cell? ⟨gb340, 1, none⟩ = some (.int .i64 0) := (blk_cell BK340.1 1).trans rfl
    have hfs16 := blk_frozen BK340.1 1
    have hs17 : w14.cell? ⟨gb340, 2, none⟩ = some (.int .i64 0) := (blk_cell BK340.1 2).trans rfl
    have hfs17 := blk_frozen BK340.1 2
    refine skip_ (w1 := ?_) (by rfl) rfl ?_ ?_
    rotate_left
    · go_simp
      rfl
    refine hK.out _ _ ⟨(CF3 NB333_340.1 hHeld.1), (CF3 NB333_340.1 hHeld.2.1), (CF3 NB333_340.1 hHeld.2.2)⟩ (fun hHeld => ?_)
    clear hK K
    refine done_ (done_of HT_.1 (by kernel_rfl)) ?_
    try go_wp2
    go_ret2
    exact ⟨RF, BL HB.1⟩
  simp only [Option.some.injEq, Prod.mk.injEq] at H
  obtain ⟨rfl, rfl⟩ := H
  go_enter Try.func14, Try.ntmps14
  go_wp2_with (first | ((with_reducible refine gate_dst (N := 2) rfl ?_); refine boxE (cs := #[.int .i64 a0_0, .int .i64 a0_1, .slice A0_2 l0_2.length c0_2]) (t := 30) ?_; intro gb333 hg w18 hbox hb; refine E4b HB.1 hg hbox hb ?_; clear HB; intro HB BK333 GW333 GE333; clear hb hbox hg; obtain ⟨hcz19_0, hcz19_1, hcz19_2, hfz19_0, hfz19_1, hfz19_2⟩ := cz3 BK333.1) | ((with_reducible refine gate_callee (f := 42) rfl ?_); refine goesM (N := (some 10)) #[.agg #[.int .i64 a0_0, .int .i64 a0_1, .slice A0_2 l0_2.length c0_2], .int .i64 a1] Try.func42 ?_; (with_reducible refine (spec_reHas.calls k a0_0 a0_1 _ _ l0_2 a1 false _ ?side1 ?side2 A3.1).mono ?_); (case side1 => exact CB (Kd.C_below HR0_2.1 HB.1)); (case side2 => exact HC0_2.1); rintro e w20 ⟨rfl, hb⟩; refine ⟨_, rfl, ?_⟩; refine E2 (bB BK333.1 hb) (below_step (BL HB.1) hb) ?_; clear BK333 HB; intro BK333 HB; (try clear hb)))
  go_ret2
  exact ⟨RF, BL HB.1⟩

/-! ### impl_NextNumber: function 16 -/
def impl_NextNumber.j0 : Nat → Int → Bool → Int → Int → List (S83) → Option (Int × Bool)
  | 0, _, _, _, _, _ => none
  | k + 1, x1, x14, x546000, x546001, x546002 => if x14 = true then (some (0, false)) else ((impl_numbersAfter.f k x546000 x546001 x546002 (([x1] : List Int))).bind fun t551 => (if 0 < (t551.length : Int) then ((impl_bitsOf.f k x546000 x546001 x546002).bind fun t555 => ((impl_numberOf.f k t555).bind fun t558 => (if 0 ≤ t558 then (if t558 < ((rd_L3 t551 0).length : Int) then (some (rd (rd_L3 t551 0) t558, true)) else (none)) else (none)))) else (none)))
def impl_NextNumber.f (k : Nat) (a0_0 : Int) (a0_1 : Int) (l0_2 : List (S83)) (a1 : Int) : Option (Int × Bool) := (impl_fewUnits.f k a0_0 a0_1 l0_2).bind fun t546 => (if t546 = true then ((impl_validEntry.f k a0_0 a0_1 l0_2 a1).bind fun t547 => (impl_NextNumber.j0 k a1 (!t547) a0_0 a0_1 l0_2)) else (impl_NextNumber.j0 k a1 true a0_0 a0_1 l0_2))
theorem impl_NextNumber.mono_l : ∀ k, (∀ y0 y1 y2 y3 y4, LeO (impl_NextNumber.j0 k y0 y1 y2 y3 y4) (impl_NextNumber.j0 (k + 1) y0 y1 y2 y3 y4))
  | 0 => fun _ _ _ _ _ r h => by simp [impl_NextNumber.j0] at h
  | k + 1 => by
    have ih0 := impl_NextNumber.mono_l k
    intros
    first | unfold impl_NextNumber.j0
    repeat' first | (with_reducible first | apply ih0 | apply impl_bitsOf.mono | apply impl_fewUnits.mono | apply impl_numberOf.mono | apply impl_numbersAfter.mono | apply impl_validEntry.mono | exact LeO.refl _ | exact LeO.none _ | refine LeO.ite ?_ ?_ | refine LeO.bind ?_ (fun _ => ?_)) | apply ih0 | apply impl_bitsOf.mono | apply impl_fewUnits.mono | apply impl_numberOf.mono | apply impl_numbersAfter.mono | apply impl_validEntry.mono | exact LeO.none _ | refine LeO.ite ?_ ?_ | refine LeO.bind ?_ (fun _ => ?_)
theorem impl_NextNumber.mono : ∀ a0 a1 a2 a3 k, LeO (impl_NextNumber.f k a0 a1 a2 a3) (impl_NextNumber.f (k + 1) a0 a1 a2 a3) := by
  intro a0 a1 a2 a3 k
  have ih0 := impl_NextNumber.mono_l k
  unfold impl_NextNumber.f
  repeat' first | (with_reducible first | apply ih0 | apply impl_bitsOf.mono | apply impl_fewUnits.mono | apply impl_numberOf.mono | apply impl_numbersAfter.mono | apply impl_validEntry.mono | exact LeO.refl _ | exact LeO.none _ | refine LeO.ite ?_ ?_ | refine LeO.bind ?_ (fun _ => ?_)) | apply ih0 | apply impl_bitsOf.mono | apply impl_fewUnits.mono | apply impl_numberOf.mono | apply impl_numbersAfter.mono | apply impl_validEntry.mono | exact LeO.none _ | refine LeO.ite ?_ ?_ | refine LeO.bind ?_ (fun _ => ?_)
def impl_NextNumber.T3 : Bool × List (List Nat × List Nat) := (true, [([], []), ([], []), ([1], [1]), ([0, 2], [0, 2]), ([3], [3]), ([4], [4]), ([], []), ([6, 3], [6]), ([7, 7], [7]), ([5, 8], [5, 8]), ([9], [9]), ([10, 8, 0, 1, 2, 3, 4, 5, 6, 7, 8, 9, 10], [10]), ([11, 0, 1, 2, 3, 4, 5, 6, 7, 8, 9, 10, 11], [])])
def impl_NextNumber.B3 : List Nat := [0, 0, 2, 7, 15, 31, 0, 79, 207, 511, 1023, 2047, 4095]
theorem impl_NextNumber.tab3 : rtab .any (opsOf Try.f16 3) = impl_NextNumber.T3 := by kernel_rfl
theorem impl_NextNumber.bits3 : waitsOk impl_NextNumber.T3.2 impl_NextNumber.B3 = true := by kernel_rfl
set_option maxHeartbeats 8000000 in
set_option maxRecDepth 100000 in
theorem impl_NextNumber.calls (k : Nat) (a0_0 : Int) (a0_1 : Int) (A0_2 : Option Addr) (c0_2 : Nat) (l0_2 : List (S83)) (a1 : Int) (r1 : Int) (r2 : Bool) (w : World) (hr0_2 : Kd.C k83 w A0_2 l0_2.length l0_2) (hc0_2 : l0_2.length ≤ c0_2) (h : impl_NextNumber.f k a0_0 a0_1 l0_2 a1 = some (r1, r2)) :
    Calls Try.prog 16 #[.agg #[.int .i64 a0_0, .int .i64 a0_1, .slice A0_2 l0_2.length c0_2], .int .i64 a1] w fun e w' => e = .returned (.tuple #[.int .i64 r1, .bool r2]) ∧ Below w.heap.size w w' := by
  have hu30 := Try.underlying30
  have HR0_2 := Aside0.mk hr0_2
  have HC0_2 := Aside0.mk hc0_2
  clear hr0_2 hc0_2
  have HB := Aside0.mk (Below.refl w.heap.size w)
  have H := h
  clear h
  unfold impl_NextNumber.f at H
  have HC3 := Aside0.mk H
  clear H
  go_enter Try.func16, Try.ntmps16
  go_upto_region 1 with (first | ((with_reducible refine gate_dst (N := 2) rfl ?_); refine boxE (cs := #[.int .i64 a0_0, .int .i64 a0_1, .slice A0_2 l0_2.length c0_2]) (t := 30) ?_; intro gb545 hg w4 hbox hb; refine E4b HB.1 hg hbox hb ?_; clear HB; intro HB BK545 GW545 GE545; clear hb hbox hg))
  (try simp only [Act.put, List.setIfInBounds_toArray, List.set_cons_zero, List.set_cons_succ])
  go_cut [14] (fun v14 wc => ∃ (kq : Nat) (x14_2 : Bool), v14 = .bool x14_2 ∧ Aside0 (impl_NextNumber.j0 kq a1 x14_2 a0_0 a0_1 l0_2 = some (r1, r2)) ∧ Aside0 (kq ≤ k) ∧ Aside0 (wc.heap[gb545]? = some (.cells #[.int .i64 a0_0, .int .i64 a0_1, (.slice A0_2 l0_2.length c0_2)] 30 (0, 0))) ∧ Aside0 (Below w.heap.size w wc))
  case first =>
    have H := HC3.1
    clear HC3
    replace H := bindA H; obtain ⟨t546, A5, H⟩ := H
    replace H := ifX H; rcases H with ⟨rfl, H⟩ | ⟨rfl, H⟩
    · replace H := bindA H; obtain ⟨t547, A7, H⟩ := H
      have H' := Aside0.mk H
      clear H
      obtain ⟨hcz8_0, hcz8_1, hcz8_2, hfz8_0, hfz8_1, hfz8_2⟩ := cz3 BK545.1
      go_wp2_with (first | ((with_reducible refine gate_callee (f := 46) rfl ?_); refine goesM (N := (some 7)) #[.agg #[.int .i64 a0_0, .int .i64 a0_1, .slice A0_2 l0_2.length c0_2]] Try.func46 ?_; (with_reducible refine (impl_fewUnits.calls k a0_0 a0_1 _ _ l0_2 true _ ?side1 ?side2 A5.1).mono ?_); (case side1 => exact CB (Kd.C_below HR0_2.1 HB.1)); (case side2 => exact HC0_2.1); rintro e w9 ⟨rfl, hb⟩; refine ⟨_, rfl, ?_⟩; refine E2 (bB BK545.1 hb) (below_step (BL HB.1) hb) ?_; clear BK545 HB; intro BK545 HB; (try clear hb); obtain ⟨hcz10_0, hcz10_1, hcz10_2, hfz10_0, hfz10_1, hfz10_2⟩ := cz3 BK545.1) | (go_at_call 47; (with_reducible refine (impl_validEntry.calls k a0_0 a0_1 _ _ l0_2 a1 t547 _ ?side1 ?side2 A7.1).mono ?_); (case side1 => exact CB (Kd.C_below HR0_2.1 HB.1)); (case side2 => exact HC0_2.1); rintro e w11 ⟨rfl, hb⟩; refine E2 (bB BK545.1 hb) (below_step (BL HB.1) hb) ?_; clear BK545 HB; intro BK545 HB; (try clear hb)))
      go_meet
      case rel => exact ⟨_, (!t547), RG, H', ⟨by first | omega | exact Nat.le_refl _⟩, ⟨PB BK545.1⟩, ⟨BL HB.1⟩⟩
    have H' := Aside0.mk H
    clear H
    obtain ⟨hcz12_0, hcz12_1, hcz12_2, hfz12_0, hfz12_1, hfz12_2⟩ := cz3 BK545.1
    go_wp2_with (first | ((with_reducible refine gate_callee (f := 46) rfl ?_); refine goesM (N := (some 7)) #[.agg #[.int .i64 a0_0, .int .i64 a0_1, .slice A0_2 l0_2.length c0_2]] Try.func46 ?_; (with_reducible refine (impl_fewUnits.calls k a0_0 a0_1 _ _ l0_2 false _ ?side1 ?side2 A5.1).mono ?_); (case side1 => exact CB (Kd.C_below HR0_2.1 HB.1)); (case side2 => exact HC0_2.1); rintro e w13 ⟨rfl, hb⟩; refine ⟨_, rfl, ?_⟩; refine E2 (bB BK545.1 hb) (below_step (BL HB.1) hb) ?_; clear BK545 HB; intro BK545 HB; (try clear hb)))
    go_meet
    case rel => exact ⟨_, (true), RG, H', ⟨by first | omega | exact Nat.le_refl _⟩, ⟨PB BK545.1⟩, ⟨BL HB.1⟩⟩
  clear HC3
  obtain ⟨kq, x14_2, rfl, HA, HJ2, BK545, HB⟩ := hcut
  cases kq with
  | zero => exact absurd HA.1 (by simp [impl_NextNumber.j0])
  | succ kj2 => ?_
  have H := HA.1
  clear HA
  simp only [impl_NextNumber.j0] at H
  replace H := ifX H; rcases H with ⟨rfl, H⟩ | ⟨rfl, H⟩
  · simp only [Option.some.injEq, Prod.mk.injEq] at H
    obtain ⟨rfl, rfl⟩ := H
    go_wp2
    go_ret2
    exact ⟨RF, BL HB.1⟩
  generalize hy548 : ((([a1] : List Int)) : List Int) = y548 at H
  have Ny548 := Aside0.mk hy548.symm; clear hy548
  replace H := bindA H; obtain ⟨t551, A15, H⟩ := H
  replace H := ifP H; obtain ⟨c16, H⟩ := H
  have c16b0 := decide_eq_true c16
  have c16b1 : decide (0 < t551.length) = true := decide_eq_true (by omega)
  clear c16
  replace H := bindA H; obtain ⟨t555, A17, H⟩ := H
  replace H := bindA H; obtain ⟨t558, A18, H⟩ := H
  replace H := ifN H; obtain ⟨c19b0, H⟩ := H
  replace H := ifN H; obtain ⟨c20b0, H⟩ := H
  simp only [Option.some.injEq, Prod.mk.injEq] at H
  obtain ⟨rfl, rfl⟩ := H
  try go_wp2
  refine E2 (blk_drew BK545.1) (below_drew1 HB.1) ?_
  clear BK545 HB
  intro BK545 HB
  refine start_ (n := 13) (S := fun w' => w'.cell? ⟨gb545, 0, none⟩ = some (.int .i64 a0_0) ∧ w'.cell? ⟨gb545, 1, none⟩ = some (.int .i64 a0_1) ∧ w'.cell? ⟨gb545, 2, none⟩ = some (.slice A0_2 l0_2.length c0_2)) (ds := []) #[Zz,Zz,Zz,Zz,Zz,Zz,Zz,Zz,Zz,Zz,Zz,Zz,Zz] (by kernel_rfl) rfl rfl ⟨(blk_cell BK545.1 0).trans rfl, (blk_cell BK545.1 1).trans rfl, (blk_cell BK545.1 2).trans rfl⟩ (fun hHeld => ?_); refine with_tabW impl_NextNumber.tab3 impl_NextNumber.bits3 (fun HT_ HW_ => ?_)
  generalize wc.drew = w21 at BK545 HB hHeld ⊢
  refine pureE (i := 1) (N := some 16) #[Zz,Yy,Zz,Zz,Zz,Zz,Zz,Zz,Zz,Zz,Zz,Zz,Zz] HT_.1 ?_
  refine take_ (i := 0) (N := some 15) (v := ?_) (a' := ?_) #[Yy,Yy,Zz,Zz,Zz,Zz,Zz,Zz,Zz,Zz,Zz,Zz,Zz] rfl rfl (take_ofW HT_.1 HW_.1 (by kernel_rfl)) (fun _ _ _ h => h) (Or.inl ⟨by rfl, ?_⟩) hHeld ?_ ?_
  rotate_left
  · rintro w' ⟨s0, s1, s2⟩
    go_simp
    with_reducible rfl
  rotate_left
  · simp only [Act.put, List.setIfInBounds_toArray, List.set_cons_zero, List.set_cons_succ, i64_w, i32_w]
    rfl
  refine take_ (i := 6) (N := some 21) (v := ?_) (a' := ?_) #[Yy,Yy,Zz,Zz,Zz,Zz,Yy,Zz,Zz,Zz,Zz,Zz,Zz] rfl rfl (take_ofW HT_.1 HW_.1 (by kernel_rfl)) (fun _ _ _ h => h) (Or.inl ⟨by rfl, ?_⟩) hHeld ?_ ?_
  rotate_left
  · rintro w' ⟨s0, s1, s2⟩
    go_simp
    with_reducible rfl
  rotate_left
  · simp only [Act.put, List.setIfInBounds_toArray, List.set_cons_zero, List.set_cons_succ, i64_w, i32_w]
    rfl
  refine one_ (i := 2) (N := some 17) #[Yy,Yy,Yy,Zz,Zz,Zz,Yy,Zz,Zz,Zz,Zz,Zz,Zz] rfl rfl (one_of HT_.1 (by kernel_rfl)) (by decide) (fun K hK => ?_)
  refine Kd.R_lit_step (Kd.int .i64) _ 3 ?hg (N := 17) ?hd (xs := ([a1] : List Int)) (inner := [.int .i64 a1]) (ok := fun _ => True) (okp := fun _ => True) ?hr ?hp (fun _ hk => hk) trivial (Below.refl _ _) (Nat.le_refl _) (by simp) ?_; (case hd => rfl); (case hg => rfl); (case hr => first | (go_simp; done) | (go_simp; rfl)); (case hp => exact (Reps.one (show Kd.M (Kd.int .i64) _ _ _ a1 [.int .i64 a1] from rfl) (Reps.none _ _)))
  intro v549 w22 ho23 hb hg_ hnew_
  clear hg_ hnew_
  (first | rw [← Ny548.1] at ho23 | (simp only [Int.reduceToNat] at ho23; rw [← Ny548.1] at ho23))
  refine E3 (Kd.R_lower ho23 (below_size (BL HB.1))) (bB BK545.1 hb) (below_step (BL HB.1) hb) ?_
  clear BK545 HB
  intro HO550 BK545 HB
  clear hb ho23
  obtain ⟨Ao24, co24, eo24⟩ := Kd.R_slice HO550.1
  (first | subst eo24 | (injection eo24 with f1_ f2_ f3_; have f4_ := f1_.symm; have f5_ := f3_.symm; clear f1_ f2_ f3_; subst f4_; subst f5_))
  refine hK.out _ _ ⟨(blk_cell BK545.1 0).trans rfl, (blk_cell BK545.1 1).trans rfl, (blk_cell BK545.1 2).trans rfl⟩ (fun hHeld => ?_)
  clear hK K
  refine norm_ (a' := ?_) ?_ ?_
  rotate_left
  · show Act.put _ (some 17) _ = _
    simp only [Act.put, List.setIfInBounds_toArray, List.set_cons_zero, List.set_cons_succ, i64_w, i32_w]
    rfl
  refine one_ (i := 3) (N := some 18) #[Yy,Yy,Yy,Yy,Zz,Zz,Yy,Zz,Zz,Zz,Zz,Zz,Zz] rfl rfl (one_of HT_.1 (by kernel_rfl)) (by decide) (fun K hK => ?_)
  refine goes_ Try.func48 (by kernel_rfl) rfl #[.agg #[.int .i64 a0_0, .int .i64 a0_1, .slice A0_2 l0_2.length c0_2], .slice Ao24 y548.length co24] (by rfl) rfl rfl (by (try simp only [List.map_toArray, List.map_cons, List.map_nil]); first | done | rfl | (simp only [List.length_drop, List.length_take]; rfl)) ?_
  with_reducible refine (impl_numbersAfter.calls kj2 a0_0 a0_1 _ _ l0_2 _ _ y548 t551 _ ?side1 ?side2 ?side3 ?side4 A15.1).mono ?_
  (case side1 => exact CB (Kd.C_below HR0_2.1 HB.1))
  (case side2 => exact HC0_2.1)
  (case side3 => exact CB (Kd.R_reads' HO550.1).2.2)
  (case side4 => exact (Kd.R_reads' HO550.1).2.1)
  rintro e w25 ⟨v552, rfl, ho0, hb⟩
  refine ⟨_, rfl, ?_⟩
  refine E4 (Kd.R_below (PR HO550.1) hb) (Kd.S_lower (Kd.S_new' ho0 (Kd.R_lt (PR HO550.1))) (below_size (BL HB.1))) (bB BK545.1 hb) (below_step (BL HB.1) hb) ?_
  clear HO550 BK545 HB
  intro HO550 HO553 BK545 HB
  (try clear hb)
  (try clear hb2)
  (try clear hk)
  (try clear hi)
  (try clear ho0)
  obtain ⟨Ao26, co26, eo26⟩ := Kd.S_slice HO553.1
  (first | subst eo26 | (injection eo26 with f1_ f2_ f3_; have f4_ := f1_.symm; have f5_ := f3_.symm; clear f1_ f2_ f3_; subst f4_; subst f5_))
  have p554 : 0 ≤ (0 : Int) := (by omega)
  have q554 : 0 < (t551.length : Int) := OD
  obtain ⟨ad554, A554_0, c554_0, e554, hx554_0, hl554_0, hi554_0⟩ := at_L3 (Kd.S_reads' HO553.1).2.2 0 p554 q554
  cases e554
  obtain ⟨ce554, hce554, hMe554, hcc554⟩ := Kd.S_get HO553.1 [] 0 p554 (by first | exact q554 | exact OD | (have e_ := (Kd.S_reads' HO553.1).1; omega))
  obtain ⟨ve554_0, rfl, ge554_0⟩ := hMe554
  have hv554_0 := hcc554 0 _ rfl
  rw [Nat.add_zero, show ((Kd.slice 3 (Kd.int .i64))).sz = 1 from rfl, Nat.mul_one] at hv554_0
  replace hv554_0 := Option.some.inj (hv554_0.symm.trans hx554_0)
  rw [hv554_0] at ge554_0
  have HL554_0 := Aside0.mk (show Kd.R (Kd.int .i64) 3 _ _ _ _ (rd_L3 t551 0) from ge554_0)
  clear hv554_0 ge554_0
  clear hcc554 hce554
  have qi554 : (0 < t551.length) = True := eq_true (by omega)
  (try rw [show ((0 : Int)).toNat = 0 from rfl] at hx554_0)
  (try rw [Addr.add_zero'] at hx554_0)
  have HR554_0 := Aside0.mk hi554_0
  have HC554_0 := Aside0.mk hl554_0
  clear hi554_0 hl554_0
  replace p554 := eq_true p554
  replace q554 := eq_true q554
  refine hK.out _ _ ⟨(blk_cell BK545.1 0).trans rfl, (blk_cell BK545.1 1).trans rfl, (blk_cell BK545.1 2).trans rfl⟩ (fun hHeld => ?_)
  clear hK K
  refine norm_ (a' := ?_) ?_ ?_
  rotate_left
  · show Act.put _ (some 18) _ = _
    simp only [Act.put, List.setIfInBounds_toArray, List.set_cons_zero, List.set_cons_succ, i64_w, i32_w]
    rfl
  have p559 : 0 ≤ (t558 : Int) := OD
  have q559 : t558 < ((rd_L3 t551 0).length : Int) := OD
  obtain ⟨ad559, e559, hx559_0⟩ := Kd.at_int (by repeat (first | (with_reducible exact HR554_0.1) | (with_reducible refine Kd.C_alloc ?_ _) | (with_reducible refine Kd.C_drewN ?_ _) | (with_reducible refine Kd.C_drew ?_) | exact HR554_0.1)) t558 p559 q559
  cases e559
  replace p559 := eq_true p559
  replace q559 := eq_true q559
  refine more_ (S2 := fun w' => w'.cell? ⟨gb545, 0, none⟩ = some (.int .i64 a0_0) ∧ w'.cell? ⟨gb545, 1, none⟩ = some (.int .i64 a0_1) ∧ w'.cell? ⟨gb545, 2, none⟩ = some (.slice A0_2 l0_2.length c0_2) ∧ w'.cell? ad554 = some (.slice (some ad559) (rd_L3 t551 0).length c554_0) ∧ w'.cell? (ad559.add (t558).toNat) = some (.int .i64 (rd (rd_L3 t551 0) t558))) ⟨hHeld.1, hHeld.2.1, hHeld.2.2, hx554_0, hx559_0⟩ (fun _ h_ => ⟨h_.1, h_.2.1, h_.2.2.1⟩) (fun hHeld => ?_)
  refine pureE (i := 4) (N := some 19) #[Yy,Yy,Yy,Yy,Yy,Zz,Yy,Zz,Zz,Zz,Zz,Zz,Zz] HT_.1 ?_
  refine take_ (i := 5) (N := some 20) (v := ?_) (a' := ?_) #[Yy,Yy,Yy,Yy,Yy,Yy,Yy,Zz,Zz,Zz,Zz,Zz,Zz] rfl rfl (take_ofW HT_.1 HW_.1 (by kernel_rfl)) (fun _ _ _ h => h) (Or.inl ⟨by rfl, ?_⟩) hHeld ?_ ?_
  rotate_left
  · rintro w' ⟨s0, s1, s2, s3, s4⟩
    go_simp
    with_reducible rfl
  rotate_left
  · simp only [Act.put, List.setIfInBounds_toArray, List.set_cons_zero, List.set_cons_succ, i64_w, i32_w]
    rfl
  refine one_ (i := 7) (N := some 22) #[Yy,Yy,Yy,Yy,Yy,Yy,Yy,Yy,Zz,Zz,Zz,Zz,Zz] rfl rfl (one_of HT_.1 (by kernel_rfl)) (by decide) (fun K hK => ?_)
  refine goes_ Try.func50 (by kernel_rfl) rfl #[.agg #[.int .i64 a0_0, .int .i64 a0_1, .slice A0_2 l0_2.length c0_2]] (by rfl) rfl rfl (by (try simp only [List.map_toArray, List.map_cons, List.map_nil]); first | done | rfl | (simp only [List.length_drop, List.length_take]; rfl)) ?_
  with_reducible refine (impl_bitsOf.calls kj2 a0_0 a0_1 _ _ l0_2 t555 _ ?side1 ?side2 A17.1).mono ?_
  (case side1 => exact CB (Kd.C_below HR0_2.1 HB.1))
  (case side2 => exact HC0_2.1)
  rintro e w27 ⟨v556, rfl, ho0, hb⟩
  have HS3_ := (hb.cell (World.block_lt_of_cell? _ _ (hHeld.2.2.2.1))).trans (hHeld.2.2.2.1)
  have HS4_ := (hb.cell (World.block_lt_of_cell? _ _ (hHeld.2.2.2.2))).trans (hHeld.2.2.2.2)
  refine ⟨_, rfl, ?_⟩
  refine E7 (Kd.R_elder' (PR HO550.1) (Kd.R_base ho0) hb) (Kd.S_elder' (PS HO553.1) (Kd.R_base ho0) hb) (Kd.R_elder' (PR HL554_0.1) (Kd.R_base ho0) hb) (Kd.R_lower (Kd.R_new' (Kd.R_new' ho0 (Kd.R_lt (PR HO550.1))) (Kd.R_lt (PR HL554_0.1))) (below_size (BL HB.1))) (bB BK545.1 hb) (Kd.C_below (by repeat (first | (with_reducible exact HR554_0.1) | (with_reducible refine Kd.C_alloc ?_ _) | (with_reducible refine Kd.C_drewN ?_ _) | (with_reducible refine Kd.C_drew ?_) | exact HR554_0.1)) hb) (below_step (BL HB.1) hb) ?_
  clear HO550 HO553 HL554_0 BK545 HR554_0 HB
  intro HO550 HO553 HL554_0 HO557 BK545 HR554_0 HB
  (try clear hb)
  (try clear hb2)
  (try clear hk)
  (try clear hi)
  (try clear ho0)
  obtain ⟨Ao28, co28, eo28⟩ := Kd.R_slice HO557.1
  (first | subst eo28 | (injection eo28 with f1_ f2_ f3_; have f4_ := f1_.symm; have f5_ := f3_.symm; clear f1_ f2_ f3_; subst f4_; subst f5_))
  refine hK.out _ _ ⟨(blk_cell BK545.1 0).trans rfl, (blk_cell BK545.1 1).trans rfl, (blk_cell BK545.1 2).trans rfl, HS3_, HS4_⟩ (fun hHeld => ?_)
  clear hK K
  refine norm_ (a' := ?_) ?_ ?_
  rotate_left
  · show Act.put _ (some 22) _ = _
    simp only [Act.put, List.setIfInBounds_toArray, List.set_cons_zero, List.set_cons_succ, i64_w, i32_w]
    rfl
  refine one_ (i := 8) (N := some 23) #[Yy,Yy,Yy,Yy,Yy,Yy,Yy,Yy,Yy,Zz,Zz,Zz,Zz] rfl rfl (one_of HT_.1 (by kernel_rfl)) (by decide) (fun K hK => ?_)
  refine goes_ Try.func49 (by kernel_rfl) rfl #[.slice Ao28 t555.length co28] (by rfl) rfl rfl (by (try simp only [List.map_toArray, List.map_cons, List.map_nil]); first | done | rfl | (simp only [List.length_drop, List.length_take]; rfl)) ?_
  with_reducible refine (impl_numberOf.calls kj2 _ _ t555 t558 _ ?side1 ?side2 A18.1).mono ?_
  (case side1 => exact CB (Kd.R_reads' HO557.1).2.2)
  (case side2 => exact (Kd.R_reads' HO557.1).2.1)
  rintro e w' ⟨rfl, ⟨nd, rfl⟩⟩
  refine ⟨_, rfl, ?_⟩
  refine hK.out _ _ ⟨(blk_cell BK545.1 0).trans rfl, (blk_cell BK545.1 1).trans rfl, (blk_cell BK545.1 2).trans rfl, hHeld.2.2.2.1, hHeld.2.2.2.2⟩ (fun hHeld => ?_)
  clear hK K
  refine norm_ (a' := ?_) ?_ ?_
  rotate_left
  · show Act.put _ (some 23) _ = _
    simp only [Act.put, List.setIfInBounds_toArray, List.set_cons_zero, List.set_cons_succ, i64_w, i32_w]
    rfl
  refine pureE (i := 9) (N := some 24) #[Yy,Yy,Yy,Yy,Yy,Yy,Yy,Yy,Yy,Yy,Zz,Zz,Zz] HT_.1 ?_
  refine take_ (i := 10) (N := some 25) (v := ?_) (a' := ?_) #[Yy,Yy,Yy,Yy,Yy,Yy,Yy,Yy,Yy,Yy,Yy,Zz,Zz] rfl rfl (take_ofW HT_.1 HW_.1 (by kernel_rfl)) (fun _ _ _ h => h) (Or.inl ⟨by rfl, ?_⟩) hHeld ?_ ?_
  rotate_left
  · rintro w' ⟨s0, s1, s2, s3, s4⟩
    go_simp
    with_reducible rfl
  rotate_left
  · simp only [Act.put, List.setIfInBounds_toArray, List.set_cons_zero, List.set_cons_succ, i64_w, i32_w]
    rfl
  refine pureE (i := 11) (N := some 4) #[Yy,Yy,Yy,Yy,Yy,Yy,Yy,Yy,Yy,Yy,Yy,Yy,Zz] HT_.1 ?_
  refine pureE (i := 12) (N := some 5) #[Yy,Yy,Yy,Yy,Yy,Yy,Yy,Yy,Yy,Yy,Yy,Yy,Yy] HT_.1 ?_
  refine done_ (done_of HT_.1 (by kernel_rfl)) ?_
  try go_wp2
  go_ret2
  exact ⟨RF, BL HB.1⟩
/-! ### laws_FnExactNextNumber: function 3 -/
def laws_FnExactNextNumber.j0 : Nat → Bool → Int → Int → List (S85) → Int → Int → List (S83) → Option (Bool)
  | 0, _, _, _, _, _, _, _ => none
  | k + 1, x38, x569000, x569001, x569002, x583000, x583001, x583002 => if x38 = true then (some false) else ((laws_toBoard.f k x569000 x569001 x569002).bind fun bt585 => ((laws_eqBoard.f k x583000 x583001 x583002 bt585.1 bt585.2.1 bt585.2.2).bind fun t590 => (if t590 = true then (some true) else (some false))))
def laws_FnExactNextNumber.f (k : Nat) (a0_0 : Int) (a0_1 : Int) (l0_2 : List (S85)) (a1 : Int) : Option (Bool) := (laws_szBoard.f a0_0 a0_1 l0_2 1048576).bind fun t569 => (if t569 < 0 then (some true) else ((laws_toBoard.f k a0_0 a0_1 l0_2).bind fun bt570 => ((spec_NextNumber.f k bt570.1 bt570.2.1 bt570.2.2 a1).bind fun bt575 => ((laws_toBoard.f k a0_0 a0_1 l0_2).bind fun bt577 => ((impl_NextNumber.f k bt577.1 bt577.2.1 bt577.2.2 a1).bind fun bt583 => (if bt583.1 = bt575.1 then (laws_FnExactNextNumber.j0 k (bt583.2 != bt575.2) a0_0 a0_1 l0_2 bt577.1 bt577.2.1 bt577.2.2) else (laws_FnExactNextNumber.j0 k true a0_0 a0_1 l0_2 bt577.1 bt577.2.1 bt577.2.2)))))))
theorem laws_FnExactNextNumber.mono_l : ∀ k, (∀ y0 y1 y2 y3 y4 y5 y6, LeO (laws_FnExactNextNumber.j0 k y0 y1 y2 y3 y4 y5 y6) (laws_FnExactNextNumber.j0 (k + 1) y0 y1 y2 y3 y4 y5 y6))
  | 0 => fun _ _ _ _ _ _ _ r h => by simp [laws_FnExactNextNumber.j0] at h
  | k + 1 => by
    have ih0 := laws_FnExactNextNumber.mono_l k
    intros
    first | unfold laws_FnExactNextNumber.j0
    repeat' first | (with_reducible first | apply ih0 | apply impl_NextNumber.mono | apply laws_eqBoard.mono | apply laws_toBoard.mono | apply spec_NextNumber.mono | exact LeO.refl _ | exact LeO.none _ | refine LeO.ite ?_ ?_ | refine LeO.bind ?_ (fun _ => ?_)) | apply ih0 | apply impl_NextNumber.mono | apply laws_eqBoard.mono | apply laws_toBoard.mono | apply spec_NextNumber.mono | exact LeO.none _ | refine LeO.ite ?_ ?_ | refine LeO.bind ?_ (fun _ => ?_)
theorem laws_FnExactNextNumber.mono : ∀ a0 a1 a2 a3 k, LeO (laws_FnExactNextNumber.f k a0 a1 a2 a3) (laws_FnExactNextNumber.f (k + 1) a0 a1 a2 a3) := by
  intro a0 a1 a2 a3 k
  have ih0 := laws_FnExactNextNumber.mono_l k
  unfold laws_FnExactNextNumber.f
  repeat' first | (with_reducible first | apply ih0 | apply impl_NextNumber.mono | apply laws_eqBoard.mono | apply laws_toBoard.mono | apply spec_NextNumber.mono | exact LeO.refl _ | exact LeO.none _ | refine LeO.ite ?_ ?_ | refine LeO.bind ?_ (fun _ => ?_)) | apply ih0 | apply impl_NextNumber.mono | apply laws_eqBoard.mono | apply laws_toBoard.mono | apply spec_NextNumber.mono | exact LeO.none _ | refine LeO.ite ?_ ?_ | refine LeO.bind ?_ (fun _ => ?_)
set_option maxHeartbeats 8000000 in
set_option maxRecDepth 100000 in
theorem laws_FnExactNextNumber.calls (k : Nat) (a0_0 : Int) (a0_1 : Int) (A0_2 : Option Addr) (c0_2 : Nat) (l0_2 : List (S85)) (a1 : Int) (w : World) (hr0_2 : Kd.C k85 w A0_2 l0_2.length l0_2) (hc0_2 : l0_2.length ≤ c0_2) (h : laws_FnExactNextNumber.f k a0_0 a0_1 l0_2 a1 = some true) :
    Calls Try.prog 3 #[.agg #[.int .i64 a0_0, .int .i64 a0_1, .slice A0_2 l0_2.length c0_2], .int .i64 a1] w fun e w' => e = .returned (.bool true) ∧ Below w.heap.size w w' := by
  have hu24 := Try.underlying24
  have hu30 := Try.underlying30
  have HR0_2 := Aside0.mk hr0_2
  have HC0_2 := Aside0.mk hc0_2
  clear hr0_2 hc0_2
  have HB := Aside0.mk (Below.refl w.heap.size w)
  have H := h
  clear h
  unfold laws_FnExactNextNumber.f at H
  replace H := bindA H; obtain ⟨t569, A3, H⟩ := H
  replace H := ifB H; rcases H with ⟨c4b0, H⟩ | ⟨c4b0, H⟩
  · first | (obtain rfl := Option.some.inj H) | clear H
    go_enter Try.func3, Try.ntmps3
    go_wp2_with (first | ((with_reducible refine gate_dst (N := 2) rfl ?_); refine boxE (cs := #[.int .i64 a0_0, .int .i64 a0_1, .slice A0_2 l0_2.length c0_2]) (t := 24) ?_; intro gb568 hg w5 hbox hb; refine E4b HB.1 hg hbox hb ?_; clear HB; intro HB BK568 GW568 GE568; clear hb hbox hg; obtain ⟨hcz6_0, hcz6_1, hcz6_2, hfz6_0, hfz6_1, hfz6_2⟩ := cz3 BK568.1) | ((with_reducible refine gate_callee (f := 13) rfl ?_); refine goesM (N := (some 13)) #[.agg #[.int .i64 a0_0, .int .i64 a0_1, .slice A0_2 l0_2.length c0_2], .int .i64 1048576] Try.func13 ?_; (with_reducible refine (laws_szBoard.calls a0_0 a0_1 _ _ l0_2 1048576 t569 _ ?side1 ?side2 A3.1).mono ?_); (case side1 => exact CB (Kd.C_below HR0_2.1 HB.1)); (case side2 => exact HC0_2.1); rintro e w7 ⟨rfl, hb⟩; refine ⟨_, rfl, ?_⟩; refine E2 (bB BK568.1 hb) (below_step (BL HB.1) hb) ?_; clear BK568 HB; intro BK568 HB; (try clear hb)))
    go_ret
    exact ⟨RF, BL HB.1⟩
  replace H := bindA H; obtain ⟨⟨t570, t571, t572⟩, A8, H⟩ := H
  dsimp only at H
  replace H := bindA H; obtain ⟨⟨t575, t576⟩, A9, H⟩ := H
  dsimp only at H
  replace H := bindA H; obtain ⟨⟨t577, t578, t579⟩, A10, H⟩ := H
  dsimp only at H
  replace H := bindA H; obtain ⟨⟨t583, t584⟩, A11, H⟩ := H
  dsimp only at H
  have HC12 := Aside0.mk H
  clear H
  go_enter Try.func3, Try.ntmps3
  go_upto_region 8 with (first | ((with_reducible refine gate_dst (N := 2) rfl ?_); refine boxE (cs := #[.int .i64 a0_0, .int .i64 a0_1, .slice A0_2 l0_2.length c0_2]) (t := 24) ?_; intro gb568 hg w13 hbox hb; refine E4b HB.1 hg hbox hb ?_; clear HB; intro HB BK568 GW568 GE568; clear hb hbox hg; obtain ⟨hcz14_0, hcz14_1, hcz14_2, hfz14_0, hfz14_1, hfz14_2⟩ := cz3 BK568.1) | ((with_reducible refine gate_callee (f := 13) rfl ?_); refine goesM (N := (some 13)) #[.agg #[.int .i64 a0_0, .int .i64 a0_1, .slice A0_2 l0_2.length c0_2], .int .i64 1048576] Try.func13 ?_; (with_reducible refine (laws_szBoard.calls a0_0 a0_1 _ _ l0_2 1048576 t569 _ ?side1 ?side2 A3.1).mono ?_); (case side1 => exact CB (Kd.C_below HR0_2.1 HB.1)); (case side2 => exact HC0_2.1); rintro e w15 ⟨rfl, hb⟩; refine ⟨_, rfl, ?_⟩; refine E2 (bB BK568.1 hb) (below_step (BL HB.1) hb) ?_; clear BK568 HB; intro BK568 HB; (try clear hb); obtain ⟨hcz16_0, hcz16_1, hcz16_2, hfz16_0, hfz16_1, hfz16_2⟩ := cz3 BK568.1) | ((with_reducible refine gate_callee (f := 15) rfl ?_); refine goesM (N := (some 18)) #[.agg #[.int .i64 a0_0, .int .i64 a0_1, .slice A0_2 l0_2.length c0_2]] Try.func15 ?_; (with_reducible refine (laws_toBoard.calls k a0_0 a0_1 _ _ l0_2 t570 t571 t572 _ ?side1 ?side2 A8.1).mono ?_); (case side1 => exact CB (Kd.C_below HR0_2.1 HB.1)); (case side2 => exact HC0_2.1); rintro e w17 ⟨v573, rfl, ho0, hb⟩; refine ⟨_, rfl, ?_⟩; refine E3 (Kd.R_lower ho0 (below_size (BL HB.1))) (bB BK568.1 hb) (below_step (BL HB.1) hb) ?_; clear BK568 HB; intro HO574 BK568 HB; (try clear hb); (try clear ho0); obtain ⟨Ao18, co18, eo18⟩ := Kd.R_slice HO574.1; subst eo18) | ((with_reducible refine gate_callee (f := 14) rfl ?_); refine goesM (N := (some 20)) #[.agg #[.int .i64 t570, .int .i64 t571, .slice Ao18 t572.length co18], .int .i64 a1] Try.func14 ?_; (with_reducible refine (spec_NextNumber.calls k t570 t571 _ _ t572 a1 t575 t576 _ ?side1 ?side2 A9.1).mono ?_); (case side1 => exact CB (Kd.R_reads' HO574.1).2.2); (case side2 => exact (Kd.R_reads' HO574.1).2.1); rintro e w19 ⟨rfl, hb⟩; refine ⟨_, rfl, ?_⟩; refine E3 (Kd.R_below (PR HO574.1) hb) (bB BK568.1 hb) (below_step (BL HB.1) hb) ?_; clear HO574 BK568 HB; intro HO574 BK568 HB; (try clear hb); obtain ⟨hcz20_0, hcz20_1, hcz20_2, hfz20_0, hfz20_1, hfz20_2⟩ := cz3 BK568.1) | ((with_reducible refine gate_callee (f := 15) rfl ?_); refine goesM (N := (some 24)) #[.agg #[.int .i64 a0_0, .int .i64 a0_1, .slice A0_2 l0_2.length c0_2]] Try.func15 ?_; (with_reducible refine (laws_toBoard.calls k a0_0 a0_1 _ _ l0_2 t577 t578 t579 _ ?side1 ?side2 A10.1).mono ?_); (case side1 => exact CB (Kd.C_below HR0_2.1 HB.1)); (case side2 => exact HC0_2.1); rintro e w21 ⟨v580, rfl, ho0, hb⟩; refine ⟨_, rfl, ?_⟩; refine E4 (Kd.R_elder' (PR HO574.1) (Kd.R_base ho0) hb) (Kd.R_lower (Kd.R_new' ho0 (Kd.R_lt (PR HO574.1))) (below_size (BL HB.1))) (bB BK568.1 hb) (below_step (BL HB.1) hb) ?_; clear HO574 BK568 HB; intro HO574 HO581 BK568 HB; (try clear hb); (try clear ho0)) | ((with_reducible refine gate_dst (N := 8) rfl ?_); refine boxE (cs := #[.int .i64 0, .int .i64 0, .slice none 0 0]) (t := 30) ?_; intro gb582 hg w22 hbox hb; refine E9 (Kd.R_below (PR HO574.1) hb) (Kd.R_below (PR HO581.1) hb) (bB BK568.1 hb) (below_step (BL HB.1) hb) (hbox) (gX HB.1 hg) (gX HB.1 hg) (nB BK568.1 hg) (nC BK568.1 hg) ?_; clear HO574 HO581 BK568 HB; intro HO574 HO581 BK568 HB BK582 GW582 GE582 NB568_582 NB582_568; clear hb hbox hg; have hnb23 := NB582_568.1; have hnc23 := NB568_582.1; obtain ⟨hcz24_0, hcz24_1, hcz24_2, hfz24_0, hfz24_1, hfz24_2⟩ := cz3 BK582.1; obtain ⟨Ao25, co25, eo25⟩ := Kd.R_slice HO581.1; subst eo25) | ((with_reducible refine gate_callee (f := 16) rfl ?_); refine goesM (N := (some 28)) #[.agg #[.int .i64 t577, .int .i64 t578, .slice Ao25 t579.length co25], .int .i64 a1] Try.func16 ?_; (with_reducible refine (impl_NextNumber.calls k t577 t578 _ _ t579 a1 t583 t584 _ ?side1 ?side2 A11.1).mono ?_); (case side1 => refine (Kd.R_reads' (e := 83) (base := w.heap.size) (ok := fun k_ => (True ∧ some k_ ≠ (.slice Ao18 t572.length co18 : Value).ownBlock)) (n := t579.length) (c := co25) ?_).2.2; exact (by (with_reducible repeat (first | apply Kd.R_alloc | apply Kd.R_drewN | apply Kd.R_drew)); exact (Kd.R_mono (Kd.R_far (p := ⟨gb582, 2, none⟩) (Kd.R_far (p := ⟨gb582, 1, none⟩) (Kd.R_far (p := ⟨gb582, 0, none⟩) (Kd.R_types HO581.1 BK582.1 (by decide)) (fun _ hk => hk.2) (.int .i64 t577)) (fun _ hk => hk.2) (.int .i64 t578)) (fun _ hk => hk.2) (.slice Ao25 t579.length co25)) (fun _ h_ => h_.1)))); (case side2 => exact (Kd.R_reads' HO581.1).2.1); rintro e w26 ⟨rfl, hb⟩; refine ⟨_, rfl, ?_⟩; refine E5 (Kd.R_below (by (with_reducible repeat (first | apply Kd.R_alloc | apply Kd.R_drewN | apply Kd.R_drew)); exact (Kd.R_mono (Kd.R_far (p := ⟨gb582, 2, none⟩) (Kd.R_far (p := ⟨gb582, 1, none⟩) (Kd.R_far (p := ⟨gb582, 0, none⟩) (Kd.R_types HO574.1 BK582.1 (by decide)) (fun _ hk => hk.2) (.int .i64 t577)) (fun _ hk => hk.2) (.int .i64 t578)) (fun _ hk => hk.2) (.slice Ao25 t579.length co25)) (fun _ h_ => h_.1))) hb) (Kd.R_below (by (with_reducible repeat (first | apply Kd.R_alloc | apply Kd.R_drewN | apply Kd.R_drew)); exact (Kd.R_mono (Kd.R_far (p := ⟨gb582, 2, none⟩) (Kd.R_far (p := ⟨gb582, 1, none⟩) (Kd.R_far (p := ⟨gb582, 0, none⟩) (Kd.R_types HO581.1 BK582.1 (by decide)) (fun _ hk => hk.2) (.int .i64 t577)) (fun _ hk => hk.2) (.int .i64 t578)) (fun _ hk => hk.2) (.slice Ao25 t579.length co25)) (fun _ h_ => h_.1))) hb) (blk_below (g := gb568) (o := .cells #[.int .i64 a0_0, .int .i64 a0_1, .slice A0_2 l0_2.length c0_2] 24 (0, 0)) (PF1 NB568_582.1 BK568.1) hb) (blk_below (g := gb582) (o := .cells #[.int .i64 t577, .int .i64 t578, .slice Ao25 t579.length co25] 30 (0, 0)) (PF0 BK582.1) hb) (below_step (BL HB.1) hb) ?_; clear HO574 HO581 BK568 BK582 HB; intro HO574 HO581 BK568 BK582 HB; (try clear hb); (try clear hk)))
  (try simp only [Act.put, List.setIfInBounds_toArray, List.set_cons_zero, List.set_cons_succ])
  go_cut [38] (fun v38 wc => ∃ (kq : Nat) (x38_11 : Bool), v38 = .bool x38_11 ∧ Aside0 (laws_FnExactNextNumber.j0 kq x38_11 a0_0 a0_1 l0_2 t577 t578 t579 = some true) ∧ Aside0 (kq ≤ k) ∧ Aside0 (Kd.R k83 83 wc w.heap.size (fun _ => True) (.slice Ao25 t579.length co25) t579) ∧ Aside0 (wc.heap[gb568]? = some (.cells #[.int .i64 a0_0, .int .i64 a0_1, (.slice A0_2 l0_2.length c0_2)] 24 (0, 0))) ∧ Aside0 (wc.heap[gb582]? = some (.cells #[.int .i64 t577, .int .i64 t578, (.slice Ao25 t579.length co25)] 30 (0, 0))) ∧ Aside0 (Below w.heap.size w wc))
  case first =>
    have H := HC12.1
    clear HC12
    replace H := ifQ H; rcases H with ⟨c27, H⟩ | ⟨c27, H⟩
    · have c27b0 := beq_iff_eq.mpr c27
      have c27b1 := bne_eq_false_iff_eq.mpr c27
      clear c27
      (first | rw [c27b0] | (simp only [i64_w, i32_w]; rw [c27b0]) | skip)
      have H' := Aside0.mk H
      clear H
      go_wp2
      go_meet
      case rel => exact ⟨_, ((t584 != t576)), RG, H', ⟨by first | omega | exact Nat.le_refl _⟩, ⟨by (with_reducible repeat (first | apply Kd.R_alloc | apply Kd.R_drewN | apply Kd.R_drew)); exact Kd.R_mono HO581.1 (fun _ hk => trivial)⟩, ⟨PB BK568.1⟩, ⟨PB BK582.1⟩, ⟨BL HB.1⟩⟩
    exact absurd H (by cases k <;> simp [laws_FnExactNextNumber.j0])
  clear HC12
  try clear c4b0; try clear hcz14_0; try clear hcz14_1; try clear hcz14_2; try clear hcz16_0; try clear hcz16_1; try clear hcz16_2; try clear hcz20_0; try clear hcz20_1; try clear hcz20_2; try clear hcz24_0; try clear hcz24_1; try clear hcz24_2; try clear hfz14_0; try clear hfz14_1; try clear hfz14_2; try clear hfz16_0; try clear hfz16_1; try clear hfz16_2; try clear hfz20_0; try clear hfz20_1; try clear hfz20_2; try clear hfz24_0; try clear hfz24_1; try clear hfz24_2
  obtain ⟨kq, x38_11, rfl, HA, HJ11, HO_583002, BK568, BK582, HB⟩ := hcut
  cases kq with
  | zero => exact absurd HA.1 (by simp [laws_FnExactNextNumber.j0])
  | succ kj11 => ?_
  have H := HA.1
  clear HA
  simp only [laws_FnExactNextNumber.j0] at H
  replace H := ifF H (by simp); obtain ⟨rfl, H⟩ := H
  replace H := bindA H; obtain ⟨⟨t585, t586, t587⟩, A29, H⟩ := H
  dsimp only at H
  replace H := bindA H; obtain ⟨t590, A30, H⟩ := H
  replace H := ifT H (by simp); obtain ⟨rfl, H⟩ := H
  first | (obtain rfl := Option.some.inj H) | clear H
  try go_wp2
  refine E4 (Kd.R_drew HO_583002.1) (blk_drew BK568.1) (blk_drew BK582.1) (below_drew1 HB.1) ?_
  clear HO_583002 BK568 BK582 HB
  intro HO_583002 BK568 BK582 HB
  refine start_ (n := 5) (S := fun w' => w'.cell? ⟨gb582, 0, none⟩ = some (.int .i64 t577) ∧ w'.cell? ⟨gb582, 1, none⟩ = some (.int .i64 t578) ∧ w'.cell? ⟨gb582, 2, none⟩ = some (.slice Ao25 t579.length co25) ∧ w'.cell? ⟨gb568, 0, none⟩ = some (.int .i64 a0_0) ∧ w'.cell? ⟨gb568, 1, none⟩ = some (.int .i64 a0_1) ∧ w'.cell? ⟨gb568, 2, none⟩ = some (.slice A0_2 l0_2.length c0_2)) (ds := []) #[Zz,Zz,Zz,Zz,Zz] (by kernel_rfl) rfl rfl ⟨(blk_cell BK582.1 0).trans rfl, (blk_cell BK582.1 1).trans rfl, (blk_cell BK582.1 2).trans rfl, (blk_cell BK568.1 0).trans rfl, (blk_cell BK568.1 1).trans rfl, (blk_cell BK568.1 2).trans rfl⟩ (fun hHeld => ?_)
  generalize wc.drew = w32 at HO_583002 BK568 BK582 HB hHeld ⊢
  refine take_ (i := 0) (N := some 39) (v := ?_) (a' := ?_) #[Yy,Zz,Zz,Zz,Zz] rfl rfl (by kernel_rfl) (fun _ _ _ h => h) (Or.inl ⟨by rfl, ?_⟩) hHeld ?_ ?_
  rotate_left
  · rintro w' ⟨s0, s1, s2, s3, s4, s5⟩
    go_simp
    with_reducible rfl
  rotate_left
  · simp only [Act.put, List.setIfInBounds_toArray, List.set_cons_zero, List.set_cons_succ, i64_w, i32_w]
    rfl
  refine take_ (i := 1) (N := some 40) (v := ?_) (a' := ?_) #[Yy,Yy,Zz,Zz,Zz] rfl rfl (by kernel_rfl) (fun _ _ _ h => h) (Or.inl ⟨by rfl, ?_⟩) hHeld ?_ ?_
  rotate_left
  · rintro w' ⟨s0, s1, s2, s3, s4, s5⟩
    go_simp
    with_reducible rfl
  rotate_left
  · simp only [Act.put, List.setIfInBounds_toArray, List.set_cons_zero, List.set_cons_succ, i64_w, i32_w]
    rfl
  refine one_ (i := 2) (N := some 41) #[Yy,Yy,Yy,Zz,Zz] rfl rfl (by kernel_rfl) (by decide) (fun K hK => ?_)
  refine goes_ Try.func15 (by kernel_rfl) rfl #[.agg #[.int .i64 a0_0, .int .i64 a0_1, .slice A0_2 l0_2.length c0_2]] (by rfl) rfl rfl (by (try simp only [List.map_toArray, List.map_cons, List.map_nil]); first | done | rfl | (simp only [List.length_drop, List.length_take]; rfl)) ?_
  with_reducible refine (laws_toBoard.calls kj11 a0_0 a0_1 _ _ l0_2 t585 t586 t587 _ ?side1 ?side2 A29.1).mono ?_
  (case side1 => exact CB (Kd.C_below HR0_2.1 HB.1))
  (case side2 => exact HC0_2.1)
  rintro e w33 ⟨v588, rfl, ho0, hb⟩
  refine ⟨_, rfl, ?_⟩
  refine E5 (Kd.R_elder' (PR HO_583002.1) (Kd.R_base ho0) hb) (Kd.R_lower (Kd.R_new' ho0 (Kd.R_lt (PR HO_583002.1))) (below_size (BL HB.1))) (bB BK568.1 hb) (bB BK582.1 hb) (below_step (BL HB.1) hb) ?_
  clear HO_583002 BK568 BK582 HB
  intro HO_583002 HO589 BK568 BK582 HB
  (try clear hb)
  (try clear hb2)
  (try clear hk)
  (try clear hi)
  (try clear ho0)
  obtain ⟨Ao34, co34, eo34⟩ := Kd.R_slice HO589.1
  (first | subst eo34 | (injection eo34 with f1_ f2_ f3_; have f4_ := f1_.symm; have f5_ := f3_.symm; clear f1_ f2_ f3_; subst f4_; subst f5_))
  refine hK.out _ _ ⟨(blk_cell BK582.1 0).trans rfl, (blk_cell BK582.1 1).trans rfl, (blk_cell BK582.1 2).trans rfl, (blk_cell BK568.1 0).trans rfl, (blk_cell BK568.1 1).trans rfl, (blk_cell BK568.1 2).trans rfl⟩ (fun hHeld => ?_)
  clear hK K
  refine norm_ (a' := ?_) ?_ ?_
  rotate_left
  · show Act.put _ (some 41) _ = _
    simp only [Act.put, List.setIfInBounds_toArray, List.set_cons_zero, List.set_cons_succ, i64_w, i32_w]
    rfl
  refine one_ (i := 3) (N := some 42) #[Yy,Yy,Yy,Yy,Zz] rfl rfl (by kernel_rfl) (by decide) (fun K hK => ?_)
  refine goes_ Try.func17 (by kernel_rfl) rfl #[.agg #[.int .i64 t577, .int .i64 t578, .slice Ao25 t579.length co25], .agg #[.int .i64 t585, .int .i64 t586, .slice Ao34 t587.length co34]] (by rfl) rfl rfl (by (try simp only [List.map_toArray, List.map_cons, List.map_nil]); first | done | rfl | (simp only [List.length_drop, List.length_take]; rfl)) ?_
  with_reducible refine (laws_eqBoard.calls kj11 t577 t578 _ _ t579 t585 t586 _ _ t587 true _ ?side1 ?side2 ?side3 ?side4 A30.1).mono ?_
  (case side1 => exact CB (Kd.R_reads' HO_583002.1).2.2)
  (case side2 => exact (Kd.R_reads' HO_583002.1).2.1)
  (case side3 => exact CB (Kd.R_reads' HO589.1).2.2)
  (case side4 => exact (Kd.R_reads' HO589.1).2.1)
  rintro e w35 ⟨rfl, hb⟩
  refine ⟨_, rfl, ?_⟩
  refine E5 (Kd.R_below (PR HO_583002.1) hb) (Kd.R_below (PR HO589.1) hb) (bB BK568.1 hb) (bB BK582.1 hb) (below_step (BL HB.1) hb) ?_
  clear HO_583002 HO589 BK568 BK582 HB
  intro HO_583002 HO589 BK568 BK582 HB
  (try clear hb)
  (try clear hb2)
  (try clear hk)
  (try clear hi)
  refine hK.out _ _ ⟨(blk_cell BK582.1 0).trans rfl, (blk_cell BK582.1 1).trans rfl, (blk_cell BK582.1 2).trans rfl, (blk_cell BK568.1 0).trans rfl, (blk_cell BK568.1 1).trans rfl, (blk_cell BK568.1 2).trans rfl⟩ (fun hHeld => ?_)
  clear hK K
  refine norm_ (a' := ?_) ?_ ?_
  rotate_left
  · show Act.put _ (some 42) _ = _
    simp only [Act.put, List.setIfInBounds_toArray, List.set_cons_zero, List.set_cons_succ, i64_w, i32_w]
    rfl
  refine pure_ (i := 4) (N := some 43) (v := ?_) (a' := ?_) #[Yy,Yy,Yy,Yy,Yy] rfl rfl (by kernel_rfl) (fun _ _ _ h => h) (Or.inl ⟨by rfl, ?_⟩) ?_ ?_
  rotate_left
  · intro w'
    go_simp
    with_reducible rfl
  rotate_left
  · simp only [Act.put, List.setIfInBounds_toArray, List.set_cons_zero, List.set_cons_succ, i64_w, i32_w]
    rfl
  refine done_ (by kernel_rfl) ?_
  try go_wp2
  go_ret
  exact ⟨RF, BL HB.1⟩
end Go.Proofs.Ytbpfdbjnnlmdjaa.P
