-- PRINTED by print.py (a twelfth state) out of the translation. Not trusted: Lean checks it.
import Derived.Test.YtgekdgggpfiamaaPx0
import Derived.Test.YtgekdgggpfiamaaPx1
namespace Go.Proofs.Ytgekdgggpfiamaa.P
open Go.RowKit Go.Proofs.YtgekdgggpfiamaaW.PrintWords Go.Proofs.YtgekdgggpfiamaaW.PrintLast Go.Proofs.YtgekdgggpfiamaaW.PrintMore
attribute [local go_sem] max2_int min2_int max_two min_two max_three min_three max_four min_four   -- for this text's walks alone
set_option linter.unusedVariables false
set_option linter.unusedSimpArgs false
set_option maxHeartbeats 8000000
set_option maxRecDepth 100000

/-! ### spec_DrawFixInput: function 14 -/
open Kd
open Kd
def spec_DrawFixInput.g (k : Nat) (s0_0 : List Int) (s0_1 : Int) (s0_2 : Int) : Option (Int × List Int × Int × Int × Int × Int) := (spec_l1Cur_anyTable.f k s0_0 s0_1 s0_2).bind fun bt194 => ((spec_l1Cur_input.f s0_0 bt194.2.2.1 bt194.2.2.2 bt194.1 bt194.2.1).bind fun bt201 => ((spec_l1Cur_among.f s0_0 bt201.2.1 bt201.2.2 (([(-1), 2] : List Int))).bind fun bt207 => ((spec_l1Cur_among.f s0_0 bt207.2.1 bt207.2.2 (([0, 1, 0, 1, bt207.1] : List Int))).bind fun bt213 => (some (bt194.1, bt194.2.1, bt201.1, bt213.1, bt213.2.1, bt213.2.2)))))
theorem spec_DrawFixInput.mong : ∀ a0 a1 a2 k, LeO (spec_DrawFixInput.g k a0 a1 a2) (spec_DrawFixInput.g (k + 1) a0 a1 a2) := by
 intro a0 a1 a2 k
 unfold spec_DrawFixInput.g
 repeat' first
  | (with_reducible exact spec_l1Cur_anyTable.mono _ _ _ _)
  | (with_reducible exact LeO.refl _)
  | (with_reducible exact LeO.none _)
  | (with_reducible refine LeO.ite ?_ ?_)
  | (with_reducible refine LeO.bind ?_ (fun _ => ?_))
  | exact spec_l1Cur_anyTable.mono _ _ _ _
  | exact LeO.none _
  | refine LeO.ite ?_ ?_
  | refine LeO.bind ?_ (fun _ => ?_)
def spec_DrawFixInput.f (k : Nat) (l0 : List Int) : Option (Int × List Int × Int × Int) := (spec_DrawFixInput.g k l0 0 0).bind fun t => some (t.1, t.2.1, t.2.2.1, t.2.2.2.1)
theorem spec_DrawFixInput.mono : ∀ a0 k, LeO (spec_DrawFixInput.f k a0) (spec_DrawFixInput.f (k + 1) a0) := fun _ _ => LeO.bind (spec_DrawFixInput.mong _ _ _ _) (fun _ => LeO.refl _)
def spec_DrawFixInput.T3 : Bool × List (List Nat × List Nat) := (true, [([], []), ([], []), ([], []), ([1, 2], [1, 2]), ([], []), ([], []), ([], []), ([5, 6, 3], [5, 6]), ([7], [7]), ([4, 8, 7], [4, 8]), ([0, 9, 0], [0]), ([3, 10, 0, 1, 2, 3, 10], [3]), ([9, 11, 0, 1, 2, 3, 4, 5, 6, 7, 8, 9, 10, 11], [9])])
def spec_DrawFixInput.B3 : List Nat := [0, 0, 0, 6, 0, 0, 0, 110, 238, 510, 1023, 2047, 4095]
theorem spec_DrawFixInput.tab3 : rtab .any (opsOf Try.f14 3) = spec_DrawFixInput.T3 := by kernel_rfl
theorem spec_DrawFixInput.bits3 : waitsOk spec_DrawFixInput.T3.2 spec_DrawFixInput.B3 = true := by kernel_rfl
theorem spec_DrawFixInput.walk (k : Nat) (A0 : Option Addr) (c0 : Nat) (l0 : List Int) (r1 : Int) (r2 : List Int) (r3 : Int) (r4 : Int) (r5 : Int) (r6 : Int) (w : World) (hr0 : Kd.C (Kd.int .u8) w A0 l0.length l0) (h : spec_DrawFixInput.g k l0 0 0 = some (r1, r2, r3, r4, r5, r6)) :
 Calls Try.prog 14 #[.slice A0 l0.length c0] w fun e w' => ∃ (v1_ : Value) (g : Nat), e = .returned (.tuple #[.agg #[.int .i64 r1, v1_], .int .i64 r3, .int .i64 r4]) /\ Kd.Q (Kd.int .i64) 3 w' w.heap.size (fun _ => True) v1_ r2 /\ IsS62 w w' g l0 r5 r6 /\ Below w.heap.size w w' /\ KeepBut w w' g none := by
 have hu28 := Try.underlying28
 have HR := Aside0.mk hr0
 clear hr0
 have HW0 := Aside0.mk (Nat.le_refl w.heap.size)
 have HB := Aside0.mk (Below.refl w.heap.size w)
 have H := h
 clear h
 unfold spec_DrawFixInput.g at H
 replace H := bindA H; obtain ⟨⟨t194, t195, t198, t199⟩, A2, H⟩ := H
 dsimp only at H
 replace H := bindA H; obtain ⟨⟨t201, t202, t203⟩, A3, H⟩ := H
 dsimp only at H
 generalize hy204 : ((([(-1), 2] : List Int)) : List Int) = y204 at H
 have Ny204 := Aside0.mk hy204.symm; clear hy204
 replace H := bindA H; obtain ⟨⟨t207, t208, t209⟩, A4, H⟩ := H
 dsimp only at H
 generalize hy210 : ((([0, 1, 0, 1, t207] : List Int)) : List Int) = y210 at H
 have Ny210 := Aside0.mk hy210.symm; clear hy210
 replace H := bindA H; obtain ⟨⟨t213, t214, t215⟩, A5, H⟩ := H
 dsimp only at H
 simp only [Option.some.injEq, Prod.mk.injEq] at H
 obtain ⟨rfl, rfl, rfl, rfl, rfl, rfl⟩ := H
 go_enter Try.func14, Try.ntmps14
 try go_wp2_with (first | ((with_reducible refine gate_dst (N := 2) rfl ?_); refine boxE (cs := #[.int .i64 0, .slice none 0 0]) (t := 28) ?_; intro gb193 hg w6 hbox hb; have n0_ := Aside0.mk (bS HB.1 hb); have BK193 := Aside0.mk hbox; have GW193 := Aside0.mk (gX HB.1 hg : w.heap.size <= gb193); have GE193 := GW193; clear HB; have HB := n0_; clear n0_ hbox hg hb) | ((with_reducible refine gate_dst (N := 9) rfl ?_); refine boxE (cs := #[.slice A0 l0.length c0, .int .i64 0, .int .u64 0]) (t := 62) ?_; intro g hg wz_ hbox hb; have n0_ := Aside0.mk (bS HB.1 hb); have n1_ := Aside0.mk (bB BK193.1 hb); have HI0 := Aside0.mk (show IsS62 w wz_ g l0 0 0 from ⟨A0, c0, hbox, gX HB.1 hg, HR.1⟩); have HK := Aside0.mk (KeepBut.of_below n0_.1 g none); have NB0_193 := Aside0.mk (show g ≠ gb193 from nC BK193.1 hg); have NB193_0 := Aside0.mk (show gb193 ≠ g from nB BK193.1 hg); clear HB BK193; have HB := n0_; have BK193 := n1_; clear n0_ n1_ hbox hg hb) | ((with_reducible refine gate_callee (f := 43) rfl ?_); refine goesM (N := (some 11)) #[.pointer (some ⟨g, 0, none⟩)] Try.func43 ?_; (with_reducible refine (spec_l1Cur_anyTable.calls k g l0 0 0 t194 t195 t198 t199 w _ ?side1 ?side2 A2.1).mono ?_); (case side1 => repeat (first | (with_reducible first | exact HI0.1 | apply IsS62.alloc | apply IsS62.drewN | apply IsS62.drew | apply IsS62.set_1 | apply IsS62.set_2 | refine IsS62.far ?_ NB0_193.1 _) | exact HI0.1)); (case side2 => repeat (first | (with_reducible first | exact HB.1 | apply below_alloc | apply pw_below_drewN | apply below_drew1 | refine below_set ?_ (IsS62.ge HI0.1) | refine below_set ?_ GE193.1) | exact HB.1)); rintro e w7 ⟨v196, rfl, ho0, hi, hb, hk⟩; refine ⟨_, rfl, ?_⟩; refine E5 (KeepBut.blk hk (g' := gb193) (o := .cells #[.int .i64 0, .slice none 0 0] 28 (0, 0)) (PB BK193.1) NB193_0.1 (by simp)) (Q_lower ho0 (keep_size (w := w) (g := g) (row := none) (by repeat (first | (with_reducible first | exact HK.1 | apply KeepBut.set_ | apply keep_drewN | apply keep_drew | apply keep_alloc | refine keep_far ?_ GW193.1 _) | exact HK.1)))) (KeepBut.trans (by repeat (first | (with_reducible first | exact HK.1 | apply KeepBut.set_ | apply keep_drewN | apply keep_drew | apply keep_alloc | refine keep_far ?_ GW193.1 _) | exact HK.1)) hk (.inl rfl)) (hb) (hi) ?_; clear BK193 HK HB HI0; intro BK193 HO197 HK HB HI0; (try clear hb); (try clear hk); (try clear hi)) | ((with_reducible refine gate_dst (N := 6) rfl ?_); refine boxE (cs := #[.int .i64 0, .slice none 0 0]) (t := 28) ?_; intro gb200 hg w8 hbox hb; refine E12 (Q_below (by (with_reducible repeat (first | apply Q_alloc | apply Q_drewN | apply Q_drew)); exact HO197.1) hb) (IsS62.below (by repeat (first | (with_reducible first | exact HI0.1 | apply IsS62.alloc | apply IsS62.drewN | apply IsS62.drew | apply IsS62.set_1 | apply IsS62.set_2 | refine IsS62.far ?_ NB0_193.1 _) | exact HI0.1)) hb) (bB BK193.1 hb) (KeepBut.trans (by repeat (first | (with_reducible first | exact HK.1 | apply KeepBut.set_ | apply keep_drewN | apply keep_drew | apply keep_alloc | refine keep_far ?_ GW193.1 _) | exact HK.1)) (KeepBut.of_below hb g none) (.inl rfl)) (below_step (by repeat (first | (with_reducible first | exact HB.1 | apply below_alloc | apply pw_below_drewN | apply below_drew1 | refine below_set ?_ (IsS62.ge HI0.1) | refine below_set ?_ GE193.1) | exact HB.1)) hb) (hbox) ((by rw [hg]; exact (keep_size (w := w) (g := g) (row := none) (by repeat (first | (with_reducible first | exact HK.1 | apply KeepBut.set_ | apply keep_drewN | apply keep_drew | apply keep_alloc | refine keep_far ?_ GW193.1 _) | exact HK.1))) : w.heap.size <= gb200)) ((Nat.le_trans HW0.1 (by rw [hg]; exact (keep_size (w := w) (g := g) (row := none) (by repeat (first | (with_reducible first | exact HK.1 | apply KeepBut.set_ | apply keep_drewN | apply keep_drew | apply keep_alloc | refine keep_far ?_ GW193.1 _) | exact HK.1))) : w.heap.size <= gb200) : w.heap.size <= gb200)) (nB BK193.1 hg) (nC BK193.1 hg) ((by rw [hg]; exact Nat.ne_of_lt (IsS62.lt (show IsS62 w _ g l0 t198 t199 from by repeat (first | (with_reducible first | exact HI0.1 | apply IsS62.alloc | apply IsS62.drewN | apply IsS62.drew | apply IsS62.set_1 | apply IsS62.set_2 | refine IsS62.far ?_ NB0_193.1 _) | exact HI0.1))) : g ≠ gb200)) ((by rw [hg]; exact Nat.ne_of_gt (IsS62.lt (show IsS62 w _ g l0 t198 t199 from by repeat (first | (with_reducible first | exact HI0.1 | apply IsS62.alloc | apply IsS62.drewN | apply IsS62.drew | apply IsS62.set_1 | apply IsS62.set_2 | refine IsS62.far ?_ NB0_193.1 _) | exact HI0.1))) : gb200 ≠ g)) ?_; clear HO197 HI0 BK193 HK HB; intro HO197 HI0 BK193 HK HB BK200 GW200 GE200 NB193_200 NB200_193 NB0_200 NB200_0; clear hb hbox hg; have hnb9 := NB200_193.1; have hnc9 := NB193_200.1; have hnb10 := NB200_0.1; have hnc10 := NB0_200.1; obtain ⟨hcz11_0, hcz11_1, hfz11_0, hfz11_1⟩ := cz2 BK200.1; obtain ⟨Ao12, co12, eo12, _⟩ := Q_slice HO197.1; subst eo12))
 have n_ : (fun w13 : World => (Kd.Q (Kd.int .i64) 3 w13 w.heap.size (fun _ => True) (.slice Ao12 t195.length co12) t195) /\ (w13.heap[gb193]? = some (.cells #[.int .i64 0, .slice none 0 0] 28 (0, 0))) /\ (w13.heap[gb200]? = some (.cells #[.int .i64 t194, .slice Ao12 t195.length co12] 28 (0, 0))) /\ (IsS62 w w13 g l0 t198 t199) /\ (KeepBut w w13 g none) /\ (Below w.heap.size w w13)) ((w8.setCell ⟨gb200, 0, none⟩ (.int .i64 t194)).setCell ⟨gb200, 1, none⟩ (.slice Ao12 t195.length co12)) := ⟨by (with_reducible repeat (first | apply Q_alloc | apply Q_drewN | apply Q_drew)); exact Q_mono (Q_far (p := ⟨gb200, 1, none⟩) (Q_far (p := ⟨gb200, 0, none⟩) (Q_types HO197.1 BK200.1 (by decide)) (fun _ hk => hk.2) (.int .i64 t194)) (fun _ hk => hk.2) (.slice Ao12 t195.length co12)) (fun _ hk => trivial), by (with_reducible repeat (first | refine blk_drewN ?_ _ | refine blk_drew ?_ | refine blk_alloc ?_ _)); refine blk_far ?_ NB193_200.1 _; (with_reducible repeat (first | refine blk_drewN ?_ _ | refine blk_drew ?_ | refine blk_alloc ?_ _)); refine blk_far ?_ NB193_200.1 _; (with_reducible repeat (first | refine blk_drewN ?_ _ | refine blk_drew ?_ | refine blk_alloc ?_ _)); exact BK193.1, by (with_reducible repeat (first | refine blk_drewN ?_ _ | refine blk_drew ?_ | refine blk_alloc ?_ _)); refine blk_put (cs := #[.int .i64 t194, .slice none 0 0]) ?_ 1 _ rfl; (with_reducible repeat (first | refine blk_drewN ?_ _ | refine blk_drew ?_ | refine blk_alloc ?_ _)); refine blk_put (cs := #[.int .i64 0, .slice none 0 0]) ?_ 0 _ rfl; (with_reducible repeat (first | refine blk_drewN ?_ _ | refine blk_drew ?_ | refine blk_alloc ?_ _)); exact BK200.1, by repeat (first | (with_reducible first | exact HI0.1 | apply IsS62.alloc | apply IsS62.drewN | apply IsS62.drew | apply IsS62.set_1 | apply IsS62.set_2 | refine IsS62.far ?_ NB0_193.1 _ | refine IsS62.far ?_ NB0_200.1 _) | exact HI0.1), by repeat (first | (with_reducible first | exact HK.1 | apply KeepBut.set_ | apply keep_drewN | apply keep_drew | apply keep_alloc | refine keep_far ?_ GW193.1 _ | refine keep_far ?_ GW200.1 _) | exact HK.1), by repeat (first | (with_reducible first | exact HB.1 | apply below_alloc | apply pw_below_drewN | apply below_drew1 | refine below_set ?_ (IsS62.ge HI0.1) | refine below_set ?_ GE193.1 | refine below_set ?_ GE200.1) | exact HB.1)⟩
 (try clear HO197)
 (try clear BK193)
 (try clear BK200)
 (try clear HI0)
 (try clear HK)
 (try clear HB)
 generalize ((w8.setCell ⟨gb200, 0, none⟩ (.int .i64 t194)).setCell ⟨gb200, 1, none⟩ (.slice Ao12 t195.length co12)) = w13 at n_ ⊢
 obtain ⟨h0_, h1_, h2_, h3_, h4_, h5_⟩ := n_
 refine E6 h0_ h1_ h2_ h3_ h4_ h5_ ?_
 clear h0_ h1_ h2_ h3_ h4_ h5_
 intro HO197 BK193 BK200 HI0 HK HB
 refine E6 (Q_drew HO197.1) (blk_drew BK193.1) (blk_drew BK200.1) (IsS62.drew HI0.1) (keep_drew HK.1) (below_drew1 HB.1) ?_
 clear HO197 BK193 BK200 HI0 HK HB
 intro HO197 BK193 BK200 HI0 HK HB
 refine start_ (n := 13) (S := fun w' => True) (ds := []) #[Zz,Zz,Zz,Zz,Zz,Zz,Zz,Zz,Zz,Zz,Zz,Zz,Zz] (by kernel_rfl) rfl rfl trivial (fun hHeld => ?_); refine with_tabW spec_DrawFixInput.tab3 spec_DrawFixInput.bits3 (fun HT_ HW_ => ?_)
 generalize w13.drew = w14 at HO197 BK193 BK200 HI0 HK HB hHeld ⊢
 refine pureF 1 (N := some 13) HT_.1 ?_
 refine pureF 4 (N := some 16) HT_.1 ?_
 refine pureF 5 (N := some 17) HT_.1 ?_
 refine inv_at [0, 2, 3, 6, 7, 8, 9, 10, 11, 12] (fun a0_ b a w' => ∃ (v205 : Value) (v211 : Value), a = putSel a0_ b [(0, 12, .agg #[.int .i64 t194, .slice Ao12 t195.length co12]), (2, 14, .agg #[.int .i64 t194, .slice Ao12 t195.length co12]), (3, 15, .int .i64 t201), (6, 18, v205), (7, 19, .int .i64 t207), (8, 20, v211), (9, 21, .int .i64 t213), (11, 3, .int .i64 t201), (12, 4, .int .i64 t213)] /\ (Kd.Q (Kd.int .i64) 3 w' w.heap.size (fun _ => True) (.slice Ao12 t195.length co12) t195) /\ (b 10 = false -> w'.heap[gb193]? = some (.cells #[.int .i64 0, .slice none 0 0] 28 (0, 0))) /\ (w'.heap[gb200]? = some (.cells #[.int .i64 t194, .slice Ao12 t195.length co12] 28 (0, 0))) /\ (b 3 = false -> IsS62 w w' g l0 t198 t199) /\ (KeepBut w w' g none) /\ (Below w.heap.size w w') /\ (b 3 = true -> b 7 = false -> IsS62 w w' g l0 t202 t203) /\ (b 6 = true -> Kd.R (Kd.int .i64) 3 w' w.heap.size (fun _ => True) v205 y204) /\ (b 7 = true -> b 9 = false -> IsS62 w w' g l0 t208 t209) /\ (b 8 = true -> Kd.R (Kd.int .i64) 3 w' w.heap.size (fun _ => True) v211 y210) /\ (b 9 = true -> IsS62 w w' g l0 t214 t215) /\ (b 10 = true -> w'.heap[gb193]? = some (.cells #[.int .i64 t194, .slice Ao12 t195.length co12] 28 (0, 0)))) HT_.1 HW_.1 (by kernel_rfl) (by kernel_rfl) ?_ ?_ ?_
 · exact ⟨.bool false, .bool false, by simp only [putSel, Bool.false_eq_true, if_false], HO197.1, fun _ => BK193.1, BK200.1, fun _ => HI0.1, HK.1, HB.1, fun h_ => absurd h_ (by decide), fun h_ => absurd h_ (by decide), fun h_ => absurd h_ (by decide), fun h_ => absurd h_ (by decide), fun h_ => absurd h_ (by decide), fun h_ => absurd h_ (by decide)⟩
 · skip
   clear BK193 BK200 HB HI0 HK HO197
   refine steps_cons ?_ ?_
   · rintro b a w' ⟨v205, v211, ha, Q_HO197, Q_BK193, Q_BK200, Q_HI0, Q_HK, Q_HB, Q_HI0_e3, Q_HO206, Q_HI0_e7, Q_HO212, Q_HI0_e9, Q_BK193_e10⟩ hb_ hon hoff
     refine ⟨_, rfl, fun K hK => ?_⟩
     have e6 : a.tmps[6]? = some (.pointer (some ⟨gb200, 0, none⟩)) := by rw [ha]; exact (putSel_off rfl).trans rfl
     replace ha := Aside0.mk ha
     have HO197 := Aside0.mk Q_HO197
     have BK193 := Aside0.mk (Q_BK193 (hoff 10 (by kernel_rfl)))
     have BK200 := Aside0.mk Q_BK200
     have HK := Aside0.mk Q_HK
     have HB := Aside0.mk Q_HB
     have hc0_ : w'.cell? ⟨gb200, 0, none⟩ = some (.int .i64 t194) := (blk_cell BK200.1 0).trans rfl
     have hc1_ : w'.cell? ⟨gb200, 1, none⟩ = some (.slice Ao12 t195.length co12) := (blk_cell BK200.1 1).trans rfl
     refine value_ (w1 := w') (v := .agg #[.int .i64 t194, .slice Ao12 t195.length co12]) (by rfl) rfl ?_ ?_
     · go_simp
       (try simp only [i64_w])
       try rfl
     refine hK.out _ _ ⟨v205, v211, (by rw [ha.1]; exact putSel_upk 0 hb_ rfl rfl rfl), Q_HO197, Q_BK193, Q_BK200, Q_HI0, Q_HK, Q_HB, Q_HI0_e3, Q_HO206, Q_HI0_e7, Q_HO212, Q_HI0_e9, fun h0_ => absurd ((hoff 10 (by kernel_rfl)).symm.trans h0_) (by decide)⟩
   refine steps_cons ?_ ?_
   · rintro b a w' ⟨v205, v211, ha, Q_HO197, Q_BK193, Q_BK200, Q_HI0, Q_HK, Q_HB, Q_HI0_e3, Q_HO206, Q_HI0_e7, Q_HO212, Q_HI0_e9, Q_BK193_e10⟩ hb_ hon hoff
     refine ⟨_, rfl, fun K hK => ?_⟩
     have e6 : a.tmps[6]? = some (.pointer (some ⟨gb200, 0, none⟩)) := by rw [ha]; exact (putSel_off rfl).trans rfl
     replace ha := Aside0.mk ha
     have HO197 := Aside0.mk Q_HO197
     have BK193 := Aside0.mk (Q_BK193 (hoff 10 (by kernel_rfl)))
     have BK200 := Aside0.mk Q_BK200
     have HI0 := Aside0.mk (Q_HI0 (hoff 3 (by kernel_rfl)))
     have HK := Aside0.mk Q_HK
     have HB := Aside0.mk Q_HB
     have hc0_ : w'.cell? ⟨gb200, 0, none⟩ = some (.int .i64 t194) := (blk_cell BK200.1 0).trans rfl
     have hc1_ : w'.cell? ⟨gb200, 1, none⟩ = some (.slice Ao12 t195.length co12) := (blk_cell BK200.1 1).trans rfl
     refine value_ (w1 := w') (v := .agg #[.int .i64 t194, .slice Ao12 t195.length co12]) (by rfl) rfl ?_ ?_
     · go_simp
       (try simp only [i64_w])
       try rfl
     refine hK.out _ _ ⟨v205, v211, (by rw [ha.1]; exact putSel_upk 1 hb_ rfl rfl rfl), Q_HO197, Q_BK193, Q_BK200, Q_HI0, Q_HK, Q_HB, fun h0_ _ => absurd ((hoff 3 (by kernel_rfl)).symm.trans h0_) (by decide), Q_HO206, fun h0_ _ => absurd ((hoff 7 (by kernel_rfl)).symm.trans h0_) (by decide), fun h0_ => absurd ((hoff 8 (by kernel_rfl)).symm.trans h0_) (by decide), fun h0_ => absurd ((hoff 9 (by kernel_rfl)).symm.trans h0_) (by decide), fun h0_ => absurd ((hoff 10 (by kernel_rfl)).symm.trans h0_) (by decide)⟩
   refine steps_cons ?_ ?_
   · rintro b a w' ⟨v205, v211, ha, Q_HO197, Q_BK193, Q_BK200, Q_HI0, Q_HK, Q_HB, Q_HI0_e3, Q_HO206, Q_HI0_e7, Q_HO212, Q_HI0_e9, Q_BK193_e10⟩ hb_ hon hoff
     refine ⟨_, rfl, fun K hK => ?_⟩
     have e13 : a.tmps[13]? = some (.pointer (some ⟨g, 0, none⟩)) := by rw [ha]; exact (putSel_off rfl).trans rfl
     have e14 : a.tmps[14]? = some (.agg #[.int .i64 t194, .slice Ao12 t195.length co12]) := by rw [ha]; exact putSel_on (e := (2, 14, .agg #[.int .i64 t194, .slice Ao12 t195.length co12])) 1 rfl rfl (hon 2 (by kernel_rfl)) rfl
     replace ha := Aside0.mk ha
     have HO197 := Aside0.mk Q_HO197
     have BK193 := Aside0.mk (Q_BK193 (hoff 10 (by kernel_rfl)))
     have BK200 := Aside0.mk Q_BK200
     have HI0 := Aside0.mk (Q_HI0 hb_)
     have HK := Aside0.mk Q_HK
     have HB := Aside0.mk Q_HB
     refine goes_ Try.func44 (by kernel_rfl) rfl #[.pointer (some ⟨g, 0, none⟩), .agg #[.int .i64 t194, .slice Ao12 t195.length co12]] (by rfl) rfl rfl (by first | (simp only [List.map_toArray, List.map_cons, List.map_nil, Act.eval, Array.getD_eq_getD_getElem?, Option.getD_some, e13, e14]; done) | (simp only [List.map_toArray, List.map_cons, List.map_nil, Act.eval, Array.getD_eq_getD_getElem?, Option.getD_some, e13, e14]; rfl)) ?_
     with_reducible refine (spec_l1Cur_input.calls g l0 t198 t199 t194 _ _ t195 t201 t202 t203 w _ ?side1 ?side2 ?side3 ?side4 ?side5 A3.1).mono ?_
     (case side1 => repeat (first | (with_reducible first | exact HI0.1 | apply IsS62.alloc | apply IsS62.drewN | apply IsS62.drew | apply IsS62.set_1 | apply IsS62.set_2 | refine IsS62.far ?_ NB0_193.1 _ | refine IsS62.far ?_ NB0_200.1 _) | exact HI0.1))
     (case side2 => repeat (first | (with_reducible first | exact HB.1 | apply below_alloc | apply pw_below_drewN | apply below_drew1 | refine below_set ?_ (IsS62.ge HI0.1) | refine below_set ?_ GE193.1 | refine below_set ?_ GE200.1) | exact HB.1))
     (case side3 => repeat (first | exact (Q_reads' HO197.1).2.2 | (with_reducible refine C_alloc ?_ _) | (with_reducible refine C_drewN ?_ _) | (with_reducible refine C_drew ?_)))
     (case side4 => exact (Q_reads' HO197.1).2.1)
     (case side5 => exact far_slice (IsS62.own_neQ HI0.1 HO197.1 (by decide)))
     rintro e w15 ⟨rfl, hi, hb, hk⟩
     refine ⟨_, rfl, ?_⟩
     have n0_ := Aside0.mk (KeepBut.blk hk (g' := gb193) (o := .cells #[.int .i64 0, .slice none 0 0] 28 (0, 0)) (PB BK193.1) NB193_0.1 (by simp))
     have n1_ := Aside0.mk (Q_mono (Q_keep (IsS62.apartQ (show IsS62 w _ g l0 t198 t199 from by repeat (first | (with_reducible first | exact HI0.1 | apply IsS62.alloc | apply IsS62.drewN | apply IsS62.drew | apply IsS62.set_1 | apply IsS62.set_2 | refine IsS62.far ?_ NB0_193.1 _ | refine IsS62.far ?_ NB0_200.1 _) | exact HI0.1)) (by (with_reducible repeat (first | apply Q_alloc | apply Q_drewN | apply Q_drew)); exact HO197.1) (by decide)) hk (fun _ h => h.2)) (fun _ h => h.1))
     have n2_ := Aside0.mk (KeepBut.blk hk (g' := gb200) (o := .cells #[.int .i64 t194, .slice Ao12 t195.length co12] 28 (0, 0)) (PB BK200.1) NB200_0.1 (by simp))
     have n3_ := Aside0.mk (KeepBut.trans (by repeat (first | (with_reducible first | exact HK.1 | apply KeepBut.set_ | apply keep_drewN | apply keep_drew | apply keep_alloc | refine keep_far ?_ GW193.1 _ | refine keep_far ?_ GW200.1 _) | exact HK.1)) hk (.inl rfl))
     have n4_ := Aside0.mk (hb)
     have n5_ := Aside0.mk (hi)
     have z_HO206 := fun (h0_ : b 6 = true) => (show Kd.R (Kd.int .i64) 3 w15 w.heap.size (fun _ => True) v205 y204 from by first | exact (R_mono (R_keep (IsS62.apart (show IsS62 w _ g l0 t198 t199 from by repeat (first | (with_reducible first | exact HI0.1 | apply IsS62.alloc | apply IsS62.drewN | apply IsS62.drew | apply IsS62.set_1 | apply IsS62.set_2 | refine IsS62.far ?_ NB0_193.1 _ | refine IsS62.far ?_ NB0_200.1 _) | exact HI0.1)) (RPE (Q_HO206 h0_)) (by decide)) hk (fun _ h => h.2)) (fun _ h => h.1)) | exact R_mono (R_mono (R_keep (IsS62.apart (show IsS62 w _ g l0 t198 t199 from by repeat (first | (with_reducible first | exact HI0.1 | apply IsS62.alloc | apply IsS62.drewN | apply IsS62.drew | apply IsS62.set_1 | apply IsS62.set_2 | refine IsS62.far ?_ NB0_193.1 _ | refine IsS62.far ?_ NB0_200.1 _) | exact HI0.1)) (RPE (Q_HO206 h0_)) (by decide)) hk (fun _ h => h.2)) (fun _ h => h.1)) (fun _ h_ => by first | trivial | exact h_ | exact h_.1))
     clear BK193
     clear HO197
     clear BK200
     clear HK
     clear HB
     clear HI0
     have BK193 := n0_
     have HO197 := n1_
     have BK200 := n2_
     have HK := n3_
     have HB := n4_
     have HI0 := n5_
     clear n0_ n1_ n2_ n3_ n4_ n5_
     (try clear hb)
     (try clear hb2)
     (try clear hk)
     (try clear hi)
     refine hK.out _ _ ⟨v205, v211, (by rw [ha.1]; exact putSel_upk 2 hb_ rfl rfl rfl), (by (with_reducible repeat (first | apply Q_alloc | apply Q_drewN | apply Q_drew)); exact Q_mono HO197.1 (fun _ _ => trivial)), fun _ => (PB BK193.1), (PB BK200.1), fun h0_ => absurd ((up_self b 3).symm.trans h0_) (by decide), (by repeat (first | (with_reducible first | exact HK.1 | apply KeepBut.set_ | apply keep_drewN | apply keep_drew | apply keep_alloc | refine keep_far ?_ GW193.1 _ | refine keep_far ?_ GW200.1 _) | exact HK.1)), (by repeat (first | (with_reducible first | exact HB.1 | apply below_alloc | apply pw_below_drewN | apply below_drew1 | refine below_set ?_ (IsS62.ge HI0.1) | refine below_set ?_ GE193.1 | refine below_set ?_ GE200.1) | exact HB.1)), fun _ _ => (by repeat (first | (with_reducible first | exact HI0.1 | apply IsS62.alloc | apply IsS62.drewN | apply IsS62.drew | apply IsS62.set_1 | apply IsS62.set_2 | refine IsS62.far ?_ NB0_193.1 _ | refine IsS62.far ?_ NB0_200.1 _) | exact HI0.1)), z_HO206, fun h0_ _ => absurd ((hoff 7 (by kernel_rfl)).symm.trans h0_) (by decide), fun h0_ => absurd ((hoff 8 (by kernel_rfl)).symm.trans h0_) (by decide), fun h0_ => absurd ((hoff 9 (by kernel_rfl)).symm.trans h0_) (by decide), fun h0_ => absurd ((hoff 10 (by kernel_rfl)).symm.trans h0_) (by decide)⟩
   refine steps_cons ?_ ?_
   · rintro b a w' ⟨v205, v211, ha, Q_HO197, Q_BK193, Q_BK200, Q_HI0, Q_HK, Q_HB, Q_HI0_e3, Q_HO206, Q_HI0_e7, Q_HO212, Q_HI0_e9, Q_BK193_e10⟩ hb_ hon hoff
     refine ⟨_, rfl, fun K hK => ?_⟩
     replace ha := Aside0.mk ha
     have HO197 := Aside0.mk Q_HO197
     have BK193 := Aside0.mk (Q_BK193 (hoff 10 (by kernel_rfl)))
     have BK200 := Aside0.mk Q_BK200
     have HK := Aside0.mk Q_HK
     have HB := Aside0.mk Q_HB
     refine R_lit_step (Kd.int .i64) _ 3 ?hg (N := 18) ?hd (xs := ([(-1), 2] : List Int)) (inner := [.int .i64 (-1), .int .i64 2]) (ok := fun _ => True) (okp := fun _ => True) ?hr ?hp (fun _ hk => hk) trivial (Below.refl _ _) (Nat.le_refl _) (by simp) ?_; (case hd => rfl); (case hg => rfl); (case hr => first | (go_simp; done) | (go_simp; rfl)); (case hp => exact (Reps.one (show Kd.M (Kd.int .i64) _ _ _ (-1) [.int .i64 (-1)] from rfl) (Reps.one (show Kd.M (Kd.int .i64) _ _ _ 2 [.int .i64 2] from rfl) (Reps.none _ _))))
     intro v205 w15 ho16 hb hg_ hnew_
     clear hg_ hnew_
     (first | rw [<- Ny204.1] at ho16 | (simp only [Int.reduceToNat] at ho16; rw [<- Ny204.1] at ho16))
     have n0_ := Aside0.mk (Q_elder' (by (with_reducible repeat (first | apply Q_alloc | apply Q_drewN | apply Q_drew)); exact HO197.1) (R_base ho16) hb)
     have n1_ := Aside0.mk (R_lower (R_new' ho16 (Q_lt (by (with_reducible repeat (first | apply Q_alloc | apply Q_drewN | apply Q_drew)); exact HO197.1))) (keep_size (w := w) (g := g) (row := none) (by repeat (first | (with_reducible first | exact HK.1 | apply KeepBut.set_ | apply keep_drewN | apply keep_drew | apply keep_alloc | refine keep_far ?_ GW193.1 _ | refine keep_far ?_ GW200.1 _) | exact HK.1))))
     have n3_ := Aside0.mk (bB BK193.1 hb)
     have n4_ := Aside0.mk (bB BK200.1 hb)
     have n5_ := Aside0.mk (KeepBut.trans (by repeat (first | (with_reducible first | exact HK.1 | apply KeepBut.set_ | apply keep_drewN | apply keep_drew | apply keep_alloc | refine keep_far ?_ GW193.1 _ | refine keep_far ?_ GW200.1 _) | exact HK.1)) (KeepBut.of_below hb g none) (.inl rfl))
     have n6_ := Aside0.mk (bS HB.1 hb)
     have z_HI0 := fun (h0_ : b 3 = false) => (show IsS62 w w15 g l0 t198 t199 from by first | exact (IsS62.below (by repeat (first | (with_reducible first | exact (Q_HI0 h0_) | apply IsS62.alloc | apply IsS62.drewN | apply IsS62.drew | apply IsS62.set_1 | apply IsS62.set_2 | refine IsS62.far ?_ NB0_193.1 _ | refine IsS62.far ?_ NB0_200.1 _) | exact (Q_HI0 h0_))) hb))
     have z_HI0_e3 := fun (h0_ : b 3 = true) (h1_ : b 7 = false) => (show IsS62 w w15 g l0 t202 t203 from by first | exact (IsS62.below (by repeat (first | (with_reducible first | exact (Q_HI0_e3 h0_ h1_) | apply IsS62.alloc | apply IsS62.drewN | apply IsS62.drew | apply IsS62.set_1 | apply IsS62.set_2 | refine IsS62.far ?_ NB0_193.1 _ | refine IsS62.far ?_ NB0_200.1 _) | exact (Q_HI0_e3 h0_ h1_))) hb))
     clear HO197
     clear BK193
     clear BK200
     clear HK
     clear HB
     have HO197 := n0_
     have HO206 := n1_
     have BK193 := n3_
     have BK200 := n4_
     have HK := n5_
     have HB := n6_
     clear n0_ n1_ n3_ n4_ n5_ n6_
     clear hb ho16
     refine hK.out _ _ ⟨v205, v211, (by rw [ha.1]; exact putSel_upk 3 hb_ rfl rfl rfl), (by (with_reducible repeat (first | apply Q_alloc | apply Q_drewN | apply Q_drew)); exact Q_mono HO197.1 (fun _ _ => trivial)), fun _ => (PB BK193.1), (PB BK200.1), z_HI0, (by repeat (first | (with_reducible first | exact HK.1 | apply KeepBut.set_ | apply keep_drewN | apply keep_drew | apply keep_alloc | refine keep_far ?_ GW193.1 _ | refine keep_far ?_ GW200.1 _) | exact HK.1)), (BL HB.1), z_HI0_e3, fun _ => (by first | exact R_mono HO206.1 (fun _ _ => trivial) | exact PR HO206.1), fun h0_ _ => absurd ((hoff 7 (by kernel_rfl)).symm.trans h0_) (by decide), fun h0_ => absurd ((hoff 8 (by kernel_rfl)).symm.trans h0_) (by decide), fun h0_ => absurd ((hoff 9 (by kernel_rfl)).symm.trans h0_) (by decide), fun h0_ => absurd ((hoff 10 (by kernel_rfl)).symm.trans h0_) (by decide)⟩
   refine steps_cons ?_ ?_
   · rintro b a w' ⟨v205, v211, ha, Q_HO197, Q_BK193, Q_BK200, Q_HI0, Q_HK, Q_HB, Q_HI0_e3, Q_HO206, Q_HI0_e7, Q_HO212, Q_HI0_e9, Q_BK193_e10⟩ hb_ hon hoff
     refine ⟨_, rfl, fun K hK => ?_⟩
     have e17 : a.tmps[17]? = some (.pointer (some ⟨g, 0, none⟩)) := by rw [ha]; exact (putSel_off rfl).trans rfl
     have e18 : a.tmps[18]? = some (v205) := by rw [ha]; exact putSel_on (e := (6, 18, v205)) 3 rfl rfl (hon 6 (by kernel_rfl)) rfl
     replace ha := Aside0.mk ha
     have HO197 := Aside0.mk Q_HO197
     have BK193 := Aside0.mk (Q_BK193 (hoff 10 (by kernel_rfl)))
     have BK200 := Aside0.mk Q_BK200
     have HK := Aside0.mk Q_HK
     have HB := Aside0.mk Q_HB
     have HI0 := Aside0.mk (Q_HI0_e3 (hon 3 (by kernel_rfl)) hb_)
     have HO206 := Aside0.mk (Q_HO206 (hon 6 (by kernel_rfl)))
     obtain ⟨Ao19, co19, eo19⟩ := R_slice HO206.1
     (first | subst eo19 | (injection eo19 with f1_ f2_ f3_; have f4_ := f1_.symm; have f5_ := f3_.symm; clear f1_ f2_ f3_; subst f4_; subst f5_))
     refine goes_ Try.func45 (by kernel_rfl) rfl #[.pointer (some ⟨g, 0, none⟩), .slice Ao19 y204.length co19] (by rfl) rfl rfl (by first | (simp only [List.map_toArray, List.map_cons, List.map_nil, Act.eval, Array.getD_eq_getD_getElem?, Option.getD_some, e17, e18]; done) | (simp only [List.map_toArray, List.map_cons, List.map_nil, Act.eval, Array.getD_eq_getD_getElem?, Option.getD_some, e17, e18]; rfl)) ?_
     with_reducible refine (spec_l1Cur_among.calls g l0 t202 t203 _ _ y204 t207 t208 t209 w _ ?side1 ?side2 ?side3 ?side4 ?side5 A4.1).mono ?_
     (case side1 => repeat (first | (with_reducible first | exact HI0.1 | apply IsS62.alloc | apply IsS62.drewN | apply IsS62.drew | apply IsS62.set_1 | apply IsS62.set_2 | refine IsS62.far ?_ NB0_193.1 _ | refine IsS62.far ?_ NB0_200.1 _) | exact HI0.1))
     (case side2 => repeat (first | (with_reducible first | exact HB.1 | apply below_alloc | apply pw_below_drewN | apply below_drew1 | refine below_set ?_ (IsS62.ge HI0.1) | refine below_set ?_ GE193.1 | refine below_set ?_ GE200.1) | exact HB.1))
     (case side3 => exact CB (R_reads' HO206.1).2.2)
     (case side4 => exact (R_reads' HO206.1).2.1)
     (case side5 => exact far_slice (IsS62.own_ne HI0.1 HO206.1 (by decide)))
     rintro e w20 ⟨rfl, hi, hb, hk⟩
     refine ⟨_, rfl, ?_⟩
     refine E7 (KeepBut.blk hk (g' := gb193) (o := .cells #[.int .i64 0, .slice none 0 0] 28 (0, 0)) (PB BK193.1) NB193_0.1 (by simp)) (Q_mono (Q_keep (IsS62.apartQ (show IsS62 w _ g l0 t202 t203 from by repeat (first | (with_reducible first | exact HI0.1 | apply IsS62.alloc | apply IsS62.drewN | apply IsS62.drew | apply IsS62.set_1 | apply IsS62.set_2 | refine IsS62.far ?_ NB0_193.1 _ | refine IsS62.far ?_ NB0_200.1 _) | exact HI0.1)) (by (with_reducible repeat (first | apply Q_alloc | apply Q_drewN | apply Q_drew)); exact HO197.1) (by decide)) hk (fun _ h => h.2)) (fun _ h => h.1)) (KeepBut.blk hk (g' := gb200) (o := .cells #[.int .i64 t194, .slice Ao12 t195.length co12] 28 (0, 0)) (PB BK200.1) NB200_0.1 (by simp)) (R_mono (R_keep (IsS62.apart (show IsS62 w _ g l0 t202 t203 from by repeat (first | (with_reducible first | exact HI0.1 | apply IsS62.alloc | apply IsS62.drewN | apply IsS62.drew | apply IsS62.set_1 | apply IsS62.set_2 | refine IsS62.far ?_ NB0_193.1 _ | refine IsS62.far ?_ NB0_200.1 _) | exact HI0.1)) (PR HO206.1) (by decide)) hk (fun _ h => h.2)) (fun _ h => h.1)) (KeepBut.trans (by repeat (first | (with_reducible first | exact HK.1 | apply KeepBut.set_ | apply keep_drewN | apply keep_drew | apply keep_alloc | refine keep_far ?_ GW193.1 _ | refine keep_far ?_ GW200.1 _) | exact HK.1)) hk (.inl rfl)) (hb) (hi) ?_
     clear BK193 HO197 BK200 HO206 HK HB HI0
     intro BK193 HO197 BK200 HO206 HK HB HI0
     (try clear hb)
     (try clear hb2)
     (try clear hk)
     (try clear hi)
     refine hK.out _ _ ⟨.slice Ao19 y204.length co19, v211, (by rw [ha.1]; exact putSel_upk 4 hb_ rfl rfl rfl), (by (with_reducible repeat (first | apply Q_alloc | apply Q_drewN | apply Q_drew)); exact Q_mono HO197.1 (fun _ _ => trivial)), fun _ => (PB BK193.1), (PB BK200.1), fun h0_ => absurd ((hon 3 (by kernel_rfl)).symm.trans h0_) (by decide), (by repeat (first | (with_reducible first | exact HK.1 | apply KeepBut.set_ | apply keep_drewN | apply keep_drew | apply keep_alloc | refine keep_far ?_ GW193.1 _ | refine keep_far ?_ GW200.1 _) | exact HK.1)), (by repeat (first | (with_reducible first | exact HB.1 | apply below_alloc | apply pw_below_drewN | apply below_drew1 | refine below_set ?_ (IsS62.ge HI0.1) | refine below_set ?_ GE193.1 | refine below_set ?_ GE200.1) | exact HB.1)), fun _ h1_ => absurd ((up_self b 7).symm.trans h1_) (by decide), fun _ => (by first | exact R_mono HO206.1 (fun _ _ => trivial) | exact PR HO206.1), fun _ _ => (by repeat (first | (with_reducible first | exact HI0.1 | apply IsS62.alloc | apply IsS62.drewN | apply IsS62.drew | apply IsS62.set_1 | apply IsS62.set_2 | refine IsS62.far ?_ NB0_193.1 _ | refine IsS62.far ?_ NB0_200.1 _) | exact HI0.1)), fun h0_ => absurd ((hoff 8 (by kernel_rfl)).symm.trans h0_) (by decide), fun h0_ => absurd ((hoff 9 (by kernel_rfl)).symm.trans h0_) (by decide), fun h0_ => absurd ((hoff 10 (by kernel_rfl)).symm.trans h0_) (by decide)⟩
   refine steps_cons ?_ ?_
   · rintro b a w' ⟨v205, v211, ha, Q_HO197, Q_BK193, Q_BK200, Q_HI0, Q_HK, Q_HB, Q_HI0_e3, Q_HO206, Q_HI0_e7, Q_HO212, Q_HI0_e9, Q_BK193_e10⟩ hb_ hon hoff
     refine ⟨_, rfl, fun K hK => ?_⟩
     have e19 : a.tmps[19]? = some (.int .i64 t207) := by rw [ha]; exact putSel_on (e := (7, 19, .int .i64 t207)) 4 rfl rfl (hon 7 (by kernel_rfl)) rfl
     replace ha := Aside0.mk ha
     have HO197 := Aside0.mk Q_HO197
     have BK193 := Aside0.mk (Q_BK193 (hoff 10 (by kernel_rfl)))
     have BK200 := Aside0.mk Q_BK200
     have HK := Aside0.mk Q_HK
     have HB := Aside0.mk Q_HB
     have HO206 := Aside0.mk (Q_HO206 (hon 6 (by kernel_rfl)))
     have HI0 := Aside0.mk (Q_HI0_e7 (hon 7 (by kernel_rfl)) (hoff 9 (by kernel_rfl)))
     refine R_lit_step (Kd.int .i64) _ 3 ?hg (N := 20) ?hd (xs := ([0, 1, 0, 1, t207] : List Int)) (inner := [.int .i64 0, .int .i64 1, .int .i64 0, .int .i64 1, .int .i64 t207]) (ok := fun _ => True) (okp := fun _ => True) ?hr ?hp (fun _ hk => hk) trivial (Below.refl _ _) (Nat.le_refl _) (by simp) ?_; (case hd => rfl); (case hg => rfl); (case hr => first | (go_simp; done) | (go_simp; rfl)); (case hp => exact (Reps.one (show Kd.M (Kd.int .i64) _ _ _ 0 [.int .i64 0] from rfl) (Reps.one (show Kd.M (Kd.int .i64) _ _ _ 1 [.int .i64 1] from rfl) (Reps.one (show Kd.M (Kd.int .i64) _ _ _ 0 [.int .i64 0] from rfl) (Reps.one (show Kd.M (Kd.int .i64) _ _ _ 1 [.int .i64 1] from rfl) (Reps.one (show Kd.M (Kd.int .i64) _ _ _ t207 [.int .i64 t207] from rfl) (Reps.none _ _)))))))
     intro v211 w21 ho22 hb hg_ hnew_
     clear hg_ hnew_
     (first | rw [<- Ny210.1] at ho22 | (simp only [Int.reduceToNat] at ho22; rw [<- Ny210.1] at ho22))
     refine E8 (Q_elder' (by (with_reducible repeat (first | apply Q_alloc | apply Q_drewN | apply Q_drew)); exact HO197.1) (R_base ho22) hb) (R_elder' (PR HO206.1) (R_base ho22) hb) (R_lower (R_new' (R_new' ho22 (Q_lt (by (with_reducible repeat (first | apply Q_alloc | apply Q_drewN | apply Q_drew)); exact HO197.1))) (R_lt (PR HO206.1))) (keep_size (w := w) (g := g) (row := none) (by repeat (first | (with_reducible first | exact HK.1 | apply KeepBut.set_ | apply keep_drewN | apply keep_drew | apply keep_alloc | refine keep_far ?_ GW193.1 _ | refine keep_far ?_ GW200.1 _) | exact HK.1)))) (IsS62.below (by repeat (first | (with_reducible first | exact HI0.1 | apply IsS62.alloc | apply IsS62.drewN | apply IsS62.drew | apply IsS62.set_1 | apply IsS62.set_2 | refine IsS62.far ?_ NB0_193.1 _ | refine IsS62.far ?_ NB0_200.1 _) | exact HI0.1)) hb) (bB BK193.1 hb) (bB BK200.1 hb) (KeepBut.trans (by repeat (first | (with_reducible first | exact HK.1 | apply KeepBut.set_ | apply keep_drewN | apply keep_drew | apply keep_alloc | refine keep_far ?_ GW193.1 _ | refine keep_far ?_ GW200.1 _) | exact HK.1)) (KeepBut.of_below hb g none) (.inl rfl)) (below_step (by repeat (first | (with_reducible first | exact HB.1 | apply below_alloc | apply pw_below_drewN | apply below_drew1 | refine below_set ?_ (IsS62.ge HI0.1) | refine below_set ?_ GE193.1 | refine below_set ?_ GE200.1) | exact HB.1)) hb) ?_
     clear HO197 HO206 HI0 BK193 BK200 HK HB
     intro HO197 HO206 HO212 HI0 BK193 BK200 HK HB
     clear hb ho22
     refine hK.out _ _ ⟨v205, v211, (by rw [ha.1]; exact putSel_upk 5 hb_ rfl rfl rfl), (by (with_reducible repeat (first | apply Q_alloc | apply Q_drewN | apply Q_drew)); exact Q_mono HO197.1 (fun _ _ => trivial)), fun _ => (PB BK193.1), (PB BK200.1), fun h0_ => absurd ((hon 3 (by kernel_rfl)).symm.trans h0_) (by decide), (by repeat (first | (with_reducible first | exact HK.1 | apply KeepBut.set_ | apply keep_drewN | apply keep_drew | apply keep_alloc | refine keep_far ?_ GW193.1 _ | refine keep_far ?_ GW200.1 _) | exact HK.1)), (by repeat (first | (with_reducible first | exact HB.1 | apply below_alloc | apply pw_below_drewN | apply below_drew1 | refine below_set ?_ (IsS62.ge HI0.1) | refine below_set ?_ GE193.1 | refine below_set ?_ GE200.1) | exact HB.1)), fun _ h1_ => absurd ((hon 7 (by kernel_rfl)).symm.trans h1_) (by decide), fun _ => (by first | exact R_mono HO206.1 (fun _ _ => trivial) | exact PR HO206.1), fun _ _ => (by repeat (first | (with_reducible first | exact HI0.1 | apply IsS62.alloc | apply IsS62.drewN | apply IsS62.drew | apply IsS62.set_1 | apply IsS62.set_2 | refine IsS62.far ?_ NB0_193.1 _ | refine IsS62.far ?_ NB0_200.1 _) | exact HI0.1)), fun _ => (by first | exact R_mono HO212.1 (fun _ _ => trivial) | exact PR HO212.1), fun h0_ => absurd ((hoff 9 (by kernel_rfl)).symm.trans h0_) (by decide), fun h0_ => absurd ((hoff 10 (by kernel_rfl)).symm.trans h0_) (by decide)⟩
   refine steps_cons ?_ ?_
   · rintro b a w' ⟨v205, v211, ha, Q_HO197, Q_BK193, Q_BK200, Q_HI0, Q_HK, Q_HB, Q_HI0_e3, Q_HO206, Q_HI0_e7, Q_HO212, Q_HI0_e9, Q_BK193_e10⟩ hb_ hon hoff
     refine ⟨_, rfl, fun K hK => ?_⟩
     have e16 : a.tmps[16]? = some (.pointer (some ⟨g, 0, none⟩)) := by rw [ha]; exact (putSel_off rfl).trans rfl
     have e20 : a.tmps[20]? = some (v211) := by rw [ha]; exact putSel_on (e := (8, 20, v211)) 5 rfl rfl (hon 8 (by kernel_rfl)) rfl
     replace ha := Aside0.mk ha
     have HO197 := Aside0.mk Q_HO197
     have BK193 := Aside0.mk (Q_BK193 (hoff 10 (by kernel_rfl)))
     have BK200 := Aside0.mk Q_BK200
     have HK := Aside0.mk Q_HK
     have HB := Aside0.mk Q_HB
     have HO206 := Aside0.mk (Q_HO206 (hon 6 (by kernel_rfl)))
     have HI0 := Aside0.mk (Q_HI0_e7 (hon 7 (by kernel_rfl)) hb_)
     have HO212 := Aside0.mk (Q_HO212 (hon 8 (by kernel_rfl)))
     obtain ⟨Ao23, co23, eo23⟩ := R_slice HO212.1
     (first | subst eo23 | (injection eo23 with f1_ f2_ f3_; have f4_ := f1_.symm; have f5_ := f3_.symm; clear f1_ f2_ f3_; subst f4_; subst f5_))
     refine goes_ Try.func45 (by kernel_rfl) rfl #[.pointer (some ⟨g, 0, none⟩), .slice Ao23 y210.length co23] (by rfl) rfl rfl (by first | (simp only [List.map_toArray, List.map_cons, List.map_nil, Act.eval, Array.getD_eq_getD_getElem?, Option.getD_some, e16, e20]; done) | (simp only [List.map_toArray, List.map_cons, List.map_nil, Act.eval, Array.getD_eq_getD_getElem?, Option.getD_some, e16, e20]; rfl)) ?_
     with_reducible refine (spec_l1Cur_among.calls g l0 t208 t209 _ _ y210 t213 t214 t215 w _ ?side1 ?side2 ?side3 ?side4 ?side5 A5.1).mono ?_
     (case side1 => repeat (first | (with_reducible first | exact HI0.1 | apply IsS62.alloc | apply IsS62.drewN | apply IsS62.drew | apply IsS62.set_1 | apply IsS62.set_2 | refine IsS62.far ?_ NB0_193.1 _ | refine IsS62.far ?_ NB0_200.1 _) | exact HI0.1))
     (case side2 => repeat (first | (with_reducible first | exact HB.1 | apply below_alloc | apply pw_below_drewN | apply below_drew1 | refine below_set ?_ (IsS62.ge HI0.1) | refine below_set ?_ GE193.1 | refine below_set ?_ GE200.1) | exact HB.1))
     (case side3 => exact CB (R_reads' HO212.1).2.2)
     (case side4 => exact (R_reads' HO212.1).2.1)
     (case side5 => exact far_slice (IsS62.own_ne HI0.1 HO212.1 (by decide)))
     rintro e w24 ⟨rfl, hi, hb, hk⟩
     refine ⟨_, rfl, ?_⟩
     refine E8 (KeepBut.blk hk (g' := gb193) (o := .cells #[.int .i64 0, .slice none 0 0] 28 (0, 0)) (PB BK193.1) NB193_0.1 (by simp)) (Q_mono (Q_keep (IsS62.apartQ (show IsS62 w _ g l0 t208 t209 from by repeat (first | (with_reducible first | exact HI0.1 | apply IsS62.alloc | apply IsS62.drewN | apply IsS62.drew | apply IsS62.set_1 | apply IsS62.set_2 | refine IsS62.far ?_ NB0_193.1 _ | refine IsS62.far ?_ NB0_200.1 _) | exact HI0.1)) (by (with_reducible repeat (first | apply Q_alloc | apply Q_drewN | apply Q_drew)); exact HO197.1) (by decide)) hk (fun _ h => h.2)) (fun _ h => h.1)) (KeepBut.blk hk (g' := gb200) (o := .cells #[.int .i64 t194, .slice Ao12 t195.length co12] 28 (0, 0)) (PB BK200.1) NB200_0.1 (by simp)) (R_mono (R_keep (IsS62.apart (show IsS62 w _ g l0 t208 t209 from by repeat (first | (with_reducible first | exact HI0.1 | apply IsS62.alloc | apply IsS62.drewN | apply IsS62.drew | apply IsS62.set_1 | apply IsS62.set_2 | refine IsS62.far ?_ NB0_193.1 _ | refine IsS62.far ?_ NB0_200.1 _) | exact HI0.1)) (PR HO206.1) (by decide)) hk (fun _ h => h.2)) (fun _ h => h.1)) (R_mono (R_keep (IsS62.apart (show IsS62 w _ g l0 t208 t209 from by repeat (first | (with_reducible first | exact HI0.1 | apply IsS62.alloc | apply IsS62.drewN | apply IsS62.drew | apply IsS62.set_1 | apply IsS62.set_2 | refine IsS62.far ?_ NB0_193.1 _ | refine IsS62.far ?_ NB0_200.1 _) | exact HI0.1)) (PR HO212.1) (by decide)) hk (fun _ h => h.2)) (fun _ h => h.1)) (KeepBut.trans (by repeat (first | (with_reducible first | exact HK.1 | apply KeepBut.set_ | apply keep_drewN | apply keep_drew | apply keep_alloc | refine keep_far ?_ GW193.1 _ | refine keep_far ?_ GW200.1 _) | exact HK.1)) hk (.inl rfl)) (hb) (hi) ?_
     clear BK193 HO197 BK200 HO206 HO212 HK HB HI0
     intro BK193 HO197 BK200 HO206 HO212 HK HB HI0
     (try clear hb)
     (try clear hb2)
     (try clear hk)
     (try clear hi)
     refine hK.out _ _ ⟨v205, .slice Ao23 y210.length co23, (by rw [ha.1]; exact putSel_upk 6 hb_ rfl rfl rfl), (by (with_reducible repeat (first | apply Q_alloc | apply Q_drewN | apply Q_drew)); exact Q_mono HO197.1 (fun _ _ => trivial)), fun _ => (PB BK193.1), (PB BK200.1), fun h0_ => absurd ((hon 3 (by kernel_rfl)).symm.trans h0_) (by decide), (by repeat (first | (with_reducible first | exact HK.1 | apply KeepBut.set_ | apply keep_drewN | apply keep_drew | apply keep_alloc | refine keep_far ?_ GW193.1 _ | refine keep_far ?_ GW200.1 _) | exact HK.1)), (by repeat (first | (with_reducible first | exact HB.1 | apply below_alloc | apply pw_below_drewN | apply below_drew1 | refine below_set ?_ (IsS62.ge HI0.1) | refine below_set ?_ GE193.1 | refine below_set ?_ GE200.1) | exact HB.1)), fun _ h1_ => absurd ((hon 7 (by kernel_rfl)).symm.trans h1_) (by decide), fun _ => (by first | exact R_mono HO206.1 (fun _ _ => trivial) | exact PR HO206.1), fun _ h1_ => absurd ((up_self b 9).symm.trans h1_) (by decide), fun _ => (by first | exact R_mono HO212.1 (fun _ _ => trivial) | exact PR HO212.1), fun _ => (by repeat (first | (with_reducible first | exact HI0.1 | apply IsS62.alloc | apply IsS62.drewN | apply IsS62.drew | apply IsS62.set_1 | apply IsS62.set_2 | refine IsS62.far ?_ NB0_193.1 _ | refine IsS62.far ?_ NB0_200.1 _) | exact HI0.1)), fun h0_ => absurd ((hoff 10 (by kernel_rfl)).symm.trans h0_) (by decide)⟩
   refine steps_cons ?_ ?_
   · rintro b a w' ⟨v205, v211, ha, Q_HO197, Q_BK193, Q_BK200, Q_HI0, Q_HK, Q_HB, Q_HI0_e3, Q_HO206, Q_HI0_e7, Q_HO212, Q_HI0_e9, Q_BK193_e10⟩ hb_ hon hoff
     refine ⟨_, rfl, fun K hK => ?_⟩
     have e2 : a.tmps[2]? = some (.pointer (some ⟨gb193, 0, none⟩)) := by rw [ha]; exact (putSel_off rfl).trans rfl
     have e12 : a.tmps[12]? = some (.agg #[.int .i64 t194, .slice Ao12 t195.length co12]) := by rw [ha]; exact putSel_on (e := (0, 12, .agg #[.int .i64 t194, .slice Ao12 t195.length co12])) 0 rfl rfl (hon 0 (by kernel_rfl)) rfl
     replace ha := Aside0.mk ha
     have HO197 := Aside0.mk Q_HO197
     have BK193 := Aside0.mk (Q_BK193 hb_)
     have BK200 := Aside0.mk Q_BK200
     have HK := Aside0.mk Q_HK
     have HB := Aside0.mk Q_HB
     have HO206 := Aside0.mk (Q_HO206 (hon 6 (by kernel_rfl)))
     have HO212 := Aside0.mk (Q_HO212 (hon 8 (by kernel_rfl)))
     have HI0 := Aside0.mk (Q_HI0_e9 (hon 9 (by kernel_rfl)))
     obtain ⟨hs25, hs26, hfs25, hfs26⟩ := cz2 BK193.1
     refine skip_ (w1 := ?_) (by rfl) rfl ?_ ?_
     rotate_left
     · go_simp
       rfl
     refine hK.out _ _ ⟨v205, v211, (by rw [ha.1]; exact putSel_none (v := undef) rfl), (by (with_reducible repeat (first | apply Q_alloc | apply Q_drewN | apply Q_drew)); exact Q_mono (Q_far (p := ⟨gb193, 1, none⟩) (Q_far (p := ⟨gb193, 0, none⟩) (Q_types HO197.1 BK193.1 (by decide)) (fun _ hk => hk.2) (.int .i64 t194)) (fun _ hk => hk.2) (.slice Ao12 t195.length co12)) (fun _ _ => trivial)), fun h0_ => absurd ((up_self b 10).symm.trans h0_) (by decide), (PF1 NB200_193.1 BK200.1), fun h0_ => absurd ((hon 3 (by kernel_rfl)).symm.trans h0_) (by decide), (by repeat (first | (with_reducible first | exact HK.1 | apply KeepBut.set_ | apply keep_drewN | apply keep_drew | apply keep_alloc | refine keep_far ?_ GW193.1 _ | refine keep_far ?_ GW200.1 _) | exact HK.1)), (by repeat (first | (with_reducible first | exact HB.1 | apply below_alloc | apply pw_below_drewN | apply below_drew1 | refine below_set ?_ (IsS62.ge HI0.1) | refine below_set ?_ GE193.1 | refine below_set ?_ GE200.1) | exact HB.1)), fun _ h1_ => absurd ((hon 7 (by kernel_rfl)).symm.trans h1_) (by decide), fun _ => (by (with_reducible repeat (first | apply R_alloc | apply R_drewN | apply R_drew)); exact R_mono (RQ gb193 1 (RQ gb193 0 (R_types HO206.1 BK193.1 (by decide)) _) _) (fun _ _ => trivial)), fun _ h1_ => absurd ((hon 9 (by kernel_rfl)).symm.trans h1_) (by decide), fun _ => (by (with_reducible repeat (first | apply R_alloc | apply R_drewN | apply R_drew)); exact R_mono (RQ gb193 1 (RQ gb193 0 (R_types HO212.1 BK193.1 (by decide)) _) _) (fun _ _ => trivial)), fun _ => (by repeat (first | (with_reducible first | exact HI0.1 | apply IsS62.alloc | apply IsS62.drewN | apply IsS62.drew | apply IsS62.set_1 | apply IsS62.set_2 | refine IsS62.far ?_ NB0_193.1 _ | refine IsS62.far ?_ NB0_200.1 _) | exact HI0.1)), fun _ => (PF0 BK193.1)⟩
   refine steps_cons ?_ ?_
   · rintro b a w' ⟨v205, v211, ha, Q_HO197, Q_BK193, Q_BK200, Q_HI0, Q_HK, Q_HB, Q_HI0_e3, Q_HO206, Q_HI0_e7, Q_HO212, Q_HI0_e9, Q_BK193_e10⟩ hb_ hon hoff
     refine ⟨_, rfl, fun K hK => ?_⟩
     have e15 : a.tmps[15]? = some (.int .i64 t201) := by rw [ha]; exact putSel_on (e := (3, 15, .int .i64 t201)) 2 rfl rfl (hon 3 (by kernel_rfl)) rfl
     replace ha := Aside0.mk ha
     have HO197 := Aside0.mk Q_HO197
     have BK200 := Aside0.mk Q_BK200
     have HK := Aside0.mk Q_HK
     have HB := Aside0.mk Q_HB
     have HO206 := Aside0.mk (Q_HO206 (hon 6 (by kernel_rfl)))
     have HO212 := Aside0.mk (Q_HO212 (hon 8 (by kernel_rfl)))
     have HI0 := Aside0.mk (Q_HI0_e9 (hon 9 (by kernel_rfl)))
     have BK193 := Aside0.mk (Q_BK193_e10 (hon 10 (by kernel_rfl)))
     refine value_ (w1 := w') (v := .int .i64 t201) (by rfl) rfl ?_ ?_
     · go_simp
       (try simp only [i64_w])
       try rfl
     refine hK.out _ _ ⟨v205, v211, (by rw [ha.1]; exact putSel_upk 7 hb_ rfl rfl rfl), Q_HO197, fun h0_ => absurd ((hon 10 (by kernel_rfl)).symm.trans h0_) (by decide), Q_BK200, fun h0_ => absurd ((hon 3 (by kernel_rfl)).symm.trans h0_) (by decide), Q_HK, Q_HB, fun _ h1_ => absurd ((hon 7 (by kernel_rfl)).symm.trans h1_) (by decide), Q_HO206, fun _ h1_ => absurd ((hon 9 (by kernel_rfl)).symm.trans h1_) (by decide), Q_HO212, Q_HI0_e9, Q_BK193_e10⟩
   refine steps_cons ?_ ?_
   · rintro b a w' ⟨v205, v211, ha, Q_HO197, Q_BK193, Q_BK200, Q_HI0, Q_HK, Q_HB, Q_HI0_e3, Q_HO206, Q_HI0_e7, Q_HO212, Q_HI0_e9, Q_BK193_e10⟩ hb_ hon hoff
     refine ⟨_, rfl, fun K hK => ?_⟩
     have e21 : a.tmps[21]? = some (.int .i64 t213) := by rw [ha]; exact putSel_on (e := (9, 21, .int .i64 t213)) 6 rfl rfl (hon 9 (by kernel_rfl)) rfl
     replace ha := Aside0.mk ha
     have HO197 := Aside0.mk Q_HO197
     have BK200 := Aside0.mk Q_BK200
     have HK := Aside0.mk Q_HK
     have HB := Aside0.mk Q_HB
     have HO206 := Aside0.mk (Q_HO206 (hon 6 (by kernel_rfl)))
     have HO212 := Aside0.mk (Q_HO212 (hon 8 (by kernel_rfl)))
     have HI0 := Aside0.mk (Q_HI0_e9 (hon 9 (by kernel_rfl)))
     have BK193 := Aside0.mk (Q_BK193_e10 (hon 10 (by kernel_rfl)))
     refine value_ (w1 := w') (v := .int .i64 t213) (by rfl) rfl ?_ ?_
     · go_simp
       (try simp only [i64_w])
       try rfl
     refine hK.out _ _ ⟨v205, v211, (by rw [ha.1]; exact putSel_upk 8 hb_ rfl rfl rfl), Q_HO197, fun h0_ => absurd ((hon 10 (by kernel_rfl)).symm.trans h0_) (by decide), Q_BK200, fun h0_ => absurd ((hon 3 (by kernel_rfl)).symm.trans h0_) (by decide), Q_HK, Q_HB, fun _ h1_ => absurd ((hon 7 (by kernel_rfl)).symm.trans h1_) (by decide), Q_HO206, fun _ h1_ => absurd ((hon 9 (by kernel_rfl)).symm.trans h1_) (by decide), Q_HO212, Q_HI0_e9, Q_BK193_e10⟩
   exact steps_nil
 rintro b a w26 hall ⟨v205, v211, ha, Q_HO197, Q_BK193, Q_BK200, Q_HI0, Q_HK, Q_HB, Q_HI0_e3, Q_HO206, Q_HI0_e7, Q_HO212, Q_HI0_e9, Q_BK193_e10⟩
 clear BK193 BK200 HB HI0 HK HO197
 have hb0_ := hall 0 (by kernel_rfl)
 have hb2_ := hall 2 (by kernel_rfl)
 have hb3_ := hall 3 (by kernel_rfl)
 have hb6_ := hall 6 (by kernel_rfl)
 have hb7_ := hall 7 (by kernel_rfl)
 have hb8_ := hall 8 (by kernel_rfl)
 have hb9_ := hall 9 (by kernel_rfl)
 have hb10_ := hall 10 (by kernel_rfl)
 have hb11_ := hall 11 (by kernel_rfl)
 have hb12_ := hall 12 (by kernel_rfl)
 subst ha
 simp only [putSel, hb0_, hb2_, hb3_, hb6_, hb7_, hb8_, hb9_, hb10_, hb11_, hb12_, if_true, Act.put, List.setIfInBounds_toArray, List.set_cons_zero, List.set_cons_succ]
 have HO197 := Aside0.mk Q_HO197
 clear Q_HO197
 clear Q_BK193
 have BK200 := Aside0.mk Q_BK200
 clear Q_BK200
 clear Q_HI0
 have HK := Aside0.mk Q_HK
 clear Q_HK
 have HB := Aside0.mk Q_HB
 clear Q_HB
 clear Q_HI0_e3
 have HO206 := Aside0.mk (Q_HO206 hb6_)
 clear Q_HO206
 clear Q_HI0_e7
 have HO212 := Aside0.mk (Q_HO212 hb8_)
 clear Q_HO212
 have HI0 := Aside0.mk (Q_HI0_e9 hb9_)
 clear Q_HI0_e9
 have BK193 := Aside0.mk (Q_BK193_e10 hb10_)
 clear Q_BK193_e10
 clear hall hb0_ hb2_ hb3_ hb6_ hb7_ hb8_ hb9_ hb10_ hb11_ hb12_
 try go_wp2
 refine bodyPost_ret (results_ctt rfl _ _ gb193 28 #[.int .i64 t194, .slice Ao12 t195.length co12] (0, 0) _ rfl (PB BK193.1) Try.underlying28 rfl (by kernel_rfl)) rfl ?_
 exact ⟨_, g, RF, by (with_reducible repeat (first | apply Q_alloc | apply Q_drewN | apply Q_drew)); exact Q_mono HO197.1 (fun _ hk => trivial), by repeat (first | (with_reducible first | exact HI0.1 | apply IsS62.alloc | apply IsS62.drewN | apply IsS62.drew | apply IsS62.set_1 | apply IsS62.set_2 | refine IsS62.far ?_ NB0_193.1 _ | refine IsS62.far ?_ NB0_200.1 _) | exact HI0.1), by repeat (first | (with_reducible first | exact HB.1 | apply below_alloc | apply pw_below_drewN | apply below_drew1 | refine below_set ?_ (IsS62.ge HI0.1) | refine below_set ?_ GE193.1 | refine below_set ?_ GE200.1) | exact HB.1), by repeat (first | (with_reducible first | exact HK.1 | apply KeepBut.set_ | apply keep_drewN | apply keep_drew | apply keep_alloc | refine keep_far ?_ GW193.1 _ | refine keep_far ?_ GW200.1 _) | exact HK.1)⟩
theorem spec_DrawFixInput.calls (k : Nat) (A0 : Option Addr) (c0 : Nat) (l0 : List Int) (r1 : Int) (r2 : List Int) (r3 : Int) (r4 : Int) (w : World) (hr0 : Kd.C (Kd.int .u8) w A0 l0.length l0) (hc0 : l0.length <= c0) (h : spec_DrawFixInput.f k l0 = some (r1, r2, r3, r4)) :
 Calls Try.prog 14 #[.slice A0 l0.length c0] w fun e w' => ∃ v1_ : Value, e = .returned (.tuple #[.agg #[.int .i64 r1, v1_], .int .i64 r3, .int .i64 r4]) /\ Kd.Q (Kd.int .i64) 3 w' w.heap.size (fun _ => True) v1_ r2 /\ Below w.heap.size w w' := by
 unfold spec_DrawFixInput.f at h
 replace h := bindA h; obtain ⟨⟨t0, t1, t2, t3, t4, t5⟩, A2, h⟩ := h
 simp only [Option.some.injEq, Prod.mk.injEq] at h
 obtain ⟨rfl, rfl, rfl, rfl⟩ := h
 exact (spec_DrawFixInput.walk k A0 c0 l0 t0 t1 t2 t3 t4 t5 w hr0 A2.1).mono fun e w' ⟨v, g, h1, h2, _, h4, _⟩ => ⟨v, h1, h2, h4⟩

/-! ### impl_areBits: function 61 -/
open Kd
def impl_areBits.l0 : Nat -> List Int -> Int -> Int -> Option (Bool)
 | 0, _, _, _ => none
 | k + 1, x5, x6, x7 => if x7 < x6 then (if 0 <= x7 then (if x7 < (x5.length : Int) then (if (rd x5 x7) = 0 then (impl_areBits.l0 k x5 x6 (wrap64 (x7 + 1))) else (if (rd x5 x7) = 1 then (impl_areBits.l0 k x5 x6 (wrap64 (x7 + 1))) else (some false))) else (none)) else (none)) else (some true)
def impl_areBits.f (k : Nat) (l0 : List Int) : Option (Bool) := impl_areBits.l0 k l0 (l0.length : Int) 0
theorem impl_areBits.mono_l : ∀ k, (∀ y0 y1 y2, LeO (impl_areBits.l0 k y0 y1 y2) (impl_areBits.l0 (k + 1) y0 y1 y2))
 | 0 => fun _ _ _ r h => by simp [impl_areBits.l0] at h
 | k + 1 => by
  have ih0 := impl_areBits.mono_l k
  intros
  first | unfold impl_areBits.l0
  exact LM1 ih0
theorem impl_areBits.mono : ∀ a0 k, LeO (impl_areBits.f k a0) (impl_areBits.f (k + 1) a0) := by
 intro a0 k
 have ih0 := impl_areBits.mono_l k
 unfold impl_areBits.f
 exact LM1 ih0
theorem impl_areBits.calls (k : Nat) (A0 : Option Addr) (c0 : Nat) (l0 : List Int) (r : Bool) (w : World) (hr0 : Kd.C (Kd.int .i64) w A0 l0.length l0) (hc0 : l0.length <= c0) (h : impl_areBits.f k l0 = some r) :
 Calls Try.prog 61 #[.slice A0 l0.length c0] w fun e w' => e = .returned (.bool r) /\ Drawn0 w w' := by
 have HR0 := Aside0.mk hr0
 have HC0 := Aside0.mk hc0
 clear hr0 hc0
 have H := h
 clear h
 unfold impl_areBits.f at H
 have H' := Aside0.mk H
 clear H
 go_enter Try.func61, Try.ntmps61
 go_wp2
 go_loopg [7] k (fun kq v7 w' => ∃ (x7_1 : Int), v7 = .int .i64 x7_1 /\ Aside0 (impl_areBits.l0 kq l0 (l0.length : Int) x7_1 = some r) /\ Aside0 (kq <= k) /\ Drawn0 w w')
 case atStart => exact ⟨(0), RG, H', ⟨Nat.le_refl _⟩, DR⟩
 clear H'
 obtain ⟨x7_1, rfl, HA, HK1, ⟨m1, rfl⟩⟩ := hrel
 cases gk with
 | zero => exact absurd HA.1 (by simp [impl_areBits.l0])
 | succ k1 => ?_
 have H := HA.1
 clear HA
 simp only [impl_areBits.l0] at H
 replace H := ifB H; rcases H with ⟨c2b0, H⟩ | ⟨c2b0, H⟩
 · replace H := ifN H; obtain ⟨c3b0, H⟩ := H
   replace H := ifN H; obtain ⟨c4b0, H⟩ := H
   replace H := ifQ H; rcases H with ⟨c5, H⟩ | ⟨c5, H⟩
   · have c5b0 := beq_iff_eq.mpr c5
     have c5b1 := bne_eq_false_iff_eq.mpr c5
     clear c5
     have H' := Aside0.mk H
     clear H
     have p193 : 0 <= (x7_1 : Int) := OD
     have q193 : x7_1 < (l0.length : Int) := OD
     obtain ⟨ad193, e193, hx193_0⟩ := Kd.at_int HR0.1 x7_1 p193 q193
     cases e193
     replace p193 := eq_true p193
     replace q193 := eq_true q193
     go_wp2
     go_roundg k1
     case measure => have := HK1.1; omega
     case rel => exact ⟨(wrap64 (x7_1 + 1)), RG, H', ⟨by have := HK1.1; omega⟩, DR⟩
   have c5b0 := beq_eq_false_iff_ne.mpr c5
   have c5b1 := bne_iff_ne.mpr c5
   replace H := ifQ H; rcases H with ⟨c6, H⟩ | ⟨c6, H⟩
   · have c6b0 := beq_iff_eq.mpr c6
     have c6b1 := bne_eq_false_iff_eq.mpr c6
     clear c6
     have H' := Aside0.mk H
     clear H
     have p193 : 0 <= (x7_1 : Int) := OD
     have q193 : x7_1 < (l0.length : Int) := OD
     obtain ⟨ad193, e193, hx193_0⟩ := Kd.at_int HR0.1 x7_1 p193 q193
     cases e193
     replace p193 := eq_true p193
     replace q193 := eq_true q193
     go_wp2
     go_roundg k1
     case measure => have := HK1.1; omega
     case rel => exact ⟨(wrap64 (x7_1 + 1)), RG, H', ⟨by have := HK1.1; omega⟩, DR⟩
   have c6b0 := beq_eq_false_iff_ne.mpr c6
   have c6b1 := bne_iff_ne.mpr c6
   obtain rfl := Option.some.inj H
   have p193 : 0 <= (x7_1 : Int) := OD
   have q193 : x7_1 < (l0.length : Int) := OD
   obtain ⟨ad193, e193, hx193_0⟩ := Kd.at_int HR0.1 x7_1 p193 q193
   cases e193
   replace p193 := eq_true p193
   replace q193 := eq_true q193
   go_wp2
   go_ret
   exact ⟨RG, DR⟩
 obtain rfl := Option.some.inj H
 go_wp2
 go_ret
 exact ⟨RG, DR⟩
/-! ### impl_IsTable: function 39 -/
open Kd
def impl_IsTable.f (k : Nat) (a0_0 : Int) (l0_1 : List Int) : Option (Bool) := if a0_0 ≥ 0 then (if a0_0 <= 4 then (if 0 <= a0_0 then (if (l0_1.length : Int) = (shl .i64 1 a0_0) then ((impl_areBits.f k l0_1).bind fun t195 => (some t195)) else (some false)) else (none)) else (some false)) else (some false)
theorem impl_IsTable.mono : ∀ a0 a1 k, LeO (impl_IsTable.f k a0 a1) (impl_IsTable.f (k + 1) a0 a1) := by
 intro a0 a1 k
 unfold impl_IsTable.f
 repeat' first
  | (with_reducible exact impl_areBits.mono _ _)
  | (with_reducible exact LeO.refl _)
  | (with_reducible exact LeO.none _)
  | (with_reducible refine LeO.ite ?_ ?_)
  | (with_reducible refine LeO.bind ?_ (fun _ => ?_))
  | exact impl_areBits.mono _ _
  | exact LeO.none _
  | refine LeO.ite ?_ ?_
  | refine LeO.bind ?_ (fun _ => ?_)
theorem impl_IsTable.calls (k : Nat) (a0_0 : Int) (A0_1 : Option Addr) (c0_1 : Nat) (l0_1 : List Int) (r : Bool) (w : World) (hr0_1 : Kd.C (Kd.int .i64) w A0_1 l0_1.length l0_1) (hc0_1 : l0_1.length <= c0_1) (h : impl_IsTable.f k a0_0 l0_1 = some r) :
 Calls Try.prog 39 #[.agg #[.int .i64 a0_0, .slice A0_1 l0_1.length c0_1]] w fun e w' => e = .returned (.bool r) /\ Below w.heap.size w w' := by
 have hu28 := Try.underlying28
 have HR0_1 := Aside0.mk hr0_1
 have HC0_1 := Aside0.mk hc0_1
 clear hr0_1 hc0_1
 have HB := Aside0.mk (Below.refl w.heap.size w)
 have H := h
 clear h
 unfold impl_IsTable.f at H
 replace H := ifQ H; rcases H with ⟨c2, H⟩ | ⟨c2, H⟩
 · have c2b0 : decide (0 <= a0_0) = true := decide_eq_true c2
   clear c2
   replace H := ifB H; rcases H with ⟨c3b0, H⟩ | ⟨c3b0, H⟩
   · replace H := ifP H; obtain ⟨c4, H⟩ := H
     have c4b0 := eq_true c4
     have c4b1 := decide_eq_true c4
     clear c4
     obtain ⟨ji5, hji5⟩ : ∃ j_ : Int, (shl .i64 1 a0_0) = j_ := ⟨_, rfl⟩
     replace H : (if (l0_1.length : Int) = (ji5) then ((impl_areBits.f k l0_1).bind fun t195 => (some t195)) else (some false)) = some r := by first | (rw [hji5] at H; exact H) | (simp only [hji5] at H ⊢; exact H)
     have hji5_ : (IntKind.i64.wrap (1 * 2 ^ min a0_0.toNat 64)) = ji5 := hji5
     have hji5z : a0_0 <= 64 -> (IntKind.i64.wrap (1 * 2 ^ a0_0.toNat)) = ji5 := shl_small hji5
     have hji5u : (IntKind.i64.wrap (2 ^ min a0_0.toNat 64)) = ji5 := by have h_ := hji5_; rw [Int.one_mul] at h_; exact h_
     have hji5v : a0_0 <= 64 -> (IntKind.i64.wrap (2 ^ a0_0.toNat)) = ji5 := fun hle_ => by have h_ := hji5z hle_; rw [Int.one_mul] at h_; exact h_
     have hji5y : (wrap64 (1 * 2 ^ min a0_0.toNat 64)) = ji5 := (i64_w _).symm.trans hji5_
     have hji5x : a0_0 <= 64 -> (wrap64 (1 * 2 ^ a0_0.toNat)) = ji5 := fun h_ => (i64_w _).symm.trans (hji5z h_)
     replace H := ifQ H; rcases H with ⟨c6, H⟩ | ⟨c6, H⟩
     · have c6b0 := beq_iff_eq.mpr c6
       have c6b1 := bne_eq_false_iff_eq.mpr c6
       clear c6
       replace H := bindA H; obtain ⟨t195, A7, H⟩ := H
       obtain rfl := Option.some.inj H
       go_enter Try.func39, Try.ntmps39
       go_wp2_with (first | ((with_reducible refine gate_dst (N := 1) rfl ?_); (try (refine gate_guard (by rfl) ?_; dsimp only)); refine boxE (cs := #[.int .i64 a0_0, .slice A0_1 l0_1.length c0_1]) (t := 28) ?_; intro gb194 hg w8 hbox hb; refine E4b HB.1 hg hbox hb ?_; clear HB; intro HB BK194 GW194 GE194; clear hb hbox hg; obtain ⟨hcz9_0, hcz9_1, hfz9_0, hfz9_1⟩ := cz2 BK194.1) | (go_at_call 61; (with_reducible refine (impl_areBits.calls k _ _ l0_1 t195 _ ?side1 ?side2 A7.1).mono ?_); (case side1 => exact CB (C_below HR0_1.1 HB.1)); (case side2 => exact HC0_1.1); rintro e w' ⟨rfl, ⟨nd, rfl⟩⟩; (try first | exact ⟨rfl, _, World.drewN_drewN _ _ _⟩ | exact ⟨rfl, _, Eq.trans (World.drewN_drewN _ _ _) (congrArg (World.drewN _) (Nat.add_assoc _ _ _))⟩)))
       repeat (go_quiet (first | ((with_reducible refine gate_dst (N := 1) rfl ?_); (try (refine gate_guard (by rfl) ?_; dsimp only)); refine boxE (cs := #[.int .i64 a0_0, .slice A0_1 l0_1.length c0_1]) (t := 28) ?_; intro gb194 hg w8 hbox hb; refine E4b HB.1 hg hbox hb ?_; clear HB; intro HB BK194 GW194 GE194; clear hb hbox hg; obtain ⟨hcz9_0, hcz9_1, hfz9_0, hfz9_1⟩ := cz2 BK194.1) | (go_at_call 61; (with_reducible refine (impl_areBits.calls k _ _ l0_1 t195 _ ?side1 ?side2 A7.1).mono ?_); (case side1 => exact CB (C_below HR0_1.1 HB.1)); (case side2 => exact HC0_1.1); rintro e w' ⟨rfl, ⟨nd, rfl⟩⟩; (try first | exact ⟨rfl, _, World.drewN_drewN _ _ _⟩ | exact ⟨rfl, _, Eq.trans (World.drewN_drewN _ _ _) (congrArg (World.drewN _) (Nat.add_assoc _ _ _))⟩))); try go_wp2_with (first | ((with_reducible refine gate_dst (N := 1) rfl ?_); (try (refine gate_guard (by rfl) ?_; dsimp only)); refine boxE (cs := #[.int .i64 a0_0, .slice A0_1 l0_1.length c0_1]) (t := 28) ?_; intro gb194 hg w8 hbox hb; refine E4b HB.1 hg hbox hb ?_; clear HB; intro HB BK194 GW194 GE194; clear hb hbox hg; obtain ⟨hcz9_0, hcz9_1, hfz9_0, hfz9_1⟩ := cz2 BK194.1) | (go_at_call 61; (with_reducible refine (impl_areBits.calls k _ _ l0_1 t195 _ ?side1 ?side2 A7.1).mono ?_); (case side1 => exact CB (C_below HR0_1.1 HB.1)); (case side2 => exact HC0_1.1); rintro e w' ⟨rfl, ⟨nd, rfl⟩⟩; (try first | exact ⟨rfl, _, World.drewN_drewN _ _ _⟩ | exact ⟨rfl, _, Eq.trans (World.drewN_drewN _ _ _) (congrArg (World.drewN _) (Nat.add_assoc _ _ _))⟩))))
       go_ret
       exact ⟨by first | rfl | (simp [errW_none, errW_some] <;> rfl) | (simp only [<- hji5]; first | rfl | (simp [errW_none, errW_some] <;> rfl)) | (simp [*, errW_none, errW_some] <;> rfl), BL HB.1⟩
     have c6b0 := beq_eq_false_iff_ne.mpr c6
     have c6b1 := bne_iff_ne.mpr c6
     obtain rfl := Option.some.inj H
     go_enter Try.func39, Try.ntmps39
     go_wp2_with (first | ((with_reducible refine gate_dst (N := 1) rfl ?_); (try (refine gate_guard (by rfl) ?_; dsimp only)); refine boxE (cs := #[.int .i64 a0_0, .slice A0_1 l0_1.length c0_1]) (t := 28) ?_; intro gb194 hg w10 hbox hb; refine E4b HB.1 hg hbox hb ?_; clear HB; intro HB BK194 GW194 GE194; clear hb hbox hg; obtain ⟨hcz11_0, hcz11_1, hfz11_0, hfz11_1⟩ := cz2 BK194.1))
     repeat (go_quiet (first | ((with_reducible refine gate_dst (N := 1) rfl ?_); (try (refine gate_guard (by rfl) ?_; dsimp only)); refine boxE (cs := #[.int .i64 a0_0, .slice A0_1 l0_1.length c0_1]) (t := 28) ?_; intro gb194 hg w10 hbox hb; refine E4b HB.1 hg hbox hb ?_; clear HB; intro HB BK194 GW194 GE194; clear hb hbox hg; obtain ⟨hcz11_0, hcz11_1, hfz11_0, hfz11_1⟩ := cz2 BK194.1)); try go_wp2_with (first | ((with_reducible refine gate_dst (N := 1) rfl ?_); (try (refine gate_guard (by rfl) ?_; dsimp only)); refine boxE (cs := #[.int .i64 a0_0, .slice A0_1 l0_1.length c0_1]) (t := 28) ?_; intro gb194 hg w10 hbox hb; refine E4b HB.1 hg hbox hb ?_; clear HB; intro HB BK194 GW194 GE194; clear hb hbox hg; obtain ⟨hcz11_0, hcz11_1, hfz11_0, hfz11_1⟩ := cz2 BK194.1)))
     go_ret
     exact ⟨by first | rfl | (simp [errW_none, errW_some] <;> rfl) | (simp only [<- hji5]; first | rfl | (simp [errW_none, errW_some] <;> rfl)) | (simp [*, errW_none, errW_some] <;> rfl), BL HB.1⟩
   obtain rfl := Option.some.inj H
   go_enter Try.func39, Try.ntmps39
   go_wp2_with (first | ((with_reducible refine gate_dst (N := 1) rfl ?_); (try (refine gate_guard (by rfl) ?_; dsimp only)); refine boxE (cs := #[.int .i64 a0_0, .slice A0_1 l0_1.length c0_1]) (t := 28) ?_; intro gb194 hg w12 hbox hb; refine E4b HB.1 hg hbox hb ?_; clear HB; intro HB BK194 GW194 GE194; clear hb hbox hg; obtain ⟨hcz13_0, hcz13_1, hfz13_0, hfz13_1⟩ := cz2 BK194.1))
   repeat (go_quiet (first | ((with_reducible refine gate_dst (N := 1) rfl ?_); (try (refine gate_guard (by rfl) ?_; dsimp only)); refine boxE (cs := #[.int .i64 a0_0, .slice A0_1 l0_1.length c0_1]) (t := 28) ?_; intro gb194 hg w12 hbox hb; refine E4b HB.1 hg hbox hb ?_; clear HB; intro HB BK194 GW194 GE194; clear hb hbox hg; obtain ⟨hcz13_0, hcz13_1, hfz13_0, hfz13_1⟩ := cz2 BK194.1)); try go_wp2_with (first | ((with_reducible refine gate_dst (N := 1) rfl ?_); (try (refine gate_guard (by rfl) ?_; dsimp only)); refine boxE (cs := #[.int .i64 a0_0, .slice A0_1 l0_1.length c0_1]) (t := 28) ?_; intro gb194 hg w12 hbox hb; refine E4b HB.1 hg hbox hb ?_; clear HB; intro HB BK194 GW194 GE194; clear hb hbox hg; obtain ⟨hcz13_0, hcz13_1, hfz13_0, hfz13_1⟩ := cz2 BK194.1)))
   go_ret
   exact ⟨RF, BL HB.1⟩
 have c2b0 : decide (0 <= a0_0) = false := decide_eq_false c2
 clear c2
 obtain rfl := Option.some.inj H
 go_enter Try.func39, Try.ntmps39
 go_wp2_with (first | ((with_reducible refine gate_dst (N := 1) rfl ?_); (try (refine gate_guard (by rfl) ?_; dsimp only)); refine boxE (cs := #[.int .i64 a0_0, .slice A0_1 l0_1.length c0_1]) (t := 28) ?_; intro gb194 hg w14 hbox hb; refine E4b HB.1 hg hbox hb ?_; clear HB; intro HB BK194 GW194 GE194; clear hb hbox hg; obtain ⟨hcz15_0, hcz15_1, hfz15_0, hfz15_1⟩ := cz2 BK194.1))
 repeat (go_quiet (first | ((with_reducible refine gate_dst (N := 1) rfl ?_); (try (refine gate_guard (by rfl) ?_; dsimp only)); refine boxE (cs := #[.int .i64 a0_0, .slice A0_1 l0_1.length c0_1]) (t := 28) ?_; intro gb194 hg w14 hbox hb; refine E4b HB.1 hg hbox hb ?_; clear HB; intro HB BK194 GW194 GE194; clear hb hbox hg; obtain ⟨hcz15_0, hcz15_1, hfz15_0, hfz15_1⟩ := cz2 BK194.1)); try go_wp2_with (first | ((with_reducible refine gate_dst (N := 1) rfl ?_); (try (refine gate_guard (by rfl) ?_; dsimp only)); refine boxE (cs := #[.int .i64 a0_0, .slice A0_1 l0_1.length c0_1]) (t := 28) ?_; intro gb194 hg w14 hbox hb; refine E4b HB.1 hg hbox hb ?_; clear HB; intro HB BK194 GW194 GE194; clear hb hbox hg; obtain ⟨hcz15_0, hcz15_1, hfz15_0, hfz15_1⟩ := cz2 BK194.1)))
 go_ret
 exact ⟨RF, BL HB.1⟩
/-! ### impl_FixInput: function 15 -/
open Kd
mutual
def impl_FixInput.j0 : Nat -> Int -> Int -> Bool -> Int -> List Int -> Option (Int × List Int × Bool)
 | 0, _, _, _, _, _ => none
 | k + 1, x1, x2, x31, x197000, x197001 => if x31 = true then (some (0, ([] : List Int), false)) else (impl_FixInput.l0 k x1 x2 x197001 (x197001.length : Int) 0 (wrap64 (x197000 - 1)) ([] : List Int))
def impl_FixInput.l0 : Nat -> Int -> Int -> List Int -> Int -> Int -> Int -> List Int -> Option (Int × List Int × Bool)
 | 0, _, _, _, _, _, _, _ => none
 | k + 1, x1, x2, x38, x39, x40, x200000, x200001 => if x40 < x39 then (if 0 <= x40 then (if x40 < (x38.length : Int) then (if 0 <= x1 then (if (Go.bits .and .i64 (shr .i64 x40 x1) 1) = x2 then (if x200001.length < 17592186044416 then (impl_FixInput.l0 k x1 x2 x38 x39 (wrap64 (x40 + 1)) x200000 (x200001 ++ [rd x38 x40])) else (none)) else (impl_FixInput.l0 k x1 x2 x38 x39 (wrap64 (x40 + 1)) x200000 x200001)) else (none)) else (none)) else (none)) else (some (x200000, x200001, true))
end
def impl_FixInput.f (k : Nat) (a0_0 : Int) (l0_1 : List Int) (a1 : Int) (a2 : Int) : Option (Int × List Int × Bool) := (impl_IsTable.f k a0_0 l0_1).bind fun t198 => (if t198 = true then (if a1 < 0 then (impl_FixInput.j0 k a1 a2 true a0_0 l0_1) else (if a1 ≥ a0_0 then (impl_FixInput.j0 k a1 a2 true a0_0 l0_1) else (if a2 < 0 then (impl_FixInput.j0 k a1 a2 true a0_0 l0_1) else (impl_FixInput.j0 k a1 a2 (decide (a2 > 1)) a0_0 l0_1)))) else (impl_FixInput.j0 k a1 a2 true a0_0 l0_1))
theorem impl_FixInput.mono_l : ∀ k, (∀ y0 y1 y2 y3 y4, LeO (impl_FixInput.j0 k y0 y1 y2 y3 y4) (impl_FixInput.j0 (k + 1) y0 y1 y2 y3 y4)) /\ (∀ y0 y1 y2 y3 y4 y5 y6, LeO (impl_FixInput.l0 k y0 y1 y2 y3 y4 y5 y6) (impl_FixInput.l0 (k + 1) y0 y1 y2 y3 y4 y5 y6))
 | 0 => by refine ⟨?_, ?_⟩ <;> (intros; intro r h; first | (simp [impl_FixInput.j0] at h; done) | (simp [impl_FixInput.l0] at h; done))
 | k + 1 => by
  obtain ⟨ih0, ih1⟩ := impl_FixInput.mono_l k
  refine ⟨?_, ?_⟩ <;> (
   intros
   first | unfold impl_FixInput.j0 | unfold impl_FixInput.l0
   exact LM3 ih0 ih1 impl_IsTable.mono)
theorem impl_FixInput.mono : ∀ a0 a1 a2 a3 k, LeO (impl_FixInput.f k a0 a1 a2 a3) (impl_FixInput.f (k + 1) a0 a1 a2 a3) := by
 intro a0 a1 a2 a3 k
 obtain ⟨ih0, ih1⟩ := impl_FixInput.mono_l k
 unfold impl_FixInput.f
 exact LM3 ih0 ih1 impl_IsTable.mono
theorem impl_FixInput.calls (k : Nat) (a0_0 : Int) (A0_1 : Option Addr) (c0_1 : Nat) (l0_1 : List Int) (a1 : Int) (a2 : Int) (r1 : Int) (r2 : List Int) (r3 : Bool) (w : World) (hr0_1 : Kd.C (Kd.int .i64) w A0_1 l0_1.length l0_1) (hc0_1 : l0_1.length <= c0_1) (h : impl_FixInput.f k a0_0 l0_1 a1 a2 = some (r1, r2, r3)) :
 Calls Try.prog 15 #[.agg #[.int .i64 a0_0, .slice A0_1 l0_1.length c0_1], .int .i64 a1, .int .i64 a2] w fun e w' => ∃ v1_ : Value, e = .returned (.tuple #[.agg #[.int .i64 r1, v1_], .bool r3]) /\ Kd.R (Kd.int .i64) 3 w' w.heap.size (fun _ => True) v1_ r2 /\ Below w.heap.size w w' := by
 have hu28 := Try.underlying28
 have HR0_1 := Aside0.mk hr0_1
 have HC0_1 := Aside0.mk hc0_1
 clear hr0_1 hc0_1
 have HB := Aside0.mk (Below.refl w.heap.size w)
 have H := h
 clear h
 unfold impl_FixInput.f at H
 have HC4 := Aside0.mk H
 clear H
 go_enter Try.func15, Try.ntmps15
 go_upto_region 1 with (first | ((with_reducible refine gate_dst (N := 3) rfl ?_); refine boxE (cs := #[.int .i64 a0_0, .slice A0_1 l0_1.length c0_1]) (t := 28) ?_; intro gb196 hg w5 hbox hb; refine E4b HB.1 hg hbox hb ?_; clear HB; intro HB BK196 GW196 GE196; clear hb hbox hg) | ((with_reducible refine gate_dst (N := 6) rfl ?_); refine boxE (cs := #[.int .i64 0, .slice none 0 0]) (t := 28) ?_; intro gb197 hg w6 hbox hb; refine E7 (bB BK196.1 hb) (bS HB.1 hb) (hbox) (gX HB.1 hg) (gX HB.1 hg) (nB BK196.1 hg) (nC BK196.1 hg) ?_; clear BK196 HB; intro BK196 HB BK197 GW197 GE197 NB196_197 NB197_196; clear hb hbox hg))
 (try simp only [Act.put, List.setIfInBounds_toArray, List.set_cons_zero, List.set_cons_succ])
 go_cut [31] (fun v31 wc => ∃ (kq : Nat) (x31_3 : Bool), v31 = .bool x31_3 /\ Aside0 (impl_FixInput.j0 kq a1 a2 x31_3 a0_0 l0_1 = some (r1, r2, r3)) /\ Aside0 (kq <= k) /\ Aside0 (wc.heap[gb196]? = some (.cells #[.int .i64 a0_0, (.slice A0_1 l0_1.length c0_1)] 28 (0, 0))) /\ Aside0 (wc.heap[gb197]? = some (.cells #[.int .i64 0, (.slice none 0 0)] 28 (0, 0))) /\ Aside0 (Below w.heap.size w wc))
 case first =>
  have H := HC4.1
  clear HC4
  replace H := bindA H; obtain ⟨t198, A7, H⟩ := H
  replace H := ifX H; rcases H with ⟨rfl, H⟩ | ⟨rfl, H⟩
  · replace H := ifB H; rcases H with ⟨c9b0, H⟩ | ⟨c9b0, H⟩
    · (first | rw [c9b0] | (simp only [i64_w, i32_w]; rw [c9b0]) | skip)
      have H' := Aside0.mk H
      clear H
      have hnb10 := NB196_197.1
      have hnc10 := NB197_196.1
      obtain ⟨hcz11_0, hcz11_1, hfz11_0, hfz11_1⟩ := cz2 BK196.1
      go_wp2_with (first | ((with_reducible refine gate_callee (f := 39) rfl ?_); refine goesM (N := (some 12)) #[.agg #[.int .i64 a0_0, .slice A0_1 l0_1.length c0_1]] Try.func39 ?_; (with_reducible refine (impl_IsTable.calls k a0_0 _ _ l0_1 true _ ?side1 ?side2 A7.1).mono ?_); (case side1 => exact CB (C_below HR0_1.1 HB.1)); (case side2 => exact HC0_1.1); rintro e w12 ⟨rfl, hb⟩; refine ⟨_, rfl, ?_⟩; refine E3 (bB BK196.1 hb) (bB BK197.1 hb) (bS HB.1 hb) ?_; clear BK196 BK197 HB; intro BK196 BK197 HB; (try clear hb)))
      go_meet
      case rel => exact ⟨_, (true), RG, H', ⟨by first | omega | exact Nat.le_refl _⟩, ⟨PB BK196.1⟩, ⟨PB BK197.1⟩, ⟨BL HB.1⟩⟩
    (first | rw [c9b0] | (simp only [i64_w, i32_w]; rw [c9b0]) | skip)
    replace H := ifQ H; rcases H with ⟨c13, H⟩ | ⟨c13, H⟩
    · have c13b0 : decide (a0_0 <= a1) = true := decide_eq_true c13
      clear c13
      have H' := Aside0.mk H
      clear H
      have hnb14 := NB196_197.1
      have hnc14 := NB197_196.1
      obtain ⟨hcz15_0, hcz15_1, hfz15_0, hfz15_1⟩ := cz2 BK196.1
      go_wp2_with (first | ((with_reducible refine gate_callee (f := 39) rfl ?_); refine goesM (N := (some 12)) #[.agg #[.int .i64 a0_0, .slice A0_1 l0_1.length c0_1]] Try.func39 ?_; (with_reducible refine (impl_IsTable.calls k a0_0 _ _ l0_1 true _ ?side1 ?side2 A7.1).mono ?_); (case side1 => exact CB (C_below HR0_1.1 HB.1)); (case side2 => exact HC0_1.1); rintro e w16 ⟨rfl, hb⟩; refine ⟨_, rfl, ?_⟩; refine E3 (bB BK196.1 hb) (bB BK197.1 hb) (bS HB.1 hb) ?_; clear BK196 BK197 HB; intro BK196 BK197 HB; (try clear hb); obtain ⟨hcz17_0, hcz17_1, hfz17_0, hfz17_1⟩ := cz2 BK196.1))
      go_meet
      case rel => exact ⟨_, (true), RG, H', ⟨by first | omega | exact Nat.le_refl _⟩, ⟨PB BK196.1⟩, ⟨PB BK197.1⟩, ⟨BL HB.1⟩⟩
    have c13b0 : decide (a0_0 <= a1) = false := decide_eq_false c13
    clear c13
    replace H := ifB H; rcases H with ⟨c18b0, H⟩ | ⟨c18b0, H⟩
    · have H' := Aside0.mk H
      clear H
      have hnb19 := NB196_197.1
      have hnc19 := NB197_196.1
      obtain ⟨hcz20_0, hcz20_1, hfz20_0, hfz20_1⟩ := cz2 BK196.1
      go_wp2_with (first | ((with_reducible refine gate_callee (f := 39) rfl ?_); refine goesM (N := (some 12)) #[.agg #[.int .i64 a0_0, .slice A0_1 l0_1.length c0_1]] Try.func39 ?_; (with_reducible refine (impl_IsTable.calls k a0_0 _ _ l0_1 true _ ?side1 ?side2 A7.1).mono ?_); (case side1 => exact CB (C_below HR0_1.1 HB.1)); (case side2 => exact HC0_1.1); rintro e w21 ⟨rfl, hb⟩; refine ⟨_, rfl, ?_⟩; refine E3 (bB BK196.1 hb) (bB BK197.1 hb) (bS HB.1 hb) ?_; clear BK196 BK197 HB; intro BK196 BK197 HB; (try clear hb); obtain ⟨hcz22_0, hcz22_1, hfz22_0, hfz22_1⟩ := cz2 BK196.1))
      go_meet
      case rel => exact ⟨_, (true), RG, H', ⟨by first | omega | exact Nat.le_refl _⟩, ⟨PB BK196.1⟩, ⟨PB BK197.1⟩, ⟨BL HB.1⟩⟩
    have H' := Aside0.mk H
    clear H
    have hnb23 := NB196_197.1
    have hnc23 := NB197_196.1
    obtain ⟨hcz24_0, hcz24_1, hfz24_0, hfz24_1⟩ := cz2 BK196.1
    go_wp2_with (first | ((with_reducible refine gate_callee (f := 39) rfl ?_); refine goesM (N := (some 12)) #[.agg #[.int .i64 a0_0, .slice A0_1 l0_1.length c0_1]] Try.func39 ?_; (with_reducible refine (impl_IsTable.calls k a0_0 _ _ l0_1 true _ ?side1 ?side2 A7.1).mono ?_); (case side1 => exact CB (C_below HR0_1.1 HB.1)); (case side2 => exact HC0_1.1); rintro e w25 ⟨rfl, hb⟩; refine ⟨_, rfl, ?_⟩; refine E3 (bB BK196.1 hb) (bB BK197.1 hb) (bS HB.1 hb) ?_; clear BK196 BK197 HB; intro BK196 BK197 HB; (try clear hb); obtain ⟨hcz26_0, hcz26_1, hfz26_0, hfz26_1⟩ := cz2 BK196.1))
    go_meet
    case rel => exact ⟨_, (decide (a2 > 1)), RG, H', ⟨by first | omega | exact Nat.le_refl _⟩, ⟨PB BK196.1⟩, ⟨PB BK197.1⟩, ⟨BL HB.1⟩⟩
  have H' := Aside0.mk H
  clear H
  have hnb27 := NB196_197.1
  have hnc27 := NB197_196.1
  obtain ⟨hcz28_0, hcz28_1, hfz28_0, hfz28_1⟩ := cz2 BK196.1
  go_wp2_with (first | ((with_reducible refine gate_callee (f := 39) rfl ?_); refine goesM (N := (some 12)) #[.agg #[.int .i64 a0_0, .slice A0_1 l0_1.length c0_1]] Try.func39 ?_; (with_reducible refine (impl_IsTable.calls k a0_0 _ _ l0_1 false _ ?side1 ?side2 A7.1).mono ?_); (case side1 => exact CB (C_below HR0_1.1 HB.1)); (case side2 => exact HC0_1.1); rintro e w29 ⟨rfl, hb⟩; refine ⟨_, rfl, ?_⟩; refine E3 (bB BK196.1 hb) (bB BK197.1 hb) (bS HB.1 hb) ?_; clear BK196 BK197 HB; intro BK196 BK197 HB; (try clear hb)))
  go_meet
  case rel => exact ⟨_, (true), RG, H', ⟨by first | omega | exact Nat.le_refl _⟩, ⟨PB BK196.1⟩, ⟨PB BK197.1⟩, ⟨BL HB.1⟩⟩
 clear HC4
 obtain ⟨kq, x31_3, rfl, HA, HJ3, BK196, BK197, HB⟩ := hcut
 cases kq with
 | zero => exact absurd HA.1 (by simp [impl_FixInput.j0])
 | succ kj3 => ?_
 have H := HA.1
 clear HA
 simp only [impl_FixInput.j0] at H
 replace H := ifX H; rcases H with ⟨rfl, H⟩ | ⟨rfl, H⟩
 · simp only [Option.some.injEq, Prod.mk.injEq] at H
   obtain ⟨rfl, rfl, rfl⟩ := H
   have hnb31 := NB197_196.1
   have hnc31 := NB196_197.1
   obtain ⟨hcz32_0, hcz32_1, hfz32_0, hfz32_1⟩ := cz2 BK197.1
   go_wp2
   refine bodyPost_ret (results_ct rfl _ _ gb197 28 #[.int .i64 0, .slice none 0 0] (0, 0) _ rfl (PF0 BK197.1) Try.underlying28 rfl (by kernel_rfl)) rfl ?_
   exact ⟨_, RF, by first | exact R_nil _ _ _ _ _ | exact N_nil _ _ _ _ _ | exact V_nil _ _ _ _ _ | exact Q_nil _ _ _ _ _ | exact S_nil _ _ _ _ _, BL HB.1⟩
 have H' := Aside0.mk H
 clear H
 have hnb33 := NB196_197.1
 have hnc33 := NB197_196.1
 obtain ⟨hcz34_0, hcz34_1, hfz34_0, hfz34_1⟩ := cz2 BK196.1
 go_wp2_with (first | ((with_reducible refine gate_dst (N := 8) rfl ?_); refine boxE (cs := #[.int .i64 0, .slice none 0 0]) (t := 28) ?_; intro gb199 hg w35 hbox hb; refine E10 (bB BK196.1 hb) (bB BK197.1 hb) (bS HB.1 hb) (hbox) (gX HB.1 hg) (gX HB.1 hg) (nB BK196.1 hg) (nC BK196.1 hg) (nB BK197.1 hg) (nC BK197.1 hg) ?_; clear BK196 BK197 HB; intro BK196 BK197 HB BK199 GW199 GE199 NB196_199 NB199_196 NB197_199 NB199_197; clear hb hbox hg; have hnb36 := NB199_196.1; have hnc36 := NB196_199.1; have hnb37 := NB199_197.1; have hnc37 := NB197_199.1; obtain ⟨hcz38_0, hcz38_1, hfz38_0, hfz38_1⟩ := cz2 BK199.1; obtain ⟨hcz39_0, hcz39_1, hfz39_0, hfz39_1⟩ := cz2 BK196.1))
 go_loopg [40] kj3 (fun kq v40 w' => ∃ (x40_2 : Int) (x200001_2 : List Int) (u200001 : Value), v40 = .int .i64 x40_2 /\ Aside0 (impl_FixInput.l0 kq a1 a2 l0_1 (l0_1.length : Int) x40_2 (wrap64 (a0_0 - 1)) x200001_2 = some (r1, r2, r3)) /\ Aside0 (kq <= kj3) /\ Aside0 (Kd.R (Kd.int .i64) 3 w' w.heap.size (fun _ => True) u200001 x200001_2) /\ Aside0 (w'.heap[gb196]? = some (.cells #[.int .i64 a0_0, (.slice A0_1 l0_1.length c0_1)] 28 (0, 0))) /\ Aside0 (w'.heap[gb197]? = some (.cells #[.int .i64 0, (.slice none 0 0)] 28 (0, 0))) /\ Aside0 (w'.heap[gb199]? = some (.cells #[.int .i64 (wrap64 (a0_0 - 1)), u200001] 28 (0, 0))) /\ Aside0 (Below w.heap.size w w'))
 case atStart => exact ⟨(0), (([] : List Int)), (.slice none 0 0), RG, H', ⟨Nat.le_refl _⟩, ⟨by first | exact R_nil _ _ _ _ _ | exact N_nil _ _ _ _ _ | exact V_nil _ _ _ _ _ | exact Q_nil _ _ _ _ _ | exact S_nil _ _ _ _ _⟩, ⟨by (with_reducible repeat (first | refine blk_drewN ?_ _ | refine blk_drew ?_ | refine blk_alloc ?_ _)); refine blk_far ?_ NB196_199.1 _; (with_reducible repeat (first | refine blk_drewN ?_ _ | refine blk_drew ?_ | refine blk_alloc ?_ _)); refine blk_far ?_ NB196_199.1 _; (with_reducible repeat (first | refine blk_drewN ?_ _ | refine blk_drew ?_ | refine blk_alloc ?_ _)); exact BK196.1⟩, ⟨by (with_reducible repeat (first | refine blk_drewN ?_ _ | refine blk_drew ?_ | refine blk_alloc ?_ _)); refine blk_far ?_ NB197_199.1 _; (with_reducible repeat (first | refine blk_drewN ?_ _ | refine blk_drew ?_ | refine blk_alloc ?_ _)); refine blk_far ?_ NB197_199.1 _; (with_reducible repeat (first | refine blk_drewN ?_ _ | refine blk_drew ?_ | refine blk_alloc ?_ _)); exact BK197.1⟩, ⟨by (with_reducible repeat (first | refine blk_drewN ?_ _ | refine blk_drew ?_ | refine blk_alloc ?_ _)); refine blk_put (cs := #[.int .i64 (wrap64 (a0_0 - 1)), .slice none 0 0]) ?_ 1 _ rfl; (with_reducible repeat (first | refine blk_drewN ?_ _ | refine blk_drew ?_ | refine blk_alloc ?_ _)); refine blk_put (cs := #[.int .i64 0, .slice none 0 0]) ?_ 0 _ rfl; (with_reducible repeat (first | refine blk_drewN ?_ _ | refine blk_drew ?_ | refine blk_alloc ?_ _)); exact BK199.1⟩, ⟨BL HB.1⟩⟩
 clear H'
 clear hcz34_0 hcz34_1 hcz38_0 hcz38_1 hcz39_0 hcz39_1 hfz34_0 hfz34_1 hfz38_0 hfz38_1 hfz39_0 hfz39_1
 obtain ⟨x40_2, x200001_2, u200001, rfl, HA, HK2, HO_200001, BK196, BK197, BK199, HB⟩ := hrel
 cases gk with
 | zero => exact absurd HA.1 (by simp [impl_FixInput.l0])
 | succ k2 => ?_
 have H := HA.1
 clear HA
 simp only [impl_FixInput.l0] at H
 replace H := ifB H; rcases H with ⟨c40b0, H⟩ | ⟨c40b0, H⟩
 · replace H := ifN H; obtain ⟨c41b0, H⟩ := H
   replace H := ifN H; obtain ⟨c42b0, H⟩ := H
   replace H := ifP H; obtain ⟨c43, H⟩ := H
   have c43b0 := eq_true c43
   have c43b1 := decide_eq_true c43
   clear c43
   obtain ⟨ji44, hji44⟩ : ∃ j_ : Int, (shr .i64 x40_2 a1) = j_ := ⟨_, rfl⟩
   replace H : (if (Go.bits .and .i64 (ji44) 1) = a2 then (if x200001_2.length < 17592186044416 then (impl_FixInput.l0 k2 a1 a2 l0_1 (l0_1.length : Int) (wrap64 (x40_2 + 1)) (wrap64 (a0_0 - 1)) (x200001_2 ++ [rd l0_1 x40_2])) else (none)) else (impl_FixInput.l0 k2 a1 a2 l0_1 (l0_1.length : Int) (wrap64 (x40_2 + 1)) (wrap64 (a0_0 - 1)) x200001_2)) = some (r1, r2, r3) := by first | (rw [hji44] at H; exact H) | (simp only [hji44] at H ⊢; exact H)
   have hji44_ : (x40_2 / 2 ^ min a1.toNat 64) = ji44 := hji44
   have hji44z : a1 <= 64 -> (x40_2 / 2 ^ a1.toNat) = ji44 := shr_small hji44
   replace H := ifQ H; rcases H with ⟨c45, H⟩ | ⟨c45, H⟩
   · have c45b0 := beq_iff_eq.mpr c45
     have c45b1 := bne_eq_false_iff_eq.mpr c45
     clear c45
     replace H := ifP H; obtain ⟨c46, H⟩ := H
     have LMc46 := Aside0.mk c46
     clear c46
     generalize hy201 : ((x200001_2 ++ [rd l0_1 x40_2]) : List Int) = y201 at H
     have Ny201 := Aside0.mk hy201.symm; clear hy201
     have H' := Aside0.mk H
     clear H
     have p200 : 0 <= (x40_2 : Int) := OD
     have q200 : x40_2 < (l0_1.length : Int) := OD
     obtain ⟨ad200, e200, hx200_0⟩ := Kd.at_int HR0_1.1 x40_2 p200 q200
     cases e200
     replace hx200_0 := (HB.1.cell (World.block_lt_of_cell? w _ hx200_0)).trans hx200_0
     replace p200 := eq_true p200
     replace q200 := eq_true q200
     obtain ⟨hcz49_0, hcz49_1, hfz49_0, hfz49_1⟩ := cz2 BK199.1
     go_wp2_with (first | ((with_reducible refine gate_builtin (b := .append) (xs := #[.tmp 52, .tmp 54]) rfl ?_); at_builtin; refine R_append (Kd.int .i64) (w0 := w) w.heap.size rfl (.tmp 52) (.tmp 54) 22 3 (.int .i64 0) 8 rfl Try.underlying22 info3 rfl (by decide) (by omega) u200001 x200001_2 (rd l0_1 x40_2) [.int .i64 (rd l0_1 x40_2)] (fun _ => True) (fun _ => False) rfl rfl ?aP (fun _ hk => hk.elim) ?aF ?aO ?aB ?aS ?aL ?_; (case aP => exact rfl); (case aB => exact (BL HB.1)); (case aF => exact (fun _ _ => trivial)); (case aO => exact (PR HO_200001.1)); (case aS => exact (bZ HB.1)); (case aL => have := LMc46.1; omega); intro v202 w50 ho hb hg hat; rw [<- Ny201.1] at ho; refine E5 (bG BK196.1 hg (R_ne HO_200001.1 BK196.1 (by decide))) (bG BK197.1 hg (R_ne HO_200001.1 BK197.1 (by decide))) (bG BK199.1 hg (R_ne HO_200001.1 BK199.1 (by decide))) (hb) (ho) ?_; clear BK196 BK197 BK199 HB HO_200001; intro BK196 BK197 BK199 HB HO203; clear ho hb hg hat; obtain ⟨Ao51, co51, eo51⟩ := R_slice HO203.1; subst eo51; obtain ⟨hcz52_0, hcz52_1, hfz52_0, hfz52_1⟩ := cz2 BK199.1))
     go_roundg k2
     case measure => have := HJ3.1; have := HK2.1; omega
     case rel => exact ⟨(wrap64 (x40_2 + 1)), (y201), (.slice Ao51 y201.length co51), RG, H', ⟨by have := HJ3.1; have := HK2.1; omega⟩, ⟨by (with_reducible repeat (first | apply R_alloc | apply R_drewN | apply R_drew)); exact R_mono (RQ gb199 1 (R_types HO203.1 BK199.1 (by decide)) _) (fun _ hk => trivial)⟩, ⟨by (with_reducible repeat (first | refine blk_drewN ?_ _ | refine blk_drew ?_ | refine blk_alloc ?_ _)); refine blk_far ?_ NB196_199.1 _; (with_reducible repeat (first | refine blk_drewN ?_ _ | refine blk_drew ?_ | refine blk_alloc ?_ _)); exact BK196.1⟩, ⟨by (with_reducible repeat (first | refine blk_drewN ?_ _ | refine blk_drew ?_ | refine blk_alloc ?_ _)); refine blk_far ?_ NB197_199.1 _; (with_reducible repeat (first | refine blk_drewN ?_ _ | refine blk_drew ?_ | refine blk_alloc ?_ _)); exact BK197.1⟩, ⟨by (with_reducible repeat (first | refine blk_drewN ?_ _ | refine blk_drew ?_ | refine blk_alloc ?_ _)); refine blk_put (cs := #[.int .i64 (wrap64 (a0_0 - 1)), u200001]) ?_ 1 _ rfl; (with_reducible repeat (first | refine blk_drewN ?_ _ | refine blk_drew ?_ | refine blk_alloc ?_ _)); exact BK199.1⟩, ⟨BL HB.1⟩⟩
   have c45b0 := beq_eq_false_iff_ne.mpr c45
   have c45b1 := bne_iff_ne.mpr c45
   have H' := Aside0.mk H
   clear H
   have p200 : 0 <= (x40_2 : Int) := OD
   have q200 : x40_2 < (l0_1.length : Int) := OD
   obtain ⟨ad200, e200, hx200_0⟩ := Kd.at_int HR0_1.1 x40_2 p200 q200
   cases e200
   replace hx200_0 := (HB.1.cell (World.block_lt_of_cell? w _ hx200_0)).trans hx200_0
   replace p200 := eq_true p200
   replace q200 := eq_true q200
   go_wp2
   go_roundg k2
   case measure => have := HJ3.1; have := HK2.1; omega
   case rel => exact ⟨(wrap64 (x40_2 + 1)), (x200001_2), (u200001), RG, H', ⟨by have := HJ3.1; have := HK2.1; omega⟩, ⟨PR HO_200001.1⟩, ⟨PB BK196.1⟩, ⟨PB BK197.1⟩, ⟨PB BK199.1⟩, ⟨BL HB.1⟩⟩
 simp only [Option.some.injEq, Prod.mk.injEq] at H
 obtain ⟨rfl, rfl, rfl⟩ := H
 obtain ⟨hcz55_0, hcz55_1, hfz55_0, hfz55_1⟩ := cz2 BK199.1
 obtain ⟨hcz57_0, hcz57_1, hfz57_0, hfz57_1⟩ := cz2 BK197.1
 obtain ⟨Ao58, co58, eo58⟩ := R_slice HO_200001.1
 subst eo58
 go_wp2
 refine bodyPost_ret (results_ct rfl _ _ gb197 28 #[.int .i64 (wrap64 (a0_0 - 1)), .slice Ao58 x200001_2.length co58] (0, 0) _ rfl (PF0 BK197.1) Try.underlying28 rfl (by kernel_rfl)) rfl ?_
 exact ⟨_, RF, by (with_reducible repeat (first | apply R_alloc | apply R_drewN | apply R_drew)); exact R_mono (RQ gb197 1 (RQ gb197 0 (R_types HO_200001.1 BK197.1 (by decide)) _) _) (fun _ hk => trivial), BL HB.1⟩
/-! ### spec_l1In: function 47 -/
open Kd
def spec_l1In.f (a0 : Int) (a1 : Int) (a2 : Int) : Option (Bool) := if a0 ≥ a1 then (some (decide (a0 <= a2))) else (some false)
theorem spec_l1In.calls (a0 : Int) (a1 : Int) (a2 : Int) (r : Bool) (w : World) (h : spec_l1In.f a0 a1 a2 = some r) :
 Calls Try.prog 47 #[.int .i64 a0, .int .i64 a1, .int .i64 a2] w fun e w' => e = .returned (.bool r) /\ Drawn0 w w' := by
 have H := h
 clear h
 unfold spec_l1In.f at H
 replace H := ifQ H; rcases H with ⟨c4, H⟩ | ⟨c4, H⟩
 · have c4b0 : decide (a1 <= a0) = true := decide_eq_true c4
   clear c4
   obtain rfl := Option.some.inj H
   go_enter Try.func47, Try.ntmps47
   go_wp2
   go_ret
   exact ⟨RG, DR⟩
 have c4b0 : decide (a1 <= a0) = false := decide_eq_false c4
 clear c4
 obtain rfl := Option.some.inj H
 go_enter Try.func47, Try.ntmps47
 go_wp2
 go_ret
 exact ⟨RG, DR⟩
/-! ### spec_ttInputs: function 57 -/
open Kd
def spec_ttInputs.f (a0 : Int) : Option (Bool) := (spec_l1In.f a0 0 4).bind fun t204 => (some t204)
theorem spec_ttInputs.calls (a0 : Int) (r : Bool) (w : World) (h : spec_ttInputs.f a0 = some r) :
 Calls Try.prog 57 #[.int .i64 a0] w fun e w' => e = .returned (.bool r) /\ Drawn0 w w' := by
 have H := h
 clear h
 unfold spec_ttInputs.f at H
 replace H := bindA H; obtain ⟨t204, A2, H⟩ := H
 obtain rfl := Option.some.inj H
 go_enter Try.func57, Try.ntmps57
 go_wp2_with (first | ((with_reducible refine gate_callee (f := 47) rfl ?_); refine goesM (N := (some 4)) #[.int .i64 a0, .int .i64 0, .int .i64 4] Try.func47 ?_; (with_reducible refine (spec_l1In.calls a0 0 4 t204 _ A2.1).mono ?_); rintro e w' ⟨rfl, ⟨nd, rfl⟩⟩; refine ⟨_, rfl, ?_⟩))
 go_ret
 exact ⟨RG, DR⟩

/-! ### spec_l1All: function 58 -/
open Kd
def spec_l1All.l0 : Nat -> Int -> Int -> List Int -> Int -> Int -> Option (Bool)
 | 0, _, _, _, _, _ => none
 | k + 1, x1, x2, x9, x10, x11 => if x11 < x10 then (if 0 <= x11 then (if x11 < (x9.length : Int) then ((spec_l1In.f (rd x9 x11) x1 x2).bind fun t206 => (if t206 = true then (spec_l1All.l0 k x1 x2 x9 x10 (wrap64 (x11 + 1))) else (some false))) else (none)) else (none)) else (some true)
def spec_l1All.f (k : Nat) (l0 : List Int) (a1 : Int) (a2 : Int) : Option (Bool) := spec_l1All.l0 k a1 a2 l0 (l0.length : Int) 0
theorem spec_l1All.mono_l : ∀ k, (∀ y0 y1 y2 y3 y4, LeO (spec_l1All.l0 k y0 y1 y2 y3 y4) (spec_l1All.l0 (k + 1) y0 y1 y2 y3 y4))
 | 0 => fun _ _ _ _ _ r h => by simp [spec_l1All.l0] at h
 | k + 1 => by
  have ih0 := spec_l1All.mono_l k
  intros
  first | unfold spec_l1All.l0
  exact LM1 ih0
theorem spec_l1All.mono : ∀ a0 a1 a2 k, LeO (spec_l1All.f k a0 a1 a2) (spec_l1All.f (k + 1) a0 a1 a2) := by
 intro a0 a1 a2 k
 have ih0 := spec_l1All.mono_l k
 unfold spec_l1All.f
 exact LM1 ih0
theorem spec_l1All.calls (k : Nat) (A0 : Option Addr) (c0 : Nat) (l0 : List Int) (a1 : Int) (a2 : Int) (r : Bool) (w : World) (hr0 : Kd.C (Kd.int .i64) w A0 l0.length l0) (hc0 : l0.length <= c0) (h : spec_l1All.f k l0 a1 a2 = some r) :
 Calls Try.prog 58 #[.slice A0 l0.length c0, .int .i64 a1, .int .i64 a2] w fun e w' => e = .returned (.bool r) /\ Drawn0 w w' := by
 have HR0 := Aside0.mk hr0
 have HC0 := Aside0.mk hc0
 clear hr0 hc0
 have H := h
 clear h
 unfold spec_l1All.f at H
 have H' := Aside0.mk H
 clear H
 go_enter Try.func58, Try.ntmps58
 go_wp2
 go_loopg [11] k (fun kq v11 w' => ∃ (x11_1 : Int), v11 = .int .i64 x11_1 /\ Aside0 (spec_l1All.l0 kq a1 a2 l0 (l0.length : Int) x11_1 = some r) /\ Aside0 (kq <= k) /\ Drawn0 w w')
 case atStart => exact ⟨(0), RG, H', ⟨Nat.le_refl _⟩, DR⟩
 clear H'
 obtain ⟨x11_1, rfl, HA, HK1, ⟨m1, rfl⟩⟩ := hrel
 cases gk with
 | zero => exact absurd HA.1 (by simp [spec_l1All.l0])
 | succ k1 => ?_
 have H := HA.1
 clear HA
 simp only [spec_l1All.l0] at H
 replace H := ifB H; rcases H with ⟨c4b0, H⟩ | ⟨c4b0, H⟩
 · replace H := ifN H; obtain ⟨c5b0, H⟩ := H
   replace H := ifN H; obtain ⟨c6b0, H⟩ := H
   replace H := bindA H; obtain ⟨t206, A7, H⟩ := H
   replace H := ifX H; rcases H with ⟨rfl, H⟩ | ⟨rfl, H⟩
   · have H' := Aside0.mk H
     clear H
     have p205 : 0 <= (x11_1 : Int) := OD
     have q205 : x11_1 < (l0.length : Int) := OD
     obtain ⟨ad205, e205, hx205_0⟩ := Kd.at_int HR0.1 x11_1 p205 q205
     cases e205
     replace p205 := eq_true p205
     replace q205 := eq_true q205
     go_wp2_with (first | ((with_reducible refine gate_callee (f := 47) rfl ?_); refine goesM (N := (some 18)) #[.int .i64 (rd l0 x11_1), .int .i64 a1, .int .i64 a2] Try.func47 ?_; (with_reducible refine (spec_l1In.calls (rd l0 x11_1) a1 a2 true _ A7.1).mono ?_); rintro e w' ⟨rfl, ⟨nd, rfl⟩⟩; refine ⟨_, rfl, ?_⟩))
     go_roundg k1
     case measure => have := HK1.1; omega
     case rel => exact ⟨(wrap64 (x11_1 + 1)), RG, H', ⟨by have := HK1.1; omega⟩, DR⟩
   obtain rfl := Option.some.inj H
   have p205 : 0 <= (x11_1 : Int) := OD
   have q205 : x11_1 < (l0.length : Int) := OD
   obtain ⟨ad205, e205, hx205_0⟩ := Kd.at_int HR0.1 x11_1 p205 q205
   cases e205
   replace p205 := eq_true p205
   replace q205 := eq_true q205
   go_wp2_with (first | ((with_reducible refine gate_callee (f := 47) rfl ?_); refine goesM (N := (some 18)) #[.int .i64 (rd l0 x11_1), .int .i64 a1, .int .i64 a2] Try.func47 ?_; (with_reducible refine (spec_l1In.calls (rd l0 x11_1) a1 a2 false _ A7.1).mono ?_); rintro e w' ⟨rfl, ⟨nd, rfl⟩⟩; refine ⟨_, rfl, ?_⟩))
   go_ret
   exact ⟨RG, DR⟩
 obtain rfl := Option.some.inj H
 go_wp2
 go_ret
 exact ⟨RG, DR⟩
/-! ### spec_ttGood: function 34 -/
open Kd
def spec_ttGood.f (k : Nat) (a0_0 : Int) (l0_1 : List Int) : Option (Bool) := (spec_ttInputs.f a0_0).bind fun t208 => (if t208 = true then (if 0 <= (IntKind.u64.wrap (a0_0)) then (if (l0_1.length : Int) = (shl .i64 1 (IntKind.u64.wrap (a0_0))) then ((spec_l1All.f k l0_1 0 1).bind fun t209 => (some t209)) else (some false)) else (none)) else (some false))
theorem spec_ttGood.mono : ∀ a0 a1 k, LeO (spec_ttGood.f k a0 a1) (spec_ttGood.f (k + 1) a0 a1) := by
 intro a0 a1 k
 unfold spec_ttGood.f
 repeat' first
  | (with_reducible exact spec_l1All.mono _ _ _ _)
  | (with_reducible exact LeO.refl _)
  | (with_reducible exact LeO.none _)
  | (with_reducible refine LeO.ite ?_ ?_)
  | (with_reducible refine LeO.bind ?_ (fun _ => ?_))
  | exact spec_l1All.mono _ _ _ _
  | exact LeO.none _
  | refine LeO.ite ?_ ?_
  | refine LeO.bind ?_ (fun _ => ?_)
theorem spec_ttGood.calls (k : Nat) (a0_0 : Int) (A0_1 : Option Addr) (c0_1 : Nat) (l0_1 : List Int) (r : Bool) (w : World) (hr0_1 : Kd.C (Kd.int .i64) w A0_1 l0_1.length l0_1) (hc0_1 : l0_1.length <= c0_1) (h : spec_ttGood.f k a0_0 l0_1 = some r) :
 Calls Try.prog 34 #[.agg #[.int .i64 a0_0, .slice A0_1 l0_1.length c0_1]] w fun e w' => e = .returned (.bool r) /\ Below w.heap.size w w' := by
 have hu28 := Try.underlying28
 have HR0_1 := Aside0.mk hr0_1
 have HC0_1 := Aside0.mk hc0_1
 clear hr0_1 hc0_1
 have HB := Aside0.mk (Below.refl w.heap.size w)
 have H := h
 clear h
 unfold spec_ttGood.f at H
 replace H := bindA H; obtain ⟨t208, A2, H⟩ := H
 replace H := ifX H; rcases H with ⟨rfl, H⟩ | ⟨rfl, H⟩
 · obtain ⟨ji4, hji4⟩ : ∃ j_ : Int, (IntKind.u64.wrap (a0_0)) = j_ := ⟨_, rfl⟩
   replace H : (if 0 <= (ji4) then (if (l0_1.length : Int) = (shl .i64 1 (ji4)) then ((spec_l1All.f k l0_1 0 1).bind fun t209 => (some t209)) else (some false)) else (none)) = some r := by first | (rw [hji4] at H; exact H) | (simp only [hji4] at H ⊢; exact H)
   (try rw [hji4] at A2)
   replace H := ifP H; obtain ⟨c5, H⟩ := H
   have c5b0 := eq_true c5
   have c5b1 := decide_eq_true c5
   clear c5
   obtain ⟨ji6, hji6⟩ : ∃ j_ : Int, (shl .i64 1 (ji4)) = j_ := ⟨_, rfl⟩
   replace H : (if (l0_1.length : Int) = (ji6) then ((spec_l1All.f k l0_1 0 1).bind fun t209 => (some t209)) else (some false)) = some r := by first | (rw [hji6] at H; exact H) | (simp only [hji6] at H ⊢; exact H)
   (try rw [hji6] at A2)
   have hji6_ : (IntKind.i64.wrap (1 * 2 ^ min (ji4).toNat 64)) = ji6 := hji6
   have hji6z : (ji4) <= 64 -> (IntKind.i64.wrap (1 * 2 ^ (ji4).toNat)) = ji6 := shl_small hji6
   have hji6u : (IntKind.i64.wrap (2 ^ min (ji4).toNat 64)) = ji6 := by have h_ := hji6_; rw [Int.one_mul] at h_; exact h_
   have hji6v : (ji4) <= 64 -> (IntKind.i64.wrap (2 ^ (ji4).toNat)) = ji6 := fun hle_ => by have h_ := hji6z hle_; rw [Int.one_mul] at h_; exact h_
   have hji6y : (wrap64 (1 * 2 ^ min (ji4).toNat 64)) = ji6 := (i64_w _).symm.trans hji6_
   have hji6x : (ji4) <= 64 -> (wrap64 (1 * 2 ^ (ji4).toNat)) = ji6 := fun h_ => (i64_w _).symm.trans (hji6z h_)
   replace H := ifQ H; rcases H with ⟨c7, H⟩ | ⟨c7, H⟩
   · have c7b0 := beq_iff_eq.mpr c7
     have c7b1 := bne_eq_false_iff_eq.mpr c7
     clear c7
     replace H := bindA H; obtain ⟨t209, A8, H⟩ := H
     obtain rfl := Option.some.inj H
     go_enter Try.func34, Try.ntmps34
     go_wp2_with (first | ((with_reducible refine gate_dst (N := 1) rfl ?_); (try (refine gate_guard (by rfl) ?_; dsimp only)); refine boxE (cs := #[.int .i64 a0_0, .slice A0_1 l0_1.length c0_1]) (t := 28) ?_; intro gb207 hg w9 hbox hb; refine E4b HB.1 hg hbox hb ?_; clear HB; intro HB BK207 GW207 GE207; clear hb hbox hg; obtain ⟨hcz10_0, hcz10_1, hfz10_0, hfz10_1⟩ := cz2 BK207.1) | ((with_reducible refine gate_callee (f := 57) rfl ?_); refine goesM (N := (some 5)) #[.int .i64 a0_0] Try.func57 ?_; (with_reducible refine (spec_ttInputs.calls a0_0 true _ A2.1).mono ?_); rintro e w' ⟨rfl, ⟨nd, rfl⟩⟩; refine ⟨_, rfl, ?_⟩) | (go_at_call 58; (with_reducible refine (spec_l1All.calls k _ _ l0_1 0 1 t209 _ ?side1 ?side2 A8.1).mono ?_); (case side1 => repeat (first | exact (C_below HR0_1.1 (BL HB.1)) | (with_reducible refine C_alloc ?_ _) | (with_reducible refine C_drewN ?_ _) | (with_reducible refine C_drew ?_))); (case side2 => exact HC0_1.1); rintro e w' ⟨rfl, ⟨nd, rfl⟩⟩))
     go_ret
     exact ⟨by first | rfl | (simp [errW_none, errW_some] <;> rfl) | (simp only [<- hji4, <- hji6]; first | rfl | (simp [errW_none, errW_some] <;> rfl)) | (simp [*, errW_none, errW_some] <;> rfl), BL HB.1⟩
   have c7b0 := beq_eq_false_iff_ne.mpr c7
   have c7b1 := bne_iff_ne.mpr c7
   obtain rfl := Option.some.inj H
   go_enter Try.func34, Try.ntmps34
   go_wp2_with (first | ((with_reducible refine gate_dst (N := 1) rfl ?_); (try (refine gate_guard (by rfl) ?_; dsimp only)); refine boxE (cs := #[.int .i64 a0_0, .slice A0_1 l0_1.length c0_1]) (t := 28) ?_; intro gb207 hg w11 hbox hb; refine E4b HB.1 hg hbox hb ?_; clear HB; intro HB BK207 GW207 GE207; clear hb hbox hg; obtain ⟨hcz12_0, hcz12_1, hfz12_0, hfz12_1⟩ := cz2 BK207.1) | ((with_reducible refine gate_callee (f := 57) rfl ?_); refine goesM (N := (some 5)) #[.int .i64 a0_0] Try.func57 ?_; (with_reducible refine (spec_ttInputs.calls a0_0 true _ A2.1).mono ?_); rintro e w' ⟨rfl, ⟨nd, rfl⟩⟩; refine ⟨_, rfl, ?_⟩))
   go_ret
   exact ⟨by first | rfl | (simp [errW_none, errW_some] <;> rfl) | (simp only [<- hji4, <- hji6]; first | rfl | (simp [errW_none, errW_some] <;> rfl)) | (simp [*, errW_none, errW_some] <;> rfl), BL HB.1⟩
 obtain rfl := Option.some.inj H
 go_enter Try.func34, Try.ntmps34
 go_wp2_with (first | ((with_reducible refine gate_dst (N := 1) rfl ?_); (try (refine gate_guard (by rfl) ?_; dsimp only)); refine boxE (cs := #[.int .i64 a0_0, .slice A0_1 l0_1.length c0_1]) (t := 28) ?_; intro gb207 hg w13 hbox hb; refine E4b HB.1 hg hbox hb ?_; clear HB; intro HB BK207 GW207 GE207; clear hb hbox hg; obtain ⟨hcz14_0, hcz14_1, hfz14_0, hfz14_1⟩ := cz2 BK207.1) | ((with_reducible refine gate_callee (f := 57) rfl ?_); refine goesM (N := (some 5)) #[.int .i64 a0_0] Try.func57 ?_; (with_reducible refine (spec_ttInputs.calls a0_0 false _ A2.1).mono ?_); rintro e w' ⟨rfl, ⟨nd, rfl⟩⟩; refine ⟨_, rfl, ?_⟩))
 go_ret
 exact ⟨RF, BL HB.1⟩

/-! ### spec_ttHas: function 46 -/
open Kd
def spec_ttHas.f (k : Nat) (a0_0 : Int) (l0_1 : List Int) (a1 : Int) : Option (Bool) := (spec_ttGood.f k a0_0 l0_1).bind fun t211 => (if t211 = true then ((spec_l1In.f a1 0 (wrap64 (a0_0 - 1))).bind fun t212 => (some t212)) else (some false))
theorem spec_ttHas.mono : ∀ a0 a1 a2 k, LeO (spec_ttHas.f k a0 a1 a2) (spec_ttHas.f (k + 1) a0 a1 a2) := by
 intro a0 a1 a2 k
 unfold spec_ttHas.f
 repeat' first
  | (with_reducible exact spec_ttGood.mono _ _ _)
  | (with_reducible exact LeO.refl _)
  | (with_reducible exact LeO.none _)
  | (with_reducible refine LeO.ite ?_ ?_)
  | (with_reducible refine LeO.bind ?_ (fun _ => ?_))
  | exact spec_ttGood.mono _ _ _
  | exact LeO.none _
  | refine LeO.ite ?_ ?_
  | refine LeO.bind ?_ (fun _ => ?_)
theorem spec_ttHas.calls (k : Nat) (a0_0 : Int) (A0_1 : Option Addr) (c0_1 : Nat) (l0_1 : List Int) (a1 : Int) (r : Bool) (w : World) (hr0_1 : Kd.C (Kd.int .i64) w A0_1 l0_1.length l0_1) (hc0_1 : l0_1.length <= c0_1) (h : spec_ttHas.f k a0_0 l0_1 a1 = some r) :
 Calls Try.prog 46 #[.agg #[.int .i64 a0_0, .slice A0_1 l0_1.length c0_1], .int .i64 a1] w fun e w' => e = .returned (.bool r) /\ Below w.heap.size w w' := by
 have hu28 := Try.underlying28
 have HR0_1 := Aside0.mk hr0_1
 have HC0_1 := Aside0.mk hc0_1
 clear hr0_1 hc0_1
 have HB := Aside0.mk (Below.refl w.heap.size w)
 have H := h
 clear h
 unfold spec_ttHas.f at H
 replace H := bindA H; obtain ⟨t211, A3, H⟩ := H
 replace H := ifX H; rcases H with ⟨rfl, H⟩ | ⟨rfl, H⟩
 · replace H := bindA H; obtain ⟨t212, A5, H⟩ := H
   obtain rfl := Option.some.inj H
   go_enter Try.func46, Try.ntmps46
   go_wp2_with (first | ((with_reducible refine gate_dst (N := 2) rfl ?_); refine boxE (cs := #[.int .i64 a0_0, .slice A0_1 l0_1.length c0_1]) (t := 28) ?_; intro gb210 hg w6 hbox hb; refine E4b HB.1 hg hbox hb ?_; clear HB; intro HB BK210 GW210 GE210; clear hb hbox hg; obtain ⟨hcz7_0, hcz7_1, hfz7_0, hfz7_1⟩ := cz2 BK210.1) | ((with_reducible refine gate_callee (f := 34) rfl ?_); refine goesM (N := (some 6)) #[.agg #[.int .i64 a0_0, .slice A0_1 l0_1.length c0_1]] Try.func34 ?_; (with_reducible refine (spec_ttGood.calls k a0_0 _ _ l0_1 true _ ?side1 ?side2 A3.1).mono ?_); (case side1 => exact CB (C_below HR0_1.1 HB.1)); (case side2 => exact HC0_1.1); rintro e w8 ⟨rfl, hb⟩; refine ⟨_, rfl, ?_⟩; refine E2 (bB BK210.1 hb) (bS HB.1 hb) ?_; clear BK210 HB; intro BK210 HB; (try clear hb); obtain ⟨hcz9_0, hcz9_1, hfz9_0, hfz9_1⟩ := cz2 BK210.1) | (go_at_call 47; (with_reducible refine (spec_l1In.calls a1 0 (wrap64 (a0_0 - 1)) t212 _ A5.1).mono ?_); rintro e w' ⟨rfl, ⟨nd, rfl⟩⟩))
   go_ret
   exact ⟨RF, BL HB.1⟩
 obtain rfl := Option.some.inj H
 go_enter Try.func46, Try.ntmps46
 go_wp2_with (first | ((with_reducible refine gate_dst (N := 2) rfl ?_); refine boxE (cs := #[.int .i64 a0_0, .slice A0_1 l0_1.length c0_1]) (t := 28) ?_; intro gb210 hg w10 hbox hb; refine E4b HB.1 hg hbox hb ?_; clear HB; intro HB BK210 GW210 GE210; clear hb hbox hg; obtain ⟨hcz11_0, hcz11_1, hfz11_0, hfz11_1⟩ := cz2 BK210.1) | ((with_reducible refine gate_callee (f := 34) rfl ?_); refine goesM (N := (some 6)) #[.agg #[.int .i64 a0_0, .slice A0_1 l0_1.length c0_1]] Try.func34 ?_; (with_reducible refine (spec_ttGood.calls k a0_0 _ _ l0_1 false _ ?side1 ?side2 A3.1).mono ?_); (case side1 => exact CB (C_below HR0_1.1 HB.1)); (case side2 => exact HC0_1.1); rintro e w12 ⟨rfl, hb⟩; refine ⟨_, rfl, ?_⟩; refine E2 (bB BK210.1 hb) (bS HB.1 hb) ?_; clear BK210 HB; intro BK210 HB; (try clear hb)))
 go_ret
 exact ⟨RF, BL HB.1⟩

end Go.Proofs.Ytgekdgggpfiamaa.P
