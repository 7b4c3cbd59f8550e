-- PRINTED by print.py (a twelfth state) out of the translation. Not trusted: Lean checks it.
import Derived.Test.YtgekdgggpfiamaaPx0
import Derived.Test.YtgekdgggpfiamaaPx1
import Derived.Test.YtgekdgggpfiamaaPx2
import Derived.Test.YtgekdgggpfiamaaPx3
namespace Go.Proofs.Ytgekdgggpfiamaa.P
open Go.RowKit Go.Proofs.YtgekdgggpfiamaaW.PrintWords Go.Proofs.YtgekdgggpfiamaaW.PrintLast Go.Proofs.YtgekdgggpfiamaaW.PrintMore
attribute [local go_sem] max2_int min2_int max_two min_two max_three min_three max_four min_four   -- for this text's walks alone
set_option linter.unusedVariables false
set_option linter.unusedSimpArgs false
set_option maxHeartbeats 8000000
set_option maxRecDepth 100000

/-! ### spec_SwapInputs: function 19 -/
open Kd
def spec_SwapInputs.j0 : Nat -> Int -> Int -> Bool -> Int -> List Int -> Option (Int × List Int × Bool)
 | 0, _, _, _, _, _ => none
 | k + 1, x1, x2, x17, x270000, x270001 => if x17 = true then (some (0, ([] : List Int), false)) else (if x1 = x2 then ((spec_l1Own.f x270001).bind fun t273 => (some (x270000, t273, true))) else ((spec_ttSwapped.f k x270000 x270001 x1 x2).bind fun bt276 => (some (bt276.1, bt276.2, true))))
def spec_SwapInputs.f (k : Nat) (a0_0 : Int) (l0_1 : List Int) (a1 : Int) (a2 : Int) : Option (Int × List Int × Bool) := (spec_ttHas.f k a0_0 l0_1 a1).bind fun t271 => (if t271 = true then ((spec_ttHas.f k a0_0 l0_1 a2).bind fun t272 => (spec_SwapInputs.j0 k a1 a2 (!t272) a0_0 l0_1)) else (spec_SwapInputs.j0 k a1 a2 true a0_0 l0_1))
theorem spec_SwapInputs.mono_l : ∀ k, (∀ y0 y1 y2 y3 y4, LeO (spec_SwapInputs.j0 k y0 y1 y2 y3 y4) (spec_SwapInputs.j0 (k + 1) y0 y1 y2 y3 y4))
 | 0 => fun _ _ _ _ _ r h => by simp [spec_SwapInputs.j0] at h
 | k + 1 => by
  have ih0 := spec_SwapInputs.mono_l k
  intros
  first | unfold spec_SwapInputs.j0
  exact LM3 ih0 spec_ttHas.mono spec_ttSwapped.mono
theorem spec_SwapInputs.mono : ∀ a0 a1 a2 a3 k, LeO (spec_SwapInputs.f k a0 a1 a2 a3) (spec_SwapInputs.f (k + 1) a0 a1 a2 a3) := by
 intro a0 a1 a2 a3 k
 have ih0 := spec_SwapInputs.mono_l k
 unfold spec_SwapInputs.f
 exact LM3 ih0 spec_ttHas.mono spec_ttSwapped.mono
def spec_SwapInputs.T4 : Bool × List (List Nat × List Nat) := (true, [([], []), ([0], [0]), ([], []), ([2], [2]), ([3], [3]), ([1, 4], [1, 4]), ([5, 4, 0, 1, 2, 3, 4, 5], [5]), ([6, 0, 1, 2, 3, 4, 5, 6], [])])
def spec_SwapInputs.B4 : List Nat := [0, 1, 0, 4, 12, 31, 63, 127]
theorem spec_SwapInputs.tab4 : rtab .any (opsOf Try.f19 4) = spec_SwapInputs.T4 := by kernel_rfl
theorem spec_SwapInputs.bits4 : waitsOk spec_SwapInputs.T4.2 spec_SwapInputs.B4 = true := by kernel_rfl
theorem spec_SwapInputs.calls (k : Nat) (a0_0 : Int) (A0_1 : Option Addr) (c0_1 : Nat) (l0_1 : List Int) (a1 : Int) (a2 : Int) (r1 : Int) (r2 : List Int) (r3 : Bool) (w : World) (hr0_1 : Kd.C (Kd.int .i64) w A0_1 l0_1.length l0_1) (hc0_1 : l0_1.length <= c0_1) (h : spec_SwapInputs.f k a0_0 l0_1 a1 a2 = some (r1, r2, r3)) :
 Calls Try.prog 19 #[.agg #[.int .i64 a0_0, .slice A0_1 l0_1.length c0_1], .int .i64 a1, .int .i64 a2] w fun e w' => ∃ v1_ : Value, e = .returned (.tuple #[.agg #[.int .i64 r1, v1_], .bool r3]) /\ Kd.R (Kd.int .i64) 3 w' w.heap.size (fun _ => True) v1_ r2 /\ Below w.heap.size w w' := by
 have hu28 := Try.underlying28
 have HR0_1 := Aside0.mk hr0_1
 have HC0_1 := Aside0.mk hc0_1
 clear hr0_1 hc0_1
 have HB := Aside0.mk (Below.refl w.heap.size w)
 have H := h
 clear h
 unfold spec_SwapInputs.f at H
 have HC4 := Aside0.mk H
 clear H
 go_enter Try.func19, Try.ntmps19
 go_upto_region 1 with (first | ((with_reducible refine gate_dst (N := 3) rfl ?_); refine boxE (cs := #[.int .i64 a0_0, .slice A0_1 l0_1.length c0_1]) (t := 28) ?_; intro gb269 hg w5 hbox hb; refine E4b HB.1 hg hbox hb ?_; clear HB; intro HB BK269 GW269 GE269; clear hb hbox hg) | ((with_reducible refine gate_dst (N := 6) rfl ?_); refine boxE (cs := #[.int .i64 0, .slice none 0 0]) (t := 28) ?_; intro gb270 hg w6 hbox hb; refine E7 (bB BK269.1 hb) (bS HB.1 hb) (hbox) (gX HB.1 hg) (gX HB.1 hg) (nB BK269.1 hg) (nC BK269.1 hg) ?_; clear BK269 HB; intro BK269 HB BK270 GW270 GE270 NB269_270 NB270_269; clear hb hbox hg))
 (try simp only [Act.put, List.setIfInBounds_toArray, List.set_cons_zero, List.set_cons_succ])
 go_cut [17] (fun v17 wc => ∃ (kq : Nat) (x17_3 : Bool), v17 = .bool x17_3 /\ Aside0 (spec_SwapInputs.j0 kq a1 a2 x17_3 a0_0 l0_1 = some (r1, r2, r3)) /\ Aside0 (kq <= k) /\ Aside0 (wc.heap[gb269]? = some (.cells #[.int .i64 a0_0, (.slice A0_1 l0_1.length c0_1)] 28 (0, 0))) /\ Aside0 (wc.heap[gb270]? = some (.cells #[.int .i64 0, (.slice none 0 0)] 28 (0, 0))) /\ Aside0 (Below w.heap.size w wc))
 case first =>
  have H := HC4.1
  clear HC4
  replace H := bindA H; obtain ⟨t271, A7, H⟩ := H
  replace H := ifX H; rcases H with ⟨rfl, H⟩ | ⟨rfl, H⟩
  · replace H := bindA H; obtain ⟨t272, A9, H⟩ := H
    have H' := Aside0.mk H
    clear H
    have hnb10 := NB269_270.1
    have hnc10 := NB270_269.1
    obtain ⟨hcz11_0, hcz11_1, hfz11_0, hfz11_1⟩ := cz2 BK269.1
    go_wp2_with (first | ((with_reducible refine gate_callee (f := 46) rfl ?_); refine goesM (N := (some 10)) #[.agg #[.int .i64 a0_0, .slice A0_1 l0_1.length c0_1], .int .i64 a1] Try.func46 ?_; (with_reducible refine (spec_ttHas.calls k a0_0 _ _ l0_1 a1 true _ ?side1 ?side2 A7.1).mono ?_); (case side1 => exact CB (C_below HR0_1.1 HB.1)); (case side2 => exact HC0_1.1); rintro e w12 ⟨rfl, hb⟩; refine ⟨_, rfl, ?_⟩; refine E3 (bB BK269.1 hb) (bB BK270.1 hb) (bS HB.1 hb) ?_; clear BK269 BK270 HB; intro BK269 BK270 HB; (try clear hb); obtain ⟨hcz13_0, hcz13_1, hfz13_0, hfz13_1⟩ := cz2 BK269.1) | (go_at_call 46; (with_reducible refine (spec_ttHas.calls k a0_0 _ _ l0_1 a2 t272 _ ?side1 ?side2 A9.1).mono ?_); (case side1 => exact CB (C_below HR0_1.1 HB.1)); (case side2 => exact HC0_1.1); rintro e w14 ⟨rfl, hb⟩; refine E3 (bB BK269.1 hb) (bB BK270.1 hb) (bS HB.1 hb) ?_; clear BK269 BK270 HB; intro BK269 BK270 HB; (try clear hb)))
    go_meet
    case rel => exact ⟨_, (!t272), RG, H', ⟨by first | omega | exact Nat.le_refl _⟩, ⟨PB BK269.1⟩, ⟨PB BK270.1⟩, ⟨BL HB.1⟩⟩
  have H' := Aside0.mk H
  clear H
  have hnb15 := NB269_270.1
  have hnc15 := NB270_269.1
  obtain ⟨hcz16_0, hcz16_1, hfz16_0, hfz16_1⟩ := cz2 BK269.1
  go_wp2_with (first | ((with_reducible refine gate_callee (f := 46) rfl ?_); refine goesM (N := (some 10)) #[.agg #[.int .i64 a0_0, .slice A0_1 l0_1.length c0_1], .int .i64 a1] Try.func46 ?_; (with_reducible refine (spec_ttHas.calls k a0_0 _ _ l0_1 a1 false _ ?side1 ?side2 A7.1).mono ?_); (case side1 => exact CB (C_below HR0_1.1 HB.1)); (case side2 => exact HC0_1.1); rintro e w17 ⟨rfl, hb⟩; refine ⟨_, rfl, ?_⟩; refine E3 (bB BK269.1 hb) (bB BK270.1 hb) (bS HB.1 hb) ?_; clear BK269 BK270 HB; intro BK269 BK270 HB; (try clear hb)))
  go_meet
  case rel => exact ⟨_, (true), RG, H', ⟨by first | omega | exact Nat.le_refl _⟩, ⟨PB BK269.1⟩, ⟨PB BK270.1⟩, ⟨BL HB.1⟩⟩
 clear HC4
 obtain ⟨kq, x17_3, rfl, HA, HJ3, BK269, BK270, HB⟩ := hcut
 cases kq with
 | zero => exact absurd HA.1 (by simp [spec_SwapInputs.j0])
 | succ kj3 => ?_
 have H := HA.1
 clear HA
 simp only [spec_SwapInputs.j0] at H
 replace H := ifX H; rcases H with ⟨rfl, H⟩ | ⟨rfl, H⟩
 · simp only [Option.some.injEq, Prod.mk.injEq] at H
   obtain ⟨rfl, rfl, rfl⟩ := H
   have hnb19 := NB270_269.1
   have hnc19 := NB269_270.1
   obtain ⟨hcz20_0, hcz20_1, hfz20_0, hfz20_1⟩ := cz2 BK270.1
   go_wp2
   refine bodyPost_ret (results_ct rfl _ _ gb270 28 #[.int .i64 0, .slice none 0 0] (0, 0) _ rfl (PF0 BK270.1) Try.underlying28 rfl (by kernel_rfl)) rfl ?_
   exact ⟨_, RF, by first | exact R_nil _ _ _ _ _ | exact N_nil _ _ _ _ _ | exact V_nil _ _ _ _ _ | exact Q_nil _ _ _ _ _ | exact S_nil _ _ _ _ _, BL HB.1⟩
 replace H := ifQ H; rcases H with ⟨c21, H⟩ | ⟨c21, H⟩
 · have c21b0 := beq_iff_eq.mpr c21
   have c21b1 := bne_eq_false_iff_eq.mpr c21
   clear c21
   replace H := bindA H; obtain ⟨t273, A22, H⟩ := H
   simp only [Option.some.injEq, Prod.mk.injEq] at H
   obtain ⟨rfl, rfl, rfl⟩ := H
   try go_wp2
   refine E3 (blk_drew BK269.1) (blk_drew BK270.1) (below_drew1 HB.1) ?_
   clear BK269 BK270 HB
   intro BK269 BK270 HB
   refine start_ (n := 8) (S := fun w' => w'.cell? ⟨gb269, 0, none⟩ = some (.int .i64 a0_0) /\ w'.cell? ⟨gb269, 1, none⟩ = some (.slice A0_1 l0_1.length c0_1)) (ds := []) #[Zz,Zz,Zz,Zz,Zz,Zz,Zz,Zz] (by kernel_rfl) rfl rfl ⟨(blk_cell BK269.1 0).trans rfl, (blk_cell BK269.1 1).trans rfl⟩ (fun hHeld => ?_); refine with_tabW spec_SwapInputs.tab4 spec_SwapInputs.bits4 (fun HT_ HW_ => ?_)
   generalize wc.drew = w23 at BK269 BK270 HB hHeld ⊢
   refine pureF 0 (N := some 22) HT_.1 ?_
   refine pureF 2 (N := some 24) HT_.1 ?_
   refine takeE 1 (N := some 23) HT_.1 HW_.1 hHeld ?_
   refine takeE 3 (N := some 25) HT_.1 HW_.1 hHeld ?_
   refine one_ (i := 4) (N := some 26) #[Yy,Yy,Yy,Yy,Yy,Zz,Zz,Zz] rfl rfl (one_of HT_.1 (by kernel_rfl)) (by decide) (fun K hK => ?_)
   refine goes_ Try.func50 (by kernel_rfl) rfl #[.slice A0_1 l0_1.length c0_1] (by rfl) rfl rfl (by (try simp only [List.map_toArray, List.map_cons, List.map_nil]); first | done | rfl | (simp only [List.length_drop, List.length_take]; rfl)) ?_
   with_reducible refine (spec_l1Own.calls _ _ l0_1 t273 _ ?side1 ?side2 A22.1).mono ?_
   (case side1 => exact CB (C_below HR0_1.1 HB.1))
   (case side2 => exact HC0_1.1)
   rintro e w24 ⟨v274, rfl, ho0, hb⟩
   refine ⟨_, rfl, ?_⟩
   refine E4 (R_lower ho0 (bZ HB.1)) (bB BK269.1 hb) (bB BK270.1 hb) (bS HB.1 hb) ?_
   clear BK269 BK270 HB
   intro HO275 BK269 BK270 HB
   (try clear hb)
   (try clear hb2)
   (try clear hk)
   (try clear hi)
   (try clear ho0)
   obtain ⟨Ao25, co25, eo25⟩ := R_slice HO275.1
   (first | subst eo25 | (injection eo25 with f1_ f2_ f3_; have f4_ := f1_.symm; have f5_ := f3_.symm; clear f1_ f2_ f3_; subst f4_; subst f5_))
   refine hK.out _ _ ⟨(blk_cell BK269.1 0).trans rfl, (blk_cell BK269.1 1).trans rfl⟩ (fun hHeld => ?_)
   clear hK K
   refine norm_ (a' := ?_) ?_ ?_
   rotate_left
   · show Act.put _ (some 26) _ = _
     simp only [Act.put, List.setIfInBounds_toArray, List.set_cons_zero, List.set_cons_succ, i64_w, i32_w]
     rfl
   refine pureF 5 (N := some 27) HT_.1 ?_
   refine one_ (i := 6) (N := none) #[Yy,Yy,Yy,Yy,Yy,Yy,Yy,Zz] rfl rfl (one_of HT_.1 (by kernel_rfl)) (by decide) (fun K hK => ?_)
   obtain ⟨hs26, hs27, hfs26, hfs27⟩ := cz2 BK270.1
   have hns26_0 := NB269_270.1
   have hms26_0 := NB270_269.1
   refine skip_ (w1 := ?_) (by rfl) rfl ?_ ?_
   rotate_left
   · go_simp
     rfl
   refine hK.out _ _ ⟨(CF2 NB269_270.1 hHeld.1), (CF2 NB269_270.1 hHeld.2)⟩ (fun hHeld => ?_)
   clear hK K
   refine pureF 7 (N := some 7) HT_.1 ?_
   refine done_ (done_of HT_.1 (by kernel_rfl)) ?_
   try go_wp2
   refine bodyPost_ret (results_ct rfl _ _ gb270 28 #[.int .i64 a0_0, .slice Ao25 t273.length co25] (0, 0) _ rfl (PF0 BK270.1) Try.underlying28 rfl (by kernel_rfl)) rfl ?_
   exact ⟨_, RF, by (with_reducible repeat (first | apply R_alloc | apply R_drewN | apply R_drew)); exact R_mono (RQ gb270 1 (RQ gb270 0 (R_types HO275.1 BK270.1 (by decide)) _) _) (fun _ hk => trivial), BL HB.1⟩
 have c21b0 := beq_eq_false_iff_ne.mpr c21
 have c21b1 := bne_iff_ne.mpr c21
 replace H := bindA H; obtain ⟨⟨t276, t277⟩, A28, H⟩ := H
 dsimp only at H
 simp only [Option.some.injEq, Prod.mk.injEq] at H
 obtain ⟨rfl, rfl, rfl⟩ := H
 have hnb29 := NB269_270.1
 have hnc29 := NB270_269.1
 obtain ⟨hcz30_0, hcz30_1, hfz30_0, hfz30_1⟩ := cz2 BK269.1
 go_wp2_with (first | ((with_reducible refine gate_callee (f := 51) rfl ?_); refine goesM (N := (some 31)) #[.agg #[.int .i64 a0_0, .slice A0_1 l0_1.length c0_1], .int .i64 a1, .int .i64 a2] Try.func51 ?_; (with_reducible refine (spec_ttSwapped.calls kj3 a0_0 _ _ l0_1 a1 a2 t276 t277 _ ?side1 ?side2 A28.1).mono ?_); (case side1 => exact CB (C_below HR0_1.1 HB.1)); (case side2 => exact HC0_1.1); rintro e w31 ⟨v278, rfl, ho0, hb⟩; refine ⟨_, rfl, ?_⟩; refine E4 (R_lower ho0 (bZ HB.1)) (bB BK269.1 hb) (bB BK270.1 hb) (bS HB.1 hb) ?_; clear BK269 BK270 HB; intro HO279 BK269 BK270 HB; (try clear hb); (try clear ho0); obtain ⟨hcz32_0, hcz32_1, hfz32_0, hfz32_1⟩ := cz2 BK270.1; obtain ⟨Ao33, co33, eo33⟩ := R_slice HO279.1; subst eo33))
 refine bodyPost_ret (results_ct rfl _ _ gb270 28 #[.int .i64 t276, .slice Ao33 t277.length co33] (0, 0) _ rfl (PF0 BK270.1) Try.underlying28 rfl (by kernel_rfl)) rfl ?_
 exact ⟨_, RF, by (with_reducible repeat (first | apply R_alloc | apply R_drewN | apply R_drew)); exact R_mono (RQ gb270 1 (RQ gb270 0 (R_types HO279.1 BK270.1 (by decide)) _) _) (fun _ hk => trivial), BL HB.1⟩
/-! ### spec_DrawIsTable: function 52 -/
open Kd
open Kd
def spec_DrawIsTable.g (k : Nat) (s0_0 : List Int) (s0_1 : Int) (s0_2 : Int) : Option (Int × List Int × Int × Int) := (spec_l1Cur_anyTable.f k s0_0 s0_1 s0_2).bind fun bt318 => (some (bt318.1, bt318.2.1, bt318.2.2.1, bt318.2.2.2))
theorem spec_DrawIsTable.mong : ∀ a0 a1 a2 k, LeO (spec_DrawIsTable.g k a0 a1 a2) (spec_DrawIsTable.g (k + 1) a0 a1 a2) := by
 intro a0 a1 a2 k
 unfold spec_DrawIsTable.g
 repeat' first
  | (with_reducible exact spec_l1Cur_anyTable.mono _ _ _ _)
  | (with_reducible exact LeO.refl _)
  | (with_reducible exact LeO.none _)
  | (with_reducible refine LeO.ite ?_ ?_)
  | (with_reducible refine LeO.bind ?_ (fun _ => ?_))
  | exact spec_l1Cur_anyTable.mono _ _ _ _
  | exact LeO.none _
  | refine LeO.ite ?_ ?_
  | refine LeO.bind ?_ (fun _ => ?_)
def spec_DrawIsTable.f (k : Nat) (l0 : List Int) : Option (Int × List Int) := (spec_DrawIsTable.g k l0 0 0).bind fun t => some (t.1, t.2.1)
theorem spec_DrawIsTable.mono : ∀ a0 k, LeO (spec_DrawIsTable.f k a0) (spec_DrawIsTable.f (k + 1) a0) := fun _ _ => LeO.bind (spec_DrawIsTable.mong _ _ _ _) (fun _ => LeO.refl _)
theorem spec_DrawIsTable.walk (k : Nat) (A0 : Option Addr) (c0 : Nat) (l0 : List Int) (r1 : Int) (r2 : List Int) (r3 : Int) (r4 : Int) (w : World) (hr0 : Kd.C (Kd.int .u8) w A0 l0.length l0) (h : spec_DrawIsTable.g k l0 0 0 = some (r1, r2, r3, r4)) :
 Calls Try.prog 52 #[.slice A0 l0.length c0] w fun e w' => ∃ (v1_ : Value) (g : Nat), e = .returned (.agg #[.int .i64 r1, v1_]) /\ Kd.Q (Kd.int .i64) 3 w' w.heap.size (fun _ => True) v1_ r2 /\ IsS62 w w' g l0 r3 r4 /\ Below w.heap.size w w' /\ KeepBut w w' g none := by
 have hu28 := Try.underlying28
 have HR := Aside0.mk hr0
 clear hr0
 have HW0 := Aside0.mk (Nat.le_refl w.heap.size)
 have HB := Aside0.mk (Below.refl w.heap.size w)
 have H := h
 clear h
 unfold spec_DrawIsTable.g at H
 replace H := bindA H; obtain ⟨⟨t318, t319, t322, t323⟩, A2, H⟩ := H
 dsimp only at H
 simp only [Option.some.injEq, Prod.mk.injEq] at H
 obtain ⟨rfl, rfl, rfl, rfl⟩ := H
 go_enter Try.func52, Try.ntmps52
 go_wp2_with (first | ((with_reducible refine gate_dst (N := 2) rfl ?_); refine boxE (cs := #[.int .i64 0, .slice none 0 0]) (t := 28) ?_; intro gb317 hg w3 hbox hb; have n0_ := Aside0.mk (bS HB.1 hb); have BK317 := Aside0.mk hbox; have GW317 := Aside0.mk (gX HB.1 hg : w.heap.size <= gb317); have GE317 := GW317; clear HB; have HB := n0_; clear n0_ hbox hg hb) | ((with_reducible refine gate_dst (N := 6) rfl ?_); refine boxE (cs := #[.slice A0 l0.length c0, .int .i64 0, .int .u64 0]) (t := 62) ?_; intro g hg wz_ hbox hb; have n0_ := Aside0.mk (bS HB.1 hb); have n1_ := Aside0.mk (bB BK317.1 hb); have HI0 := Aside0.mk (show IsS62 w wz_ g l0 0 0 from ⟨A0, c0, hbox, gX HB.1 hg, HR.1⟩); have HK := Aside0.mk (KeepBut.of_below n0_.1 g none); have NB0_317 := Aside0.mk (show g ≠ gb317 from nC BK317.1 hg); have NB317_0 := Aside0.mk (show gb317 ≠ g from nB BK317.1 hg); clear HB BK317; have HB := n0_; have BK317 := n1_; clear n0_ n1_ hbox hg hb) | ((with_reducible refine gate_callee (f := 43) rfl ?_); refine goesM (N := (some 8)) #[.pointer (some ⟨g, 0, none⟩)] Try.func43 ?_; (with_reducible refine (spec_l1Cur_anyTable.calls k g l0 0 0 t318 t319 t322 t323 w _ ?side1 ?side2 A2.1).mono ?_); (case side1 => repeat (first | (with_reducible first | exact HI0.1 | apply IsS62.alloc | apply IsS62.drewN | apply IsS62.drew | apply IsS62.set_1 | apply IsS62.set_2 | refine IsS62.far ?_ NB0_317.1 _) | exact HI0.1)); (case side2 => repeat (first | (with_reducible first | exact HB.1 | apply below_alloc | apply pw_below_drewN | apply below_drew1 | refine below_set ?_ (IsS62.ge HI0.1) | refine below_set ?_ GE317.1) | exact HB.1)); rintro e w4 ⟨v320, rfl, ho0, hi, hb, hk⟩; refine ⟨_, rfl, ?_⟩; refine E5 (KeepBut.blk hk (g' := gb317) (o := .cells #[.int .i64 0, .slice none 0 0] 28 (0, 0)) (PB BK317.1) NB317_0.1 (by simp)) (Q_lower ho0 (keep_size (w := w) (g := g) (row := none) (by repeat (first | (with_reducible first | exact HK.1 | apply KeepBut.set_ | apply keep_drewN | apply keep_drew | apply keep_alloc | refine keep_far ?_ GW317.1 _) | exact HK.1)))) (KeepBut.trans (by repeat (first | (with_reducible first | exact HK.1 | apply KeepBut.set_ | apply keep_drewN | apply keep_drew | apply keep_alloc | refine keep_far ?_ GW317.1 _) | exact HK.1)) hk (.inl rfl)) (hb) (hi) ?_; clear BK317 HK HB HI0; intro BK317 HO321 HK HB HI0; (try clear hb); (try clear hk); (try clear hi); have hnb5 := NB317_0.1; have hnc5 := NB0_317.1; obtain ⟨hcz6_0, hcz6_1, hfz6_0, hfz6_1⟩ := cz2 BK317.1; obtain ⟨Ao7, co7, eo7, _⟩ := Q_slice HO321.1; subst eo7))
 refine bodyPost_ret (results_cell_row rfl _ _ gb317 28 #[.int .i64 t318, .slice Ao7 t319.length co7] (0, 0) _ rfl (PF0 BK317.1) Try.underlying28 rfl (by kernel_rfl)) rfl ?_
 exact ⟨_, g, RF, by (with_reducible repeat (first | apply Q_alloc | apply Q_drewN | apply Q_drew)); exact Q_mono (Q_far (p := ⟨gb317, 1, none⟩) (Q_far (p := ⟨gb317, 0, none⟩) (Q_types HO321.1 BK317.1 (by decide)) (fun _ hk => hk.2) (.int .i64 t318)) (fun _ hk => hk.2) (.slice Ao7 t319.length co7)) (fun _ hk => trivial), by repeat (first | (with_reducible first | exact HI0.1 | apply IsS62.alloc | apply IsS62.drewN | apply IsS62.drew | apply IsS62.set_1 | apply IsS62.set_2 | refine IsS62.far ?_ NB0_317.1 _) | exact HI0.1), by repeat (first | (with_reducible first | exact HB.1 | apply below_alloc | apply pw_below_drewN | apply below_drew1 | refine below_set ?_ (IsS62.ge HI0.1) | refine below_set ?_ GE317.1) | exact HB.1), by repeat (first | (with_reducible first | exact HK.1 | apply KeepBut.set_ | apply keep_drewN | apply keep_drew | apply keep_alloc | refine keep_far ?_ GW317.1 _) | exact HK.1)⟩
theorem spec_DrawIsTable.calls (k : Nat) (A0 : Option Addr) (c0 : Nat) (l0 : List Int) (r1 : Int) (r2 : List Int) (w : World) (hr0 : Kd.C (Kd.int .u8) w A0 l0.length l0) (hc0 : l0.length <= c0) (h : spec_DrawIsTable.f k l0 = some (r1, r2)) :
 Calls Try.prog 52 #[.slice A0 l0.length c0] w fun e w' => ∃ v1_ : Value, e = .returned (.agg #[.int .i64 r1, v1_]) /\ Kd.Q (Kd.int .i64) 3 w' w.heap.size (fun _ => True) v1_ r2 /\ Below w.heap.size w w' := by
 unfold spec_DrawIsTable.f at h
 replace h := bindA h; obtain ⟨⟨t0, t1, t2, t3⟩, A2, h⟩ := h
 simp only [Option.some.injEq, Prod.mk.injEq] at h
 obtain ⟨rfl, rfl⟩ := h
 exact (spec_DrawIsTable.walk k A0 c0 l0 t0 t1 t2 t3 w hr0 A2.1).mono fun e w' ⟨v, g, h1, h2, _, h4, _⟩ => ⟨v, h1, h2, h4⟩

/-! ### spec_DrawDependsOn: function 20 -/
open Kd
def spec_DrawDependsOn.f (k : Nat) (l0 : List Int) : Option (Int × List Int) := (spec_DrawIsTable.f k l0).bind fun bt281 => (some (bt281.1, bt281.2))
theorem spec_DrawDependsOn.mono : ∀ a0 k, LeO (spec_DrawDependsOn.f k a0) (spec_DrawDependsOn.f (k + 1) a0) := by
 intro a0 k
 unfold spec_DrawDependsOn.f
 repeat' first
  | (with_reducible exact spec_DrawIsTable.mono _ _)
  | (with_reducible exact LeO.refl _)
  | (with_reducible exact LeO.none _)
  | (with_reducible refine LeO.ite ?_ ?_)
  | (with_reducible refine LeO.bind ?_ (fun _ => ?_))
  | exact spec_DrawIsTable.mono _ _
  | exact LeO.none _
  | refine LeO.ite ?_ ?_
  | refine LeO.bind ?_ (fun _ => ?_)
theorem spec_DrawDependsOn.calls (k : Nat) (A0 : Option Addr) (c0 : Nat) (l0 : List Int) (r1 : Int) (r2 : List Int) (w : World) (hr0 : Kd.C (Kd.int .u8) w A0 l0.length l0) (hc0 : l0.length <= c0) (h : spec_DrawDependsOn.f k l0 = some (r1, r2)) :
 Calls Try.prog 20 #[.slice A0 l0.length c0] w fun e w' => ∃ v1_ : Value, e = .returned (.agg #[.int .i64 r1, v1_]) /\ Kd.Q (Kd.int .i64) 3 w' w.heap.size (fun _ => True) v1_ r2 /\ Below w.heap.size w w' := by
 have hu28 := Try.underlying28
 have HR0 := Aside0.mk hr0
 have HC0 := Aside0.mk hc0
 clear hr0 hc0
 have HB := Aside0.mk (Below.refl w.heap.size w)
 have H := h
 clear h
 unfold spec_DrawDependsOn.f at H
 replace H := bindA H; obtain ⟨⟨t281, t282⟩, A2, H⟩ := H
 dsimp only at H
 simp only [Option.some.injEq, Prod.mk.injEq] at H
 obtain ⟨rfl, rfl⟩ := H
 go_enter Try.func20, Try.ntmps20
 go_wp2_with (first | ((with_reducible refine gate_dst (N := 2) rfl ?_); refine boxE (cs := #[.int .i64 0, .slice none 0 0]) (t := 28) ?_; intro gb280 hg w3 hbox hb; refine E4b HB.1 hg hbox hb ?_; clear HB; intro HB BK280 GW280 GE280; clear hb hbox hg) | ((with_reducible refine gate_callee (f := 52) rfl ?_); refine goesM (N := (some 4)) #[.slice A0 l0.length c0] Try.func52 ?_; (with_reducible refine (spec_DrawIsTable.calls k _ _ l0 t281 t282 _ ?side1 ?side2 A2.1).mono ?_); (case side1 => exact CB (C_below HR0.1 HB.1)); (case side2 => exact HC0.1); rintro e w4 ⟨v283, rfl, ho0, hb⟩; refine ⟨_, rfl, ?_⟩; refine E3 (Q_lower ho0 (bZ HB.1)) (bB BK280.1 hb) (bS HB.1 hb) ?_; clear BK280 HB; intro HO284 BK280 HB; (try clear hb); (try clear ho0); obtain ⟨hcz5_0, hcz5_1, hfz5_0, hfz5_1⟩ := cz2 BK280.1; obtain ⟨Ao6, co6, eo6, _⟩ := Q_slice HO284.1; subst eo6))
 refine bodyPost_ret (results_cell_row rfl _ _ gb280 28 #[.int .i64 t281, .slice Ao6 t282.length co6] (0, 0) _ rfl (PF0 BK280.1) Try.underlying28 rfl (by kernel_rfl)) rfl ?_
 exact ⟨_, RF, by (with_reducible repeat (first | apply Q_alloc | apply Q_drewN | apply Q_drew)); exact Q_mono (Q_far (p := ⟨gb280, 1, none⟩) (Q_far (p := ⟨gb280, 0, none⟩) (Q_types HO284.1 BK280.1 (by decide)) (fun _ hk => hk.2) (.int .i64 t281)) (fun _ hk => hk.2) (.slice Ao6 t282.length co6)) (fun _ hk => trivial), BL HB.1⟩

/-! ### impl_DependsOn: function 21 -/
open Kd
mutual
def impl_DependsOn.l0 : Nat -> List Int -> Int -> Int -> List Int -> Option (List Int × Bool)
 | 0, _, _, _, _ => none
 | k + 1, x4, x5, x286000, x286001 => if x5 < x286000 then (impl_DependsOn.l1 k x4 x5 x286001 (x286001.length : Int) 0 x286000 x286001) else (some (x4, true))
def impl_DependsOn.l1 : Nat -> List Int -> Int -> List Int -> Int -> Int -> Int -> List Int -> Option (List Int × Bool)
 | 0, _, _, _, _, _, _, _ => none
 | k + 1, x4, x5, x19, x20, x21, x286000, x286001 => if x21 < x20 then (if 0 <= x21 then (if x21 < (x19.length : Int) then (if 0 <= x5 then (if 0 <= (Go.bits .xor .i64 x21 (shl .i64 1 x5)) then (if (Go.bits .xor .i64 x21 (shl .i64 1 x5)) < (x286001.length : Int) then (if (rd x19 x21) = (rd x286001 (Go.bits .xor .i64 x21 (shl .i64 1 x5))) then (impl_DependsOn.l1 k x4 x5 x19 x20 (wrap64 (x21 + 1)) x286000 x286001) else (if x4.length < 17592186044416 then (impl_DependsOn.l0 k (x4 ++ [x5]) (wrap64 (x5 + 1)) x286000 x286001) else (none))) else (none)) else (none)) else (none)) else (none)) else (none)) else (impl_DependsOn.l0 k x4 (wrap64 (x5 + 1)) x286000 x286001)
end
def impl_DependsOn.f (k : Nat) (a0_0 : Int) (l0_1 : List Int) : Option (List Int × Bool) := (impl_IsTable.f k a0_0 l0_1).bind fun t286 => (if t286 = true then (impl_DependsOn.l0 k (([] : List Int)) 0 a0_0 l0_1) else (some (([] : List Int), false)))
theorem impl_DependsOn.mono_l : ∀ k, (∀ y0 y1 y2 y3, LeO (impl_DependsOn.l0 k y0 y1 y2 y3) (impl_DependsOn.l0 (k + 1) y0 y1 y2 y3)) /\ (∀ y0 y1 y2 y3 y4 y5 y6, LeO (impl_DependsOn.l1 k y0 y1 y2 y3 y4 y5 y6) (impl_DependsOn.l1 (k + 1) y0 y1 y2 y3 y4 y5 y6))
 | 0 => by refine ⟨?_, ?_⟩ <;> (intros; intro r h; first | (simp [impl_DependsOn.l0] at h; done) | (simp [impl_DependsOn.l1] at h; done))
 | k + 1 => by
  obtain ⟨ih0, ih1⟩ := impl_DependsOn.mono_l k
  refine ⟨?_, ?_⟩ <;> (
   intros
   first | unfold impl_DependsOn.l0 | unfold impl_DependsOn.l1
   exact LM3 ih0 ih1 impl_IsTable.mono)
theorem impl_DependsOn.mono : ∀ a0 a1 k, LeO (impl_DependsOn.f k a0 a1) (impl_DependsOn.f (k + 1) a0 a1) := by
 intro a0 a1 k
 obtain ⟨ih0, ih1⟩ := impl_DependsOn.mono_l k
 unfold impl_DependsOn.f
 exact LM3 ih0 ih1 impl_IsTable.mono
theorem impl_DependsOn.calls (k : Nat) (a0_0 : Int) (A0_1 : Option Addr) (c0_1 : Nat) (l0_1 : List Int) (r1 : List Int) (r2 : Bool) (w : World) (hr0_1 : Kd.C (Kd.int .i64) w A0_1 l0_1.length l0_1) (hc0_1 : l0_1.length <= c0_1) (h : impl_DependsOn.f k a0_0 l0_1 = some (r1, r2)) :
 Calls Try.prog 21 #[.agg #[.int .i64 a0_0, .slice A0_1 l0_1.length c0_1]] w fun e w' => ∃ v0_ : Value, e = .returned (.tuple #[v0_, .bool r2]) /\ Kd.R (Kd.int .i64) 3 w' w.heap.size (fun _ => True) v0_ r1 /\ Below w.heap.size w w' := by
 have hu28 := Try.underlying28
 have HR0_1 := Aside0.mk hr0_1
 have HC0_1 := Aside0.mk hc0_1
 clear hr0_1 hc0_1
 have HB := Aside0.mk (Below.refl w.heap.size w)
 have H := h
 clear h
 unfold impl_DependsOn.f at H
 replace H := bindA H; obtain ⟨t286, A2, H⟩ := H
 replace H := ifX H; rcases H with ⟨rfl, H⟩ | ⟨rfl, H⟩
 · generalize hy287 : ((([] : List Int)) : List Int) = y287 at H
   have Ny287 := Aside0.mk hy287.symm; clear hy287
   have H' := Aside0.mk H
   clear H
   go_enter Try.func21, Try.ntmps21
   go_wp2_with (first | ((with_reducible refine gate_dst (N := 1) rfl ?_); refine boxE (cs := #[.int .i64 a0_0, .slice A0_1 l0_1.length c0_1]) (t := 28) ?_; intro gb285 hg w4 hbox hb; refine E4b HB.1 hg hbox hb ?_; clear HB; intro HB BK285 GW285 GE285; clear hb hbox hg; obtain ⟨hcz5_0, hcz5_1, hfz5_0, hfz5_1⟩ := cz2 BK285.1) | (go_at_call 39; (with_reducible refine (impl_IsTable.calls k a0_0 _ _ l0_1 true _ ?side1 ?side2 A2.1).mono ?_); (case side1 => exact CB (C_below HR0_1.1 HB.1)); (case side2 => exact HC0_1.1); rintro e w6 ⟨rfl, hb⟩; refine E2 (bB BK285.1 hb) (bS HB.1 hb) ?_; clear BK285 HB; intro BK285 HB; (try clear hb)) | ((with_reducible refine gate_dst (N := 11) rfl ?_); refine R_lit (Kd.int .i64) _ 3 ?hg (N := 11) ?hd (xs := ([] : List Int)) (inner := []) (ok := fun _ => True) (okp := fun _ => True) ?hr ?hp (fun _ hk => hk) trivial (Below.refl _ _) (Nat.le_refl _) (by simp) ?_; (case hd => rfl); (case hg => rfl); (case hr => first | (go_simp; done) | (go_simp; rfl)); (case hp => exact (Reps.none _ _)); intro v288 w7 ho8 hb hg_ hnew_; clear hg_ hnew_; (first | rw [<- Ny287.1] at ho8 | (simp only [Int.reduceToNat] at ho8; rw [<- Ny287.1] at ho8)); refine E3 (R_lower ho8 (bZ HB.1)) (bB BK285.1 hb) (bS HB.1 hb) ?_; clear BK285 HB; intro HO289 BK285 HB; clear hb ho8))
   repeat (go_quiet (first | ((with_reducible refine gate_dst (N := 1) rfl ?_); refine boxE (cs := #[.int .i64 a0_0, .slice A0_1 l0_1.length c0_1]) (t := 28) ?_; intro gb285 hg w4 hbox hb; refine E4b HB.1 hg hbox hb ?_; clear HB; intro HB BK285 GW285 GE285; clear hb hbox hg; obtain ⟨hcz5_0, hcz5_1, hfz5_0, hfz5_1⟩ := cz2 BK285.1) | (go_at_call 39; (with_reducible refine (impl_IsTable.calls k a0_0 _ _ l0_1 true _ ?side1 ?side2 A2.1).mono ?_); (case side1 => exact CB (C_below HR0_1.1 HB.1)); (case side2 => exact HC0_1.1); rintro e w6 ⟨rfl, hb⟩; refine E2 (bB BK285.1 hb) (bS HB.1 hb) ?_; clear BK285 HB; intro BK285 HB; (try clear hb)) | ((with_reducible refine gate_dst (N := 11) rfl ?_); refine R_lit (Kd.int .i64) _ 3 ?hg (N := 11) ?hd (xs := ([] : List Int)) (inner := []) (ok := fun _ => True) (okp := fun _ => True) ?hr ?hp (fun _ hk => hk) trivial (Below.refl _ _) (Nat.le_refl _) (by simp) ?_; (case hd => rfl); (case hg => rfl); (case hr => first | (go_simp; done) | (go_simp; rfl)); (case hp => exact (Reps.none _ _)); intro v288 w7 ho8 hb hg_ hnew_; clear hg_ hnew_; (first | rw [<- Ny287.1] at ho8 | (simp only [Int.reduceToNat] at ho8; rw [<- Ny287.1] at ho8)); refine E3 (R_lower ho8 (bZ HB.1)) (bB BK285.1 hb) (bS HB.1 hb) ?_; clear BK285 HB; intro HO289 BK285 HB; clear hb ho8)); try go_wp2_with (first | ((with_reducible refine gate_dst (N := 1) rfl ?_); refine boxE (cs := #[.int .i64 a0_0, .slice A0_1 l0_1.length c0_1]) (t := 28) ?_; intro gb285 hg w4 hbox hb; refine E4b HB.1 hg hbox hb ?_; clear HB; intro HB BK285 GW285 GE285; clear hb hbox hg; obtain ⟨hcz5_0, hcz5_1, hfz5_0, hfz5_1⟩ := cz2 BK285.1) | (go_at_call 39; (with_reducible refine (impl_IsTable.calls k a0_0 _ _ l0_1 true _ ?side1 ?side2 A2.1).mono ?_); (case side1 => exact CB (C_below HR0_1.1 HB.1)); (case side2 => exact HC0_1.1); rintro e w6 ⟨rfl, hb⟩; refine E2 (bB BK285.1 hb) (bS HB.1 hb) ?_; clear BK285 HB; intro BK285 HB; (try clear hb)) | ((with_reducible refine gate_dst (N := 11) rfl ?_); refine R_lit (Kd.int .i64) _ 3 ?hg (N := 11) ?hd (xs := ([] : List Int)) (inner := []) (ok := fun _ => True) (okp := fun _ => True) ?hr ?hp (fun _ hk => hk) trivial (Below.refl _ _) (Nat.le_refl _) (by simp) ?_; (case hd => rfl); (case hg => rfl); (case hr => first | (go_simp; done) | (go_simp; rfl)); (case hp => exact (Reps.none _ _)); intro v288 w7 ho8 hb hg_ hnew_; clear hg_ hnew_; (first | rw [<- Ny287.1] at ho8 | (simp only [Int.reduceToNat] at ho8; rw [<- Ny287.1] at ho8)); refine E3 (R_lower ho8 (bZ HB.1)) (bB BK285.1 hb) (bS HB.1 hb) ?_; clear BK285 HB; intro HO289 BK285 HB; clear hb ho8)))
   go_loopg [4, 5] k (fun kq v4 v5 w' => ∃ (x4_1 : List Int) (x5_1 : Int), v5 = .int .i64 x5_1 /\ Aside0 (impl_DependsOn.l0 kq x4_1 x5_1 a0_0 l0_1 = some (r1, r2)) /\ Aside0 (kq <= k) /\ Aside0 (Kd.R (Kd.int .i64) 3 w' w.heap.size (fun _ => True) v4 x4_1) /\ Aside0 (w'.heap[gb285]? = some (.cells #[.int .i64 a0_0, (.slice A0_1 l0_1.length c0_1)] 28 (0, 0))) /\ Aside0 (Below w.heap.size w w'))
   case atStart => exact ⟨(y287), (0), RG, H', ⟨Nat.le_refl _⟩, ⟨PR HO289.1⟩, ⟨PB BK285.1⟩, ⟨BL HB.1⟩⟩
   clear H'
   clear hcz5_0 hcz5_1 hfz5_0 hfz5_1
   obtain ⟨x4_1, x5_1, rfl, HA, HK1, HO_4, BK285, HB⟩ := hrel
   cases gk with
   | zero => exact absurd HA.1 (by simp [impl_DependsOn.l0])
   | succ k1 => ?_
   have H := HA.1
   clear HA
   simp only [impl_DependsOn.l0] at H
   replace H := ifB H; rcases H with ⟨c9b0, H⟩ | ⟨c9b0, H⟩
   · have H' := Aside0.mk H
     clear H
     obtain ⟨hcz10_0, hcz10_1, hfz10_0, hfz10_1⟩ := cz2 BK285.1
     go_wp2
     repeat (go_quiet (fail); try go_wp2)
     go_loopg [4, 21] k1 (fun kq v4 v21 w' => ∃ (x4_2 : List Int) (x21_2 : Int), v21 = .int .i64 x21_2 /\ Aside0 (impl_DependsOn.l1 kq x4_2 x5_1 l0_1 (l0_1.length : Int) x21_2 a0_0 l0_1 = some (r1, r2)) /\ Aside0 (kq <= k1) /\ Aside0 (Kd.R (Kd.int .i64) 3 w' w.heap.size (fun _ => True) v4 x4_2) /\ Aside0 (w'.heap[gb285]? = some (.cells #[.int .i64 a0_0, (.slice A0_1 l0_1.length c0_1)] 28 (0, 0))) /\ Aside0 (Below w.heap.size w w'))
     case atStart => exact ⟨(x4_1), (0), RG, H', ⟨Nat.le_refl _⟩, ⟨PR HO_4.1⟩, ⟨PB BK285.1⟩, ⟨BL HB.1⟩⟩
     clear H'
     clear c9b0 hcz10_0 hcz10_1 hfz10_0 hfz10_1
     obtain ⟨x4_2, x21_2, rfl, HA, HK2, HO_4, BK285, HB⟩ := hrel
     cases gk with
     | zero => exact absurd HA.1 (by simp [impl_DependsOn.l1])
     | succ k2 => ?_
     have H := HA.1
     clear HA
     simp only [impl_DependsOn.l1] at H
     replace H := ifB H; rcases H with ⟨c11b0, H⟩ | ⟨c11b0, H⟩
     · replace H := ifN H; obtain ⟨c12b0, H⟩ := H
       replace H := ifN H; obtain ⟨c13b0, H⟩ := H
       replace H := ifP H; obtain ⟨c14, H⟩ := H
       have c14b0 := eq_true c14
       have c14b1 := decide_eq_true c14
       clear c14
       obtain ⟨ji15, hji15⟩ : ∃ j_ : Int, (shl .i64 1 x5_1) = j_ := ⟨_, rfl⟩
       replace H : (if 0 <= (Go.bits .xor .i64 x21_2 (ji15)) then (if (Go.bits .xor .i64 x21_2 (ji15)) < (l0_1.length : Int) then (if (rd l0_1 x21_2) = (rd l0_1 (Go.bits .xor .i64 x21_2 (ji15))) then (impl_DependsOn.l1 k2 x4_2 x5_1 l0_1 (l0_1.length : Int) (wrap64 (x21_2 + 1)) a0_0 l0_1) else (if x4_2.length < 17592186044416 then (impl_DependsOn.l0 k2 (x4_2 ++ [x5_1]) (wrap64 (x5_1 + 1)) a0_0 l0_1) else (none))) else (none)) else (none)) = some (r1, r2) := by first | (rw [hji15] at H; exact H) | (simp only [hji15] at H ⊢; exact H)
       have hji15_ : (IntKind.i64.wrap (1 * 2 ^ min x5_1.toNat 64)) = ji15 := hji15
       have hji15z : x5_1 <= 64 -> (IntKind.i64.wrap (1 * 2 ^ x5_1.toNat)) = ji15 := shl_small hji15
       have hji15u : (IntKind.i64.wrap (2 ^ min x5_1.toNat 64)) = ji15 := by have h_ := hji15_; rw [Int.one_mul] at h_; exact h_
       have hji15v : x5_1 <= 64 -> (IntKind.i64.wrap (2 ^ x5_1.toNat)) = ji15 := fun hle_ => by have h_ := hji15z hle_; rw [Int.one_mul] at h_; exact h_
       have hji15y : (wrap64 (1 * 2 ^ min x5_1.toNat 64)) = ji15 := (i64_w _).symm.trans hji15_
       have hji15x : x5_1 <= 64 -> (wrap64 (1 * 2 ^ x5_1.toNat)) = ji15 := fun h_ => (i64_w _).symm.trans (hji15z h_)
       replace H := ifN H; obtain ⟨c16b0, H⟩ := H
       replace H := ifN H; obtain ⟨c17b0, H⟩ := H
       replace H := ifQ H; rcases H with ⟨c18, H⟩ | ⟨c18, H⟩
       · have c18b0 := beq_iff_eq.mpr c18
         have c18b1 := bne_eq_false_iff_eq.mpr c18
         clear c18
         have H' := Aside0.mk H
         clear H
         have p290 : 0 <= (x21_2 : Int) := OD
         have q290 : x21_2 < (l0_1.length : Int) := OD
         obtain ⟨ad290, e290, hx290_0⟩ := Kd.at_int HR0_1.1 x21_2 p290 q290
         cases e290
         replace hx290_0 := (HB.1.cell (World.block_lt_of_cell? w _ hx290_0)).trans hx290_0
         replace p290 := eq_true p290
         replace q290 := eq_true q290
         obtain ⟨hcz19_0, hcz19_1, hfz19_0, hfz19_1⟩ := cz2 BK285.1
         have p291 : 0 <= ((Go.bits .xor .i64 x21_2 (ji15)) : Int) := OD
         have q291 : (Go.bits .xor .i64 x21_2 (ji15)) < (l0_1.length : Int) := OD
         obtain ⟨ad291, e291, hx291_0⟩ := Kd.at_int HR0_1.1 (Go.bits .xor .i64 x21_2 (ji15)) p291 q291
         obtain rfl : ad290 = ad291 := (by injection e291)
         replace hx291_0 := (HB.1.cell (World.block_lt_of_cell? w _ hx291_0)).trans hx291_0
         replace p291 := eq_true p291
         replace q291 := eq_true q291
         go_wp2
         repeat (go_quiet (fail); try go_wp2)
         go_roundg k2
         case measure => have := HK1.1; have := HK2.1; omega
         case rel => exact ⟨(x4_2), (wrap64 (x21_2 + 1)), RG, H', ⟨by have := HK1.1; have := HK2.1; omega⟩, ⟨PR HO_4.1⟩, ⟨PB BK285.1⟩, ⟨BL HB.1⟩⟩
       have c18b0 := beq_eq_false_iff_ne.mpr c18
       have c18b1 := bne_iff_ne.mpr c18
       replace H := ifP H; obtain ⟨c20, H⟩ := H
       have LMc20 := Aside0.mk c20
       clear c20
       generalize hy292 : ((x4_2 ++ [x5_1]) : List Int) = y292 at H
       have Ny292 := Aside0.mk hy292.symm; clear hy292
       have H' := Aside0.mk H
       clear H
       have p290 : 0 <= (x21_2 : Int) := OD
       have q290 : x21_2 < (l0_1.length : Int) := OD
       obtain ⟨ad290, e290, hx290_0⟩ := Kd.at_int HR0_1.1 x21_2 p290 q290
       cases e290
       replace hx290_0 := (HB.1.cell (World.block_lt_of_cell? w _ hx290_0)).trans hx290_0
       replace p290 := eq_true p290
       replace q290 := eq_true q290
       obtain ⟨hcz21_0, hcz21_1, hfz21_0, hfz21_1⟩ := cz2 BK285.1
       have p291 : 0 <= ((Go.bits .xor .i64 x21_2 (ji15)) : Int) := OD
       have q291 : (Go.bits .xor .i64 x21_2 (ji15)) < (l0_1.length : Int) := OD
       obtain ⟨ad291, e291, hx291_0⟩ := Kd.at_int HR0_1.1 (Go.bits .xor .i64 x21_2 (ji15)) p291 q291
       obtain rfl : ad290 = ad291 := (by injection e291)
       replace hx291_0 := (HB.1.cell (World.block_lt_of_cell? w _ hx291_0)).trans hx291_0
       replace p291 := eq_true p291
       replace q291 := eq_true q291
       go_wp2_with (first | ((with_reducible refine gate_builtin (b := .append) (xs := #[.tmp 36, .tmp 38]) rfl ?_); at_builtin; refine R_append (Kd.int .i64) (w0 := w) w.heap.size rfl (.tmp 36) (.tmp 38) 22 3 (.int .i64 0) 8 rfl Try.underlying22 info3 rfl (by decide) (by omega) u4 x4_2 x5_1 [.int .i64 x5_1] (fun _ => True) (fun _ => False) rfl rfl ?aP (fun _ hk => hk.elim) ?aF ?aO ?aB ?aS ?aL ?_; (case aP => exact rfl); (case aB => exact (BL HB.1)); (case aF => exact (fun _ _ => trivial)); (case aO => exact (PR HO_4.1)); (case aS => exact (bZ HB.1)); (case aL => have := LMc20.1; omega); intro v293 w22 ho hb hg hat; rw [<- Ny292.1] at ho; refine E3 (bG BK285.1 hg (R_ne HO_4.1 BK285.1 (by decide))) (hb) (ho) ?_; clear BK285 HB HO_4; intro BK285 HB HO294; clear ho hb hg hat))
       repeat (go_quiet (first | ((with_reducible refine gate_builtin (b := .append) (xs := #[.tmp 36, .tmp 38]) rfl ?_); at_builtin; refine R_append (Kd.int .i64) (w0 := w) w.heap.size rfl (.tmp 36) (.tmp 38) 22 3 (.int .i64 0) 8 rfl Try.underlying22 info3 rfl (by decide) (by omega) u4 x4_2 x5_1 [.int .i64 x5_1] (fun _ => True) (fun _ => False) rfl rfl ?aP (fun _ hk => hk.elim) ?aF ?aO ?aB ?aS ?aL ?_; (case aP => exact rfl); (case aB => exact (BL HB.1)); (case aF => exact (fun _ _ => trivial)); (case aO => exact (PR HO_4.1)); (case aS => exact (bZ HB.1)); (case aL => have := LMc20.1; omega); intro v293 w22 ho hb hg hat; rw [<- Ny292.1] at ho; refine E3 (bG BK285.1 hg (R_ne HO_4.1 BK285.1 (by decide))) (hb) (ho) ?_; clear BK285 HB HO_4; intro BK285 HB HO294; clear ho hb hg hat)); try go_wp2_with (first | ((with_reducible refine gate_builtin (b := .append) (xs := #[.tmp 36, .tmp 38]) rfl ?_); at_builtin; refine R_append (Kd.int .i64) (w0 := w) w.heap.size rfl (.tmp 36) (.tmp 38) 22 3 (.int .i64 0) 8 rfl Try.underlying22 info3 rfl (by decide) (by omega) u4 x4_2 x5_1 [.int .i64 x5_1] (fun _ => True) (fun _ => False) rfl rfl ?aP (fun _ hk => hk.elim) ?aF ?aO ?aB ?aS ?aL ?_; (case aP => exact rfl); (case aB => exact (BL HB.1)); (case aF => exact (fun _ _ => trivial)); (case aO => exact (PR HO_4.1)); (case aS => exact (bZ HB.1)); (case aL => have := LMc20.1; omega); intro v293 w22 ho hb hg hat; rw [<- Ny292.1] at ho; refine E3 (bG BK285.1 hg (R_ne HO_4.1 BK285.1 (by decide))) (hb) (ho) ?_; clear BK285 HB HO_4; intro BK285 HB HO294; clear ho hb hg hat)))
       go_roundg k2
       case measure => have := HK1.1; have := HK2.1; omega
       case rel => exact ⟨(y292), (wrap64 (x5_1 + 1)), RG, H', ⟨by have := HK1.1; have := HK2.1; omega⟩, ⟨PR HO294.1⟩, ⟨PB BK285.1⟩, ⟨BL HB.1⟩⟩
     have H' := Aside0.mk H
     clear H
     go_wp2
     repeat (go_quiet (fail); try go_wp2)
     go_roundg k2
     case measure => have := HK1.1; have := HK2.1; omega
     case rel => exact ⟨(x4_2), (wrap64 (x5_1 + 1)), RG, H', ⟨by have := HK1.1; have := HK2.1; omega⟩, ⟨PR HO_4.1⟩, ⟨PB BK285.1⟩, ⟨BL HB.1⟩⟩
   simp only [Option.some.injEq, Prod.mk.injEq] at H
   obtain ⟨rfl, rfl⟩ := H
   obtain ⟨hcz23_0, hcz23_1, hfz23_0, hfz23_1⟩ := cz2 BK285.1
   go_wp2
   repeat (go_quiet (fail); try go_wp2)
   go_ret2
   exact ⟨_, RF, RPE (HO_4.1), BL HB.1⟩
 simp only [Option.some.injEq, Prod.mk.injEq] at H
 obtain ⟨rfl, rfl⟩ := H
 go_enter Try.func21, Try.ntmps21
 go_wp2_with (first | ((with_reducible refine gate_dst (N := 1) rfl ?_); refine boxE (cs := #[.int .i64 a0_0, .slice A0_1 l0_1.length c0_1]) (t := 28) ?_; intro gb285 hg w24 hbox hb; refine E4b HB.1 hg hbox hb ?_; clear HB; intro HB BK285 GW285 GE285; clear hb hbox hg; obtain ⟨hcz25_0, hcz25_1, hfz25_0, hfz25_1⟩ := cz2 BK285.1) | (go_at_call 39; (with_reducible refine (impl_IsTable.calls k a0_0 _ _ l0_1 false _ ?side1 ?side2 A2.1).mono ?_); (case side1 => exact CB (C_below HR0_1.1 HB.1)); (case side2 => exact HC0_1.1); rintro e w26 ⟨rfl, hb⟩; refine E2 (bB BK285.1 hb) (bS HB.1 hb) ?_; clear BK285 HB; intro BK285 HB; (try clear hb)))
 repeat (go_quiet (first | ((with_reducible refine gate_dst (N := 1) rfl ?_); refine boxE (cs := #[.int .i64 a0_0, .slice A0_1 l0_1.length c0_1]) (t := 28) ?_; intro gb285 hg w24 hbox hb; refine E4b HB.1 hg hbox hb ?_; clear HB; intro HB BK285 GW285 GE285; clear hb hbox hg; obtain ⟨hcz25_0, hcz25_1, hfz25_0, hfz25_1⟩ := cz2 BK285.1) | (go_at_call 39; (with_reducible refine (impl_IsTable.calls k a0_0 _ _ l0_1 false _ ?side1 ?side2 A2.1).mono ?_); (case side1 => exact CB (C_below HR0_1.1 HB.1)); (case side2 => exact HC0_1.1); rintro e w26 ⟨rfl, hb⟩; refine E2 (bB BK285.1 hb) (bS HB.1 hb) ?_; clear BK285 HB; intro BK285 HB; (try clear hb))); try go_wp2_with (first | ((with_reducible refine gate_dst (N := 1) rfl ?_); refine boxE (cs := #[.int .i64 a0_0, .slice A0_1 l0_1.length c0_1]) (t := 28) ?_; intro gb285 hg w24 hbox hb; refine E4b HB.1 hg hbox hb ?_; clear HB; intro HB BK285 GW285 GE285; clear hb hbox hg; obtain ⟨hcz25_0, hcz25_1, hfz25_0, hfz25_1⟩ := cz2 BK285.1) | (go_at_call 39; (with_reducible refine (impl_IsTable.calls k a0_0 _ _ l0_1 false _ ?side1 ?side2 A2.1).mono ?_); (case side1 => exact CB (C_below HR0_1.1 HB.1)); (case side2 => exact HC0_1.1); rintro e w26 ⟨rfl, hb⟩; refine E2 (bB BK285.1 hb) (bS HB.1 hb) ?_; clear BK285 HB; intro BK285 HB; (try clear hb))))
 go_ret2
 exact ⟨_, RF, by first | exact R_nil _ _ _ _ _ | exact N_nil _ _ _ _ _ | exact V_nil _ _ _ _ _ | exact Q_nil _ _ _ _ _ | exact S_nil _ _ _ _ _, BL HB.1⟩

/-! ### spec_l1Put: function 53 -/
open Kd
def spec_l1Put.l0 : Nat -> List Int -> Int -> Int -> Option (List Int)
 | 0, _, _, _ => none
 | k + 1, x0, x1, x5 => if x5 < (x0.length : Int) then (if 0 <= x5 then (if (rd x0 x5) < x1 then (spec_l1Put.l0 k x0 x1 (wrap64 (x5 + 1))) else (if (rd x0 x5) = x1 then (some x0) else ((some (([] : List Int) : List Int)).bind fun y297 => (if x5 <= (x0.length : Int) then ((some (x0.take (x5 : Int).toNat : List Int)).bind fun y300 => (if y297.length + y300.length < 17592186044416 then ((some (y297 ++ y300 : List Int)).bind fun y304 => (if y304.length < 17592186044416 then ((some (y304 ++ [x1] : List Int)).bind fun y307 => ((some (x0.drop (x5 : Int).toNat : List Int)).bind fun y310 => (if y307.length + y310.length < 17592186044416 then (some (y307 ++ y310)) else (none)))) else (none))) else (none))) else (none))))) else (none)) else ((some (([] : List Int) : List Int)).bind fun y317 => (if 0 <= x5 then (if x5 <= (x0.length : Int) then ((some (x0.take (x5 : Int).toNat : List Int)).bind fun y320 => (if y317.length + y320.length < 17592186044416 then ((some (y317 ++ y320 : List Int)).bind fun y324 => (if y324.length < 17592186044416 then ((some (y324 ++ [x1] : List Int)).bind fun y327 => ((some (x0.drop (x5 : Int).toNat : List Int)).bind fun y330 => (if y327.length + y330.length < 17592186044416 then (some (y327 ++ y330)) else (none)))) else (none))) else (none))) else (none)) else (none)))
def spec_l1Put.f (k : Nat) (l0 : List Int) (a1 : Int) : Option (List Int) := spec_l1Put.l0 k l0 a1 0
theorem spec_l1Put.mono_l : ∀ k, (∀ y0 y1 y2, LeO (spec_l1Put.l0 k y0 y1 y2) (spec_l1Put.l0 (k + 1) y0 y1 y2))
 | 0 => fun _ _ _ r h => by simp [spec_l1Put.l0] at h
 | k + 1 => by
  have ih0 := spec_l1Put.mono_l k
  intros
  first | unfold spec_l1Put.l0
  exact LM1 ih0
theorem spec_l1Put.mono : ∀ a0 a1 k, LeO (spec_l1Put.f k a0 a1) (spec_l1Put.f (k + 1) a0 a1) := by
 intro a0 a1 k
 have ih0 := spec_l1Put.mono_l k
 unfold spec_l1Put.f
 exact LM1 ih0
theorem spec_l1Put.calls (k : Nat) (P0_ : Nat -> Prop) (u9000_ : Value) (l0 : List Int) (a1 : Int) (r : List Int) (w0 w : World) (hB : Below w0.heap.size w0 w) (ho0 : Kd.R (Kd.int .i64) 3 w w0.heap.size P0_ u9000_ l0) (h : spec_l1Put.f k l0 a1 = some r) :
 Calls Try.prog 53 #[u9000_, .int .i64 a1] w fun e w' => ∃ v0_ : Value, e = .returned (v0_) /\ Kd.R (Kd.int .i64) 3 w' w0.heap.size (fun k_ => (P0_ k_ ∨ w.heap.size <= k_)) v0_ r /\ Below w0.heap.size w0 w' /\ Kept w w' (fun k_ => P0_ k_) := by
 have HO0 := Aside0.mk (show Kd.R (Kd.int .i64) 3 w w0.heap.size (fun k_ => (P0_ k_ ∨ w.heap.size <= k_)) u9000_ l0 from R_mono ho0 (fun k_ hk => (.inl hk)))
 have HK := Aside0.mk (Kept.refl w (fun k_ => P0_ k_))
 have HW0 := Aside0.mk hB.size
 have HB := Aside0.mk hB
 clear hB
 have H := h
 clear h
 unfold spec_l1Put.f at H
 have H' := Aside0.mk H
 clear H
 go_enter Try.func53, Try.ntmps53
 go_wp2
 go_loopg [5] k (fun kq v5 w' => ∃ (x5_1 : Int), v5 = .int .i64 x5_1 /\ Aside0 (spec_l1Put.l0 kq l0 a1 x5_1 = some r) /\ Aside0 (kq <= k) /\ Aside0 (Kd.R (Kd.int .i64) 3 w' w0.heap.size (fun k_ => (P0_ k_ ∨ w.heap.size <= k_)) u9000_ l0) /\ Aside0 (Kept w w' (fun k_ => P0_ k_)) /\ Aside0 (Below w0.heap.size w0 w'))
 case atStart => exact ⟨(0), RG, H', ⟨Nat.le_refl _⟩, ⟨PR HO0.1⟩, ⟨KL HK.1⟩, ⟨BL HB.1⟩⟩
 clear H'
 obtain ⟨x5_1, rfl, HA, HK1, HO_0, HK, HB⟩ := hrel
 cases gk with
 | zero => exact absurd HA.1 (by simp [spec_l1Put.l0])
 | succ k1 => ?_
 have H := HA.1
 clear HA
 simp only [spec_l1Put.l0] at H
 replace H := ifB H; rcases H with ⟨c3b0, H⟩ | ⟨c3b0, H⟩
 · replace H := ifN H; obtain ⟨c4b0, H⟩ := H
   replace H := ifB H; rcases H with ⟨c5b0, H⟩ | ⟨c5b0, H⟩
   · have H' := Aside0.mk H
     clear H
     obtain ⟨Ao6, co6, eo6⟩ := R_slice HO_0.1
     subst eo6
     have p295 : 0 <= (x5_1 : Int) := OD
     have q295 : x5_1 < (l0.length : Int) := OD
     obtain ⟨ad295, e295, hx295_0⟩ := Kd.at_int (R_reads' HO_0.1).2.2 x5_1 p295 q295
     cases e295
     replace p295 := eq_true p295
     replace q295 := eq_true q295
     go_wp2
     go_roundg k1
     case measure => have := HK1.1; omega
     case rel => exact ⟨(wrap64 (x5_1 + 1)), RG, H', ⟨by have := HK1.1; omega⟩, ⟨PR HO_0.1⟩, ⟨KL HK.1⟩, ⟨BL HB.1⟩⟩
   replace H := ifQ H; rcases H with ⟨c7, H⟩ | ⟨c7, H⟩
   · have c7b0 := beq_iff_eq.mpr c7
     have c7b1 := bne_eq_false_iff_eq.mpr c7
     clear c7
     obtain rfl := Option.some.inj H
     obtain ⟨Ao8, co8, eo8⟩ := R_slice HO_0.1
     subst eo8
     have p295 : 0 <= (x5_1 : Int) := OD
     have q295 : x5_1 < (l0.length : Int) := OD
     obtain ⟨ad295, e295, hx295_0⟩ := Kd.at_int (R_reads' HO_0.1).2.2 x5_1 p295 q295
     cases e295
     replace p295 := eq_true p295
     replace q295 := eq_true q295
     have p296 : 0 <= (x5_1 : Int) := OD
     have q296 : x5_1 < (l0.length : Int) := OD
     obtain ⟨ad296, e296, hx296_0⟩ := Kd.at_int (R_reads' HO_0.1).2.2 x5_1 p296 q296
     obtain rfl : ad295 = ad296 := (by injection e296)
     replace p296 := eq_true p296
     replace q296 := eq_true q296
     go_wp2
     go_ret
     exact ⟨_, RF, RPE (HO_0.1), BL HB.1, KL HK.1⟩
   have c7b0 := beq_eq_false_iff_ne.mpr c7
   have c7b1 := bne_iff_ne.mpr c7
   replace H := nameB H; obtain ⟨y297, Ny297, H⟩ := H
   have c9b0 := eq_true (OD : 0 <= x5_1)
   replace H := ifP H; obtain ⟨c10, H⟩ := H
   have c10b0 := eq_true c10
   have c10b1 := decide_eq_true c10
   clear c10
   replace H := nameB H; obtain ⟨y300, Ny300, H⟩ := H
   replace H := ifP H; obtain ⟨c11, H⟩ := H
   have LMc11 := Aside0.mk c11
   clear c11
   replace H := nameB H; obtain ⟨y304, Ny304, H⟩ := H
   replace H := ifP H; obtain ⟨c12, H⟩ := H
   have LMc12 := Aside0.mk c12
   clear c12
   replace H := nameB H; obtain ⟨y307, Ny307, H⟩ := H
   have c13b0 := eq_true (OD : 0 <= x5_1)
   have c14b0 := eq_true (OD : x5_1 <= (l0.length : Int))
   replace H := nameB H; obtain ⟨y310, Ny310, H⟩ := H
   replace H := ifP H; obtain ⟨c15, H⟩ := H
   have LMc15 := Aside0.mk c15
   clear c15
   generalize hy314 : ((y307 ++ y310) : List Int) = y314 at H
   have Ny314 := Aside0.mk hy314.symm; clear hy314
   obtain rfl := Option.some.inj H
   obtain ⟨Ao16, co16, eo16⟩ := R_slice HO_0.1
   subst eo16
   have p295 : 0 <= (x5_1 : Int) := OD
   have q295 : x5_1 < (l0.length : Int) := OD
   obtain ⟨ad295, e295, hx295_0⟩ := Kd.at_int (R_reads' HO_0.1).2.2 x5_1 p295 q295
   cases e295
   replace p295 := eq_true p295
   replace q295 := eq_true q295
   have p296 : 0 <= (x5_1 : Int) := OD
   have q296 : x5_1 < (l0.length : Int) := OD
   obtain ⟨ad296, e296, hx296_0⟩ := Kd.at_int (R_reads' HO_0.1).2.2 x5_1 p296 q296
   obtain rfl : ad295 = ad296 := (by injection e296)
   replace p296 := eq_true p296
   replace q296 := eq_true q296
   go_wp2_with (first | ((with_reducible refine gate_dst (N := 34) rfl ?_); refine R_lit (Kd.int .i64) _ 3 ?hg (N := 34) ?hd (xs := ([] : List Int)) (inner := []) (ok := fun _ => True) (okp := fun _ => True) ?hr ?hp (fun _ hk => hk) trivial (Below.refl _ _) (Nat.le_refl _) (by simp) ?_; (case hd => rfl); (case hg => rfl); (case hr => first | (go_simp; done) | (go_simp; rfl)); (case hp => exact (Reps.none _ _)); intro v298 w17 ho18 hb hg_ hnew_; clear hg_ hnew_; (first | rw [<- Ny297.1] at ho18 | (simp only [Int.reduceToNat] at ho18; rw [<- Ny297.1] at ho18)); refine E4 (R_elder' (PR HO_0.1) (R_base ho18) hb) (R_lower (R_new' (R_newM (M := fun k_ => (P0_ k_ ∨ w.heap.size <= k_)) ho18 (by first | exact HK.1.1 | exact (show Kept w _ (fun k_ => P0_ k_) from KL HK.1).1) (fun k_ h_ => .inr h_)) (R_lt (PR HO_0.1))) (bZ HB.1)) (Kept.below (S := (fun k_ => P0_ k_)) (KL HK.1) hb) (bS HB.1 hb) ?_; clear HO_0 HK HB; intro HO_0 HO299 HK HB; clear hb ho18; have q19 : (x5_1 : Int) <= ((l0.length : Int) : Int) := OD; obtain ⟨i019, hi019, _, hsz19, _⟩ := info_parts info3; have hroom19 : l0.length <= co16 := (R_reads' HO_0.1).2.1; have hC19 : Kd.C (Kd.int .i64) _ (some ad295) l0.length l0 := (R_reads' HO_0.1).2.2; have hcut19 := cut_to (P := Try.prog) 22 3 .i64 Try.underlying22 hi019 (some ad295) l0.length co16 x5_1 (OD) q19 hroom19; have hr19 := C_take (m := (x5_1 : Int).toNat) hC19 (by omega); have hy19 : y300.length = (x5_1 : Int).toNat := (by rw [Ny300.1, List.length_take]; omega); rw [<- Ny300.1] at hr19; rw [<- hy19] at hcut19; have HR303 := Aside0.mk hr19; have HC303 := Aside0.mk (show y300.length <= co16 from by omega); clear hr19 hC19 hroom19 hi019 hsz19; have KY19 := Aside0.mk hy19; clear hy19; have KL19 := Aside0.mk (show (x5_1 : Int).toNat <= l0.length from by omega); replace q19 := eq_true q19) | ((with_reducible refine gate_builtin (b := .append) (xs := #[.tmp 34, .tmp 37]) rfl ?_); at_builtin; refine R_append_rows (Kd.int .i64) (w0 := w0) w0.heap.size rfl (.tmp 34) (.tmp 37) 22 3 (.int .i64 0) 8 rfl Try.underlying22 info3 rfl (by decide) (by omega) v298 y297 y300 _ _ _ (fun k_ => (P0_ k_ ∨ w.heap.size <= k_) /\ some k_ ≠ (.slice (some ad295) l0.length co16 : Value).ownBlock) (fun _ => False) rfl rfl ?aO ?aR (fun _ _ h => h) (fun _ h => h.elim) ?aF ?aB ?aS ?aL ?_; (case aR => repeat (first | exact (by repeat (first | (with_reducible exact HR303.1) | (with_reducible refine C_alloc ?_ _) | (with_reducible refine C_drewN ?_ _) | (with_reducible refine C_drew ?_) | exact HR303.1)) | (with_reducible refine C_alloc ?_ _) | (with_reducible refine C_drewN ?_ _) | (with_reducible refine C_drew ?_))); (case aB => exact (BL HB.1)); (case aF => exact (fun k_ hk => ⟨(.inr (Nat.le_trans (by first | exact HK.1.1 | exact (show Kept w _ (fun k_ => P0_ k_) from KL HK.1).1) hk)), Kd.fresh' (R_lt (PR HO_0.1)) k_ hk⟩)); (case aO => exact (RPE (R_mono HO299.1 (fun _ hk => ⟨hk.1.1, hk.2⟩)))); (case aS => exact (bZ HB.1)); (case aL => have := LMc11.1; omega); intro v305 w20 ho hb hg hat; rw [<- Ny304.1] at ho; refine E5 (R_after (ok := (fun k_ => (P0_ k_ ∨ w.heap.size <= k_))) (PR HO_0.1) hg hat) (hb) (Kept.of_grown (S := (fun k_ => P0_ k_)) hg (KL HK.1) (fun k_ e_ => (HO299.1.1 k_ e_).1.1)) ((show Kd.C (Kd.int .i64) w20 (some ad295) y300.length y300 from by rw [Ny300.1]; exact C_take (m := (x5_1 : Int).toNat) ((R_reads' (R_after (ok := (fun k_ => (P0_ k_ ∨ w.heap.size <= k_))) (PR HO_0.1) hg hat)).2.2) KL19.1)) (ho) ?_; clear HO_0 HB HK HR303 HO299; intro HO_0 HB HK HR303 HO306; clear ho hb hg hat) | ((with_reducible refine gate_builtin (b := .append) (xs := #[.tmp 39, .tmp 41]) rfl ?_); at_builtin; refine R_append (Kd.int .i64) (w0 := w0) w0.heap.size rfl (.tmp 39) (.tmp 41) 22 3 (.int .i64 0) 8 rfl Try.underlying22 info3 rfl (by decide) (by omega) v305 y304 a1 [.int .i64 a1] (fun k_ => (P0_ k_ ∨ w.heap.size <= k_) /\ some k_ ≠ (.slice (some ad295) l0.length co16 : Value).ownBlock) (fun _ => False) rfl rfl ?aP (fun _ hk => hk.elim) ?aF ?aO ?aB ?aS ?aL ?_; (case aP => exact rfl); (case aB => exact (BL HB.1)); (case aF => exact (fun k_ hk => ⟨(.inr (Nat.le_trans (by first | exact HK.1.1 | exact (show Kept w _ (fun k_ => P0_ k_) from KL HK.1).1) hk)), Kd.fresh' (R_lt (PR HO_0.1)) k_ hk⟩)); (case aO => exact (PR HO306.1)); (case aS => exact (bZ HB.1)); (case aL => have := LMc12.1; omega); intro v308 w21 ho hb hg hat; rw [<- Ny307.1] at ho; refine E5 (R_after (ok := (fun k_ => (P0_ k_ ∨ w.heap.size <= k_))) (PR HO_0.1) hg hat) (hb) (Kept.of_grown (S := (fun k_ => P0_ k_)) hg (KL HK.1) (fun k_ e_ => (HO306.1.1 k_ e_).1)) ((show Kd.C (Kd.int .i64) w21 (some ad295) y300.length y300 from by rw [Ny300.1]; exact C_take (m := (x5_1 : Int).toNat) ((R_reads' (R_after (ok := (fun k_ => (P0_ k_ ∨ w.heap.size <= k_))) (PR HO_0.1) hg hat)).2.2) KL19.1)) (ho) ?_; clear HO_0 HB HK HR303 HO306; intro HO_0 HB HK HR303 HO309; clear ho hb hg hat; have q22 : (x5_1 : Int) <= ((l0.length : Int) : Int) := OD; obtain ⟨i022, hi022, _, hsz22, _⟩ := info_parts info3; have hroom22 : l0.length <= co16 := (R_reads' HO_0.1).2.1; have hC22 : Kd.C (Kd.int .i64) _ (some ad295) l0.length l0 := (R_reads' HO_0.1).2.2; have q022 : (0 : Int) <= (x5_1 : Int) := OD; have hcut22 := cut_from (P := Try.prog) 22 3 .i64 Try.underlying22 hi022 1 hsz22 (some ad295) l0.length co16 x5_1 q022 q22; have hr22 := C_drop (m := (x5_1 : Int).toNat) (c := co16) hC22 (by omega) hroom22; obtain ⟨A22, hA22⟩ : ∃ A1, A1 = (if co16 = (x5_1 : Int).toNat then (some ad295) else ((some ad295) : Option Addr).map (·.add ((x5_1 : Int).toNat * 1))) := ⟨_, rfl⟩; obtain ⟨c22, hc22⟩ : ∃ c1, c1 = co16 - (x5_1 : Int).toNat := ⟨_, rfl⟩; have hy22 : y310.length = l0.length - (x5_1 : Int).toNat := (by rw [Ny310.1, List.length_drop] <;> omega); rw [show (l0).drop (x5_1 : Int).toNat = y310 from Ny310.1.symm] at hr22; replace hr22 : Kd.C (Kd.int .i64) _ A22 y310.length y310 := (by rw [hA22]; exact hr22); rw [<- hy22, <- hA22, <- hc22] at hcut22; have HR313 := Aside0.mk hr22; have HC313 := Aside0.mk (show y310.length <= c22 from by rw [hy22, hc22]; exact Nat.sub_le_sub_right hroom22 _); clear hr22 hC22 hroom22 hi022 hsz22 hc22; have KY22 := Aside0.mk hy22; have KA22 := Aside0.mk hA22; clear hy22 hA22; have KL22 := Aside0.mk (show (x5_1 : Int).toNat <= l0.length from by omega); replace q22 := eq_true q22) | ((with_reducible refine gate_builtin (b := .append) (xs := #[.tmp 43, .tmp 46]) rfl ?_); at_builtin; refine R_append_rows (Kd.int .i64) (w0 := w0) w0.heap.size rfl (.tmp 43) (.tmp 46) 22 3 (.int .i64 0) 8 rfl Try.underlying22 info3 rfl (by decide) (by omega) v308 y307 y310 _ _ _ (fun k_ => (P0_ k_ ∨ w.heap.size <= k_) /\ some k_ ≠ (.slice (some ad295) l0.length co16 : Value).ownBlock) (fun _ => False) rfl rfl ?aO ?aR (fun _ _ h => h) (fun _ h => h.elim) ?aF ?aB ?aS ?aL ?_; (case aR => repeat (first | exact (by repeat (first | (with_reducible exact HR313.1) | (with_reducible refine C_alloc ?_ _) | (with_reducible refine C_drewN ?_ _) | (with_reducible refine C_drew ?_) | exact HR313.1)) | (with_reducible refine C_alloc ?_ _) | (with_reducible refine C_drewN ?_ _) | (with_reducible refine C_drew ?_))); (case aB => exact (BL HB.1)); (case aF => exact (fun k_ hk => ⟨(.inr (Nat.le_trans (by first | exact HK.1.1 | exact (show Kept w _ (fun k_ => P0_ k_) from KL HK.1).1) hk)), Kd.fresh' (R_lt (PR HO_0.1)) k_ hk⟩)); (case aO => exact (PR HO309.1)); (case aS => exact (bZ HB.1)); (case aL => have := LMc15.1; omega); intro v315 w23 ho hb hg hat; rw [<- Ny314.1] at ho; refine E6 (R_after (ok := (fun k_ => (P0_ k_ ∨ w.heap.size <= k_))) (PR HO_0.1) hg hat) (hb) (Kept.of_grown (S := (fun k_ => P0_ k_)) hg (KL HK.1) (fun k_ e_ => (HO309.1.1 k_ e_).1)) ((show Kd.C (Kd.int .i64) w23 (some ad295) y300.length y300 from by rw [Ny300.1]; exact C_take (m := (x5_1 : Int).toNat) ((R_reads' (R_after (ok := (fun k_ => (P0_ k_ ∨ w.heap.size <= k_))) (PR HO_0.1) hg hat)).2.2) KL19.1)) ((show Kd.C (Kd.int .i64) w23 A22 y310.length y310 from by rw [Ny310.1, KA22.1]; exact C_drop (m := (x5_1 : Int).toNat) (c := co16) ((R_reads' (R_after (ok := (fun k_ => (P0_ k_ ∨ w.heap.size <= k_))) (PR HO_0.1) hg hat)).2.2) KL22.1 ((R_reads' (R_after (ok := (fun k_ => (P0_ k_ ∨ w.heap.size <= k_))) (PR HO_0.1) hg hat)).2.1))) (ho) ?_; clear HO_0 HB HK HR303 HR313 HO309; intro HO_0 HB HK HR303 HR313 HO316; clear ho hb hg hat))
   go_ret
   exact ⟨_, RF, RPE (R_mono HO316.1 (fun _ hk => hk.1)), BL HB.1, KL HK.1⟩
 replace H := nameB H; obtain ⟨y317, Ny317, H⟩ := H
 replace H := ifP H; obtain ⟨c24, H⟩ := H
 have c24b0 := eq_true c24
 have c24b1 := decide_eq_true c24
 clear c24
 replace H := ifP H; obtain ⟨c25, H⟩ := H
 have c25b0 := eq_true c25
 have c25b1 := decide_eq_true c25
 clear c25
 replace H := nameB H; obtain ⟨y320, Ny320, H⟩ := H
 replace H := ifP H; obtain ⟨c26, H⟩ := H
 have LMc26 := Aside0.mk c26
 clear c26
 replace H := nameB H; obtain ⟨y324, Ny324, H⟩ := H
 replace H := ifP H; obtain ⟨c27, H⟩ := H
 have LMc27 := Aside0.mk c27
 clear c27
 replace H := nameB H; obtain ⟨y327, Ny327, H⟩ := H
 have c28b0 := eq_true (OD : 0 <= x5_1)
 have c29b0 := eq_true (OD : x5_1 <= (l0.length : Int))
 replace H := nameB H; obtain ⟨y330, Ny330, H⟩ := H
 replace H := ifP H; obtain ⟨c30, H⟩ := H
 have LMc30 := Aside0.mk c30
 clear c30
 generalize hy334 : ((y327 ++ y330) : List Int) = y334 at H
 have Ny334 := Aside0.mk hy334.symm; clear hy334
 obtain rfl := Option.some.inj H
 obtain ⟨Ao31, co31, eo31⟩ := R_slice HO_0.1
 subst eo31
 go_wp2_with (first | ((with_reducible refine gate_dst (N := 34) rfl ?_); refine R_lit (Kd.int .i64) _ 3 ?hg (N := 34) ?hd (xs := ([] : List Int)) (inner := []) (ok := fun _ => True) (okp := fun _ => True) ?hr ?hp (fun _ hk => hk) trivial (Below.refl _ _) (Nat.le_refl _) (by simp) ?_; (case hd => rfl); (case hg => rfl); (case hr => first | (go_simp; done) | (go_simp; rfl)); (case hp => exact (Reps.none _ _)); intro v318 w32 ho33 hb hg_ hnew_; clear hg_ hnew_; (first | rw [<- Ny317.1] at ho33 | (simp only [Int.reduceToNat] at ho33; rw [<- Ny317.1] at ho33)); refine E4 (R_elder' (PR HO_0.1) (R_base ho33) hb) (R_lower (R_new' (R_newM (M := fun k_ => (P0_ k_ ∨ w.heap.size <= k_)) ho33 (by first | exact HK.1.1 | exact (show Kept w _ (fun k_ => P0_ k_) from KL HK.1).1) (fun k_ h_ => .inr h_)) (R_lt (PR HO_0.1))) (bZ HB.1)) (Kept.below (S := (fun k_ => P0_ k_)) (KL HK.1) hb) (bS HB.1 hb) ?_; clear HO_0 HK HB; intro HO_0 HO319 HK HB; clear hb ho33; have q34 : (x5_1 : Int) <= ((l0.length : Int) : Int) := OD; obtain ⟨i034, hi034, _, hsz34, _⟩ := info_parts info3; have hroom34 : l0.length <= co31 := (R_reads' HO_0.1).2.1; have hC34 : Kd.C (Kd.int .i64) _ Ao31 l0.length l0 := (R_reads' HO_0.1).2.2; have hcut34 := cut_to (P := Try.prog) 22 3 .i64 Try.underlying22 hi034 Ao31 l0.length co31 x5_1 (OD) q34 hroom34; have hr34 := C_take (m := (x5_1 : Int).toNat) hC34 (by omega); have hy34 : y320.length = (x5_1 : Int).toNat := (by rw [Ny320.1, List.length_take]; omega); rw [<- Ny320.1] at hr34; rw [<- hy34] at hcut34; have HR323 := Aside0.mk hr34; have HC323 := Aside0.mk (show y320.length <= co31 from by omega); clear hr34 hC34 hroom34 hi034 hsz34; have KY34 := Aside0.mk hy34; clear hy34; have KL34 := Aside0.mk (show (x5_1 : Int).toNat <= l0.length from by omega); replace q34 := eq_true q34) | ((with_reducible refine gate_builtin (b := .append) (xs := #[.tmp 34, .tmp 37]) rfl ?_); at_builtin; refine R_append_rows (Kd.int .i64) (w0 := w0) w0.heap.size rfl (.tmp 34) (.tmp 37) 22 3 (.int .i64 0) 8 rfl Try.underlying22 info3 rfl (by decide) (by omega) v318 y317 y320 _ _ _ (fun k_ => (P0_ k_ ∨ w.heap.size <= k_) /\ some k_ ≠ (.slice Ao31 l0.length co31 : Value).ownBlock) (fun _ => False) rfl rfl ?aO ?aR (fun _ _ h => h) (fun _ h => h.elim) ?aF ?aB ?aS ?aL ?_; (case aR => repeat (first | exact (by repeat (first | (with_reducible exact HR323.1) | (with_reducible refine C_alloc ?_ _) | (with_reducible refine C_drewN ?_ _) | (with_reducible refine C_drew ?_) | exact HR323.1)) | (with_reducible refine C_alloc ?_ _) | (with_reducible refine C_drewN ?_ _) | (with_reducible refine C_drew ?_))); (case aB => exact (BL HB.1)); (case aF => exact (fun k_ hk => ⟨(.inr (Nat.le_trans (by first | exact HK.1.1 | exact (show Kept w _ (fun k_ => P0_ k_) from KL HK.1).1) hk)), Kd.fresh' (R_lt (PR HO_0.1)) k_ hk⟩)); (case aO => exact (RPE (R_mono HO319.1 (fun _ hk => ⟨hk.1.1, hk.2⟩)))); (case aS => exact (bZ HB.1)); (case aL => have := LMc26.1; omega); intro v325 w35 ho hb hg hat; rw [<- Ny324.1] at ho; refine E5 (R_after (ok := (fun k_ => (P0_ k_ ∨ w.heap.size <= k_))) (PR HO_0.1) hg hat) (hb) (Kept.of_grown (S := (fun k_ => P0_ k_)) hg (KL HK.1) (fun k_ e_ => (HO319.1.1 k_ e_).1.1)) ((show Kd.C (Kd.int .i64) w35 Ao31 y320.length y320 from by rw [Ny320.1]; exact C_take (m := (x5_1 : Int).toNat) ((R_reads' (R_after (ok := (fun k_ => (P0_ k_ ∨ w.heap.size <= k_))) (PR HO_0.1) hg hat)).2.2) KL34.1)) (ho) ?_; clear HO_0 HB HK HR323 HO319; intro HO_0 HB HK HR323 HO326; clear ho hb hg hat) | ((with_reducible refine gate_builtin (b := .append) (xs := #[.tmp 39, .tmp 41]) rfl ?_); at_builtin; refine R_append (Kd.int .i64) (w0 := w0) w0.heap.size rfl (.tmp 39) (.tmp 41) 22 3 (.int .i64 0) 8 rfl Try.underlying22 info3 rfl (by decide) (by omega) v325 y324 a1 [.int .i64 a1] (fun k_ => (P0_ k_ ∨ w.heap.size <= k_) /\ some k_ ≠ (.slice Ao31 l0.length co31 : Value).ownBlock) (fun _ => False) rfl rfl ?aP (fun _ hk => hk.elim) ?aF ?aO ?aB ?aS ?aL ?_; (case aP => exact rfl); (case aB => exact (BL HB.1)); (case aF => exact (fun k_ hk => ⟨(.inr (Nat.le_trans (by first | exact HK.1.1 | exact (show Kept w _ (fun k_ => P0_ k_) from KL HK.1).1) hk)), Kd.fresh' (R_lt (PR HO_0.1)) k_ hk⟩)); (case aO => exact (PR HO326.1)); (case aS => exact (bZ HB.1)); (case aL => have := LMc27.1; omega); intro v328 w36 ho hb hg hat; rw [<- Ny327.1] at ho; refine E5 (R_after (ok := (fun k_ => (P0_ k_ ∨ w.heap.size <= k_))) (PR HO_0.1) hg hat) (hb) (Kept.of_grown (S := (fun k_ => P0_ k_)) hg (KL HK.1) (fun k_ e_ => (HO326.1.1 k_ e_).1)) ((show Kd.C (Kd.int .i64) w36 Ao31 y320.length y320 from by rw [Ny320.1]; exact C_take (m := (x5_1 : Int).toNat) ((R_reads' (R_after (ok := (fun k_ => (P0_ k_ ∨ w.heap.size <= k_))) (PR HO_0.1) hg hat)).2.2) KL34.1)) (ho) ?_; clear HO_0 HB HK HR323 HO326; intro HO_0 HB HK HR323 HO329; clear ho hb hg hat; have q37 : (x5_1 : Int) <= ((l0.length : Int) : Int) := OD; obtain ⟨i037, hi037, _, hsz37, _⟩ := info_parts info3; have hroom37 : l0.length <= co31 := (R_reads' HO_0.1).2.1; have hC37 : Kd.C (Kd.int .i64) _ Ao31 l0.length l0 := (R_reads' HO_0.1).2.2; have q037 : (0 : Int) <= (x5_1 : Int) := OD; have hcut37 := cut_from (P := Try.prog) 22 3 .i64 Try.underlying22 hi037 1 hsz37 Ao31 l0.length co31 x5_1 q037 q37; have hr37 := C_drop (m := (x5_1 : Int).toNat) (c := co31) hC37 (by omega) hroom37; obtain ⟨A37, hA37⟩ : ∃ A1, A1 = (if co31 = (x5_1 : Int).toNat then Ao31 else (Ao31 : Option Addr).map (·.add ((x5_1 : Int).toNat * 1))) := ⟨_, rfl⟩; obtain ⟨c37, hc37⟩ : ∃ c1, c1 = co31 - (x5_1 : Int).toNat := ⟨_, rfl⟩; have hy37 : y330.length = l0.length - (x5_1 : Int).toNat := (by rw [Ny330.1, List.length_drop] <;> omega); rw [show (l0).drop (x5_1 : Int).toNat = y330 from Ny330.1.symm] at hr37; replace hr37 : Kd.C (Kd.int .i64) _ A37 y330.length y330 := (by rw [hA37]; exact hr37); rw [<- hy37, <- hA37, <- hc37] at hcut37; have HR333 := Aside0.mk hr37; have HC333 := Aside0.mk (show y330.length <= c37 from by rw [hy37, hc37]; exact Nat.sub_le_sub_right hroom37 _); clear hr37 hC37 hroom37 hi037 hsz37 hc37; have KY37 := Aside0.mk hy37; have KA37 := Aside0.mk hA37; clear hy37 hA37; have KL37 := Aside0.mk (show (x5_1 : Int).toNat <= l0.length from by omega); replace q37 := eq_true q37) | ((with_reducible refine gate_builtin (b := .append) (xs := #[.tmp 43, .tmp 46]) rfl ?_); at_builtin; refine R_append_rows (Kd.int .i64) (w0 := w0) w0.heap.size rfl (.tmp 43) (.tmp 46) 22 3 (.int .i64 0) 8 rfl Try.underlying22 info3 rfl (by decide) (by omega) v328 y327 y330 _ _ _ (fun k_ => (P0_ k_ ∨ w.heap.size <= k_) /\ some k_ ≠ (.slice Ao31 l0.length co31 : Value).ownBlock) (fun _ => False) rfl rfl ?aO ?aR (fun _ _ h => h) (fun _ h => h.elim) ?aF ?aB ?aS ?aL ?_; (case aR => repeat (first | exact (by repeat (first | (with_reducible exact HR333.1) | (with_reducible refine C_alloc ?_ _) | (with_reducible refine C_drewN ?_ _) | (with_reducible refine C_drew ?_) | exact HR333.1)) | (with_reducible refine C_alloc ?_ _) | (with_reducible refine C_drewN ?_ _) | (with_reducible refine C_drew ?_))); (case aB => exact (BL HB.1)); (case aF => exact (fun k_ hk => ⟨(.inr (Nat.le_trans (by first | exact HK.1.1 | exact (show Kept w _ (fun k_ => P0_ k_) from KL HK.1).1) hk)), Kd.fresh' (R_lt (PR HO_0.1)) k_ hk⟩)); (case aO => exact (PR HO329.1)); (case aS => exact (bZ HB.1)); (case aL => have := LMc30.1; omega); intro v335 w38 ho hb hg hat; rw [<- Ny334.1] at ho; refine E6 (R_after (ok := (fun k_ => (P0_ k_ ∨ w.heap.size <= k_))) (PR HO_0.1) hg hat) (hb) (Kept.of_grown (S := (fun k_ => P0_ k_)) hg (KL HK.1) (fun k_ e_ => (HO329.1.1 k_ e_).1)) ((show Kd.C (Kd.int .i64) w38 Ao31 y320.length y320 from by rw [Ny320.1]; exact C_take (m := (x5_1 : Int).toNat) ((R_reads' (R_after (ok := (fun k_ => (P0_ k_ ∨ w.heap.size <= k_))) (PR HO_0.1) hg hat)).2.2) KL34.1)) ((show Kd.C (Kd.int .i64) w38 A37 y330.length y330 from by rw [Ny330.1, KA37.1]; exact C_drop (m := (x5_1 : Int).toNat) (c := co31) ((R_reads' (R_after (ok := (fun k_ => (P0_ k_ ∨ w.heap.size <= k_))) (PR HO_0.1) hg hat)).2.2) KL37.1 ((R_reads' (R_after (ok := (fun k_ => (P0_ k_ ∨ w.heap.size <= k_))) (PR HO_0.1) hg hat)).2.1))) (ho) ?_; clear HO_0 HB HK HR323 HR333 HO329; intro HO_0 HB HK HR323 HR333 HO336; clear ho hb hg hat))
 go_ret
 exact ⟨_, RF, RPE (R_mono HO336.1 (fun _ hk => hk.1)), BL HB.1, KL HK.1⟩
/-! ### spec_DependsOn: function 22 -/
open Kd
mutual
def spec_DependsOn.l0 : Nat -> List Int -> List Int -> Int -> Int -> Int -> List Int -> Option (List Int × Bool)
 | 0, _, _, _, _, _, _ => none
 | k + 1, x4, x12, x13, x14, x338000, x338001 => if x14 < x13 then (if 0 <= x14 then (if x14 < (x12.length : Int) then (spec_DependsOn.l1 k x4 x14 (rd x12 x14) 0 x12 x13 x14 x338000 x338001) else (none)) else (none)) else (some (x4, true))
def spec_DependsOn.l1 : Nat -> List Int -> Int -> Int -> Int -> List Int -> Int -> Int -> Int -> List Int -> Option (List Int × Bool)
 | 0, _, _, _, _, _, _, _, _, _ => none
 | k + 1, x4, x5, x6, x7, x12, x13, x14, x338000, x338001 => if x7 < x338000 then (if 0 <= (IntKind.u64.wrap (x7)) then (if 0 <= (Go.bits .xor .i64 x5 (shl .i64 1 (IntKind.u64.wrap (x7)))) then (if (Go.bits .xor .i64 x5 (shl .i64 1 (IntKind.u64.wrap (x7)))) < (x338001.length : Int) then (if x6 = (rd x338001 (Go.bits .xor .i64 x5 (shl .i64 1 (IntKind.u64.wrap (x7))))) then (spec_DependsOn.l1 k x4 x5 x6 (wrap64 (x7 + 1)) x12 x13 x14 x338000 x338001) else ((spec_l1Put.f k x4 x7).bind fun t341 => (spec_DependsOn.l1 k t341 x5 x6 (wrap64 (x7 + 1)) x12 x13 x14 x338000 x338001))) else (none)) else (none)) else (none)) else (spec_DependsOn.l0 k x4 x12 x13 (wrap64 (x14 + 1)) x338000 x338001)
end
def spec_DependsOn.f (k : Nat) (a0_0 : Int) (l0_1 : List Int) : Option (List Int × Bool) := (spec_ttGood.f k a0_0 l0_1).bind fun t338 => (if t338 = true then (spec_DependsOn.l0 k ([] : List Int) l0_1 (l0_1.length : Int) 0 a0_0 l0_1) else (some (([] : List Int), false)))
theorem spec_DependsOn.mono_l : ∀ k, (∀ y0 y1 y2 y3 y4 y5, LeO (spec_DependsOn.l0 k y0 y1 y2 y3 y4 y5) (spec_DependsOn.l0 (k + 1) y0 y1 y2 y3 y4 y5)) /\ (∀ y0 y1 y2 y3 y4 y5 y6 y7 y8, LeO (spec_DependsOn.l1 k y0 y1 y2 y3 y4 y5 y6 y7 y8) (spec_DependsOn.l1 (k + 1) y0 y1 y2 y3 y4 y5 y6 y7 y8))
 | 0 => by refine ⟨?_, ?_⟩ <;> (intros; intro r h; first | (simp [spec_DependsOn.l0] at h; done) | (simp [spec_DependsOn.l1] at h; done))
 | k + 1 => by
  obtain ⟨ih0, ih1⟩ := spec_DependsOn.mono_l k
  refine ⟨?_, ?_⟩ <;> (
   intros
   first | unfold spec_DependsOn.l0 | unfold spec_DependsOn.l1
   exact LM4 ih0 ih1 spec_l1Put.mono spec_ttGood.mono)
theorem spec_DependsOn.mono : ∀ a0 a1 k, LeO (spec_DependsOn.f k a0 a1) (spec_DependsOn.f (k + 1) a0 a1) := by
 intro a0 a1 k
 obtain ⟨ih0, ih1⟩ := spec_DependsOn.mono_l k
 unfold spec_DependsOn.f
 exact LM4 ih0 ih1 spec_l1Put.mono spec_ttGood.mono
theorem spec_DependsOn.calls (k : Nat) (a0_0 : Int) (A0_1 : Option Addr) (c0_1 : Nat) (l0_1 : List Int) (r1 : List Int) (r2 : Bool) (w : World) (hr0_1 : Kd.C (Kd.int .i64) w A0_1 l0_1.length l0_1) (hc0_1 : l0_1.length <= c0_1) (h : spec_DependsOn.f k a0_0 l0_1 = some (r1, r2)) :
 Calls Try.prog 22 #[.agg #[.int .i64 a0_0, .slice A0_1 l0_1.length c0_1]] w fun e w' => ∃ v0_ : Value, e = .returned (.tuple #[v0_, .bool r2]) /\ Kd.R (Kd.int .i64) 3 w' w.heap.size (fun _ => True) v0_ r1 /\ Below w.heap.size w w' := by
 have hu28 := Try.underlying28
 have HR0_1 := Aside0.mk hr0_1
 have HC0_1 := Aside0.mk hc0_1
 clear hr0_1 hc0_1
 have HB := Aside0.mk (Below.refl w.heap.size w)
 have H := h
 clear h
 unfold spec_DependsOn.f at H
 replace H := bindA H; obtain ⟨t338, A2, H⟩ := H
 replace H := ifX H; rcases H with ⟨rfl, H⟩ | ⟨rfl, H⟩
 · have H' := Aside0.mk H
   clear H
   go_enter Try.func22, Try.ntmps22
   go_wp2_with (first | ((with_reducible refine gate_dst (N := 1) rfl ?_); refine boxE (cs := #[.int .i64 a0_0, .slice A0_1 l0_1.length c0_1]) (t := 28) ?_; intro gb337 hg w4 hbox hb; refine E4b HB.1 hg hbox hb ?_; clear HB; intro HB BK337 GW337 GE337; clear hb hbox hg; obtain ⟨hcz5_0, hcz5_1, hfz5_0, hfz5_1⟩ := cz2 BK337.1) | ((with_reducible refine gate_callee (f := 34) rfl ?_); refine goesM (N := (some 9)) #[.agg #[.int .i64 a0_0, .slice A0_1 l0_1.length c0_1]] Try.func34 ?_; (with_reducible refine (spec_ttGood.calls k a0_0 _ _ l0_1 true _ ?side1 ?side2 A2.1).mono ?_); (case side1 => exact CB (C_below HR0_1.1 HB.1)); (case side2 => exact HC0_1.1); rintro e w6 ⟨rfl, hb⟩; refine ⟨_, rfl, ?_⟩; refine E2 (bB BK337.1 hb) (bS HB.1 hb) ?_; clear BK337 HB; intro BK337 HB; (try clear hb); obtain ⟨hcz7_0, hcz7_1, hfz7_0, hfz7_1⟩ := cz2 BK337.1))
   go_loopg [4, 14] k (fun kq v4 v14 w' => ∃ (x4_1 : List Int) (x14_1 : Int), v14 = .int .i64 x14_1 /\ Aside0 (spec_DependsOn.l0 kq x4_1 l0_1 (l0_1.length : Int) x14_1 a0_0 l0_1 = some (r1, r2)) /\ Aside0 (kq <= k) /\ Aside0 (Kd.R (Kd.int .i64) 3 w' w.heap.size (fun _ => True) v4 x4_1) /\ Aside0 (w'.heap[gb337]? = some (.cells #[.int .i64 a0_0, (.slice A0_1 l0_1.length c0_1)] 28 (0, 0))) /\ Aside0 (Below w.heap.size w w'))
   case atStart => exact ⟨(([] : List Int)), (0), RG, H', ⟨Nat.le_refl _⟩, ⟨by first | exact R_nil _ _ _ _ _ | exact N_nil _ _ _ _ _ | exact V_nil _ _ _ _ _ | exact Q_nil _ _ _ _ _ | exact S_nil _ _ _ _ _⟩, ⟨PB BK337.1⟩, ⟨BL HB.1⟩⟩
   clear H'
   clear hcz5_0 hcz5_1 hcz7_0 hcz7_1 hfz5_0 hfz5_1 hfz7_0 hfz7_1
   obtain ⟨x4_1, x14_1, rfl, HA, HK1, HO_4, BK337, HB⟩ := hrel
   cases gk with
   | zero => exact absurd HA.1 (by simp [spec_DependsOn.l0])
   | succ k1 => ?_
   have H := HA.1
   clear HA
   simp only [spec_DependsOn.l0] at H
   replace H := ifB H; rcases H with ⟨c8b0, H⟩ | ⟨c8b0, H⟩
   · replace H := ifN H; obtain ⟨c9b0, H⟩ := H
     replace H := ifN H; obtain ⟨c10b0, H⟩ := H
     have H' := Aside0.mk H
     clear H
     have p339 : 0 <= (x14_1 : Int) := OD
     have q339 : x14_1 < (l0_1.length : Int) := OD
     obtain ⟨ad339, e339, hx339_0⟩ := Kd.at_int HR0_1.1 x14_1 p339 q339
     cases e339
     replace hx339_0 := (HB.1.cell (World.block_lt_of_cell? w _ hx339_0)).trans hx339_0
     replace p339 := eq_true p339
     replace q339 := eq_true q339
     go_wp2
     go_loopg [4, 7] k1 (fun kq v4 v7 w' => ∃ (x4_2 : List Int) (x7_2 : Int), v7 = .int .i64 x7_2 /\ Aside0 (spec_DependsOn.l1 kq x4_2 x14_1 (rd l0_1 x14_1) x7_2 l0_1 (l0_1.length : Int) x14_1 a0_0 l0_1 = some (r1, r2)) /\ Aside0 (kq <= k1) /\ Aside0 (Kd.R (Kd.int .i64) 3 w' w.heap.size (fun _ => True) v4 x4_2) /\ Aside0 (w'.heap[gb337]? = some (.cells #[.int .i64 a0_0, (.slice (some ad339) l0_1.length c0_1)] 28 (0, 0))) /\ Aside0 (Below w.heap.size w w'))
     case atStart => exact ⟨(x4_1), (0), RG, H', ⟨Nat.le_refl _⟩, ⟨PR HO_4.1⟩, ⟨PB BK337.1⟩, ⟨BL HB.1⟩⟩
     clear H'
     try clear hx339_0; try clear p339; try clear q339; clear c8b0 c9b0 c10b0
     obtain ⟨x4_2, x7_2, rfl, HA, HK2, HO_4, BK337, HB⟩ := hrel
     cases gk with
     | zero => exact absurd HA.1 (by simp [spec_DependsOn.l1])
     | succ k2 => ?_
     have H := HA.1
     clear HA
     simp only [spec_DependsOn.l1] at H
     replace H := ifB H; rcases H with ⟨c11b0, H⟩ | ⟨c11b0, H⟩
     · obtain ⟨ji12, hji12⟩ : ∃ j_ : Int, (IntKind.u64.wrap (x7_2)) = j_ := ⟨_, rfl⟩
       replace H : (if 0 <= (ji12) then (if 0 <= (Go.bits .xor .i64 x14_1 (shl .i64 1 (ji12))) then (if (Go.bits .xor .i64 x14_1 (shl .i64 1 (ji12))) < (l0_1.length : Int) then (if (rd l0_1 x14_1) = (rd l0_1 (Go.bits .xor .i64 x14_1 (shl .i64 1 (ji12)))) then (spec_DependsOn.l1 k2 x4_2 x14_1 (rd l0_1 x14_1) (wrap64 (x7_2 + 1)) l0_1 (l0_1.length : Int) x14_1 a0_0 l0_1) else ((spec_l1Put.f k2 x4_2 x7_2).bind fun t341 => (spec_DependsOn.l1 k2 t341 x14_1 (rd l0_1 x14_1) (wrap64 (x7_2 + 1)) l0_1 (l0_1.length : Int) x14_1 a0_0 l0_1))) else (none)) else (none)) else (none)) = some (r1, r2) := by first | (rw [hji12] at H; exact H) | (simp only [hji12] at H ⊢; exact H)
       replace H := ifP H; obtain ⟨c13, H⟩ := H
       have c13b0 := eq_true c13
       have c13b1 := decide_eq_true c13
       clear c13
       obtain ⟨ji14, hji14⟩ : ∃ j_ : Int, (shl .i64 1 (ji12)) = j_ := ⟨_, rfl⟩
       replace H : (if 0 <= (Go.bits .xor .i64 x14_1 (ji14)) then (if (Go.bits .xor .i64 x14_1 (ji14)) < (l0_1.length : Int) then (if (rd l0_1 x14_1) = (rd l0_1 (Go.bits .xor .i64 x14_1 (ji14))) then (spec_DependsOn.l1 k2 x4_2 x14_1 (rd l0_1 x14_1) (wrap64 (x7_2 + 1)) l0_1 (l0_1.length : Int) x14_1 a0_0 l0_1) else ((spec_l1Put.f k2 x4_2 x7_2).bind fun t341 => (spec_DependsOn.l1 k2 t341 x14_1 (rd l0_1 x14_1) (wrap64 (x7_2 + 1)) l0_1 (l0_1.length : Int) x14_1 a0_0 l0_1))) else (none)) else (none)) = some (r1, r2) := by first | (rw [hji14] at H; exact H) | (simp only [hji14] at H ⊢; exact H)
       have hji14_ : (IntKind.i64.wrap (1 * 2 ^ min (ji12).toNat 64)) = ji14 := hji14
       have hji14z : (ji12) <= 64 -> (IntKind.i64.wrap (1 * 2 ^ (ji12).toNat)) = ji14 := shl_small hji14
       have hji14u : (IntKind.i64.wrap (2 ^ min (ji12).toNat 64)) = ji14 := by have h_ := hji14_; rw [Int.one_mul] at h_; exact h_
       have hji14v : (ji12) <= 64 -> (IntKind.i64.wrap (2 ^ (ji12).toNat)) = ji14 := fun hle_ => by have h_ := hji14z hle_; rw [Int.one_mul] at h_; exact h_
       have hji14y : (wrap64 (1 * 2 ^ min (ji12).toNat 64)) = ji14 := (i64_w _).symm.trans hji14_
       have hji14x : (ji12) <= 64 -> (wrap64 (1 * 2 ^ (ji12).toNat)) = ji14 := fun h_ => (i64_w _).symm.trans (hji14z h_)
       replace H := ifN H; obtain ⟨c15b0, H⟩ := H
       replace H := ifN H; obtain ⟨c16b0, H⟩ := H
       replace H := ifQ H; rcases H with ⟨c17, H⟩ | ⟨c17, H⟩
       · have c17b0 := beq_iff_eq.mpr c17
         have c17b1 := bne_eq_false_iff_eq.mpr c17
         clear c17
         have H' := Aside0.mk H
         clear H
         obtain ⟨hcz18_0, hcz18_1, hfz18_0, hfz18_1⟩ := cz2 BK337.1
         have p340 : 0 <= ((Go.bits .xor .i64 x14_1 (ji14)) : Int) := OD
         have q340 : (Go.bits .xor .i64 x14_1 (ji14)) < (l0_1.length : Int) := OD
         obtain ⟨ad340, e340, hx340_0⟩ := Kd.at_int HR0_1.1 (Go.bits .xor .i64 x14_1 (ji14)) p340 q340
         obtain rfl : ad339 = ad340 := (by injection e340)
         replace hx340_0 := (HB.1.cell (World.block_lt_of_cell? w _ hx340_0)).trans hx340_0
         replace p340 := eq_true p340
         replace q340 := eq_true q340
         go_wp2
         go_roundg k2
         case measure => have := HK1.1; have := HK2.1; omega
         case rel => exact ⟨(x4_2), (wrap64 (x7_2 + 1)), RG, H', ⟨by have := HK1.1; have := HK2.1; omega⟩, ⟨PR HO_4.1⟩, ⟨PB BK337.1⟩, ⟨BL HB.1⟩⟩
       have c17b0 := beq_eq_false_iff_ne.mpr c17
       have c17b1 := bne_iff_ne.mpr c17
       replace H := bindA H; obtain ⟨t341, A19, H⟩ := H
       have H' := Aside0.mk H
       clear H
       obtain ⟨hcz20_0, hcz20_1, hfz20_0, hfz20_1⟩ := cz2 BK337.1
       have p340 : 0 <= ((Go.bits .xor .i64 x14_1 (ji14)) : Int) := OD
       have q340 : (Go.bits .xor .i64 x14_1 (ji14)) < (l0_1.length : Int) := OD
       obtain ⟨ad340, e340, hx340_0⟩ := Kd.at_int HR0_1.1 (Go.bits .xor .i64 x14_1 (ji14)) p340 q340
       obtain rfl : ad339 = ad340 := (by injection e340)
       replace hx340_0 := (HB.1.cell (World.block_lt_of_cell? w _ hx340_0)).trans hx340_0
       replace p340 := eq_true p340
       replace q340 := eq_true q340
       obtain ⟨Ao21, co21, eo21⟩ := R_slice HO_4.1
       subst eo21
       go_wp2_with (first | ((with_reducible refine gate_callee (f := 53) rfl ?_); refine goesM (N := (some 38)) #[.slice Ao21 x4_2.length co21, .int .i64 x7_2] Try.func53 ?_; (with_reducible refine (spec_l1Put.calls k2 (fun k_ => some k_ = (.slice Ao21 x4_2.length co21 : Value).ownBlock) (.slice Ao21 x4_2.length co21) x4_2 x7_2 t341 w _ ?side1 ?side2 A19.1).mono ?_); (case side1 => exact BL HB.1); (case side2 => exact R_tight rfl HO_4.1); rintro e w22 ⟨v342, rfl, ho0, hb, hkp⟩; refine ⟨_, rfl, ?_⟩; refine E3 (blk_kept (PB BK337.1) hkp (fun hs_ => (fun e_ => (R_ne HO_4.1 BK337.1 (by decide)) e_) hs_)) (R_mono (ok' := fun k_ => True) ho0 (fun k_ hk_ => trivial)) (hb) ?_; clear BK337 HB HO_4; intro BK337 HO343 HB; (try clear hb); (try clear hkp); (try clear ho0)))
       go_roundg k2
       case measure => have := HK1.1; have := HK2.1; omega
       case rel => exact ⟨(t341), (wrap64 (x7_2 + 1)), RG, H', ⟨by have := HK1.1; have := HK2.1; omega⟩, ⟨PR HO343.1⟩, ⟨PB BK337.1⟩, ⟨BL HB.1⟩⟩
     have H' := Aside0.mk H
     clear H
     obtain ⟨hcz23_0, hcz23_1, hfz23_0, hfz23_1⟩ := cz2 BK337.1
     go_wp2
     go_roundg k2
     case measure => have := HK1.1; have := HK2.1; omega
     case rel => exact ⟨(x4_2), (wrap64 (x14_1 + 1)), RG, H', ⟨by have := HK1.1; have := HK2.1; omega⟩, ⟨PR HO_4.1⟩, ⟨PB BK337.1⟩, ⟨BL HB.1⟩⟩
   simp only [Option.some.injEq, Prod.mk.injEq] at H
   obtain ⟨rfl, rfl⟩ := H
   go_wp2
   go_ret2
   exact ⟨_, RF, RPE (HO_4.1), BL HB.1⟩
 simp only [Option.some.injEq, Prod.mk.injEq] at H
 obtain ⟨rfl, rfl⟩ := H
 go_enter Try.func22, Try.ntmps22
 go_wp2_with (first | ((with_reducible refine gate_dst (N := 1) rfl ?_); refine boxE (cs := #[.int .i64 a0_0, .slice A0_1 l0_1.length c0_1]) (t := 28) ?_; intro gb337 hg w24 hbox hb; refine E4b HB.1 hg hbox hb ?_; clear HB; intro HB BK337 GW337 GE337; clear hb hbox hg; obtain ⟨hcz25_0, hcz25_1, hfz25_0, hfz25_1⟩ := cz2 BK337.1) | ((with_reducible refine gate_callee (f := 34) rfl ?_); refine goesM (N := (some 9)) #[.agg #[.int .i64 a0_0, .slice A0_1 l0_1.length c0_1]] Try.func34 ?_; (with_reducible refine (spec_ttGood.calls k a0_0 _ _ l0_1 false _ ?side1 ?side2 A2.1).mono ?_); (case side1 => exact CB (C_below HR0_1.1 HB.1)); (case side2 => exact HC0_1.1); rintro e w26 ⟨rfl, hb⟩; refine ⟨_, rfl, ?_⟩; refine E2 (bB BK337.1 hb) (bS HB.1 hb) ?_; clear BK337 HB; intro BK337 HB; (try clear hb)))
 go_ret2
 exact ⟨_, RF, by first | exact R_nil _ _ _ _ _ | exact N_nil _ _ _ _ _ | exact V_nil _ _ _ _ _ | exact Q_nil _ _ _ _ _ | exact S_nil _ _ _ _ _, BL HB.1⟩

/-! ### impl_OnesOf: function 23 -/
open Kd
def impl_OnesOf.l0 : Nat -> List Int -> List Int -> Int -> Int -> Option (List Int × Bool)
 | 0, _, _, _, _ => none
 | k + 1, x4, x12, x13, x14 => if x14 < x13 then (if 0 <= x14 then (if x14 < (x12.length : Int) then (if (rd x12 x14) = 1 then (if x4.length < 17592186044416 then (impl_OnesOf.l0 k (x4 ++ [x14]) x12 x13 (wrap64 (x14 + 1))) else (none)) else (impl_OnesOf.l0 k x4 x12 x13 (wrap64 (x14 + 1)))) else (none)) else (none)) else (some (x4, true))
def impl_OnesOf.f (k : Nat) (a0_0 : Int) (l0_1 : List Int) : Option (List Int × Bool) := (impl_IsTable.f k a0_0 l0_1).bind fun t345 => (if t345 = true then (impl_OnesOf.l0 k (([] : List Int)) l0_1 (l0_1.length : Int) 0) else (some (([] : List Int), false)))
theorem impl_OnesOf.mono_l : ∀ k, (∀ y0 y1 y2 y3, LeO (impl_OnesOf.l0 k y0 y1 y2 y3) (impl_OnesOf.l0 (k + 1) y0 y1 y2 y3))
 | 0 => fun _ _ _ _ r h => by simp [impl_OnesOf.l0] at h
 | k + 1 => by
  have ih0 := impl_OnesOf.mono_l k
  intros
  first | unfold impl_OnesOf.l0
  exact LM2 ih0 impl_IsTable.mono
theorem impl_OnesOf.mono : ∀ a0 a1 k, LeO (impl_OnesOf.f k a0 a1) (impl_OnesOf.f (k + 1) a0 a1) := by
 intro a0 a1 k
 have ih0 := impl_OnesOf.mono_l k
 unfold impl_OnesOf.f
 exact LM2 ih0 impl_IsTable.mono
theorem impl_OnesOf.calls (k : Nat) (a0_0 : Int) (A0_1 : Option Addr) (c0_1 : Nat) (l0_1 : List Int) (r1 : List Int) (r2 : Bool) (w : World) (hr0_1 : Kd.C (Kd.int .i64) w A0_1 l0_1.length l0_1) (hc0_1 : l0_1.length <= c0_1) (h : impl_OnesOf.f k a0_0 l0_1 = some (r1, r2)) :
 Calls Try.prog 23 #[.agg #[.int .i64 a0_0, .slice A0_1 l0_1.length c0_1]] w fun e w' => ∃ v0_ : Value, e = .returned (.tuple #[v0_, .bool r2]) /\ Kd.R (Kd.int .i64) 3 w' w.heap.size (fun _ => True) v0_ r1 /\ Below w.heap.size w w' := by
 have hu28 := Try.underlying28
 have HR0_1 := Aside0.mk hr0_1
 have HC0_1 := Aside0.mk hc0_1
 clear hr0_1 hc0_1
 have HB := Aside0.mk (Below.refl w.heap.size w)
 have H := h
 clear h
 unfold impl_OnesOf.f at H
 replace H := bindA H; obtain ⟨t345, A2, H⟩ := H
 replace H := ifX H; rcases H with ⟨rfl, H⟩ | ⟨rfl, H⟩
 · generalize hy346 : ((([] : List Int)) : List Int) = y346 at H
   have Ny346 := Aside0.mk hy346.symm; clear hy346
   have H' := Aside0.mk H
   clear H
   go_enter Try.func23, Try.ntmps23
   go_wp2_with (first | ((with_reducible refine gate_dst (N := 1) rfl ?_); refine boxE (cs := #[.int .i64 a0_0, .slice A0_1 l0_1.length c0_1]) (t := 28) ?_; intro gb344 hg w4 hbox hb; refine E4b HB.1 hg hbox hb ?_; clear HB; intro HB BK344 GW344 GE344; clear hb hbox hg; obtain ⟨hcz5_0, hcz5_1, hfz5_0, hfz5_1⟩ := cz2 BK344.1) | ((with_reducible refine gate_callee (f := 39) rfl ?_); refine goesM (N := (some 8)) #[.agg #[.int .i64 a0_0, .slice A0_1 l0_1.length c0_1]] Try.func39 ?_; (with_reducible refine (impl_IsTable.calls k a0_0 _ _ l0_1 true _ ?side1 ?side2 A2.1).mono ?_); (case side1 => exact CB (C_below HR0_1.1 HB.1)); (case side2 => exact HC0_1.1); rintro e w6 ⟨rfl, hb⟩; refine ⟨_, rfl, ?_⟩; refine E2 (bB BK344.1 hb) (bS HB.1 hb) ?_; clear BK344 HB; intro BK344 HB; (try clear hb)) | ((with_reducible refine gate_dst (N := 10) rfl ?_); refine R_lit (Kd.int .i64) _ 3 ?hg (N := 10) ?hd (xs := ([] : List Int)) (inner := []) (ok := fun _ => True) (okp := fun _ => True) ?hr ?hp (fun _ hk => hk) trivial (Below.refl _ _) (Nat.le_refl _) (by simp) ?_; (case hd => rfl); (case hg => rfl); (case hr => first | (go_simp; done) | (go_simp; rfl)); (case hp => exact (Reps.none _ _)); intro v347 w7 ho8 hb hg_ hnew_; clear hg_ hnew_; (first | rw [<- Ny346.1] at ho8 | (simp only [Int.reduceToNat] at ho8; rw [<- Ny346.1] at ho8)); refine E3 (R_lower ho8 (bZ HB.1)) (bB BK344.1 hb) (bS HB.1 hb) ?_; clear BK344 HB; intro HO348 BK344 HB; clear hb ho8; obtain ⟨hcz9_0, hcz9_1, hfz9_0, hfz9_1⟩ := cz2 BK344.1))
   go_loopg [4, 14] k (fun kq v4 v14 w' => ∃ (x4_1 : List Int) (x14_1 : Int), v14 = .int .i64 x14_1 /\ Aside0 (impl_OnesOf.l0 kq x4_1 l0_1 (l0_1.length : Int) x14_1 = some (r1, r2)) /\ Aside0 (kq <= k) /\ Aside0 (Kd.R (Kd.int .i64) 3 w' w.heap.size (fun _ => True) v4 x4_1) /\ Aside0 (w'.heap[gb344]? = some (.cells #[.int .i64 a0_0, (.slice A0_1 l0_1.length c0_1)] 28 (0, 0))) /\ Aside0 (Below w.heap.size w w'))
   case atStart => exact ⟨(y346), (0), RG, H', ⟨Nat.le_refl _⟩, ⟨PR HO348.1⟩, ⟨PB BK344.1⟩, ⟨BL HB.1⟩⟩
   clear H'
   clear hcz5_0 hcz5_1 hcz9_0 hcz9_1 hfz5_0 hfz5_1 hfz9_0 hfz9_1
   obtain ⟨x4_1, x14_1, rfl, HA, HK1, HO_4, BK344, HB⟩ := hrel
   cases gk with
   | zero => exact absurd HA.1 (by simp [impl_OnesOf.l0])
   | succ k1 => ?_
   have H := HA.1
   clear HA
   simp only [impl_OnesOf.l0] at H
   replace H := ifB H; rcases H with ⟨c10b0, H⟩ | ⟨c10b0, H⟩
   · replace H := ifN H; obtain ⟨c11b0, H⟩ := H
     replace H := ifN H; obtain ⟨c12b0, H⟩ := H
     replace H := ifQ H; rcases H with ⟨c13, H⟩ | ⟨c13, H⟩
     · have c13b0 := beq_iff_eq.mpr c13
       have c13b1 := bne_eq_false_iff_eq.mpr c13
       clear c13
       replace H := ifP H; obtain ⟨c14, H⟩ := H
       have LMc14 := Aside0.mk c14
       clear c14
       generalize hy350 : ((x4_1 ++ [x14_1]) : List Int) = y350 at H
       have Ny350 := Aside0.mk hy350.symm; clear hy350
       have H' := Aside0.mk H
       clear H
       have p349 : 0 <= (x14_1 : Int) := OD
       have q349 : x14_1 < (l0_1.length : Int) := OD
       obtain ⟨ad349, e349, hx349_0⟩ := Kd.at_int HR0_1.1 x14_1 p349 q349
       cases e349
       replace hx349_0 := (HB.1.cell (World.block_lt_of_cell? w _ hx349_0)).trans hx349_0
       replace p349 := eq_true p349
       replace q349 := eq_true q349
       go_wp2_with (first | ((with_reducible refine gate_builtin (b := .append) (xs := #[.tmp 21, .tmp 23]) rfl ?_); at_builtin; refine R_append (Kd.int .i64) (w0 := w) w.heap.size rfl (.tmp 21) (.tmp 23) 22 3 (.int .i64 0) 8 rfl Try.underlying22 info3 rfl (by decide) (by omega) u4 x4_1 x14_1 [.int .i64 x14_1] (fun _ => True) (fun _ => False) rfl rfl ?aP (fun _ hk => hk.elim) ?aF ?aO ?aB ?aS ?aL ?_; (case aP => exact rfl); (case aB => exact (BL HB.1)); (case aF => exact (fun _ _ => trivial)); (case aO => exact (PR HO_4.1)); (case aS => exact (bZ HB.1)); (case aL => have := LMc14.1; omega); intro v351 w15 ho hb hg hat; rw [<- Ny350.1] at ho; refine E3 (bG BK344.1 hg (R_ne HO_4.1 BK344.1 (by decide))) (hb) (ho) ?_; clear BK344 HB HO_4; intro BK344 HB HO352; clear ho hb hg hat))
       go_roundg k1
       case measure => have := HK1.1; omega
       case rel => exact ⟨(y350), (wrap64 (x14_1 + 1)), RG, H', ⟨by have := HK1.1; omega⟩, ⟨PR HO352.1⟩, ⟨PB BK344.1⟩, ⟨BL HB.1⟩⟩
     have c13b0 := beq_eq_false_iff_ne.mpr c13
     have c13b1 := bne_iff_ne.mpr c13
     have H' := Aside0.mk H
     clear H
     have p349 : 0 <= (x14_1 : Int) := OD
     have q349 : x14_1 < (l0_1.length : Int) := OD
     obtain ⟨ad349, e349, hx349_0⟩ := Kd.at_int HR0_1.1 x14_1 p349 q349
     cases e349
     replace hx349_0 := (HB.1.cell (World.block_lt_of_cell? w _ hx349_0)).trans hx349_0
     replace p349 := eq_true p349
     replace q349 := eq_true q349
     go_wp2
     go_roundg k1
     case measure => have := HK1.1; omega
     case rel => exact ⟨(x4_1), (wrap64 (x14_1 + 1)), RG, H', ⟨by have := HK1.1; omega⟩, ⟨PR HO_4.1⟩, ⟨PB BK344.1⟩, ⟨BL HB.1⟩⟩
   simp only [Option.some.injEq, Prod.mk.injEq] at H
   obtain ⟨rfl, rfl⟩ := H
   go_wp2
   go_ret2
   exact ⟨_, RF, RPE (HO_4.1), BL HB.1⟩
 simp only [Option.some.injEq, Prod.mk.injEq] at H
 obtain ⟨rfl, rfl⟩ := H
 go_enter Try.func23, Try.ntmps23
 go_wp2_with (first | ((with_reducible refine gate_dst (N := 1) rfl ?_); refine boxE (cs := #[.int .i64 a0_0, .slice A0_1 l0_1.length c0_1]) (t := 28) ?_; intro gb344 hg w16 hbox hb; refine E4b HB.1 hg hbox hb ?_; clear HB; intro HB BK344 GW344 GE344; clear hb hbox hg; obtain ⟨hcz17_0, hcz17_1, hfz17_0, hfz17_1⟩ := cz2 BK344.1) | ((with_reducible refine gate_callee (f := 39) rfl ?_); refine goesM (N := (some 8)) #[.agg #[.int .i64 a0_0, .slice A0_1 l0_1.length c0_1]] Try.func39 ?_; (with_reducible refine (impl_IsTable.calls k a0_0 _ _ l0_1 false _ ?side1 ?side2 A2.1).mono ?_); (case side1 => exact CB (C_below HR0_1.1 HB.1)); (case side2 => exact HC0_1.1); rintro e w18 ⟨rfl, hb⟩; refine ⟨_, rfl, ?_⟩; refine E2 (bB BK344.1 hb) (bS HB.1 hb) ?_; clear BK344 HB; intro BK344 HB; (try clear hb)))
 go_ret2
 exact ⟨_, RF, by first | exact R_nil _ _ _ _ _ | exact N_nil _ _ _ _ _ | exact V_nil _ _ _ _ _ | exact Q_nil _ _ _ _ _ | exact S_nil _ _ _ _ _, BL HB.1⟩

/-! ### spec_ttOnes: function 54 -/
open Kd
def spec_ttOnes.l0 : Nat -> List Int -> List Int -> Int -> Int -> Option (List Int)
 | 0, _, _, _, _ => none
 | k + 1, x3, x7, x8, x9 => if x9 < x8 then (if 0 <= x9 then (if x9 < (x7.length : Int) then (if (rd x7 x9) = 1 then (if x3.length < 17592186044416 then (spec_ttOnes.l0 k (x3 ++ [x9]) x7 x8 (wrap64 (x9 + 1))) else (none)) else (spec_ttOnes.l0 k x3 x7 x8 (wrap64 (x9 + 1)))) else (none)) else (none)) else (some x3)
def spec_ttOnes.f (k : Nat) (a0_0 : Int) (l0_1 : List Int) : Option (List Int) := spec_ttOnes.l0 k ([] : List Int) l0_1 (l0_1.length : Int) 0
theorem spec_ttOnes.mono_l : ∀ k, (∀ y0 y1 y2 y3, LeO (spec_ttOnes.l0 k y0 y1 y2 y3) (spec_ttOnes.l0 (k + 1) y0 y1 y2 y3))
 | 0 => fun _ _ _ _ r h => by simp [spec_ttOnes.l0] at h
 | k + 1 => by
  have ih0 := spec_ttOnes.mono_l k
  intros
  first | unfold spec_ttOnes.l0
  exact LM1 ih0
theorem spec_ttOnes.mono : ∀ a0 a1 k, LeO (spec_ttOnes.f k a0 a1) (spec_ttOnes.f (k + 1) a0 a1) := by
 intro a0 a1 k
 have ih0 := spec_ttOnes.mono_l k
 unfold spec_ttOnes.f
 exact LM1 ih0
theorem spec_ttOnes.calls (k : Nat) (a0_0 : Int) (A0_1 : Option Addr) (c0_1 : Nat) (l0_1 : List Int) (r : List Int) (w : World) (hr0_1 : Kd.C (Kd.int .i64) w A0_1 l0_1.length l0_1) (hc0_1 : l0_1.length <= c0_1) (h : spec_ttOnes.f k a0_0 l0_1 = some r) :
 Calls Try.prog 54 #[.agg #[.int .i64 a0_0, .slice A0_1 l0_1.length c0_1]] w fun e w' => ∃ v0_ : Value, e = .returned (v0_) /\ Kd.R (Kd.int .i64) 3 w' w.heap.size (fun _ => True) v0_ r /\ Below w.heap.size w w' := by
 have hu28 := Try.underlying28
 have HR0_1 := Aside0.mk hr0_1
 have HC0_1 := Aside0.mk hc0_1
 clear hr0_1 hc0_1
 have HB := Aside0.mk (Below.refl w.heap.size w)
 have H := h
 clear h
 unfold spec_ttOnes.f at H
 have H' := Aside0.mk H
 clear H
 go_enter Try.func54, Try.ntmps54
 go_wp2_with (first | ((with_reducible refine gate_dst (N := 1) rfl ?_); refine boxE (cs := #[.int .i64 a0_0, .slice A0_1 l0_1.length c0_1]) (t := 28) ?_; intro gb353 hg w2 hbox hb; refine E4b HB.1 hg hbox hb ?_; clear HB; intro HB BK353 GW353 GE353; clear hb hbox hg; obtain ⟨hcz3_0, hcz3_1, hfz3_0, hfz3_1⟩ := cz2 BK353.1))
 go_loopg [3, 9] k (fun kq v3 v9 w' => ∃ (x3_1 : List Int) (x9_1 : Int), v9 = .int .i64 x9_1 /\ Aside0 (spec_ttOnes.l0 kq x3_1 l0_1 (l0_1.length : Int) x9_1 = some r) /\ Aside0 (kq <= k) /\ Aside0 (Kd.R (Kd.int .i64) 3 w' w.heap.size (fun _ => True) v3 x3_1) /\ Aside0 (w'.heap[gb353]? = some (.cells #[.int .i64 a0_0, (.slice A0_1 l0_1.length c0_1)] 28 (0, 0))) /\ Aside0 (Below w.heap.size w w'))
 case atStart => exact ⟨(([] : List Int)), (0), RG, H', ⟨Nat.le_refl _⟩, ⟨by first | exact R_nil _ _ _ _ _ | exact N_nil _ _ _ _ _ | exact V_nil _ _ _ _ _ | exact Q_nil _ _ _ _ _ | exact S_nil _ _ _ _ _⟩, ⟨PB BK353.1⟩, ⟨BL HB.1⟩⟩
 clear H'
 clear hcz3_0 hcz3_1 hfz3_0 hfz3_1
 obtain ⟨x3_1, x9_1, rfl, HA, HK1, HO_3, BK353, HB⟩ := hrel
 cases gk with
 | zero => exact absurd HA.1 (by simp [spec_ttOnes.l0])
 | succ k1 => ?_
 have H := HA.1
 clear HA
 simp only [spec_ttOnes.l0] at H
 replace H := ifB H; rcases H with ⟨c4b0, H⟩ | ⟨c4b0, H⟩
 · replace H := ifN H; obtain ⟨c5b0, H⟩ := H
   replace H := ifN H; obtain ⟨c6b0, H⟩ := H
   replace H := ifQ H; rcases H with ⟨c7, H⟩ | ⟨c7, H⟩
   · have c7b0 := beq_iff_eq.mpr c7
     have c7b1 := bne_eq_false_iff_eq.mpr c7
     clear c7
     replace H := ifP H; obtain ⟨c8, H⟩ := H
     have LMc8 := Aside0.mk c8
     clear c8
     generalize hy355 : ((x3_1 ++ [x9_1]) : List Int) = y355 at H
     have Ny355 := Aside0.mk hy355.symm; clear hy355
     have H' := Aside0.mk H
     clear H
     have p354 : 0 <= (x9_1 : Int) := OD
     have q354 : x9_1 < (l0_1.length : Int) := OD
     obtain ⟨ad354, e354, hx354_0⟩ := Kd.at_int HR0_1.1 x9_1 p354 q354
     cases e354
     replace hx354_0 := (HB.1.cell (World.block_lt_of_cell? w _ hx354_0)).trans hx354_0
     replace p354 := eq_true p354
     replace q354 := eq_true q354
     go_wp2_with (first | ((with_reducible refine gate_builtin (b := .append) (xs := #[.tmp 16, .tmp 18]) rfl ?_); at_builtin; refine R_append (Kd.int .i64) (w0 := w) w.heap.size rfl (.tmp 16) (.tmp 18) 22 3 (.int .i64 0) 8 rfl Try.underlying22 info3 rfl (by decide) (by omega) u3 x3_1 x9_1 [.int .i64 x9_1] (fun _ => True) (fun _ => False) rfl rfl ?aP (fun _ hk => hk.elim) ?aF ?aO ?aB ?aS ?aL ?_; (case aP => exact rfl); (case aB => exact (BL HB.1)); (case aF => exact (fun _ _ => trivial)); (case aO => exact (PR HO_3.1)); (case aS => exact (bZ HB.1)); (case aL => have := LMc8.1; omega); intro v356 w9 ho hb hg hat; rw [<- Ny355.1] at ho; refine E3 (bG BK353.1 hg (R_ne HO_3.1 BK353.1 (by decide))) (hb) (ho) ?_; clear BK353 HB HO_3; intro BK353 HB HO357; clear ho hb hg hat))
     go_roundg k1
     case measure => have := HK1.1; omega
     case rel => exact ⟨(y355), (wrap64 (x9_1 + 1)), RG, H', ⟨by have := HK1.1; omega⟩, ⟨PR HO357.1⟩, ⟨PB BK353.1⟩, ⟨BL HB.1⟩⟩
   have c7b0 := beq_eq_false_iff_ne.mpr c7
   have c7b1 := bne_iff_ne.mpr c7
   have H' := Aside0.mk H
   clear H
   have p354 : 0 <= (x9_1 : Int) := OD
   have q354 : x9_1 < (l0_1.length : Int) := OD
   obtain ⟨ad354, e354, hx354_0⟩ := Kd.at_int HR0_1.1 x9_1 p354 q354
   cases e354
   replace hx354_0 := (HB.1.cell (World.block_lt_of_cell? w _ hx354_0)).trans hx354_0
   replace p354 := eq_true p354
   replace q354 := eq_true q354
   go_wp2
   go_roundg k1
   case measure => have := HK1.1; omega
   case rel => exact ⟨(x3_1), (wrap64 (x9_1 + 1)), RG, H', ⟨by have := HK1.1; omega⟩, ⟨PR HO_3.1⟩, ⟨PB BK353.1⟩, ⟨BL HB.1⟩⟩
 obtain rfl := Option.some.inj H
 go_wp2
 go_ret
 exact ⟨_, RF, RPE (HO_3.1), BL HB.1⟩
/-! ### spec_OnesOf: function 24 -/
open Kd
def spec_OnesOf.f (k : Nat) (a0_0 : Int) (l0_1 : List Int) : Option (List Int × Bool) := (spec_ttGood.f k a0_0 l0_1).bind fun t359 => (if t359 = true then ((spec_ttOnes.f k a0_0 l0_1).bind fun t360 => (some (t360, true))) else (some (([] : List Int), false)))
theorem spec_OnesOf.mono : ∀ a0 a1 k, LeO (spec_OnesOf.f k a0 a1) (spec_OnesOf.f (k + 1) a0 a1) := by
 intro a0 a1 k
 unfold spec_OnesOf.f
 repeat' first
  | (with_reducible exact spec_ttGood.mono _ _ _)
  | (with_reducible exact spec_ttOnes.mono _ _ _)
  | (with_reducible exact LeO.refl _)
  | (with_reducible exact LeO.none _)
  | (with_reducible refine LeO.ite ?_ ?_)
  | (with_reducible refine LeO.bind ?_ (fun _ => ?_))
  | exact spec_ttGood.mono _ _ _
  | exact spec_ttOnes.mono _ _ _
  | exact LeO.none _
  | refine LeO.ite ?_ ?_
  | refine LeO.bind ?_ (fun _ => ?_)
theorem spec_OnesOf.calls (k : Nat) (a0_0 : Int) (A0_1 : Option Addr) (c0_1 : Nat) (l0_1 : List Int) (r1 : List Int) (r2 : Bool) (w : World) (hr0_1 : Kd.C (Kd.int .i64) w A0_1 l0_1.length l0_1) (hc0_1 : l0_1.length <= c0_1) (h : spec_OnesOf.f k a0_0 l0_1 = some (r1, r2)) :
 Calls Try.prog 24 #[.agg #[.int .i64 a0_0, .slice A0_1 l0_1.length c0_1]] w fun e w' => ∃ v0_ : Value, e = .returned (.tuple #[v0_, .bool r2]) /\ Kd.R (Kd.int .i64) 3 w' w.heap.size (fun _ => True) v0_ r1 /\ Below w.heap.size w w' := by
 have hu28 := Try.underlying28
 have HR0_1 := Aside0.mk hr0_1
 have HC0_1 := Aside0.mk hc0_1
 clear hr0_1 hc0_1
 have HB := Aside0.mk (Below.refl w.heap.size w)
 have H := h
 clear h
 unfold spec_OnesOf.f at H
 replace H := bindA H; obtain ⟨t359, A2, H⟩ := H
 replace H := ifX H; rcases H with ⟨rfl, H⟩ | ⟨rfl, H⟩
 · replace H := bindA H; obtain ⟨t360, A4, H⟩ := H
   simp only [Option.some.injEq, Prod.mk.injEq] at H
   obtain ⟨rfl, rfl⟩ := H
   go_enter Try.func24, Try.ntmps24
   go_wp2_with (first | ((with_reducible refine gate_dst (N := 1) rfl ?_); refine boxE (cs := #[.int .i64 a0_0, .slice A0_1 l0_1.length c0_1]) (t := 28) ?_; intro gb358 hg w5 hbox hb; refine E4b HB.1 hg hbox hb ?_; clear HB; intro HB BK358 GW358 GE358; clear hb hbox hg; obtain ⟨hcz6_0, hcz6_1, hfz6_0, hfz6_1⟩ := cz2 BK358.1) | ((with_reducible refine gate_callee (f := 34) rfl ?_); refine goesM (N := (some 5)) #[.agg #[.int .i64 a0_0, .slice A0_1 l0_1.length c0_1]] Try.func34 ?_; (with_reducible refine (spec_ttGood.calls k a0_0 _ _ l0_1 true _ ?side1 ?side2 A2.1).mono ?_); (case side1 => exact CB (C_below HR0_1.1 HB.1)); (case side2 => exact HC0_1.1); rintro e w7 ⟨rfl, hb⟩; refine ⟨_, rfl, ?_⟩; refine E2 (bB BK358.1 hb) (bS HB.1 hb) ?_; clear BK358 HB; intro BK358 HB; (try clear hb); obtain ⟨hcz8_0, hcz8_1, hfz8_0, hfz8_1⟩ := cz2 BK358.1) | ((with_reducible refine gate_callee (f := 54) rfl ?_); refine goesM (N := (some 8)) #[.agg #[.int .i64 a0_0, .slice A0_1 l0_1.length c0_1]] Try.func54 ?_; (with_reducible refine (spec_ttOnes.calls k a0_0 _ _ l0_1 t360 _ ?side1 ?side2 A4.1).mono ?_); (case side1 => exact CB (C_below HR0_1.1 HB.1)); (case side2 => exact HC0_1.1); rintro e w9 ⟨v361, rfl, ho0, hb⟩; refine ⟨_, rfl, ?_⟩; refine E3 (R_lower ho0 (bZ HB.1)) (bB BK358.1 hb) (bS HB.1 hb) ?_; clear BK358 HB; intro HO362 BK358 HB; (try clear hb); (try clear ho0)))
   go_ret2
   exact ⟨_, RF, RPE (HO362.1), BL HB.1⟩
 simp only [Option.some.injEq, Prod.mk.injEq] at H
 obtain ⟨rfl, rfl⟩ := H
 go_enter Try.func24, Try.ntmps24
 go_wp2_with (first | ((with_reducible refine gate_dst (N := 1) rfl ?_); refine boxE (cs := #[.int .i64 a0_0, .slice A0_1 l0_1.length c0_1]) (t := 28) ?_; intro gb358 hg w10 hbox hb; refine E4b HB.1 hg hbox hb ?_; clear HB; intro HB BK358 GW358 GE358; clear hb hbox hg; obtain ⟨hcz11_0, hcz11_1, hfz11_0, hfz11_1⟩ := cz2 BK358.1) | ((with_reducible refine gate_callee (f := 34) rfl ?_); refine goesM (N := (some 5)) #[.agg #[.int .i64 a0_0, .slice A0_1 l0_1.length c0_1]] Try.func34 ?_; (with_reducible refine (spec_ttGood.calls k a0_0 _ _ l0_1 false _ ?side1 ?side2 A2.1).mono ?_); (case side1 => exact CB (C_below HR0_1.1 HB.1)); (case side2 => exact HC0_1.1); rintro e w12 ⟨rfl, hb⟩; refine ⟨_, rfl, ?_⟩; refine E2 (bB BK358.1 hb) (bS HB.1 hb) ?_; clear BK358 HB; intro BK358 HB; (try clear hb)))
 go_ret2
 exact ⟨_, RF, by first | exact R_nil _ _ _ _ _ | exact N_nil _ _ _ _ _ | exact V_nil _ _ _ _ _ | exact Q_nil _ _ _ _ _ | exact S_nil _ _ _ _ _, BL HB.1⟩

end Go.Proofs.Ytgekdgggpfiamaa.P
