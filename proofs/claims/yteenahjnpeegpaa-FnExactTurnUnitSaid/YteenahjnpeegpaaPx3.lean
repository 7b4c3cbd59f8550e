-- PRINTED by print.py (a twelfth state) out of the translation. Not trusted: Lean checks it.
import Derived.Test.YteenahjnpeegpaaPx0
import Derived.Test.YteenahjnpeegpaaPx1
import Derived.Test.YteenahjnpeegpaaPx2
namespace Go.Proofs.Yteenahjnpeegpaa.P
open Go.RowKit Go.Proofs.YteenahjnpeegpaaW.PrintWords Go.Proofs.YteenahjnpeegpaaW.PrintLast Go.Proofs.YteenahjnpeegpaaW.PrintMore
attribute [local go_sem] max2_int min2_int max_two min_two max_three min_three max_four min_four   -- for this text's walks alone
set_option linter.unusedVariables false
set_option linter.unusedSimpArgs false

/-! ### spec_TurnUnit: function 5 -/
open Kd
def spec_TurnUnit.j0 : Nat -> Int -> Bool -> Int -> Int -> List (S45) -> Option (Int × Int × (List (S45)) × Bool)
 | 0, _, _, _, _, _ => none
 | k + 1, x1, x18, x207000, x207001, x207002 => if x18 = true then (some (0, 0, ([] : List (S45)), false)) else ((spec_boOwn.f x207000 x207001 x207002).bind fun bt213 => ((spec_saUnits.f k x207000 x207001 x207002).bind fun t219 => (if 0 <= x1 then (if x1 < (t219.length : Int) then ((spec_saTurn.f k bt213.1 bt213.2.1 bt213.2.2 (rd_L3 t219 x1)).bind fun t223 => (some (bt213.1, bt213.2.1, t223, true))) else (none)) else (none))))
def spec_TurnUnit.f (k : Nat) (a0_0 : Int) (a0_1 : Int) (l0_2 : List (S45)) (a1 : Int) : Option (Int × Int × (List (S45)) × Bool) := (spec_boGood.f k a0_0 a0_1 l0_2).bind fun t208 => (if t208 = true then ((spec_saUnits.f k a0_0 a0_1 l0_2).bind fun t209 => ((spec_l1In.f a1 0 (wrap64 ((t209.length : Int) - 1))).bind fun t212 => (spec_TurnUnit.j0 k a1 (!t212) a0_0 a0_1 l0_2))) else (spec_TurnUnit.j0 k a1 true a0_0 a0_1 l0_2))
theorem spec_TurnUnit.mono_l : ∀ k, (∀ y0 y1 y2 y3 y4, LeO (spec_TurnUnit.j0 k y0 y1 y2 y3 y4) (spec_TurnUnit.j0 (k + 1) y0 y1 y2 y3 y4))
 | 0 => fun _ _ _ _ _ r h => by simp [spec_TurnUnit.j0] at h
 | k + 1 => by
  have ih0 := spec_TurnUnit.mono_l k
  intros
  first | unfold spec_TurnUnit.j0
  exact LM4 ih0 spec_boGood.mono spec_saTurn.mono spec_saUnits.mono
theorem spec_TurnUnit.mono : ∀ a0 a1 a2 a3 k, LeO (spec_TurnUnit.f k a0 a1 a2 a3) (spec_TurnUnit.f (k + 1) a0 a1 a2 a3) := by
 intro a0 a1 a2 a3 k
 have ih0 := spec_TurnUnit.mono_l k
 unfold spec_TurnUnit.f
 exact LM4 ih0 spec_boGood.mono spec_saTurn.mono spec_saUnits.mono
set_option maxHeartbeats 8000000 in
set_option maxRecDepth 100000 in
theorem spec_TurnUnit.calls (k : Nat) (a0_0 : Int) (a0_1 : Int) (A0_2 : Option Addr) (c0_2 : Nat) (l0_2 : List (S45)) (a1 : Int) (r1 : Int) (r2 : Int) (r3 : List (S45)) (r4 : Bool) (w : World) (hr0_2 : Kd.C k45 w A0_2 l0_2.length l0_2) (hc0_2 : l0_2.length <= c0_2) (h : spec_TurnUnit.f k a0_0 a0_1 l0_2 a1 = some (r1, r2, r3, r4)) :
 Calls Try.prog 5 #[.agg #[.int .i64 a0_0, .int .i64 a0_1, .slice A0_2 l0_2.length c0_2], .int .i64 a1] w fun e w' => ∃ v2_ : Value, e = .returned (.tuple #[.agg #[.int .i64 r1, .int .i64 r2, v2_], .bool r4]) /\ Kd.R k45 45 w' w.heap.size (fun _ => True) v2_ r3 /\ Below w.heap.size w w' := by
 have hu28 := Try.underlying28
 have HR0_2 := Aside0.mk hr0_2
 have HC0_2 := Aside0.mk hc0_2
 clear hr0_2 hc0_2
 have HB := Aside0.mk (Below.refl w.heap.size w)
 have H := h
 clear h
 unfold spec_TurnUnit.f at H
 have HC3 := Aside0.mk H
 clear H
 go_enter Try.func5, Try.ntmps5
 go_upto_region 1 with (first | ((with_reducible refine gate_dst (N := 2) rfl ?_); (try (refine gate_guard (by rfl) ?_; dsimp only)); refine boxE (cs := #[.int .i64 a0_0, .int .i64 a0_1, .slice A0_2 l0_2.length c0_2]) (t := 28) ?_; intro gb206 hg w4 hbox hb; refine E4b HB.1 hg hbox hb ?_; clear HB; intro HB BK206 GW206 GE206; clear hb hbox hg) | ((with_reducible refine gate_dst (N := 4) rfl ?_); (try (refine gate_guard (by rfl) ?_; dsimp only)); refine boxE (cs := #[.int .i64 0, .int .i64 0, .slice none 0 0]) (t := 28) ?_; intro gb207 hg w5 hbox hb; refine E7 (bB BK206.1 hb) (bS HB.1 hb) (hbox) (gX HB.1 hg) (gX HB.1 hg) (nB BK206.1 hg) (nC BK206.1 hg) ?_; clear BK206 HB; intro BK206 HB BK207 GW207 GE207 NB206_207 NB207_206; clear hb hbox hg))
 (try simp only [Act.put, List.setIfInBounds_toArray, List.set_cons_zero, List.set_cons_succ])
 go_cut [18] (fun v18 wc => ∃ (kq : Nat) (x18_2 : Bool), v18 = .bool x18_2 /\ Aside0 (spec_TurnUnit.j0 kq a1 x18_2 a0_0 a0_1 l0_2 = some (r1, r2, r3, r4)) /\ Aside0 (kq <= k) /\ Aside0 (wc.heap[gb206]? = some (.cells #[.int .i64 a0_0, .int .i64 a0_1, (.slice A0_2 l0_2.length c0_2)] 28 (0, 0))) /\ Aside0 (wc.heap[gb207]? = some (.cells #[.int .i64 0, .int .i64 0, (.slice none 0 0)] 28 (0, 0))) /\ Aside0 (Below w.heap.size w wc))
 case first =>
  have H := HC3.1
  clear HC3
  replace H := bindA H; obtain ⟨t208, A6, H⟩ := H
  replace H := ifX H; rcases H with ⟨rfl, H⟩ | ⟨rfl, H⟩
  · replace H := bindA H; obtain ⟨t209, A8, H⟩ := H
    replace H := bindA H; obtain ⟨t212, A9, H⟩ := H
    have H' := Aside0.mk H
    clear H
    have hnb10 := NB206_207.1
    have hnc10 := NB207_206.1
    obtain ⟨hcz11_0, hcz11_1, hcz11_2, hfz11_0, hfz11_1, hfz11_2⟩ := cz3 BK206.1
    go_wp2_with (first | ((with_reducible refine gate_callee (f := 12) rfl ?_); refine goesM (N := (some 8)) #[.agg #[.int .i64 a0_0, .int .i64 a0_1, .slice A0_2 l0_2.length c0_2]] Try.func12 ?_; (with_reducible refine (spec_boGood.calls k a0_0 a0_1 _ _ l0_2 true _ ?side1 ?side2 A6.1).mono ?_); (case side1 => exact CB (C_below HR0_2.1 HB.1)); (case side2 => exact HC0_2.1); rintro e w12 ⟨rfl, hb⟩; refine ⟨_, rfl, ?_⟩; refine E3 (bB BK206.1 hb) (bB BK207.1 hb) (bS HB.1 hb) ?_; clear BK206 BK207 HB; intro BK206 BK207 HB; (try clear hb); obtain ⟨hcz13_0, hcz13_1, hcz13_2, hfz13_0, hfz13_1, hfz13_2⟩ := cz3 BK206.1) | (go_at_call 14; (with_reducible refine (spec_saUnits.calls k a0_0 a0_1 _ _ l0_2 t209 _ ?side1 ?side2 A8.1).mono ?_); (case side1 => exact CB (C_below HR0_2.1 HB.1)); (case side2 => exact HC0_2.1); rintro e w14 ⟨v210, rfl, ho0, hb⟩; refine E4 (S_lower ho0 (bZ HB.1)) (bB BK206.1 hb) (bB BK207.1 hb) (bS HB.1 hb) ?_; clear BK206 BK207 HB; intro HO211 BK206 BK207 HB; (try clear hb); (try clear ho0); obtain ⟨Ao15, co15, eo15⟩ := S_slice HO211.1; subst eo15) | (go_at_call 13; (with_reducible refine (spec_l1In.calls a1 0 (wrap64 ((t209.length : Int) - 1)) t212 _ A9.1).mono ?_); rintro e w' ⟨rfl, ⟨nd, rfl⟩⟩))
    go_meet
    case rel => exact ⟨_, (!t212), RG, H', ⟨by first | omega | exact Nat.le_refl _⟩, ⟨PB BK206.1⟩, ⟨PB BK207.1⟩, ⟨BL HB.1⟩⟩
  have H' := Aside0.mk H
  clear H
  have hnb16 := NB206_207.1
  have hnc16 := NB207_206.1
  obtain ⟨hcz17_0, hcz17_1, hcz17_2, hfz17_0, hfz17_1, hfz17_2⟩ := cz3 BK206.1
  go_wp2_with (first | ((with_reducible refine gate_callee (f := 12) rfl ?_); refine goesM (N := (some 8)) #[.agg #[.int .i64 a0_0, .int .i64 a0_1, .slice A0_2 l0_2.length c0_2]] Try.func12 ?_; (with_reducible refine (spec_boGood.calls k a0_0 a0_1 _ _ l0_2 false _ ?side1 ?side2 A6.1).mono ?_); (case side1 => exact CB (C_below HR0_2.1 HB.1)); (case side2 => exact HC0_2.1); rintro e w18 ⟨rfl, hb⟩; refine ⟨_, rfl, ?_⟩; refine E3 (bB BK206.1 hb) (bB BK207.1 hb) (bS HB.1 hb) ?_; clear BK206 BK207 HB; intro BK206 BK207 HB; (try clear hb)))
  go_meet
  case rel => exact ⟨_, (true), RG, H', ⟨by first | omega | exact Nat.le_refl _⟩, ⟨PB BK206.1⟩, ⟨PB BK207.1⟩, ⟨BL HB.1⟩⟩
 clear HC3
 obtain ⟨kq, x18_2, rfl, HA, HJ2, BK206, BK207, HB⟩ := hcut
 cases kq with
 | zero => exact absurd HA.1 (by simp [spec_TurnUnit.j0])
 | succ kj2 => ?_
 have H := HA.1
 clear HA
 simp only [spec_TurnUnit.j0] at H
 replace H := ifX H; rcases H with ⟨rfl, H⟩ | ⟨rfl, H⟩
 · simp only [Option.some.injEq, Prod.mk.injEq] at H
   obtain ⟨rfl, rfl, rfl, rfl⟩ := H
   have hnb20 := NB207_206.1
   have hnc20 := NB206_207.1
   obtain ⟨hcz21_0, hcz21_1, hcz21_2, hfz21_0, hfz21_1, hfz21_2⟩ := cz3 BK207.1
   go_wp2
   refine bodyPost_ret (results_ct rfl _ _ gb207 28 #[.int .i64 0, .int .i64 0, .slice none 0 0] (0, 0) _ rfl (PF0 BK207.1) Try.underlying28 rfl (by kernel_rfl)) rfl ?_
   exact ⟨_, RF, by first | exact R_nil _ _ _ _ _ | exact N_nil _ _ _ _ _ | exact V_nil _ _ _ _ _ | exact Q_nil _ _ _ _ _ | exact S_nil _ _ _ _ _, BL HB.1⟩
 replace H := bindA H; obtain ⟨⟨t213, t214, t215⟩, A22, H⟩ := H
 dsimp only at H
 replace H := bindA H; obtain ⟨t219, A23, H⟩ := H
 replace H := ifN H; obtain ⟨c24b0, H⟩ := H
 replace H := ifN H; obtain ⟨c25b0, H⟩ := H
 replace H := bindA H; obtain ⟨t223, A26, H⟩ := H
 simp only [Option.some.injEq, Prod.mk.injEq] at H
 obtain ⟨rfl, rfl, rfl, rfl⟩ := H
 have hnb27 := NB206_207.1
 have hnc27 := NB207_206.1
 obtain ⟨hcz28_0, hcz28_1, hcz28_2, hfz28_0, hfz28_1, hfz28_2⟩ := cz3 BK206.1
 try go_wp2_with (first | ((with_reducible refine gate_callee (f := 15) rfl ?_); refine goesM (N := (some 21)) #[.agg #[.int .i64 a0_0, .int .i64 a0_1, .slice A0_2 l0_2.length c0_2]] Try.func15 ?_; (with_reducible refine (spec_boOwn.calls a0_0 a0_1 _ _ l0_2 t213 t214 t215 _ ?side1 ?side2 A22.1).mono ?_); (case side1 => exact CB (C_below HR0_2.1 HB.1)); (case side2 => exact HC0_2.1); rintro e w29 ⟨v216, rfl, ho0, hb⟩; refine ⟨_, rfl, ?_⟩; refine E4 (R_lower ho0 (bZ HB.1)) (bB BK206.1 hb) (bB BK207.1 hb) (bS HB.1 hb) ?_; clear BK206 BK207 HB; intro HO217 BK206 BK207 HB; (try clear hb); (try clear ho0)) | ((with_reducible refine gate_dst (N := 6) rfl ?_); (try (refine gate_guard (by rfl) ?_; dsimp only)); refine boxE (cs := #[.int .i64 0, .int .i64 0, .slice none 0 0]) (t := 28) ?_; intro gb218 hg w30 hbox hb; refine E11 (rB HO217.1 hb) (bB BK206.1 hb) (bB BK207.1 hb) (bS HB.1 hb) (hbox) (gX HB.1 hg) (gX HB.1 hg) (nB BK206.1 hg) (nC BK206.1 hg) (nB BK207.1 hg) (nC BK207.1 hg) ?_; clear HO217 BK206 BK207 HB; intro HO217 BK206 BK207 HB BK218 GW218 GE218 NB206_218 NB218_206 NB207_218 NB218_207; clear hb hbox hg; have hnb31 := NB218_206.1; have hnc31 := NB206_218.1; have hnb32 := NB218_207.1; have hnc32 := NB207_218.1; obtain ⟨hcz33_0, hcz33_1, hcz33_2, hfz33_0, hfz33_1, hfz33_2⟩ := cz3 BK218.1; obtain ⟨Ao34, co34, eo34⟩ := R_slice HO217.1; subst eo34))
 have n_ : (fun w35 : World => (Kd.R k45 45 w35 w.heap.size (fun _ => True) (.slice Ao34 t215.length co34) t215) /\ (w35.heap[gb206]? = some (.cells #[.int .i64 a0_0, .int .i64 a0_1, .slice A0_2 l0_2.length c0_2] 28 (0, 0))) /\ (w35.heap[gb207]? = some (.cells #[.int .i64 0, .int .i64 0, .slice none 0 0] 28 (0, 0))) /\ (w35.heap[gb218]? = some (.cells #[.int .i64 t213, .int .i64 t214, .slice Ao34 t215.length co34] 28 (0, 0))) /\ (Below w.heap.size w w35)) (((w30.setCell ⟨gb218, 0, none⟩ (.int .i64 t213)).setCell ⟨gb218, 1, none⟩ (.int .i64 t214)).setCell ⟨gb218, 2, none⟩ (.slice Ao34 t215.length co34)) := ⟨by (with_reducible repeat (first | apply R_alloc | apply R_drewN | apply R_drew)); exact R_mono (RQ gb218 2 (RQ gb218 1 (RQ gb218 0 (R_types HO217.1 BK218.1 (by decide)) _) _) _) (fun _ hk => trivial), by (with_reducible repeat (first | refine blk_drewN ?_ _ | refine blk_drew ?_ | refine blk_alloc ?_ _)); refine blk_far ?_ NB206_218.1 _; (with_reducible repeat (first | refine blk_drewN ?_ _ | refine blk_drew ?_ | refine blk_alloc ?_ _)); refine blk_far ?_ NB206_218.1 _; (with_reducible repeat (first | refine blk_drewN ?_ _ | refine blk_drew ?_ | refine blk_alloc ?_ _)); refine blk_far ?_ NB206_218.1 _; (with_reducible repeat (first | refine blk_drewN ?_ _ | refine blk_drew ?_ | refine blk_alloc ?_ _)); exact BK206.1, by (with_reducible repeat (first | refine blk_drewN ?_ _ | refine blk_drew ?_ | refine blk_alloc ?_ _)); refine blk_far ?_ NB207_218.1 _; (with_reducible repeat (first | refine blk_drewN ?_ _ | refine blk_drew ?_ | refine blk_alloc ?_ _)); refine blk_far ?_ NB207_218.1 _; (with_reducible repeat (first | refine blk_drewN ?_ _ | refine blk_drew ?_ | refine blk_alloc ?_ _)); refine blk_far ?_ NB207_218.1 _; (with_reducible repeat (first | refine blk_drewN ?_ _ | refine blk_drew ?_ | refine blk_alloc ?_ _)); exact BK207.1, by (with_reducible repeat (first | refine blk_drewN ?_ _ | refine blk_drew ?_ | refine blk_alloc ?_ _)); refine blk_put (cs := #[.int .i64 t213, .int .i64 t214, .slice none 0 0]) ?_ 2 _ rfl; (with_reducible repeat (first | refine blk_drewN ?_ _ | refine blk_drew ?_ | refine blk_alloc ?_ _)); refine blk_put (cs := #[.int .i64 t213, .int .i64 0, .slice none 0 0]) ?_ 1 _ rfl; (with_reducible repeat (first | refine blk_drewN ?_ _ | refine blk_drew ?_ | refine blk_alloc ?_ _)); refine blk_put (cs := #[.int .i64 0, .int .i64 0, .slice none 0 0]) ?_ 0 _ rfl; (with_reducible repeat (first | refine blk_drewN ?_ _ | refine blk_drew ?_ | refine blk_alloc ?_ _)); exact BK218.1, BL HB.1⟩
 (try clear HO217)
 (try clear BK206)
 (try clear BK207)
 (try clear BK218)
 (try clear HB)
 generalize (((w30.setCell ⟨gb218, 0, none⟩ (.int .i64 t213)).setCell ⟨gb218, 1, none⟩ (.int .i64 t214)).setCell ⟨gb218, 2, none⟩ (.slice Ao34 t215.length co34)) = w35 at n_ ⊢
 obtain ⟨h0_, h1_, h2_, h3_, h4_⟩ := n_
 refine E5 h0_ h1_ h2_ h3_ h4_ ?_
 clear h0_ h1_ h2_ h3_ h4_
 intro HO217 BK206 BK207 BK218 HB
 refine E5 (R_drew HO217.1) (blk_drew BK206.1) (blk_drew BK207.1) (blk_drew BK218.1) (below_drew1 HB.1) ?_
 clear HO217 BK206 BK207 BK218 HB
 intro HO217 BK206 BK207 BK218 HB
 refine start_ (n := 7) (S := fun w' => w'.cell? ⟨gb218, 0, none⟩ = some (.int .i64 t213) /\ w'.cell? ⟨gb218, 1, none⟩ = some (.int .i64 t214) /\ w'.cell? ⟨gb218, 2, none⟩ = some (.slice Ao34 t215.length co34) /\ w'.cell? ⟨gb206, 0, none⟩ = some (.int .i64 a0_0) /\ w'.cell? ⟨gb206, 1, none⟩ = some (.int .i64 a0_1) /\ w'.cell? ⟨gb206, 2, none⟩ = some (.slice A0_2 l0_2.length c0_2)) (ds := []) #[Zz,Zz,Zz,Zz,Zz,Zz,Zz] (by kernel_rfl) rfl rfl ⟨(blk_cell BK218.1 0).trans rfl, (blk_cell BK218.1 1).trans rfl, (blk_cell BK218.1 2).trans rfl, (blk_cell BK206.1 0).trans rfl, (blk_cell BK206.1 1).trans rfl, (blk_cell BK206.1 2).trans rfl⟩ (fun hHeld => ?_)
 generalize w35.drew = w36 at HO217 BK206 BK207 BK218 HB hHeld ⊢
 refine pure_ (i := 3) (N := some 25) (v := ?_) (a' := ?_) #[Zz,Zz,Zz,Yy,Zz,Zz,Zz] rfl rfl (by kernel_rfl) (fun _ _ _ h => h) (Or.inl ⟨by rfl, ?_⟩) ?_ ?_
 rotate_left
 · intro w'
   go_simp
   with_reducible rfl
 rotate_left
 · simp only [Act.put, List.setIfInBounds_toArray, List.set_cons_zero, List.set_cons_succ, i64_w, i32_w]
   rfl
 refine takeF 0 (N := some 22) hHeld ?_
 refine takeF 1 (N := some 23) hHeld ?_
 refine one_ (i := 2) (N := some 24) #[Yy,Yy,Yy,Yy,Zz,Zz,Zz] rfl rfl (by kernel_rfl) (by decide) (fun K hK => ?_)
 refine goes_ Try.func14 (by kernel_rfl) rfl #[.agg #[.int .i64 a0_0, .int .i64 a0_1, .slice A0_2 l0_2.length c0_2]] (by rfl) rfl rfl (by (try simp only [List.map_toArray, List.map_cons, List.map_nil]); first | done | rfl | (simp only [List.length_drop, List.length_take]; rfl)) ?_
 with_reducible refine (spec_saUnits.calls kj2 a0_0 a0_1 _ _ l0_2 t219 _ ?side1 ?side2 A23.1).mono ?_
 (case side1 => exact CB (C_below HR0_2.1 HB.1))
 (case side2 => exact HC0_2.1)
 rintro e w37 ⟨v220, rfl, ho0, hb⟩
 refine ⟨_, rfl, ?_⟩
 refine E6 (rB HO217.1 hb) (S_lower ho0 (bZ HB.1)) (bB BK206.1 hb) (bB BK207.1 hb) (bB BK218.1 hb) (bS HB.1 hb) ?_
 clear HO217 BK206 BK207 BK218 HB
 intro HO217 HO221 BK206 BK207 BK218 HB
 (try clear hb)
 (try clear hb2)
 (try clear hk)
 (try clear hi)
 (try clear ho0)
 obtain ⟨Ao38, co38, eo38⟩ := S_slice HO221.1
 (first | subst eo38 | (injection eo38 with f1_ f2_ f3_; have f4_ := f1_.symm; have f5_ := f3_.symm; clear f1_ f2_ f3_; subst f4_; subst f5_))
 have p222 : 0 <= (a1 : Int) := OD
 have q222 : a1 < (t219.length : Int) := OD
 obtain ⟨ad222, A222_0, c222_0, e222, hx222_0, hl222_0, hi222_0⟩ := at_L3 (S_reads' HO221.1).2.2 a1 p222 q222
 cases e222
 obtain ⟨ce222, hce222, hMe222, hcc222⟩ := S_get HO221.1 [] a1 p222 (by first | exact q222 | exact OD | (have e_ := (S_reads' HO221.1).1; omega))
 obtain ⟨ve222_0, rfl, ge222_0⟩ := hMe222
 have hv222_0 := hcc222 0 _ rfl
 rw [Nat.add_zero, show ((Kd.slice 3 (Kd.int .i64))).sz = 1 from rfl, Nat.mul_one] at hv222_0
 replace hv222_0 := Option.some.inj (hv222_0.symm.trans hx222_0)
 rw [hv222_0] at ge222_0
 have HL222_0 := Aside0.mk (show Kd.R (Kd.int .i64) 3 _ _ _ _ (rd_L3 t219 a1) from ge222_0)
 clear hv222_0 ge222_0
 clear hcc222 hce222
 have HR222_0 := Aside0.mk hi222_0
 have HC222_0 := Aside0.mk hl222_0
 clear hi222_0 hl222_0
 replace p222 := eq_true p222
 replace q222 := eq_true q222
 refine hK.out _ _ ⟨(blk_cell BK218.1 0).trans rfl, (blk_cell BK218.1 1).trans rfl, (blk_cell BK218.1 2).trans rfl, (blk_cell BK206.1 0).trans rfl, (blk_cell BK206.1 1).trans rfl, (blk_cell BK206.1 2).trans rfl⟩ (fun hHeld => ?_)
 clear hK K
 refine norm_ (a' := ?_) ?_ ?_
 rotate_left
 · show Act.put _ (some 24) _ = _
   simp only [Act.put, List.setIfInBounds_toArray, List.set_cons_zero, List.set_cons_succ, i64_w, i32_w]
   rfl
 refine more_ (S2 := fun w' => w'.cell? ⟨gb218, 0, none⟩ = some (.int .i64 t213) /\ w'.cell? ⟨gb218, 1, none⟩ = some (.int .i64 t214) /\ w'.cell? ⟨gb218, 2, none⟩ = some (.slice Ao34 t215.length co34) /\ w'.cell? ⟨gb206, 0, none⟩ = some (.int .i64 a0_0) /\ w'.cell? ⟨gb206, 1, none⟩ = some (.int .i64 a0_1) /\ w'.cell? ⟨gb206, 2, none⟩ = some (.slice A0_2 l0_2.length c0_2) /\ w'.cell? (ad222.add (a1).toNat) = some (.slice A222_0 (rd_L3 t219 a1).length c222_0)) ⟨hHeld.1, hHeld.2.1, hHeld.2.2.1, hHeld.2.2.2.1, hHeld.2.2.2.2.1, hHeld.2.2.2.2.2, hx222_0⟩ (fun _ h_ => ⟨h_.1, h_.2.1, h_.2.2.1, h_.2.2.2.1, h_.2.2.2.2.1, h_.2.2.2.2.2.1⟩) (fun hHeld => ?_)
 refine pure_ (i := 4) (N := some 26) (v := ?_) (a' := ?_) #[Yy,Yy,Yy,Yy,Yy,Zz,Zz] rfl rfl (by kernel_rfl) (fun _ _ _ h => h) (Or.inl ⟨by rfl, ?_⟩) ?_ ?_
 rotate_left
 · intro w'
   go_simp
   with_reducible rfl
 rotate_left
 · simp only [Act.put, List.setIfInBounds_toArray, List.set_cons_zero, List.set_cons_succ, i64_w, i32_w]
   rfl
 refine takeF 5 (N := some 27) hHeld ?_
 refine one_ (i := 6) (N := some 28) #[Yy,Yy,Yy,Yy,Yy,Yy,Yy] rfl rfl (by kernel_rfl) (by decide) (fun K hK => ?_)
 refine goes_ Try.func16 (by kernel_rfl) rfl #[.agg #[.int .i64 t213, .int .i64 t214, .slice Ao34 t215.length co34], .slice A222_0 (rd_L3 t219 a1).length c222_0] (by rfl) rfl rfl (by (try simp only [List.map_toArray, List.map_cons, List.map_nil]); first | done | rfl | (simp only [List.length_drop, List.length_take]; rfl)) ?_
 with_reducible refine (spec_saTurn.calls kj2 t213 t214 (fun k_ => some k_ = (.slice Ao34 t215.length co34 : Value).ownBlock) (.slice Ao34 t215.length co34) t215 _ _ (rd_L3 t219 a1) t223 w _ ?side1 ?side2 ?side3 ?side4 A26.1).mono ?_
 (case side1 => exact BL HB.1)
 (case side2 => exact R_tight rfl HO217.1)
 (case side3 => exact C_kept_own ((R_apart' HL222_0.1 (R_typed HO217.1) (by decide))) (fun k_ hk_ hs_ => (hk_.2) hs_))
 (case side4 => exact HC222_0.1)
 rintro e w39 ⟨rfl, hy0, hb, hkp⟩
 have HS6_ := cell_kept (hHeld.2.2.2.2.2.2) hkp (by first | (rw [add_block]; exact (fun hs_ => (((S_R (S_apart' HO221.1 (R_typed HO217.1) (by decide))).1 _ rfl).2) hs_)) | (show ¬ _; simp only [add_block]; exact (fun hs_ => (((S_R (S_apart' HO221.1 (R_typed HO217.1) (by decide))).1 _ rfl).2) hs_)) | exact (fun hs_ => (((S_R (S_apart' HO221.1 (R_typed HO217.1) (by decide))).1 _ rfl).2) hs_))
 refine ⟨_, rfl, ?_⟩
 refine E6 (blk_kept (PB BK206.1) hkp (fun hs_ => (fun e_ => (R_ne HO217.1 BK206.1 (by decide)) e_) hs_)) (blk_kept (PB BK207.1) hkp (fun hs_ => (fun e_ => (R_ne HO217.1 BK207.1 (by decide)) e_) hs_)) (R_reok rfl hy0 (fun k_ e_ => HO217.1.1 k_ e_)) (blk_kept (PB BK218.1) hkp (fun hs_ => (fun e_ => (R_ne HO217.1 BK218.1 (by decide)) e_) hs_)) (S_mono (ok' := fun k_ => True) (S_keptB ((S_apart' HO221.1 (R_typed HO217.1) (by decide))) hkp (fun k_ hk_ hs_ => (hk_.2) hs_)) (fun k_ hk_ => trivial)) (hb) ?_
 clear BK206 BK207 HO217 BK218 HO221 HB HL222_0
 intro BK206 BK207 HO217 BK218 HO221 HB
 (try clear hb)
 (try clear hkp)
 (try clear hy0)
 refine hK.out _ _ ⟨(blk_cell BK218.1 0).trans rfl, (blk_cell BK218.1 1).trans rfl, (blk_cell BK218.1 2).trans rfl, (blk_cell BK206.1 0).trans rfl, (blk_cell BK206.1 1).trans rfl, (blk_cell BK206.1 2).trans rfl, HS6_⟩ (fun hHeld => ?_)
 clear hK K
 refine norm_ (a' := ?_) ?_ ?_
 rotate_left
 · show Act.put _ (some 28) _ = _
   simp only [Act.put, List.setIfInBounds_toArray, List.set_cons_zero, List.set_cons_succ, i64_w, i32_w]
   rfl
 refine done_ (by kernel_rfl) ?_
 obtain ⟨hcz40_0, hcz40_1, hcz40_2, hfz40_0, hfz40_1, hfz40_2⟩ := cz3 BK218.1
 obtain ⟨hcz41_0, hcz41_1, hcz41_2, hfz41_0, hfz41_1, hfz41_2⟩ := cz3 BK207.1
 try go_wp2
 refine bodyPost_ret (results_ct rfl _ _ gb207 28 #[.int .i64 t213, .int .i64 t214, .slice Ao34 t215.length co34] (0, 0) _ rfl (PF0 BK207.1) Try.underlying28 rfl (by kernel_rfl)) rfl ?_
 exact ⟨_, RF, by (with_reducible repeat (first | apply R_alloc | apply R_drewN | apply R_drew)); exact R_mono (RQ gb207 2 (RQ gb207 1 (RQ gb207 0 (R_types HO217.1 BK207.1 (by decide)) _) _) _) (fun _ hk => trivial), BL HB.1⟩
/-! ### laws_toCell: function 27 -/
open Kd
def laws_toCell.f (a0_0 : Int) (a0_1 : Int) : Option (Int × Int) := some (a0_0, a0_1)
set_option maxHeartbeats 8000000 in
set_option maxRecDepth 100000 in
theorem laws_toCell.calls (a0_0 : Int) (a0_1 : Int) (r1 : Int) (r2 : Int) (w : World) (h : laws_toCell.f a0_0 a0_1 = some (r1, r2)) :
 Calls Try.prog 27 #[.agg #[.int .i64 a0_0, .int .i64 a0_1]] w fun e w' => e = .returned (.agg #[.int .i64 r1, .int .i64 r2]) /\ Below w.heap.size w w' := by
 have hu52 := Try.underlying52
 have hu45 := Try.underlying45
 have HB := Aside0.mk (Below.refl w.heap.size w)
 have H := h
 clear h
 unfold laws_toCell.f at H
 simp only [Option.some.injEq, Prod.mk.injEq] at H
 obtain ⟨rfl, rfl⟩ := H
 go_enter Try.func27, Try.ntmps27
 go_wp2_with (first | ((with_reducible refine gate_dst (N := 1) rfl ?_); refine boxE (cs := #[.int .i64 a0_0, .int .i64 a0_1]) (t := 52) ?_; intro gb224 hg w2 hbox hb; refine E4b HB.1 hg hbox hb ?_; clear HB; intro HB BK224 GW224 GE224; clear hb hbox hg) | ((with_reducible refine gate_dst (N := 2) rfl ?_); refine boxE (cs := #[.int .i64 0, .int .i64 0]) (t := 45) ?_; intro gb225 hg w3 hbox hb; refine E7 (bB BK224.1 hb) (bS HB.1 hb) (hbox) (gX HB.1 hg) (gX HB.1 hg) (nB BK224.1 hg) (nC BK224.1 hg) ?_; clear BK224 HB; intro BK224 HB BK225 GW225 GE225 NB224_225 NB225_224; clear hb hbox hg) | ((with_reducible refine gate_dst (N := 3) rfl ?_); refine boxE (cs := #[.int .i64 0, .int .i64 0]) (t := 45) ?_; intro gb226 hg w4 hbox hb; refine E10 (bB BK224.1 hb) (bB BK225.1 hb) (bS HB.1 hb) (hbox) (gX HB.1 hg) (gX HB.1 hg) (nB BK224.1 hg) (nC BK224.1 hg) (nB BK225.1 hg) (nC BK225.1 hg) ?_; clear BK224 BK225 HB; intro BK224 BK225 HB BK226 GW226 GE226 NB224_226 NB226_224 NB225_226 NB226_225; clear hb hbox hg; have hnb5 := NB224_225.1; have hnc5 := NB225_224.1; have hnb6 := NB224_226.1; have hnc6 := NB226_224.1; obtain ⟨hcz7_0, hcz7_1, hfz7_0, hfz7_1⟩ := cz2 BK224.1; have hnb8 := NB226_225.1; have hnc8 := NB225_226.1; obtain ⟨hcz9_0, hcz9_1, hfz9_0, hfz9_1⟩ := cz2 BK226.1; obtain ⟨hcz10_0, hcz10_1, hfz10_0, hfz10_1⟩ := cz2 BK225.1))
 refine bodyPost_ret (results_cell_row rfl _ _ gb225 45 #[.int .i64 a0_0, .int .i64 a0_1] (0, 0) _ rfl (PF1 NB225_226.1 BK225.1) Try.underlying45 rfl (by kernel_rfl)) rfl ?_
 exact ⟨RF, BL HB.1⟩

/-! ### laws_toCellS: function 17 -/
open Kd
def laws_toCellS.l0 : Nat -> List (S52) -> List (S45) -> Int -> Option ((List (S45)))
 | 0, _, _, _ => none
 | k + 1, x0, x3, x4 => if x4 < (x0.length : Int) then (if 0 <= x4 then ((laws_toCell.f ((rd_T52 x0 x4).f0) ((rd_T52 x0 x4).f1)).bind fun bt231 => (if x4 < (x3.length : Int) then (laws_toCellS.l0 k x0 (x3.set (x4 : Int).toNat (⟨bt231.1, bt231.2⟩ : S45)) (wrap64 (x4 + 1))) else (none))) else (none)) else (some x3)
def laws_toCellS.f (k : Nat) (l0 : List (S52)) : Option ((List (S45))) := if 0 <= (l0.length : Int) then (if ((l0.length : Int) : Int).toNat <= 17592186044416 then (laws_toCellS.l0 k l0 (List.replicate ((l0.length : Int) : Int).toNat z45) 0) else (none)) else (none)
theorem laws_toCellS.mono_l : ∀ k, (∀ y0 y1 y2, LeO (laws_toCellS.l0 k y0 y1 y2) (laws_toCellS.l0 (k + 1) y0 y1 y2))
 | 0 => fun _ _ _ r h => by simp [laws_toCellS.l0] at h
 | k + 1 => by
  have ih0 := laws_toCellS.mono_l k
  intros
  first | unfold laws_toCellS.l0
  exact LM1 ih0
theorem laws_toCellS.mono : ∀ a0 k, LeO (laws_toCellS.f k a0) (laws_toCellS.f (k + 1) a0) := by
 intro a0 k
 have ih0 := laws_toCellS.mono_l k
 unfold laws_toCellS.f
 exact LM1 ih0
set_option maxHeartbeats 8000000 in
set_option maxRecDepth 100000 in
theorem laws_toCellS.calls (k : Nat) (A0 : Option Addr) (c0 : Nat) (l0 : List (S52)) (r : List (S45)) (w : World) (hr0 : Kd.C k52 w A0 l0.length l0) (hc0 : l0.length <= c0) (h : laws_toCellS.f k l0 = some r) :
 Calls Try.prog 17 #[.slice A0 l0.length c0] w fun e w' => ∃ v0_ : Value, e = .returned (v0_) /\ Kd.R k45 45 w' w.heap.size (fun _ => True) v0_ r /\ Below w.heap.size w w' := by
 have hu52 := Try.underlying52
 have hu45 := Try.underlying45
 have HR0 := Aside0.mk hr0
 have HC0 := Aside0.mk hc0
 clear hr0 hc0
 have HB := Aside0.mk (Below.refl w.heap.size w)
 have H := h
 clear h
 unfold laws_toCellS.f at H
 replace H := ifP H; obtain ⟨c2, H⟩ := H
 have c2b0 := eq_true c2
 have c2b1 := decide_eq_true c2
 clear c2
 replace H := ifP H; obtain ⟨c3, H⟩ := H
 have c3b0 := eq_true c3
 have c3b1 := decide_eq_true c3
 clear c3
 generalize hy227 : ((List.replicate ((l0.length : Int) : Int).toNat z45) : List (S45)) = y227 at H
 have Ny227 := Aside0.mk hy227.symm; clear hy227
 have H' := Aside0.mk H
 clear H
 go_enter Try.func17, Try.ntmps17
 go_wp2_with (first | ((with_reducible refine gate_dst (N := 7) rfl ?_); refine R_make k45 _ 45 rfl (N := 7) rfl 26 _ _ rfl (l0.length : Int) rfl rfl Try.underlying26 (.agg #[(.int .i64 0), (.int .i64 0)]) 16 info45 rfl (by decide) (by omega) z45 (ok := fun _ => True) (okp := fun _ => True) (k45_mkM _ _ _ z45 ) (fun _ hk => hk) trivial (OD) (Nat.le_trans (Nat.mul_le_mul_right _ (OD : (l0.length : Int).toNat <= 17592186044416)) (by omega)) (Below.refl _ _) (Nat.le_refl _) ?_; intro v228 w4 ho5 hb hg_ hnew_; clear hg_ hnew_; (first | rw [<- Ny227.1] at ho5 | (simp only [Int.reduceToNat] at ho5; rw [<- Ny227.1] at ho5)); refine E2 (R_lower ho5 (bZ HB.1)) (bS HB.1 hb) ?_; clear HB; intro HO229 HB; clear hb ho5))
 go_loopg [4] k (fun kq v4 w' => ∃ (x3_1 : List (S45)) (x4_1 : Int), v4 = .int .i64 x4_1 /\ Aside0 (laws_toCellS.l0 kq l0 x3_1 x4_1 = some r) /\ Aside0 (kq <= k) /\ Aside0 (Kd.R k45 45 w' w.heap.size (fun _ => True) v228 x3_1) /\ Aside0 (Below w.heap.size w w'))
 case atStart => exact ⟨(y227), (0), RG, H', ⟨Nat.le_refl _⟩, ⟨PR HO229.1⟩, ⟨BL HB.1⟩⟩
 clear H'
 clear c2b0 c2b1 c3b0 c3b1
 obtain ⟨x3_1, x4_1, rfl, HA, HK1, HO_3, HB⟩ := hrel
 cases gk with
 | zero => exact absurd HA.1 (by simp [laws_toCellS.l0])
 | succ k1 => ?_
 have H := HA.1
 clear HA
 simp only [laws_toCellS.l0] at H
 replace H := ifB H; rcases H with ⟨c6b0, H⟩ | ⟨c6b0, H⟩
 · replace H := ifN H; obtain ⟨c7b0, H⟩ := H
   replace H := bindA H; obtain ⟨⟨t231, t232⟩, A8, H⟩ := H
   dsimp only at H
   replace H := ifN H; obtain ⟨c9b0, H⟩ := H
   generalize hy233 : ((x3_1.set (x4_1 : Int).toNat (⟨t231, t232⟩ : S45)) : List (S45)) = y233 at H
   have Ny233 := Aside0.mk hy233.symm; clear hy233
   have H' := Aside0.mk H
   clear H
   have p230 : 0 <= (x4_1 : Int) := OD
   have q230 : x4_1 < (l0.length : Int) := OD
   obtain ⟨ad230, e230, hx230_0, hx230_1⟩ := at_T52 HR0.1 x4_1 p230 q230
   cases e230
   replace hx230_0 := (HB.1.cell (World.block_lt_of_cell? w _ hx230_0)).trans hx230_0
   replace hx230_1 := (HB.1.cell (World.block_lt_of_cell? w _ hx230_1)).trans hx230_1
   replace p230 := eq_true p230
   replace q230 := eq_true q230
   go_wp2_with (first | ((with_reducible refine gate_callee (f := 27) rfl ?_); refine goesM (N := (some 20)) #[.agg #[.int .i64 ((rd_T52 l0 x4_1).f0), .int .i64 ((rd_T52 l0 x4_1).f1)]] Try.func27 ?_; (with_reducible refine (laws_toCell.calls ((rd_T52 l0 x4_1).f0) ((rd_T52 l0 x4_1).f1) t231 t232 _ A8.1).mono ?_); rintro e w11 ⟨rfl, hb⟩; refine ⟨_, rfl, ?_⟩; refine E2 (rB HO_3.1 hb) (bS HB.1 hb) ?_; clear HO_3 HB; intro HO_3 HB; (try clear hb); have p10 : 0 <= (x4_1 : Int) := OD; have q10 : (x4_1 : Int) < ((x3_1.length : Int) : Int) := OD; obtain ⟨go10, co10, eo10, gb10, gl10, cl10, HG10⟩ := R_form HO_3.1 (by omega); (first | cases eo10 | (injection eo10 with ea_ en_ ec_; (first | subst ea_ | (injection ea_ with ea_; subst ea_)); subst ec_; clear en_)); have GB10 := Aside0.mk gb10; have GG10 := Aside0.mk HG10; clear gb10 gl10 HG10; obtain ⟨ce10, hcl10, hM10, hcc10, hfr10⟩ := R_elem HO_3.1 z45 (x4_1 : Int) p10 q10; obtain rfl := k45_openM hM10; have hx10_0 : w11.cell? ⟨go10, (x4_1 : Int).toNat * 2, none⟩ = some (.int .i64 ((rd_T45 x3_1 x4_1).f0)) := hcc10 0 _ rfl; have hx10_1 : w11.cell? ⟨go10, (x4_1 : Int).toNat * 2 + 1, none⟩ = some (.int .i64 ((rd_T45 x3_1 x4_1).f1)) := hcc10 1 _ rfl; have hf10_0 : w11.frozen? ⟨go10, (x4_1 : Int).toNat * 2, none⟩ = false := hfr10 0; have hf10_1 : w11.frozen? ⟨go10, (x4_1 : Int).toNat * 2 + 1, none⟩ = false := hfr10 1; (try clear hM10); clear hcl10 hcc10 hfr10; replace p10 := eq_true p10; replace q10 := eq_true q10; have HX12 := Aside0.mk (show Kd.R k45 45 w11 w.heap.size (fun _ => True) (.slice (some ⟨go10, 0, none⟩) x3_1.length co10) x3_1 from (PR HO_3.1)); obtain ⟨ce12, hcl12, hM12, hcc12, hfr12⟩ := R_elem HX12.1 z45 (x4_1 : Int) (OD) (by have h_ : (x4_1 : Int) < ((x3_1.length : Int) : Int) := OD; first | exact h_ | (have e_ := (R_reads' HO_3.1).1; omega) | simpa using h_); obtain rfl := k45_openM hM12; have HP12 := R_seg HX12.1 (x4_1 : Int) (OD) (by have h_ : (x4_1 : Int) < ((x3_1.length : Int) : Int) := OD; first | exact h_ | (have e_ := (R_reads' HO_3.1).1; omega) | simpa using h_) (seg := [.int .i64 t231, .int .i64 t232]) (j := 0) hcl12 hcc12 (show 2 <= 2 from by decide) (x' := (⟨t231, t232⟩ : S45)) (k45_mkM _ _ _ (⟨t231, t232⟩ : S45) ) (fun _ hk => hk); have hx12_0 := hcc12 0 _ rfl; (try simp only [show (k45).sz = 2 from rfl, Nat.mul_one, Nat.add_zero] at hx12_0); have hf12_0 := hfr12 0; (try simp only [show (k45).sz = 2 from rfl, Nat.mul_one, Nat.add_zero] at hf12_0); have hx12_1 := hcc12 1 _ rfl; (try simp only [show (k45).sz = 2 from rfl, Nat.mul_one, Nat.add_zero] at hx12_1); have hf12_1 := hfr12 1; (try simp only [show (k45).sz = 2 from rfl, Nat.mul_one, Nat.add_zero] at hf12_1); clear hcl12 hcc12 hfr12) | ((with_reducible refine gate_store (t := 45) (p := 21) rfl ?_); refine storeE (t := 45) (p := 21) (w1 := ((w11.setCell ⟨go10, (x4_1 : Int).toNat * 2, none⟩ (.int .i64 t231)).setCell ⟨go10, (x4_1 : Int).toNat * 2 + 1, none⟩ (.int .i64 t232))) ?_; intro w13 hw; have hg : w11.grownBy w13 (some go10) := (by rw [hw]; exact HP12.2); have hp_ : Kd.R k45 45 w13 w.heap.size (fun _ => True) (.slice (some ⟨go10, 0, none⟩) x3_1.length co10) y233 := (by rw [hw, Ny233.1]; exact HP12.1); clear HP12; refine E2 (hp_) ((by rw [hw]; exact below_set (below_set (HB.1) GB10.1) GB10.1 : Below w.heap.size w w13)) ?_; clear HO_3 HB; intro HO_3 HB; clear hg hw hp_))
   go_roundg k1
   case measure => have := HK1.1; omega
   case rel => exact ⟨(y233), (wrap64 (x4_1 + 1)), RG, H', ⟨by have := HK1.1; omega⟩, ⟨PR HO_3.1⟩, ⟨BL HB.1⟩⟩
 obtain rfl := Option.some.inj H
 go_wp2
 go_ret
 exact ⟨_, RF, RPE (HO_3.1), BL HB.1⟩
/-! ### laws_toBoard: function 6 -/
open Kd
def laws_toBoard.f (k : Nat) (a0_0 : Int) (a0_1 : Int) (l0_2 : List (S52)) : Option (Int × Int × (List (S45))) := (laws_toCellS.f k l0_2).bind fun t237 => (some (a0_0, a0_1, t237))
theorem laws_toBoard.mono : ∀ a0 a1 a2 k, LeO (laws_toBoard.f k a0 a1 a2) (laws_toBoard.f (k + 1) a0 a1 a2) := by
 intro a0 a1 a2 k
 unfold laws_toBoard.f
 repeat' first
  | (with_reducible exact laws_toCellS.mono _ _)
  | (with_reducible exact LeO.refl _)
  | (with_reducible exact LeO.none _)
  | (with_reducible refine LeO.ite ?_ ?_)
  | (with_reducible refine LeO.bind ?_ (fun _ => ?_))
  | exact laws_toCellS.mono _ _
  | exact LeO.none _
  | refine LeO.ite ?_ ?_
  | refine LeO.bind ?_ (fun _ => ?_)
set_option maxHeartbeats 8000000 in
set_option maxRecDepth 100000 in
theorem laws_toBoard.calls (k : Nat) (a0_0 : Int) (a0_1 : Int) (A0_2 : Option Addr) (c0_2 : Nat) (l0_2 : List (S52)) (r1 : Int) (r2 : Int) (r3 : List (S45)) (w : World) (hr0_2 : Kd.C k52 w A0_2 l0_2.length l0_2) (hc0_2 : l0_2.length <= c0_2) (h : laws_toBoard.f k a0_0 a0_1 l0_2 = some (r1, r2, r3)) :
 Calls Try.prog 6 #[.agg #[.int .i64 a0_0, .int .i64 a0_1, .slice A0_2 l0_2.length c0_2]] w fun e w' => ∃ v2_ : Value, e = .returned (.agg #[.int .i64 r1, .int .i64 r2, v2_]) /\ Kd.R k45 45 w' w.heap.size (fun _ => True) v2_ r3 /\ Below w.heap.size w w' := by
 have hu24 := Try.underlying24
 have hu28 := Try.underlying28
 have HR0_2 := Aside0.mk hr0_2
 have HC0_2 := Aside0.mk hc0_2
 clear hr0_2 hc0_2
 have HB := Aside0.mk (Below.refl w.heap.size w)
 have H := h
 clear h
 unfold laws_toBoard.f at H
 replace H := bindA H; obtain ⟨t237, A2, H⟩ := H
 simp only [Option.some.injEq, Prod.mk.injEq] at H
 obtain ⟨rfl, rfl, rfl⟩ := H
 go_enter Try.func6, Try.ntmps6
 go_wp2_with (first | ((with_reducible refine gate_dst (N := 1) rfl ?_); refine boxE (cs := #[.int .i64 a0_0, .int .i64 a0_1, .slice A0_2 l0_2.length c0_2]) (t := 24) ?_; intro gb234 hg w3 hbox hb; refine E4b HB.1 hg hbox hb ?_; clear HB; intro HB BK234 GW234 GE234; clear hb hbox hg) | ((with_reducible refine gate_dst (N := 2) rfl ?_); refine boxE (cs := #[.int .i64 0, .int .i64 0, .slice none 0 0]) (t := 28) ?_; intro gb235 hg w4 hbox hb; refine E7 (bB BK234.1 hb) (bS HB.1 hb) (hbox) (gX HB.1 hg) (gX HB.1 hg) (nB BK234.1 hg) (nC BK234.1 hg) ?_; clear BK234 HB; intro BK234 HB BK235 GW235 GE235 NB234_235 NB235_234; clear hb hbox hg) | ((with_reducible refine gate_dst (N := 3) rfl ?_); refine boxE (cs := #[.int .i64 0, .int .i64 0, .slice none 0 0]) (t := 28) ?_; intro gb236 hg w5 hbox hb; refine E10 (bB BK234.1 hb) (bB BK235.1 hb) (bS HB.1 hb) (hbox) (gX HB.1 hg) (gX HB.1 hg) (nB BK234.1 hg) (nC BK234.1 hg) (nB BK235.1 hg) (nC BK235.1 hg) ?_; clear BK234 BK235 HB; intro BK234 BK235 HB BK236 GW236 GE236 NB234_236 NB236_234 NB235_236 NB236_235; clear hb hbox hg; have hnb6 := NB234_235.1; have hnc6 := NB235_234.1; have hnb7 := NB234_236.1; have hnc7 := NB236_234.1; obtain ⟨hcz8_0, hcz8_1, hcz8_2, hfz8_0, hfz8_1, hfz8_2⟩ := cz3 BK234.1; have hnb9 := NB236_235.1; have hnc9 := NB235_236.1; obtain ⟨hcz10_0, hcz10_1, hcz10_2, hfz10_0, hfz10_1, hfz10_2⟩ := cz3 BK236.1) | ((with_reducible refine gate_callee (f := 17) rfl ?_); refine goesM (N := (some 12)) #[.slice A0_2 l0_2.length c0_2] Try.func17 ?_; (with_reducible refine (laws_toCellS.calls k _ _ l0_2 t237 _ ?side1 ?side2 A2.1).mono ?_); (case side1 => exact C_below HR0_2.1 (BL HB.1)); (case side2 => exact HC0_2.1); rintro e w11 ⟨v238, rfl, ho0, hb⟩; refine ⟨_, rfl, ?_⟩; refine E5 (R_lower ho0 (bZ HB.1)) (blk_below (g := gb234) (o := .cells #[.int .i64 a0_0, .int .i64 a0_1, .slice A0_2 l0_2.length c0_2] 24 (0, 0)) (PF1 NB234_236.1 BK234.1) hb) (blk_below (g := gb235) (o := .cells #[.int .i64 0, .int .i64 0, .slice none 0 0] 28 (0, 0)) (PF1 NB235_236.1 BK235.1) hb) (blk_below (g := gb236) (o := .cells #[.int .i64 a0_0, .int .i64 a0_1, .slice none 0 0] 28 (0, 0)) (PF0 BK236.1) hb) (bS HB.1 hb) ?_; clear BK234 BK235 BK236 HB; intro HO239 BK234 BK235 BK236 HB; (try clear hb); (try clear ho0); obtain ⟨Ao12, co12, eo12⟩ := R_slice HO239.1; subst eo12; obtain ⟨hcz13_0, hcz13_1, hcz13_2, hfz13_0, hfz13_1, hfz13_2⟩ := cz3 BK236.1; obtain ⟨hcz14_0, hcz14_1, hcz14_2, hfz14_0, hfz14_1, hfz14_2⟩ := cz3 BK235.1))
 refine bodyPost_ret (results_cell_row rfl _ _ gb235 28 #[.int .i64 a0_0, .int .i64 a0_1, .slice Ao12 t237.length co12] (0, 0) _ rfl (PF1 NB235_236.1 BK235.1) Try.underlying28 rfl (by kernel_rfl)) rfl ?_
 exact ⟨_, RF, by (with_reducible repeat (first | apply R_alloc | apply R_drewN | apply R_drew)); exact R_mono (RQ gb235 2 (RQ gb235 1 (RQ gb235 0 (R_far (p := ⟨gb236, 2, none⟩) (R_types (R_types HO239.1 BK236.1 (by decide)) BK235.1 (by decide)) (fun _ hk => hk.1.2) (.slice Ao12 t237.length co12)) _) _) _) (fun _ hk => trivial), BL HB.1⟩

/-! ### impl_IsCell: function 34 -/
open Kd
def impl_IsCell.f (a0_0 : Int) (a0_1 : Int) : Option (Bool) := if a0_0 < 0 then (some false) else (if a0_0 > 7 then (some false) else (if a0_1 < 0 then (some false) else (if a0_1 > 1 then (some false) else (if a0_1 = 0 then (some true) else (if a0_0 = 3 then (some true) else (some (a0_0 == 6)))))))
set_option maxHeartbeats 8000000 in
set_option maxRecDepth 100000 in
theorem impl_IsCell.calls (a0_0 : Int) (a0_1 : Int) (r : Bool) (w : World) (h : impl_IsCell.f a0_0 a0_1 = some r) :
 Calls Try.prog 34 #[.agg #[.int .i64 a0_0, .int .i64 a0_1]] w fun e w' => e = .returned (.bool r) /\ Below w.heap.size w w' := by
 have hu45 := Try.underlying45
 have HB := Aside0.mk (Below.refl w.heap.size w)
 have H := h
 clear h
 unfold impl_IsCell.f at H
 replace H := ifB H; rcases H with ⟨c2b0, H⟩ | ⟨c2b0, H⟩
 · obtain rfl := Option.some.inj H
   go_enter Try.func34, Try.ntmps34
   go_wp2_with (first | ((with_reducible refine gate_dst (N := 1) rfl ?_); refine boxE (cs := #[.int .i64 a0_0, .int .i64 a0_1]) (t := 45) ?_; intro gb240 hg w3 hbox hb; refine E4b HB.1 hg hbox hb ?_; clear HB; intro HB BK240 GW240 GE240; clear hb hbox hg; obtain ⟨hcz4_0, hcz4_1, hfz4_0, hfz4_1⟩ := cz2 BK240.1))
   go_ret
   exact ⟨RF, BL HB.1⟩
 replace H := ifQ H; rcases H with ⟨c5, H⟩ | ⟨c5, H⟩
 · have c5b0 : decide (7 < a0_0) = true := decide_eq_true c5
   clear c5
   obtain rfl := Option.some.inj H
   go_enter Try.func34, Try.ntmps34
   go_wp2_with (first | ((with_reducible refine gate_dst (N := 1) rfl ?_); refine boxE (cs := #[.int .i64 a0_0, .int .i64 a0_1]) (t := 45) ?_; intro gb240 hg w6 hbox hb; refine E4b HB.1 hg hbox hb ?_; clear HB; intro HB BK240 GW240 GE240; clear hb hbox hg; obtain ⟨hcz7_0, hcz7_1, hfz7_0, hfz7_1⟩ := cz2 BK240.1))
   go_ret
   exact ⟨RF, BL HB.1⟩
 have c5b0 : decide (7 < a0_0) = false := decide_eq_false c5
 clear c5
 replace H := ifB H; rcases H with ⟨c8b0, H⟩ | ⟨c8b0, H⟩
 · obtain rfl := Option.some.inj H
   go_enter Try.func34, Try.ntmps34
   go_wp2_with (first | ((with_reducible refine gate_dst (N := 1) rfl ?_); refine boxE (cs := #[.int .i64 a0_0, .int .i64 a0_1]) (t := 45) ?_; intro gb240 hg w9 hbox hb; refine E4b HB.1 hg hbox hb ?_; clear HB; intro HB BK240 GW240 GE240; clear hb hbox hg; obtain ⟨hcz10_0, hcz10_1, hfz10_0, hfz10_1⟩ := cz2 BK240.1))
   go_ret
   exact ⟨RF, BL HB.1⟩
 replace H := ifQ H; rcases H with ⟨c11, H⟩ | ⟨c11, H⟩
 · have c11b0 : decide (1 < a0_1) = true := decide_eq_true c11
   clear c11
   obtain rfl := Option.some.inj H
   go_enter Try.func34, Try.ntmps34
   go_wp2_with (first | ((with_reducible refine gate_dst (N := 1) rfl ?_); refine boxE (cs := #[.int .i64 a0_0, .int .i64 a0_1]) (t := 45) ?_; intro gb240 hg w12 hbox hb; refine E4b HB.1 hg hbox hb ?_; clear HB; intro HB BK240 GW240 GE240; clear hb hbox hg; obtain ⟨hcz13_0, hcz13_1, hfz13_0, hfz13_1⟩ := cz2 BK240.1))
   go_ret
   exact ⟨RF, BL HB.1⟩
 have c11b0 : decide (1 < a0_1) = false := decide_eq_false c11
 clear c11
 replace H := ifQ H; rcases H with ⟨c14, H⟩ | ⟨c14, H⟩
 · have c14b0 := beq_iff_eq.mpr c14
   have c14b1 := bne_eq_false_iff_eq.mpr c14
   clear c14
   obtain rfl := Option.some.inj H
   go_enter Try.func34, Try.ntmps34
   go_wp2_with (first | ((with_reducible refine gate_dst (N := 1) rfl ?_); refine boxE (cs := #[.int .i64 a0_0, .int .i64 a0_1]) (t := 45) ?_; intro gb240 hg w15 hbox hb; refine E4b HB.1 hg hbox hb ?_; clear HB; intro HB BK240 GW240 GE240; clear hb hbox hg; obtain ⟨hcz16_0, hcz16_1, hfz16_0, hfz16_1⟩ := cz2 BK240.1))
   go_ret
   exact ⟨RF, BL HB.1⟩
 have c14b0 := beq_eq_false_iff_ne.mpr c14
 have c14b1 := bne_iff_ne.mpr c14
 replace H := ifQ H; rcases H with ⟨c17, H⟩ | ⟨c17, H⟩
 · have c17b0 := beq_iff_eq.mpr c17
   have c17b1 := bne_eq_false_iff_eq.mpr c17
   clear c17
   obtain rfl := Option.some.inj H
   go_enter Try.func34, Try.ntmps34
   go_wp2_with (first | ((with_reducible refine gate_dst (N := 1) rfl ?_); refine boxE (cs := #[.int .i64 a0_0, .int .i64 a0_1]) (t := 45) ?_; intro gb240 hg w18 hbox hb; refine E4b HB.1 hg hbox hb ?_; clear HB; intro HB BK240 GW240 GE240; clear hb hbox hg; obtain ⟨hcz19_0, hcz19_1, hfz19_0, hfz19_1⟩ := cz2 BK240.1))
   go_ret
   exact ⟨RF, BL HB.1⟩
 have c17b0 := beq_eq_false_iff_ne.mpr c17
 have c17b1 := bne_iff_ne.mpr c17
 obtain rfl := Option.some.inj H
 go_enter Try.func34, Try.ntmps34
 go_wp2_with (first | ((with_reducible refine gate_dst (N := 1) rfl ?_); refine boxE (cs := #[.int .i64 a0_0, .int .i64 a0_1]) (t := 45) ?_; intro gb240 hg w20 hbox hb; refine E4b HB.1 hg hbox hb ?_; clear HB; intro HB BK240 GW240 GE240; clear hb hbox hg; obtain ⟨hcz21_0, hcz21_1, hfz21_0, hfz21_1⟩ := cz2 BK240.1))
 go_ret
 exact ⟨RF, BL HB.1⟩
/-! ### impl_validCells: function 28 -/
open Kd
def impl_validCells.l0 : Nat -> List (S45) -> Int -> Int -> Option (Bool)
 | 0, _, _, _ => none
 | k + 1, x8, x9, x10 => if x10 < x9 then (if 0 <= x10 then (if x10 < (x8.length : Int) then ((impl_IsCell.f ((rd_T45 x8 x10).f0) ((rd_T45 x8 x10).f1)).bind fun t243 => (if t243 = true then (impl_validCells.l0 k x8 x9 (wrap64 (x10 + 1))) else (some false))) else (none)) else (none)) else (some true)
def impl_validCells.f (k : Nat) (l0 : List (S45)) : Option (Bool) := if (l0.length : Int) > 90 then (some false) else (impl_validCells.l0 k l0 (l0.length : Int) 0)
theorem impl_validCells.mono_l : ∀ k, (∀ y0 y1 y2, LeO (impl_validCells.l0 k y0 y1 y2) (impl_validCells.l0 (k + 1) y0 y1 y2))
 | 0 => fun _ _ _ r h => by simp [impl_validCells.l0] at h
 | k + 1 => by
  have ih0 := impl_validCells.mono_l k
  intros
  first | unfold impl_validCells.l0
  exact LM1 ih0
theorem impl_validCells.mono : ∀ a0 k, LeO (impl_validCells.f k a0) (impl_validCells.f (k + 1) a0) := by
 intro a0 k
 have ih0 := impl_validCells.mono_l k
 unfold impl_validCells.f
 exact LM1 ih0
set_option maxHeartbeats 8000000 in
set_option maxRecDepth 100000 in
theorem impl_validCells.calls (k : Nat) (A0 : Option Addr) (c0 : Nat) (l0 : List (S45)) (r : Bool) (w : World) (hr0 : Kd.C k45 w A0 l0.length l0) (hc0 : l0.length <= c0) (h : impl_validCells.f k l0 = some r) :
 Calls Try.prog 28 #[.slice A0 l0.length c0] w fun e w' => e = .returned (.bool r) /\ Below w.heap.size w w' := by
 have hu45 := Try.underlying45
 have HR0 := Aside0.mk hr0
 have HC0 := Aside0.mk hc0
 clear hr0 hc0
 have HB := Aside0.mk (Below.refl w.heap.size w)
 have H := h
 clear h
 unfold impl_validCells.f at H
 replace H := ifQ H; rcases H with ⟨c2, H⟩ | ⟨c2, H⟩
 · have c2b0 : decide (90 < (l0.length : Int)) = true := decide_eq_true c2
   have c2b1 : decide (90 < l0.length) = true := decide_eq_true (by omega)
   clear c2
   obtain rfl := Option.some.inj H
   go_enter Try.func28, Try.ntmps28
   go_wp2
   go_ret
   exact ⟨RF, BL HB.1⟩
 have c2b0 : decide (90 < (l0.length : Int)) = false := decide_eq_false c2
 have c2b1 : decide (90 < l0.length) = false := decide_eq_false (by omega)
 clear c2
 have H' := Aside0.mk H
 clear H
 go_enter Try.func28, Try.ntmps28
 go_wp2
 go_loopg [10] k (fun kq v10 w' => ∃ (x10_1 : Int), v10 = .int .i64 x10_1 /\ Aside0 (impl_validCells.l0 kq l0 (l0.length : Int) x10_1 = some r) /\ Aside0 (kq <= k) /\ Aside0 (Below w.heap.size w w'))
 case atStart => exact ⟨(0), RG, H', ⟨Nat.le_refl _⟩, ⟨BL HB.1⟩⟩
 clear H'
 clear c2b0 c2b1
 obtain ⟨x10_1, rfl, HA, HK1, HB⟩ := hrel
 cases gk with
 | zero => exact absurd HA.1 (by simp [impl_validCells.l0])
 | succ k1 => ?_
 have H := HA.1
 clear HA
 simp only [impl_validCells.l0] at H
 replace H := ifB H; rcases H with ⟨c3b0, H⟩ | ⟨c3b0, H⟩
 · replace H := ifN H; obtain ⟨c4b0, H⟩ := H
   replace H := ifN H; obtain ⟨c5b0, H⟩ := H
   replace H := bindA H; obtain ⟨t243, A6, H⟩ := H
   replace H := ifX H; rcases H with ⟨rfl, H⟩ | ⟨rfl, H⟩
   · have H' := Aside0.mk H
     clear H
     have p241 : 0 <= (x10_1 : Int) := OD
     have q241 : x10_1 < (l0.length : Int) := OD
     obtain ⟨ad241, e241, hx241_0, hx241_1⟩ := at_T45 HR0.1 x10_1 p241 q241
     cases e241
     replace hx241_0 := (HB.1.cell (World.block_lt_of_cell? w _ hx241_0)).trans hx241_0
     replace hx241_1 := (HB.1.cell (World.block_lt_of_cell? w _ hx241_1)).trans hx241_1
     replace p241 := eq_true p241
     replace q241 := eq_true q241
     go_wp2_with (first | ((with_reducible refine gate_dst (N := 4) rfl ?_); refine boxE (cs := #[.int .i64 0, .int .i64 0]) (t := 45) ?_; intro gb242 hg w8 hbox hb; refine E4b HB.1 hg hbox hb ?_; clear HB; intro HB BK242 GW242 GE242; clear hb hbox hg; obtain ⟨hcz9_0, hcz9_1, hfz9_0, hfz9_1⟩ := cz2 BK242.1) | ((with_reducible refine gate_callee (f := 34) rfl ?_); refine goesM (N := (some 15)) #[.agg #[.int .i64 ((rd_T45 l0 x10_1).f0), .int .i64 ((rd_T45 l0 x10_1).f1)]] Try.func34 ?_; (with_reducible refine (impl_IsCell.calls ((rd_T45 l0 x10_1).f0) ((rd_T45 l0 x10_1).f1) true _ A6.1).mono ?_); rintro e w10 ⟨rfl, hb⟩; refine ⟨_, rfl, ?_⟩; refine E2 (blk_below (g := gb242) (o := .cells #[.int .i64 ((rd_T45 l0 x10_1).f0), .int .i64 ((rd_T45 l0 x10_1).f1)] 45 (0, 0)) (PF0 BK242.1) hb) (bS HB.1 hb) ?_; clear BK242 HB; intro BK242 HB; (try clear hb)))
     go_roundg k1
     case measure => have := HK1.1; omega
     case rel => exact ⟨(wrap64 (x10_1 + 1)), RG, H', ⟨by have := HK1.1; omega⟩, ⟨BL HB.1⟩⟩
   obtain rfl := Option.some.inj H
   have p241 : 0 <= (x10_1 : Int) := OD
   have q241 : x10_1 < (l0.length : Int) := OD
   obtain ⟨ad241, e241, hx241_0, hx241_1⟩ := at_T45 HR0.1 x10_1 p241 q241
   cases e241
   replace hx241_0 := (HB.1.cell (World.block_lt_of_cell? w _ hx241_0)).trans hx241_0
   replace hx241_1 := (HB.1.cell (World.block_lt_of_cell? w _ hx241_1)).trans hx241_1
   replace p241 := eq_true p241
   replace q241 := eq_true q241
   go_wp2_with (first | ((with_reducible refine gate_dst (N := 4) rfl ?_); refine boxE (cs := #[.int .i64 0, .int .i64 0]) (t := 45) ?_; intro gb242 hg w11 hbox hb; refine E4b HB.1 hg hbox hb ?_; clear HB; intro HB BK242 GW242 GE242; clear hb hbox hg; obtain ⟨hcz12_0, hcz12_1, hfz12_0, hfz12_1⟩ := cz2 BK242.1) | ((with_reducible refine gate_callee (f := 34) rfl ?_); refine goesM (N := (some 15)) #[.agg #[.int .i64 ((rd_T45 l0 x10_1).f0), .int .i64 ((rd_T45 l0 x10_1).f1)]] Try.func34 ?_; (with_reducible refine (impl_IsCell.calls ((rd_T45 l0 x10_1).f0) ((rd_T45 l0 x10_1).f1) false _ A6.1).mono ?_); rintro e w13 ⟨rfl, hb⟩; refine ⟨_, rfl, ?_⟩; refine E2 (blk_below (g := gb242) (o := .cells #[.int .i64 ((rd_T45 l0 x10_1).f0), .int .i64 ((rd_T45 l0 x10_1).f1)] 45 (0, 0)) (PF0 BK242.1) hb) (bS HB.1 hb) ?_; clear BK242 HB; intro BK242 HB; (try clear hb)))
   go_ret
   exact ⟨RF, BL HB.1⟩
 obtain rfl := Option.some.inj H
 go_wp2
 go_ret
 exact ⟨RF, BL HB.1⟩
/-! ### impl_IsBoard: function 18 -/
open Kd
def impl_IsBoard.f (k : Nat) (a0_0 : Int) (a0_1 : Int) (l0_2 : List (S45)) : Option (Bool) := if a0_0 ≥ 1 then (if a0_0 <= 10 then (if a0_1 ≥ 1 then (if a0_1 <= 9 then (if (l0_2.length : Int) = (wrap64 (a0_0 * a0_1)) then ((impl_validCells.f k l0_2).bind fun t245 => (some t245)) else (some false)) else (some false)) else (some false)) else (some false)) else (some false)
theorem impl_IsBoard.mono : ∀ a0 a1 a2 k, LeO (impl_IsBoard.f k a0 a1 a2) (impl_IsBoard.f (k + 1) a0 a1 a2) := by
 intro a0 a1 a2 k
 unfold impl_IsBoard.f
 repeat' first
  | (with_reducible exact impl_validCells.mono _ _)
  | (with_reducible exact LeO.refl _)
  | (with_reducible exact LeO.none _)
  | (with_reducible refine LeO.ite ?_ ?_)
  | (with_reducible refine LeO.bind ?_ (fun _ => ?_))
  | exact impl_validCells.mono _ _
  | exact LeO.none _
  | refine LeO.ite ?_ ?_
  | refine LeO.bind ?_ (fun _ => ?_)
set_option maxHeartbeats 8000000 in
set_option maxRecDepth 100000 in
theorem impl_IsBoard.calls (k : Nat) (a0_0 : Int) (a0_1 : Int) (A0_2 : Option Addr) (c0_2 : Nat) (l0_2 : List (S45)) (r : Bool) (w : World) (hr0_2 : Kd.C k45 w A0_2 l0_2.length l0_2) (hc0_2 : l0_2.length <= c0_2) (h : impl_IsBoard.f k a0_0 a0_1 l0_2 = some r) :
 Calls Try.prog 18 #[.agg #[.int .i64 a0_0, .int .i64 a0_1, .slice A0_2 l0_2.length c0_2]] w fun e w' => e = .returned (.bool r) /\ Below w.heap.size w w' := by
 have hu28 := Try.underlying28
 have HR0_2 := Aside0.mk hr0_2
 have HC0_2 := Aside0.mk hc0_2
 clear hr0_2 hc0_2
 have HB := Aside0.mk (Below.refl w.heap.size w)
 have H := h
 clear h
 unfold impl_IsBoard.f at H
 replace H := ifQ H; rcases H with ⟨c2, H⟩ | ⟨c2, H⟩
 · have c2b0 : decide (1 <= a0_0) = true := decide_eq_true c2
   clear c2
   replace H := ifB H; rcases H with ⟨c3b0, H⟩ | ⟨c3b0, H⟩
   · replace H := ifQ H; rcases H with ⟨c4, H⟩ | ⟨c4, H⟩
     · have c4b0 : decide (1 <= a0_1) = true := decide_eq_true c4
       clear c4
       replace H := ifB H; rcases H with ⟨c5b0, H⟩ | ⟨c5b0, H⟩
       · replace H := ifQ H; rcases H with ⟨c6, H⟩ | ⟨c6, H⟩
         · have c6b0 := beq_iff_eq.mpr c6
           have c6b1 := bne_eq_false_iff_eq.mpr c6
           clear c6
           replace H := bindA H; obtain ⟨t245, A7, H⟩ := H
           obtain rfl := Option.some.inj H
           go_enter Try.func18, Try.ntmps18
           go_wp2_with (first | ((with_reducible refine gate_dst (N := 1) rfl ?_); (try (refine gate_guard (by rfl) ?_; dsimp only)); refine boxE (cs := #[.int .i64 a0_0, .int .i64 a0_1, .slice A0_2 l0_2.length c0_2]) (t := 28) ?_; intro gb244 hg w8 hbox hb; refine E4b HB.1 hg hbox hb ?_; clear HB; intro HB BK244 GW244 GE244; clear hb hbox hg; obtain ⟨hcz9_0, hcz9_1, hcz9_2, hfz9_0, hfz9_1, hfz9_2⟩ := cz3 BK244.1) | (go_at_call 28; (with_reducible refine (impl_validCells.calls k _ _ l0_2 t245 _ ?side1 ?side2 A7.1).mono ?_); (case side1 => exact CB (C_below HR0_2.1 HB.1)); (case side2 => exact HC0_2.1); rintro e w10 ⟨rfl, hb⟩; refine E2 (bB BK244.1 hb) (bS HB.1 hb) ?_; clear BK244 HB; intro BK244 HB; (try clear hb)))
           go_ret
           exact ⟨RF, BL HB.1⟩
         have c6b0 := beq_eq_false_iff_ne.mpr c6
         have c6b1 := bne_iff_ne.mpr c6
         obtain rfl := Option.some.inj H
         go_enter Try.func18, Try.ntmps18
         go_wp2_with (first | ((with_reducible refine gate_dst (N := 1) rfl ?_); (try (refine gate_guard (by rfl) ?_; dsimp only)); refine boxE (cs := #[.int .i64 a0_0, .int .i64 a0_1, .slice A0_2 l0_2.length c0_2]) (t := 28) ?_; intro gb244 hg w11 hbox hb; refine E4b HB.1 hg hbox hb ?_; clear HB; intro HB BK244 GW244 GE244; clear hb hbox hg; obtain ⟨hcz12_0, hcz12_1, hcz12_2, hfz12_0, hfz12_1, hfz12_2⟩ := cz3 BK244.1))
         go_ret
         exact ⟨RF, BL HB.1⟩
       obtain rfl := Option.some.inj H
       go_enter Try.func18, Try.ntmps18
       go_wp2_with (first | ((with_reducible refine gate_dst (N := 1) rfl ?_); (try (refine gate_guard (by rfl) ?_; dsimp only)); refine boxE (cs := #[.int .i64 a0_0, .int .i64 a0_1, .slice A0_2 l0_2.length c0_2]) (t := 28) ?_; intro gb244 hg w13 hbox hb; refine E4b HB.1 hg hbox hb ?_; clear HB; intro HB BK244 GW244 GE244; clear hb hbox hg; obtain ⟨hcz14_0, hcz14_1, hcz14_2, hfz14_0, hfz14_1, hfz14_2⟩ := cz3 BK244.1))
       go_ret
       exact ⟨RF, BL HB.1⟩
     have c4b0 : decide (1 <= a0_1) = false := decide_eq_false c4
     clear c4
     obtain rfl := Option.some.inj H
     go_enter Try.func18, Try.ntmps18
     go_wp2_with (first | ((with_reducible refine gate_dst (N := 1) rfl ?_); (try (refine gate_guard (by rfl) ?_; dsimp only)); refine boxE (cs := #[.int .i64 a0_0, .int .i64 a0_1, .slice A0_2 l0_2.length c0_2]) (t := 28) ?_; intro gb244 hg w15 hbox hb; refine E4b HB.1 hg hbox hb ?_; clear HB; intro HB BK244 GW244 GE244; clear hb hbox hg; obtain ⟨hcz16_0, hcz16_1, hcz16_2, hfz16_0, hfz16_1, hfz16_2⟩ := cz3 BK244.1))
     go_ret
     exact ⟨RF, BL HB.1⟩
   obtain rfl := Option.some.inj H
   go_enter Try.func18, Try.ntmps18
   go_wp2_with (first | ((with_reducible refine gate_dst (N := 1) rfl ?_); (try (refine gate_guard (by rfl) ?_; dsimp only)); refine boxE (cs := #[.int .i64 a0_0, .int .i64 a0_1, .slice A0_2 l0_2.length c0_2]) (t := 28) ?_; intro gb244 hg w17 hbox hb; refine E4b HB.1 hg hbox hb ?_; clear HB; intro HB BK244 GW244 GE244; clear hb hbox hg; obtain ⟨hcz18_0, hcz18_1, hcz18_2, hfz18_0, hfz18_1, hfz18_2⟩ := cz3 BK244.1))
   go_ret
   exact ⟨RF, BL HB.1⟩
 have c2b0 : decide (1 <= a0_0) = false := decide_eq_false c2
 clear c2
 obtain rfl := Option.some.inj H
 go_enter Try.func18, Try.ntmps18
 go_wp2_with (first | ((with_reducible refine gate_dst (N := 1) rfl ?_); (try (refine gate_guard (by rfl) ?_; dsimp only)); refine boxE (cs := #[.int .i64 a0_0, .int .i64 a0_1, .slice A0_2 l0_2.length c0_2]) (t := 28) ?_; intro gb244 hg w19 hbox hb; refine E4b HB.1 hg hbox hb ?_; clear HB; intro HB BK244 GW244 GE244; clear hb hbox hg; obtain ⟨hcz20_0, hcz20_1, hcz20_2, hfz20_0, hfz20_1, hfz20_2⟩ := cz3 BK244.1))
 go_ret
 exact ⟨RF, BL HB.1⟩
/-! ### impl_isGeared: function 35 -/
open Kd
def impl_isGeared.f (a0_0 : Int) (a0_1 : Int) : Option (Bool) := if a0_0 = 6 then (some true) else (some (a0_0 == 7))
set_option maxHeartbeats 8000000 in
set_option maxRecDepth 100000 in
theorem impl_isGeared.calls (a0_0 : Int) (a0_1 : Int) (r : Bool) (w : World) (h : impl_isGeared.f a0_0 a0_1 = some r) :
 Calls Try.prog 35 #[.agg #[.int .i64 a0_0, .int .i64 a0_1]] w fun e w' => e = .returned (.bool r) /\ Below w.heap.size w w' := by
 have hu45 := Try.underlying45
 have HB := Aside0.mk (Below.refl w.heap.size w)
 have H := h
 clear h
 unfold impl_isGeared.f at H
 replace H := ifQ H; rcases H with ⟨c2, H⟩ | ⟨c2, H⟩
 · have c2b0 := beq_iff_eq.mpr c2
   have c2b1 := bne_eq_false_iff_eq.mpr c2
   clear c2
   obtain rfl := Option.some.inj H
   go_enter Try.func35, Try.ntmps35
   go_wp2_with (first | ((with_reducible refine gate_dst (N := 1) rfl ?_); refine boxE (cs := #[.int .i64 a0_0, .int .i64 a0_1]) (t := 45) ?_; intro gb246 hg w3 hbox hb; refine E4b HB.1 hg hbox hb ?_; clear HB; intro HB BK246 GW246 GE246; clear hb hbox hg; obtain ⟨hcz4_0, hcz4_1, hfz4_0, hfz4_1⟩ := cz2 BK246.1))
   go_ret
   exact ⟨RF, BL HB.1⟩
 have c2b0 := beq_eq_false_iff_ne.mpr c2
 have c2b1 := bne_iff_ne.mpr c2
 obtain rfl := Option.some.inj H
 go_enter Try.func35, Try.ntmps35
 go_wp2_with (first | ((with_reducible refine gate_dst (N := 1) rfl ?_); refine boxE (cs := #[.int .i64 a0_0, .int .i64 a0_1]) (t := 45) ?_; intro gb246 hg w5 hbox hb; refine E4b HB.1 hg hbox hb ?_; clear HB; intro HB BK246 GW246 GE246; clear hb hbox hg; obtain ⟨hcz6_0, hcz6_1, hfz6_0, hfz6_1⟩ := cz2 BK246.1))
 go_ret
 exact ⟨RF, BL HB.1⟩
/-! ### impl_besideOf: function 36 -/
open Kd
mutual
def impl_besideOf.j0 : Nat -> Int -> List Int -> Int -> Int -> Int -> Int -> List (S45) -> Option (List Int)
 | 0, _, _, _, _, _, _, _ => none
 | k + 1, x1, x5, x6, x7, x248000, x248001, x248002 => if x7 > 0 then (if x5.length < 17592186044416 then (impl_besideOf.j1 k x1 (x5 ++ [wrap64 (x1 - 1)]) x6 x7 x248000 x248001 x248002) else (none)) else (impl_besideOf.j1 k x1 x5 x6 x7 x248000 x248001 x248002)
def impl_besideOf.j1 : Nat -> Int -> List Int -> Int -> Int -> Int -> Int -> List (S45) -> Option (List Int)
 | 0, _, _, _, _, _, _, _ => none
 | k + 1, x1, x5, x6, x7, x248000, x248001, x248002 => if (wrap64 (x7 + 1)) < x248001 then (if x5.length < 17592186044416 then ((some (x5 ++ [wrap64 (x1 + 1)] : List Int)).bind fun y257 => (if (wrap64 (x6 + 1)) < x248000 then (if y257.length < 17592186044416 then (some (y257 ++ [wrap64 (x1 + x248001)])) else (none)) else (some y257))) else (none)) else (if (wrap64 (x6 + 1)) < x248000 then (if x5.length < 17592186044416 then (some (x5 ++ [wrap64 (x1 + x248001)])) else (none)) else (some x5))
end
def impl_besideOf.f (k : Nat) (a0_0 : Int) (a0_1 : Int) (l0_2 : List (S45)) (a1 : Int) : Option (List Int) := (some (([] : List Int) : List Int)).bind fun y248 => (if a0_1 = 0 then (none) else (if (wrap64 (Int.tdiv a1 a0_1)) > 0 then (if y248.length < 17592186044416 then (impl_besideOf.j0 k a1 (y248 ++ [wrap64 (a1 - a0_1)]) (wrap64 (Int.tdiv a1 a0_1)) (Int.tmod a1 a0_1) a0_0 a0_1 l0_2) else (none)) else (impl_besideOf.j0 k a1 y248 (wrap64 (Int.tdiv a1 a0_1)) (Int.tmod a1 a0_1) a0_0 a0_1 l0_2)))
theorem impl_besideOf.mono_l : ∀ k, (∀ y0 y1 y2 y3 y4 y5 y6, LeO (impl_besideOf.j0 k y0 y1 y2 y3 y4 y5 y6) (impl_besideOf.j0 (k + 1) y0 y1 y2 y3 y4 y5 y6)) /\ (∀ y0 y1 y2 y3 y4 y5 y6, LeO (impl_besideOf.j1 k y0 y1 y2 y3 y4 y5 y6) (impl_besideOf.j1 (k + 1) y0 y1 y2 y3 y4 y5 y6))
 | 0 => by refine ⟨?_, ?_⟩ <;> (intros; intro r h; first | (simp [impl_besideOf.j0] at h; done) | (simp [impl_besideOf.j1] at h; done))
 | k + 1 => by
  obtain ⟨ih0, ih1⟩ := impl_besideOf.mono_l k
  refine ⟨?_, ?_⟩ <;> (
   intros
   first | unfold impl_besideOf.j0 | unfold impl_besideOf.j1
   exact LM2 ih0 ih1)
theorem impl_besideOf.mono : ∀ a0 a1 a2 a3 k, LeO (impl_besideOf.f k a0 a1 a2 a3) (impl_besideOf.f (k + 1) a0 a1 a2 a3) := by
 intro a0 a1 a2 a3 k
 obtain ⟨ih0, ih1⟩ := impl_besideOf.mono_l k
 unfold impl_besideOf.f
 exact LM2 ih0 ih1
set_option maxHeartbeats 8000000 in
set_option maxRecDepth 100000 in
theorem impl_besideOf.calls (k : Nat) (a0_0 : Int) (a0_1 : Int) (A0_2 : Option Addr) (c0_2 : Nat) (l0_2 : List (S45)) (a1 : Int) (r : List Int) (w : World) (hr0_2 : Kd.C k45 w A0_2 l0_2.length l0_2) (hc0_2 : l0_2.length <= c0_2) (h : impl_besideOf.f k a0_0 a0_1 l0_2 a1 = some r) :
 Calls Try.prog 36 #[.agg #[.int .i64 a0_0, .int .i64 a0_1, .slice A0_2 l0_2.length c0_2], .int .i64 a1] w fun e w' => ∃ v0_ : Value, e = .returned (v0_) /\ Kd.R (Kd.int .i64) 3 w' w.heap.size (fun _ => True) v0_ r /\ Below w.heap.size w w' := by
 have hu28 := Try.underlying28
 have HR0_2 := Aside0.mk hr0_2
 have HC0_2 := Aside0.mk hc0_2
 clear hr0_2 hc0_2
 have HB := Aside0.mk (Below.refl w.heap.size w)
 have H := h
 clear h
 unfold impl_besideOf.f at H
 replace H := nameB H; obtain ⟨y248, Ny248, H⟩ := H
 replace H := ifQ H; rcases H with ⟨c3, H⟩ | ⟨c3, H⟩
 · exact absurd H (by simp)
 have c3b0 := beq_eq_false_iff_ne.mpr c3
 have c3b1 := bne_iff_ne.mpr c3
 have HC4 := Aside0.mk H
 clear H
 go_enter Try.func36, Try.ntmps36
 go_upto_if 18 with (first | ((with_reducible refine gate_dst (N := 2) rfl ?_); refine boxE (cs := #[.int .i64 a0_0, .int .i64 a0_1, .slice A0_2 l0_2.length c0_2]) (t := 28) ?_; intro gb247 hg w5 hbox hb; refine E4b HB.1 hg hbox hb ?_; clear HB; intro HB BK247 GW247 GE247; clear hb hbox hg) | ((with_reducible refine gate_dst (N := 8) rfl ?_); refine R_lit (Kd.int .i64) _ 3 ?hg (N := 8) ?hd (xs := ([] : List Int)) (inner := []) (ok := fun _ => True) (okp := fun _ => True) ?hr ?hp (fun _ hk => hk) trivial (Below.refl _ _) (Nat.le_refl _) (by simp) ?_; (case hd => rfl); (case hg => rfl); (case hr => first | (go_simp; done) | (go_simp; rfl)); (case hp => exact (Reps.none _ _)); intro v249 w6 ho7 hb hg_ hnew_; clear hg_ hnew_; (first | rw [<- Ny248.1] at ho7 | (simp only [Int.reduceToNat] at ho7; rw [<- Ny248.1] at ho7)); refine E3 (R_lower ho7 (bZ HB.1)) (bB BK247.1 hb) (bS HB.1 hb) ?_; clear BK247 HB; intro HO250 BK247 HB; clear hb ho7; obtain ⟨hcz8_0, hcz8_1, hcz8_2, hfz8_0, hfz8_1, hfz8_2⟩ := cz3 BK247.1))
 repeat (go_quiet (first | ((with_reducible refine gate_dst (N := 2) rfl ?_); refine boxE (cs := #[.int .i64 a0_0, .int .i64 a0_1, .slice A0_2 l0_2.length c0_2]) (t := 28) ?_; intro gb247 hg w5 hbox hb; refine E4b HB.1 hg hbox hb ?_; clear HB; intro HB BK247 GW247 GE247; clear hb hbox hg) | ((with_reducible refine gate_dst (N := 8) rfl ?_); refine R_lit (Kd.int .i64) _ 3 ?hg (N := 8) ?hd (xs := ([] : List Int)) (inner := []) (ok := fun _ => True) (okp := fun _ => True) ?hr ?hp (fun _ hk => hk) trivial (Below.refl _ _) (Nat.le_refl _) (by simp) ?_; (case hd => rfl); (case hg => rfl); (case hr => first | (go_simp; done) | (go_simp; rfl)); (case hp => exact (Reps.none _ _)); intro v249 w6 ho7 hb hg_ hnew_; clear hg_ hnew_; (first | rw [<- Ny248.1] at ho7 | (simp only [Int.reduceToNat] at ho7; rw [<- Ny248.1] at ho7)); refine E3 (R_lower ho7 (bZ HB.1)) (bB BK247.1 hb) (bS HB.1 hb) ?_; clear BK247 HB; intro HO250 BK247 HB; clear hb ho7; obtain ⟨hcz8_0, hcz8_1, hcz8_2, hfz8_0, hfz8_1, hfz8_2⟩ := cz3 BK247.1)); go_upto_if 18 with (first | ((with_reducible refine gate_dst (N := 2) rfl ?_); refine boxE (cs := #[.int .i64 a0_0, .int .i64 a0_1, .slice A0_2 l0_2.length c0_2]) (t := 28) ?_; intro gb247 hg w5 hbox hb; refine E4b HB.1 hg hbox hb ?_; clear HB; intro HB BK247 GW247 GE247; clear hb hbox hg) | ((with_reducible refine gate_dst (N := 8) rfl ?_); refine R_lit (Kd.int .i64) _ 3 ?hg (N := 8) ?hd (xs := ([] : List Int)) (inner := []) (ok := fun _ => True) (okp := fun _ => True) ?hr ?hp (fun _ hk => hk) trivial (Below.refl _ _) (Nat.le_refl _) (by simp) ?_; (case hd => rfl); (case hg => rfl); (case hr => first | (go_simp; done) | (go_simp; rfl)); (case hp => exact (Reps.none _ _)); intro v249 w6 ho7 hb hg_ hnew_; clear hg_ hnew_; (first | rw [<- Ny248.1] at ho7 | (simp only [Int.reduceToNat] at ho7; rw [<- Ny248.1] at ho7)); refine E3 (R_lower ho7 (bZ HB.1)) (bB BK247.1 hb) (bS HB.1 hb) ?_; clear BK247 HB; intro HO250 BK247 HB; clear hb ho7; obtain ⟨hcz8_0, hcz8_1, hcz8_2, hfz8_0, hfz8_1, hfz8_2⟩ := cz3 BK247.1)))
 (try simp only [Act.put, List.setIfInBounds_toArray, List.set_cons_zero, List.set_cons_succ])
 go_cut [5] (fun v5 wc => ∃ (kq : Nat) (x5_3 : List Int), Aside0 (impl_besideOf.j0 kq a1 x5_3 (wrap64 (Int.tdiv a1 a0_1)) (Int.tmod a1 a0_1) a0_0 a0_1 l0_2 = some r) /\ Aside0 (kq <= k) /\ Aside0 (Kd.R (Kd.int .i64) 3 wc w.heap.size (fun _ => True) v5 x5_3) /\ Aside0 (wc.heap[gb247]? = some (.cells #[.int .i64 a0_0, .int .i64 a0_1, (.slice A0_2 l0_2.length c0_2)] 28 (0, 0))) /\ Aside0 (Below w.heap.size w wc))
 case first =>
  have H := HC4.1
  clear HC4
  replace H := ifQ H; rcases H with ⟨c9, H⟩ | ⟨c9, H⟩
  · have c9b0 : decide (0 < (wrap64 (Int.tdiv a1 a0_1))) = true := decide_eq_true c9
    clear c9
    (first | rw [c9b0] | (simp only [i64_w, i32_w]; rw [c9b0]) | skip)
    replace H := ifP H; obtain ⟨c10, H⟩ := H
    have LMc10 := Aside0.mk c10
    clear c10
    generalize hy251 : ((y248 ++ [wrap64 (a1 - a0_1)]) : List Int) = y251 at H
    have Ny251 := Aside0.mk hy251.symm; clear hy251
    have H' := Aside0.mk H
    clear H
    obtain ⟨hcz11_0, hcz11_1, hcz11_2, hfz11_0, hfz11_1, hfz11_2⟩ := cz3 BK247.1
    go_wp2_with (first | ((with_reducible refine gate_builtin (b := .append) (xs := #[.tmp 19, .tmp 24]) rfl ?_); at_builtin; refine R_append (Kd.int .i64) (w0 := w) w.heap.size rfl (.tmp 19) (.tmp 24) 42 3 (.int .i64 0) 8 rfl Try.underlying42 info3 rfl (by decide) (by omega) v249 y248 (wrap64 (a1 - a0_1)) [.int .i64 (wrap64 (a1 - a0_1))] (fun _ => True) (fun _ => False) rfl rfl ?aP (fun _ hk => hk.elim) ?aF ?aO ?aB ?aS ?aL ?_; (case aP => exact rfl); (case aB => exact (BL HB.1)); (case aF => exact (fun _ _ => trivial)); (case aO => exact (PR HO250.1)); (case aS => exact (bZ HB.1)); (case aL => have := LMc10.1; omega); intro v252 w12 ho hb hg hat; rw [<- Ny251.1] at ho; refine E3 (bG BK247.1 hg (R_ne HO250.1 BK247.1 (by decide))) (hb) (ho) ?_; clear BK247 HB HO250; intro BK247 HB HO253; clear ho hb hg hat))
    repeat (go_quiet (first | ((with_reducible refine gate_builtin (b := .append) (xs := #[.tmp 19, .tmp 24]) rfl ?_); at_builtin; refine R_append (Kd.int .i64) (w0 := w) w.heap.size rfl (.tmp 19) (.tmp 24) 42 3 (.int .i64 0) 8 rfl Try.underlying42 info3 rfl (by decide) (by omega) v249 y248 (wrap64 (a1 - a0_1)) [.int .i64 (wrap64 (a1 - a0_1))] (fun _ => True) (fun _ => False) rfl rfl ?aP (fun _ hk => hk.elim) ?aF ?aO ?aB ?aS ?aL ?_; (case aP => exact rfl); (case aB => exact (BL HB.1)); (case aF => exact (fun _ _ => trivial)); (case aO => exact (PR HO250.1)); (case aS => exact (bZ HB.1)); (case aL => have := LMc10.1; omega); intro v252 w12 ho hb hg hat; rw [<- Ny251.1] at ho; refine E3 (bG BK247.1 hg (R_ne HO250.1 BK247.1 (by decide))) (hb) (ho) ?_; clear BK247 HB HO250; intro BK247 HB HO253; clear ho hb hg hat)); try go_wp2_with (first | ((with_reducible refine gate_builtin (b := .append) (xs := #[.tmp 19, .tmp 24]) rfl ?_); at_builtin; refine R_append (Kd.int .i64) (w0 := w) w.heap.size rfl (.tmp 19) (.tmp 24) 42 3 (.int .i64 0) 8 rfl Try.underlying42 info3 rfl (by decide) (by omega) v249 y248 (wrap64 (a1 - a0_1)) [.int .i64 (wrap64 (a1 - a0_1))] (fun _ => True) (fun _ => False) rfl rfl ?aP (fun _ hk => hk.elim) ?aF ?aO ?aB ?aS ?aL ?_; (case aP => exact rfl); (case aB => exact (BL HB.1)); (case aF => exact (fun _ _ => trivial)); (case aO => exact (PR HO250.1)); (case aS => exact (bZ HB.1)); (case aL => have := LMc10.1; omega); intro v252 w12 ho hb hg hat; rw [<- Ny251.1] at ho; refine E3 (bG BK247.1 hg (R_ne HO250.1 BK247.1 (by decide))) (hb) (ho) ?_; clear BK247 HB HO250; intro BK247 HB HO253; clear ho hb hg hat)))
    go_meet
    case rel => exact ⟨_, (y251), H', ⟨by first | omega | exact Nat.le_refl _⟩, ⟨PR HO253.1⟩, ⟨PB BK247.1⟩, ⟨BL HB.1⟩⟩
  have c9b0 : decide (0 < (wrap64 (Int.tdiv a1 a0_1))) = false := decide_eq_false c9
  clear c9
  (first | rw [c9b0] | (simp only [i64_w, i32_w]; rw [c9b0]) | skip)
  have H' := Aside0.mk H
  clear H
  go_wp2
  repeat (go_quiet (fail); try go_wp2)
  go_meet
  case rel => exact ⟨_, (y248), H', ⟨by first | omega | exact Nat.le_refl _⟩, ⟨PR HO250.1⟩, ⟨PB BK247.1⟩, ⟨BL HB.1⟩⟩
 clear HC4
 try clear c3; clear c3b0 c3b1 hcz8_0 hcz8_1 hcz8_2 hfz8_0 hfz8_1 hfz8_2
 obtain ⟨kq, x5_3, HA, HJ3, HO_5, BK247, HB⟩ := hcut
 cases kq with
 | zero => exact absurd HA.1 (by simp [impl_besideOf.j0])
 | succ kj3 => ?_
 have H := HA.1
 clear HA
 simp only [impl_besideOf.j0] at H
 have HC13 := Aside0.mk H
 clear H
 go_upto_if 27 with (fail)
 repeat (go_quiet (fail); go_upto_if 27 with (fail))
 go_cut [5] (fun v5 wc => ∃ (kq : Nat) (x5_12 : List Int), Aside0 (impl_besideOf.j1 kq a1 x5_12 (wrap64 (Int.tdiv a1 a0_1)) (Int.tmod a1 a0_1) a0_0 a0_1 l0_2 = some r) /\ Aside0 (kq <= kj3) /\ Aside0 (Kd.R (Kd.int .i64) 3 wc w.heap.size (fun _ => True) v5 x5_12) /\ Aside0 (wc.heap[gb247]? = some (.cells #[.int .i64 a0_0, .int .i64 a0_1, (.slice A0_2 l0_2.length c0_2)] 28 (0, 0))) /\ Aside0 (Below w.heap.size w wc))
 case first =>
  have H := HC13.1
  clear HC13
  replace H := ifQ H; rcases H with ⟨c14, H⟩ | ⟨c14, H⟩
  · have c14b0 : decide (0 < (Int.tmod a1 a0_1)) = true := decide_eq_true c14
    clear c14
    (first | rw [c14b0] | (simp only [i64_w, i32_w]; rw [c14b0]) | skip)
    replace H := ifP H; obtain ⟨c15, H⟩ := H
    have LMc15 := Aside0.mk c15
    clear c15
    generalize hy254 : ((x5_3 ++ [wrap64 (a1 - 1)]) : List Int) = y254 at H
    have Ny254 := Aside0.mk hy254.symm; clear hy254
    have H' := Aside0.mk H
    clear H
    go_wp2_with (first | ((with_reducible refine gate_builtin (b := .append) (xs := #[.tmp 28, .tmp 31]) rfl ?_); at_builtin; refine R_append (Kd.int .i64) (w0 := w) w.heap.size rfl (.tmp 28) (.tmp 31) 42 3 (.int .i64 0) 8 rfl Try.underlying42 info3 rfl (by decide) (by omega) u5 x5_3 (wrap64 (a1 - 1)) [.int .i64 (wrap64 (a1 - 1))] (fun _ => True) (fun _ => False) rfl rfl ?aP (fun _ hk => hk.elim) ?aF ?aO ?aB ?aS ?aL ?_; (case aP => exact rfl); (case aB => exact (BL HB.1)); (case aF => exact (fun _ _ => trivial)); (case aO => exact (PR HO_5.1)); (case aS => exact (bZ HB.1)); (case aL => have := LMc15.1; omega); intro v255 w16 ho hb hg hat; rw [<- Ny254.1] at ho; refine E3 (bG BK247.1 hg (R_ne HO_5.1 BK247.1 (by decide))) (hb) (ho) ?_; clear BK247 HB HO_5; intro BK247 HB HO256; clear ho hb hg hat))
    repeat (go_quiet (first | ((with_reducible refine gate_builtin (b := .append) (xs := #[.tmp 28, .tmp 31]) rfl ?_); at_builtin; refine R_append (Kd.int .i64) (w0 := w) w.heap.size rfl (.tmp 28) (.tmp 31) 42 3 (.int .i64 0) 8 rfl Try.underlying42 info3 rfl (by decide) (by omega) u5 x5_3 (wrap64 (a1 - 1)) [.int .i64 (wrap64 (a1 - 1))] (fun _ => True) (fun _ => False) rfl rfl ?aP (fun _ hk => hk.elim) ?aF ?aO ?aB ?aS ?aL ?_; (case aP => exact rfl); (case aB => exact (BL HB.1)); (case aF => exact (fun _ _ => trivial)); (case aO => exact (PR HO_5.1)); (case aS => exact (bZ HB.1)); (case aL => have := LMc15.1; omega); intro v255 w16 ho hb hg hat; rw [<- Ny254.1] at ho; refine E3 (bG BK247.1 hg (R_ne HO_5.1 BK247.1 (by decide))) (hb) (ho) ?_; clear BK247 HB HO_5; intro BK247 HB HO256; clear ho hb hg hat)); try go_wp2_with (first | ((with_reducible refine gate_builtin (b := .append) (xs := #[.tmp 28, .tmp 31]) rfl ?_); at_builtin; refine R_append (Kd.int .i64) (w0 := w) w.heap.size rfl (.tmp 28) (.tmp 31) 42 3 (.int .i64 0) 8 rfl Try.underlying42 info3 rfl (by decide) (by omega) u5 x5_3 (wrap64 (a1 - 1)) [.int .i64 (wrap64 (a1 - 1))] (fun _ => True) (fun _ => False) rfl rfl ?aP (fun _ hk => hk.elim) ?aF ?aO ?aB ?aS ?aL ?_; (case aP => exact rfl); (case aB => exact (BL HB.1)); (case aF => exact (fun _ _ => trivial)); (case aO => exact (PR HO_5.1)); (case aS => exact (bZ HB.1)); (case aL => have := LMc15.1; omega); intro v255 w16 ho hb hg hat; rw [<- Ny254.1] at ho; refine E3 (bG BK247.1 hg (R_ne HO_5.1 BK247.1 (by decide))) (hb) (ho) ?_; clear BK247 HB HO_5; intro BK247 HB HO256; clear ho hb hg hat)))
    go_meet
    case rel => exact ⟨_, (y254), H', ⟨by have := HJ3.1; first | omega | exact Nat.le_refl _⟩, ⟨PR HO256.1⟩, ⟨PB BK247.1⟩, ⟨BL HB.1⟩⟩
  have c14b0 : decide (0 < (Int.tmod a1 a0_1)) = false := decide_eq_false c14
  clear c14
  (first | rw [c14b0] | (simp only [i64_w, i32_w]; rw [c14b0]) | skip)
  have H' := Aside0.mk H
  clear H
  go_wp2
  repeat (go_quiet (fail); try go_wp2)
  go_meet
  case rel => exact ⟨_, (x5_3), H', ⟨by have := HJ3.1; first | omega | exact Nat.le_refl _⟩, ⟨PR HO_5.1⟩, ⟨PB BK247.1⟩, ⟨BL HB.1⟩⟩
 clear HC13
 obtain ⟨kq, x5_12, HA, HJ12, HO_5, BK247, HB⟩ := hcut
 cases kq with
 | zero => exact absurd HA.1 (by simp [impl_besideOf.j1])
 | succ kj12 => ?_
 have H := HA.1
 clear HA
 simp only [impl_besideOf.j1] at H
 replace H := ifB H; rcases H with ⟨c17b0, H⟩ | ⟨c17b0, H⟩
 · replace H := ifP H; obtain ⟨c18, H⟩ := H
   have LMc18 := Aside0.mk c18
   clear c18
   replace H := nameB H; obtain ⟨y257, Ny257, H⟩ := H
   replace H := ifB H; rcases H with ⟨c19b0, H⟩ | ⟨c19b0, H⟩
   · replace H := ifP H; obtain ⟨c20, H⟩ := H
     have LMc20 := Aside0.mk c20
     clear c20
     generalize hy260 : ((y257 ++ [wrap64 (a1 + a0_1)]) : List Int) = y260 at H
     have Ny260 := Aside0.mk hy260.symm; clear hy260
     obtain rfl := Option.some.inj H
     obtain ⟨hcz21_0, hcz21_1, hcz21_2, hfz21_0, hfz21_1, hfz21_2⟩ := cz3 BK247.1
     go_wp2_with (first | ((with_reducible refine gate_builtin (b := .append) (xs := #[.tmp 38, .tmp 41]) rfl ?_); at_builtin; refine R_append (Kd.int .i64) (w0 := w) w.heap.size rfl (.tmp 38) (.tmp 41) 42 3 (.int .i64 0) 8 rfl Try.underlying42 info3 rfl (by decide) (by omega) u5 x5_12 (wrap64 (a1 + 1)) [.int .i64 (wrap64 (a1 + 1))] (fun _ => True) (fun _ => False) rfl rfl ?aP (fun _ hk => hk.elim) ?aF ?aO ?aB ?aS ?aL ?_; (case aP => exact rfl); (case aB => exact (BL HB.1)); (case aF => exact (fun _ _ => trivial)); (case aO => exact (PR HO_5.1)); (case aS => exact (bZ HB.1)); (case aL => have := LMc18.1; omega); intro v258 w22 ho hb hg hat; rw [<- Ny257.1] at ho; refine E3 (bG BK247.1 hg (R_ne HO_5.1 BK247.1 (by decide))) (hb) (ho) ?_; clear BK247 HB HO_5; intro BK247 HB HO259; clear ho hb hg hat; obtain ⟨hcz23_0, hcz23_1, hcz23_2, hfz23_0, hfz23_1, hfz23_2⟩ := cz3 BK247.1) | ((with_reducible refine gate_builtin (b := .append) (xs := #[.tmp 48, .tmp 53]) rfl ?_); at_builtin; refine R_append (Kd.int .i64) (w0 := w) w.heap.size rfl (.tmp 48) (.tmp 53) 42 3 (.int .i64 0) 8 rfl Try.underlying42 info3 rfl (by decide) (by omega) v258 y257 (wrap64 (a1 + a0_1)) [.int .i64 (wrap64 (a1 + a0_1))] (fun _ => True) (fun _ => False) rfl rfl ?aP (fun _ hk => hk.elim) ?aF ?aO ?aB ?aS ?aL ?_; (case aP => exact rfl); (case aB => exact (BL HB.1)); (case aF => exact (fun _ _ => trivial)); (case aO => exact (PR HO259.1)); (case aS => exact (bZ HB.1)); (case aL => have := LMc20.1; omega); intro v261 w24 ho hb hg hat; rw [<- Ny260.1] at ho; refine E3 (bG BK247.1 hg (R_ne HO259.1 BK247.1 (by decide))) (hb) (ho) ?_; clear BK247 HB HO259; intro BK247 HB HO262; clear ho hb hg hat))
     repeat (go_quiet (first | ((with_reducible refine gate_builtin (b := .append) (xs := #[.tmp 38, .tmp 41]) rfl ?_); at_builtin; refine R_append (Kd.int .i64) (w0 := w) w.heap.size rfl (.tmp 38) (.tmp 41) 42 3 (.int .i64 0) 8 rfl Try.underlying42 info3 rfl (by decide) (by omega) u5 x5_12 (wrap64 (a1 + 1)) [.int .i64 (wrap64 (a1 + 1))] (fun _ => True) (fun _ => False) rfl rfl ?aP (fun _ hk => hk.elim) ?aF ?aO ?aB ?aS ?aL ?_; (case aP => exact rfl); (case aB => exact (BL HB.1)); (case aF => exact (fun _ _ => trivial)); (case aO => exact (PR HO_5.1)); (case aS => exact (bZ HB.1)); (case aL => have := LMc18.1; omega); intro v258 w22 ho hb hg hat; rw [<- Ny257.1] at ho; refine E3 (bG BK247.1 hg (R_ne HO_5.1 BK247.1 (by decide))) (hb) (ho) ?_; clear BK247 HB HO_5; intro BK247 HB HO259; clear ho hb hg hat; obtain ⟨hcz23_0, hcz23_1, hcz23_2, hfz23_0, hfz23_1, hfz23_2⟩ := cz3 BK247.1) | ((with_reducible refine gate_builtin (b := .append) (xs := #[.tmp 48, .tmp 53]) rfl ?_); at_builtin; refine R_append (Kd.int .i64) (w0 := w) w.heap.size rfl (.tmp 48) (.tmp 53) 42 3 (.int .i64 0) 8 rfl Try.underlying42 info3 rfl (by decide) (by omega) v258 y257 (wrap64 (a1 + a0_1)) [.int .i64 (wrap64 (a1 + a0_1))] (fun _ => True) (fun _ => False) rfl rfl ?aP (fun _ hk => hk.elim) ?aF ?aO ?aB ?aS ?aL ?_; (case aP => exact rfl); (case aB => exact (BL HB.1)); (case aF => exact (fun _ _ => trivial)); (case aO => exact (PR HO259.1)); (case aS => exact (bZ HB.1)); (case aL => have := LMc20.1; omega); intro v261 w24 ho hb hg hat; rw [<- Ny260.1] at ho; refine E3 (bG BK247.1 hg (R_ne HO259.1 BK247.1 (by decide))) (hb) (ho) ?_; clear BK247 HB HO259; intro BK247 HB HO262; clear ho hb hg hat)); try go_wp2_with (first | ((with_reducible refine gate_builtin (b := .append) (xs := #[.tmp 38, .tmp 41]) rfl ?_); at_builtin; refine R_append (Kd.int .i64) (w0 := w) w.heap.size rfl (.tmp 38) (.tmp 41) 42 3 (.int .i64 0) 8 rfl Try.underlying42 info3 rfl (by decide) (by omega) u5 x5_12 (wrap64 (a1 + 1)) [.int .i64 (wrap64 (a1 + 1))] (fun _ => True) (fun _ => False) rfl rfl ?aP (fun _ hk => hk.elim) ?aF ?aO ?aB ?aS ?aL ?_; (case aP => exact rfl); (case aB => exact (BL HB.1)); (case aF => exact (fun _ _ => trivial)); (case aO => exact (PR HO_5.1)); (case aS => exact (bZ HB.1)); (case aL => have := LMc18.1; omega); intro v258 w22 ho hb hg hat; rw [<- Ny257.1] at ho; refine E3 (bG BK247.1 hg (R_ne HO_5.1 BK247.1 (by decide))) (hb) (ho) ?_; clear BK247 HB HO_5; intro BK247 HB HO259; clear ho hb hg hat; obtain ⟨hcz23_0, hcz23_1, hcz23_2, hfz23_0, hfz23_1, hfz23_2⟩ := cz3 BK247.1) | ((with_reducible refine gate_builtin (b := .append) (xs := #[.tmp 48, .tmp 53]) rfl ?_); at_builtin; refine R_append (Kd.int .i64) (w0 := w) w.heap.size rfl (.tmp 48) (.tmp 53) 42 3 (.int .i64 0) 8 rfl Try.underlying42 info3 rfl (by decide) (by omega) v258 y257 (wrap64 (a1 + a0_1)) [.int .i64 (wrap64 (a1 + a0_1))] (fun _ => True) (fun _ => False) rfl rfl ?aP (fun _ hk => hk.elim) ?aF ?aO ?aB ?aS ?aL ?_; (case aP => exact rfl); (case aB => exact (BL HB.1)); (case aF => exact (fun _ _ => trivial)); (case aO => exact (PR HO259.1)); (case aS => exact (bZ HB.1)); (case aL => have := LMc20.1; omega); intro v261 w24 ho hb hg hat; rw [<- Ny260.1] at ho; refine E3 (bG BK247.1 hg (R_ne HO259.1 BK247.1 (by decide))) (hb) (ho) ?_; clear BK247 HB HO259; intro BK247 HB HO262; clear ho hb hg hat)))
     go_ret
     exact ⟨_, RF, RPE (HO262.1), BL HB.1⟩
   obtain rfl := Option.some.inj H
   obtain ⟨hcz25_0, hcz25_1, hcz25_2, hfz25_0, hfz25_1, hfz25_2⟩ := cz3 BK247.1
   go_wp2_with (first | ((with_reducible refine gate_builtin (b := .append) (xs := #[.tmp 38, .tmp 41]) rfl ?_); at_builtin; refine R_append (Kd.int .i64) (w0 := w) w.heap.size rfl (.tmp 38) (.tmp 41) 42 3 (.int .i64 0) 8 rfl Try.underlying42 info3 rfl (by decide) (by omega) u5 x5_12 (wrap64 (a1 + 1)) [.int .i64 (wrap64 (a1 + 1))] (fun _ => True) (fun _ => False) rfl rfl ?aP (fun _ hk => hk.elim) ?aF ?aO ?aB ?aS ?aL ?_; (case aP => exact rfl); (case aB => exact (BL HB.1)); (case aF => exact (fun _ _ => trivial)); (case aO => exact (PR HO_5.1)); (case aS => exact (bZ HB.1)); (case aL => have := LMc18.1; omega); intro v258 w26 ho hb hg hat; rw [<- Ny257.1] at ho; refine E3 (bG BK247.1 hg (R_ne HO_5.1 BK247.1 (by decide))) (hb) (ho) ?_; clear BK247 HB HO_5; intro BK247 HB HO259; clear ho hb hg hat; obtain ⟨hcz27_0, hcz27_1, hcz27_2, hfz27_0, hfz27_1, hfz27_2⟩ := cz3 BK247.1))
   repeat (go_quiet (first | ((with_reducible refine gate_builtin (b := .append) (xs := #[.tmp 38, .tmp 41]) rfl ?_); at_builtin; refine R_append (Kd.int .i64) (w0 := w) w.heap.size rfl (.tmp 38) (.tmp 41) 42 3 (.int .i64 0) 8 rfl Try.underlying42 info3 rfl (by decide) (by omega) u5 x5_12 (wrap64 (a1 + 1)) [.int .i64 (wrap64 (a1 + 1))] (fun _ => True) (fun _ => False) rfl rfl ?aP (fun _ hk => hk.elim) ?aF ?aO ?aB ?aS ?aL ?_; (case aP => exact rfl); (case aB => exact (BL HB.1)); (case aF => exact (fun _ _ => trivial)); (case aO => exact (PR HO_5.1)); (case aS => exact (bZ HB.1)); (case aL => have := LMc18.1; omega); intro v258 w26 ho hb hg hat; rw [<- Ny257.1] at ho; refine E3 (bG BK247.1 hg (R_ne HO_5.1 BK247.1 (by decide))) (hb) (ho) ?_; clear BK247 HB HO_5; intro BK247 HB HO259; clear ho hb hg hat; obtain ⟨hcz27_0, hcz27_1, hcz27_2, hfz27_0, hfz27_1, hfz27_2⟩ := cz3 BK247.1)); try go_wp2_with (first | ((with_reducible refine gate_builtin (b := .append) (xs := #[.tmp 38, .tmp 41]) rfl ?_); at_builtin; refine R_append (Kd.int .i64) (w0 := w) w.heap.size rfl (.tmp 38) (.tmp 41) 42 3 (.int .i64 0) 8 rfl Try.underlying42 info3 rfl (by decide) (by omega) u5 x5_12 (wrap64 (a1 + 1)) [.int .i64 (wrap64 (a1 + 1))] (fun _ => True) (fun _ => False) rfl rfl ?aP (fun _ hk => hk.elim) ?aF ?aO ?aB ?aS ?aL ?_; (case aP => exact rfl); (case aB => exact (BL HB.1)); (case aF => exact (fun _ _ => trivial)); (case aO => exact (PR HO_5.1)); (case aS => exact (bZ HB.1)); (case aL => have := LMc18.1; omega); intro v258 w26 ho hb hg hat; rw [<- Ny257.1] at ho; refine E3 (bG BK247.1 hg (R_ne HO_5.1 BK247.1 (by decide))) (hb) (ho) ?_; clear BK247 HB HO_5; intro BK247 HB HO259; clear ho hb hg hat; obtain ⟨hcz27_0, hcz27_1, hcz27_2, hfz27_0, hfz27_1, hfz27_2⟩ := cz3 BK247.1)))
   go_ret
   exact ⟨_, RF, RPE (HO259.1), BL HB.1⟩
 replace H := ifB H; rcases H with ⟨c28b0, H⟩ | ⟨c28b0, H⟩
 · replace H := ifP H; obtain ⟨c29, H⟩ := H
   have LMc29 := Aside0.mk c29
   clear c29
   generalize hy263 : ((x5_12 ++ [wrap64 (a1 + a0_1)]) : List Int) = y263 at H
   have Ny263 := Aside0.mk hy263.symm; clear hy263
   obtain rfl := Option.some.inj H
   obtain ⟨hcz30_0, hcz30_1, hcz30_2, hfz30_0, hfz30_1, hfz30_2⟩ := cz3 BK247.1
   go_wp2_with (first | ((with_reducible refine gate_builtin (b := .append) (xs := #[.tmp 48, .tmp 53]) rfl ?_); at_builtin; refine R_append (Kd.int .i64) (w0 := w) w.heap.size rfl (.tmp 48) (.tmp 53) 42 3 (.int .i64 0) 8 rfl Try.underlying42 info3 rfl (by decide) (by omega) u5 x5_12 (wrap64 (a1 + a0_1)) [.int .i64 (wrap64 (a1 + a0_1))] (fun _ => True) (fun _ => False) rfl rfl ?aP (fun _ hk => hk.elim) ?aF ?aO ?aB ?aS ?aL ?_; (case aP => exact rfl); (case aB => exact (BL HB.1)); (case aF => exact (fun _ _ => trivial)); (case aO => exact (PR HO_5.1)); (case aS => exact (bZ HB.1)); (case aL => have := LMc29.1; omega); intro v264 w31 ho hb hg hat; rw [<- Ny263.1] at ho; refine E3 (bG BK247.1 hg (R_ne HO_5.1 BK247.1 (by decide))) (hb) (ho) ?_; clear BK247 HB HO_5; intro BK247 HB HO265; clear ho hb hg hat))
   repeat (go_quiet (first | ((with_reducible refine gate_builtin (b := .append) (xs := #[.tmp 48, .tmp 53]) rfl ?_); at_builtin; refine R_append (Kd.int .i64) (w0 := w) w.heap.size rfl (.tmp 48) (.tmp 53) 42 3 (.int .i64 0) 8 rfl Try.underlying42 info3 rfl (by decide) (by omega) u5 x5_12 (wrap64 (a1 + a0_1)) [.int .i64 (wrap64 (a1 + a0_1))] (fun _ => True) (fun _ => False) rfl rfl ?aP (fun _ hk => hk.elim) ?aF ?aO ?aB ?aS ?aL ?_; (case aP => exact rfl); (case aB => exact (BL HB.1)); (case aF => exact (fun _ _ => trivial)); (case aO => exact (PR HO_5.1)); (case aS => exact (bZ HB.1)); (case aL => have := LMc29.1; omega); intro v264 w31 ho hb hg hat; rw [<- Ny263.1] at ho; refine E3 (bG BK247.1 hg (R_ne HO_5.1 BK247.1 (by decide))) (hb) (ho) ?_; clear BK247 HB HO_5; intro BK247 HB HO265; clear ho hb hg hat)); try go_wp2_with (first | ((with_reducible refine gate_builtin (b := .append) (xs := #[.tmp 48, .tmp 53]) rfl ?_); at_builtin; refine R_append (Kd.int .i64) (w0 := w) w.heap.size rfl (.tmp 48) (.tmp 53) 42 3 (.int .i64 0) 8 rfl Try.underlying42 info3 rfl (by decide) (by omega) u5 x5_12 (wrap64 (a1 + a0_1)) [.int .i64 (wrap64 (a1 + a0_1))] (fun _ => True) (fun _ => False) rfl rfl ?aP (fun _ hk => hk.elim) ?aF ?aO ?aB ?aS ?aL ?_; (case aP => exact rfl); (case aB => exact (BL HB.1)); (case aF => exact (fun _ _ => trivial)); (case aO => exact (PR HO_5.1)); (case aS => exact (bZ HB.1)); (case aL => have := LMc29.1; omega); intro v264 w31 ho hb hg hat; rw [<- Ny263.1] at ho; refine E3 (bG BK247.1 hg (R_ne HO_5.1 BK247.1 (by decide))) (hb) (ho) ?_; clear BK247 HB HO_5; intro BK247 HB HO265; clear ho hb hg hat)))
   go_ret
   exact ⟨_, RF, RPE (HO265.1), BL HB.1⟩
 obtain rfl := Option.some.inj H
 obtain ⟨hcz32_0, hcz32_1, hcz32_2, hfz32_0, hfz32_1, hfz32_2⟩ := cz3 BK247.1
 go_wp2
 repeat (go_quiet (fail); try go_wp2)
 go_ret
 exact ⟨_, RF, RPE (HO_5.1), BL HB.1⟩
end Go.Proofs.Yteenahjnpeegpaa.P
