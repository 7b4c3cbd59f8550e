import Derived.Test.YtbpfdbjnnlmdjaaPx0
import Derived.Test.YtbpfdbjnnlmdjaaPx1
namespace Go.Proofs.Ytbpfdbjnnlmdjaa.P
open Go.RowKit Go.Proofs.YtbpfdbjnnlmdjaaW.PrintWords Go.Proofs.YtbpfdbjnnlmdjaaW.PrintLast Go.Proofs.YtbpfdbjnnlmdjaaW.PrintMore
attribute [local go_sem] max2_int min2_int max_two min_two max_three min_three max_four min_four
set_option linter.unusedVariables false
set_option linter.unusedSimpArgs false
set_option maxHeartbeats 8000000
set_option maxRecDepth 100000
open Kd
def spec_paGoes.j0 : Nat -> Int -> Int -> Bool -> Int -> Int -> Option (Int)
 | 0, _, _, _, _, _ => none
 | k + 1, x1, x6, x11, x225000, x225001 => if x11 = true then (some (wrap64 ((wrap64 (2 * x225001)) - 1))) else (if x6 = 4 then (some (wrap64 (-x1))) else (some 0))
def spec_paGoes.f (k : Nat) (a0_0 : Int) (a0_1 : Int) (a1 : Int) : Option (Int) := if a0_0 = 1 then (some (-1)) else (if a0_0 = 2 then (some 1) else (if a0_0 = 3 then (spec_paGoes.j0 k a1 a0_0 (a0_0 == 3) a0_0 a0_1) else (spec_paGoes.j0 k a1 a0_0 (a0_0 == 6) a0_0 a0_1)))
theorem spec_paGoes.mono_l : ∀ k, (∀ y0 y1 y2 y3 y4, LeO (spec_paGoes.j0 k y0 y1 y2 y3 y4) (spec_paGoes.j0 (k + 1) y0 y1 y2 y3 y4))
 | 0 => fun _ _ _ _ _ r h => by simp [spec_paGoes.j0] at h
 | k + 1 => by
  have ih0 := spec_paGoes.mono_l k
  intros
  first | unfold spec_paGoes.j0
  exact LM1 ih0
theorem spec_paGoes.mono : ∀ a0 a1 a2 k, LeO (spec_paGoes.f k a0 a1 a2) (spec_paGoes.f (k + 1) a0 a1 a2) := by
 intro a0 a1 a2 k
 have ih0 := spec_paGoes.mono_l k
 unfold spec_paGoes.f
 exact LM1 ih0
theorem spec_paGoes.calls (k : Nat) (a0_0 : Int) (a0_1 : Int) (a1 : Int) (r : Int) (w : World) (h : spec_paGoes.f k a0_0 a0_1 a1 = some r) :
 Calls Try.prog 96 #[.agg #[.int .i64 a0_0, .int .i64 a0_1], .int .i64 a1] w fun e w' => e = .returned (.int .i64 r) /\ Below w.heap.size w w' := by
 have hu83 := Try.underlying83
 have HB := Aside0.mk (Below.refl w.heap.size w)
 have H := h
 clear h
 unfold spec_paGoes.f at H
 replace H := ifQ H; rcases H with ⟨c3, H⟩ | ⟨c3, H⟩
 · have c3b0 := beq_iff_eq.mpr c3
   have c3b1 := bne_eq_false_iff_eq.mpr c3
   clear c3
   obtain rfl := Option.some.inj H
   go_enter Try.func96, Try.ntmps96
   go_wp2_with (first | ((with_reducible refine gate_dst (N := 2) rfl ?_); refine boxE (cs := #[.int .i64 a0_0, .int .i64 a0_1]) (t := 83) ?_; intro gb224 hg w4 hbox hb; refine E4b HB.1 hg hbox hb ?_; clear HB; intro HB BK224 GW224 GE224; clear hb hbox hg; obtain ⟨hcz5_0, hcz5_1, hfz5_0, hfz5_1⟩ := cz2 BK224.1))
   go_ret
   exact ⟨RF, BL HB.1⟩
 have c3b0 := beq_eq_false_iff_ne.mpr c3
 have c3b1 := bne_iff_ne.mpr c3
 replace H := ifQ H; rcases H with ⟨c6, H⟩ | ⟨c6, H⟩
 · have c6b0 := beq_iff_eq.mpr c6
   have c6b1 := bne_eq_false_iff_eq.mpr c6
   clear c6
   obtain rfl := Option.some.inj H
   go_enter Try.func96, Try.ntmps96
   go_wp2_with (first | ((with_reducible refine gate_dst (N := 2) rfl ?_); refine boxE (cs := #[.int .i64 a0_0, .int .i64 a0_1]) (t := 83) ?_; intro gb224 hg w7 hbox hb; refine E4b HB.1 hg hbox hb ?_; clear HB; intro HB BK224 GW224 GE224; clear hb hbox hg; obtain ⟨hcz8_0, hcz8_1, hfz8_0, hfz8_1⟩ := cz2 BK224.1))
   go_ret
   exact ⟨RF, BL HB.1⟩
 have c6b0 := beq_eq_false_iff_ne.mpr c6
 have c6b1 := bne_iff_ne.mpr c6
 have HC9 := Aside0.mk H
 clear H
 go_enter Try.func96, Try.ntmps96
 go_upto_if 11 with (first | ((with_reducible refine gate_dst (N := 2) rfl ?_); refine boxE (cs := #[.int .i64 a0_0, .int .i64 a0_1]) (t := 83) ?_; intro gb224 hg w10 hbox hb; refine E4b HB.1 hg hbox hb ?_; clear HB; intro HB BK224 GW224 GE224; clear hb hbox hg; obtain ⟨hcz11_0, hcz11_1, hfz11_0, hfz11_1⟩ := cz2 BK224.1))
 (try simp only [Act.put, List.setIfInBounds_toArray, List.set_cons_zero, List.set_cons_succ])
 go_cut [11] (fun v11 wc => ∃ (kq : Nat) (x11_8 : Bool), v11 = .bool x11_8 /\ Aside0 (spec_paGoes.j0 kq a1 a0_0 x11_8 a0_0 a0_1 = some r) /\ Aside0 (kq <= k) /\ Aside0 (wc.heap[gb224]? = some (.cells #[.int .i64 a0_0, .int .i64 a0_1] 83 (0, 0))) /\ Aside0 (Below w.heap.size w wc))
 case first =>
  have H := HC9.1
  clear HC9
  replace H := ifQ H; rcases H with ⟨c12, H⟩ | ⟨c12, H⟩
  · have c12b0 := beq_iff_eq.mpr c12
    have c12b1 := bne_eq_false_iff_eq.mpr c12
    clear c12
    (first | rw [c12b0] | (simp only [i64_w, i32_w]; rw [c12b0]) | skip)
    have H' := Aside0.mk H
    clear H
    go_wp2
    go_meet
    case rel => exact ⟨_, ((a0_0 == 3)), RG, H', ⟨by first | omega | exact Nat.le_refl _⟩, ⟨PB BK224.1⟩, ⟨BL HB.1⟩⟩
  have c12b0 := beq_eq_false_iff_ne.mpr c12
  have c12b1 := bne_iff_ne.mpr c12
  (first | rw [c12b0] | (simp only [i64_w, i32_w]; rw [c12b0]) | skip)
  have H' := Aside0.mk H
  clear H
  go_wp2
  go_meet
  case rel => exact ⟨_, ((a0_0 == 6)), RG, H', ⟨by first | omega | exact Nat.le_refl _⟩, ⟨PB BK224.1⟩, ⟨BL HB.1⟩⟩
 clear HC9
 try clear c3; try clear c6; clear c3b0 c3b1 c6b0 c6b1 hcz11_0 hcz11_1 hfz11_0 hfz11_1
 obtain ⟨kq, x11_8, rfl, HA, HJ8, BK224, HB⟩ := hcut
 cases kq with
 | zero => exact absurd HA.1 (by simp [spec_paGoes.j0])
 | succ kj8 => ?_
 have H := HA.1
 clear HA
 simp only [spec_paGoes.j0] at H
 replace H := ifX H; rcases H with ⟨rfl, H⟩ | ⟨rfl, H⟩
 · obtain rfl := Option.some.inj H
   obtain ⟨hcz14_0, hcz14_1, hfz14_0, hfz14_1⟩ := cz2 BK224.1
   go_wp2
   go_ret
   exact ⟨RF, BL HB.1⟩
 replace H := ifQ H; rcases H with ⟨c15, H⟩ | ⟨c15, H⟩
 · have c15b0 := beq_iff_eq.mpr c15
   have c15b1 := bne_eq_false_iff_eq.mpr c15
   clear c15
   obtain rfl := Option.some.inj H
   go_wp2
   go_ret
   exact ⟨RF, BL HB.1⟩
 have c15b0 := beq_eq_false_iff_ne.mpr c15
 have c15b1 := bne_iff_ne.mpr c15
 obtain rfl := Option.some.inj H
 go_wp2
 go_ret
 exact ⟨RF, BL HB.1⟩
def spec_paTurn.f (a0_0 : Int) (a0_1 : Int) : Option (Int × Int) := some (a0_0, wrap64 (1 - a0_1))
theorem spec_paTurn.calls (a0_0 : Int) (a0_1 : Int) (r1 : Int) (r2 : Int) (w : World) (h : spec_paTurn.f a0_0 a0_1 = some (r1, r2)) :
 Calls Try.prog 101 #[.agg #[.int .i64 a0_0, .int .i64 a0_1]] w fun e w' => e = .returned (.agg #[.int .i64 r1, .int .i64 r2]) /\ Below w.heap.size w w' := by
 have hu83 := Try.underlying83
 have HB := Aside0.mk (Below.refl w.heap.size w)
 have H := h
 clear h
 unfold spec_paTurn.f at H
 simp only [Option.some.injEq, Prod.mk.injEq] at H
 obtain ⟨rfl, rfl⟩ := H
 go_enter Try.func101, Try.ntmps101
 go_wp2_with (first | ((with_reducible refine gate_dst (N := 1) rfl ?_); refine boxE (cs := #[.int .i64 a0_0, .int .i64 a0_1]) (t := 83) ?_; intro gb225 hg w2 hbox hb; refine E4b HB.1 hg hbox hb ?_; clear HB; intro HB BK225 GW225 GE225; clear hb hbox hg) | ((with_reducible refine gate_dst (N := 2) rfl ?_); refine boxE (cs := #[.int .i64 0, .int .i64 0]) (t := 83) ?_; intro gb226 hg w3 hbox hb; refine E7 (bB BK225.1 hb) (bS HB.1 hb) (hbox) (gX HB.1 hg) (gX HB.1 hg) (nB BK225.1 hg) (nC BK225.1 hg) ?_; clear BK225 HB; intro BK225 HB BK226 GW226 GE226 NB225_226 NB226_225; clear hb hbox hg; have hnb4 := NB225_226.1; have hnc4 := NB226_225.1; obtain ⟨hcz5_0, hcz5_1, hfz5_0, hfz5_1⟩ := cz2 BK225.1; obtain ⟨hcz6_0, hcz6_1, hfz6_0, hfz6_1⟩ := cz2 BK226.1))
 refine bodyPost_ret (results_cell_row rfl _ _ gb226 83 #[.int .i64 a0_0, .int .i64 (wrap64 (1 - a0_1))] (0, 0) _ rfl (PF0 BK226.1) Try.underlying83 rfl (by kernel_rfl)) rfl ?_
 exact ⟨RF, BL HB.1⟩
def spec_flPass.l0 : Nat -> List Int -> Int -> Int -> Int -> Int -> Int -> List (S83) -> Option ((List (S83)))
 | 0, _, _, _, _, _, _, _ => none
 | k + 1, x1, x2, x28, x29, x228000, x228001, x228002 => if x29 < x28 then (if 0 <= x29 then (if x29 < (x228002.length : Int) then (if ((rd_T83 x228002 x29).f0) = 6 then (if x29 < (x1.length : Int) then (if 0 <= x2 then (if x2 < (x1.length : Int) then (if (rd x1 x29) = (rd x1 x2) then ((spec_paTurn.f ((rd_T83 x228002 x29).f0) ((rd_T83 x228002 x29).f1)).bind fun bt237 => (spec_flPass.l0 k x1 x2 x28 (wrap64 (x29 + 1)) x228000 x228001 (x228002.set (x29 : Int).toNat (⟨bt237.1, bt237.2⟩ : S83)))) else (spec_flPass.l0 k x1 x2 x28 (wrap64 (x29 + 1)) x228000 x228001 x228002)) else (none)) else (none)) else (none)) else (spec_flPass.l0 k x1 x2 x28 (wrap64 (x29 + 1)) x228000 x228001 x228002)) else (none)) else (none)) else (some x228002)
def spec_flPass.f (k : Nat) (a0_0 : Int) (a0_1 : Int) (l0_2 : List (S83)) (l1 : List Int) (a2 : Int) : Option ((List (S83))) := if 0 <= a2 then (if a2 < (l0_2.length : Int) then (if ((rd_T83 l0_2 a2).f0) = 3 then ((spec_paTurn.f ((rd_T83 l0_2 a2).f0) ((rd_T83 l0_2 a2).f1)).bind fun bt230 => (some (l0_2.set (a2 : Int).toNat (⟨bt230.1, bt230.2⟩ : S83)))) else (if ((rd_T83 l0_2 a2).f0) = 6 then (spec_flPass.l0 k l1 a2 (l0_2.length : Int) 0 a0_0 a0_1 l0_2) else (some l0_2))) else (none)) else (none)
theorem spec_flPass.mono_l : ∀ k, (∀ y0 y1 y2 y3 y4 y5 y6, LeO (spec_flPass.l0 k y0 y1 y2 y3 y4 y5 y6) (spec_flPass.l0 (k + 1) y0 y1 y2 y3 y4 y5 y6))
 | 0 => fun _ _ _ _ _ _ _ r h => by simp [spec_flPass.l0] at h
 | k + 1 => by
  have ih0 := spec_flPass.mono_l k
  intros
  first | unfold spec_flPass.l0
  exact LM1 ih0
theorem spec_flPass.mono : ∀ a0 a1 a2 a3 a4 k, LeO (spec_flPass.f k a0 a1 a2 a3 a4) (spec_flPass.f (k + 1) a0 a1 a2 a3 a4) := by
 intro a0 a1 a2 a3 a4 k
 have ih0 := spec_flPass.mono_l k
 unfold spec_flPass.f
 exact LM1 ih0
def spec_flPass.T9 : Bool × List (List Nat × List Nat) := (true, [([], []), ([0], [0]), ([1], [1]), ([2], [2]), ([3], [3]), ([3], [3]), ([4, 5, 3], [3, 4, 5]), ([6, 3], [3, 6]), ([3], [3]), ([3], [3]), ([8, 9, 3], [3, 8, 9]), ([10, 3], [3, 10]), ([7, 11, 3], [3, 7, 11]), ([3, 12], [3, 12])])
def spec_flPass.B9 : List Nat := [0, 1, 3, 7, 15, 15, 63, 127, 15, 15, 783, 1807, 4095, 8191]
theorem spec_flPass.tab9 : rtab .any (opsOf Try.f97 9) = spec_flPass.T9 := by kernel_rfl
theorem spec_flPass.bits9 : waitsOk spec_flPass.T9.2 spec_flPass.B9 = true := by kernel_rfl
theorem spec_flPass.calls (k : Nat) (a0_0 : Int) (a0_1 : Int) (P0_2_ : Nat -> Prop) (u9000_ : Value) (l0_2 : List (S83)) (A1 : Option Addr) (c1 : Nat) (l1 : List Int) (a2 : Int) (r : List (S83)) (w0 w : World) (hB : Below w0.heap.size w0 w) (ho0_2 : Kd.R k83 83 w w0.heap.size P0_2_ u9000_ l0_2) (hr1 : ∀ W_, Kept w W_ (fun k_ => P0_2_ k_) -> Kd.C (Kd.int .i64) W_ A1 l1.length l1) (hc1 : l1.length <= c1) (h : spec_flPass.f k a0_0 a0_1 l0_2 l1 a2 = some r) :
 Calls Try.prog 97 #[.agg #[.int .i64 a0_0, .int .i64 a0_1, u9000_], .slice A1 l1.length c1, .int .i64 a2] w fun e w' => e = .returned (.tuple #[]) /\ Kd.R k83 83 w' w0.heap.size (fun k_ => (P0_2_ k_ ∨ w.heap.size <= k_)) u9000_ r /\ Below w0.heap.size w0 w' /\ Kept w w' (fun k_ => P0_2_ k_) := by
 have hu30 := Try.underlying30
 have hu83 := Try.underlying83
 have HO0_2 := Aside0.mk (show Kd.R k83 83 w w0.heap.size (fun k_ => (P0_2_ k_ ∨ w.heap.size <= k_)) u9000_ l0_2 from R_mono ho0_2 (fun k_ hk => (.inl hk)))
 have HR1 := Aside0.mk hr1
 have HC1 := Aside0.mk hc1
 clear hr1 hc1
 have HK := Aside0.mk (Kept.refl w (fun k_ => P0_2_ k_))
 have HW0 := Aside0.mk hB.size
 have HB := Aside0.mk hB
 clear hB
 have H := h
 clear h
 unfold spec_flPass.f at H
 replace H := ifN H; obtain ⟨c4b0, H⟩ := H
 replace H := ifN H; obtain ⟨c5b0, H⟩ := H
 replace H := ifQ H; rcases H with ⟨c6, H⟩ | ⟨c6, H⟩
 · have c6b0 := beq_iff_eq.mpr c6
   have c6b1 := bne_eq_false_iff_eq.mpr c6
   clear c6
   replace H := bindA H; obtain ⟨⟨t230, t231⟩, A7, H⟩ := H
   dsimp only at H
   generalize hy232 : ((l0_2.set (a2 : Int).toNat (⟨t230, t231⟩ : S83)) : List (S83)) = y232 at H
   have Ny232 := Aside0.mk hy232.symm; clear hy232
   obtain rfl := Option.some.inj H
   obtain ⟨Ao9, co9, eo9⟩ := R_slice HO0_2.1
   subst eo9
   go_enter Try.func97, Try.ntmps97
   try go_wp2_with (first | ((with_reducible refine gate_dst (N := 3) rfl ?_); refine boxE (cs := #[.int .i64 a0_0, .int .i64 a0_1, .slice Ao9 l0_2.length co9]) (t := 30) ?_; intro gb227 hg w10 hbox hb; refine E6 (rB HO0_2.1 hb) (Kept.below (S := (fun k_ => P0_2_ k_)) (KL HK.1) hb) (bS HB.1 hb) (hbox) ((by rw [hg]; exact (by first | exact HK.1.1 | exact (show Kept w _ (fun k_ => P0_2_ k_) from KL HK.1).1) : w.heap.size <= gb227)) (gwM hg (bZ HB.1) : w0.heap.size <= gb227) ?_; clear HO0_2 HK HB; intro HO0_2 HK HB BK227 GW227 GE227; clear hb hbox hg; obtain ⟨hcz11_0, hcz11_1, hcz11_2, hfz11_0, hfz11_1, hfz11_2⟩ := cz3 BK227.1; have p228 : 0 <= (a2 : Int) := OD; have q228 : a2 < (l0_2.length : Int) := OD; obtain ⟨ad228, e228, hx228_0, hx228_1⟩ := at_T83 (R_reads' HO0_2.1).2.2 a2 p228 q228; cases e228; replace p228 := eq_true p228; replace q228 := eq_true q228) | ((with_reducible refine gate_dst (N := 6) rfl ?_); refine boxE (cs := #[.int .i64 0, .int .i64 0]) (t := 83) ?_; intro gb229 hg w12 hbox hb; refine E9 (R_below (R_elderB (PR HO0_2.1) gb229 (Nat.le_of_eq hg.symm)) hb) (bB BK227.1 hb) (Kept.below (S := (fun k_ => P0_2_ k_)) (KL HK.1) hb) (bS HB.1 hb) (hbox) ((by rw [hg]; exact (by first | exact HK.1.1 | exact (show Kept w _ (fun k_ => P0_2_ k_) from KL HK.1).1) : w.heap.size <= gb229)) (gwM hg (bZ HB.1) : w0.heap.size <= gb229) (nB BK227.1 hg) (nC BK227.1 hg) ?_; clear HO0_2 BK227 HK HB; intro HO0_2 BK227 HK HB BK229 GW229 GE229 NB227_229 NB229_227; clear hb hbox hg; have hnb13 := NB229_227.1; have hnc13 := NB227_229.1; obtain ⟨hcz14_0, hcz14_1, hfz14_0, hfz14_1⟩ := cz2 BK229.1))
   have n_ : (fun w15 : World => (Kd.R k83 83 w15 w0.heap.size (fun k_ => (P0_2_ k_ ∨ w.heap.size <= k_) /\ k_ ≠ gb229) (.slice (some ad228) l0_2.length co9) l0_2) /\ (w15.heap[gb227]? = some (.cells #[.int .i64 a0_0, .int .i64 a0_1, .slice (some ad228) l0_2.length co9] 30 (0, 0))) /\ (w15.heap[gb229]? = some (.cells #[.int .i64 ((rd_T83 l0_2 a2).f0), .int .i64 ((rd_T83 l0_2 a2).f1)] 83 (0, 0))) /\ (Kept w w15 (fun k_ => P0_2_ k_)) /\ (Below w0.heap.size w0 w15)) ((w12.setCell ⟨gb229, 0, none⟩ (.int .i64 ((rd_T83 l0_2 a2).f0))).setCell ⟨gb229, 1, none⟩ (.int .i64 ((rd_T83 l0_2 a2).f1))) := ⟨by (with_reducible repeat (first | apply R_alloc | apply R_drewN | apply R_drew)); exact R_mono (RQ gb229 1 (RQ gb229 0 (R_mono HO0_2.1 (fun k_ hk => (⟨hk, hk.2⟩ : _ /\ k_ ≠ gb229))) _) _) (fun _ hk => ⟨hk.1.1, hk.1.2⟩), by (with_reducible repeat (first | refine blk_drewN ?_ _ | refine blk_drew ?_ | refine blk_alloc ?_ _)); refine blk_far ?_ NB227_229.1 _; (with_reducible repeat (first | refine blk_drewN ?_ _ | refine blk_drew ?_ | refine blk_alloc ?_ _)); refine blk_far ?_ NB227_229.1 _; (with_reducible repeat (first | refine blk_drewN ?_ _ | refine blk_drew ?_ | refine blk_alloc ?_ _)); exact BK227.1, by (with_reducible repeat (first | refine blk_drewN ?_ _ | refine blk_drew ?_ | refine blk_alloc ?_ _)); refine blk_put (cs := #[.int .i64 ((rd_T83 l0_2 a2).f0), .int .i64 0]) ?_ 1 _ rfl; (with_reducible repeat (first | refine blk_drewN ?_ _ | refine blk_drew ?_ | refine blk_alloc ?_ _)); refine blk_put (cs := #[.int .i64 0, .int .i64 0]) ?_ 0 _ rfl; (with_reducible repeat (first | refine blk_drewN ?_ _ | refine blk_drew ?_ | refine blk_alloc ?_ _)); exact BK229.1, KL HK.1, BL HB.1⟩
   (try clear HO0_2)
   (try clear BK227)
   (try clear BK229)
   (try clear HK)
   (try clear HB)
   generalize ((w12.setCell ⟨gb229, 0, none⟩ (.int .i64 ((rd_T83 l0_2 a2).f0))).setCell ⟨gb229, 1, none⟩ (.int .i64 ((rd_T83 l0_2 a2).f1))) = w15 at n_ ⊢
   obtain ⟨h0_, h1_, h2_, h3_, h4_⟩ := n_
   refine E5 h0_ h1_ h2_ h3_ h4_ ?_
   clear h0_ h1_ h2_ h3_ h4_
   intro HO0_2 BK227 BK229 HK HB
   refine E5 (R_drew HO0_2.1) (blk_drew BK227.1) (blk_drew BK229.1) (Kept.drew HK.1) (below_drew1 HB.1) ?_
   clear HO0_2 BK227 BK229 HK HB
   intro HO0_2 BK227 BK229 HK HB
   refine start_ (n := 7) (S := fun w' => w'.cell? ⟨gb227, 0, none⟩ = some (.int .i64 a0_0) /\ w'.cell? ⟨gb227, 1, none⟩ = some (.int .i64 a0_1) /\ w'.cell? ⟨gb227, 2, none⟩ = some (.slice (some ad228) l0_2.length co9) /\ w'.cell? ⟨gb229, 0, none⟩ = some (.int .i64 ((rd_T83 l0_2 a2).f0)) /\ w'.cell? ⟨gb229, 1, none⟩ = some (.int .i64 ((rd_T83 l0_2 a2).f1))) (ds := [6]) #[Zz,Zz,Zz,Zz,Zz,Zz,Zz] (by kernel_rfl) rfl rfl ⟨(blk_cell BK227.1 0).trans rfl, (blk_cell BK227.1 1).trans rfl, (blk_cell BK227.1 2).trans rfl, (blk_cell BK229.1 0).trans rfl, (blk_cell BK229.1 1).trans rfl⟩ (fun hHeld => ?_)
   generalize w15.drew = w16 at HO0_2 BK227 BK229 HK HB hHeld ⊢
   refine pure_ (i := 0) (N := some 18) (v := ?_) (a' := ?_) #[Yy,Zz,Zz,Zz,Zz,Zz,Zz] rfl rfl (by kernel_rfl) (fun _ _ _ h => h) (Or.inl ⟨by rfl, ?_⟩) ?_ ?_
   rotate_left
   · intro w'
     go_simp
     with_reducible rfl
   rotate_left
   · simp only [Act.put, List.setIfInBounds_toArray, List.set_cons_zero, List.set_cons_succ, i64_w, i32_w]
     rfl
   refine pure_ (i := 2) (N := some 20) (v := ?_) (a' := ?_) #[Yy,Zz,Yy,Zz,Zz,Zz,Zz] rfl rfl (by kernel_rfl) (fun _ _ _ h => h) (Or.inl ⟨by rfl, ?_⟩) ?_ ?_
   rotate_left
   · intro w'
     go_simp
     with_reducible rfl
   rotate_left
   · simp only [Act.put, List.setIfInBounds_toArray, List.set_cons_zero, List.set_cons_succ, i64_w, i32_w]
     rfl
   refine takeF 1 (N := some 19) hHeld ?_
   refine takeF 3 (N := some 21) hHeld ?_
   refine one_ (i := 4) (N := some 22) #[Yy,Yy,Yy,Yy,Yy,Zz,Zz] rfl rfl (by kernel_rfl) (by decide) (fun K hK => ?_)
   refine goes_ Try.func101 (by kernel_rfl) rfl #[.agg #[.int .i64 ((rd_T83 l0_2 a2).f0), .int .i64 ((rd_T83 l0_2 a2).f1)]] (by rfl) rfl rfl (by (try simp only [List.map_toArray, List.map_cons, List.map_nil]); first | done | rfl | (simp only [List.length_drop, List.length_take]; rfl)) ?_
   with_reducible refine (spec_paTurn.calls ((rd_T83 l0_2 a2).f0) ((rd_T83 l0_2 a2).f1) t230 t231 _ A7.1).mono ?_
   rintro e w17 ⟨rfl, hb⟩
   refine ⟨_, rfl, ?_⟩
   refine E5 (rB HO0_2.1 hb) (bB BK227.1 hb) (bB BK229.1 hb) (Kept.below (S := (fun k_ => P0_2_ k_)) (KL HK.1) hb) (bS HB.1 hb) ?_
   clear HO0_2 BK227 BK229 HK HB
   intro HO0_2 BK227 BK229 HK HB
   (try clear hb)
   (try clear hb2)
   (try clear hk)
   (try clear hi)
   have p8 : 0 <= (a2 : Int) := OD
   have q8 : (a2 : Int) < ((l0_2.length : Int) : Int) := OD
   obtain ⟨go8, co8, eo8, gb8, gl8, cl8, HG8⟩ := R_form HO0_2.1 (by omega)
   (first | cases eo8 | (injection eo8 with ea_ en_ ec_; (first | subst ea_ | (injection ea_ with ea_; subst ea_)); subst ec_; clear en_))
   have GB8 := Aside0.mk gb8
   have GG8 := Aside0.mk HG8
   clear gb8 gl8 HG8
   have HMgo8 := Aside0.mk (show (P0_2_ go8 ∨ w.heap.size <= go8) from (HO0_2.1.1 _ rfl).1)
   (first | simp only [add_plain] at hx228_0 | skip)
   (first | simp only [add_plain] at hx228_1 | skip)
   obtain ⟨ce8, hcl8, hM8, hcc8, hfr8⟩ := R_elem HO0_2.1 z83 (a2 : Int) p8 q8
   obtain rfl := k83_openM hM8
   have hx8_0 : World.cell? _ ⟨go8, (a2 : Int).toNat * 2, none⟩ = some (.int .i64 ((rd_T83 l0_2 a2).f0)) := hcc8 0 _ rfl
   have hx8_1 : World.cell? _ ⟨go8, (a2 : Int).toNat * 2 + 1, none⟩ = some (.int .i64 ((rd_T83 l0_2 a2).f1)) := hcc8 1 _ rfl
   have hf8_0 : World.frozen? _ ⟨go8, (a2 : Int).toNat * 2, none⟩ = false := hfr8 0
   have hf8_1 : World.frozen? _ ⟨go8, (a2 : Int).toNat * 2 + 1, none⟩ = false := hfr8 1
   (try clear hM8); clear hcl8 hcc8 hfr8
   replace p8 := eq_true p8
   replace q8 := eq_true q8
   obtain ⟨ce18, hcl18, hM18, hcc18, hfr18⟩ := R_elem HO0_2.1 z83 (a2 : Int) (OD) (by have h_ : (a2 : Int) < ((l0_2.length : Int) : Int) := OD; first | exact h_ | (have e_ := (R_reads' HO0_2.1).1; omega) | simpa using h_)
   obtain rfl := k83_openM hM18
   have HP18 := (R_seg HO0_2.1 (a2 : Int) (OD) (by have h_ : (a2 : Int) < ((l0_2.length : Int) : Int) := OD; first | exact h_ | (have e_ := (R_reads' HO0_2.1).1; omega) | simpa using h_) (seg := [.int .i64 t230, .int .i64 t231]) (j := 0) hcl18 hcc18 (show 2 <= 2 from by decide) (x' := (⟨t230, t231⟩ : S83)) (k83_mkM _ _ _ (⟨t230, t231⟩ : S83) ) (fun _ hk => hk)).1
   rw [<- Ny232.1] at HP18
   have HQ18 := Aside0.mk HP18
   (try clear hM18); clear hcl18 hcc18 hfr18 HP18
   refine hK.out _ _ ⟨(blk_cell BK227.1 0).trans rfl, (blk_cell BK227.1 1).trans rfl, (blk_cell BK227.1 2).trans rfl, (blk_cell BK229.1 0).trans rfl, (blk_cell BK229.1 1).trans rfl⟩ (fun hHeld => ?_)
   clear hK K
   refine norm_ (a' := ?_) ?_ ?_
   rotate_left
   · show Act.put _ (some 22) _ = _
     simp only [Act.put, List.setIfInBounds_toArray, List.set_cons_zero, List.set_cons_succ, i64_w, i32_w]
     rfl
   refine pure_ (i := 5) (N := some 23) (v := ?_) (a' := ?_) #[Yy,Yy,Yy,Yy,Yy,Yy,Zz] rfl rfl (by kernel_rfl) (fun _ _ _ h => h) (Or.inl ⟨by rfl, ?_⟩) ?_ ?_
   rotate_left
   · intro w'
     go_simp
     with_reducible rfl
   rotate_left
   · simp only [Act.put, List.setIfInBounds_toArray, List.set_cons_zero, List.set_cons_succ, i64_w, i32_w]
     rfl
   refine last_ (i := 6) (N := none) #[Yy,Yy,Yy,Yy,Yy,Yy,Yy] rfl rfl (by kernel_rfl) (by decide) (fun K hK => ?_)
   refine skip_ (w1 := ?_) (by rfl) rfl ?_ ?_
   rotate_left
   · go_simp
     rfl
   refine hK.out _ _ ?_
   clear hK K
   refine done_ (by kernel_rfl) ?_
   try go_wp2
   first | go_end0 | ((try simp only [Exit.inBlock, Exit.then]); refine bodyPost_ret (results_none rfl _ _ _) rfl ?_)
   exact ⟨RF, RPE (R_mono HQ18.1 (fun _ hk => hk.1)), BL HB.1, by repeat (first | (with_reducible first | exact HK.1 | apply Kept.alloc | apply Kept.drewN | apply Kept.drew | refine Kept.setCell ?_ HMgo8.1 _ | refine Kept.setCell ?_ HMgo8.1 _ | refine Kept.setCell ?_ (.inr GW227.1) _ | refine Kept.setCell ?_ (.inr GW229.1) _) | exact HK.1)⟩
 have c6b0 := beq_eq_false_iff_ne.mpr c6
 have c6b1 := bne_iff_ne.mpr c6
 replace H := ifQ H; rcases H with ⟨c19, H⟩ | ⟨c19, H⟩
 · have c19b0 := beq_iff_eq.mpr c19
   have c19b1 := bne_eq_false_iff_eq.mpr c19
   clear c19
   have H' := Aside0.mk H
   clear H
   obtain ⟨Ao20, co20, eo20⟩ := R_slice HO0_2.1
   subst eo20
   go_enter Try.func97, Try.ntmps97
   go_wp2_with (first | ((with_reducible refine gate_dst (N := 3) rfl ?_); refine boxE (cs := #[.int .i64 a0_0, .int .i64 a0_1, .slice Ao20 l0_2.length co20]) (t := 30) ?_; intro gb227 hg w21 hbox hb; refine E6 (rB HO0_2.1 hb) (Kept.below (S := (fun k_ => P0_2_ k_)) (KL HK.1) hb) (bS HB.1 hb) (hbox) ((by rw [hg]; exact (by first | exact HK.1.1 | exact (show Kept w _ (fun k_ => P0_2_ k_) from KL HK.1).1) : w.heap.size <= gb227)) (gwM hg (bZ HB.1) : w0.heap.size <= gb227) ?_; clear HO0_2 HK HB; intro HO0_2 HK HB BK227 GW227 GE227; clear hb hbox hg; obtain ⟨hcz22_0, hcz22_1, hcz22_2, hfz22_0, hfz22_1, hfz22_2⟩ := cz3 BK227.1; have p228 : 0 <= (a2 : Int) := OD; have q228 : a2 < (l0_2.length : Int) := OD; obtain ⟨ad228, e228, hx228_0, hx228_1⟩ := at_T83 (R_reads' HO0_2.1).2.2 a2 p228 q228; cases e228; replace p228 := eq_true p228; replace q228 := eq_true q228) | ((with_reducible refine gate_dst (N := 6) rfl ?_); refine boxE (cs := #[.int .i64 0, .int .i64 0]) (t := 83) ?_; intro gb229 hg w23 hbox hb; refine E9 (R_below (R_elderB (PR HO0_2.1) gb229 (Nat.le_of_eq hg.symm)) hb) (bB BK227.1 hb) (Kept.below (S := (fun k_ => P0_2_ k_)) (KL HK.1) hb) (bS HB.1 hb) (hbox) ((by rw [hg]; exact (by first | exact HK.1.1 | exact (show Kept w _ (fun k_ => P0_2_ k_) from KL HK.1).1) : w.heap.size <= gb229)) (gwM hg (bZ HB.1) : w0.heap.size <= gb229) (nB BK227.1 hg) (nC BK227.1 hg) ?_; clear HO0_2 BK227 HK HB; intro HO0_2 BK227 HK HB BK229 GW229 GE229 NB227_229 NB229_227; clear hb hbox hg; have hnb24 := NB229_227.1; have hnc24 := NB227_229.1; obtain ⟨hcz25_0, hcz25_1, hfz25_0, hfz25_1⟩ := cz2 BK229.1; obtain ⟨hcz26_0, hcz26_1, hcz26_2, hfz26_0, hfz26_1, hfz26_2⟩ := cz3 BK227.1))
   go_loopg [29] k (fun kq v29 w' => ∃ (x29_1 : Int) (x228002_1 : List (S83)) (x230000_1 : Int) (x230001_1 : Int), v29 = .int .i64 x29_1 /\ Aside0 (spec_flPass.l0 kq l1 a2 (l0_2.length : Int) x29_1 a0_0 a0_1 x228002_1 = some r) /\ Aside0 (kq <= k) /\ Aside0 (Kd.R k83 83 w' w0.heap.size (fun k_ => (P0_2_ k_ ∨ w.heap.size <= k_) /\ k_ ≠ gb229) (.slice (some ad228) l0_2.length co20) x228002_1) /\ Aside0 (w'.heap[gb227]? = some (.cells #[.int .i64 a0_0, .int .i64 a0_1, (.slice (some ad228) l0_2.length co20)] 30 (0, 0))) /\ Aside0 (w'.heap[gb229]? = some (.cells #[.int .i64 x230000_1, .int .i64 x230001_1] 83 (0, 0))) /\ Aside0 (Kept w w' (fun k_ => P0_2_ k_)) /\ Aside0 (Below w0.heap.size w0 w'))
   case atStart => exact ⟨(0), (l0_2), ((rd_T83 l0_2 a2).f0), ((rd_T83 l0_2 a2).f1), RG, H', ⟨Nat.le_refl _⟩, ⟨by (with_reducible repeat (first | apply R_alloc | apply R_drewN | apply R_drew)); exact R_mono (RQ gb229 1 (RQ gb229 0 (R_mono HO0_2.1 (fun k_ hk => (⟨hk, hk.2⟩ : _ /\ k_ ≠ gb229))) _) _) (fun _ hk => ⟨hk.1.1, hk.1.2⟩)⟩, ⟨by (with_reducible repeat (first | refine blk_drewN ?_ _ | refine blk_drew ?_ | refine blk_alloc ?_ _)); refine blk_far ?_ NB227_229.1 _; (with_reducible repeat (first | refine blk_drewN ?_ _ | refine blk_drew ?_ | refine blk_alloc ?_ _)); refine blk_far ?_ NB227_229.1 _; (with_reducible repeat (first | refine blk_drewN ?_ _ | refine blk_drew ?_ | refine blk_alloc ?_ _)); exact BK227.1⟩, ⟨by (with_reducible repeat (first | refine blk_drewN ?_ _ | refine blk_drew ?_ | refine blk_alloc ?_ _)); refine blk_put (cs := #[.int .i64 ((rd_T83 l0_2 a2).f0), .int .i64 0]) ?_ 1 _ rfl; (with_reducible repeat (first | refine blk_drewN ?_ _ | refine blk_drew ?_ | refine blk_alloc ?_ _)); refine blk_put (cs := #[.int .i64 0, .int .i64 0]) ?_ 0 _ rfl; (with_reducible repeat (first | refine blk_drewN ?_ _ | refine blk_drew ?_ | refine blk_alloc ?_ _)); exact BK229.1⟩, ⟨KL HK.1⟩, ⟨BL HB.1⟩⟩
   clear H'
   try clear c1; try clear c6; try clear hx228_0; try clear hx228_1; try clear p228; try clear q228; clear c4b0 c5b0 c6b0 c6b1 c19b0 c19b1 hcz22_0 hcz22_1 hcz22_2 hcz25_0 hcz25_1 hcz26_0 hcz26_1 hcz26_2 hfz22_0 hfz22_1 hfz22_2 hfz25_0 hfz25_1 hfz26_0 hfz26_1 hfz26_2
   obtain ⟨x29_1, x228002_1, x230000_1, x230001_1, rfl, HA, HK1, HO_228002, BK227, BK229, HK, HB⟩ := hrel
   have hl228002_1 := (R_reads' HO_228002.1).1
   rw [hl228002_1] at HO_228002
   (try simp only [hl228002_1])
   (try simp only [hl228002_1] at BK227)
   (try simp only [hl228002_1] at BK229)
   cases gk with
   | zero => exact absurd HA.1 (by simp [spec_flPass.l0])
   | succ k1 => ?_
   have H := HA.1
   clear HA
   simp only [spec_flPass.l0] at H
   replace H := ifB H; rcases H with ⟨c27b0, H⟩ | ⟨c27b0, H⟩
   · replace H := ifN H; obtain ⟨c28b0, H⟩ := H
     replace H := ifN H; obtain ⟨c29b0, H⟩ := H
     replace H := ifQ H; rcases H with ⟨c30, H⟩ | ⟨c30, H⟩
     · have c30b0 := beq_iff_eq.mpr c30
       have c30b1 := bne_eq_false_iff_eq.mpr c30
       clear c30
       replace H := ifN H; obtain ⟨c31b0, H⟩ := H
       replace H := ifN H; obtain ⟨c32b0, H⟩ := H
       replace H := ifN H; obtain ⟨c33b0, H⟩ := H
       replace H := ifQ H; rcases H with ⟨c34, H⟩ | ⟨c34, H⟩
       · have c34b0 := beq_iff_eq.mpr c34
         have c34b1 := bne_eq_false_iff_eq.mpr c34
         clear c34
         replace H := bindA H; obtain ⟨⟨t237, t238⟩, A35, H⟩ := H
         dsimp only at H
         generalize hy239 : ((x228002_1.set (x29_1 : Int).toNat (⟨t237, t238⟩ : S83)) : List (S83)) = y239 at H
         have Ny239 := Aside0.mk hy239.symm; clear hy239
         have H' := Aside0.mk H
         clear H
         have p233 : 0 <= (x29_1 : Int) := OD
         have q233 : x29_1 < (x228002_1.length : Int) := OD
         obtain ⟨ad233, e233, hx233_0, hx233_1⟩ := at_T83 (R_reads' HO_228002.1).2.2 x29_1 p233 q233
         obtain rfl : ad228 = ad233 := (by injection e233)
         replace p233 := eq_true p233
         replace q233 := eq_true q233
         try go_wp2_with (first | ((with_reducible refine gate_dst (N := 8) rfl ?_); refine boxE (cs := #[.int .i64 0, .int .i64 0]) (t := 83) ?_; intro gb234 hg w37 hbox hb; refine E12 (R_below (R_elderB (PR HO_228002.1) gb234 (Nat.le_of_eq hg.symm)) hb) (bB BK227.1 hb) (bB BK229.1 hb) (Kept.below (S := (fun k_ => P0_2_ k_)) (KL HK.1) hb) (bS HB.1 hb) (hbox) ((by rw [hg]; exact (by first | exact HK.1.1 | exact (show Kept w _ (fun k_ => P0_2_ k_) from KL HK.1).1) : w.heap.size <= gb234)) (gwM hg (bZ HB.1) : w0.heap.size <= gb234) (nB BK227.1 hg) (nC BK227.1 hg) (nB BK229.1 hg) (nC BK229.1 hg) ?_; clear HO_228002 BK227 BK229 HK HB; intro HO_228002 BK227 BK229 HK HB BK234 GW234 GE234 NB227_234 NB234_227 NB229_234 NB234_229; clear hb hbox hg; have hnb38 := NB234_227.1; have hnc38 := NB227_234.1; have hnb39 := NB234_229.1; have hnc39 := NB229_234.1; obtain ⟨hcz40_0, hcz40_1, hfz40_0, hfz40_1⟩ := cz2 BK234.1))
         have n_ : (fun w41 : World => (Kd.R k83 83 w41 w0.heap.size (fun k_ => (P0_2_ k_ ∨ w.heap.size <= k_) /\ k_ ≠ gb229 /\ k_ ≠ gb234) (.slice (some ad228) x228002_1.length co20) x228002_1) /\ (w41.heap[gb227]? = some (.cells #[.int .i64 a0_0, .int .i64 a0_1, .slice (some ad228) x228002_1.length co20] 30 (0, 0))) /\ (w41.heap[gb229]? = some (.cells #[.int .i64 x230000_1, .int .i64 x230001_1] 83 (0, 0))) /\ (w41.heap[gb234]? = some (.cells #[.int .i64 ((rd_T83 x228002_1 x29_1).f0), .int .i64 ((rd_T83 x228002_1 x29_1).f1)] 83 (0, 0))) /\ (Kept w w41 (fun k_ => P0_2_ k_)) /\ (Below w0.heap.size w0 w41)) ((w37.setCell ⟨gb234, 0, none⟩ (.int .i64 ((rd_T83 x228002_1 x29_1).f0))).setCell ⟨gb234, 1, none⟩ (.int .i64 ((rd_T83 x228002_1 x29_1).f1))) := ⟨by (with_reducible repeat (first | apply R_alloc | apply R_drewN | apply R_drew)); exact R_mono (RQ gb234 1 (RQ gb234 0 (R_mono HO_228002.1 (fun k_ hk => (⟨hk, hk.2⟩ : _ /\ k_ ≠ gb234))) _) _) (fun _ hk => ⟨hk.1.1.1, ⟨hk.1.1.2, hk.1.2⟩⟩), by (with_reducible repeat (first | refine blk_drewN ?_ _ | refine blk_drew ?_ | refine blk_alloc ?_ _)); refine blk_far ?_ NB227_234.1 _; (with_reducible repeat (first | refine blk_drewN ?_ _ | refine blk_drew ?_ | refine blk_alloc ?_ _)); refine blk_far ?_ NB227_234.1 _; (with_reducible repeat (first | refine blk_drewN ?_ _ | refine blk_drew ?_ | refine blk_alloc ?_ _)); exact BK227.1, by (with_reducible repeat (first | refine blk_drewN ?_ _ | refine blk_drew ?_ | refine blk_alloc ?_ _)); refine blk_far ?_ NB229_234.1 _; (with_reducible repeat (first | refine blk_drewN ?_ _ | refine blk_drew ?_ | refine blk_alloc ?_ _)); refine blk_far ?_ NB229_234.1 _; (with_reducible repeat (first | refine blk_drewN ?_ _ | refine blk_drew ?_ | refine blk_alloc ?_ _)); exact BK229.1, by (with_reducible repeat (first | refine blk_drewN ?_ _ | refine blk_drew ?_ | refine blk_alloc ?_ _)); refine blk_put (cs := #[.int .i64 ((rd_T83 x228002_1 x29_1).f0), .int .i64 0]) ?_ 1 _ rfl; (with_reducible repeat (first | refine blk_drewN ?_ _ | refine blk_drew ?_ | refine blk_alloc ?_ _)); refine blk_put (cs := #[.int .i64 0, .int .i64 0]) ?_ 0 _ rfl; (with_reducible repeat (first | refine blk_drewN ?_ _ | refine blk_drew ?_ | refine blk_alloc ?_ _)); exact BK234.1, KL HK.1, BL HB.1⟩
         (try clear HO_228002)
         (try clear BK227)
         (try clear BK229)
         (try clear BK234)
         (try clear HK)
         (try clear HB)
         generalize ((w37.setCell ⟨gb234, 0, none⟩ (.int .i64 ((rd_T83 x228002_1 x29_1).f0))).setCell ⟨gb234, 1, none⟩ (.int .i64 ((rd_T83 x228002_1 x29_1).f1))) = w41 at n_ ⊢
         obtain ⟨h0_, h1_, h2_, h3_, h4_, h5_⟩ := n_
         refine E6 h0_ h1_ h2_ h3_ h4_ h5_ ?_
         clear h0_ h1_ h2_ h3_ h4_ h5_
         intro HO_228002 BK227 BK229 BK234 HK HB
         refine E6 (R_drew HO_228002.1) (blk_drew BK227.1) (blk_drew BK229.1) (blk_drew BK234.1) (Kept.drew HK.1) (below_drew1 HB.1) ?_
         clear HO_228002 BK227 BK229 BK234 HK HB
         intro HO_228002 BK227 BK229 BK234 HK HB
         have p235 : 0 <= (x29_1 : Int) := OD
         have q235 : x29_1 < (l1.length : Int) := OD
         obtain ⟨ad235, e235, hx235_0⟩ := Kd.at_int (C_kept_now HR1.1 HK.1) x29_1 p235 q235
         have hw235_0 := hx235_0
         cases e235
         replace p235 := eq_true p235
         replace q235 := eq_true q235
         have p236 : 0 <= (a2 : Int) := OD
         have q236 : a2 < (l1.length : Int) := OD
         obtain ⟨ad236, e236, hx236_0⟩ := Kd.at_int (C_kept_now HR1.1 HK.1) a2 p236 q236
         have hw236_0 := hx236_0
         obtain rfl : ad235 = ad236 := (by injection e236)
         replace p236 := eq_true p236
         replace q236 := eq_true q236
         refine start_ (n := 14) (S := fun w' => w'.cell? ⟨gb234, 0, none⟩ = some (.int .i64 ((rd_T83 x228002_1 x29_1).f0)) /\ w'.cell? ⟨gb234, 1, none⟩ = some (.int .i64 ((rd_T83 x228002_1 x29_1).f1)) /\ w'.cell? (ad235.add (x29_1).toNat) = some (.int .i64 (rd l1 x29_1)) /\ w'.cell? (ad235.add (a2).toNat) = some (.int .i64 (rd l1 a2))) (ds := []) #[Zz,Zz,Zz,Zz,Zz,Zz,Zz,Zz,Zz,Zz,Zz,Zz,Zz,Zz] (by kernel_rfl) rfl rfl ⟨(blk_cell BK234.1 0).trans rfl, (blk_cell BK234.1 1).trans rfl, (Kd.foot_int (HR1.1 _ (by repeat (first | exact HK.1 | apply Kept.alloc | apply Kept.drewN | apply Kept.drew))) x29_1 (of_eq_true p235) (of_eq_true q235)), (Kd.foot_int (HR1.1 _ (by repeat (first | exact HK.1 | apply Kept.alloc | apply Kept.drewN | apply Kept.drew))) a2 (of_eq_true p236) (of_eq_true q236))⟩ (fun hHeld => ?_); refine with_tabW spec_flPass.tab9 spec_flPass.bits9 (fun HT_ HW_ => ?_)
         generalize w41.drew = w42 at HO_228002 BK227 BK229 BK234 HK HB hx235_0 hx236_0 hHeld ⊢
         refine pureF 0 (N := some 34) HT_.1 ?_
         refine takeE 1 (N := some 35) HT_.1 HW_.1 hHeld ?_
         refine pureF 2 (N := some 36) HT_.1 ?_
         refine pureF 3 (N := some 37) HT_.1 ?_
         refine pureF 4 (N := some 38) HT_.1 ?_
         refine pureF 5 (N := some 39) HT_.1 ?_
         refine pureF 6 (N := some 40) HT_.1 ?_
         refine pureF 8 (N := some 42) HT_.1 ?_
         refine pureF 9 (N := some 43) HT_.1 ?_
         refine pureF 10 (N := some 44) HT_.1 ?_
         refine takeE 7 (N := some 41) HT_.1 HW_.1 hHeld ?_
         refine takeE 11 (N := some 45) HT_.1 HW_.1 hHeld ?_
         refine pureF 12 (N := some 46) HT_.1 ?_
         refine pureF 13 (N := some 47) HT_.1 ?_
         refine done_ (done_of HT_.1 (by kernel_rfl)) ?_
         try go_wp2
         refine E6 (R_drew HO_228002.1) (blk_drew BK227.1) (blk_drew BK229.1) (blk_drew BK234.1) (Kept.drew HK.1) (below_drew1 HB.1) ?_
         clear HO_228002 BK227 BK229 BK234 HK HB
         intro HO_228002 BK227 BK229 BK234 HK HB
         refine start_ (n := 7) (S := fun w' => w'.cell? ⟨gb227, 0, none⟩ = some (.int .i64 a0_0) /\ w'.cell? ⟨gb227, 1, none⟩ = some (.int .i64 a0_1) /\ w'.cell? ⟨gb227, 2, none⟩ = some (.slice (some ad228) x228002_1.length co20) /\ w'.cell? ⟨gb234, 0, none⟩ = some (.int .i64 ((rd_T83 x228002_1 x29_1).f0)) /\ w'.cell? ⟨gb234, 1, none⟩ = some (.int .i64 ((rd_T83 x228002_1 x29_1).f1))) (ds := [6]) #[Zz,Zz,Zz,Zz,Zz,Zz,Zz] (by kernel_rfl) rfl rfl ⟨(blk_cell BK227.1 0).trans rfl, (blk_cell BK227.1 1).trans rfl, (blk_cell BK227.1 2).trans rfl, (blk_cell BK234.1 0).trans rfl, (blk_cell BK234.1 1).trans rfl⟩ (fun hHeld => ?_)
         generalize w42.drew = w43 at HO_228002 BK227 BK229 BK234 HK HB hHeld ⊢
         refine pure_ (i := 0) (N := some 48) (v := ?_) (a' := ?_) #[Yy,Zz,Zz,Zz,Zz,Zz,Zz] rfl rfl (by kernel_rfl) (fun _ _ _ h => h) (Or.inl ⟨by rfl, ?_⟩) ?_ ?_
         rotate_left
         · intro w'
           go_simp
           with_reducible rfl
         rotate_left
         · simp only [Act.put, List.setIfInBounds_toArray, List.set_cons_zero, List.set_cons_succ, i64_w, i32_w]
           rfl
         refine pure_ (i := 2) (N := some 50) (v := ?_) (a' := ?_) #[Yy,Zz,Yy,Zz,Zz,Zz,Zz] rfl rfl (by kernel_rfl) (fun _ _ _ h => h) (Or.inl ⟨by rfl, ?_⟩) ?_ ?_
         rotate_left
         · intro w'
           go_simp
           with_reducible rfl
         rotate_left
         · simp only [Act.put, List.setIfInBounds_toArray, List.set_cons_zero, List.set_cons_succ, i64_w, i32_w]
           rfl
         refine takeF 1 (N := some 49) hHeld ?_
         refine takeF 3 (N := some 51) hHeld ?_
         refine one_ (i := 4) (N := some 52) #[Yy,Yy,Yy,Yy,Yy,Zz,Zz] rfl rfl (by kernel_rfl) (by decide) (fun K hK => ?_)
         refine goes_ Try.func101 (by kernel_rfl) rfl #[.agg #[.int .i64 ((rd_T83 x228002_1 x29_1).f0), .int .i64 ((rd_T83 x228002_1 x29_1).f1)]] (by rfl) rfl rfl (by (try simp only [List.map_toArray, List.map_cons, List.map_nil]); first | done | rfl | (simp only [List.length_drop, List.length_take]; rfl)) ?_
         with_reducible refine (spec_paTurn.calls ((rd_T83 x228002_1 x29_1).f0) ((rd_T83 x228002_1 x29_1).f1) t237 t238 _ A35.1).mono ?_
         rintro e w44 ⟨rfl, hb⟩
         refine ⟨_, rfl, ?_⟩
         refine E6 (rB HO_228002.1 hb) (bB BK227.1 hb) (bB BK229.1 hb) (bB BK234.1 hb) (Kept.below (S := (fun k_ => P0_2_ k_)) (KL HK.1) hb) (bS HB.1 hb) ?_
         clear HO_228002 BK227 BK229 BK234 HK HB
         intro HO_228002 BK227 BK229 BK234 HK HB
         (try clear hb)
         (try clear hb2)
         (try clear hk)
         (try clear hi)
         have p36 : 0 <= (x29_1 : Int) := OD
         have q36 : (x29_1 : Int) < ((x228002_1.length : Int) : Int) := OD
         obtain ⟨go36, co36, eo36, gb36, gl36, cl36, HG36⟩ := R_form HO_228002.1 (by omega)
         (first | cases eo36 | (injection eo36 with ea_ en_ ec_; (first | subst ea_ | (injection ea_ with ea_; subst ea_)); subst ec_; clear en_))
         have GB36 := Aside0.mk gb36
         have GG36 := Aside0.mk HG36
         clear gb36 gl36 HG36
         have HMgo36 := Aside0.mk (show (P0_2_ go36 ∨ w.heap.size <= go36) from (HO_228002.1.1 _ rfl).1)
         (first | simp only [add_plain] at hx228_0 | skip)
         (first | simp only [add_plain] at hx228_1 | skip)
         (first | simp only [add_plain] at hx233_0 | skip)
         (first | simp only [add_plain] at hx233_1 | skip)
         obtain ⟨ce36, hcl36, hM36, hcc36, hfr36⟩ := R_elem HO_228002.1 z83 (x29_1 : Int) p36 q36
         obtain rfl := k83_openM hM36
         have hx36_0 : World.cell? _ ⟨go36, (x29_1 : Int).toNat * 2, none⟩ = some (.int .i64 ((rd_T83 x228002_1 x29_1).f0)) := hcc36 0 _ rfl
         have hx36_1 : World.cell? _ ⟨go36, (x29_1 : Int).toNat * 2 + 1, none⟩ = some (.int .i64 ((rd_T83 x228002_1 x29_1).f1)) := hcc36 1 _ rfl
         have hf36_0 : World.frozen? _ ⟨go36, (x29_1 : Int).toNat * 2, none⟩ = false := hfr36 0
         have hf36_1 : World.frozen? _ ⟨go36, (x29_1 : Int).toNat * 2 + 1, none⟩ = false := hfr36 1
         (try clear hM36); clear hcl36 hcc36 hfr36
         replace p36 := eq_true p36
         replace q36 := eq_true q36
         obtain ⟨ce45, hcl45, hM45, hcc45, hfr45⟩ := R_elem HO_228002.1 z83 (x29_1 : Int) (OD) (by have h_ : (x29_1 : Int) < ((x228002_1.length : Int) : Int) := OD; first | exact h_ | (have e_ := (R_reads' HO_228002.1).1; omega) | simpa using h_)
         obtain rfl := k83_openM hM45
         have HP45 := (R_seg HO_228002.1 (x29_1 : Int) (OD) (by have h_ : (x29_1 : Int) < ((x228002_1.length : Int) : Int) := OD; first | exact h_ | (have e_ := (R_reads' HO_228002.1).1; omega) | simpa using h_) (seg := [.int .i64 t237, .int .i64 t238]) (j := 0) hcl45 hcc45 (show 2 <= 2 from by decide) (x' := (⟨t237, t238⟩ : S83)) (k83_mkM _ _ _ (⟨t237, t238⟩ : S83) ) (fun _ hk => hk)).1
         rw [<- Ny239.1] at HP45
         have HQ45 := Aside0.mk HP45
         (try clear hM45); clear hcl45 hcc45 hfr45 HP45
         refine hK.out _ _ ⟨(blk_cell BK227.1 0).trans rfl, (blk_cell BK227.1 1).trans rfl, (blk_cell BK227.1 2).trans rfl, (blk_cell BK234.1 0).trans rfl, (blk_cell BK234.1 1).trans rfl⟩ (fun hHeld => ?_)
         clear hK K
         refine norm_ (a' := ?_) ?_ ?_
         rotate_left
         · show Act.put _ (some 52) _ = _
           simp only [Act.put, List.setIfInBounds_toArray, List.set_cons_zero, List.set_cons_succ, i64_w, i32_w]
           rfl
         refine pure_ (i := 5) (N := some 53) (v := ?_) (a' := ?_) #[Yy,Yy,Yy,Yy,Yy,Yy,Zz] rfl rfl (by kernel_rfl) (fun _ _ _ h => h) (Or.inl ⟨by rfl, ?_⟩) ?_ ?_
         rotate_left
         · intro w'
           go_simp
           with_reducible rfl
         rotate_left
         · simp only [Act.put, List.setIfInBounds_toArray, List.set_cons_zero, List.set_cons_succ, i64_w, i32_w]
           rfl
         refine last_ (i := 6) (N := none) #[Yy,Yy,Yy,Yy,Yy,Yy,Yy] rfl rfl (by kernel_rfl) (by decide) (fun K hK => ?_)
         refine skip_ (w1 := ?_) (by rfl) rfl ?_ ?_
         rotate_left
         · go_simp
           rfl
         refine hK.out _ _ ?_
         clear hK K
         refine done_ (by kernel_rfl) ?_
         try go_wp2
         (try simp only [<- hl228002_1])
         go_roundg k1
         case measure => have := HK1.1; omega
         case rel => exact ⟨(wrap64 (x29_1 + 1)), (y239), (x230000_1), (x230001_1), RG, H', ⟨by have := HK1.1; omega⟩, ⟨by (try simp only [hl228002_1]); (with_reducible repeat (first | apply R_alloc | apply R_drewN | apply R_drew)); exact R_mono HQ45.1 (fun _ hk => ⟨hk.1, hk.2.1⟩)⟩, ⟨by (try simp only [hl228002_1]); (with_reducible repeat (first | refine blk_drewN ?_ _ | refine blk_drew ?_ | refine blk_alloc ?_ _)); refine blk_far ?_ (by have h_ := R_ne HO_228002.1 BK227.1 (by decide); intro e_; exact h_ (by rw [e_]; rfl)) _; (with_reducible repeat (first | refine blk_drewN ?_ _ | refine blk_drew ?_ | refine blk_alloc ?_ _)); refine blk_far ?_ (by have h_ := R_ne HO_228002.1 BK227.1 (by decide); intro e_; exact h_ (by rw [e_]; rfl)) _; (with_reducible repeat (first | refine blk_drewN ?_ _ | refine blk_drew ?_ | refine blk_alloc ?_ _)); exact BK227.1⟩, ⟨by (try simp only [hl228002_1]); (with_reducible repeat (first | refine blk_drewN ?_ _ | refine blk_drew ?_ | refine blk_alloc ?_ _)); refine blk_far ?_ (by have h_ := R_away HO_228002.1 (fun _ hk => hk.2.1); intro e_; exact h_ (by rw [e_]; rfl)) _; (with_reducible repeat (first | refine blk_drewN ?_ _ | refine blk_drew ?_ | refine blk_alloc ?_ _)); refine blk_far ?_ (by have h_ := R_away HO_228002.1 (fun _ hk => hk.2.1); intro e_; exact h_ (by rw [e_]; rfl)) _; (with_reducible repeat (first | refine blk_drewN ?_ _ | refine blk_drew ?_ | refine blk_alloc ?_ _)); exact BK229.1⟩, ⟨by repeat (first | (with_reducible first | exact HK.1 | apply Kept.alloc | apply Kept.drewN | apply Kept.drew | refine Kept.setCell ?_ HMgo36.1 _ | refine Kept.setCell ?_ HMgo36.1 _ | refine Kept.setCell ?_ (.inr GW227.1) _ | refine Kept.setCell ?_ (.inr GW229.1) _ | refine Kept.setCell ?_ (.inr GW234.1) _) | exact HK.1)⟩, ⟨BL HB.1⟩⟩
       have c34b0 := beq_eq_false_iff_ne.mpr c34
       have c34b1 := bne_iff_ne.mpr c34
       have H' := Aside0.mk H
       clear H
       have p233 : 0 <= (x29_1 : Int) := OD
       have q233 : x29_1 < (x228002_1.length : Int) := OD
       obtain ⟨ad233, e233, hx233_0, hx233_1⟩ := at_T83 (R_reads' HO_228002.1).2.2 x29_1 p233 q233
       obtain rfl : ad228 = ad233 := (by injection e233)
       replace p233 := eq_true p233
       replace q233 := eq_true q233
       try go_wp2_with (first | ((with_reducible refine gate_dst (N := 8) rfl ?_); refine boxE (cs := #[.int .i64 0, .int .i64 0]) (t := 83) ?_; intro gb234 hg w46 hbox hb; refine E12 (R_below (R_elderB (PR HO_228002.1) gb234 (Nat.le_of_eq hg.symm)) hb) (bB BK227.1 hb) (bB BK229.1 hb) (Kept.below (S := (fun k_ => P0_2_ k_)) (KL HK.1) hb) (bS HB.1 hb) (hbox) ((by rw [hg]; exact (by first | exact HK.1.1 | exact (show Kept w _ (fun k_ => P0_2_ k_) from KL HK.1).1) : w.heap.size <= gb234)) (gwM hg (bZ HB.1) : w0.heap.size <= gb234) (nB BK227.1 hg) (nC BK227.1 hg) (nB BK229.1 hg) (nC BK229.1 hg) ?_; clear HO_228002 BK227 BK229 HK HB; intro HO_228002 BK227 BK229 HK HB BK234 GW234 GE234 NB227_234 NB234_227 NB229_234 NB234_229; clear hb hbox hg; have hnb47 := NB234_227.1; have hnc47 := NB227_234.1; have hnb48 := NB234_229.1; have hnc48 := NB229_234.1; obtain ⟨hcz49_0, hcz49_1, hfz49_0, hfz49_1⟩ := cz2 BK234.1))
       have n_ : (fun w50 : World => (Kd.R k83 83 w50 w0.heap.size (fun k_ => (P0_2_ k_ ∨ w.heap.size <= k_) /\ k_ ≠ gb229 /\ k_ ≠ gb234) (.slice (some ad228) x228002_1.length co20) x228002_1) /\ (w50.heap[gb227]? = some (.cells #[.int .i64 a0_0, .int .i64 a0_1, .slice (some ad228) x228002_1.length co20] 30 (0, 0))) /\ (w50.heap[gb229]? = some (.cells #[.int .i64 x230000_1, .int .i64 x230001_1] 83 (0, 0))) /\ (w50.heap[gb234]? = some (.cells #[.int .i64 ((rd_T83 x228002_1 x29_1).f0), .int .i64 ((rd_T83 x228002_1 x29_1).f1)] 83 (0, 0))) /\ (Kept w w50 (fun k_ => P0_2_ k_)) /\ (Below w0.heap.size w0 w50)) ((w46.setCell ⟨gb234, 0, none⟩ (.int .i64 ((rd_T83 x228002_1 x29_1).f0))).setCell ⟨gb234, 1, none⟩ (.int .i64 ((rd_T83 x228002_1 x29_1).f1))) := ⟨by (with_reducible repeat (first | apply R_alloc | apply R_drewN | apply R_drew)); exact R_mono (RQ gb234 1 (RQ gb234 0 (R_mono HO_228002.1 (fun k_ hk => (⟨hk, hk.2⟩ : _ /\ k_ ≠ gb234))) _) _) (fun _ hk => ⟨hk.1.1.1, ⟨hk.1.1.2, hk.1.2⟩⟩), by (with_reducible repeat (first | refine blk_drewN ?_ _ | refine blk_drew ?_ | refine blk_alloc ?_ _)); refine blk_far ?_ NB227_234.1 _; (with_reducible repeat (first | refine blk_drewN ?_ _ | refine blk_drew ?_ | refine blk_alloc ?_ _)); refine blk_far ?_ NB227_234.1 _; (with_reducible repeat (first | refine blk_drewN ?_ _ | refine blk_drew ?_ | refine blk_alloc ?_ _)); exact BK227.1, by (with_reducible repeat (first | refine blk_drewN ?_ _ | refine blk_drew ?_ | refine blk_alloc ?_ _)); refine blk_far ?_ NB229_234.1 _; (with_reducible repeat (first | refine blk_drewN ?_ _ | refine blk_drew ?_ | refine blk_alloc ?_ _)); refine blk_far ?_ NB229_234.1 _; (with_reducible repeat (first | refine blk_drewN ?_ _ | refine blk_drew ?_ | refine blk_alloc ?_ _)); exact BK229.1, by (with_reducible repeat (first | refine blk_drewN ?_ _ | refine blk_drew ?_ | refine blk_alloc ?_ _)); refine blk_put (cs := #[.int .i64 ((rd_T83 x228002_1 x29_1).f0), .int .i64 0]) ?_ 1 _ rfl; (with_reducible repeat (first | refine blk_drewN ?_ _ | refine blk_drew ?_ | refine blk_alloc ?_ _)); refine blk_put (cs := #[.int .i64 0, .int .i64 0]) ?_ 0 _ rfl; (with_reducible repeat (first | refine blk_drewN ?_ _ | refine blk_drew ?_ | refine blk_alloc ?_ _)); exact BK234.1, KL HK.1, BL HB.1⟩
       (try clear HO_228002)
       (try clear BK227)
       (try clear BK229)
       (try clear BK234)
       (try clear HK)
       (try clear HB)
       generalize ((w46.setCell ⟨gb234, 0, none⟩ (.int .i64 ((rd_T83 x228002_1 x29_1).f0))).setCell ⟨gb234, 1, none⟩ (.int .i64 ((rd_T83 x228002_1 x29_1).f1))) = w50 at n_ ⊢
       obtain ⟨h0_, h1_, h2_, h3_, h4_, h5_⟩ := n_
       refine E6 h0_ h1_ h2_ h3_ h4_ h5_ ?_
       clear h0_ h1_ h2_ h3_ h4_ h5_
       intro HO_228002 BK227 BK229 BK234 HK HB
       refine E6 (R_drew HO_228002.1) (blk_drew BK227.1) (blk_drew BK229.1) (blk_drew BK234.1) (Kept.drew HK.1) (below_drew1 HB.1) ?_
       clear HO_228002 BK227 BK229 BK234 HK HB
       intro HO_228002 BK227 BK229 BK234 HK HB
       have p235 : 0 <= (x29_1 : Int) := OD
       have q235 : x29_1 < (l1.length : Int) := OD
       obtain ⟨ad235, e235, hx235_0⟩ := Kd.at_int (C_kept_now HR1.1 HK.1) x29_1 p235 q235
       have hw235_0 := hx235_0
       cases e235
       replace p235 := eq_true p235
       replace q235 := eq_true q235
       have p236 : 0 <= (a2 : Int) := OD
       have q236 : a2 < (l1.length : Int) := OD
       obtain ⟨ad236, e236, hx236_0⟩ := Kd.at_int (C_kept_now HR1.1 HK.1) a2 p236 q236
       have hw236_0 := hx236_0
       obtain rfl : ad235 = ad236 := (by injection e236)
       replace p236 := eq_true p236
       replace q236 := eq_true q236
       refine start_ (n := 14) (S := fun w' => w'.cell? ⟨gb234, 0, none⟩ = some (.int .i64 ((rd_T83 x228002_1 x29_1).f0)) /\ w'.cell? ⟨gb234, 1, none⟩ = some (.int .i64 ((rd_T83 x228002_1 x29_1).f1)) /\ w'.cell? (ad235.add (x29_1).toNat) = some (.int .i64 (rd l1 x29_1)) /\ w'.cell? (ad235.add (a2).toNat) = some (.int .i64 (rd l1 a2))) (ds := []) #[Zz,Zz,Zz,Zz,Zz,Zz,Zz,Zz,Zz,Zz,Zz,Zz,Zz,Zz] (by kernel_rfl) rfl rfl ⟨(blk_cell BK234.1 0).trans rfl, (blk_cell BK234.1 1).trans rfl, (Kd.foot_int (HR1.1 _ (by repeat (first | exact HK.1 | apply Kept.alloc | apply Kept.drewN | apply Kept.drew))) x29_1 (of_eq_true p235) (of_eq_true q235)), (Kd.foot_int (HR1.1 _ (by repeat (first | exact HK.1 | apply Kept.alloc | apply Kept.drewN | apply Kept.drew))) a2 (of_eq_true p236) (of_eq_true q236))⟩ (fun hHeld => ?_); refine with_tabW spec_flPass.tab9 spec_flPass.bits9 (fun HT_ HW_ => ?_)
       generalize w50.drew = w51 at HO_228002 BK227 BK229 BK234 HK HB hx235_0 hx236_0 hHeld ⊢
       refine pureF 0 (N := some 34) HT_.1 ?_
       refine takeE 1 (N := some 35) HT_.1 HW_.1 hHeld ?_
       refine pureF 2 (N := some 36) HT_.1 ?_
       refine pureF 3 (N := some 37) HT_.1 ?_
       refine pureF 4 (N := some 38) HT_.1 ?_
       refine pureF 5 (N := some 39) HT_.1 ?_
       refine pureF 6 (N := some 40) HT_.1 ?_
       refine pureF 8 (N := some 42) HT_.1 ?_
       refine pureF 9 (N := some 43) HT_.1 ?_
       refine pureF 10 (N := some 44) HT_.1 ?_
       refine takeE 7 (N := some 41) HT_.1 HW_.1 hHeld ?_
       refine takeE 11 (N := some 45) HT_.1 HW_.1 hHeld ?_
       refine pureF 12 (N := some 46) HT_.1 ?_
       refine pureF 13 (N := some 47) HT_.1 ?_
       refine done_ (done_of HT_.1 (by kernel_rfl)) ?_
       try go_wp2
       (try simp only [<- hl228002_1])
       go_roundg k1
       case measure => have := HK1.1; omega
       case rel => exact ⟨(wrap64 (x29_1 + 1)), (x228002_1), (x230000_1), (x230001_1), RG, H', ⟨by have := HK1.1; omega⟩, ⟨by (try simp only [hl228002_1]); (with_reducible repeat (first | apply R_alloc | apply R_drewN | apply R_drew)); exact R_mono HO_228002.1 (fun _ hk => ⟨hk.1, hk.2.1⟩)⟩, ⟨PB1 BK227.1 hl228002_1⟩, ⟨PB1 BK229.1 hl228002_1⟩, ⟨KL HK.1⟩, ⟨BL HB.1⟩⟩
     have c30b0 := beq_eq_false_iff_ne.mpr c30
     have c30b1 := bne_iff_ne.mpr c30
     have H' := Aside0.mk H
     clear H
     have p233 : 0 <= (x29_1 : Int) := OD
     have q233 : x29_1 < (x228002_1.length : Int) := OD
     obtain ⟨ad233, e233, hx233_0, hx233_1⟩ := at_T83 (R_reads' HO_228002.1).2.2 x29_1 p233 q233
     obtain rfl : ad228 = ad233 := (by injection e233)
     replace p233 := eq_true p233
     replace q233 := eq_true q233
     try go_wp2_with (first | ((with_reducible refine gate_dst (N := 8) rfl ?_); refine boxE (cs := #[.int .i64 0, .int .i64 0]) (t := 83) ?_; intro gb234 hg w52 hbox hb; refine E12 (R_below (R_elderB (PR HO_228002.1) gb234 (Nat.le_of_eq hg.symm)) hb) (bB BK227.1 hb) (bB BK229.1 hb) (Kept.below (S := (fun k_ => P0_2_ k_)) (KL HK.1) hb) (bS HB.1 hb) (hbox) ((by rw [hg]; exact (by first | exact HK.1.1 | exact (show Kept w _ (fun k_ => P0_2_ k_) from KL HK.1).1) : w.heap.size <= gb234)) (gwM hg (bZ HB.1) : w0.heap.size <= gb234) (nB BK227.1 hg) (nC BK227.1 hg) (nB BK229.1 hg) (nC BK229.1 hg) ?_; clear HO_228002 BK227 BK229 HK HB; intro HO_228002 BK227 BK229 HK HB BK234 GW234 GE234 NB227_234 NB234_227 NB229_234 NB234_229; clear hb hbox hg; have hnb53 := NB234_227.1; have hnc53 := NB227_234.1; have hnb54 := NB234_229.1; have hnc54 := NB229_234.1; obtain ⟨hcz55_0, hcz55_1, hfz55_0, hfz55_1⟩ := cz2 BK234.1))
     have n_ : (fun w56 : World => (Kd.R k83 83 w56 w0.heap.size (fun k_ => (P0_2_ k_ ∨ w.heap.size <= k_) /\ k_ ≠ gb229 /\ k_ ≠ gb234) (.slice (some ad228) x228002_1.length co20) x228002_1) /\ (w56.heap[gb227]? = some (.cells #[.int .i64 a0_0, .int .i64 a0_1, .slice (some ad228) x228002_1.length co20] 30 (0, 0))) /\ (w56.heap[gb229]? = some (.cells #[.int .i64 x230000_1, .int .i64 x230001_1] 83 (0, 0))) /\ (w56.heap[gb234]? = some (.cells #[.int .i64 ((rd_T83 x228002_1 x29_1).f0), .int .i64 ((rd_T83 x228002_1 x29_1).f1)] 83 (0, 0))) /\ (Kept w w56 (fun k_ => P0_2_ k_)) /\ (Below w0.heap.size w0 w56)) ((w52.setCell ⟨gb234, 0, none⟩ (.int .i64 ((rd_T83 x228002_1 x29_1).f0))).setCell ⟨gb234, 1, none⟩ (.int .i64 ((rd_T83 x228002_1 x29_1).f1))) := ⟨by (with_reducible repeat (first | apply R_alloc | apply R_drewN | apply R_drew)); exact R_mono (RQ gb234 1 (RQ gb234 0 (R_mono HO_228002.1 (fun k_ hk => (⟨hk, hk.2⟩ : _ /\ k_ ≠ gb234))) _) _) (fun _ hk => ⟨hk.1.1.1, ⟨hk.1.1.2, hk.1.2⟩⟩), by (with_reducible repeat (first | refine blk_drewN ?_ _ | refine blk_drew ?_ | refine blk_alloc ?_ _)); refine blk_far ?_ NB227_234.1 _; (with_reducible repeat (first | refine blk_drewN ?_ _ | refine blk_drew ?_ | refine blk_alloc ?_ _)); refine blk_far ?_ NB227_234.1 _; (with_reducible repeat (first | refine blk_drewN ?_ _ | refine blk_drew ?_ | refine blk_alloc ?_ _)); exact BK227.1, by (with_reducible repeat (first | refine blk_drewN ?_ _ | refine blk_drew ?_ | refine blk_alloc ?_ _)); refine blk_far ?_ NB229_234.1 _; (with_reducible repeat (first | refine blk_drewN ?_ _ | refine blk_drew ?_ | refine blk_alloc ?_ _)); refine blk_far ?_ NB229_234.1 _; (with_reducible repeat (first | refine blk_drewN ?_ _ | refine blk_drew ?_ | refine blk_alloc ?_ _)); exact BK229.1, by (with_reducible repeat (first | refine blk_drewN ?_ _ | refine blk_drew ?_ | refine blk_alloc ?_ _)); refine blk_put (cs := #[.int .i64 ((rd_T83 x228002_1 x29_1).f0), .int .i64 0]) ?_ 1 _ rfl; (with_reducible repeat (first | refine blk_drewN ?_ _ | refine blk_drew ?_ | refine blk_alloc ?_ _)); refine blk_put (cs := #[.int .i64 0, .int .i64 0]) ?_ 0 _ rfl; (with_reducible repeat (first | refine blk_drewN ?_ _ | refine blk_drew ?_ | refine blk_alloc ?_ _)); exact BK234.1, KL HK.1, BL HB.1⟩
     (try clear HO_228002)
     (try clear BK227)
     (try clear BK229)
     (try clear BK234)
     (try clear HK)
     (try clear HB)
     generalize ((w52.setCell ⟨gb234, 0, none⟩ (.int .i64 ((rd_T83 x228002_1 x29_1).f0))).setCell ⟨gb234, 1, none⟩ (.int .i64 ((rd_T83 x228002_1 x29_1).f1))) = w56 at n_ ⊢
     obtain ⟨h0_, h1_, h2_, h3_, h4_, h5_⟩ := n_
     refine E6 h0_ h1_ h2_ h3_ h4_ h5_ ?_
     clear h0_ h1_ h2_ h3_ h4_ h5_
     intro HO_228002 BK227 BK229 BK234 HK HB
     refine E6 (R_drew HO_228002.1) (blk_drew BK227.1) (blk_drew BK229.1) (blk_drew BK234.1) (Kept.drew HK.1) (below_drew1 HB.1) ?_
     clear HO_228002 BK227 BK229 BK234 HK HB
     intro HO_228002 BK227 BK229 BK234 HK HB
     refine start_ (n := 14) (S := fun w' => w'.cell? ⟨gb234, 0, none⟩ = some (.int .i64 ((rd_T83 x228002_1 x29_1).f0)) /\ w'.cell? ⟨gb234, 1, none⟩ = some (.int .i64 ((rd_T83 x228002_1 x29_1).f1))) (ds := []) #[Zz,Zz,Zz,Zz,Zz,Zz,Zz,Zz,Zz,Zz,Zz,Zz,Zz,Zz] (by kernel_rfl) rfl rfl ⟨(blk_cell BK234.1 0).trans rfl, (blk_cell BK234.1 1).trans rfl⟩ (fun hHeld => ?_); refine with_tabW spec_flPass.tab9 spec_flPass.bits9 (fun HT_ HW_ => ?_)
     generalize w56.drew = w57 at HO_228002 BK227 BK229 BK234 HK HB hHeld ⊢
     refine pureF 0 (N := some 34) HT_.1 ?_
     refine takeE 1 (N := some 35) HT_.1 HW_.1 hHeld ?_
     refine pureF 2 (N := some 36) HT_.1 ?_
     refine pureF 3 (N := some 37) HT_.1 ?_
     refine pure_ (i := 4) (N := some 38) (v := undef) (a' := ?_) #[Yy,Yy,Yy,Yy,Yy,Zz,Zz,Zz,Zz,Zz,Zz,Zz,Zz,Zz] rfl rfl (any_of HT_.1 (by kernel_rfl)) (fun _ _ _ h => h) (Or.inr ⟨by rfl, rfl⟩) ?_ ?_
     rotate_left
     · simp only [Act.put, List.setIfInBounds_toArray, List.set_cons_zero, List.set_cons_succ, i64_w, i32_w]
       rfl
     refine pure_ (i := 5) (N := some 39) (v := undef) (a' := ?_) #[Yy,Yy,Yy,Yy,Yy,Yy,Zz,Zz,Zz,Zz,Zz,Zz,Zz,Zz] rfl rfl (any_of HT_.1 (by kernel_rfl)) (fun _ _ _ h => h) (Or.inr ⟨by rfl, rfl⟩) ?_ ?_
     rotate_left
     · simp only [Act.put, List.setIfInBounds_toArray, List.set_cons_zero, List.set_cons_succ, i64_w, i32_w]
       rfl
     refine pure_ (i := 6) (N := some 40) (v := undef) (a' := ?_) #[Yy,Yy,Yy,Yy,Yy,Yy,Yy,Zz,Zz,Zz,Zz,Zz,Zz,Zz] rfl rfl (any_of HT_.1 (by kernel_rfl)) (fun _ _ _ h => h) (Or.inr ⟨by rfl, rfl⟩) ?_ ?_
     rotate_left
     · simp only [Act.put, List.setIfInBounds_toArray, List.set_cons_zero, List.set_cons_succ, i64_w, i32_w]
       rfl
     refine pure_ (i := 7) (N := some 41) (v := undef) (a' := ?_) #[Yy,Yy,Yy,Yy,Yy,Yy,Yy,Yy,Zz,Zz,Zz,Zz,Zz,Zz] rfl rfl (any_of HT_.1 (by kernel_rfl)) (fun _ _ _ h => h) (Or.inr ⟨by rfl, rfl⟩) ?_ ?_
     rotate_left
     · simp only [Act.put, List.setIfInBounds_toArray, List.set_cons_zero, List.set_cons_succ, i64_w, i32_w]
       rfl
     refine pure_ (i := 8) (N := some 42) (v := undef) (a' := ?_) #[Yy,Yy,Yy,Yy,Yy,Yy,Yy,Yy,Yy,Zz,Zz,Zz,Zz,Zz] rfl rfl (any_of HT_.1 (by kernel_rfl)) (fun _ _ _ h => h) (Or.inr ⟨by rfl, rfl⟩) ?_ ?_
     rotate_left
     · simp only [Act.put, List.setIfInBounds_toArray, List.set_cons_zero, List.set_cons_succ, i64_w, i32_w]
       rfl
     refine pure_ (i := 9) (N := some 43) (v := undef) (a' := ?_) #[Yy,Yy,Yy,Yy,Yy,Yy,Yy,Yy,Yy,Yy,Zz,Zz,Zz,Zz] rfl rfl (any_of HT_.1 (by kernel_rfl)) (fun _ _ _ h => h) (Or.inr ⟨by rfl, rfl⟩) ?_ ?_
     rotate_left
     · simp only [Act.put, List.setIfInBounds_toArray, List.set_cons_zero, List.set_cons_succ, i64_w, i32_w]
       rfl
     refine pure_ (i := 10) (N := some 44) (v := undef) (a' := ?_) #[Yy,Yy,Yy,Yy,Yy,Yy,Yy,Yy,Yy,Yy,Yy,Zz,Zz,Zz] rfl rfl (any_of HT_.1 (by kernel_rfl)) (fun _ _ _ h => h) (Or.inr ⟨by rfl, rfl⟩) ?_ ?_
     rotate_left
     · simp only [Act.put, List.setIfInBounds_toArray, List.set_cons_zero, List.set_cons_succ, i64_w, i32_w]
       rfl
     refine pure_ (i := 11) (N := some 45) (v := undef) (a' := ?_) #[Yy,Yy,Yy,Yy,Yy,Yy,Yy,Yy,Yy,Yy,Yy,Yy,Zz,Zz] rfl rfl (any_of HT_.1 (by kernel_rfl)) (fun _ _ _ h => h) (Or.inr ⟨by rfl, rfl⟩) ?_ ?_
     rotate_left
     · simp only [Act.put, List.setIfInBounds_toArray, List.set_cons_zero, List.set_cons_succ, i64_w, i32_w]
       rfl
     refine pure_ (i := 12) (N := some 46) (v := undef) (a' := ?_) #[Yy,Yy,Yy,Yy,Yy,Yy,Yy,Yy,Yy,Yy,Yy,Yy,Yy,Zz] rfl rfl (any_of HT_.1 (by kernel_rfl)) (fun _ _ _ h => h) (Or.inr ⟨by rfl, rfl⟩) ?_ ?_
     rotate_left
     · simp only [Act.put, List.setIfInBounds_toArray, List.set_cons_zero, List.set_cons_succ, i64_w, i32_w]
       rfl
     refine pureF 13 (N := some 47) HT_.1 ?_
     refine done_ (done_of HT_.1 (by kernel_rfl)) ?_
     try go_wp2
     (try simp only [<- hl228002_1])
     go_roundg k1
     case measure => have := HK1.1; omega
     case rel => exact ⟨(wrap64 (x29_1 + 1)), (x228002_1), (x230000_1), (x230001_1), RG, H', ⟨by have := HK1.1; omega⟩, ⟨by (try simp only [hl228002_1]); (with_reducible repeat (first | apply R_alloc | apply R_drewN | apply R_drew)); exact R_mono HO_228002.1 (fun _ hk => ⟨hk.1, hk.2.1⟩)⟩, ⟨PB1 BK227.1 hl228002_1⟩, ⟨PB1 BK229.1 hl228002_1⟩, ⟨KL HK.1⟩, ⟨BL HB.1⟩⟩
   rw [hl228002_1] at c27b0
   obtain rfl := Option.some.inj H
   go_wp2
   first | go_end0 | ((try simp only [Exit.inBlock, Exit.then]); refine bodyPost_ret (results_none rfl _ _ _) rfl ?_)
   exact ⟨RF, (by first | exact (RPE (R_mono HO_228002.1 (fun _ hk => hk.1))) | (simp only [hl228002_1]; exact (RPE (R_mono HO_228002.1 (fun _ hk => hk.1))))), BL HB.1, KL HK.1⟩
 have c19b0 := beq_eq_false_iff_ne.mpr c19
 have c19b1 := bne_iff_ne.mpr c19
 obtain rfl := Option.some.inj H
 obtain ⟨Ao58, co58, eo58⟩ := R_slice HO0_2.1
 subst eo58
 go_enter Try.func97, Try.ntmps97
 go_wp2_with (first | ((with_reducible refine gate_dst (N := 3) rfl ?_); refine boxE (cs := #[.int .i64 a0_0, .int .i64 a0_1, .slice Ao58 l0_2.length co58]) (t := 30) ?_; intro gb227 hg w59 hbox hb; refine E6 (rB HO0_2.1 hb) (Kept.below (S := (fun k_ => P0_2_ k_)) (KL HK.1) hb) (bS HB.1 hb) (hbox) ((by rw [hg]; exact (by first | exact HK.1.1 | exact (show Kept w _ (fun k_ => P0_2_ k_) from KL HK.1).1) : w.heap.size <= gb227)) (gwM hg (bZ HB.1) : w0.heap.size <= gb227) ?_; clear HO0_2 HK HB; intro HO0_2 HK HB BK227 GW227 GE227; clear hb hbox hg; obtain ⟨hcz60_0, hcz60_1, hcz60_2, hfz60_0, hfz60_1, hfz60_2⟩ := cz3 BK227.1; have p228 : 0 <= (a2 : Int) := OD; have q228 : a2 < (l0_2.length : Int) := OD; obtain ⟨ad228, e228, hx228_0, hx228_1⟩ := at_T83 (R_reads' HO0_2.1).2.2 a2 p228 q228; cases e228; replace p228 := eq_true p228; replace q228 := eq_true q228) | ((with_reducible refine gate_dst (N := 6) rfl ?_); refine boxE (cs := #[.int .i64 0, .int .i64 0]) (t := 83) ?_; intro gb229 hg w61 hbox hb; refine E9 (R_below (R_elderB (PR HO0_2.1) gb229 (Nat.le_of_eq hg.symm)) hb) (bB BK227.1 hb) (Kept.below (S := (fun k_ => P0_2_ k_)) (KL HK.1) hb) (bS HB.1 hb) (hbox) ((by rw [hg]; exact (by first | exact HK.1.1 | exact (show Kept w _ (fun k_ => P0_2_ k_) from KL HK.1).1) : w.heap.size <= gb229)) (gwM hg (bZ HB.1) : w0.heap.size <= gb229) (nB BK227.1 hg) (nC BK227.1 hg) ?_; clear HO0_2 BK227 HK HB; intro HO0_2 BK227 HK HB BK229 GW229 GE229 NB227_229 NB229_227; clear hb hbox hg; have hnb62 := NB229_227.1; have hnc62 := NB227_229.1; obtain ⟨hcz63_0, hcz63_1, hfz63_0, hfz63_1⟩ := cz2 BK229.1))
 first | go_end0 | ((try simp only [Exit.inBlock, Exit.then]); refine bodyPost_ret (results_none rfl _ _ _) rfl ?_)
 exact ⟨RF, by (with_reducible repeat (first | apply R_alloc | apply R_drewN | apply R_drew)); exact R_mono (RQ gb229 1 (RQ gb229 0 (R_mono HO0_2.1 (fun k_ hk => (⟨hk, hk.2⟩ : _ /\ k_ ≠ gb229))) _) _) (fun _ hk => hk.1.1), BL HB.1, KL HK.1⟩
def spec_flGo.l0 : Nat -> List Int -> Int -> List (List Int) -> Int -> Int -> Int -> Int -> List (S83) -> Int -> Int -> List (S83) -> Option (Int × Int × Int × Int × Int × (List (S83)) × (List (List Int)))
 | 0, _, _, _, _, _, _, _, _, _, _, _ => none
 | k + 1, x1, x2, x10, x11, x12, x241000, x241001, x241002, x249000, x249001, x249002 => if x12 < x241000 then (if x10.length < 5864062014805 then ((some (x10 ++ [(([x12, x2] : List Int))] : List (List Int))).bind fun y252 => ((spec_boAt.f x249000 x249001 x249002 x12 x2).bind fun bt255 => (if bt255.1 = 5 then (some (2, x12, x2, x249000, x249001, x249002, y252)) else ((spec_paGoes.f k bt255.1 bt255.2 x11).bind fun t258 => ((spec_flPass.f k x249000 x249001 x249002 x1 (wrap64 ((wrap64 (x12 * x241001)) + x2))).bind fun t259 => ((spec_l1In.f (wrap64 (x2 + t258)) 0 (wrap64 (x241001 - 1))).bind fun t260 => (if t260 = true then (spec_flGo.l0 k x1 (wrap64 (x2 + t258)) y252 (wrap64 (-t258)) (wrap64 (x12 + 1)) x241000 x241001 x241002 x249000 x249001 t259) else (some (3, x12, wrap64 (x2 + t258), x249000, x249001, t259, y252))))))))) else (none)) else (some (1, x241000, x2, x249000, x249001, x249002, x10))
def spec_flGo.f (k : Nat) (a0_0 : Int) (a0_1 : Int) (l0_2 : List (S83)) (l1 : List Int) (a2 : Int) : Option (Int × Int × Int × Int × Int × (List (S83)) × (List (List Int))) := (spec_boOwn.f a0_0 a0_1 l0_2).bind fun bt243 => (spec_flGo.l0 k l1 a2 ([] : List (List Int)) 0 0 a0_0 a0_1 l0_2 bt243.1 bt243.2.1 bt243.2.2)
theorem spec_flGo.mono_l : ∀ k, (∀ y0 y1 y2 y3 y4 y5 y6 y7 y8 y9 y10, LeO (spec_flGo.l0 k y0 y1 y2 y3 y4 y5 y6 y7 y8 y9 y10) (spec_flGo.l0 (k + 1) y0 y1 y2 y3 y4 y5 y6 y7 y8 y9 y10))
 | 0 => fun _ _ _ _ _ _ _ _ _ _ _ r h => by simp [spec_flGo.l0] at h
 | k + 1 => by
  have ih0 := spec_flGo.mono_l k
  intros
  first | unfold spec_flGo.l0
  exact LM3 ih0 spec_flPass.mono spec_paGoes.mono
theorem spec_flGo.mono : ∀ a0 a1 a2 a3 a4 k, LeO (spec_flGo.f k a0 a1 a2 a3 a4) (spec_flGo.f (k + 1) a0 a1 a2 a3 a4) := by
 intro a0 a1 a2 a3 a4 k
 have ih0 := spec_flGo.mono_l k
 unfold spec_flGo.f
 exact LM3 ih0 spec_flPass.mono spec_paGoes.mono
def spec_flGo.T10 : Bool × List (List Nat × List Nat) := (true, [([], []), ([], []), ([0, 1], [0, 1]), ([], []), ([], []), ([2, 0, 1, 2], [2]), ([3, 5, 0, 1, 2, 3, 5], [3]), ([4, 6, 0, 1, 2, 3, 4, 5, 6], [4])])
def spec_flGo.B10 : List Nat := [0, 0, 3, 0, 0, 7, 47, 127]
theorem spec_flGo.tab10 : rtab .any (opsOf Try.f84 10) = spec_flGo.T10 := by kernel_rfl
theorem spec_flGo.bits10 : waitsOk spec_flGo.T10.2 spec_flGo.B10 = true := by kernel_rfl
def spec_flGo.T16 : Bool × List (List Nat × List Nat) := (true, [([], []), ([], []), ([0, 1], [0, 1]), ([], []), ([], []), ([2, 0, 1, 2], [2]), ([3, 5, 0, 1, 2, 3, 5], [3]), ([4, 6, 0, 1, 2, 3, 4, 5, 6], [4])])
def spec_flGo.B16 : List Nat := [0, 0, 3, 0, 0, 7, 47, 127]
theorem spec_flGo.tab16 : rtab .any (opsOf Try.f84 16) = spec_flGo.T16 := by kernel_rfl
theorem spec_flGo.bits16 : waitsOk spec_flGo.T16.2 spec_flGo.B16 = true := by kernel_rfl
def spec_flGo.T17 : Bool × List (List Nat × List Nat) := (true, [([], []), ([0], [0]), ([], []), ([1, 2], [1, 2]), ([], []), ([], []), ([3, 0, 1, 2, 3], [3]), ([4, 6, 0, 1, 2, 3, 4, 6], [4]), ([5, 7, 0, 1, 2, 3, 4, 5, 6, 7], [5])])
def spec_flGo.B17 : List Nat := [0, 1, 0, 7, 0, 0, 15, 95, 255]
theorem spec_flGo.tab17 : rtab .any (opsOf Try.f84 17) = spec_flGo.T17 := by kernel_rfl
theorem spec_flGo.bits17 : waitsOk spec_flGo.T17.2 spec_flGo.B17 = true := by kernel_rfl
theorem spec_flGo.calls (k : Nat) (a0_0 : Int) (a0_1 : Int) (A0_2 : Option Addr) (c0_2 : Nat) (l0_2 : List (S83)) (A1 : Option Addr) (c1 : Nat) (l1 : List Int) (a2 : Int) (r1 : Int) (r2 : Int) (r3 : Int) (r4 : Int) (r5 : Int) (r6 : List (S83)) (r7 : List (List Int)) (w : World) (hr0_2 : Kd.C k83 w A0_2 l0_2.length l0_2) (hc0_2 : l0_2.length <= c0_2) (hr1 : Kd.C (Kd.int .i64) w A1 l1.length l1) (hc1 : l1.length <= c1) (h : spec_flGo.f k a0_0 a0_1 l0_2 l1 a2 = some (r1, r2, r3, r4, r5, r6, r7)) :
 Calls Try.prog 84 #[.agg #[.int .i64 a0_0, .int .i64 a0_1, .slice A0_2 l0_2.length c0_2], .slice A1 l1.length c1, .int .i64 a2] w fun e w' => ∃ v5_ v6_ : Value, e = .returned (.tuple #[.agg #[.int .i64 r1, .int .i64 r2, .int .i64 r3], .agg #[.int .i64 r4, .int .i64 r5, v5_], v6_]) /\ Kd.R k83 83 w' w.heap.size (fun _ => True) v5_ r6 /\ Kd.S (Kd.slice 3 (Kd.int .i64)) 38 w' w.heap.size (fun _ => True) v6_ r7 /\ Below w.heap.size w w' := by
 have hu30 := Try.underlying30
 have hu54 := Try.underlying54
 have hu83 := Try.underlying83
 have HR0_2 := Aside0.mk hr0_2
 have HC0_2 := Aside0.mk hc0_2
 clear hr0_2 hc0_2
 have HR1 := Aside0.mk hr1
 have HC1 := Aside0.mk hc1
 clear hr1 hc1
 have HB := Aside0.mk (Below.refl w.heap.size w)
 have H := h
 clear h
 unfold spec_flGo.f at H
 replace H := bindA H; obtain ⟨⟨t243, t244, t245⟩, A4, H⟩ := H
 dsimp only at H
 have H' := Aside0.mk H
 clear H
 go_enter Try.func84, Try.ntmps84
 go_wp2_with (first | ((with_reducible refine gate_dst (N := 3) rfl ?_); refine boxE (cs := #[.int .i64 a0_0, .int .i64 a0_1, .slice A0_2 l0_2.length c0_2]) (t := 30) ?_; intro gb240 hg w5 hbox hb; refine E4b HB.1 hg hbox hb ?_; clear HB; intro HB BK240 GW240 GE240; clear hb hbox hg) | ((with_reducible refine gate_dst (N := 6) rfl ?_); refine boxE (cs := #[.int .i64 0, .int .i64 0, .int .i64 0]) (t := 54) ?_; intro gb241 hg w6 hbox hb; refine E7 (bB BK240.1 hb) (bS HB.1 hb) (hbox) (gX HB.1 hg) (gX HB.1 hg) (nB BK240.1 hg) (nC BK240.1 hg) ?_; clear BK240 HB; intro BK240 HB BK241 GW241 GE241 NB240_241 NB241_240; clear hb hbox hg) | ((with_reducible refine gate_dst (N := 7) rfl ?_); refine boxE (cs := #[.int .i64 0, .int .i64 0, .slice none 0 0]) (t := 30) ?_; intro gb242 hg w7 hbox hb; refine E10 (bB BK240.1 hb) (bB BK241.1 hb) (bS HB.1 hb) (hbox) (gX HB.1 hg) (gX HB.1 hg) (nB BK240.1 hg) (nC BK240.1 hg) (nB BK241.1 hg) (nC BK241.1 hg) ?_; clear BK240 BK241 HB; intro BK240 BK241 HB BK242 GW242 GE242 NB240_242 NB242_240 NB241_242 NB242_241; clear hb hbox hg; have hnb8 := NB240_241.1; have hnc8 := NB241_240.1; have hnb9 := NB240_242.1; have hnc9 := NB242_240.1; obtain ⟨hcz10_0, hcz10_1, hcz10_2, hfz10_0, hfz10_1, hfz10_2⟩ := cz3 BK240.1) | ((with_reducible refine gate_callee (f := 94) rfl ?_); refine goesM (N := (some 16)) #[.agg #[.int .i64 a0_0, .int .i64 a0_1, .slice A0_2 l0_2.length c0_2]] Try.func94 ?_; (with_reducible refine (spec_boOwn.calls a0_0 a0_1 _ _ l0_2 t243 t244 t245 _ ?side1 ?side2 A4.1).mono ?_); (case side1 => exact CB (C_below HR0_2.1 HB.1)); (case side2 => exact HC0_2.1); rintro e w11 ⟨v246, rfl, ho0, hb⟩; refine ⟨_, rfl, ?_⟩; refine E5 (R_lower ho0 (bZ HB.1)) (bB BK240.1 hb) (bB BK241.1 hb) (bB BK242.1 hb) (bS HB.1 hb) ?_; clear BK240 BK241 BK242 HB; intro HO247 BK240 BK241 BK242 HB; (try clear hb); (try clear ho0)) | ((with_reducible refine gate_dst (N := 9) rfl ?_); refine boxE (cs := #[.int .i64 0, .int .i64 0, .slice none 0 0]) (t := 30) ?_; intro gb248 hg w12 hbox hb; refine E14 (rB HO247.1 hb) (bB BK240.1 hb) (bB BK241.1 hb) (bB BK242.1 hb) (bS HB.1 hb) (hbox) (gX HB.1 hg) (gX HB.1 hg) (nB BK240.1 hg) (nC BK240.1 hg) (nB BK241.1 hg) (nC BK241.1 hg) (nB BK242.1 hg) (nC BK242.1 hg) ?_; clear HO247 BK240 BK241 BK242 HB; intro HO247 BK240 BK241 BK242 HB BK248 GW248 GE248 NB240_248 NB248_240 NB241_248 NB248_241 NB242_248 NB248_242; clear hb hbox hg; have hnb13 := NB248_240.1; have hnc13 := NB240_248.1; have hnb14 := NB248_241.1; have hnc14 := NB241_248.1; have hnb15 := NB248_242.1; have hnc15 := NB242_248.1; obtain ⟨hcz16_0, hcz16_1, hcz16_2, hfz16_0, hfz16_1, hfz16_2⟩ := cz3 BK248.1; obtain ⟨Ao17, co17, eo17⟩ := R_slice HO247.1; subst eo17))
 go_loopg [2, 10, 11, 12] k (fun kq v2 v10 v11 v12 w' => ∃ (x2_1 : Int) (x10_1 : List (List Int)) (x11_1 : Int) (x12_1 : Int) (x242000_1 : Int) (x242001_1 : Int) (x242002_1 : Int) (x243000_1 : Int) (x243001_1 : Int) (x249002_1 : List (S83)) (u249002 : Value), v2 = .int .i64 x2_1 /\ v11 = .int .i64 x11_1 /\ v12 = .int .i64 x12_1 /\ Aside0 (spec_flGo.l0 kq l1 x2_1 x10_1 x11_1 x12_1 a0_0 a0_1 l0_2 t243 t244 x249002_1 = some (r1, r2, r3, r4, r5, r6, r7)) /\ Aside0 (kq <= k) /\ Aside0 (Kd.S (Kd.slice 3 (Kd.int .i64)) 38 w' w.heap.size (fun _ => True) v10 x10_1) /\ Aside0 (Kd.R k83 83 w' w.heap.size (fun _ => True) u249002 x249002_1) /\ Aside0 (w'.heap[gb240]? = some (.cells #[.int .i64 a0_0, .int .i64 a0_1, (.slice A0_2 l0_2.length c0_2)] 30 (0, 0))) /\ Aside0 (w'.heap[gb241]? = some (.cells #[.int .i64 x242000_1, .int .i64 x242001_1, .int .i64 x242002_1] 54 (0, 0))) /\ Aside0 (w'.heap[gb242]? = some (.cells #[.int .i64 x243000_1, .int .i64 x243001_1, (.slice none 0 0)] 30 (0, 0))) /\ Aside0 (w'.heap[gb248]? = some (.cells #[.int .i64 t243, .int .i64 t244, u249002] 30 (0, 0))) /\ Aside0 (Below w.heap.size w w'))
 case atStart => exact ⟨(a2), (([] : List (List Int))), (0), (0), (0), (0), (0), (0), (0), (t245), (.slice Ao17 t245.length co17), RG, RG, RG, H', ⟨Nat.le_refl _⟩, ⟨by first | exact S_nil _ _ _ _ _ | exact N_nil _ _ _ _ _ | exact V_nil _ _ _ _ _ | exact Q_nil _ _ _ _ _ | exact R_nil _ _ _ _ _⟩, ⟨by (with_reducible repeat (first | apply R_alloc | apply R_drewN | apply R_drew)); exact R_mono (RQ gb248 2 (RQ gb248 1 (RQ gb248 0 (R_types HO247.1 BK248.1 (by decide)) _) _) _) (fun _ hk => trivial)⟩, ⟨by (with_reducible repeat (first | refine blk_drewN ?_ _ | refine blk_drew ?_ | refine blk_alloc ?_ _)); refine blk_far ?_ NB240_248.1 _; (with_reducible repeat (first | refine blk_drewN ?_ _ | refine blk_drew ?_ | refine blk_alloc ?_ _)); refine blk_far ?_ NB240_248.1 _; (with_reducible repeat (first | refine blk_drewN ?_ _ | refine blk_drew ?_ | refine blk_alloc ?_ _)); refine blk_far ?_ NB240_248.1 _; (with_reducible repeat (first | refine blk_drewN ?_ _ | refine blk_drew ?_ | refine blk_alloc ?_ _)); exact BK240.1⟩, ⟨by (with_reducible repeat (first | refine blk_drewN ?_ _ | refine blk_drew ?_ | refine blk_alloc ?_ _)); refine blk_far ?_ NB241_248.1 _; (with_reducible repeat (first | refine blk_drewN ?_ _ | refine blk_drew ?_ | refine blk_alloc ?_ _)); refine blk_far ?_ NB241_248.1 _; (with_reducible repeat (first | refine blk_drewN ?_ _ | refine blk_drew ?_ | refine blk_alloc ?_ _)); refine blk_far ?_ NB241_248.1 _; (with_reducible repeat (first | refine blk_drewN ?_ _ | refine blk_drew ?_ | refine blk_alloc ?_ _)); exact BK241.1⟩, ⟨by (with_reducible repeat (first | refine blk_drewN ?_ _ | refine blk_drew ?_ | refine blk_alloc ?_ _)); refine blk_far ?_ NB242_248.1 _; (with_reducible repeat (first | refine blk_drewN ?_ _ | refine blk_drew ?_ | refine blk_alloc ?_ _)); refine blk_far ?_ NB242_248.1 _; (with_reducible repeat (first | refine blk_drewN ?_ _ | refine blk_drew ?_ | refine blk_alloc ?_ _)); refine blk_far ?_ NB242_248.1 _; (with_reducible repeat (first | refine blk_drewN ?_ _ | refine blk_drew ?_ | refine blk_alloc ?_ _)); exact BK242.1⟩, ⟨by (with_reducible repeat (first | refine blk_drewN ?_ _ | refine blk_drew ?_ | refine blk_alloc ?_ _)); refine blk_put (cs := #[.int .i64 t243, .int .i64 t244, .slice none 0 0]) ?_ 2 _ rfl; (with_reducible repeat (first | refine blk_drewN ?_ _ | refine blk_drew ?_ | refine blk_alloc ?_ _)); refine blk_put (cs := #[.int .i64 t243, .int .i64 0, .slice none 0 0]) ?_ 1 _ rfl; (with_reducible repeat (first | refine blk_drewN ?_ _ | refine blk_drew ?_ | refine blk_alloc ?_ _)); refine blk_put (cs := #[.int .i64 0, .int .i64 0, .slice none 0 0]) ?_ 0 _ rfl; (with_reducible repeat (first | refine blk_drewN ?_ _ | refine blk_drew ?_ | refine blk_alloc ?_ _)); exact BK248.1⟩, ⟨BL HB.1⟩⟩
 clear H'
 try clear c1; clear hcz10_0 hcz10_1 hcz10_2 hcz16_0 hcz16_1 hcz16_2 hfz10_0 hfz10_1 hfz10_2 hfz16_0 hfz16_1 hfz16_2
 obtain ⟨x2_1, x10_1, x11_1, x12_1, x242000_1, x242001_1, x242002_1, x243000_1, x243001_1, x249002_1, u249002, rfl, rfl, rfl, HA, HK1, HO_10, HO_249002, BK240, BK241, BK242, BK248, HB⟩ := hrel
 cases gk with
 | zero => exact absurd HA.1 (by simp [spec_flGo.l0])
 | succ k1 => ?_
 have H := HA.1
 clear HA
 simp only [spec_flGo.l0] at H
 replace H := ifB H; rcases H with ⟨c18b0, H⟩ | ⟨c18b0, H⟩
 · generalize hy249 : ((([x12_1, x2_1] : List Int)) : List Int) = y249 at H
   have Ny249 := Aside0.mk hy249.symm; clear hy249
   replace H := ifP H; obtain ⟨c19, H⟩ := H
   have LMc19 := Aside0.mk c19
   clear c19
   replace H := nameB H; obtain ⟨y252, Ny252, H⟩ := H
   replace H := bindA H; obtain ⟨⟨t255, t256⟩, A20, H⟩ := H
   dsimp only at H
   replace H := ifQ H; rcases H with ⟨c21, H⟩ | ⟨c21, H⟩
   · have c21b0 := beq_iff_eq.mpr c21
     have c21b1 := bne_eq_false_iff_eq.mpr c21
     clear c21
     simp only [Option.some.injEq, Prod.mk.injEq] at H
     obtain ⟨rfl, rfl, rfl, rfl, rfl, rfl, rfl⟩ := H
     obtain ⟨hcz25_0, hcz25_1, hcz25_2, hfz25_0, hfz25_1, hfz25_2⟩ := cz3 BK240.1
     try go_wp2_with (first | ((with_reducible refine gate_dst (N := 26) rfl ?_); refine R_lit (Kd.int .i64) _ 3 ?hg (N := 26) ?hd (xs := ([x12_1, x2_1] : List Int)) (inner := [.int .i64 x12_1, .int .i64 x2_1]) (ok := fun _ => True) (okp := fun _ => True) ?hr ?hp (fun _ hk => hk) trivial (Below.refl _ _) (Nat.le_refl _) (by simp) ?_; (case hd => rfl); (case hg => rfl); (case hr => first | (go_simp; done) | (go_simp; rfl)); (case hp => exact (Reps.one (show Kd.M (Kd.int .i64) _ _ _ x12_1 [.int .i64 x12_1] from rfl) (Reps.one (show Kd.M (Kd.int .i64) _ _ _ x2_1 [.int .i64 x2_1] from rfl) (Reps.none _ _)))); intro v250 w26 ho27 hb hg_ hnew_; clear hg_ hnew_; (first | rw [<- Ny249.1] at ho27 | (simp only [Int.reduceToNat] at ho27; rw [<- Ny249.1] at ho27)); refine E8 (S_elder' (PS HO_10.1) (R_base ho27) hb) (rB HO_249002.1 hb) (R_lower ho27 (bZ HB.1)) (bB BK240.1 hb) (bB BK241.1 hb) (bB BK242.1 hb) (bB BK248.1 hb) (bS HB.1 hb) ?_; clear HO_10 HO_249002 BK240 BK241 BK242 BK248 HB; intro HO_10 HO_249002 HO251 BK240 BK241 BK242 BK248 HB; clear hb ho27; obtain ⟨Ao29, co29, eo29⟩ := R_slice HO251.1; subst eo29) | ((with_reducible refine gate_builtin (b := .append) (xs := #[.tmp 23, .tmp 27]) rfl ?_); at_builtin; refine S_append (Kd.slice 3 (Kd.int .i64)) (w0 := w) w.heap.size rfl (.tmp 23) (.tmp 27) 60 38 (.slice none 0 0) 24 rfl Try.underlying60 info38 rfl (by decide) (by omega) u10 x10_1 y249 [.slice Ao29 y249.length co29] (fun _ => True) (fun k_ => some k_ = (.slice Ao29 y249.length co29 : Value).ownBlock) rfl rfl ?aP (fun k_ hk_ => ((R_mono (ok' := fun k_ => ((fun _ => True)) k_ /\ some k_ ≠ (u10 : Value).ownBlock) (R_apart' (HO251.1) (S_typed HO_10.1) (by decide)) (fun k_ hk => ⟨trivial, hk.2⟩))).1 k_ hk_.symm) ?aF ?aO ?aB ?aS ?aL ?_; (case aP => exact M_row (R_mono (R_tight rfl (R_mono (ok' := fun k_ => ((fun _ => True)) k_ /\ some k_ ≠ (u10 : Value).ownBlock) (R_apart' (HO251.1) (S_typed HO_10.1) (by decide)) (fun k_ hk => ⟨trivial, hk.2⟩))) (fun _ h_ => h_))); (case aB => exact (BL HB.1)); (case aF => exact (fun _ _ => trivial)); (case aO => exact (SPE (S_mono HO_10.1 (fun k_ hk => ⟨trivial, fun e_ => hk.2 e_⟩)))); (case aS => exact (bZ HB.1)); (case aL => have := LMc19.1; omega); intro v253 w28 ho hb hg hat; rw [<- Ny252.1] at ho; refine E7 (R_over' (PR HO_249002.1) (S_typed (PS HO_10.1)) (by decide) hg) (bG BK240.1 hg (S_ne HO_10.1 BK240.1 (by decide))) (bG BK241.1 hg (S_ne HO_10.1 BK241.1 (by decide))) (bG BK242.1 hg (S_ne HO_10.1 BK242.1 (by decide))) (bG BK248.1 hg (S_ne HO_10.1 BK248.1 (by decide))) (hb) (ho) ?_; clear HO_249002 BK240 BK241 BK242 BK248 HB HO_10 HO251; intro HO_249002 BK240 BK241 BK242 BK248 HB HO254; clear ho hb hg hat; have hnb30 := NB248_241.1; have hnc30 := NB241_248.1; have hnb31 := NB248_242.1; have hnc31 := NB242_248.1; obtain ⟨hcz32_0, hcz32_1, hcz32_2, hfz32_0, hfz32_1, hfz32_2⟩ := cz3 BK248.1; obtain ⟨Ao33, co33, eo33⟩ := R_slice HO_249002.1; subst eo33) | ((with_reducible refine gate_callee (f := 95) rfl ?_); refine goesM (N := (some 32)) #[.agg #[.int .i64 t243, .int .i64 t244, .slice Ao33 x249002_1.length co33], .int .i64 x12_1, .int .i64 x2_1] Try.func95 ?_; (with_reducible refine (spec_boAt.calls t243 t244 _ _ x249002_1 x12_1 x2_1 t255 t256 _ ?side1 ?side2 A20.1).mono ?_); (case side1 => exact CB (R_reads' HO_249002.1).2.2); (case side2 => exact (R_reads' HO_249002.1).2.1); rintro e w34 ⟨rfl, hb⟩; refine ⟨_, rfl, ?_⟩; refine E7 (rB HO_249002.1 hb) (sB HO254.1 hb) (bB BK240.1 hb) (bB BK241.1 hb) (bB BK242.1 hb) (bB BK248.1 hb) (bS HB.1 hb) ?_; clear HO_249002 HO254 BK240 BK241 BK242 BK248 HB; intro HO_249002 HO254 BK240 BK241 BK242 BK248 HB; (try clear hb)) | ((with_reducible refine gate_dst (N := 13) rfl ?_); refine boxE (cs := #[.int .i64 0, .int .i64 0]) (t := 83) ?_; intro gb257 hg w35 hbox hb; refine E18 (R_below (R_elderB (PR HO_249002.1) gb257 (Nat.le_of_eq hg.symm)) hb) (sB HO254.1 hb) (bB BK240.1 hb) (bB BK241.1 hb) (bB BK242.1 hb) (bB BK248.1 hb) (bS HB.1 hb) (hbox) (gX HB.1 hg) (gX HB.1 hg) (nB BK240.1 hg) (nC BK240.1 hg) (nB BK241.1 hg) (nC BK241.1 hg) (nB BK242.1 hg) (nC BK242.1 hg) (nB BK248.1 hg) (nC BK248.1 hg) ?_; clear HO_249002 HO254 BK240 BK241 BK242 BK248 HB; intro HO_249002 HO254 BK240 BK241 BK242 BK248 HB BK257 GW257 GE257 NB240_257 NB257_240 NB241_257 NB257_241 NB242_257 NB257_242 NB248_257 NB257_248; clear hb hbox hg; have hnb36 := NB257_240.1; have hnc36 := NB240_257.1; have hnb37 := NB257_241.1; have hnc37 := NB241_257.1; have hnb38 := NB257_242.1; have hnc38 := NB242_257.1; have hnb39 := NB257_248.1; have hnc39 := NB248_257.1; obtain ⟨hcz40_0, hcz40_1, hfz40_0, hfz40_1⟩ := cz2 BK257.1))
     have n_ : (fun w41 : World => (Kd.R k83 83 w41 w.heap.size (fun k_ => k_ ≠ gb257) (.slice Ao33 x249002_1.length co33) x249002_1) /\ (Kd.S (Kd.slice 3 (Kd.int .i64)) 38 w41 w.heap.size (fun _ => True) v253 y252) /\ (w41.heap[gb240]? = some (.cells #[.int .i64 a0_0, .int .i64 a0_1, .slice A0_2 l0_2.length c0_2] 30 (0, 0))) /\ (w41.heap[gb241]? = some (.cells #[.int .i64 x242000_1, .int .i64 x242001_1, .int .i64 x242002_1] 54 (0, 0))) /\ (w41.heap[gb242]? = some (.cells #[.int .i64 x243000_1, .int .i64 x243001_1, .slice none 0 0] 30 (0, 0))) /\ (w41.heap[gb248]? = some (.cells #[.int .i64 t243, .int .i64 t244, .slice Ao33 x249002_1.length co33] 30 (0, 0))) /\ (w41.heap[gb257]? = some (.cells #[.int .i64 t255, .int .i64 t256] 83 (0, 0))) /\ (Below w.heap.size w w41)) ((w35.setCell ⟨gb257, 0, none⟩ (.int .i64 t255)).setCell ⟨gb257, 1, none⟩ (.int .i64 t256)) := ⟨by (with_reducible repeat (first | apply R_alloc | apply R_drewN | apply R_drew)); exact R_mono (RQ gb257 1 (RQ gb257 0 (R_mono HO_249002.1 (fun k_ hk => (⟨hk, hk.2⟩ : _ /\ k_ ≠ gb257))) _) _) (fun _ hk => hk.1.2), by (with_reducible repeat (first | apply S_alloc | apply S_drewN | apply S_drew)); exact S_mono (SQ gb257 1 (SQ gb257 0 (S_types HO254.1 BK257.1 (by decide)) _) _) (fun _ hk => trivial), by (with_reducible repeat (first | refine blk_drewN ?_ _ | refine blk_drew ?_ | refine blk_alloc ?_ _)); refine blk_far ?_ NB240_257.1 _; (with_reducible repeat (first | refine blk_drewN ?_ _ | refine blk_drew ?_ | refine blk_alloc ?_ _)); refine blk_far ?_ NB240_257.1 _; (with_reducible repeat (first | refine blk_drewN ?_ _ | refine blk_drew ?_ | refine blk_alloc ?_ _)); exact BK240.1, by (with_reducible repeat (first | refine blk_drewN ?_ _ | refine blk_drew ?_ | refine blk_alloc ?_ _)); refine blk_far ?_ NB241_257.1 _; (with_reducible repeat (first | refine blk_drewN ?_ _ | refine blk_drew ?_ | refine blk_alloc ?_ _)); refine blk_far ?_ NB241_257.1 _; (with_reducible repeat (first | refine blk_drewN ?_ _ | refine blk_drew ?_ | refine blk_alloc ?_ _)); exact BK241.1, by (with_reducible repeat (first | refine blk_drewN ?_ _ | refine blk_drew ?_ | refine blk_alloc ?_ _)); refine blk_far ?_ NB242_257.1 _; (with_reducible repeat (first | refine blk_drewN ?_ _ | refine blk_drew ?_ | refine blk_alloc ?_ _)); refine blk_far ?_ NB242_257.1 _; (with_reducible repeat (first | refine blk_drewN ?_ _ | refine blk_drew ?_ | refine blk_alloc ?_ _)); exact BK242.1, by (with_reducible repeat (first | refine blk_drewN ?_ _ | refine blk_drew ?_ | refine blk_alloc ?_ _)); refine blk_far ?_ NB248_257.1 _; (with_reducible repeat (first | refine blk_drewN ?_ _ | refine blk_drew ?_ | refine blk_alloc ?_ _)); refine blk_far ?_ NB248_257.1 _; (with_reducible repeat (first | refine blk_drewN ?_ _ | refine blk_drew ?_ | refine blk_alloc ?_ _)); exact BK248.1, by (with_reducible repeat (first | refine blk_drewN ?_ _ | refine blk_drew ?_ | refine blk_alloc ?_ _)); refine blk_put (cs := #[.int .i64 t255, .int .i64 0]) ?_ 1 _ rfl; (with_reducible repeat (first | refine blk_drewN ?_ _ | refine blk_drew ?_ | refine blk_alloc ?_ _)); refine blk_put (cs := #[.int .i64 0, .int .i64 0]) ?_ 0 _ rfl; (with_reducible repeat (first | refine blk_drewN ?_ _ | refine blk_drew ?_ | refine blk_alloc ?_ _)); exact BK257.1, BL HB.1⟩
     (try clear HO_249002)
     (try clear HO254)
     (try clear BK240)
     (try clear BK241)
     (try clear BK242)
     (try clear BK248)
     (try clear BK257)
     (try clear HB)
     generalize ((w35.setCell ⟨gb257, 0, none⟩ (.int .i64 t255)).setCell ⟨gb257, 1, none⟩ (.int .i64 t256)) = w41 at n_ ⊢
     obtain ⟨h0_, h1_, h2_, h3_, h4_, h5_, h6_, h7_⟩ := n_
     refine E8 h0_ h1_ h2_ h3_ h4_ h5_ h6_ h7_ ?_
     clear h0_ h1_ h2_ h3_ h4_ h5_ h6_ h7_
     intro HO_249002 HO254 BK240 BK241 BK242 BK248 BK257 HB
     refine E8 (R_drew HO_249002.1) (S_drew HO254.1) (blk_drew BK240.1) (blk_drew BK241.1) (blk_drew BK242.1) (blk_drew BK248.1) (blk_drew BK257.1) (below_drew1 HB.1) ?_
     clear HO_249002 HO254 BK240 BK241 BK242 BK248 BK257 HB
     intro HO_249002 HO254 BK240 BK241 BK242 BK248 BK257 HB
     refine start_ (n := 8) (S := fun w' => w'.cell? ⟨gb248, 0, none⟩ = some (.int .i64 t243) /\ w'.cell? ⟨gb248, 1, none⟩ = some (.int .i64 t244) /\ w'.cell? ⟨gb248, 2, none⟩ = some (.slice Ao33 x249002_1.length co33)) (ds := []) #[Zz,Zz,Zz,Zz,Zz,Zz,Zz,Zz] (by kernel_rfl) rfl rfl ⟨(blk_cell BK248.1 0).trans rfl, (blk_cell BK248.1 1).trans rfl, (blk_cell BK248.1 2).trans rfl⟩ (fun hHeld => ?_); refine with_tabW spec_flGo.tab10 spec_flGo.bits10 (fun HT_ HW_ => ?_)
     generalize w41.drew = w42 at HO_249002 HO254 BK240 BK241 BK242 BK248 BK257 HB hHeld ⊢
     refine pureF 0 (N := some 36) HT_.1 ?_
     refine pureF 1 (N := some 37) HT_.1 ?_
     refine pureF 2 (N := some 38) HT_.1 ?_
     refine pureF 4 (N := some 40) HT_.1 ?_
     refine takeE 3 (N := some 39) HT_.1 HW_.1 hHeld ?_
     refine one_ (i := 5) (N := none) #[Yy,Yy,Yy,Yy,Yy,Yy,Zz,Zz] rfl rfl (one_of HT_.1 (by kernel_rfl)) (by decide) (fun K hK => ?_)
     obtain ⟨hs43, hs44, hs45, hfs43, hfs44, hfs45⟩ := cz3 BK241.1
     have hns43_2 := NB242_241.1
     have hms43_2 := NB241_242.1
     refine skip_ (w1 := ?_) (by rfl) rfl ?_ ?_
     rotate_left
     · go_simp
       rfl
     refine hK.out _ _ ⟨(CF3 NB248_241.1 hHeld.1), (CF3 NB248_241.1 hHeld.2.1), (CF3 NB248_241.1 hHeld.2.2)⟩ (fun hHeld => ?_)
     clear hK K
     refine one_ (i := 6) (N := none) #[Yy,Yy,Yy,Yy,Yy,Yy,Yy,Zz] rfl rfl (one_of HT_.1 (by kernel_rfl)) (by decide) (fun K hK => ?_)
     obtain ⟨hs46, hs47, hs48, hfs46, hfs47, hfs48⟩ := cz3 BK242.1
     refine skip_ (w1 := ?_) (by rfl) rfl ?_ ?_
     rotate_left
     · go_simp
       rfl
     refine hK.out _ _ ⟨(CF3 NB248_242.1 hHeld.1), (CF3 NB248_242.1 hHeld.2.1), (CF3 NB248_242.1 hHeld.2.2)⟩ (fun hHeld => ?_)
     clear hK K
     refine pureF 7 (N := some 8) HT_.1 ?_
     refine done_ (done_of HT_.1 (by kernel_rfl)) ?_
     try go_wp2
     refine bodyPost_ret (results_list (rs := [.cell 6 54, .cell 7 30, .tmp 8]) rfl (by simp) (.cell gb241 54 #[.int .i64 2, .int .i64 x12_1, .int .i64 x2_1] (0, 0) _ rfl (PF1 NB241_242.1 BK241.1) Try.underlying54 rfl (by kernel_rfl) (.cell gb242 30 #[.int .i64 t243, .int .i64 t244, .slice Ao33 x249002_1.length co33] (0, 0) _ rfl (PF1 NB242_241.1 BK242.1) Try.underlying30 rfl (by kernel_rfl) (.tmp .nil)))) rfl ?_
     exact ⟨_, _, RF, by (with_reducible repeat (first | apply R_alloc | apply R_drewN | apply R_drew)); exact R_mono (RQ gb242 2 (RQ gb242 1 (RQ gb242 0 (R_far (p := ⟨gb241, 2, none⟩) (R_far (p := ⟨gb241, 1, none⟩) (R_far (p := ⟨gb241, 0, none⟩) (R_types (R_types HO_249002.1 BK241.1 (by decide)) BK242.1 (by decide)) (fun _ hk => hk.1.2) (.int .i64 2)) (fun _ hk => hk.1.2) (.int .i64 x12_1)) (fun _ hk => hk.1.2) (.int .i64 x2_1)) _) _) _) (fun _ hk => trivial), by (with_reducible repeat (first | apply S_alloc | apply S_drewN | apply S_drew)); exact S_mono (SQ gb242 2 (SQ gb242 1 (SQ gb242 0 (S_far (p := ⟨gb241, 2, none⟩) (S_far (p := ⟨gb241, 1, none⟩) (S_far (p := ⟨gb241, 0, none⟩) (S_types (S_types HO254.1 BK241.1 (by decide)) BK242.1 (by decide)) (fun _ hk => hk.1.2) (.int .i64 2)) (fun _ hk => hk.1.2) (.int .i64 x12_1)) (fun _ hk => hk.1.2) (.int .i64 x2_1)) _) _) _) (fun _ hk => trivial), BL HB.1⟩
   have c21b0 := beq_eq_false_iff_ne.mpr c21
   have c21b1 := bne_iff_ne.mpr c21
   replace H := bindA H; obtain ⟨t258, A49, H⟩ := H
   replace H := bindA H; obtain ⟨t259, A50, H⟩ := H
   replace H := bindA H; obtain ⟨t260, A51, H⟩ := H
   replace H := ifX H; rcases H with ⟨rfl, H⟩ | ⟨rfl, H⟩
   · have H' := Aside0.mk H
     clear H
     obtain ⟨hcz56_0, hcz56_1, hcz56_2, hfz56_0, hfz56_1, hfz56_2⟩ := cz3 BK240.1
     go_wp2_with (first | ((with_reducible refine gate_dst (N := 26) rfl ?_); refine R_lit (Kd.int .i64) _ 3 ?hg (N := 26) ?hd (xs := ([x12_1, x2_1] : List Int)) (inner := [.int .i64 x12_1, .int .i64 x2_1]) (ok := fun _ => True) (okp := fun _ => True) ?hr ?hp (fun _ hk => hk) trivial (Below.refl _ _) (Nat.le_refl _) (by simp) ?_; (case hd => rfl); (case hg => rfl); (case hr => first | (go_simp; done) | (go_simp; rfl)); (case hp => exact (Reps.one (show Kd.M (Kd.int .i64) _ _ _ x12_1 [.int .i64 x12_1] from rfl) (Reps.one (show Kd.M (Kd.int .i64) _ _ _ x2_1 [.int .i64 x2_1] from rfl) (Reps.none _ _)))); intro v250 w57 ho58 hb hg_ hnew_; clear hg_ hnew_; (first | rw [<- Ny249.1] at ho58 | (simp only [Int.reduceToNat] at ho58; rw [<- Ny249.1] at ho58)); refine E8 (S_elder' (PS HO_10.1) (R_base ho58) hb) (rB HO_249002.1 hb) (R_lower ho58 (bZ HB.1)) (bB BK240.1 hb) (bB BK241.1 hb) (bB BK242.1 hb) (bB BK248.1 hb) (bS HB.1 hb) ?_; clear HO_10 HO_249002 BK240 BK241 BK242 BK248 HB; intro HO_10 HO_249002 HO251 BK240 BK241 BK242 BK248 HB; clear hb ho58; obtain ⟨Ao60, co60, eo60⟩ := R_slice HO251.1; subst eo60) | ((with_reducible refine gate_builtin (b := .append) (xs := #[.tmp 23, .tmp 27]) rfl ?_); at_builtin; refine S_append (Kd.slice 3 (Kd.int .i64)) (w0 := w) w.heap.size rfl (.tmp 23) (.tmp 27) 60 38 (.slice none 0 0) 24 rfl Try.underlying60 info38 rfl (by decide) (by omega) u10 x10_1 y249 [.slice Ao60 y249.length co60] (fun _ => True) (fun k_ => some k_ = (.slice Ao60 y249.length co60 : Value).ownBlock) rfl rfl ?aP (fun k_ hk_ => ((R_mono (ok' := fun k_ => ((fun _ => True)) k_ /\ some k_ ≠ (u10 : Value).ownBlock) (R_apart' (HO251.1) (S_typed HO_10.1) (by decide)) (fun k_ hk => ⟨trivial, hk.2⟩))).1 k_ hk_.symm) ?aF ?aO ?aB ?aS ?aL ?_; (case aP => exact M_row (R_mono (R_tight rfl (R_mono (ok' := fun k_ => ((fun _ => True)) k_ /\ some k_ ≠ (u10 : Value).ownBlock) (R_apart' (HO251.1) (S_typed HO_10.1) (by decide)) (fun k_ hk => ⟨trivial, hk.2⟩))) (fun _ h_ => h_))); (case aB => exact (BL HB.1)); (case aF => exact (fun _ _ => trivial)); (case aO => exact (SPE (S_mono HO_10.1 (fun k_ hk => ⟨trivial, fun e_ => hk.2 e_⟩)))); (case aS => exact (bZ HB.1)); (case aL => have := LMc19.1; omega); intro v253 w59 ho hb hg hat; rw [<- Ny252.1] at ho; refine E7 (R_over' (PR HO_249002.1) (S_typed (PS HO_10.1)) (by decide) hg) (bG BK240.1 hg (S_ne HO_10.1 BK240.1 (by decide))) (bG BK241.1 hg (S_ne HO_10.1 BK241.1 (by decide))) (bG BK242.1 hg (S_ne HO_10.1 BK242.1 (by decide))) (bG BK248.1 hg (S_ne HO_10.1 BK248.1 (by decide))) (hb) (ho) ?_; clear HO_249002 BK240 BK241 BK242 BK248 HB HO_10 HO251; intro HO_249002 BK240 BK241 BK242 BK248 HB HO254; clear ho hb hg hat; have hnb61 := NB248_241.1; have hnc61 := NB241_248.1; have hnb62 := NB248_242.1; have hnc62 := NB242_248.1; obtain ⟨hcz63_0, hcz63_1, hcz63_2, hfz63_0, hfz63_1, hfz63_2⟩ := cz3 BK248.1; obtain ⟨Ao64, co64, eo64⟩ := R_slice HO_249002.1; subst eo64) | ((with_reducible refine gate_callee (f := 95) rfl ?_); refine goesM (N := (some 32)) #[.agg #[.int .i64 t243, .int .i64 t244, .slice Ao64 x249002_1.length co64], .int .i64 x12_1, .int .i64 x2_1] Try.func95 ?_; (with_reducible refine (spec_boAt.calls t243 t244 _ _ x249002_1 x12_1 x2_1 t255 t256 _ ?side1 ?side2 A20.1).mono ?_); (case side1 => exact CB (R_reads' HO_249002.1).2.2); (case side2 => exact (R_reads' HO_249002.1).2.1); rintro e w65 ⟨rfl, hb⟩; refine ⟨_, rfl, ?_⟩; refine E7 (rB HO_249002.1 hb) (sB HO254.1 hb) (bB BK240.1 hb) (bB BK241.1 hb) (bB BK242.1 hb) (bB BK248.1 hb) (bS HB.1 hb) ?_; clear HO_249002 HO254 BK240 BK241 BK242 BK248 HB; intro HO_249002 HO254 BK240 BK241 BK242 BK248 HB; (try clear hb)) | ((with_reducible refine gate_dst (N := 13) rfl ?_); refine boxE (cs := #[.int .i64 0, .int .i64 0]) (t := 83) ?_; intro gb257 hg w66 hbox hb; refine E18 (R_below (R_elderB (PR HO_249002.1) gb257 (Nat.le_of_eq hg.symm)) hb) (sB HO254.1 hb) (bB BK240.1 hb) (bB BK241.1 hb) (bB BK242.1 hb) (bB BK248.1 hb) (bS HB.1 hb) (hbox) (gX HB.1 hg) (gX HB.1 hg) (nB BK240.1 hg) (nC BK240.1 hg) (nB BK241.1 hg) (nC BK241.1 hg) (nB BK242.1 hg) (nC BK242.1 hg) (nB BK248.1 hg) (nC BK248.1 hg) ?_; clear HO_249002 HO254 BK240 BK241 BK242 BK248 HB; intro HO_249002 HO254 BK240 BK241 BK242 BK248 HB BK257 GW257 GE257 NB240_257 NB257_240 NB241_257 NB257_241 NB242_257 NB257_242 NB248_257 NB257_248; clear hb hbox hg; have hnb67 := NB257_240.1; have hnc67 := NB240_257.1; have hnb68 := NB257_241.1; have hnc68 := NB241_257.1; have hnb69 := NB257_242.1; have hnc69 := NB242_257.1; have hnb70 := NB257_248.1; have hnc70 := NB248_257.1; obtain ⟨hcz71_0, hcz71_1, hfz71_0, hfz71_1⟩ := cz2 BK257.1) | ((with_reducible refine gate_callee (f := 96) rfl ?_); refine goesM (N := (some 43)) #[.agg #[.int .i64 t255, .int .i64 t256], .int .i64 x11_1] Try.func96 ?_; (with_reducible refine (spec_paGoes.calls k1 t255 t256 x11_1 t258 _ A49.1).mono ?_); rintro e w72 ⟨rfl, hb⟩; refine ⟨_, rfl, ?_⟩; refine E8 (R_below (by (with_reducible repeat (first | apply R_alloc | apply R_drewN | apply R_drew)); exact (R_mono (RQ gb257 1 (RQ gb257 0 (R_mono HO_249002.1 (fun k_ hk => (⟨hk, hk.2⟩ : _ /\ k_ ≠ gb257))) _) _) (fun _ h_ => h_.1))) hb) (S_below (by (with_reducible repeat (first | apply S_alloc | apply S_drewN | apply S_drew)); exact (S_mono (SQ gb257 1 (SQ gb257 0 (S_types HO254.1 BK257.1 (by decide)) _) _) (fun _ h_ => h_.1))) hb) (blk_below (g := gb240) (o := .cells #[.int .i64 a0_0, .int .i64 a0_1, .slice A0_2 l0_2.length c0_2] 30 (0, 0)) (PF1 NB240_257.1 BK240.1) hb) (blk_below (g := gb241) (o := .cells #[.int .i64 x242000_1, .int .i64 x242001_1, .int .i64 x242002_1] 54 (0, 0)) (PF1 NB241_257.1 BK241.1) hb) (blk_below (g := gb242) (o := .cells #[.int .i64 x243000_1, .int .i64 x243001_1, .slice none 0 0] 30 (0, 0)) (PF1 NB242_257.1 BK242.1) hb) (blk_below (g := gb248) (o := .cells #[.int .i64 t243, .int .i64 t244, .slice Ao64 x249002_1.length co64] 30 (0, 0)) (PF1 NB248_257.1 BK248.1) hb) (blk_below (g := gb257) (o := .cells #[.int .i64 t255, .int .i64 t256] 83 (0, 0)) (PF0 BK257.1) hb) (bS HB.1 hb) ?_; clear HO_249002 HO254 BK240 BK241 BK242 BK248 BK257 HB; intro HO_249002 HO254 BK240 BK241 BK242 BK248 BK257 HB; (try clear hb); (try clear hk); obtain ⟨hcz73_0, hcz73_1, hcz73_2, hfz73_0, hfz73_1, hfz73_2⟩ := cz3 BK248.1; obtain ⟨hcz74_0, hcz74_1, hcz74_2, hfz74_0, hfz74_1, hfz74_2⟩ := cz3 BK240.1) | ((with_reducible refine gate_callee (f := 97) rfl ?_); refine goesM (N := (some 52)) #[.agg #[.int .i64 t243, .int .i64 t244, .slice Ao64 x249002_1.length co64], .slice A1 l1.length c1, .int .i64 (wrap64 ((wrap64 (x12_1 * a0_1)) + x2_1))] Try.func97 ?_; (with_reducible refine (spec_flPass.calls k1 t243 t244 (fun k_ => some k_ = (.slice Ao64 x249002_1.length co64 : Value).ownBlock) (.slice Ao64 x249002_1.length co64) x249002_1 _ _ l1 (wrap64 ((wrap64 (x12_1 * a0_1)) + x2_1)) t259 w _ ?side1 ?side2 ?side3 ?side4 A50.1).mono ?_); (case side1 => exact BL HB.1); (case side2 => exact R_tight rfl HO_249002.1); (case side3 => exact C_kept_came (Kd.heap_int .i64) HR1.1 (BL HB.1) (fun k_ hs_ => (fun e_ => R_base HO_249002.1 k_ e_.symm) hs_)); (case side4 => exact HC1.1); rintro e w75 ⟨rfl, hy0, hb, hkp⟩; refine ⟨_, rfl, ?_⟩; refine E8 (R_reok rfl hy0 (fun k_ e_ => HO_249002.1.1 k_ e_)) (blk_kept (PB BK240.1) hkp (fun hs_ => (fun e_ => (R_ne HO_249002.1 BK240.1 (by decide)) e_) hs_)) (blk_kept (PB BK241.1) hkp (fun hs_ => (fun e_ => (R_ne HO_249002.1 BK241.1 (by decide)) e_) hs_)) (blk_kept (PB BK242.1) hkp (fun hs_ => (fun e_ => (R_ne HO_249002.1 BK242.1 (by decide)) e_) hs_)) (blk_kept (PB BK248.1) hkp (fun hs_ => (fun e_ => (R_ne HO_249002.1 BK248.1 (by decide)) e_) hs_)) (S_mono (ok' := fun k_ => True) (S_keptB ((S_apart' HO254.1 (R_typed HO_249002.1) (by decide))) hkp (fun k_ hk_ hs_ => (hk_.2) hs_)) (fun k_ hk_ => trivial)) (blk_kept (PB BK257.1) hkp (fun hs_ => (fun e_ => (R_away HO_249002.1 (fun _ hk => hk.2)) e_) hs_)) (hb) ?_; clear HO_249002 BK240 BK241 BK242 BK248 HO254 BK257 HB; intro HO_249002 BK240 BK241 BK242 BK248 HO254 BK257 HB; (try clear hb); (try clear hkp); (try clear hy0); obtain ⟨hcz76_0, hcz76_1, hcz76_2, hfz76_0, hfz76_1, hfz76_2⟩ := cz3 BK240.1) | ((with_reducible refine gate_callee (f := 55) rfl ?_); refine goesM (N := (some 62)) #[.int .i64 (wrap64 (x2_1 + t258)), .int .i64 0, .int .i64 (wrap64 (a0_1 - 1))] Try.func55 ?_; (with_reducible refine (spec_l1In.calls (wrap64 (x2_1 + t258)) 0 (wrap64 (a0_1 - 1)) true _ A51.1).mono ?_); rintro e w' ⟨rfl, ⟨nd, rfl⟩⟩; refine ⟨_, rfl, ?_⟩))
     go_roundg k1
     case measure => have := HK1.1; omega
     case rel => exact ⟨(wrap64 (x2_1 + t258)), (y252), (wrap64 (-t258)), (wrap64 (x12_1 + 1)), (x242000_1), (x242001_1), (x242002_1), (x243000_1), (x243001_1), (t259), (.slice Ao64 x249002_1.length co64), RG, RG, RG, H', ⟨by have := HK1.1; omega⟩, ⟨PS HO254.1⟩, ⟨RPE (R_mono HO_249002.1 (fun _ hk => trivial))⟩, ⟨PB BK240.1⟩, ⟨PB BK241.1⟩, ⟨PB BK242.1⟩, ⟨PB BK248.1⟩, ⟨BL HB.1⟩⟩
   simp only [Option.some.injEq, Prod.mk.injEq] at H
   obtain ⟨rfl, rfl, rfl, rfl, rfl, rfl, rfl⟩ := H
   obtain ⟨hcz80_0, hcz80_1, hcz80_2, hfz80_0, hfz80_1, hfz80_2⟩ := cz3 BK240.1
   try go_wp2_with (first | ((with_reducible refine gate_dst (N := 26) rfl ?_); refine R_lit (Kd.int .i64) _ 3 ?hg (N := 26) ?hd (xs := ([x12_1, x2_1] : List Int)) (inner := [.int .i64 x12_1, .int .i64 x2_1]) (ok := fun _ => True) (okp := fun _ => True) ?hr ?hp (fun _ hk => hk) trivial (Below.refl _ _) (Nat.le_refl _) (by simp) ?_; (case hd => rfl); (case hg => rfl); (case hr => first | (go_simp; done) | (go_simp; rfl)); (case hp => exact (Reps.one (show Kd.M (Kd.int .i64) _ _ _ x12_1 [.int .i64 x12_1] from rfl) (Reps.one (show Kd.M (Kd.int .i64) _ _ _ x2_1 [.int .i64 x2_1] from rfl) (Reps.none _ _)))); intro v250 w81 ho82 hb hg_ hnew_; clear hg_ hnew_; (first | rw [<- Ny249.1] at ho82 | (simp only [Int.reduceToNat] at ho82; rw [<- Ny249.1] at ho82)); refine E8 (S_elder' (PS HO_10.1) (R_base ho82) hb) (rB HO_249002.1 hb) (R_lower ho82 (bZ HB.1)) (bB BK240.1 hb) (bB BK241.1 hb) (bB BK242.1 hb) (bB BK248.1 hb) (bS HB.1 hb) ?_; clear HO_10 HO_249002 BK240 BK241 BK242 BK248 HB; intro HO_10 HO_249002 HO251 BK240 BK241 BK242 BK248 HB; clear hb ho82; obtain ⟨Ao84, co84, eo84⟩ := R_slice HO251.1; subst eo84) | ((with_reducible refine gate_builtin (b := .append) (xs := #[.tmp 23, .tmp 27]) rfl ?_); at_builtin; refine S_append (Kd.slice 3 (Kd.int .i64)) (w0 := w) w.heap.size rfl (.tmp 23) (.tmp 27) 60 38 (.slice none 0 0) 24 rfl Try.underlying60 info38 rfl (by decide) (by omega) u10 x10_1 y249 [.slice Ao84 y249.length co84] (fun _ => True) (fun k_ => some k_ = (.slice Ao84 y249.length co84 : Value).ownBlock) rfl rfl ?aP (fun k_ hk_ => ((R_mono (ok' := fun k_ => ((fun _ => True)) k_ /\ some k_ ≠ (u10 : Value).ownBlock) (R_apart' (HO251.1) (S_typed HO_10.1) (by decide)) (fun k_ hk => ⟨trivial, hk.2⟩))).1 k_ hk_.symm) ?aF ?aO ?aB ?aS ?aL ?_; (case aP => exact M_row (R_mono (R_tight rfl (R_mono (ok' := fun k_ => ((fun _ => True)) k_ /\ some k_ ≠ (u10 : Value).ownBlock) (R_apart' (HO251.1) (S_typed HO_10.1) (by decide)) (fun k_ hk => ⟨trivial, hk.2⟩))) (fun _ h_ => h_))); (case aB => exact (BL HB.1)); (case aF => exact (fun _ _ => trivial)); (case aO => exact (SPE (S_mono HO_10.1 (fun k_ hk => ⟨trivial, fun e_ => hk.2 e_⟩)))); (case aS => exact (bZ HB.1)); (case aL => have := LMc19.1; omega); intro v253 w83 ho hb hg hat; rw [<- Ny252.1] at ho; refine E7 (R_over' (PR HO_249002.1) (S_typed (PS HO_10.1)) (by decide) hg) (bG BK240.1 hg (S_ne HO_10.1 BK240.1 (by decide))) (bG BK241.1 hg (S_ne HO_10.1 BK241.1 (by decide))) (bG BK242.1 hg (S_ne HO_10.1 BK242.1 (by decide))) (bG BK248.1 hg (S_ne HO_10.1 BK248.1 (by decide))) (hb) (ho) ?_; clear HO_249002 BK240 BK241 BK242 BK248 HB HO_10 HO251; intro HO_249002 BK240 BK241 BK242 BK248 HB HO254; clear ho hb hg hat; have hnb85 := NB248_241.1; have hnc85 := NB241_248.1; have hnb86 := NB248_242.1; have hnc86 := NB242_248.1; obtain ⟨hcz87_0, hcz87_1, hcz87_2, hfz87_0, hfz87_1, hfz87_2⟩ := cz3 BK248.1; obtain ⟨Ao88, co88, eo88⟩ := R_slice HO_249002.1; subst eo88) | ((with_reducible refine gate_callee (f := 95) rfl ?_); refine goesM (N := (some 32)) #[.agg #[.int .i64 t243, .int .i64 t244, .slice Ao88 x249002_1.length co88], .int .i64 x12_1, .int .i64 x2_1] Try.func95 ?_; (with_reducible refine (spec_boAt.calls t243 t244 _ _ x249002_1 x12_1 x2_1 t255 t256 _ ?side1 ?side2 A20.1).mono ?_); (case side1 => exact CB (R_reads' HO_249002.1).2.2); (case side2 => exact (R_reads' HO_249002.1).2.1); rintro e w89 ⟨rfl, hb⟩; refine ⟨_, rfl, ?_⟩; refine E7 (rB HO_249002.1 hb) (sB HO254.1 hb) (bB BK240.1 hb) (bB BK241.1 hb) (bB BK242.1 hb) (bB BK248.1 hb) (bS HB.1 hb) ?_; clear HO_249002 HO254 BK240 BK241 BK242 BK248 HB; intro HO_249002 HO254 BK240 BK241 BK242 BK248 HB; (try clear hb)) | ((with_reducible refine gate_dst (N := 13) rfl ?_); refine boxE (cs := #[.int .i64 0, .int .i64 0]) (t := 83) ?_; intro gb257 hg w90 hbox hb; refine E18 (R_below (R_elderB (PR HO_249002.1) gb257 (Nat.le_of_eq hg.symm)) hb) (sB HO254.1 hb) (bB BK240.1 hb) (bB BK241.1 hb) (bB BK242.1 hb) (bB BK248.1 hb) (bS HB.1 hb) (hbox) (gX HB.1 hg) (gX HB.1 hg) (nB BK240.1 hg) (nC BK240.1 hg) (nB BK241.1 hg) (nC BK241.1 hg) (nB BK242.1 hg) (nC BK242.1 hg) (nB BK248.1 hg) (nC BK248.1 hg) ?_; clear HO_249002 HO254 BK240 BK241 BK242 BK248 HB; intro HO_249002 HO254 BK240 BK241 BK242 BK248 HB BK257 GW257 GE257 NB240_257 NB257_240 NB241_257 NB257_241 NB242_257 NB257_242 NB248_257 NB257_248; clear hb hbox hg; have hnb91 := NB257_240.1; have hnc91 := NB240_257.1; have hnb92 := NB257_241.1; have hnc92 := NB241_257.1; have hnb93 := NB257_242.1; have hnc93 := NB242_257.1; have hnb94 := NB257_248.1; have hnc94 := NB248_257.1; obtain ⟨hcz95_0, hcz95_1, hfz95_0, hfz95_1⟩ := cz2 BK257.1) | ((with_reducible refine gate_callee (f := 96) rfl ?_); refine goesM (N := (some 43)) #[.agg #[.int .i64 t255, .int .i64 t256], .int .i64 x11_1] Try.func96 ?_; (with_reducible refine (spec_paGoes.calls k1 t255 t256 x11_1 t258 _ A49.1).mono ?_); rintro e w96 ⟨rfl, hb⟩; refine ⟨_, rfl, ?_⟩; refine E8 (R_below (by (with_reducible repeat (first | apply R_alloc | apply R_drewN | apply R_drew)); exact (R_mono (RQ gb257 1 (RQ gb257 0 (R_mono HO_249002.1 (fun k_ hk => (⟨hk, hk.2⟩ : _ /\ k_ ≠ gb257))) _) _) (fun _ h_ => h_.1))) hb) (S_below (by (with_reducible repeat (first | apply S_alloc | apply S_drewN | apply S_drew)); exact (S_mono (SQ gb257 1 (SQ gb257 0 (S_types HO254.1 BK257.1 (by decide)) _) _) (fun _ h_ => h_.1))) hb) (blk_below (g := gb240) (o := .cells #[.int .i64 a0_0, .int .i64 a0_1, .slice A0_2 l0_2.length c0_2] 30 (0, 0)) (PF1 NB240_257.1 BK240.1) hb) (blk_below (g := gb241) (o := .cells #[.int .i64 x242000_1, .int .i64 x242001_1, .int .i64 x242002_1] 54 (0, 0)) (PF1 NB241_257.1 BK241.1) hb) (blk_below (g := gb242) (o := .cells #[.int .i64 x243000_1, .int .i64 x243001_1, .slice none 0 0] 30 (0, 0)) (PF1 NB242_257.1 BK242.1) hb) (blk_below (g := gb248) (o := .cells #[.int .i64 t243, .int .i64 t244, .slice Ao88 x249002_1.length co88] 30 (0, 0)) (PF1 NB248_257.1 BK248.1) hb) (blk_below (g := gb257) (o := .cells #[.int .i64 t255, .int .i64 t256] 83 (0, 0)) (PF0 BK257.1) hb) (bS HB.1 hb) ?_; clear HO_249002 HO254 BK240 BK241 BK242 BK248 BK257 HB; intro HO_249002 HO254 BK240 BK241 BK242 BK248 BK257 HB; (try clear hb); (try clear hk); obtain ⟨hcz97_0, hcz97_1, hcz97_2, hfz97_0, hfz97_1, hfz97_2⟩ := cz3 BK248.1; obtain ⟨hcz98_0, hcz98_1, hcz98_2, hfz98_0, hfz98_1, hfz98_2⟩ := cz3 BK240.1) | ((with_reducible refine gate_callee (f := 97) rfl ?_); refine goesM (N := (some 52)) #[.agg #[.int .i64 t243, .int .i64 t244, .slice Ao88 x249002_1.length co88], .slice A1 l1.length c1, .int .i64 (wrap64 ((wrap64 (x12_1 * a0_1)) + x2_1))] Try.func97 ?_; (with_reducible refine (spec_flPass.calls k1 t243 t244 (fun k_ => some k_ = (.slice Ao88 x249002_1.length co88 : Value).ownBlock) (.slice Ao88 x249002_1.length co88) x249002_1 _ _ l1 (wrap64 ((wrap64 (x12_1 * a0_1)) + x2_1)) t259 w _ ?side1 ?side2 ?side3 ?side4 A50.1).mono ?_); (case side1 => exact BL HB.1); (case side2 => exact R_tight rfl HO_249002.1); (case side3 => exact C_kept_came (Kd.heap_int .i64) HR1.1 (BL HB.1) (fun k_ hs_ => (fun e_ => R_base HO_249002.1 k_ e_.symm) hs_)); (case side4 => exact HC1.1); rintro e w99 ⟨rfl, hy0, hb, hkp⟩; refine ⟨_, rfl, ?_⟩; refine E8 (R_reok rfl hy0 (fun k_ e_ => HO_249002.1.1 k_ e_)) (blk_kept (PB BK240.1) hkp (fun hs_ => (fun e_ => (R_ne HO_249002.1 BK240.1 (by decide)) e_) hs_)) (blk_kept (PB BK241.1) hkp (fun hs_ => (fun e_ => (R_ne HO_249002.1 BK241.1 (by decide)) e_) hs_)) (blk_kept (PB BK242.1) hkp (fun hs_ => (fun e_ => (R_ne HO_249002.1 BK242.1 (by decide)) e_) hs_)) (blk_kept (PB BK248.1) hkp (fun hs_ => (fun e_ => (R_ne HO_249002.1 BK248.1 (by decide)) e_) hs_)) (S_mono (ok' := fun k_ => True) (S_keptB ((S_apart' HO254.1 (R_typed HO_249002.1) (by decide))) hkp (fun k_ hk_ hs_ => (hk_.2) hs_)) (fun k_ hk_ => trivial)) (blk_kept (PB BK257.1) hkp (fun hs_ => (fun e_ => (R_away HO_249002.1 (fun _ hk => hk.2)) e_) hs_)) (hb) ?_; clear HO_249002 BK240 BK241 BK242 BK248 HO254 BK257 HB; intro HO_249002 BK240 BK241 BK242 BK248 HO254 BK257 HB; (try clear hb); (try clear hkp); (try clear hy0); obtain ⟨hcz100_0, hcz100_1, hcz100_2, hfz100_0, hfz100_1, hfz100_2⟩ := cz3 BK240.1) | ((with_reducible refine gate_callee (f := 55) rfl ?_); refine goesM (N := (some 62)) #[.int .i64 (wrap64 (x2_1 + t258)), .int .i64 0, .int .i64 (wrap64 (a0_1 - 1))] Try.func55 ?_; (with_reducible refine (spec_l1In.calls (wrap64 (x2_1 + t258)) 0 (wrap64 (a0_1 - 1)) false _ A51.1).mono ?_); rintro e w' ⟨rfl, ⟨nd, rfl⟩⟩; refine ⟨_, rfl, ?_⟩; (try (rw [drewN_self w99]; generalize hq_ : World.drewN w99 _ = w99; have n0_ : Aside0 (Kd.S (Kd.slice 3 (Kd.int .i64)) 38 w99 w.heap.size (fun _ => True) v253 y252) := ⟨by rw [<- hq_]; exact (PS HO254.1)⟩; have n1_ : Aside0 (Kd.R k83 83 w99 w.heap.size (fun k_ => k_ ≠ gb257) (.slice Ao88 x249002_1.length co88) t259) := ⟨by rw [<- hq_]; exact (RPE (R_mono HO_249002.1 (fun _ hk => hk.2)))⟩; have n2_ : Aside0 (w99.heap[gb240]? = some (.cells #[.int .i64 a0_0, .int .i64 a0_1, .slice A0_2 l0_2.length c0_2] 30 (0, 0))) := ⟨by rw [<- hq_]; exact (PB BK240.1)⟩; have n3_ : Aside0 (w99.heap[gb241]? = some (.cells #[.int .i64 x242000_1, .int .i64 x242001_1, .int .i64 x242002_1] 54 (0, 0))) := ⟨by rw [<- hq_]; exact (PB BK241.1)⟩; have n4_ : Aside0 (w99.heap[gb242]? = some (.cells #[.int .i64 x243000_1, .int .i64 x243001_1, .slice none 0 0] 30 (0, 0))) := ⟨by rw [<- hq_]; exact (PB BK242.1)⟩; have n5_ : Aside0 (w99.heap[gb248]? = some (.cells #[.int .i64 t243, .int .i64 t244, .slice Ao88 x249002_1.length co88] 30 (0, 0))) := ⟨by rw [<- hq_]; exact (PB BK248.1)⟩; have n6_ : Aside0 (w99.heap[gb257]? = some (.cells #[.int .i64 t255, .int .i64 t256] 83 (0, 0))) := ⟨by rw [<- hq_]; exact (PB BK257.1)⟩; have n7_ : Aside0 (Below w.heap.size w w99) := ⟨by rw [<- hq_]; exact (BL HB.1)⟩; clear HO254 HO_249002 BK240 BK241 BK242 BK248 BK257 HB hq_; have HO254 := n0_; have HO_249002 := n1_; have BK240 := n2_; have BK241 := n3_; have BK242 := n4_; have BK248 := n5_; have BK257 := n6_; have HB := n7_; clear n0_ n1_ n2_ n3_ n4_ n5_ n6_ n7_))))
   refine E8 (R_drew HO_249002.1) (S_drew HO254.1) (blk_drew BK240.1) (blk_drew BK241.1) (blk_drew BK242.1) (blk_drew BK248.1) (blk_drew BK257.1) (below_drew1 HB.1) ?_
   clear HO_249002 HO254 BK240 BK241 BK242 BK248 BK257 HB
   intro HO_249002 HO254 BK240 BK241 BK242 BK248 BK257 HB
   refine start_ (n := 8) (S := fun w' => w'.cell? ⟨gb248, 0, none⟩ = some (.int .i64 t243) /\ w'.cell? ⟨gb248, 1, none⟩ = some (.int .i64 t244) /\ w'.cell? ⟨gb248, 2, none⟩ = some (.slice Ao88 x249002_1.length co88)) (ds := []) #[Zz,Zz,Zz,Zz,Zz,Zz,Zz,Zz] (by kernel_rfl) rfl rfl ⟨(blk_cell BK248.1 0).trans rfl, (blk_cell BK248.1 1).trans rfl, (blk_cell BK248.1 2).trans rfl⟩ (fun hHeld => ?_); refine with_tabW spec_flGo.tab16 spec_flGo.bits16 (fun HT_ HW_ => ?_)
   generalize w99.drew = w101 at HO_249002 HO254 BK240 BK241 BK242 BK248 BK257 HB hHeld ⊢
   refine pureF 0 (N := some 64) HT_.1 ?_
   refine pureF 1 (N := some 65) HT_.1 ?_
   refine pureF 2 (N := some 66) HT_.1 ?_
   refine pureF 4 (N := some 68) HT_.1 ?_
   refine takeE 3 (N := some 67) HT_.1 HW_.1 hHeld ?_
   refine one_ (i := 5) (N := none) #[Yy,Yy,Yy,Yy,Yy,Yy,Zz,Zz] rfl rfl (one_of HT_.1 (by kernel_rfl)) (by decide) (fun K hK => ?_)
   obtain ⟨hs102, hs103, hs104, hfs102, hfs103, hfs104⟩ := cz3 BK241.1
   have hns102_2 := NB242_241.1
   have hms102_2 := NB241_242.1
   refine skip_ (w1 := ?_) (by rfl) rfl ?_ ?_
   rotate_left
   · go_simp
     rfl
   refine hK.out _ _ ⟨(CF3 NB248_241.1 hHeld.1), (CF3 NB248_241.1 hHeld.2.1), (CF3 NB248_241.1 hHeld.2.2)⟩ (fun hHeld => ?_)
   clear hK K
   refine one_ (i := 6) (N := none) #[Yy,Yy,Yy,Yy,Yy,Yy,Yy,Zz] rfl rfl (one_of HT_.1 (by kernel_rfl)) (by decide) (fun K hK => ?_)
   obtain ⟨hs105, hs106, hs107, hfs105, hfs106, hfs107⟩ := cz3 BK242.1
   refine skip_ (w1 := ?_) (by rfl) rfl ?_ ?_
   rotate_left
   · go_simp
     rfl
   refine hK.out _ _ ⟨(CF3 NB248_242.1 hHeld.1), (CF3 NB248_242.1 hHeld.2.1), (CF3 NB248_242.1 hHeld.2.2)⟩ (fun hHeld => ?_)
   clear hK K
   refine pureF 7 (N := some 8) HT_.1 ?_
   refine done_ (done_of HT_.1 (by kernel_rfl)) ?_
   try go_wp2
   refine bodyPost_ret (results_list (rs := [.cell 6 54, .cell 7 30, .tmp 8]) rfl (by simp) (.cell gb241 54 #[.int .i64 3, .int .i64 x12_1, .int .i64 (wrap64 (x2_1 + t258))] (0, 0) _ rfl (PF1 NB241_242.1 BK241.1) Try.underlying54 rfl (by kernel_rfl) (.cell gb242 30 #[.int .i64 t243, .int .i64 t244, .slice Ao88 x249002_1.length co88] (0, 0) _ rfl (PF1 NB242_241.1 BK242.1) Try.underlying30 rfl (by kernel_rfl) (.tmp .nil)))) rfl ?_
   exact ⟨_, _, RF, by (with_reducible repeat (first | apply R_alloc | apply R_drewN | apply R_drew)); exact R_mono (RQ gb242 2 (RQ gb242 1 (RQ gb242 0 (R_far (p := ⟨gb241, 2, none⟩) (R_far (p := ⟨gb241, 1, none⟩) (R_far (p := ⟨gb241, 0, none⟩) (R_types (R_types HO_249002.1 BK241.1 (by decide)) BK242.1 (by decide)) (fun _ hk => hk.1.2) (.int .i64 3)) (fun _ hk => hk.1.2) (.int .i64 x12_1)) (fun _ hk => hk.1.2) (.int .i64 (wrap64 (x2_1 + t258)))) _) _) _) (fun _ hk => trivial), by (with_reducible repeat (first | apply S_alloc | apply S_drewN | apply S_drew)); exact S_mono (SQ gb242 2 (SQ gb242 1 (SQ gb242 0 (S_far (p := ⟨gb241, 2, none⟩) (S_far (p := ⟨gb241, 1, none⟩) (S_far (p := ⟨gb241, 0, none⟩) (S_types (S_types HO254.1 BK241.1 (by decide)) BK242.1 (by decide)) (fun _ hk => hk.1.2) (.int .i64 3)) (fun _ hk => hk.1.2) (.int .i64 x12_1)) (fun _ hk => hk.1.2) (.int .i64 (wrap64 (x2_1 + t258)))) _) _) _) (fun _ hk => trivial), BL HB.1⟩
 simp only [Option.some.injEq, Prod.mk.injEq] at H
 obtain ⟨rfl, rfl, rfl, rfl, rfl, rfl, rfl⟩ := H
 obtain ⟨hcz111_0, hcz111_1, hcz111_2, hfz111_0, hfz111_1, hfz111_2⟩ := cz3 BK240.1
 try go_wp2
 refine E7 (S_drew HO_10.1) (R_drew HO_249002.1) (blk_drew BK240.1) (blk_drew BK241.1) (blk_drew BK242.1) (blk_drew BK248.1) (below_drew1 HB.1) ?_
 clear HO_10 HO_249002 BK240 BK241 BK242 BK248 HB
 intro HO_10 HO_249002 BK240 BK241 BK242 BK248 HB
 obtain ⟨Ao118, co118, eo118⟩ := R_slice HO_249002.1
 (first | subst eo118 | (injection eo118 with f1_ f2_ f3_; have f4_ := f1_.symm; have f5_ := f3_.symm; clear f1_ f2_ f3_; subst f4_; subst f5_))
 refine start_ (n := 9) (S := fun w' => w'.cell? ⟨gb240, 0, none⟩ = some (.int .i64 a0_0) /\ w'.cell? ⟨gb240, 1, none⟩ = some (.int .i64 a0_1) /\ w'.cell? ⟨gb240, 2, none⟩ = some (.slice A0_2 l0_2.length c0_2) /\ w'.cell? ⟨gb248, 0, none⟩ = some (.int .i64 t243) /\ w'.cell? ⟨gb248, 1, none⟩ = some (.int .i64 t244) /\ w'.cell? ⟨gb248, 2, none⟩ = some (.slice Ao118 x249002_1.length co118)) (ds := []) #[Zz,Zz,Zz,Zz,Zz,Zz,Zz,Zz,Zz] (by kernel_rfl) rfl rfl ⟨(blk_cell BK240.1 0).trans rfl, (blk_cell BK240.1 1).trans rfl, (blk_cell BK240.1 2).trans rfl, (blk_cell BK248.1 0).trans rfl, (blk_cell BK248.1 1).trans rfl, (blk_cell BK248.1 2).trans rfl⟩ (fun hHeld => ?_); refine with_tabW spec_flGo.tab17 spec_flGo.bits17 (fun HT_ HW_ => ?_)
 generalize wr.drew = w112 at HO_10 HO_249002 BK240 BK241 BK242 BK248 HB hHeld ⊢
 refine pureF 0 (N := some 69) HT_.1 ?_
 refine pureF 2 (N := some 71) HT_.1 ?_
 refine pureF 5 (N := some 74) HT_.1 ?_
 refine takeE 1 (N := some 70) HT_.1 HW_.1 hHeld ?_
 refine pureF 3 (N := some 72) HT_.1 ?_
 refine takeE 4 (N := some 73) HT_.1 HW_.1 hHeld ?_
 refine one_ (i := 6) (N := none) #[Yy,Yy,Yy,Yy,Yy,Yy,Yy,Zz,Zz] rfl rfl (one_of HT_.1 (by kernel_rfl)) (by decide) (fun K hK => ?_)
 obtain ⟨hs113, hs114, hs115, hfs113, hfs114, hfs115⟩ := cz3 BK241.1
 have hns113_2 := NB242_241.1
 have hms113_2 := NB241_242.1
 refine skip_ (w1 := ?_) (by rfl) rfl ?_ ?_
 rotate_left
 · go_simp
   rfl
 refine hK.out _ _ ⟨(CF3 NB240_241.1 hHeld.1), (CF3 NB240_241.1 hHeld.2.1), (CF3 NB240_241.1 hHeld.2.2.1), (CF3 NB248_241.1 hHeld.2.2.2.1), (CF3 NB248_241.1 hHeld.2.2.2.2.1), (CF3 NB248_241.1 hHeld.2.2.2.2.2)⟩ (fun hHeld => ?_)
 clear hK K
 refine one_ (i := 7) (N := none) #[Yy,Yy,Yy,Yy,Yy,Yy,Yy,Yy,Zz] rfl rfl (one_of HT_.1 (by kernel_rfl)) (by decide) (fun K hK => ?_)
 obtain ⟨hs116, hs117, hs119, hfs116, hfs117, hfs119⟩ := cz3 BK242.1
 refine skip_ (w1 := ?_) (by rfl) rfl ?_ ?_
 rotate_left
 · go_simp
   rfl
 refine hK.out _ _ ⟨(CF3 NB240_242.1 hHeld.1), (CF3 NB240_242.1 hHeld.2.1), (CF3 NB240_242.1 hHeld.2.2.1), (CF3 NB248_242.1 hHeld.2.2.2.1), (CF3 NB248_242.1 hHeld.2.2.2.2.1), (CF3 NB248_242.1 hHeld.2.2.2.2.2)⟩ (fun hHeld => ?_)
 clear hK K
 refine pureF 8 (N := some 8) HT_.1 ?_
 refine done_ (done_of HT_.1 (by kernel_rfl)) ?_
 try go_wp2
 refine bodyPost_ret (results_list (rs := [.cell 6 54, .cell 7 30, .tmp 8]) rfl (by simp) (.cell gb241 54 #[.int .i64 1, .int .i64 a0_0, .int .i64 x2_1] (0, 0) _ rfl (PF1 NB241_242.1 BK241.1) Try.underlying54 rfl (by kernel_rfl) (.cell gb242 30 #[.int .i64 t243, .int .i64 t244, .slice Ao118 x249002_1.length co118] (0, 0) _ rfl (PF1 NB242_241.1 BK242.1) Try.underlying30 rfl (by kernel_rfl) (.tmp .nil)))) rfl ?_
 exact ⟨_, _, RF, by (with_reducible repeat (first | apply R_alloc | apply R_drewN | apply R_drew)); exact R_mono (RQ gb242 2 (RQ gb242 1 (RQ gb242 0 (R_far (p := ⟨gb241, 2, none⟩) (R_far (p := ⟨gb241, 1, none⟩) (R_far (p := ⟨gb241, 0, none⟩) (R_types (R_types HO_249002.1 BK241.1 (by decide)) BK242.1 (by decide)) (fun _ hk => hk.1.2) (.int .i64 1)) (fun _ hk => hk.1.2) (.int .i64 a0_0)) (fun _ hk => hk.1.2) (.int .i64 x2_1)) _) _) _) (fun _ hk => trivial), by (with_reducible repeat (first | apply S_alloc | apply S_drewN | apply S_drew)); exact S_mono (SQ gb242 2 (SQ gb242 1 (SQ gb242 0 (S_far (p := ⟨gb241, 2, none⟩) (S_far (p := ⟨gb241, 1, none⟩) (S_far (p := ⟨gb241, 0, none⟩) (S_types (S_types HO_10.1 BK241.1 (by decide)) BK242.1 (by decide)) (fun _ hk => hk.1.2) (.int .i64 1)) (fun _ hk => hk.1.2) (.int .i64 a0_0)) (fun _ hk => hk.1.2) (.int .i64 x2_1)) _) _) _) (fun _ hk => trivial), BL HB.1⟩
def spec_flRun.f (k : Nat) (a0_0 : Int) (a0_1 : Int) (l0_2 : List (S83)) (a1 : Int) : Option (Int × Int × Int × Int × Int × (List (S83))) := (spec_ggGroups.f k a0_0 a0_1 l0_2).bind fun t264 => ((spec_flGo.f k a0_0 a0_1 l0_2 t264 a1).bind fun bt267 => (some (bt267.1, bt267.2.1, bt267.2.2.1, bt267.2.2.2.1, bt267.2.2.2.2.1, bt267.2.2.2.2.2.1)))
theorem spec_flRun.mono : ∀ a0 a1 a2 a3 k, LeO (spec_flRun.f k a0 a1 a2 a3) (spec_flRun.f (k + 1) a0 a1 a2 a3) := by
 intro a0 a1 a2 a3 k
 unfold spec_flRun.f
 repeat' first
  | (with_reducible exact spec_flGo.mono _ _ _ _ _ _)
  | (with_reducible exact spec_ggGroups.mono _ _ _ _)
  | (with_reducible exact LeO.refl _)
  | (with_reducible exact LeO.none _)
  | (with_reducible refine LeO.ite ?_ ?_)
  | (with_reducible refine LeO.bind ?_ (fun _ => ?_))
  | exact spec_flGo.mono _ _ _ _ _ _
  | exact spec_ggGroups.mono _ _ _ _
  | exact LeO.none _
  | refine LeO.ite ?_ ?_
  | refine LeO.bind ?_ (fun _ => ?_)
def spec_flRun.T1 : Bool × List (List Nat × List Nat) := (true, [([], []), ([], []), ([1], [1]), ([], []), ([0, 2, 3, 2], [0, 2, 3]), ([4], [4]), ([5], [5]), ([5], [5]), ([5], [5]), ([], []), ([], []), ([9, 6, 4, 0, 1, 2, 3, 4, 5, 6, 9, 10], [6, 9]), ([10, 7, 11, 0, 1, 2, 3, 4, 5, 6, 7, 9, 10, 11], [7, 10]), ([8, 12, 0, 1, 2, 3, 4, 5, 6, 7, 8, 9, 10, 11, 12], [8])])
def spec_flRun.B1 : List Nat := [0, 0, 2, 0, 15, 31, 63, 63, 63, 0, 0, 1663, 3839, 8191]
theorem spec_flRun.tab1 : rtab .any (opsOf Try.f69 1) = spec_flRun.T1 := by kernel_rfl
theorem spec_flRun.bits1 : waitsOk spec_flRun.T1.2 spec_flRun.B1 = true := by kernel_rfl
theorem spec_flRun.calls (k : Nat) (a0_0 : Int) (a0_1 : Int) (A0_2 : Option Addr) (c0_2 : Nat) (l0_2 : List (S83)) (a1 : Int) (r1 : Int) (r2 : Int) (r3 : Int) (r4 : Int) (r5 : Int) (r6 : List (S83)) (w : World) (hr0_2 : Kd.C k83 w A0_2 l0_2.length l0_2) (hc0_2 : l0_2.length <= c0_2) (h : spec_flRun.f k a0_0 a0_1 l0_2 a1 = some (r1, r2, r3, r4, r5, r6)) :
 Calls Try.prog 69 #[.agg #[.int .i64 a0_0, .int .i64 a0_1, .slice A0_2 l0_2.length c0_2], .int .i64 a1] w fun e w' => ∃ v5_ : Value, e = .returned (.tuple #[.agg #[.int .i64 r1, .int .i64 r2, .int .i64 r3], .agg #[.int .i64 r4, .int .i64 r5, v5_]]) /\ Kd.R k83 83 w' w.heap.size (fun _ => True) v5_ r6 /\ Below w.heap.size w w' := by
 have hu30 := Try.underlying30
 have hu54 := Try.underlying54
 have HR0_2 := Aside0.mk hr0_2
 have HC0_2 := Aside0.mk hc0_2
 clear hr0_2 hc0_2
 have HB := Aside0.mk (Below.refl w.heap.size w)
 have H := h
 clear h
 unfold spec_flRun.f at H
 replace H := bindA H; obtain ⟨t264, A3, H⟩ := H
 replace H := bindA H; obtain ⟨⟨t267, t268, t269, t270, t271, t272, t275⟩, A4, H⟩ := H
 dsimp only at H
 simp only [Option.some.injEq, Prod.mk.injEq] at H
 obtain ⟨rfl, rfl, rfl, rfl, rfl, rfl⟩ := H
 go_enter Try.func69, Try.ntmps69
 try go_wp2_with (first | ((with_reducible refine gate_dst (N := 2) rfl ?_); refine boxE (cs := #[.int .i64 a0_0, .int .i64 a0_1, .slice A0_2 l0_2.length c0_2]) (t := 30) ?_; intro gb261 hg w5 hbox hb; refine E4b HB.1 hg hbox hb ?_; clear HB; intro HB BK261 GW261 GE261; clear hb hbox hg) | ((with_reducible refine gate_dst (N := 4) rfl ?_); refine boxE (cs := #[.int .i64 0, .int .i64 0, .int .i64 0]) (t := 54) ?_; intro gb262 hg w6 hbox hb; refine E7 (bB BK261.1 hb) (bS HB.1 hb) (hbox) (gX HB.1 hg) (gX HB.1 hg) (nB BK261.1 hg) (nC BK261.1 hg) ?_; clear BK261 HB; intro BK261 HB BK262 GW262 GE262 NB261_262 NB262_261; clear hb hbox hg) | ((with_reducible refine gate_dst (N := 5) rfl ?_); refine boxE (cs := #[.int .i64 0, .int .i64 0, .slice none 0 0]) (t := 30) ?_; intro gb263 hg w7 hbox hb; refine E10 (bB BK261.1 hb) (bB BK262.1 hb) (bS HB.1 hb) (hbox) (gX HB.1 hg) (gX HB.1 hg) (nB BK261.1 hg) (nC BK261.1 hg) (nB BK262.1 hg) (nC BK262.1 hg) ?_; clear BK261 BK262 HB; intro BK261 BK262 HB BK263 GW263 GE263 NB261_263 NB263_261 NB262_263 NB263_262; clear hb hbox hg))
 refine E4 (blk_drew BK261.1) (blk_drew BK262.1) (blk_drew BK263.1) (below_drew1 HB.1) ?_
 clear BK261 BK262 BK263 HB
 intro BK261 BK262 BK263 HB
 refine start_ (n := 14) (S := fun w' => w'.cell? ⟨gb261, 0, none⟩ = some (.int .i64 a0_0) /\ w'.cell? ⟨gb261, 1, none⟩ = some (.int .i64 a0_1) /\ w'.cell? ⟨gb261, 2, none⟩ = some (.slice A0_2 l0_2.length c0_2)) (ds := []) #[Zz,Zz,Zz,Zz,Zz,Zz,Zz,Zz,Zz,Zz,Zz,Zz,Zz,Zz] (by kernel_rfl) rfl rfl ⟨(blk_cell BK261.1 0).trans rfl, (blk_cell BK261.1 1).trans rfl, (blk_cell BK261.1 2).trans rfl⟩ (fun hHeld => ?_); refine with_tabW spec_flRun.tab1 spec_flRun.bits1 (fun HT_ HW_ => ?_)
 generalize w7.drew = w8 at BK261 BK262 BK263 HB hHeld ⊢
 refine pureF 3 (N := some 13) HT_.1 ?_
 refine takeE 0 (N := some 10) HT_.1 HW_.1 hHeld ?_
 refine takeE 1 (N := some 11) HT_.1 HW_.1 hHeld ?_
 refine join_ (σ := Value × Value × Value × Nat × Nat) 3 #[Yy,Yy,Yy,Yy,Yy,Yy,Yy,Yy,Yy,Yy,Yy,Zz,Zz,Zz] (fun s_ => [(12, s_.1), (14, .tuple #[.agg #[.int .i64 t267, .int .i64 t268, .int .i64 t269], .agg #[.int .i64 t270, .int .i64 t271, s_.2.1], s_.2.2.1]), (6, .pointer (some ⟨s_.2.2.2.1, 0, none⟩)), (7, .pointer (some ⟨s_.2.2.2.2, 0, none⟩)), (9, .tuple #[.agg #[.int .i64 t267, .int .i64 t268, .int .i64 t269], .agg #[.int .i64 t270, .int .i64 t271, s_.2.1], s_.2.2.1]), (15, .agg #[.int .i64 t267, .int .i64 t268, .int .i64 t269]), (16, .agg #[.int .i64 t270, .int .i64 t271, s_.2.1]), (17, s_.2.2.1)]) (fun s_ w' => (w'.cell? ⟨gb261, 0, none⟩ = some (.int .i64 a0_0) /\ w'.cell? ⟨gb261, 1, none⟩ = some (.int .i64 a0_1) /\ w'.cell? ⟨gb261, 2, none⟩ = some (.slice A0_2 l0_2.length c0_2)) /\ (Kd.R (Kd.int .i64) 3 w' w.heap.size (fun _ => True) s_.1 t264) /\ (Kd.R k83 83 w' w.heap.size (fun _ => True) s_.2.1 t272) /\ (Kd.S (Kd.slice 3 (Kd.int .i64)) 38 w' w.heap.size (fun k_ => some k_ ≠ (s_.1 : Value).ownBlock) s_.2.2.1 t275) /\ (w'.heap[gb261]? = some (.cells #[.int .i64 a0_0, .int .i64 a0_1, .slice A0_2 l0_2.length c0_2] 30 (0, 0))) /\ (w'.heap[gb262]? = some (.cells #[.int .i64 0, .int .i64 0, .int .i64 0] 54 (0, 0))) /\ (w'.heap[gb263]? = some (.cells #[.int .i64 0, .int .i64 0, .slice none 0 0] 30 (0, 0))) /\ (w'.heap[s_.2.2.2.1]? = some (.cells #[.int .i64 0, .int .i64 0, .int .i64 0] 54 (0, 0))) /\ (w'.heap[s_.2.2.2.2]? = some (.cells #[.int .i64 0, .int .i64 0, .slice none 0 0] 30 (0, 0))) /\ (w.heap.size <= s_.2.2.2.1) /\ (w.heap.size <= s_.2.2.2.1) /\ (gb261 ≠ s_.2.2.2.1) /\ (s_.2.2.2.1 ≠ gb261) /\ (gb262 ≠ s_.2.2.2.1) /\ (s_.2.2.2.1 ≠ gb262) /\ (gb263 ≠ s_.2.2.2.1) /\ (s_.2.2.2.1 ≠ gb263) /\ (s_.2.2.2.2 ≠ s_.2.2.2.1) /\ (s_.2.2.2.1 ≠ s_.2.2.2.2) /\ (w.heap.size <= s_.2.2.2.2) /\ (w.heap.size <= s_.2.2.2.2) /\ (gb261 ≠ s_.2.2.2.2) /\ (s_.2.2.2.2 ≠ gb261) /\ (gb262 ≠ s_.2.2.2.2) /\ (s_.2.2.2.2 ≠ gb262) /\ (gb263 ≠ s_.2.2.2.2) /\ (s_.2.2.2.2 ≠ gb263) /\ (Below w.heap.size w w')) ?_ ?_
 rotate_left
 · intro hJ2_4_9_10
   refine join_ (σ := Value × Value × Value × Nat) 4 #[Yy,Yy,Yy,Yy,Yy,Yy,Yy,Yy,Yy,Yy,Zz,Zz,Zz,Zz] (fun s_ => [(12, s_.1), (14, .tuple #[.agg #[.int .i64 t267, .int .i64 t268, .int .i64 t269], .agg #[.int .i64 t270, .int .i64 t271, s_.2.1], s_.2.2.1]), (6, .pointer (some ⟨s_.2.2.2, 0, none⟩)), (9, .tuple #[.agg #[.int .i64 t267, .int .i64 t268, .int .i64 t269], .agg #[.int .i64 t270, .int .i64 t271, s_.2.1], s_.2.2.1]), (15, .agg #[.int .i64 t267, .int .i64 t268, .int .i64 t269]), (16, .agg #[.int .i64 t270, .int .i64 t271, s_.2.1]), (17, s_.2.2.1)]) (fun s_ w' => (w'.cell? ⟨gb261, 0, none⟩ = some (.int .i64 a0_0) /\ w'.cell? ⟨gb261, 1, none⟩ = some (.int .i64 a0_1) /\ w'.cell? ⟨gb261, 2, none⟩ = some (.slice A0_2 l0_2.length c0_2)) /\ (Kd.R (Kd.int .i64) 3 w' w.heap.size (fun _ => True) s_.1 t264) /\ (Kd.R k83 83 w' w.heap.size (fun _ => True) s_.2.1 t272) /\ (Kd.S (Kd.slice 3 (Kd.int .i64)) 38 w' w.heap.size (fun k_ => some k_ ≠ (s_.1 : Value).ownBlock) s_.2.2.1 t275) /\ (w'.heap[gb261]? = some (.cells #[.int .i64 a0_0, .int .i64 a0_1, .slice A0_2 l0_2.length c0_2] 30 (0, 0))) /\ (w'.heap[gb262]? = some (.cells #[.int .i64 0, .int .i64 0, .int .i64 0] 54 (0, 0))) /\ (w'.heap[gb263]? = some (.cells #[.int .i64 0, .int .i64 0, .slice none 0 0] 30 (0, 0))) /\ (w'.heap[s_.2.2.2]? = some (.cells #[.int .i64 0, .int .i64 0, .int .i64 0] 54 (0, 0))) /\ (w.heap.size <= s_.2.2.2) /\ (w.heap.size <= s_.2.2.2) /\ (gb261 ≠ s_.2.2.2) /\ (s_.2.2.2 ≠ gb261) /\ (gb262 ≠ s_.2.2.2) /\ (s_.2.2.2 ≠ gb262) /\ (gb263 ≠ s_.2.2.2) /\ (s_.2.2.2 ≠ gb263) /\ (Below w.heap.size w w')) ?_ ?_
   rotate_left
   · intro hJ2_4_9
     refine join_ (σ := Value × Value × Value × Nat) 4 #[Yy,Yy,Yy,Yy,Yy,Yy,Yy,Yy,Yy,Zz,Yy,Zz,Zz,Zz] (fun s_ => [(12, s_.1), (14, .tuple #[.agg #[.int .i64 t267, .int .i64 t268, .int .i64 t269], .agg #[.int .i64 t270, .int .i64 t271, s_.2.1], s_.2.2.1]), (7, .pointer (some ⟨s_.2.2.2, 0, none⟩)), (9, .tuple #[.agg #[.int .i64 t267, .int .i64 t268, .int .i64 t269], .agg #[.int .i64 t270, .int .i64 t271, s_.2.1], s_.2.2.1]), (15, .agg #[.int .i64 t267, .int .i64 t268, .int .i64 t269]), (16, .agg #[.int .i64 t270, .int .i64 t271, s_.2.1]), (17, s_.2.2.1)]) (fun s_ w' => (w'.cell? ⟨gb261, 0, none⟩ = some (.int .i64 a0_0) /\ w'.cell? ⟨gb261, 1, none⟩ = some (.int .i64 a0_1) /\ w'.cell? ⟨gb261, 2, none⟩ = some (.slice A0_2 l0_2.length c0_2)) /\ (Kd.R (Kd.int .i64) 3 w' w.heap.size (fun _ => True) s_.1 t264) /\ (Kd.R k83 83 w' w.heap.size (fun _ => True) s_.2.1 t272) /\ (Kd.S (Kd.slice 3 (Kd.int .i64)) 38 w' w.heap.size (fun k_ => some k_ ≠ (s_.1 : Value).ownBlock) s_.2.2.1 t275) /\ (w'.heap[gb261]? = some (.cells #[.int .i64 a0_0, .int .i64 a0_1, .slice A0_2 l0_2.length c0_2] 30 (0, 0))) /\ (w'.heap[gb262]? = some (.cells #[.int .i64 0, .int .i64 0, .int .i64 0] 54 (0, 0))) /\ (w'.heap[gb263]? = some (.cells #[.int .i64 0, .int .i64 0, .slice none 0 0] 30 (0, 0))) /\ (w'.heap[s_.2.2.2]? = some (.cells #[.int .i64 0, .int .i64 0, .slice none 0 0] 30 (0, 0))) /\ (w.heap.size <= s_.2.2.2) /\ (w.heap.size <= s_.2.2.2) /\ (gb261 ≠ s_.2.2.2) /\ (s_.2.2.2 ≠ gb261) /\ (gb262 ≠ s_.2.2.2) /\ (s_.2.2.2 ≠ gb262) /\ (gb263 ≠ s_.2.2.2) /\ (s_.2.2.2 ≠ gb263) /\ (Below w.heap.size w w')) ?_ ?_
     rotate_left
     · intro hJ2_4_10
       refine join_ (σ := Value × Nat × Nat) 8 #[Yy,Yy,Yy,Yy,Zz,Zz,Zz,Zz,Zz,Yy,Yy,Zz,Zz,Zz] (fun s_ => [(12, s_.1), (6, .pointer (some ⟨s_.2.1, 0, none⟩)), (7, .pointer (some ⟨s_.2.2, 0, none⟩))]) (fun s_ w' => (w'.cell? ⟨gb261, 0, none⟩ = some (.int .i64 a0_0) /\ w'.cell? ⟨gb261, 1, none⟩ = some (.int .i64 a0_1) /\ w'.cell? ⟨gb261, 2, none⟩ = some (.slice A0_2 l0_2.length c0_2)) /\ (Kd.R (Kd.int .i64) 3 w' w.heap.size (fun _ => True) s_.1 t264) /\ (w'.heap[gb261]? = some (.cells #[.int .i64 a0_0, .int .i64 a0_1, .slice A0_2 l0_2.length c0_2] 30 (0, 0))) /\ (w'.heap[gb262]? = some (.cells #[.int .i64 0, .int .i64 0, .int .i64 0] 54 (0, 0))) /\ (w'.heap[gb263]? = some (.cells #[.int .i64 0, .int .i64 0, .slice none 0 0] 30 (0, 0))) /\ (w'.heap[s_.2.1]? = some (.cells #[.int .i64 0, .int .i64 0, .int .i64 0] 54 (0, 0))) /\ (w'.heap[s_.2.2]? = some (.cells #[.int .i64 0, .int .i64 0, .slice none 0 0] 30 (0, 0))) /\ (w.heap.size <= s_.2.1) /\ (w.heap.size <= s_.2.1) /\ (gb261 ≠ s_.2.1) /\ (s_.2.1 ≠ gb261) /\ (gb262 ≠ s_.2.1) /\ (s_.2.1 ≠ gb262) /\ (gb263 ≠ s_.2.1) /\ (s_.2.1 ≠ gb263) /\ (s_.2.2 ≠ s_.2.1) /\ (s_.2.1 ≠ s_.2.2) /\ (w.heap.size <= s_.2.2) /\ (w.heap.size <= s_.2.2) /\ (gb261 ≠ s_.2.2) /\ (s_.2.2 ≠ gb261) /\ (gb262 ≠ s_.2.2) /\ (s_.2.2 ≠ gb262) /\ (gb263 ≠ s_.2.2) /\ (s_.2.2 ≠ gb263) /\ (Below w.heap.size w w')) ?_ ?_
       rotate_left
       · intro hJ2_9_10
         refine join_ (σ := Value × Value × Value) 5 #[Yy,Yy,Yy,Yy,Yy,Yy,Yy,Yy,Yy,Zz,Zz,Zz,Zz,Zz] (fun s_ => [(12, s_.1), (14, .tuple #[.agg #[.int .i64 t267, .int .i64 t268, .int .i64 t269], .agg #[.int .i64 t270, .int .i64 t271, s_.2.1], s_.2.2]), (9, .tuple #[.agg #[.int .i64 t267, .int .i64 t268, .int .i64 t269], .agg #[.int .i64 t270, .int .i64 t271, s_.2.1], s_.2.2]), (15, .agg #[.int .i64 t267, .int .i64 t268, .int .i64 t269]), (16, .agg #[.int .i64 t270, .int .i64 t271, s_.2.1]), (17, s_.2.2)]) (fun s_ w' => (w'.cell? ⟨gb261, 0, none⟩ = some (.int .i64 a0_0) /\ w'.cell? ⟨gb261, 1, none⟩ = some (.int .i64 a0_1) /\ w'.cell? ⟨gb261, 2, none⟩ = some (.slice A0_2 l0_2.length c0_2)) /\ (Kd.R (Kd.int .i64) 3 w' w.heap.size (fun _ => True) s_.1 t264) /\ (Kd.R k83 83 w' w.heap.size (fun _ => True) s_.2.1 t272) /\ (Kd.S (Kd.slice 3 (Kd.int .i64)) 38 w' w.heap.size (fun k_ => some k_ ≠ (s_.1 : Value).ownBlock) s_.2.2 t275) /\ (w'.heap[gb261]? = some (.cells #[.int .i64 a0_0, .int .i64 a0_1, .slice A0_2 l0_2.length c0_2] 30 (0, 0))) /\ (w'.heap[gb262]? = some (.cells #[.int .i64 0, .int .i64 0, .int .i64 0] 54 (0, 0))) /\ (w'.heap[gb263]? = some (.cells #[.int .i64 0, .int .i64 0, .slice none 0 0] 30 (0, 0))) /\ (Below w.heap.size w w')) ?_ ?_
         rotate_left
         · intro hJ2_4
           refine join_ (σ := Value × Nat) 9 #[Yy,Yy,Yy,Yy,Zz,Zz,Zz,Zz,Zz,Yy,Zz,Zz,Zz,Zz] (fun s_ => [(12, s_.1), (6, .pointer (some ⟨s_.2, 0, none⟩))]) (fun s_ w' => (w'.cell? ⟨gb261, 0, none⟩ = some (.int .i64 a0_0) /\ w'.cell? ⟨gb261, 1, none⟩ = some (.int .i64 a0_1) /\ w'.cell? ⟨gb261, 2, none⟩ = some (.slice A0_2 l0_2.length c0_2)) /\ (Kd.R (Kd.int .i64) 3 w' w.heap.size (fun _ => True) s_.1 t264) /\ (w'.heap[gb261]? = some (.cells #[.int .i64 a0_0, .int .i64 a0_1, .slice A0_2 l0_2.length c0_2] 30 (0, 0))) /\ (w'.heap[gb262]? = some (.cells #[.int .i64 0, .int .i64 0, .int .i64 0] 54 (0, 0))) /\ (w'.heap[gb263]? = some (.cells #[.int .i64 0, .int .i64 0, .slice none 0 0] 30 (0, 0))) /\ (w'.heap[s_.2]? = some (.cells #[.int .i64 0, .int .i64 0, .int .i64 0] 54 (0, 0))) /\ (w.heap.size <= s_.2) /\ (w.heap.size <= s_.2) /\ (gb261 ≠ s_.2) /\ (s_.2 ≠ gb261) /\ (gb262 ≠ s_.2) /\ (s_.2 ≠ gb262) /\ (gb263 ≠ s_.2) /\ (s_.2 ≠ gb263) /\ (Below w.heap.size w w')) ?_ ?_
           rotate_left
           · intro hJ2_9
             refine join_ (σ := Value × Nat) 9 #[Yy,Yy,Yy,Yy,Zz,Zz,Zz,Zz,Zz,Zz,Yy,Zz,Zz,Zz] (fun s_ => [(12, s_.1), (7, .pointer (some ⟨s_.2, 0, none⟩))]) (fun s_ w' => (w'.cell? ⟨gb261, 0, none⟩ = some (.int .i64 a0_0) /\ w'.cell? ⟨gb261, 1, none⟩ = some (.int .i64 a0_1) /\ w'.cell? ⟨gb261, 2, none⟩ = some (.slice A0_2 l0_2.length c0_2)) /\ (Kd.R (Kd.int .i64) 3 w' w.heap.size (fun _ => True) s_.1 t264) /\ (w'.heap[gb261]? = some (.cells #[.int .i64 a0_0, .int .i64 a0_1, .slice A0_2 l0_2.length c0_2] 30 (0, 0))) /\ (w'.heap[gb262]? = some (.cells #[.int .i64 0, .int .i64 0, .int .i64 0] 54 (0, 0))) /\ (w'.heap[gb263]? = some (.cells #[.int .i64 0, .int .i64 0, .slice none 0 0] 30 (0, 0))) /\ (w'.heap[s_.2]? = some (.cells #[.int .i64 0, .int .i64 0, .slice none 0 0] 30 (0, 0))) /\ (w.heap.size <= s_.2) /\ (w.heap.size <= s_.2) /\ (gb261 ≠ s_.2) /\ (s_.2 ≠ gb261) /\ (gb262 ≠ s_.2) /\ (s_.2 ≠ gb262) /\ (gb263 ≠ s_.2) /\ (s_.2 ≠ gb263) /\ (Below w.heap.size w w')) ?_ ?_
             rotate_left
             · intro hJ2_10
               refine join_ (σ := Nat × Nat) 9 #[Yy,Yy,Zz,Yy,Zz,Zz,Zz,Zz,Zz,Yy,Yy,Zz,Zz,Zz] (fun s_ => [(6, .pointer (some ⟨s_.1, 0, none⟩)), (7, .pointer (some ⟨s_.2, 0, none⟩))]) (fun s_ w' => (w'.cell? ⟨gb261, 0, none⟩ = some (.int .i64 a0_0) /\ w'.cell? ⟨gb261, 1, none⟩ = some (.int .i64 a0_1) /\ w'.cell? ⟨gb261, 2, none⟩ = some (.slice A0_2 l0_2.length c0_2)) /\ (w'.heap[gb261]? = some (.cells #[.int .i64 a0_0, .int .i64 a0_1, .slice A0_2 l0_2.length c0_2] 30 (0, 0))) /\ (w'.heap[gb262]? = some (.cells #[.int .i64 0, .int .i64 0, .int .i64 0] 54 (0, 0))) /\ (w'.heap[gb263]? = some (.cells #[.int .i64 0, .int .i64 0, .slice none 0 0] 30 (0, 0))) /\ (w'.heap[s_.1]? = some (.cells #[.int .i64 0, .int .i64 0, .int .i64 0] 54 (0, 0))) /\ (w'.heap[s_.2]? = some (.cells #[.int .i64 0, .int .i64 0, .slice none 0 0] 30 (0, 0))) /\ (w.heap.size <= s_.1) /\ (w.heap.size <= s_.1) /\ (gb261 ≠ s_.1) /\ (s_.1 ≠ gb261) /\ (gb262 ≠ s_.1) /\ (s_.1 ≠ gb262) /\ (gb263 ≠ s_.1) /\ (s_.1 ≠ gb263) /\ (s_.2 ≠ s_.1) /\ (s_.1 ≠ s_.2) /\ (w.heap.size <= s_.2) /\ (w.heap.size <= s_.2) /\ (gb261 ≠ s_.2) /\ (s_.2 ≠ gb261) /\ (gb262 ≠ s_.2) /\ (s_.2 ≠ gb262) /\ (gb263 ≠ s_.2) /\ (s_.2 ≠ gb263) /\ (Below w.heap.size w w')) ?_ ?_
               rotate_left
               · intro hJ9_10
                 refine join_ (σ := Value) 10 #[Yy,Yy,Yy,Yy,Zz,Zz,Zz,Zz,Zz,Zz,Zz,Zz,Zz,Zz] (fun s_ => [(12, s_)]) (fun s_ w' => (w'.cell? ⟨gb261, 0, none⟩ = some (.int .i64 a0_0) /\ w'.cell? ⟨gb261, 1, none⟩ = some (.int .i64 a0_1) /\ w'.cell? ⟨gb261, 2, none⟩ = some (.slice A0_2 l0_2.length c0_2)) /\ (Kd.R (Kd.int .i64) 3 w' w.heap.size (fun _ => True) s_ t264) /\ (w'.heap[gb261]? = some (.cells #[.int .i64 a0_0, .int .i64 a0_1, .slice A0_2 l0_2.length c0_2] 30 (0, 0))) /\ (w'.heap[gb262]? = some (.cells #[.int .i64 0, .int .i64 0, .int .i64 0] 54 (0, 0))) /\ (w'.heap[gb263]? = some (.cells #[.int .i64 0, .int .i64 0, .slice none 0 0] 30 (0, 0))) /\ (Below w.heap.size w w')) ?_ ?_
                 rotate_left
                 · intro hJ2
                   refine join_ (σ := Nat) 10 #[Yy,Yy,Zz,Yy,Zz,Zz,Zz,Zz,Zz,Yy,Zz,Zz,Zz,Zz] (fun s_ => [(6, .pointer (some ⟨s_, 0, none⟩))]) (fun s_ w' => (w'.cell? ⟨gb261, 0, none⟩ = some (.int .i64 a0_0) /\ w'.cell? ⟨gb261, 1, none⟩ = some (.int .i64 a0_1) /\ w'.cell? ⟨gb261, 2, none⟩ = some (.slice A0_2 l0_2.length c0_2)) /\ (w'.heap[gb261]? = some (.cells #[.int .i64 a0_0, .int .i64 a0_1, .slice A0_2 l0_2.length c0_2] 30 (0, 0))) /\ (w'.heap[gb262]? = some (.cells #[.int .i64 0, .int .i64 0, .int .i64 0] 54 (0, 0))) /\ (w'.heap[gb263]? = some (.cells #[.int .i64 0, .int .i64 0, .slice none 0 0] 30 (0, 0))) /\ (w'.heap[s_]? = some (.cells #[.int .i64 0, .int .i64 0, .int .i64 0] 54 (0, 0))) /\ (w.heap.size <= s_) /\ (w.heap.size <= s_) /\ (gb261 ≠ s_) /\ (s_ ≠ gb261) /\ (gb262 ≠ s_) /\ (s_ ≠ gb262) /\ (gb263 ≠ s_) /\ (s_ ≠ gb263) /\ (Below w.heap.size w w')) ?_ ?_
                   rotate_left
                   · intro hJ9
                     refine join_ (σ := Nat) 10 #[Yy,Yy,Zz,Yy,Zz,Zz,Zz,Zz,Zz,Zz,Yy,Zz,Zz,Zz] (fun s_ => [(7, .pointer (some ⟨s_, 0, none⟩))]) (fun s_ w' => (w'.cell? ⟨gb261, 0, none⟩ = some (.int .i64 a0_0) /\ w'.cell? ⟨gb261, 1, none⟩ = some (.int .i64 a0_1) /\ w'.cell? ⟨gb261, 2, none⟩ = some (.slice A0_2 l0_2.length c0_2)) /\ (w'.heap[gb261]? = some (.cells #[.int .i64 a0_0, .int .i64 a0_1, .slice A0_2 l0_2.length c0_2] 30 (0, 0))) /\ (w'.heap[gb262]? = some (.cells #[.int .i64 0, .int .i64 0, .int .i64 0] 54 (0, 0))) /\ (w'.heap[gb263]? = some (.cells #[.int .i64 0, .int .i64 0, .slice none 0 0] 30 (0, 0))) /\ (w'.heap[s_]? = some (.cells #[.int .i64 0, .int .i64 0, .slice none 0 0] 30 (0, 0))) /\ (w.heap.size <= s_) /\ (w.heap.size <= s_) /\ (gb261 ≠ s_) /\ (s_ ≠ gb261) /\ (gb262 ≠ s_) /\ (s_ ≠ gb262) /\ (gb263 ≠ s_) /\ (s_ ≠ gb263) /\ (Below w.heap.size w w')) ?_ ?_
                     rotate_left
                     · intro hJ10
                       refine three_ (i := 2) (j := 9) (k := 10) (Ni := some 12) (Nj := some 6) (Nk := some 7) #[Yy,Yy,Yy,Yy,Zz,Zz,Zz,Zz,Zz,Zz,Zz,Zz,Zz,Zz] #[Yy,Yy,Zz,Yy,Zz,Zz,Zz,Zz,Zz,Yy,Zz,Zz,Zz,Zz] #[Yy,Yy,Zz,Yy,Zz,Zz,Zz,Zz,Zz,Zz,Yy,Zz,Zz,Zz] rfl rfl rfl rfl rfl rfl (three_of HT_.1 (by kernel_rfl)) (by decide) (by decide) (by decide) (fun K hK => ?_) (fun K hK => ?_) (fun K hK => ?_)
                       · skip
                         refine goes_ Try.func80 (by kernel_rfl) rfl #[.agg #[.int .i64 a0_0, .int .i64 a0_1, .slice A0_2 l0_2.length c0_2]] (by rfl) rfl rfl (by (try simp only [List.map_toArray, List.map_cons, List.map_nil]); first | done | rfl | (simp only [List.length_drop, List.length_take]; rfl)) ?_
                         with_reducible refine (spec_ggGroups.calls k a0_0 a0_1 _ _ l0_2 t264 _ ?side1 ?side2 A3.1).mono ?_
                         (case side1 => exact CB (C_below HR0_2.1 HB.1))
                         (case side2 => exact HC0_2.1)
                         rintro e w9 ⟨v265, rfl, ho0, hb⟩
                         refine ⟨_, rfl, ?_⟩
                         refine E5 (R_lower ho0 (bZ HB.1)) (bB BK261.1 hb) (bB BK262.1 hb) (bB BK263.1 hb) (bS HB.1 hb) ?_
                         clear BK261 BK262 BK263 HB
                         intro HO266 BK261 BK262 BK263 HB
                         (try clear hb)
                         (try clear hb2)
                         (try clear hk)
                         (try clear hi)
                         (try clear ho0)
                         refine hK.out _ _ ⟨(blk_cell BK261.1 0).trans rfl, (blk_cell BK261.1 1).trans rfl, (blk_cell BK261.1 2).trans rfl⟩ (fun hHeld => ?_)
                         clear hK K
                         refine norm_ (a' := ?_) ?_ ?_
                         rotate_left
                         · show Act.put _ (some 12) _ = _
                           simp only [Act.put, List.setIfInBounds_toArray, List.set_cons_zero, List.set_cons_succ, i64_w, i32_w]
                           rfl
                         exact norm_ NA (hJ2 (v265) _ ⟨hHeld, (PR HO266.1), (PB BK261.1), (PB BK262.1), (PB BK263.1), (BL HB.1)⟩)
                       · skip
                         refine box_step ?hg (N := 6) ?hd (cs := #[.int .i64 0, .int .i64 0, .int .i64 0]) (t := 54) ?hr ?_; (case hd => rfl); (case hg => rfl); (case hr => first | (go_simp; done) | (go_simp; rfl))
                         intro gb278 hg w9 hbox hb
                         refine E13 (bB BK261.1 hb) (bB BK262.1 hb) (bB BK263.1 hb) (bS HB.1 hb) (hbox) (gX HB.1 hg) (gX HB.1 hg) (nB BK261.1 hg) (nC BK261.1 hg) (nB BK262.1 hg) (nC BK262.1 hg) (nB BK263.1 hg) (nC BK263.1 hg) ?_
                         clear BK261 BK262 BK263 HB
                         intro BK261 BK262 BK263 HB BK278 GW278 GE278 NB261_278 NB278_261 NB262_278 NB278_262 NB263_278 NB278_263
                         clear hb hbox hg
                         refine hK.out _ _ ⟨(blk_cell BK261.1 0).trans rfl, (blk_cell BK261.1 1).trans rfl, (blk_cell BK261.1 2).trans rfl⟩ (fun hHeld => ?_)
                         clear hK K
                         refine norm_ (a' := ?_) ?_ ?_
                         rotate_left
                         · show Act.put _ (some 6) _ = _
                           simp only [Act.put, List.setIfInBounds_toArray, List.set_cons_zero, List.set_cons_succ, i64_w, i32_w]
                           rfl
                         exact norm_ NA (hJ9 (gb278) _ ⟨hHeld, (PB BK261.1), (PB BK262.1), (PB BK263.1), (PB BK278.1), GW278.1, GE278.1, NB261_278.1, NB278_261.1, NB262_278.1, NB278_262.1, NB263_278.1, NB278_263.1, (BL HB.1)⟩)
                       skip
                       refine box_step ?hg (N := 7) ?hd (cs := #[.int .i64 0, .int .i64 0, .slice none 0 0]) (t := 30) ?hr ?_; (case hd => rfl); (case hg => rfl); (case hr => first | (go_simp; done) | (go_simp; rfl))
                       intro gb279 hg w9 hbox hb
                       refine E13 (bB BK261.1 hb) (bB BK262.1 hb) (bB BK263.1 hb) (bS HB.1 hb) (hbox) (gX HB.1 hg) (gX HB.1 hg) (nB BK261.1 hg) (nC BK261.1 hg) (nB BK262.1 hg) (nC BK262.1 hg) (nB BK263.1 hg) (nC BK263.1 hg) ?_
                       clear BK261 BK262 BK263 HB
                       intro BK261 BK262 BK263 HB BK279 GW279 GE279 NB261_279 NB279_261 NB262_279 NB279_262 NB263_279 NB279_263
                       clear hb hbox hg
                       refine hK.out _ _ ⟨(blk_cell BK261.1 0).trans rfl, (blk_cell BK261.1 1).trans rfl, (blk_cell BK261.1 2).trans rfl⟩ (fun hHeld => ?_)
                       clear hK K
                       refine norm_ (a' := ?_) ?_ ?_
                       rotate_left
                       · show Act.put _ (some 7) _ = _
                         simp only [Act.put, List.setIfInBounds_toArray, List.set_cons_zero, List.set_cons_succ, i64_w, i32_w]
                         rfl
                       exact norm_ NA (hJ10 (gb279) _ ⟨hHeld, (PB BK261.1), (PB BK262.1), (PB BK263.1), (PB BK279.1), GW279.1, GE279.1, NB261_279.1, NB279_261.1, NB262_279.1, NB279_262.1, NB263_279.1, NB279_263.1, (BL HB.1)⟩)
                     skip
                     rintro gb279 w10 ⟨hS_, h0_, h1_, h2_, h3_, h4_, h5_, h6_, h7_, h8_, h9_, h10_, h11_, h12_⟩
                     refine E13 h0_ h1_ h2_ h3_ h4_ h5_ h6_ h7_ h8_ h9_ h10_ h11_ h12_ ?_
                     clear BK261 BK262 BK263 HB h0_ h1_ h2_ h3_ h4_ h5_ h6_ h7_ h8_ h9_ h10_ h11_ h12_
                     intro BK261 BK262 BK263 BK279 GW279 GE279 NB261_279 NB279_261 NB262_279 NB279_262 NB263_279 NB279_263 HB
                     have hHeld : w10.cell? ⟨gb261, 0, none⟩ = some (.int .i64 a0_0) /\ w10.cell? ⟨gb261, 1, none⟩ = some (.int .i64 a0_1) /\ w10.cell? ⟨gb261, 2, none⟩ = some (.slice A0_2 l0_2.length c0_2) := hS_
                     refine norm_ (a' := ?_) ?_ ?_
                     rotate_left
                     · simp only [putAll, Act.put, List.setIfInBounds_toArray, List.set_cons_zero, List.set_cons_succ]
                       rfl
                     refine two_ (i := 2) (j := 9) (Ni := some 12) (Nj := some 6) #[Yy,Yy,Yy,Yy,Zz,Zz,Zz,Zz,Zz,Zz,Yy,Zz,Zz,Zz] #[Yy,Yy,Zz,Yy,Zz,Zz,Zz,Zz,Zz,Yy,Yy,Zz,Zz,Zz] rfl rfl rfl rfl (two_of HT_.1 (by kernel_rfl)) (by decide) (by decide) (fun K hK => ?_) (fun K hK => ?_)
                     · skip
                       refine goes_ Try.func80 (by kernel_rfl) rfl #[.agg #[.int .i64 a0_0, .int .i64 a0_1, .slice A0_2 l0_2.length c0_2]] (by rfl) rfl rfl (by (try simp only [List.map_toArray, List.map_cons, List.map_nil]); first | done | rfl | (simp only [List.length_drop, List.length_take]; rfl)) ?_
                       with_reducible refine (spec_ggGroups.calls k a0_0 a0_1 _ _ l0_2 t264 _ ?side1 ?side2 A3.1).mono ?_
                       (case side1 => exact CB (C_below HR0_2.1 HB.1))
                       (case side2 => exact HC0_2.1)
                       rintro e w11 ⟨v265, rfl, ho0, hb⟩
                       refine ⟨_, rfl, ?_⟩
                       refine E6 (R_lower ho0 (bZ HB.1)) (bB BK261.1 hb) (bB BK262.1 hb) (bB BK263.1 hb) (bB BK279.1 hb) (bS HB.1 hb) ?_
                       clear BK261 BK262 BK263 BK279 HB
                       intro HO266 BK261 BK262 BK263 BK279 HB
                       (try clear hb)
                       (try clear hb2)
                       (try clear hk)
                       (try clear hi)
                       (try clear ho0)
                       refine hK.out _ _ ⟨(blk_cell BK261.1 0).trans rfl, (blk_cell BK261.1 1).trans rfl, (blk_cell BK261.1 2).trans rfl⟩ (fun hHeld => ?_)
                       clear hK K
                       refine norm_ (a' := ?_) ?_ ?_
                       rotate_left
                       · show Act.put _ (some 12) _ = _
                         simp only [Act.put, List.setIfInBounds_toArray, List.set_cons_zero, List.set_cons_succ, i64_w, i32_w]
                         rfl
                       exact norm_ NA (hJ2_10 (v265, gb279) _ ⟨hHeld, (PR HO266.1), (PB BK261.1), (PB BK262.1), (PB BK263.1), (PB BK279.1), GW279.1, GE279.1, NB261_279.1, NB279_261.1, NB262_279.1, NB279_262.1, NB263_279.1, NB279_263.1, (BL HB.1)⟩)
                     skip
                     refine box_step ?hg (N := 6) ?hd (cs := #[.int .i64 0, .int .i64 0, .int .i64 0]) (t := 54) ?hr ?_; (case hd => rfl); (case hg => rfl); (case hr => first | (go_simp; done) | (go_simp; rfl))
                     intro gb278 hg w11 hbox hb
                     refine E16 (bB BK261.1 hb) (bB BK262.1 hb) (bB BK263.1 hb) (bB BK279.1 hb) (bS HB.1 hb) (hbox) (gX HB.1 hg) (gX HB.1 hg) (nB BK261.1 hg) (nC BK261.1 hg) (nB BK262.1 hg) (nC BK262.1 hg) (nB BK263.1 hg) (nC BK263.1 hg) (nB BK279.1 hg) (nC BK279.1 hg) ?_
                     clear BK261 BK262 BK263 BK279 HB
                     intro BK261 BK262 BK263 BK279 HB BK278 GW278 GE278 NB261_278 NB278_261 NB262_278 NB278_262 NB263_278 NB278_263 NB279_278 NB278_279
                     clear hb hbox hg
                     refine hK.out _ _ ⟨(blk_cell BK261.1 0).trans rfl, (blk_cell BK261.1 1).trans rfl, (blk_cell BK261.1 2).trans rfl⟩ (fun hHeld => ?_)
                     clear hK K
                     refine norm_ (a' := ?_) ?_ ?_
                     rotate_left
                     · show Act.put _ (some 6) _ = _
                       simp only [Act.put, List.setIfInBounds_toArray, List.set_cons_zero, List.set_cons_succ, i64_w, i32_w]
                       rfl
                     exact norm_ NA (hJ9_10 (gb278, gb279) _ ⟨hHeld, (PB BK261.1), (PB BK262.1), (PB BK263.1), (PB BK278.1), (PB BK279.1), GW278.1, GE278.1, NB261_278.1, NB278_261.1, NB262_278.1, NB278_262.1, NB263_278.1, NB278_263.1, NB279_278.1, NB278_279.1, GW279.1, GE279.1, NB261_279.1, NB279_261.1, NB262_279.1, NB279_262.1, NB263_279.1, NB279_263.1, (BL HB.1)⟩)
                   skip
                   rintro gb278 w10 ⟨hS_, h0_, h1_, h2_, h3_, h4_, h5_, h6_, h7_, h8_, h9_, h10_, h11_, h12_⟩
                   refine E13 h0_ h1_ h2_ h3_ h4_ h5_ h6_ h7_ h8_ h9_ h10_ h11_ h12_ ?_
                   clear BK261 BK262 BK263 HB h0_ h1_ h2_ h3_ h4_ h5_ h6_ h7_ h8_ h9_ h10_ h11_ h12_
                   intro BK261 BK262 BK263 BK278 GW278 GE278 NB261_278 NB278_261 NB262_278 NB278_262 NB263_278 NB278_263 HB
                   have hHeld : w10.cell? ⟨gb261, 0, none⟩ = some (.int .i64 a0_0) /\ w10.cell? ⟨gb261, 1, none⟩ = some (.int .i64 a0_1) /\ w10.cell? ⟨gb261, 2, none⟩ = some (.slice A0_2 l0_2.length c0_2) := hS_
                   refine norm_ (a' := ?_) ?_ ?_
                   rotate_left
                   · simp only [putAll, Act.put, List.setIfInBounds_toArray, List.set_cons_zero, List.set_cons_succ]
                     rfl
                   refine two_ (i := 2) (j := 10) (Ni := some 12) (Nj := some 7) #[Yy,Yy,Yy,Yy,Zz,Zz,Zz,Zz,Zz,Yy,Zz,Zz,Zz,Zz] #[Yy,Yy,Zz,Yy,Zz,Zz,Zz,Zz,Zz,Yy,Yy,Zz,Zz,Zz] rfl rfl rfl rfl (two_of HT_.1 (by kernel_rfl)) (by decide) (by decide) (fun K hK => ?_) (fun K hK => ?_)
                   · skip
                     refine goes_ Try.func80 (by kernel_rfl) rfl #[.agg #[.int .i64 a0_0, .int .i64 a0_1, .slice A0_2 l0_2.length c0_2]] (by rfl) rfl rfl (by (try simp only [List.map_toArray, List.map_cons, List.map_nil]); first | done | rfl | (simp only [List.length_drop, List.length_take]; rfl)) ?_
                     with_reducible refine (spec_ggGroups.calls k a0_0 a0_1 _ _ l0_2 t264 _ ?side1 ?side2 A3.1).mono ?_
                     (case side1 => exact CB (C_below HR0_2.1 HB.1))
                     (case side2 => exact HC0_2.1)
                     rintro e w11 ⟨v265, rfl, ho0, hb⟩
                     refine ⟨_, rfl, ?_⟩
                     refine E6 (R_lower ho0 (bZ HB.1)) (bB BK261.1 hb) (bB BK262.1 hb) (bB BK263.1 hb) (bB BK278.1 hb) (bS HB.1 hb) ?_
                     clear BK261 BK262 BK263 BK278 HB
                     intro HO266 BK261 BK262 BK263 BK278 HB
                     (try clear hb)
                     (try clear hb2)
                     (try clear hk)
                     (try clear hi)
                     (try clear ho0)
                     refine hK.out _ _ ⟨(blk_cell BK261.1 0).trans rfl, (blk_cell BK261.1 1).trans rfl, (blk_cell BK261.1 2).trans rfl⟩ (fun hHeld => ?_)
                     clear hK K
                     refine norm_ (a' := ?_) ?_ ?_
                     rotate_left
                     · show Act.put _ (some 12) _ = _
                       simp only [Act.put, List.setIfInBounds_toArray, List.set_cons_zero, List.set_cons_succ, i64_w, i32_w]
                       rfl
                     exact norm_ NA (hJ2_9 (v265, gb278) _ ⟨hHeld, (PR HO266.1), (PB BK261.1), (PB BK262.1), (PB BK263.1), (PB BK278.1), GW278.1, GE278.1, NB261_278.1, NB278_261.1, NB262_278.1, NB278_262.1, NB263_278.1, NB278_263.1, (BL HB.1)⟩)
                   skip
                   refine box_step ?hg (N := 7) ?hd (cs := #[.int .i64 0, .int .i64 0, .slice none 0 0]) (t := 30) ?hr ?_; (case hd => rfl); (case hg => rfl); (case hr => first | (go_simp; done) | (go_simp; rfl))
                   intro gb279 hg w11 hbox hb
                   refine E16 (bB BK261.1 hb) (bB BK262.1 hb) (bB BK263.1 hb) (bB BK278.1 hb) (bS HB.1 hb) (hbox) (gX HB.1 hg) (gX HB.1 hg) (nB BK261.1 hg) (nC BK261.1 hg) (nB BK262.1 hg) (nC BK262.1 hg) (nB BK263.1 hg) (nC BK263.1 hg) (nB BK278.1 hg) (nC BK278.1 hg) ?_
                   clear BK261 BK262 BK263 BK278 HB
                   intro BK261 BK262 BK263 BK278 HB BK279 GW279 GE279 NB261_279 NB279_261 NB262_279 NB279_262 NB263_279 NB279_263 NB278_279 NB279_278
                   clear hb hbox hg
                   refine hK.out _ _ ⟨(blk_cell BK261.1 0).trans rfl, (blk_cell BK261.1 1).trans rfl, (blk_cell BK261.1 2).trans rfl⟩ (fun hHeld => ?_)
                   clear hK K
                   refine norm_ (a' := ?_) ?_ ?_
                   rotate_left
                   · show Act.put _ (some 7) _ = _
                     simp only [Act.put, List.setIfInBounds_toArray, List.set_cons_zero, List.set_cons_succ, i64_w, i32_w]
                     rfl
                   exact norm_ NA (hJ9_10 (gb278, gb279) _ ⟨hHeld, (PB BK261.1), (PB BK262.1), (PB BK263.1), (PB BK278.1), (PB BK279.1), GW278.1, GE278.1, NB261_278.1, NB278_261.1, NB262_278.1, NB278_262.1, NB263_278.1, NB278_263.1, NB279_278.1, NB278_279.1, GW279.1, GE279.1, NB261_279.1, NB279_261.1, NB262_279.1, NB279_262.1, NB263_279.1, NB279_263.1, (BL HB.1)⟩)
                 skip
                 rintro v265 w10 ⟨hS_, h0_, h1_, h2_, h3_, h4_⟩
                 refine E5 h0_ h1_ h2_ h3_ h4_ ?_
                 clear BK261 BK262 BK263 HB h0_ h1_ h2_ h3_ h4_
                 intro HO266 BK261 BK262 BK263 HB
                 have hHeld : w10.cell? ⟨gb261, 0, none⟩ = some (.int .i64 a0_0) /\ w10.cell? ⟨gb261, 1, none⟩ = some (.int .i64 a0_1) /\ w10.cell? ⟨gb261, 2, none⟩ = some (.slice A0_2 l0_2.length c0_2) := hS_
                 obtain ⟨Ao11, co11, eo11⟩ := R_slice HO266.1
                 (first | subst eo11 | (injection eo11 with f1_ f2_ f3_; have f4_ := f1_.symm; have f5_ := f3_.symm; clear f1_ f2_ f3_; subst f4_; subst f5_))
                 refine norm_ (a' := ?_) ?_ ?_
                 rotate_left
                 · simp only [putAll, Act.put, List.setIfInBounds_toArray, List.set_cons_zero, List.set_cons_succ]
                   rfl
                 refine three_ (i := 4) (j := 9) (k := 10) (Ni := some 14) (Nj := some 6) (Nk := some 7) #[Yy,Yy,Yy,Yy,Yy,Zz,Zz,Zz,Zz,Zz,Zz,Zz,Zz,Zz] #[Yy,Yy,Yy,Yy,Zz,Zz,Zz,Zz,Zz,Yy,Zz,Zz,Zz,Zz] #[Yy,Yy,Yy,Yy,Zz,Zz,Zz,Zz,Zz,Zz,Yy,Zz,Zz,Zz] rfl rfl rfl rfl rfl rfl (three_of HT_.1 (by kernel_rfl)) (by decide) (by decide) (by decide) (fun K hK => ?_) (fun K hK => ?_) (fun K hK => ?_)
                 · skip
                   refine goes_ Try.func84 (by kernel_rfl) rfl #[.agg #[.int .i64 a0_0, .int .i64 a0_1, .slice A0_2 l0_2.length c0_2], .slice Ao11 t264.length co11, .int .i64 a1] (by rfl) rfl rfl (by (try simp only [List.map_toArray, List.map_cons, List.map_nil]); first | done | rfl | (simp only [List.length_drop, List.length_take]; rfl)) ?_
                   with_reducible refine (spec_flGo.calls k a0_0 a0_1 _ _ l0_2 _ _ t264 a1 t267 t268 t269 t270 t271 t272 t275 _ ?side1 ?side2 ?side3 ?side4 A4.1).mono ?_
                   (case side1 => exact CB (C_below HR0_2.1 HB.1))
                   (case side2 => exact HC0_2.1)
                   (case side3 => exact CB (R_reads' HO266.1).2.2)
                   (case side4 => exact (R_reads' HO266.1).2.1)
                   rintro e w12 ⟨v273, v276, rfl, ho0, ho1, hb⟩
                   refine ⟨_, rfl, ?_⟩
                   refine E7 (rB HO266.1 hb) (R_lower ho0 (bZ HB.1)) (S_lower (S_new' ho1 (R_lt (PR HO266.1))) (bZ HB.1)) (bB BK261.1 hb) (bB BK262.1 hb) (bB BK263.1 hb) (bS HB.1 hb) ?_
                   clear HO266 BK261 BK262 BK263 HB
                   intro HO266 HO274 HO277 BK261 BK262 BK263 HB
                   (try clear hb)
                   (try clear hb2)
                   (try clear hk)
                   (try clear hi)
                   (try clear ho0)
                   (try clear ho1)
                   refine hK.out _ _ ⟨(blk_cell BK261.1 0).trans rfl, (blk_cell BK261.1 1).trans rfl, (blk_cell BK261.1 2).trans rfl⟩ (fun hHeld => ?_)
                   clear hK K
                   refine norm_ (a' := ?_) ?_ ?_
                   rotate_left
                   · show Act.put _ (some 14) _ = _
                     simp only [Act.put, List.setIfInBounds_toArray, List.set_cons_zero, List.set_cons_succ, i64_w, i32_w]
                     rfl
                   refine pureF 5 (N := some 9) HT_.1 ?_
                   refine pureF 6 (N := some 15) HT_.1 ?_
                   refine pureF 7 (N := some 16) HT_.1 ?_
                   refine pureF 8 (N := some 17) HT_.1 ?_
                   exact norm_ NA (hJ2_4 (.slice Ao11 t264.length co11, v273, v276) _ ⟨hHeld, (PR HO266.1), (PR HO274.1), (SPE (S_mono HO277.1 (fun _ hk => hk.2))), (PB BK261.1), (PB BK262.1), (PB BK263.1), (BL HB.1)⟩)
                 · skip
                   refine box_step ?hg (N := 6) ?hd (cs := #[.int .i64 0, .int .i64 0, .int .i64 0]) (t := 54) ?hr ?_; (case hd => rfl); (case hg => rfl); (case hr => first | (go_simp; done) | (go_simp; rfl))
                   intro gb278 hg w11 hbox hb
                   refine E14 (rB HO266.1 hb) (bB BK261.1 hb) (bB BK262.1 hb) (bB BK263.1 hb) (bS HB.1 hb) (hbox) (gX HB.1 hg) (gX HB.1 hg) (nB BK261.1 hg) (nC BK261.1 hg) (nB BK262.1 hg) (nC BK262.1 hg) (nB BK263.1 hg) (nC BK263.1 hg) ?_
                   clear HO266 BK261 BK262 BK263 HB
                   intro HO266 BK261 BK262 BK263 HB BK278 GW278 GE278 NB261_278 NB278_261 NB262_278 NB278_262 NB263_278 NB278_263
                   clear hb hbox hg
                   refine hK.out _ _ ⟨(blk_cell BK261.1 0).trans rfl, (blk_cell BK261.1 1).trans rfl, (blk_cell BK261.1 2).trans rfl⟩ (fun hHeld => ?_)
                   clear hK K
                   refine norm_ (a' := ?_) ?_ ?_
                   rotate_left
                   · show Act.put _ (some 6) _ = _
                     simp only [Act.put, List.setIfInBounds_toArray, List.set_cons_zero, List.set_cons_succ, i64_w, i32_w]
                     rfl
                   exact norm_ NA (hJ2_9 ((.slice Ao11 t264.length co11), gb278) _ ⟨hHeld, (PR HO266.1), (PB BK261.1), (PB BK262.1), (PB BK263.1), (PB BK278.1), GW278.1, GE278.1, NB261_278.1, NB278_261.1, NB262_278.1, NB278_262.1, NB263_278.1, NB278_263.1, (BL HB.1)⟩)
                 skip
                 refine box_step ?hg (N := 7) ?hd (cs := #[.int .i64 0, .int .i64 0, .slice none 0 0]) (t := 30) ?hr ?_; (case hd => rfl); (case hg => rfl); (case hr => first | (go_simp; done) | (go_simp; rfl))
                 intro gb279 hg w11 hbox hb
                 refine E14 (rB HO266.1 hb) (bB BK261.1 hb) (bB BK262.1 hb) (bB BK263.1 hb) (bS HB.1 hb) (hbox) (gX HB.1 hg) (gX HB.1 hg) (nB BK261.1 hg) (nC BK261.1 hg) (nB BK262.1 hg) (nC BK262.1 hg) (nB BK263.1 hg) (nC BK263.1 hg) ?_
                 clear HO266 BK261 BK262 BK263 HB
                 intro HO266 BK261 BK262 BK263 HB BK279 GW279 GE279 NB261_279 NB279_261 NB262_279 NB279_262 NB263_279 NB279_263
                 clear hb hbox hg
                 refine hK.out _ _ ⟨(blk_cell BK261.1 0).trans rfl, (blk_cell BK261.1 1).trans rfl, (blk_cell BK261.1 2).trans rfl⟩ (fun hHeld => ?_)
                 clear hK K
                 refine norm_ (a' := ?_) ?_ ?_
                 rotate_left
                 · show Act.put _ (some 7) _ = _
                   simp only [Act.put, List.setIfInBounds_toArray, List.set_cons_zero, List.set_cons_succ, i64_w, i32_w]
                   rfl
                 exact norm_ NA (hJ2_10 ((.slice Ao11 t264.length co11), gb279) _ ⟨hHeld, (PR HO266.1), (PB BK261.1), (PB BK262.1), (PB BK263.1), (PB BK279.1), GW279.1, GE279.1, NB261_279.1, NB279_261.1, NB262_279.1, NB279_262.1, NB263_279.1, NB279_263.1, (BL HB.1)⟩)
               skip
               rintro ⟨gb278, gb279⟩ w11 ⟨hS_, h0_, h1_, h2_, h3_, h4_, h5_, h6_, h7_, h8_, h9_, h10_, h11_, h12_, h13_, h14_, h15_, h16_, h17_, h18_, h19_, h20_, h21_, h22_, h23_⟩
               refine E24 (show w11.heap[gb261]? = some (.cells #[.int .i64 a0_0, .int .i64 a0_1, .slice A0_2 l0_2.length c0_2] 30 (0, 0)) from h0_) (show w11.heap[gb262]? = some (.cells #[.int .i64 0, .int .i64 0, .int .i64 0] 54 (0, 0)) from h1_) (show w11.heap[gb263]? = some (.cells #[.int .i64 0, .int .i64 0, .slice none 0 0] 30 (0, 0)) from h2_) (show w11.heap[gb278]? = some (.cells #[.int .i64 0, .int .i64 0, .int .i64 0] 54 (0, 0)) from h3_) (show w11.heap[gb279]? = some (.cells #[.int .i64 0, .int .i64 0, .slice none 0 0] 30 (0, 0)) from h4_) (show w.heap.size <= gb278 from h5_) (show w.heap.size <= gb278 from h6_) (show gb261 ≠ gb278 from h7_) (show gb278 ≠ gb261 from h8_) (show gb262 ≠ gb278 from h9_) (show gb278 ≠ gb262 from h10_) (show gb263 ≠ gb278 from h11_) (show gb278 ≠ gb263 from h12_) (show gb279 ≠ gb278 from h13_) (show gb278 ≠ gb279 from h14_) (show w.heap.size <= gb279 from h15_) (show w.heap.size <= gb279 from h16_) (show gb261 ≠ gb279 from h17_) (show gb279 ≠ gb261 from h18_) (show gb262 ≠ gb279 from h19_) (show gb279 ≠ gb262 from h20_) (show gb263 ≠ gb279 from h21_) (show gb279 ≠ gb263 from h22_) (show Below w.heap.size w w11 from h23_) ?_
               clear BK261 BK262 BK263 HB h0_ h1_ h2_ h3_ h4_ h5_ h6_ h7_ h8_ h9_ h10_ h11_ h12_ h13_ h14_ h15_ h16_ h17_ h18_ h19_ h20_ h21_ h22_ h23_
               intro BK261 BK262 BK263 BK278 BK279 GW278 GE278 NB261_278 NB278_261 NB262_278 NB278_262 NB263_278 NB278_263 NB279_278 NB278_279 GW279 GE279 NB261_279 NB279_261 NB262_279 NB279_262 NB263_279 NB279_263 HB
               have hHeld : w11.cell? ⟨gb261, 0, none⟩ = some (.int .i64 a0_0) /\ w11.cell? ⟨gb261, 1, none⟩ = some (.int .i64 a0_1) /\ w11.cell? ⟨gb261, 2, none⟩ = some (.slice A0_2 l0_2.length c0_2) := hS_
               refine norm_ (a' := ?_) ?_ ?_
               rotate_left
               · simp only [putAll, Act.put, List.setIfInBounds_toArray, List.set_cons_zero, List.set_cons_succ]
                 rfl
               refine one_ (i := 2) (N := some 12) #[Yy,Yy,Yy,Yy,Zz,Zz,Zz,Zz,Zz,Yy,Yy,Zz,Zz,Zz] rfl rfl (one_of HT_.1 (by kernel_rfl)) (by decide) (fun K hK => ?_)
               refine goes_ Try.func80 (by kernel_rfl) rfl #[.agg #[.int .i64 a0_0, .int .i64 a0_1, .slice A0_2 l0_2.length c0_2]] (by rfl) rfl rfl (by (try simp only [List.map_toArray, List.map_cons, List.map_nil]); first | done | rfl | (simp only [List.length_drop, List.length_take]; rfl)) ?_
               with_reducible refine (spec_ggGroups.calls k a0_0 a0_1 _ _ l0_2 t264 _ ?side1 ?side2 A3.1).mono ?_
               (case side1 => exact CB (C_below HR0_2.1 HB.1))
               (case side2 => exact HC0_2.1)
               rintro e w12 ⟨v265, rfl, ho0, hb⟩
               refine ⟨_, rfl, ?_⟩
               refine E7 (R_lower ho0 (bZ HB.1)) (bB BK261.1 hb) (bB BK262.1 hb) (bB BK263.1 hb) (bB BK278.1 hb) (bB BK279.1 hb) (bS HB.1 hb) ?_
               clear BK261 BK262 BK263 BK278 BK279 HB
               intro HO266 BK261 BK262 BK263 BK278 BK279 HB
               (try clear hb)
               (try clear hb2)
               (try clear hk)
               (try clear hi)
               (try clear ho0)
               refine hK.out _ _ ⟨(blk_cell BK261.1 0).trans rfl, (blk_cell BK261.1 1).trans rfl, (blk_cell BK261.1 2).trans rfl⟩ (fun hHeld => ?_)
               clear hK K
               refine norm_ (a' := ?_) ?_ ?_
               rotate_left
               · show Act.put _ (some 12) _ = _
                 simp only [Act.put, List.setIfInBounds_toArray, List.set_cons_zero, List.set_cons_succ, i64_w, i32_w]
                 rfl
               exact norm_ NA (hJ2_9_10 (v265, gb278, gb279) _ ⟨hHeld, (PR HO266.1), (PB BK261.1), (PB BK262.1), (PB BK263.1), (PB BK278.1), (PB BK279.1), GW278.1, GE278.1, NB261_278.1, NB278_261.1, NB262_278.1, NB278_262.1, NB263_278.1, NB278_263.1, NB279_278.1, NB278_279.1, GW279.1, GE279.1, NB261_279.1, NB279_261.1, NB262_279.1, NB279_262.1, NB263_279.1, NB279_263.1, (BL HB.1)⟩)
             skip
             rintro ⟨v265, gb279⟩ w11 ⟨hS_, h0_, h1_, h2_, h3_, h4_, h5_, h6_, h7_, h8_, h9_, h10_, h11_, h12_, h13_⟩
             refine E14 (show Kd.R (Kd.int .i64) 3 w11 w.heap.size (fun _ => True) v265 t264 from h0_) (show w11.heap[gb261]? = some (.cells #[.int .i64 a0_0, .int .i64 a0_1, .slice A0_2 l0_2.length c0_2] 30 (0, 0)) from h1_) (show w11.heap[gb262]? = some (.cells #[.int .i64 0, .int .i64 0, .int .i64 0] 54 (0, 0)) from h2_) (show w11.heap[gb263]? = some (.cells #[.int .i64 0, .int .i64 0, .slice none 0 0] 30 (0, 0)) from h3_) (show w11.heap[gb279]? = some (.cells #[.int .i64 0, .int .i64 0, .slice none 0 0] 30 (0, 0)) from h4_) (show w.heap.size <= gb279 from h5_) (show w.heap.size <= gb279 from h6_) (show gb261 ≠ gb279 from h7_) (show gb279 ≠ gb261 from h8_) (show gb262 ≠ gb279 from h9_) (show gb279 ≠ gb262 from h10_) (show gb263 ≠ gb279 from h11_) (show gb279 ≠ gb263 from h12_) (show Below w.heap.size w w11 from h13_) ?_
             clear BK261 BK262 BK263 HB h0_ h1_ h2_ h3_ h4_ h5_ h6_ h7_ h8_ h9_ h10_ h11_ h12_ h13_
             intro HO266 BK261 BK262 BK263 BK279 GW279 GE279 NB261_279 NB279_261 NB262_279 NB279_262 NB263_279 NB279_263 HB
             have hHeld : w11.cell? ⟨gb261, 0, none⟩ = some (.int .i64 a0_0) /\ w11.cell? ⟨gb261, 1, none⟩ = some (.int .i64 a0_1) /\ w11.cell? ⟨gb261, 2, none⟩ = some (.slice A0_2 l0_2.length c0_2) := hS_
             obtain ⟨Ao12, co12, eo12⟩ := R_slice HO266.1
             (first | subst eo12 | (injection eo12 with f1_ f2_ f3_; have f4_ := f1_.symm; have f5_ := f3_.symm; clear f1_ f2_ f3_; subst f4_; subst f5_))
             refine norm_ (a' := ?_) ?_ ?_
             rotate_left
             · simp only [putAll, Act.put, List.setIfInBounds_toArray, List.set_cons_zero, List.set_cons_succ]
               rfl
             refine two_ (i := 4) (j := 9) (Ni := some 14) (Nj := some 6) #[Yy,Yy,Yy,Yy,Yy,Zz,Zz,Zz,Zz,Zz,Yy,Zz,Zz,Zz] #[Yy,Yy,Yy,Yy,Zz,Zz,Zz,Zz,Zz,Yy,Yy,Zz,Zz,Zz] rfl rfl rfl rfl (two_of HT_.1 (by kernel_rfl)) (by decide) (by decide) (fun K hK => ?_) (fun K hK => ?_)
             · skip
               refine goes_ Try.func84 (by kernel_rfl) rfl #[.agg #[.int .i64 a0_0, .int .i64 a0_1, .slice A0_2 l0_2.length c0_2], .slice Ao12 t264.length co12, .int .i64 a1] (by rfl) rfl rfl (by (try simp only [List.map_toArray, List.map_cons, List.map_nil]); first | done | rfl | (simp only [List.length_drop, List.length_take]; rfl)) ?_
               with_reducible refine (spec_flGo.calls k a0_0 a0_1 _ _ l0_2 _ _ t264 a1 t267 t268 t269 t270 t271 t272 t275 _ ?side1 ?side2 ?side3 ?side4 A4.1).mono ?_
               (case side1 => exact CB (C_below HR0_2.1 HB.1))
               (case side2 => exact HC0_2.1)
               (case side3 => exact CB (R_reads' HO266.1).2.2)
               (case side4 => exact (R_reads' HO266.1).2.1)
               rintro e w13 ⟨v273, v276, rfl, ho0, ho1, hb⟩
               refine ⟨_, rfl, ?_⟩
               refine E8 (rB HO266.1 hb) (R_lower ho0 (bZ HB.1)) (S_lower (S_new' ho1 (R_lt (PR HO266.1))) (bZ HB.1)) (bB BK261.1 hb) (bB BK262.1 hb) (bB BK263.1 hb) (bB BK279.1 hb) (bS HB.1 hb) ?_
               clear HO266 BK261 BK262 BK263 BK279 HB
               intro HO266 HO274 HO277 BK261 BK262 BK263 BK279 HB
               (try clear hb)
               (try clear hb2)
               (try clear hk)
               (try clear hi)
               (try clear ho0)
               (try clear ho1)
               refine hK.out _ _ ⟨(blk_cell BK261.1 0).trans rfl, (blk_cell BK261.1 1).trans rfl, (blk_cell BK261.1 2).trans rfl⟩ (fun hHeld => ?_)
               clear hK K
               refine norm_ (a' := ?_) ?_ ?_
               rotate_left
               · show Act.put _ (some 14) _ = _
                 simp only [Act.put, List.setIfInBounds_toArray, List.set_cons_zero, List.set_cons_succ, i64_w, i32_w]
                 rfl
               refine pureF 5 (N := some 9) HT_.1 ?_
               refine pureF 6 (N := some 15) HT_.1 ?_
               refine pureF 7 (N := some 16) HT_.1 ?_
               refine pureF 8 (N := some 17) HT_.1 ?_
               exact norm_ NA (hJ2_4_10 (.slice Ao12 t264.length co12, v273, v276, gb279) _ ⟨hHeld, (PR HO266.1), (PR HO274.1), (SPE (S_mono HO277.1 (fun _ hk => hk.2))), (PB BK261.1), (PB BK262.1), (PB BK263.1), (PB BK279.1), GW279.1, GE279.1, NB261_279.1, NB279_261.1, NB262_279.1, NB279_262.1, NB263_279.1, NB279_263.1, (BL HB.1)⟩)
             skip
             refine box_step ?hg (N := 6) ?hd (cs := #[.int .i64 0, .int .i64 0, .int .i64 0]) (t := 54) ?hr ?_; (case hd => rfl); (case hg => rfl); (case hr => first | (go_simp; done) | (go_simp; rfl))
             intro gb278 hg w12 hbox hb
             refine E17 (rB HO266.1 hb) (bB BK261.1 hb) (bB BK262.1 hb) (bB BK263.1 hb) (bB BK279.1 hb) (bS HB.1 hb) (hbox) (gX HB.1 hg) (gX HB.1 hg) (nB BK261.1 hg) (nC BK261.1 hg) (nB BK262.1 hg) (nC BK262.1 hg) (nB BK263.1 hg) (nC BK263.1 hg) (nB BK279.1 hg) (nC BK279.1 hg) ?_
             clear HO266 BK261 BK262 BK263 BK279 HB
             intro HO266 BK261 BK262 BK263 BK279 HB BK278 GW278 GE278 NB261_278 NB278_261 NB262_278 NB278_262 NB263_278 NB278_263 NB279_278 NB278_279
             clear hb hbox hg
             refine hK.out _ _ ⟨(blk_cell BK261.1 0).trans rfl, (blk_cell BK261.1 1).trans rfl, (blk_cell BK261.1 2).trans rfl⟩ (fun hHeld => ?_)
             clear hK K
             refine norm_ (a' := ?_) ?_ ?_
             rotate_left
             · show Act.put _ (some 6) _ = _
               simp only [Act.put, List.setIfInBounds_toArray, List.set_cons_zero, List.set_cons_succ, i64_w, i32_w]
               rfl
             exact norm_ NA (hJ2_9_10 ((.slice Ao12 t264.length co12), gb278, gb279) _ ⟨hHeld, (PR HO266.1), (PB BK261.1), (PB BK262.1), (PB BK263.1), (PB BK278.1), (PB BK279.1), GW278.1, GE278.1, NB261_278.1, NB278_261.1, NB262_278.1, NB278_262.1, NB263_278.1, NB278_263.1, NB279_278.1, NB278_279.1, GW279.1, GE279.1, NB261_279.1, NB279_261.1, NB262_279.1, NB279_262.1, NB263_279.1, NB279_263.1, (BL HB.1)⟩)
           skip
           rintro ⟨v265, gb278⟩ w11 ⟨hS_, h0_, h1_, h2_, h3_, h4_, h5_, h6_, h7_, h8_, h9_, h10_, h11_, h12_, h13_⟩
           refine E14 (show Kd.R (Kd.int .i64) 3 w11 w.heap.size (fun _ => True) v265 t264 from h0_) (show w11.heap[gb261]? = some (.cells #[.int .i64 a0_0, .int .i64 a0_1, .slice A0_2 l0_2.length c0_2] 30 (0, 0)) from h1_) (show w11.heap[gb262]? = some (.cells #[.int .i64 0, .int .i64 0, .int .i64 0] 54 (0, 0)) from h2_) (show w11.heap[gb263]? = some (.cells #[.int .i64 0, .int .i64 0, .slice none 0 0] 30 (0, 0)) from h3_) (show w11.heap[gb278]? = some (.cells #[.int .i64 0, .int .i64 0, .int .i64 0] 54 (0, 0)) from h4_) (show w.heap.size <= gb278 from h5_) (show w.heap.size <= gb278 from h6_) (show gb261 ≠ gb278 from h7_) (show gb278 ≠ gb261 from h8_) (show gb262 ≠ gb278 from h9_) (show gb278 ≠ gb262 from h10_) (show gb263 ≠ gb278 from h11_) (show gb278 ≠ gb263 from h12_) (show Below w.heap.size w w11 from h13_) ?_
           clear BK261 BK262 BK263 HB h0_ h1_ h2_ h3_ h4_ h5_ h6_ h7_ h8_ h9_ h10_ h11_ h12_ h13_
           intro HO266 BK261 BK262 BK263 BK278 GW278 GE278 NB261_278 NB278_261 NB262_278 NB278_262 NB263_278 NB278_263 HB
           have hHeld : w11.cell? ⟨gb261, 0, none⟩ = some (.int .i64 a0_0) /\ w11.cell? ⟨gb261, 1, none⟩ = some (.int .i64 a0_1) /\ w11.cell? ⟨gb261, 2, none⟩ = some (.slice A0_2 l0_2.length c0_2) := hS_
           obtain ⟨Ao12, co12, eo12⟩ := R_slice HO266.1
           (first | subst eo12 | (injection eo12 with f1_ f2_ f3_; have f4_ := f1_.symm; have f5_ := f3_.symm; clear f1_ f2_ f3_; subst f4_; subst f5_))
           refine norm_ (a' := ?_) ?_ ?_
           rotate_left
           · simp only [putAll, Act.put, List.setIfInBounds_toArray, List.set_cons_zero, List.set_cons_succ]
             rfl
           refine two_ (i := 4) (j := 10) (Ni := some 14) (Nj := some 7) #[Yy,Yy,Yy,Yy,Yy,Zz,Zz,Zz,Zz,Yy,Zz,Zz,Zz,Zz] #[Yy,Yy,Yy,Yy,Zz,Zz,Zz,Zz,Zz,Yy,Yy,Zz,Zz,Zz] rfl rfl rfl rfl (two_of HT_.1 (by kernel_rfl)) (by decide) (by decide) (fun K hK => ?_) (fun K hK => ?_)
           · skip
             refine goes_ Try.func84 (by kernel_rfl) rfl #[.agg #[.int .i64 a0_0, .int .i64 a0_1, .slice A0_2 l0_2.length c0_2], .slice Ao12 t264.length co12, .int .i64 a1] (by rfl) rfl rfl (by (try simp only [List.map_toArray, List.map_cons, List.map_nil]); first | done | rfl | (simp only [List.length_drop, List.length_take]; rfl)) ?_
             with_reducible refine (spec_flGo.calls k a0_0 a0_1 _ _ l0_2 _ _ t264 a1 t267 t268 t269 t270 t271 t272 t275 _ ?side1 ?side2 ?side3 ?side4 A4.1).mono ?_
             (case side1 => exact CB (C_below HR0_2.1 HB.1))
             (case side2 => exact HC0_2.1)
             (case side3 => exact CB (R_reads' HO266.1).2.2)
             (case side4 => exact (R_reads' HO266.1).2.1)
             rintro e w13 ⟨v273, v276, rfl, ho0, ho1, hb⟩
             refine ⟨_, rfl, ?_⟩
             refine E8 (rB HO266.1 hb) (R_lower ho0 (bZ HB.1)) (S_lower (S_new' ho1 (R_lt (PR HO266.1))) (bZ HB.1)) (bB BK261.1 hb) (bB BK262.1 hb) (bB BK263.1 hb) (bB BK278.1 hb) (bS HB.1 hb) ?_
             clear HO266 BK261 BK262 BK263 BK278 HB
             intro HO266 HO274 HO277 BK261 BK262 BK263 BK278 HB
             (try clear hb)
             (try clear hb2)
             (try clear hk)
             (try clear hi)
             (try clear ho0)
             (try clear ho1)
             refine hK.out _ _ ⟨(blk_cell BK261.1 0).trans rfl, (blk_cell BK261.1 1).trans rfl, (blk_cell BK261.1 2).trans rfl⟩ (fun hHeld => ?_)
             clear hK K
             refine norm_ (a' := ?_) ?_ ?_
             rotate_left
             · show Act.put _ (some 14) _ = _
               simp only [Act.put, List.setIfInBounds_toArray, List.set_cons_zero, List.set_cons_succ, i64_w, i32_w]
               rfl
             refine pureF 5 (N := some 9) HT_.1 ?_
             refine pureF 6 (N := some 15) HT_.1 ?_
             refine pureF 7 (N := some 16) HT_.1 ?_
             refine pureF 8 (N := some 17) HT_.1 ?_
             exact norm_ NA (hJ2_4_9 (.slice Ao12 t264.length co12, v273, v276, gb278) _ ⟨hHeld, (PR HO266.1), (PR HO274.1), (SPE (S_mono HO277.1 (fun _ hk => hk.2))), (PB BK261.1), (PB BK262.1), (PB BK263.1), (PB BK278.1), GW278.1, GE278.1, NB261_278.1, NB278_261.1, NB262_278.1, NB278_262.1, NB263_278.1, NB278_263.1, (BL HB.1)⟩)
           skip
           refine box_step ?hg (N := 7) ?hd (cs := #[.int .i64 0, .int .i64 0, .slice none 0 0]) (t := 30) ?hr ?_; (case hd => rfl); (case hg => rfl); (case hr => first | (go_simp; done) | (go_simp; rfl))
           intro gb279 hg w12 hbox hb
           refine E17 (rB HO266.1 hb) (bB BK261.1 hb) (bB BK262.1 hb) (bB BK263.1 hb) (bB BK278.1 hb) (bS HB.1 hb) (hbox) (gX HB.1 hg) (gX HB.1 hg) (nB BK261.1 hg) (nC BK261.1 hg) (nB BK262.1 hg) (nC BK262.1 hg) (nB BK263.1 hg) (nC BK263.1 hg) (nB BK278.1 hg) (nC BK278.1 hg) ?_
           clear HO266 BK261 BK262 BK263 BK278 HB
           intro HO266 BK261 BK262 BK263 BK278 HB BK279 GW279 GE279 NB261_279 NB279_261 NB262_279 NB279_262 NB263_279 NB279_263 NB278_279 NB279_278
           clear hb hbox hg
           refine hK.out _ _ ⟨(blk_cell BK261.1 0).trans rfl, (blk_cell BK261.1 1).trans rfl, (blk_cell BK261.1 2).trans rfl⟩ (fun hHeld => ?_)
           clear hK K
           refine norm_ (a' := ?_) ?_ ?_
           rotate_left
           · show Act.put _ (some 7) _ = _
             simp only [Act.put, List.setIfInBounds_toArray, List.set_cons_zero, List.set_cons_succ, i64_w, i32_w]
             rfl
           exact norm_ NA (hJ2_9_10 ((.slice Ao12 t264.length co12), gb278, gb279) _ ⟨hHeld, (PR HO266.1), (PB BK261.1), (PB BK262.1), (PB BK263.1), (PB BK278.1), (PB BK279.1), GW278.1, GE278.1, NB261_278.1, NB278_261.1, NB262_278.1, NB278_262.1, NB263_278.1, NB278_263.1, NB279_278.1, NB278_279.1, GW279.1, GE279.1, NB261_279.1, NB279_261.1, NB262_279.1, NB279_262.1, NB263_279.1, NB279_263.1, (BL HB.1)⟩)
         skip
         rintro ⟨v265, v273, v276⟩ w12 ⟨hS_, h0_, h1_, h2_, h3_, h4_, h5_, h6_⟩
         refine E7 (show Kd.R (Kd.int .i64) 3 w12 w.heap.size (fun _ => True) v265 t264 from h0_) (show Kd.R k83 83 w12 w.heap.size (fun _ => True) v273 t272 from h1_) (show Kd.S (Kd.slice 3 (Kd.int .i64)) 38 w12 w.heap.size (fun k_ => some k_ ≠ (v265 : Value).ownBlock) v276 t275 from h2_) (show w12.heap[gb261]? = some (.cells #[.int .i64 a0_0, .int .i64 a0_1, .slice A0_2 l0_2.length c0_2] 30 (0, 0)) from h3_) (show w12.heap[gb262]? = some (.cells #[.int .i64 0, .int .i64 0, .int .i64 0] 54 (0, 0)) from h4_) (show w12.heap[gb263]? = some (.cells #[.int .i64 0, .int .i64 0, .slice none 0 0] 30 (0, 0)) from h5_) (show Below w.heap.size w w12 from h6_) ?_
         clear BK261 BK262 BK263 HB h0_ h1_ h2_ h3_ h4_ h5_ h6_
         intro HO266 HO274 HO277 BK261 BK262 BK263 HB
         have hHeld : w12.cell? ⟨gb261, 0, none⟩ = some (.int .i64 a0_0) /\ w12.cell? ⟨gb261, 1, none⟩ = some (.int .i64 a0_1) /\ w12.cell? ⟨gb261, 2, none⟩ = some (.slice A0_2 l0_2.length c0_2) := hS_
         refine norm_ (a' := ?_) ?_ ?_
         rotate_left
         · simp only [putAll, Act.put, List.setIfInBounds_toArray, List.set_cons_zero, List.set_cons_succ]
           rfl
         refine two_ (i := 9) (j := 10) (Ni := some 6) (Nj := some 7) #[Yy,Yy,Yy,Yy,Yy,Yy,Yy,Yy,Yy,Yy,Zz,Zz,Zz,Zz] #[Yy,Yy,Yy,Yy,Yy,Yy,Yy,Yy,Yy,Zz,Yy,Zz,Zz,Zz] rfl rfl rfl rfl (two_of HT_.1 (by kernel_rfl)) (by decide) (by decide) (fun K hK => ?_) (fun K hK => ?_)
         · skip
           refine box_step ?hg (N := 6) ?hd (cs := #[.int .i64 0, .int .i64 0, .int .i64 0]) (t := 54) ?hr ?_; (case hd => rfl); (case hg => rfl); (case hr => first | (go_simp; done) | (go_simp; rfl))
           intro gb278 hg w13 hbox hb
           refine E16 (rB HO266.1 hb) (rB HO274.1 hb) (sB HO277.1 hb) (bB BK261.1 hb) (bB BK262.1 hb) (bB BK263.1 hb) (bS HB.1 hb) (hbox) (gX HB.1 hg) (gX HB.1 hg) (nB BK261.1 hg) (nC BK261.1 hg) (nB BK262.1 hg) (nC BK262.1 hg) (nB BK263.1 hg) (nC BK263.1 hg) ?_
           clear HO266 HO274 HO277 BK261 BK262 BK263 HB
           intro HO266 HO274 HO277 BK261 BK262 BK263 HB BK278 GW278 GE278 NB261_278 NB278_261 NB262_278 NB278_262 NB263_278 NB278_263
           clear hb hbox hg
           refine hK.out _ _ ⟨(blk_cell BK261.1 0).trans rfl, (blk_cell BK261.1 1).trans rfl, (blk_cell BK261.1 2).trans rfl⟩ (fun hHeld => ?_)
           clear hK K
           refine norm_ (a' := ?_) ?_ ?_
           rotate_left
           · show Act.put _ (some 6) _ = _
             simp only [Act.put, List.setIfInBounds_toArray, List.set_cons_zero, List.set_cons_succ, i64_w, i32_w]
             rfl
           exact norm_ NA (hJ2_4_9 (v265, v273, v276, gb278) _ ⟨hHeld, (PR HO266.1), (PR HO274.1), (PS HO277.1), (PB BK261.1), (PB BK262.1), (PB BK263.1), (PB BK278.1), GW278.1, GE278.1, NB261_278.1, NB278_261.1, NB262_278.1, NB278_262.1, NB263_278.1, NB278_263.1, (BL HB.1)⟩)
         skip
         refine box_step ?hg (N := 7) ?hd (cs := #[.int .i64 0, .int .i64 0, .slice none 0 0]) (t := 30) ?hr ?_; (case hd => rfl); (case hg => rfl); (case hr => first | (go_simp; done) | (go_simp; rfl))
         intro gb279 hg w13 hbox hb
         refine E16 (rB HO266.1 hb) (rB HO274.1 hb) (sB HO277.1 hb) (bB BK261.1 hb) (bB BK262.1 hb) (bB BK263.1 hb) (bS HB.1 hb) (hbox) (gX HB.1 hg) (gX HB.1 hg) (nB BK261.1 hg) (nC BK261.1 hg) (nB BK262.1 hg) (nC BK262.1 hg) (nB BK263.1 hg) (nC BK263.1 hg) ?_
         clear HO266 HO274 HO277 BK261 BK262 BK263 HB
         intro HO266 HO274 HO277 BK261 BK262 BK263 HB BK279 GW279 GE279 NB261_279 NB279_261 NB262_279 NB279_262 NB263_279 NB279_263
         clear hb hbox hg
         refine hK.out _ _ ⟨(blk_cell BK261.1 0).trans rfl, (blk_cell BK261.1 1).trans rfl, (blk_cell BK261.1 2).trans rfl⟩ (fun hHeld => ?_)
         clear hK K
         refine norm_ (a' := ?_) ?_ ?_
         rotate_left
         · show Act.put _ (some 7) _ = _
           simp only [Act.put, List.setIfInBounds_toArray, List.set_cons_zero, List.set_cons_succ, i64_w, i32_w]
           rfl
         exact norm_ NA (hJ2_4_10 (v265, v273, v276, gb279) _ ⟨hHeld, (PR HO266.1), (PR HO274.1), (PS HO277.1), (PB BK261.1), (PB BK262.1), (PB BK263.1), (PB BK279.1), GW279.1, GE279.1, NB261_279.1, NB279_261.1, NB262_279.1, NB279_262.1, NB263_279.1, NB279_263.1, (BL HB.1)⟩)
       skip
       rintro ⟨v265, gb278, gb279⟩ w12 ⟨hS_, h0_, h1_, h2_, h3_, h4_, h5_, h6_, h7_, h8_, h9_, h10_, h11_, h12_, h13_, h14_, h15_, h16_, h17_, h18_, h19_, h20_, h21_, h22_, h23_, h24_⟩
       have n0_ : Aside0 (Kd.R (Kd.int .i64) 3 w12 w.heap.size (fun _ => True) v265 t264) := ⟨h0_⟩
       have n1_ : Aside0 (w12.heap[gb261]? = some (.cells #[.int .i64 a0_0, .int .i64 a0_1, .slice A0_2 l0_2.length c0_2] 30 (0, 0))) := ⟨h1_⟩
       have n2_ : Aside0 (w12.heap[gb262]? = some (.cells #[.int .i64 0, .int .i64 0, .int .i64 0] 54 (0, 0))) := ⟨h2_⟩
       have n3_ : Aside0 (w12.heap[gb263]? = some (.cells #[.int .i64 0, .int .i64 0, .slice none 0 0] 30 (0, 0))) := ⟨h3_⟩
       have n4_ : Aside0 (w12.heap[gb278]? = some (.cells #[.int .i64 0, .int .i64 0, .int .i64 0] 54 (0, 0))) := ⟨h4_⟩
       have n5_ : Aside0 (w12.heap[gb279]? = some (.cells #[.int .i64 0, .int .i64 0, .slice none 0 0] 30 (0, 0))) := ⟨h5_⟩
       have n6_ : Aside0 (w.heap.size <= gb278) := ⟨h6_⟩
       have n7_ : Aside0 (w.heap.size <= gb278) := ⟨h7_⟩
       have n8_ : Aside0 (gb261 ≠ gb278) := ⟨h8_⟩
       have n9_ : Aside0 (gb278 ≠ gb261) := ⟨h9_⟩
       have n10_ : Aside0 (gb262 ≠ gb278) := ⟨h10_⟩
       have n11_ : Aside0 (gb278 ≠ gb262) := ⟨h11_⟩
       have n12_ : Aside0 (gb263 ≠ gb278) := ⟨h12_⟩
       have n13_ : Aside0 (gb278 ≠ gb263) := ⟨h13_⟩
       have n14_ : Aside0 (gb279 ≠ gb278) := ⟨h14_⟩
       have n15_ : Aside0 (gb278 ≠ gb279) := ⟨h15_⟩
       have n16_ : Aside0 (w.heap.size <= gb279) := ⟨h16_⟩
       have n17_ : Aside0 (w.heap.size <= gb279) := ⟨h17_⟩
       have n18_ : Aside0 (gb261 ≠ gb279) := ⟨h18_⟩
       have n19_ : Aside0 (gb279 ≠ gb261) := ⟨h19_⟩
       have n20_ : Aside0 (gb262 ≠ gb279) := ⟨h20_⟩
       have n21_ : Aside0 (gb279 ≠ gb262) := ⟨h21_⟩
       have n22_ : Aside0 (gb263 ≠ gb279) := ⟨h22_⟩
       have n23_ : Aside0 (gb279 ≠ gb263) := ⟨h23_⟩
       have n24_ : Aside0 (Below w.heap.size w w12) := ⟨h24_⟩
       clear BK261
       clear BK262
       clear BK263
       clear HB
       clear h0_ h1_ h2_ h3_ h4_ h5_ h6_ h7_ h8_ h9_ h10_ h11_ h12_ h13_ h14_ h15_ h16_ h17_ h18_ h19_ h20_ h21_ h22_ h23_ h24_
       have HO266 := n0_
       have BK261 := n1_
       have BK262 := n2_
       have BK263 := n3_
       have BK278 := n4_
       have BK279 := n5_
       have GW278 := n6_
       have GE278 := n7_
       have NB261_278 := n8_
       have NB278_261 := n9_
       have NB262_278 := n10_
       have NB278_262 := n11_
       have NB263_278 := n12_
       have NB278_263 := n13_
       have NB279_278 := n14_
       have NB278_279 := n15_
       have GW279 := n16_
       have GE279 := n17_
       have NB261_279 := n18_
       have NB279_261 := n19_
       have NB262_279 := n20_
       have NB279_262 := n21_
       have NB263_279 := n22_
       have NB279_263 := n23_
       have HB := n24_
       clear n0_ n1_ n2_ n3_ n4_ n5_ n6_ n7_ n8_ n9_ n10_ n11_ n12_ n13_ n14_ n15_ n16_ n17_ n18_ n19_ n20_ n21_ n22_ n23_ n24_
       have hHeld : w12.cell? ⟨gb261, 0, none⟩ = some (.int .i64 a0_0) /\ w12.cell? ⟨gb261, 1, none⟩ = some (.int .i64 a0_1) /\ w12.cell? ⟨gb261, 2, none⟩ = some (.slice A0_2 l0_2.length c0_2) := hS_
       obtain ⟨Ao13, co13, eo13⟩ := R_slice HO266.1
       (first | subst eo13 | (injection eo13 with f1_ f2_ f3_; have f4_ := f1_.symm; have f5_ := f3_.symm; clear f1_ f2_ f3_; subst f4_; subst f5_))
       refine norm_ (a' := ?_) ?_ ?_
       rotate_left
       · simp only [putAll, Act.put, List.setIfInBounds_toArray, List.set_cons_zero, List.set_cons_succ]
         rfl
       refine one_ (i := 4) (N := some 14) #[Yy,Yy,Yy,Yy,Yy,Zz,Zz,Zz,Zz,Yy,Yy,Zz,Zz,Zz] rfl rfl (one_of HT_.1 (by kernel_rfl)) (by decide) (fun K hK => ?_)
       refine goes_ Try.func84 (by kernel_rfl) rfl #[.agg #[.int .i64 a0_0, .int .i64 a0_1, .slice A0_2 l0_2.length c0_2], .slice Ao13 t264.length co13, .int .i64 a1] (by rfl) rfl rfl (by (try simp only [List.map_toArray, List.map_cons, List.map_nil]); first | done | rfl | (simp only [List.length_drop, List.length_take]; rfl)) ?_
       with_reducible refine (spec_flGo.calls k a0_0 a0_1 _ _ l0_2 _ _ t264 a1 t267 t268 t269 t270 t271 t272 t275 _ ?side1 ?side2 ?side3 ?side4 A4.1).mono ?_
       (case side1 => exact CB (C_below HR0_2.1 HB.1))
       (case side2 => exact HC0_2.1)
       (case side3 => exact CB (R_reads' HO266.1).2.2)
       (case side4 => exact (R_reads' HO266.1).2.1)
       rintro e w14 ⟨v273, v276, rfl, ho0, ho1, hb⟩
       refine ⟨_, rfl, ?_⟩
       refine E9 (rB HO266.1 hb) (R_lower ho0 (bZ HB.1)) (S_lower (S_new' ho1 (R_lt (PR HO266.1))) (bZ HB.1)) (bB BK261.1 hb) (bB BK262.1 hb) (bB BK263.1 hb) (bB BK278.1 hb) (bB BK279.1 hb) (bS HB.1 hb) ?_
       clear HO266 BK261 BK262 BK263 BK278 BK279 HB
       intro HO266 HO274 HO277 BK261 BK262 BK263 BK278 BK279 HB
       (try clear hb)
       (try clear hb2)
       (try clear hk)
       (try clear hi)
       (try clear ho0)
       (try clear ho1)
       refine hK.out _ _ ⟨(blk_cell BK261.1 0).trans rfl, (blk_cell BK261.1 1).trans rfl, (blk_cell BK261.1 2).trans rfl⟩ (fun hHeld => ?_)
       clear hK K
       refine norm_ (a' := ?_) ?_ ?_
       rotate_left
       · show Act.put _ (some 14) _ = _
         simp only [Act.put, List.setIfInBounds_toArray, List.set_cons_zero, List.set_cons_succ, i64_w, i32_w]
         rfl
       refine pureF 5 (N := some 9) HT_.1 ?_
       refine pureF 6 (N := some 15) HT_.1 ?_
       refine pureF 7 (N := some 16) HT_.1 ?_
       refine pureF 8 (N := some 17) HT_.1 ?_
       exact norm_ NA (hJ2_4_9_10 (.slice Ao13 t264.length co13, v273, v276, gb278, gb279) _ ⟨hHeld, (PR HO266.1), (PR HO274.1), (SPE (S_mono HO277.1 (fun _ hk => hk.2))), (PB BK261.1), (PB BK262.1), (PB BK263.1), (PB BK278.1), (PB BK279.1), GW278.1, GE278.1, NB261_278.1, NB278_261.1, NB262_278.1, NB278_262.1, NB263_278.1, NB278_263.1, NB279_278.1, NB278_279.1, GW279.1, GE279.1, NB261_279.1, NB279_261.1, NB262_279.1, NB279_262.1, NB263_279.1, NB279_263.1, (BL HB.1)⟩)
     skip
     rintro ⟨v265, v273, v276, gb279⟩ w13 ⟨hS_, h0_, h1_, h2_, h3_, h4_, h5_, h6_, h7_, h8_, h9_, h10_, h11_, h12_, h13_, h14_, h15_⟩
     refine E16 (show Kd.R (Kd.int .i64) 3 w13 w.heap.size (fun _ => True) v265 t264 from h0_) (show Kd.R k83 83 w13 w.heap.size (fun _ => True) v273 t272 from h1_) (show Kd.S (Kd.slice 3 (Kd.int .i64)) 38 w13 w.heap.size (fun k_ => some k_ ≠ (v265 : Value).ownBlock) v276 t275 from h2_) (show w13.heap[gb261]? = some (.cells #[.int .i64 a0_0, .int .i64 a0_1, .slice A0_2 l0_2.length c0_2] 30 (0, 0)) from h3_) (show w13.heap[gb262]? = some (.cells #[.int .i64 0, .int .i64 0, .int .i64 0] 54 (0, 0)) from h4_) (show w13.heap[gb263]? = some (.cells #[.int .i64 0, .int .i64 0, .slice none 0 0] 30 (0, 0)) from h5_) (show w13.heap[gb279]? = some (.cells #[.int .i64 0, .int .i64 0, .slice none 0 0] 30 (0, 0)) from h6_) (show w.heap.size <= gb279 from h7_) (show w.heap.size <= gb279 from h8_) (show gb261 ≠ gb279 from h9_) (show gb279 ≠ gb261 from h10_) (show gb262 ≠ gb279 from h11_) (show gb279 ≠ gb262 from h12_) (show gb263 ≠ gb279 from h13_) (show gb279 ≠ gb263 from h14_) (show Below w.heap.size w w13 from h15_) ?_
     clear BK261 BK262 BK263 HB h0_ h1_ h2_ h3_ h4_ h5_ h6_ h7_ h8_ h9_ h10_ h11_ h12_ h13_ h14_ h15_
     intro HO266 HO274 HO277 BK261 BK262 BK263 BK279 GW279 GE279 NB261_279 NB279_261 NB262_279 NB279_262 NB263_279 NB279_263 HB
     have hHeld : w13.cell? ⟨gb261, 0, none⟩ = some (.int .i64 a0_0) /\ w13.cell? ⟨gb261, 1, none⟩ = some (.int .i64 a0_1) /\ w13.cell? ⟨gb261, 2, none⟩ = some (.slice A0_2 l0_2.length c0_2) := hS_
     refine norm_ (a' := ?_) ?_ ?_
     rotate_left
     · simp only [putAll, Act.put, List.setIfInBounds_toArray, List.set_cons_zero, List.set_cons_succ]
       rfl
     refine one_ (i := 9) (N := some 6) #[Yy,Yy,Yy,Yy,Yy,Yy,Yy,Yy,Yy,Yy,Yy,Zz,Zz,Zz] rfl rfl (one_of HT_.1 (by kernel_rfl)) (by decide) (fun K hK => ?_)
     refine box_step ?hg (N := 6) ?hd (cs := #[.int .i64 0, .int .i64 0, .int .i64 0]) (t := 54) ?hr ?_; (case hd => rfl); (case hg => rfl); (case hr => first | (go_simp; done) | (go_simp; rfl))
     intro gb278 hg w14 hbox hb
     refine E19 (rB HO266.1 hb) (rB HO274.1 hb) (sB HO277.1 hb) (bB BK261.1 hb) (bB BK262.1 hb) (bB BK263.1 hb) (bB BK279.1 hb) (bS HB.1 hb) (hbox) (gX HB.1 hg) (gX HB.1 hg) (nB BK261.1 hg) (nC BK261.1 hg) (nB BK262.1 hg) (nC BK262.1 hg) (nB BK263.1 hg) (nC BK263.1 hg) (nB BK279.1 hg) (nC BK279.1 hg) ?_
     clear HO266 HO274 HO277 BK261 BK262 BK263 BK279 HB
     intro HO266 HO274 HO277 BK261 BK262 BK263 BK279 HB BK278 GW278 GE278 NB261_278 NB278_261 NB262_278 NB278_262 NB263_278 NB278_263 NB279_278 NB278_279
     clear hb hbox hg
     refine hK.out _ _ ⟨(blk_cell BK261.1 0).trans rfl, (blk_cell BK261.1 1).trans rfl, (blk_cell BK261.1 2).trans rfl⟩ (fun hHeld => ?_)
     clear hK K
     refine norm_ (a' := ?_) ?_ ?_
     rotate_left
     · show Act.put _ (some 6) _ = _
       simp only [Act.put, List.setIfInBounds_toArray, List.set_cons_zero, List.set_cons_succ, i64_w, i32_w]
       rfl
     exact norm_ NA (hJ2_4_9_10 (v265, v273, v276, gb278, gb279) _ ⟨hHeld, (PR HO266.1), (PR HO274.1), (PS HO277.1), (PB BK261.1), (PB BK262.1), (PB BK263.1), (PB BK278.1), (PB BK279.1), GW278.1, GE278.1, NB261_278.1, NB278_261.1, NB262_278.1, NB278_262.1, NB263_278.1, NB278_263.1, NB279_278.1, NB278_279.1, GW279.1, GE279.1, NB261_279.1, NB279_261.1, NB262_279.1, NB279_262.1, NB263_279.1, NB279_263.1, (BL HB.1)⟩)
   skip
   rintro ⟨v265, v273, v276, gb278⟩ w13 ⟨hS_, h0_, h1_, h2_, h3_, h4_, h5_, h6_, h7_, h8_, h9_, h10_, h11_, h12_, h13_, h14_, h15_⟩
   refine E16 (show Kd.R (Kd.int .i64) 3 w13 w.heap.size (fun _ => True) v265 t264 from h0_) (show Kd.R k83 83 w13 w.heap.size (fun _ => True) v273 t272 from h1_) (show Kd.S (Kd.slice 3 (Kd.int .i64)) 38 w13 w.heap.size (fun k_ => some k_ ≠ (v265 : Value).ownBlock) v276 t275 from h2_) (show w13.heap[gb261]? = some (.cells #[.int .i64 a0_0, .int .i64 a0_1, .slice A0_2 l0_2.length c0_2] 30 (0, 0)) from h3_) (show w13.heap[gb262]? = some (.cells #[.int .i64 0, .int .i64 0, .int .i64 0] 54 (0, 0)) from h4_) (show w13.heap[gb263]? = some (.cells #[.int .i64 0, .int .i64 0, .slice none 0 0] 30 (0, 0)) from h5_) (show w13.heap[gb278]? = some (.cells #[.int .i64 0, .int .i64 0, .int .i64 0] 54 (0, 0)) from h6_) (show w.heap.size <= gb278 from h7_) (show w.heap.size <= gb278 from h8_) (show gb261 ≠ gb278 from h9_) (show gb278 ≠ gb261 from h10_) (show gb262 ≠ gb278 from h11_) (show gb278 ≠ gb262 from h12_) (show gb263 ≠ gb278 from h13_) (show gb278 ≠ gb263 from h14_) (show Below w.heap.size w w13 from h15_) ?_
   clear BK261 BK262 BK263 HB h0_ h1_ h2_ h3_ h4_ h5_ h6_ h7_ h8_ h9_ h10_ h11_ h12_ h13_ h14_ h15_
   intro HO266 HO274 HO277 BK261 BK262 BK263 BK278 GW278 GE278 NB261_278 NB278_261 NB262_278 NB278_262 NB263_278 NB278_263 HB
   have hHeld : w13.cell? ⟨gb261, 0, none⟩ = some (.int .i64 a0_0) /\ w13.cell? ⟨gb261, 1, none⟩ = some (.int .i64 a0_1) /\ w13.cell? ⟨gb261, 2, none⟩ = some (.slice A0_2 l0_2.length c0_2) := hS_
   refine norm_ (a' := ?_) ?_ ?_
   rotate_left
   · simp only [putAll, Act.put, List.setIfInBounds_toArray, List.set_cons_zero, List.set_cons_succ]
     rfl
   refine one_ (i := 10) (N := some 7) #[Yy,Yy,Yy,Yy,Yy,Yy,Yy,Yy,Yy,Yy,Yy,Zz,Zz,Zz] rfl rfl (one_of HT_.1 (by kernel_rfl)) (by decide) (fun K hK => ?_)
   refine box_step ?hg (N := 7) ?hd (cs := #[.int .i64 0, .int .i64 0, .slice none 0 0]) (t := 30) ?hr ?_; (case hd => rfl); (case hg => rfl); (case hr => first | (go_simp; done) | (go_simp; rfl))
   intro gb279 hg w14 hbox hb
   refine E19 (rB HO266.1 hb) (rB HO274.1 hb) (sB HO277.1 hb) (bB BK261.1 hb) (bB BK262.1 hb) (bB BK263.1 hb) (bB BK278.1 hb) (bS HB.1 hb) (hbox) (gX HB.1 hg) (gX HB.1 hg) (nB BK261.1 hg) (nC BK261.1 hg) (nB BK262.1 hg) (nC BK262.1 hg) (nB BK263.1 hg) (nC BK263.1 hg) (nB BK278.1 hg) (nC BK278.1 hg) ?_
   clear HO266 HO274 HO277 BK261 BK262 BK263 BK278 HB
   intro HO266 HO274 HO277 BK261 BK262 BK263 BK278 HB BK279 GW279 GE279 NB261_279 NB279_261 NB262_279 NB279_262 NB263_279 NB279_263 NB278_279 NB279_278
   clear hb hbox hg
   refine hK.out _ _ ⟨(blk_cell BK261.1 0).trans rfl, (blk_cell BK261.1 1).trans rfl, (blk_cell BK261.1 2).trans rfl⟩ (fun hHeld => ?_)
   clear hK K
   refine norm_ (a' := ?_) ?_ ?_
   rotate_left
   · show Act.put _ (some 7) _ = _
     simp only [Act.put, List.setIfInBounds_toArray, List.set_cons_zero, List.set_cons_succ, i64_w, i32_w]
     rfl
   exact norm_ NA (hJ2_4_9_10 (v265, v273, v276, gb278, gb279) _ ⟨hHeld, (PR HO266.1), (PR HO274.1), (PS HO277.1), (PB BK261.1), (PB BK262.1), (PB BK263.1), (PB BK278.1), (PB BK279.1), GW278.1, GE278.1, NB261_278.1, NB278_261.1, NB262_278.1, NB278_262.1, NB263_278.1, NB278_263.1, NB279_278.1, NB278_279.1, GW279.1, GE279.1, NB261_279.1, NB279_261.1, NB262_279.1, NB279_262.1, NB263_279.1, NB279_263.1, (BL HB.1)⟩)
 rintro ⟨v265, v273, v276, gb278, gb279⟩ w14 ⟨hS_, h0_, h1_, h2_, h3_, h4_, h5_, h6_, h7_, h8_, h9_, h10_, h11_, h12_, h13_, h14_, h15_, h16_, h17_, h18_, h19_, h20_, h21_, h22_, h23_, h24_, h25_, h26_⟩
 have n0_ : Aside0 (Kd.R (Kd.int .i64) 3 w14 w.heap.size (fun _ => True) v265 t264) := ⟨h0_⟩
 have n1_ : Aside0 (Kd.R k83 83 w14 w.heap.size (fun _ => True) v273 t272) := ⟨h1_⟩
 have n2_ : Aside0 (Kd.S (Kd.slice 3 (Kd.int .i64)) 38 w14 w.heap.size (fun k_ => some k_ ≠ (v265 : Value).ownBlock) v276 t275) := ⟨h2_⟩
 have n3_ : Aside0 (w14.heap[gb261]? = some (.cells #[.int .i64 a0_0, .int .i64 a0_1, .slice A0_2 l0_2.length c0_2] 30 (0, 0))) := ⟨h3_⟩
 have n4_ : Aside0 (w14.heap[gb262]? = some (.cells #[.int .i64 0, .int .i64 0, .int .i64 0] 54 (0, 0))) := ⟨h4_⟩
 have n5_ : Aside0 (w14.heap[gb263]? = some (.cells #[.int .i64 0, .int .i64 0, .slice none 0 0] 30 (0, 0))) := ⟨h5_⟩
 have n6_ : Aside0 (w14.heap[gb278]? = some (.cells #[.int .i64 0, .int .i64 0, .int .i64 0] 54 (0, 0))) := ⟨h6_⟩
 have n7_ : Aside0 (w14.heap[gb279]? = some (.cells #[.int .i64 0, .int .i64 0, .slice none 0 0] 30 (0, 0))) := ⟨h7_⟩
 have n8_ : Aside0 (w.heap.size <= gb278) := ⟨h8_⟩
 have n9_ : Aside0 (w.heap.size <= gb278) := ⟨h9_⟩
 have n10_ : Aside0 (gb261 ≠ gb278) := ⟨h10_⟩
 have n11_ : Aside0 (gb278 ≠ gb261) := ⟨h11_⟩
 have n12_ : Aside0 (gb262 ≠ gb278) := ⟨h12_⟩
 have n13_ : Aside0 (gb278 ≠ gb262) := ⟨h13_⟩
 have n14_ : Aside0 (gb263 ≠ gb278) := ⟨h14_⟩
 have n15_ : Aside0 (gb278 ≠ gb263) := ⟨h15_⟩
 have n16_ : Aside0 (gb279 ≠ gb278) := ⟨h16_⟩
 have n17_ : Aside0 (gb278 ≠ gb279) := ⟨h17_⟩
 have n18_ : Aside0 (w.heap.size <= gb279) := ⟨h18_⟩
 have n19_ : Aside0 (w.heap.size <= gb279) := ⟨h19_⟩
 have n20_ : Aside0 (gb261 ≠ gb279) := ⟨h20_⟩
 have n21_ : Aside0 (gb279 ≠ gb261) := ⟨h21_⟩
 have n22_ : Aside0 (gb262 ≠ gb279) := ⟨h22_⟩
 have n23_ : Aside0 (gb279 ≠ gb262) := ⟨h23_⟩
 have n24_ : Aside0 (gb263 ≠ gb279) := ⟨h24_⟩
 have n25_ : Aside0 (gb279 ≠ gb263) := ⟨h25_⟩
 have n26_ : Aside0 (Below w.heap.size w w14) := ⟨h26_⟩
 clear BK261
 clear BK262
 clear BK263
 clear HB
 clear h0_ h1_ h2_ h3_ h4_ h5_ h6_ h7_ h8_ h9_ h10_ h11_ h12_ h13_ h14_ h15_ h16_ h17_ h18_ h19_ h20_ h21_ h22_ h23_ h24_ h25_ h26_
 have HO266 := n0_
 have HO274 := n1_
 have HO277 := n2_
 have BK261 := n3_
 have BK262 := n4_
 have BK263 := n5_
 have BK278 := n6_
 have BK279 := n7_
 have GW278 := n8_
 have GE278 := n9_
 have NB261_278 := n10_
 have NB278_261 := n11_
 have NB262_278 := n12_
 have NB278_262 := n13_
 have NB263_278 := n14_
 have NB278_263 := n15_
 have NB279_278 := n16_
 have NB278_279 := n17_
 have GW279 := n18_
 have GE279 := n19_
 have NB261_279 := n20_
 have NB279_261 := n21_
 have NB262_279 := n22_
 have NB279_262 := n23_
 have NB263_279 := n24_
 have NB279_263 := n25_
 have HB := n26_
 clear n0_ n1_ n2_ n3_ n4_ n5_ n6_ n7_ n8_ n9_ n10_ n11_ n12_ n13_ n14_ n15_ n16_ n17_ n18_ n19_ n20_ n21_ n22_ n23_ n24_ n25_ n26_
 have hHeld : w14.cell? ⟨gb261, 0, none⟩ = some (.int .i64 a0_0) /\ w14.cell? ⟨gb261, 1, none⟩ = some (.int .i64 a0_1) /\ w14.cell? ⟨gb261, 2, none⟩ = some (.slice A0_2 l0_2.length c0_2) := hS_
 obtain ⟨Ao20, co20, eo20⟩ := R_slice HO274.1
 (first | subst eo20 | (injection eo20 with f1_ f2_ f3_; have f4_ := f1_.symm; have f5_ := f3_.symm; clear f1_ f2_ f3_; subst f4_; subst f5_))
 refine norm_ (a' := ?_) ?_ ?_
 rotate_left
 · simp only [putAll, Act.put, List.setIfInBounds_toArray, List.set_cons_zero, List.set_cons_succ]
   rfl
 refine one_ (i := 11) (N := none) #[Yy,Yy,Yy,Yy,Yy,Yy,Yy,Yy,Yy,Yy,Yy,Yy,Zz,Zz] rfl rfl (one_of HT_.1 (by kernel_rfl)) (by decide) (fun K hK => ?_)
 obtain ⟨hs15, hs16, hs17, hfs15, hfs16, hfs17⟩ := cz3 BK278.1
 have hns15_0 := NB261_278.1
 have hns15_1 := NB262_278.1
 have hns15_2 := NB263_278.1
 have hns15_4 := NB279_278.1
 have hms15_0 := NB278_261.1
 have hms15_1 := NB278_262.1
 have hms15_2 := NB278_263.1
 have hms15_4 := NB278_279.1
 refine skip_ (w1 := ?_) (by rfl) rfl ?_ ?_
 rotate_left
 · go_simp
   rfl
 refine hK.out _ _ ⟨(CF3 NB261_278.1 hHeld.1), (CF3 NB261_278.1 hHeld.2.1), (CF3 NB261_278.1 hHeld.2.2)⟩ (fun hHeld => ?_)
 clear hK K
 refine one_ (i := 12) (N := none) #[Yy,Yy,Yy,Yy,Yy,Yy,Yy,Yy,Yy,Yy,Yy,Yy,Yy,Zz] rfl rfl (one_of HT_.1 (by kernel_rfl)) (by decide) (fun K hK => ?_)
 obtain ⟨hs18, hs19, hs21, hfs18, hfs19, hfs21⟩ := cz3 BK279.1
 have hns18_0 := NB261_279.1
 have hns18_1 := NB262_279.1
 have hns18_2 := NB263_279.1
 have hms18_0 := NB279_261.1
 have hms18_1 := NB279_262.1
 have hms18_2 := NB279_263.1
 refine skip_ (w1 := ?_) (by rfl) rfl ?_ ?_
 rotate_left
 · go_simp
   rfl
 refine hK.out _ _ ⟨(CF3 NB261_279.1 hHeld.1), (CF3 NB261_279.1 hHeld.2.1), (CF3 NB261_279.1 hHeld.2.2)⟩ (fun hHeld => ?_)
 clear hK K
 refine pureF 13 (N := some 8) HT_.1 ?_
 refine done_ (done_of HT_.1 (by kernel_rfl)) ?_
 try go_wp2
 have n_ : (fun w22 : World => (Kd.R (Kd.int .i64) 3 w22 w.heap.size (fun _ => True) v265 t264) /\ (Kd.R k83 83 w22 w.heap.size (fun _ => True) (.slice Ao20 t272.length co20) t272) /\ (Kd.S (Kd.slice 3 (Kd.int .i64)) 38 w22 w.heap.size (fun k_ => some k_ ≠ (v265 : Value).ownBlock) v276 t275) /\ (w22.heap[gb261]? = some (.cells #[.int .i64 a0_0, .int .i64 a0_1, .slice A0_2 l0_2.length c0_2] 30 (0, 0))) /\ (w22.heap[gb262]? = some (.cells #[.int .i64 0, .int .i64 0, .int .i64 0] 54 (0, 0))) /\ (w22.heap[gb263]? = some (.cells #[.int .i64 0, .int .i64 0, .slice none 0 0] 30 (0, 0))) /\ (w22.heap[gb278]? = some (.cells #[.int .i64 t267, .int .i64 t268, .int .i64 t269] 54 (0, 0))) /\ (w22.heap[gb279]? = some (.cells #[.int .i64 t270, .int .i64 t271, .slice Ao20 t272.length co20] 30 (0, 0))) /\ (Below w.heap.size w w22)) ((((((w14.setCell ⟨gb278, 0, none⟩ (.int .i64 t267)).setCell ⟨gb278, 1, none⟩ (.int .i64 t268)).setCell ⟨gb278, 2, none⟩ (.int .i64 t269)).setCell ⟨gb279, 0, none⟩ (.int .i64 t270)).setCell ⟨gb279, 1, none⟩ (.int .i64 t271)).setCell ⟨gb279, 2, none⟩ (.slice Ao20 t272.length co20)) := ⟨by (with_reducible repeat (first | apply R_alloc | apply R_drewN | apply R_drew)); exact R_mono (RQ gb279 2 (RQ gb279 1 (RQ gb279 0 (R_far (p := ⟨gb278, 2, none⟩) (R_far (p := ⟨gb278, 1, none⟩) (R_far (p := ⟨gb278, 0, none⟩) (R_types (R_types HO266.1 BK278.1 (by decide)) BK279.1 (by decide)) (fun _ hk => hk.1.2) (.int .i64 t267)) (fun _ hk => hk.1.2) (.int .i64 t268)) (fun _ hk => hk.1.2) (.int .i64 t269)) _) _) _) (fun _ hk => trivial), by (with_reducible repeat (first | apply R_alloc | apply R_drewN | apply R_drew)); exact R_mono (RQ gb279 2 (RQ gb279 1 (RQ gb279 0 (R_far (p := ⟨gb278, 2, none⟩) (R_far (p := ⟨gb278, 1, none⟩) (R_far (p := ⟨gb278, 0, none⟩) (R_types (R_types HO274.1 BK278.1 (by decide)) BK279.1 (by decide)) (fun _ hk => hk.1.2) (.int .i64 t267)) (fun _ hk => hk.1.2) (.int .i64 t268)) (fun _ hk => hk.1.2) (.int .i64 t269)) _) _) _) (fun _ hk => trivial), by (with_reducible repeat (first | apply S_alloc | apply S_drewN | apply S_drew)); exact S_mono (SQ gb279 2 (SQ gb279 1 (SQ gb279 0 (S_far (p := ⟨gb278, 2, none⟩) (S_far (p := ⟨gb278, 1, none⟩) (S_far (p := ⟨gb278, 0, none⟩) (S_types (S_types HO277.1 BK278.1 (by decide)) BK279.1 (by decide)) (fun _ hk => hk.1.2) (.int .i64 t267)) (fun _ hk => hk.1.2) (.int .i64 t268)) (fun _ hk => hk.1.2) (.int .i64 t269)) _) _) _) (fun _ hk => hk.1.1), by (with_reducible repeat (first | refine blk_drewN ?_ _ | refine blk_drew ?_ | refine blk_alloc ?_ _)); refine blk_far ?_ NB261_279.1 _; (with_reducible repeat (first | refine blk_drewN ?_ _ | refine blk_drew ?_ | refine blk_alloc ?_ _)); refine blk_far ?_ NB261_279.1 _; (with_reducible repeat (first | refine blk_drewN ?_ _ | refine blk_drew ?_ | refine blk_alloc ?_ _)); refine blk_far ?_ NB261_279.1 _; (with_reducible repeat (first | refine blk_drewN ?_ _ | refine blk_drew ?_ | refine blk_alloc ?_ _)); refine blk_far ?_ NB261_278.1 _; (with_reducible repeat (first | refine blk_drewN ?_ _ | refine blk_drew ?_ | refine blk_alloc ?_ _)); refine blk_far ?_ NB261_278.1 _; (with_reducible repeat (first | refine blk_drewN ?_ _ | refine blk_drew ?_ | refine blk_alloc ?_ _)); refine blk_far ?_ NB261_278.1 _; (with_reducible repeat (first | refine blk_drewN ?_ _ | refine blk_drew ?_ | refine blk_alloc ?_ _)); exact BK261.1, by (with_reducible repeat (first | refine blk_drewN ?_ _ | refine blk_drew ?_ | refine blk_alloc ?_ _)); refine blk_far ?_ NB262_279.1 _; (with_reducible repeat (first | refine blk_drewN ?_ _ | refine blk_drew ?_ | refine blk_alloc ?_ _)); refine blk_far ?_ NB262_279.1 _; (with_reducible repeat (first | refine blk_drewN ?_ _ | refine blk_drew ?_ | refine blk_alloc ?_ _)); refine blk_far ?_ NB262_279.1 _; (with_reducible repeat (first | refine blk_drewN ?_ _ | refine blk_drew ?_ | refine blk_alloc ?_ _)); refine blk_far ?_ NB262_278.1 _; (with_reducible repeat (first | refine blk_drewN ?_ _ | refine blk_drew ?_ | refine blk_alloc ?_ _)); refine blk_far ?_ NB262_278.1 _; (with_reducible repeat (first | refine blk_drewN ?_ _ | refine blk_drew ?_ | refine blk_alloc ?_ _)); refine blk_far ?_ NB262_278.1 _; (with_reducible repeat (first | refine blk_drewN ?_ _ | refine blk_drew ?_ | refine blk_alloc ?_ _)); exact BK262.1, by (with_reducible repeat (first | refine blk_drewN ?_ _ | refine blk_drew ?_ | refine blk_alloc ?_ _)); refine blk_far ?_ NB263_279.1 _; (with_reducible repeat (first | refine blk_drewN ?_ _ | refine blk_drew ?_ | refine blk_alloc ?_ _)); refine blk_far ?_ NB263_279.1 _; (with_reducible repeat (first | refine blk_drewN ?_ _ | refine blk_drew ?_ | refine blk_alloc ?_ _)); refine blk_far ?_ NB263_279.1 _; (with_reducible repeat (first | refine blk_drewN ?_ _ | refine blk_drew ?_ | refine blk_alloc ?_ _)); refine blk_far ?_ NB263_278.1 _; (with_reducible repeat (first | refine blk_drewN ?_ _ | refine blk_drew ?_ | refine blk_alloc ?_ _)); refine blk_far ?_ NB263_278.1 _; (with_reducible repeat (first | refine blk_drewN ?_ _ | refine blk_drew ?_ | refine blk_alloc ?_ _)); refine blk_far ?_ NB263_278.1 _; (with_reducible repeat (first | refine blk_drewN ?_ _ | refine blk_drew ?_ | refine blk_alloc ?_ _)); exact BK263.1, by (with_reducible repeat (first | refine blk_drewN ?_ _ | refine blk_drew ?_ | refine blk_alloc ?_ _)); refine blk_far ?_ NB278_279.1 _; (with_reducible repeat (first | refine blk_drewN ?_ _ | refine blk_drew ?_ | refine blk_alloc ?_ _)); refine blk_far ?_ NB278_279.1 _; (with_reducible repeat (first | refine blk_drewN ?_ _ | refine blk_drew ?_ | refine blk_alloc ?_ _)); refine blk_far ?_ NB278_279.1 _; (with_reducible repeat (first | refine blk_drewN ?_ _ | refine blk_drew ?_ | refine blk_alloc ?_ _)); refine blk_put (cs := #[.int .i64 t267, .int .i64 t268, .int .i64 0]) ?_ 2 _ rfl; (with_reducible repeat (first | refine blk_drewN ?_ _ | refine blk_drew ?_ | refine blk_alloc ?_ _)); refine blk_put (cs := #[.int .i64 t267, .int .i64 0, .int .i64 0]) ?_ 1 _ rfl; (with_reducible repeat (first | refine blk_drewN ?_ _ | refine blk_drew ?_ | refine blk_alloc ?_ _)); refine blk_put (cs := #[.int .i64 0, .int .i64 0, .int .i64 0]) ?_ 0 _ rfl; (with_reducible repeat (first | refine blk_drewN ?_ _ | refine blk_drew ?_ | refine blk_alloc ?_ _)); exact BK278.1, by (with_reducible repeat (first | refine blk_drewN ?_ _ | refine blk_drew ?_ | refine blk_alloc ?_ _)); refine blk_put (cs := #[.int .i64 t270, .int .i64 t271, .slice none 0 0]) ?_ 2 _ rfl; (with_reducible repeat (first | refine blk_drewN ?_ _ | refine blk_drew ?_ | refine blk_alloc ?_ _)); refine blk_put (cs := #[.int .i64 t270, .int .i64 0, .slice none 0 0]) ?_ 1 _ rfl; (with_reducible repeat (first | refine blk_drewN ?_ _ | refine blk_drew ?_ | refine blk_alloc ?_ _)); refine blk_put (cs := #[.int .i64 0, .int .i64 0, .slice none 0 0]) ?_ 0 _ rfl; (with_reducible repeat (first | refine blk_drewN ?_ _ | refine blk_drew ?_ | refine blk_alloc ?_ _)); refine blk_far ?_ NB279_278.1 _; (with_reducible repeat (first | refine blk_drewN ?_ _ | refine blk_drew ?_ | refine blk_alloc ?_ _)); refine blk_far ?_ NB279_278.1 _; (with_reducible repeat (first | refine blk_drewN ?_ _ | refine blk_drew ?_ | refine blk_alloc ?_ _)); refine blk_far ?_ NB279_278.1 _; (with_reducible repeat (first | refine blk_drewN ?_ _ | refine blk_drew ?_ | refine blk_alloc ?_ _)); exact BK279.1, BL HB.1⟩
 (try clear HO266)
 (try clear HO274)
 (try clear HO277)
 (try clear BK261)
 (try clear BK262)
 (try clear BK263)
 (try clear BK278)
 (try clear BK279)
 (try clear HB)
 generalize ((((((w14.setCell ⟨gb278, 0, none⟩ (.int .i64 t267)).setCell ⟨gb278, 1, none⟩ (.int .i64 t268)).setCell ⟨gb278, 2, none⟩ (.int .i64 t269)).setCell ⟨gb279, 0, none⟩ (.int .i64 t270)).setCell ⟨gb279, 1, none⟩ (.int .i64 t271)).setCell ⟨gb279, 2, none⟩ (.slice Ao20 t272.length co20)) = w22 at n_ ⊢
 obtain ⟨h0_, h1_, h2_, h3_, h4_, h5_, h6_, h7_, h8_⟩ := n_
 refine E9 h0_ h1_ h2_ h3_ h4_ h5_ h6_ h7_ h8_ ?_
 clear h0_ h1_ h2_ h3_ h4_ h5_ h6_ h7_ h8_
 intro HO266 HO274 HO277 BK261 BK262 BK263 BK278 BK279 HB
 refine E9 (R_drew HO266.1) (R_drew HO274.1) (S_drew HO277.1) (blk_drew BK261.1) (blk_drew BK262.1) (blk_drew BK263.1) (blk_drew BK278.1) (blk_drew BK279.1) (below_drew1 HB.1) ?_
 clear HO266 HO274 HO277 BK261 BK262 BK263 BK278 BK279 HB
 intro HO266 HO274 HO277 BK261 BK262 BK263 BK278 BK279 HB
 refine start_ (n := 4) (S := fun w' => w'.cell? ⟨gb278, 0, none⟩ = some (.int .i64 t267) /\ w'.cell? ⟨gb278, 1, none⟩ = some (.int .i64 t268) /\ w'.cell? ⟨gb278, 2, none⟩ = some (.int .i64 t269) /\ w'.cell? ⟨gb279, 0, none⟩ = some (.int .i64 t270) /\ w'.cell? ⟨gb279, 1, none⟩ = some (.int .i64 t271) /\ w'.cell? ⟨gb279, 2, none⟩ = some (.slice Ao20 t272.length co20)) (ds := []) #[Zz,Zz,Zz,Zz] (by kernel_rfl) rfl rfl ⟨(blk_cell BK278.1 0).trans rfl, (blk_cell BK278.1 1).trans rfl, (blk_cell BK278.1 2).trans rfl, (blk_cell BK279.1 0).trans rfl, (blk_cell BK279.1 1).trans rfl, (blk_cell BK279.1 2).trans rfl⟩ (fun hHeld => ?_)
 generalize w22.drew = w23 at HO266 HO274 HO277 BK261 BK262 BK263 BK278 BK279 HB hHeld ⊢
 refine takeF 0 (N := some 18) hHeld ?_
 refine takeF 1 (N := some 19) hHeld ?_
 refine one_ (i := 2) (N := none) #[Yy,Yy,Yy,Zz] rfl rfl (by kernel_rfl) (by decide) (fun K hK => ?_)
 obtain ⟨hs24, hs25, hs26, hfs24, hfs25, hfs26⟩ := cz3 BK262.1
 have hns24_0 := NB261_262.1
 have hns24_2 := NB263_262.1
 have hms24_0 := NB262_261.1
 have hms24_2 := NB262_263.1
 refine skip_ (w1 := ?_) (by rfl) rfl ?_ ?_
 rotate_left
 · go_simp
   rfl
 refine hK.out _ _ ⟨(CF3 NB278_262.1 hHeld.1), (CF3 NB278_262.1 hHeld.2.1), (CF3 NB278_262.1 hHeld.2.2.1), (CF3 NB279_262.1 hHeld.2.2.2.1), (CF3 NB279_262.1 hHeld.2.2.2.2.1), (CF3 NB279_262.1 hHeld.2.2.2.2.2)⟩ (fun hHeld => ?_)
 clear hK K
 refine one_ (i := 3) (N := none) #[Yy,Yy,Yy,Yy] rfl rfl (by kernel_rfl) (by decide) (fun K hK => ?_)
 obtain ⟨hs27, hs28, hs29, hfs27, hfs28, hfs29⟩ := cz3 BK263.1
 have hns27_0 := NB261_263.1
 have hms27_0 := NB263_261.1
 refine skip_ (w1 := ?_) (by rfl) rfl ?_ ?_
 rotate_left
 · go_simp
   rfl
 refine hK.out _ _ ⟨(CF3 NB278_263.1 hHeld.1), (CF3 NB278_263.1 hHeld.2.1), (CF3 NB278_263.1 hHeld.2.2.1), (CF3 NB279_263.1 hHeld.2.2.2.1), (CF3 NB279_263.1 hHeld.2.2.2.2.1), (CF3 NB279_263.1 hHeld.2.2.2.2.2)⟩ (fun hHeld => ?_)
 clear hK K
 refine done_ (by kernel_rfl) ?_
 try go_wp2
 refine bodyPost_ret (results_cc rfl _ _ gb262 gb263 54 30 #[.int .i64 t267, .int .i64 t268, .int .i64 t269] #[.int .i64 t270, .int .i64 t271, .slice Ao20 t272.length co20] (0, 0) (0, 0) _ _ rfl (PF1 NB262_263.1 BK262.1) Try.underlying54 rfl (by kernel_rfl) rfl (PF1 NB263_262.1 BK263.1) Try.underlying30 rfl (by kernel_rfl)) rfl ?_
 exact ⟨_, RF, by (with_reducible repeat (first | apply R_alloc | apply R_drewN | apply R_drew)); exact R_mono (RQ gb263 2 (RQ gb263 1 (RQ gb263 0 (R_far (p := ⟨gb262, 2, none⟩) (R_far (p := ⟨gb262, 1, none⟩) (R_far (p := ⟨gb262, 0, none⟩) (R_types (R_types HO274.1 BK262.1 (by decide)) BK263.1 (by decide)) (fun _ hk => hk.1.2) (.int .i64 t267)) (fun _ hk => hk.1.2) (.int .i64 t268)) (fun _ hk => hk.1.2) (.int .i64 t269)) _) _) _) (fun _ hk => trivial), BL HB.1⟩
def spec_saTurn.l0 : Nat -> List Int -> Int -> Int -> Int -> Int -> List (S83) -> Option ((List (S83)))
 | 0, _, _, _, _, _, _ => none
 | k + 1, x6, x7, x8, x281000, x281001, x281002 => if x8 < x7 then (if 0 <= x8 then (if x8 < (x6.length : Int) then (if 0 <= (rd x6 x8) then (if (rd x6 x8) < (x281002.length : Int) then ((spec_paTurn.f ((rd_T83 x281002 (rd x6 x8)).f0) ((rd_T83 x281002 (rd x6 x8)).f1)).bind fun bt283 => (spec_saTurn.l0 k x6 x7 (wrap64 (x8 + 1)) x281000 x281001 (x281002.set ((rd x6 x8) : Int).toNat (⟨bt283.1, bt283.2⟩ : S83)))) else (none)) else (none)) else (none)) else (none)) else (some x281002)
def spec_saTurn.f (k : Nat) (a0_0 : Int) (a0_1 : Int) (l0_2 : List (S83)) (l1 : List Int) : Option ((List (S83))) := spec_saTurn.l0 k l1 (l1.length : Int) 0 a0_0 a0_1 l0_2
theorem spec_saTurn.mono_l : ∀ k, (∀ y0 y1 y2 y3 y4 y5, LeO (spec_saTurn.l0 k y0 y1 y2 y3 y4 y5) (spec_saTurn.l0 (k + 1) y0 y1 y2 y3 y4 y5))
 | 0 => fun _ _ _ _ _ _ r h => by simp [spec_saTurn.l0] at h
 | k + 1 => by
  have ih0 := spec_saTurn.mono_l k
  intros
  first | unfold spec_saTurn.l0
  exact LM1 ih0
theorem spec_saTurn.mono : ∀ a0 a1 a2 a3 k, LeO (spec_saTurn.f k a0 a1 a2 a3) (spec_saTurn.f (k + 1) a0 a1 a2 a3) := by
 intro a0 a1 a2 a3 k
 have ih0 := spec_saTurn.mono_l k
 unfold spec_saTurn.f
 exact LM1 ih0
def spec_saTurn.T4 : Bool × List (List Nat × List Nat) := (true, [([], []), ([0], [0]), ([], []), ([], []), ([3], [3]), ([], []), ([4, 5], [4, 5]), ([6], [6]), ([7], [7]), ([1, 2, 0, 1, 2, 3, 4, 5, 6, 7, 8], [1, 2]), ([9, 8, 8, 0, 1, 2, 3, 4, 5, 6, 7, 8], [8, 9])])
def spec_saTurn.B4 : List Nat := [0, 1, 0, 0, 8, 0, 56, 120, 248, 511, 1023]
theorem spec_saTurn.tab4 : rtab .any (opsOf Try.f98 4) = spec_saTurn.T4 := by kernel_rfl
theorem spec_saTurn.bits4 : waitsOk spec_saTurn.T4.2 spec_saTurn.B4 = true := by kernel_rfl
theorem spec_saTurn.calls (k : Nat) (a0_0 : Int) (a0_1 : Int) (P0_2_ : Nat -> Prop) (u9000_ : Value) (l0_2 : List (S83)) (A1 : Option Addr) (c1 : Nat) (l1 : List Int) (r : List (S83)) (w0 w : World) (hB : Below w0.heap.size w0 w) (ho0_2 : Kd.R k83 83 w w0.heap.size P0_2_ u9000_ l0_2) (hr1 : ∀ W_, Kept w W_ (fun k_ => P0_2_ k_) -> Kd.C (Kd.int .i64) W_ A1 l1.length l1) (hc1 : l1.length <= c1) (h : spec_saTurn.f k a0_0 a0_1 l0_2 l1 = some r) :
 Calls Try.prog 98 #[.agg #[.int .i64 a0_0, .int .i64 a0_1, u9000_], .slice A1 l1.length c1] w fun e w' => e = .returned (.tuple #[]) /\ Kd.R k83 83 w' w0.heap.size (fun k_ => (P0_2_ k_ ∨ w.heap.size <= k_)) u9000_ r /\ Below w0.heap.size w0 w' /\ Kept w w' (fun k_ => P0_2_ k_) := by
 have hu30 := Try.underlying30
 have hu83 := Try.underlying83
 have HO0_2 := Aside0.mk (show Kd.R k83 83 w w0.heap.size (fun k_ => (P0_2_ k_ ∨ w.heap.size <= k_)) u9000_ l0_2 from R_mono ho0_2 (fun k_ hk => (.inl hk)))
 have HR1 := Aside0.mk hr1
 have HC1 := Aside0.mk hc1
 clear hr1 hc1
 have HK := Aside0.mk (Kept.refl w (fun k_ => P0_2_ k_))
 have HW0 := Aside0.mk hB.size
 have HB := Aside0.mk hB
 clear hB
 have H := h
 clear h
 unfold spec_saTurn.f at H
 have H' := Aside0.mk H
 clear H
 obtain ⟨Ao3, co3, eo3⟩ := R_slice HO0_2.1
 subst eo3
 go_enter Try.func98, Try.ntmps98
 go_wp2_with (first | ((with_reducible refine gate_dst (N := 2) rfl ?_); refine boxE (cs := #[.int .i64 a0_0, .int .i64 a0_1, .slice Ao3 l0_2.length co3]) (t := 30) ?_; intro gb280 hg w4 hbox hb; refine E6 (rB HO0_2.1 hb) (Kept.below (S := (fun k_ => P0_2_ k_)) (KL HK.1) hb) (bS HB.1 hb) (hbox) ((by rw [hg]; exact (by first | exact HK.1.1 | exact (show Kept w _ (fun k_ => P0_2_ k_) from KL HK.1).1) : w.heap.size <= gb280)) (gwM hg (bZ HB.1) : w0.heap.size <= gb280) ?_; clear HO0_2 HK HB; intro HO0_2 HK HB BK280 GW280 GE280; clear hb hbox hg))
 go_loopg [8] k (fun kq v8 w' => ∃ (x8_1 : Int) (x281002_1 : List (S83)), v8 = .int .i64 x8_1 /\ Aside0 (spec_saTurn.l0 kq l1 (l1.length : Int) x8_1 a0_0 a0_1 x281002_1 = some r) /\ Aside0 (kq <= k) /\ Aside0 (Kd.R k83 83 w' w0.heap.size (fun k_ => (P0_2_ k_ ∨ w.heap.size <= k_)) (.slice Ao3 l0_2.length co3) x281002_1) /\ Aside0 (w'.heap[gb280]? = some (.cells #[.int .i64 a0_0, .int .i64 a0_1, (.slice Ao3 l0_2.length co3)] 30 (0, 0))) /\ Aside0 (Kept w w' (fun k_ => P0_2_ k_)) /\ Aside0 (Below w0.heap.size w0 w'))
 case atStart => exact ⟨(0), (l0_2), RG, H', ⟨Nat.le_refl _⟩, ⟨PR HO0_2.1⟩, ⟨PB BK280.1⟩, ⟨KL HK.1⟩, ⟨BL HB.1⟩⟩
 clear H'
 try clear c1
 obtain ⟨x8_1, x281002_1, rfl, HA, HK1, HO_281002, BK280, HK, HB⟩ := hrel
 have hl281002_1 := (R_reads' HO_281002.1).1
 rw [hl281002_1] at HO_281002
 (try simp only [hl281002_1])
 (try simp only [hl281002_1] at BK280)
 cases gk with
 | zero => exact absurd HA.1 (by simp [spec_saTurn.l0])
 | succ k1 => ?_
 have H := HA.1
 clear HA
 simp only [spec_saTurn.l0] at H
 replace H := ifB H; rcases H with ⟨c5b0, H⟩ | ⟨c5b0, H⟩
 · replace H := ifN H; obtain ⟨c6b0, H⟩ := H
   replace H := ifN H; obtain ⟨c7b0, H⟩ := H
   replace H := ifN H; obtain ⟨c8b0, H⟩ := H
   replace H := ifN H; obtain ⟨c9b0, H⟩ := H
   replace H := bindA H; obtain ⟨⟨t283, t284⟩, A10, H⟩ := H
   dsimp only at H
   generalize hy285 : ((x281002_1.set ((rd l1 x8_1) : Int).toNat (⟨t283, t284⟩ : S83)) : List (S83)) = y285 at H
   have Ny285 := Aside0.mk hy285.symm; clear hy285
   have H' := Aside0.mk H
   clear H
   have p281 : 0 <= (x8_1 : Int) := OD
   have q281 : x8_1 < (l1.length : Int) := OD
   obtain ⟨ad281, e281, hx281_0⟩ := Kd.at_int (C_kept_now HR1.1 HK.1) x8_1 p281 q281
   cases e281
   replace p281 := eq_true p281
   replace q281 := eq_true q281
   try go_wp2
   refine E4 (R_drew HO_281002.1) (blk_drew BK280.1) (Kept.drew HK.1) (below_drew1 HB.1) ?_
   clear HO_281002 BK280 HK HB
   intro HO_281002 BK280 HK HB
   have p282 : 0 <= ((rd l1 x8_1) : Int) := OD
   have q282 : (rd l1 x8_1) < (x281002_1.length : Int) := OD
   obtain ⟨ad282, e282, hx282_0, hx282_1⟩ := at_T83 (R_reads' HO_281002.1).2.2 (rd l1 x8_1) p282 q282
   cases e282
   replace p282 := eq_true p282
   replace q282 := eq_true q282
   refine start_ (n := 11) (S := fun w' => w'.cell? ⟨gb280, 0, none⟩ = some (.int .i64 a0_0) /\ w'.cell? ⟨gb280, 1, none⟩ = some (.int .i64 a0_1) /\ w'.cell? ⟨gb280, 2, none⟩ = some (.slice (some ad282) x281002_1.length co3) /\ w'.cell? (ad282.add (((rd l1 x8_1)).toNat * 2)) = some (.int .i64 ((rd_T83 x281002_1 (rd l1 x8_1)).f0)) /\ w'.cell? ⟨(ad282.add (((rd l1 x8_1)).toNat * 2)).block, (ad282.add (((rd l1 x8_1)).toNat * 2)).off + 1, none⟩ = some (.int .i64 ((rd_T83 x281002_1 (rd l1 x8_1)).f1))) (ds := [10]) #[Zz,Zz,Zz,Zz,Zz,Zz,Zz,Zz,Zz,Zz,Zz] (by kernel_rfl) rfl rfl ⟨(blk_cell BK280.1 0).trans rfl, (blk_cell BK280.1 1).trans rfl, (blk_cell BK280.1 2).trans rfl, hx282_0, hx282_1⟩ (fun hHeld => ?_); refine with_tabW spec_saTurn.tab4 spec_saTurn.bits4 (fun HT_ HW_ => ?_)
   generalize wr.drew = w12 at HO_281002 BK280 HK HB hx282_0 hx282_1 hHeld ⊢
   refine pureF 0 (N := some 12) HT_.1 ?_
   refine pureF 2 (N := some 14) HT_.1 ?_
   refine pureF 3 (N := some 15) HT_.1 ?_
   refine pureF 5 (N := some 17) HT_.1 ?_
   refine takeE 1 (N := some 13) HT_.1 HW_.1 hHeld ?_
   refine takeE 4 (N := some 16) HT_.1 HW_.1 hHeld ?_
   refine pureF 6 (N := some 18) HT_.1 ?_
   refine takeE 7 (N := some 19) HT_.1 HW_.1 hHeld ?_
   refine one_ (i := 8) (N := some 20) #[Yy,Yy,Yy,Yy,Yy,Yy,Yy,Yy,Yy,Zz,Zz] rfl rfl (one_of HT_.1 (by kernel_rfl)) (by decide) (fun K hK => ?_)
   refine goes_ Try.func101 (by kernel_rfl) rfl #[.agg #[.int .i64 ((rd_T83 x281002_1 (rd l1 x8_1)).f0), .int .i64 ((rd_T83 x281002_1 (rd l1 x8_1)).f1)]] (by rfl) rfl rfl (by (try simp only [List.map_toArray, List.map_cons, List.map_nil]); first | done | rfl | (simp only [List.length_drop, List.length_take]; rfl)) ?_
   with_reducible refine (spec_paTurn.calls ((rd_T83 x281002_1 (rd l1 x8_1)).f0) ((rd_T83 x281002_1 (rd l1 x8_1)).f1) t283 t284 _ A10.1).mono ?_
   rintro e w13 ⟨rfl, hb⟩
   have HS3_ := (hb.cell (World.block_lt_of_cell? _ _ (hHeld.2.2.2.1))).trans (hHeld.2.2.2.1)
   have HS4_ := (hb.cell (World.block_lt_of_cell? _ _ (hHeld.2.2.2.2))).trans (hHeld.2.2.2.2)
   refine ⟨_, rfl, ?_⟩
   refine E4 (rB HO_281002.1 hb) (bB BK280.1 hb) (Kept.below (S := (fun k_ => P0_2_ k_)) (KL HK.1) hb) (bS HB.1 hb) ?_
   clear HO_281002 BK280 HK HB
   intro HO_281002 BK280 HK HB
   (try clear hb)
   (try clear hb2)
   (try clear hk)
   (try clear hi)
   have p11 : 0 <= ((rd l1 x8_1) : Int) := OD
   have q11 : ((rd l1 x8_1) : Int) < ((x281002_1.length : Int) : Int) := OD
   obtain ⟨go11, co11, eo11, gb11, gl11, cl11, HG11⟩ := R_form HO_281002.1 (by omega)
   (first | cases eo11 | (injection eo11 with ea_ en_ ec_; (first | subst ea_ | (injection ea_ with ea_; subst ea_)); subst ec_; clear en_))
   have GB11 := Aside0.mk gb11
   have GG11 := Aside0.mk HG11
   clear gb11 gl11 HG11
   have HMgo11 := Aside0.mk (show (P0_2_ go11 ∨ w.heap.size <= go11) from (HO_281002.1.1 _ rfl))
   (first | simp only [add_plain] at hx282_0 | skip)
   (first | simp only [add_plain] at hx282_1 | skip)
   obtain ⟨ce11, hcl11, hM11, hcc11, hfr11⟩ := R_elem HO_281002.1 z83 ((rd l1 x8_1) : Int) p11 q11
   obtain rfl := k83_openM hM11
   have hx11_0 : World.cell? _ ⟨go11, ((rd l1 x8_1) : Int).toNat * 2, none⟩ = some (.int .i64 ((rd_T83 x281002_1 (rd l1 x8_1)).f0)) := hcc11 0 _ rfl
   have hx11_1 : World.cell? _ ⟨go11, ((rd l1 x8_1) : Int).toNat * 2 + 1, none⟩ = some (.int .i64 ((rd_T83 x281002_1 (rd l1 x8_1)).f1)) := hcc11 1 _ rfl
   have hf11_0 : World.frozen? _ ⟨go11, ((rd l1 x8_1) : Int).toNat * 2, none⟩ = false := hfr11 0
   have hf11_1 : World.frozen? _ ⟨go11, ((rd l1 x8_1) : Int).toNat * 2 + 1, none⟩ = false := hfr11 1
   (try clear hM11); clear hcl11 hcc11 hfr11
   replace p11 := eq_true p11
   replace q11 := eq_true q11
   obtain ⟨ce14, hcl14, hM14, hcc14, hfr14⟩ := R_elem HO_281002.1 z83 ((rd l1 x8_1) : Int) (OD) (by have h_ : ((rd l1 x8_1) : Int) < ((x281002_1.length : Int) : Int) := OD; first | exact h_ | (have e_ := (R_reads' HO_281002.1).1; omega) | simpa using h_)
   obtain rfl := k83_openM hM14
   have HP14 := (R_seg HO_281002.1 ((rd l1 x8_1) : Int) (OD) (by have h_ : ((rd l1 x8_1) : Int) < ((x281002_1.length : Int) : Int) := OD; first | exact h_ | (have e_ := (R_reads' HO_281002.1).1; omega) | simpa using h_) (seg := [.int .i64 t283, .int .i64 t284]) (j := 0) hcl14 hcc14 (show 2 <= 2 from by decide) (x' := (⟨t283, t284⟩ : S83)) (k83_mkM _ _ _ (⟨t283, t284⟩ : S83) ) (fun _ hk => hk)).1
   rw [<- Ny285.1] at HP14
   have HQ14 := Aside0.mk HP14
   (try clear hM14); clear hcl14 hcc14 hfr14 HP14
   refine hK.out _ _ ⟨(blk_cell BK280.1 0).trans rfl, (blk_cell BK280.1 1).trans rfl, (blk_cell BK280.1 2).trans rfl, HS3_, HS4_⟩ (fun hHeld => ?_)
   clear hK K
   refine norm_ (a' := ?_) ?_ ?_
   rotate_left
   · show Act.put _ (some 20) _ = _
     simp only [Act.put, List.setIfInBounds_toArray, List.set_cons_zero, List.set_cons_succ, i64_w, i32_w]
     rfl
   refine pureF 9 (N := some 21) HT_.1 ?_
   refine last_ (i := 10) (N := none) #[Yy,Yy,Yy,Yy,Yy,Yy,Yy,Yy,Yy,Yy,Yy] rfl rfl (one_of HT_.1 (by kernel_rfl)) (by decide) (fun K hK => ?_)
   refine skip_ (w1 := ?_) (by rfl) rfl ?_ ?_
   rotate_left
   · go_simp
     rfl
   refine hK.out _ _ ?_
   clear hK K
   refine done_ (done_of HT_.1 (by kernel_rfl)) ?_
   try go_wp2
   (try simp only [<- hl281002_1])
   go_roundg k1
   case measure => have := HK1.1; omega
   case rel => exact ⟨(wrap64 (x8_1 + 1)), (y285), RG, H', ⟨by have := HK1.1; omega⟩, ⟨PR1 HQ14.1 hl281002_1⟩, ⟨by (try simp only [hl281002_1]); (with_reducible repeat (first | refine blk_drewN ?_ _ | refine blk_drew ?_ | refine blk_alloc ?_ _)); refine blk_far ?_ (by have h_ := R_ne HO_281002.1 BK280.1 (by decide); intro e_; exact h_ (by rw [e_]; rfl)) _; (with_reducible repeat (first | refine blk_drewN ?_ _ | refine blk_drew ?_ | refine blk_alloc ?_ _)); refine blk_far ?_ (by have h_ := R_ne HO_281002.1 BK280.1 (by decide); intro e_; exact h_ (by rw [e_]; rfl)) _; (with_reducible repeat (first | refine blk_drewN ?_ _ | refine blk_drew ?_ | refine blk_alloc ?_ _)); exact BK280.1⟩, ⟨by repeat (first | (with_reducible first | exact HK.1 | apply Kept.alloc | apply Kept.drewN | apply Kept.drew | refine Kept.setCell ?_ HMgo11.1 _ | refine Kept.setCell ?_ HMgo11.1 _ | refine Kept.setCell ?_ (.inr GW280.1) _) | exact HK.1)⟩, ⟨BL HB.1⟩⟩
 obtain rfl := Option.some.inj H
 go_wp2
 first | go_end0 | ((try simp only [Exit.inBlock, Exit.then]); refine bodyPost_ret (results_none rfl _ _ _) rfl ?_)
 exact ⟨RF, (by first | exact (PR HO_281002.1) | (simp only [hl281002_1]; exact (PR HO_281002.1))), BL HB.1, KL HK.1⟩
end Go.Proofs.Ytbpfdbjnnlmdjaa.P
