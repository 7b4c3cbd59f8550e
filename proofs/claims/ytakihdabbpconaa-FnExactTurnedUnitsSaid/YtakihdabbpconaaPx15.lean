-- PRINTED by print.py (a twelfth state) out of the translation. Not trusted: Lean checks it.
import Derived.Test.YtakihdabbpconaaPx0
import Derived.Test.YtakihdabbpconaaPx1
import Derived.Test.YtakihdabbpconaaPx4
import Derived.Test.YtakihdabbpconaaPx7
import Derived.Test.YtakihdabbpconaaPx14
namespace Go.Proofs.Ytakihdabbpconaa.P
open Go.RowKit Go.Proofs.YtakihdabbpconaaW.PrintWords Go.Proofs.YtakihdabbpconaaW.PrintLast Go.Proofs.YtakihdabbpconaaW.PrintMore
attribute [local go_sem] max2_int min2_int max_two min_two max_three min_three max_four min_four   -- for this text's walks alone
set_option linter.unusedVariables false
set_option linter.unusedSimpArgs false

attribute [local go_sem high] eqA73
/-! ### impl_turnedUnits: function 67 -/
mutual
def impl_turnedUnits.l0 : Nat → List Int → List (List Int) → Int → Int → Int → Int → List (S73) → Int → Int → List (S73) → Int → Int → List (S73) → Option (List Int × Bool)
  | 0, _, _, _, _, _, _, _, _, _, _, _, _, _ => none
  | k + 1, x6, x16, x17, x18, x643000, x643001, x643002, x644000, x644001, x644002, x653000, x653001, x653002 => if x18 < x17 then (if 0 ≤ x18 then (if x18 < (x16.length : Int) then (if 0 < ((rd_L3 x16 x18).length : Int) then (if 0 ≤ (rd (rd_L3 x16 x18) 0) then (if (rd (rd_L3 x16 x18) 0) < (x643002.length : Int) then (if (rd (rd_L3 x16 x18) 0) < (x644002.length : Int) then (if (((rd_T73 x643002 (rd (rd_L3 x16 x18) 0)).f0) == ((rd_T73 x644002 (rd (rd_L3 x16 x18) 0)).f0) && (((rd_T73 x643002 (rd (rd_L3 x16 x18) 0)).f1) == ((rd_T73 x644002 (rd (rd_L3 x16 x18) 0)).f1))) = true then (impl_turnedUnits.l0 k x6 x16 x17 (wrap64 (x18 + 1)) x643000 x643001 x643002 x644000 x644001 x644002 x653000 x653001 x653002) else (if x6.length < 17592186044416 then (impl_turnedUnits.l1 k (x6 ++ [x18]) x16 x17 x18 (rd_L3 x16 x18) ((rd_L3 x16 x18).length : Int) 0 x643000 x643001 x643002 x644000 x644001 x644002 x653000 x653001 x653002) else (none))) else (none)) else (none)) else (none)) else (none)) else (none)) else (none)) else ((impl_sameBoard.f k x653000 x653001 x653002 x644000 x644001 x644002).bind fun t656 => (if t656 = true then (some (x6, true)) else (some (([] : List Int), false))))
def impl_turnedUnits.l1 : Nat → List Int → List (List Int) → Int → Int → List Int → Int → Int → Int → Int → List (S73) → Int → Int → List (S73) → Int → Int → List (S73) → Option (List Int × Bool)
  | 0, _, _, _, _, _, _, _, _, _, _, _, _, _, _, _, _ => none
  | k + 1, x6, x16, x17, x18, x42, x43, x44, x643000, x643001, x643002, x644000, x644001, x644002, x653000, x653001, x653002 => if x44 < x43 then (if 0 ≤ x44 then (if x44 < (x42.length : Int) then (if 0 ≤ (rd x42 x44) then (if (rd x42 x44) < (x653002.length : Int) then (impl_turnedUnits.l1 k x6 x16 x17 x18 x42 x43 (wrap64 (x44 + 1)) x643000 x643001 x643002 x644000 x644001 x644002 x653000 x653001 (x653002.set ((rd x42 x44) : Int).toNat (⟨(rd_T73 x653002 (rd x42 x44)).f0, wrap64 (1 - ((rd_T73 x653002 (rd x42 x44)).f1))⟩ : S73))) else (none)) else (none)) else (none)) else (none)) else (impl_turnedUnits.l0 k x6 x16 x17 (wrap64 (x18 + 1)) x643000 x643001 x643002 x644000 x644001 x644002 x653000 x653001 x653002)
end
def impl_turnedUnits.f (k : Nat) (a0_0 : Int) (a0_1 : Int) (l0_2 : List (S73)) (a1_0 : Int) (a1_1 : Int) (l1_2 : List (S73)) : Option (List Int × Bool) := (impl_copyBoard.f a0_0 a0_1 l0_2).bind fun bt647 => ((impl_unitsOf.f k a0_0 a0_1 l0_2).bind fun t653 => (impl_turnedUnits.l0 k (([] : List Int)) t653 (t653.length : Int) 0 a0_0 a0_1 l0_2 a1_0 a1_1 l1_2 bt647.1 bt647.2.1 bt647.2.2))
theorem impl_turnedUnits.mono_l : ∀ k, (∀ y0 y1 y2 y3 y4 y5 y6 y7 y8 y9 y10 y11 y12, LeO (impl_turnedUnits.l0 k y0 y1 y2 y3 y4 y5 y6 y7 y8 y9 y10 y11 y12) (impl_turnedUnits.l0 (k + 1) y0 y1 y2 y3 y4 y5 y6 y7 y8 y9 y10 y11 y12)) ∧ (∀ y0 y1 y2 y3 y4 y5 y6 y7 y8 y9 y10 y11 y12 y13 y14 y15, LeO (impl_turnedUnits.l1 k y0 y1 y2 y3 y4 y5 y6 y7 y8 y9 y10 y11 y12 y13 y14 y15) (impl_turnedUnits.l1 (k + 1) y0 y1 y2 y3 y4 y5 y6 y7 y8 y9 y10 y11 y12 y13 y14 y15))
  | 0 => by refine ⟨?_, ?_⟩ <;> (intros; intro r h; first | (simp [impl_turnedUnits.l0] at h; done) | (simp [impl_turnedUnits.l1] at h; done))
  | k + 1 => by
    obtain ⟨ih0, ih1⟩ := impl_turnedUnits.mono_l k
    refine ⟨?_, ?_⟩ <;> (
      intros
      first | unfold impl_turnedUnits.l0 | unfold impl_turnedUnits.l1
      repeat' first | (with_reducible first | apply ih0 | apply ih1 | apply impl_sameBoard.mono | apply impl_unitsOf.mono | exact LeO.refl _ | exact LeO.none _ | refine LeO.ite ?_ ?_ | refine LeO.bind ?_ (fun _ => ?_)) | apply ih0 | apply ih1 | apply impl_sameBoard.mono | apply impl_unitsOf.mono | exact LeO.none _ | refine LeO.ite ?_ ?_ | refine LeO.bind ?_ (fun _ => ?_))
theorem impl_turnedUnits.mono : ∀ a0 a1 a2 a3 a4 a5 k, LeO (impl_turnedUnits.f k a0 a1 a2 a3 a4 a5) (impl_turnedUnits.f (k + 1) a0 a1 a2 a3 a4 a5) := by
  intro a0 a1 a2 a3 a4 a5 k
  obtain ⟨ih0, ih1⟩ := impl_turnedUnits.mono_l k
  unfold impl_turnedUnits.f
  repeat' first | (with_reducible first | apply ih0 | apply ih1 | apply impl_sameBoard.mono | apply impl_unitsOf.mono | exact LeO.refl _ | exact LeO.none _ | refine LeO.ite ?_ ?_ | refine LeO.bind ?_ (fun _ => ?_)) | apply ih0 | apply ih1 | apply impl_sameBoard.mono | apply impl_unitsOf.mono | exact LeO.none _ | refine LeO.ite ?_ ?_ | refine LeO.bind ?_ (fun _ => ?_)
def impl_turnedUnits.T6 : Bool × List (List Nat × List Nat) := (true, [([], []), ([0], [0]), ([], []), ([2], [2]), ([3], [3]), ([1, 4], [1, 4]), ([5], [5]), ([], []), ([7], [7]), ([], []), ([9], [9]), ([10], [10]), ([8, 11], [8, 11]), ([12], [12]), ([6, 13], [6, 13])])
def impl_turnedUnits.B6 : List Nat := [0, 1, 0, 4, 12, 31, 63, 0, 128, 0, 512, 1536, 3968, 8064, 16383]
theorem impl_turnedUnits.tab6 : rtab .any (opsOf Try.f67 6) = impl_turnedUnits.T6 := by kernel_rfl
theorem impl_turnedUnits.bits6 : waitsOk impl_turnedUnits.T6.2 impl_turnedUnits.B6 = true := by kernel_rfl
def impl_turnedUnits.T11 : Bool × List (List Nat × List Nat) := (true, [([], []), ([0], [0]), ([], []), ([], []), ([3], [3]), ([], []), ([4, 5], [4, 5]), ([6], [6]), ([7], [7]), ([8], [8]), ([1, 2, 0, 1, 2, 3, 4, 5, 6, 7, 8, 9], [1, 2]), ([10, 0, 1, 2, 3, 4, 5, 6, 7, 8, 9], [10]), ([11, 9, 0, 1, 2, 3, 4, 5, 6, 7, 8, 9], [9, 11])])
def impl_turnedUnits.B11 : List Nat := [0, 1, 0, 0, 8, 0, 56, 120, 248, 504, 1023, 2047, 4095]
theorem impl_turnedUnits.tab11 : rtab .any (opsOf Try.f67 11) = impl_turnedUnits.T11 := by kernel_rfl
theorem impl_turnedUnits.bits11 : waitsOk impl_turnedUnits.T11.2 impl_turnedUnits.B11 = true := by kernel_rfl
set_option maxHeartbeats 8000000 in
set_option maxRecDepth 100000 in
theorem impl_turnedUnits.calls (k : Nat) (a0_0 : Int) (a0_1 : Int) (A0_2 : Option Addr) (c0_2 : Nat) (l0_2 : List (S73)) (a1_0 : Int) (a1_1 : Int) (A1_2 : Option Addr) (c1_2 : Nat) (l1_2 : List (S73)) (r1 : List Int) (r2 : Bool) (w : World) (hr0_2 : Kd.C k73 w A0_2 l0_2.length l0_2) (hc0_2 : l0_2.length ≤ c0_2) (hr1_2 : Kd.C k73 w A1_2 l1_2.length l1_2) (hc1_2 : l1_2.length ≤ c1_2) (h : impl_turnedUnits.f k a0_0 a0_1 l0_2 a1_0 a1_1 l1_2 = some (r1, r2)) :
    Calls Try.prog 67 #[.agg #[.int .i64 a0_0, .int .i64 a0_1, .slice A0_2 l0_2.length c0_2], .agg #[.int .i64 a1_0, .int .i64 a1_1, .slice A1_2 l1_2.length c1_2]] w fun e w' => ∃ v0_ : Value, e = .returned (.tuple #[v0_, .bool r2]) ∧ Kd.R (Kd.int .i64) 3 w' w.heap.size (fun _ => True) v0_ r1 ∧ Below w.heap.size w w' := by
  have hu30 := Try.underlying30
  have hu73 := Try.underlying73
  have HR0_2 := Aside0.mk hr0_2
  have HC0_2 := Aside0.mk hc0_2
  clear hr0_2 hc0_2
  have HR1_2 := Aside0.mk hr1_2
  have HC1_2 := Aside0.mk hc1_2
  clear hr1_2 hc1_2
  have HB := Aside0.mk (Below.refl w.heap.size w)
  have H := h
  clear h
  unfold impl_turnedUnits.f at H
  generalize hy644 : ((([] : List Int)) : List Int) = y644 at H
  have Ny644 := Aside0.mk hy644.symm; clear hy644
  replace H := bindA H; obtain ⟨⟨t647, t648, t649⟩, A3, H⟩ := H
  dsimp only at H
  replace H := bindA H; obtain ⟨t653, A4, H⟩ := H
  have H' := Aside0.mk H
  clear H
  go_enter Try.func67, Try.ntmps67
  go_wp2_with (first | ((with_reducible refine gate_dst (N := 2) rfl ?_); refine boxE (N := 2) (cs := #[.int .i64 a0_0, .int .i64 a0_1, .slice A0_2 l0_2.length c0_2]) (t := 30) ?_; intro gb642 hg w5 hbox hb; refine E4b HB.out hg hbox hb ?_; clear HB; intro HB BK642 GW642 GE642; clear hb hbox hg) | ((with_reducible refine gate_dst (N := 3) rfl ?_); refine boxE (N := 3) (cs := #[.int .i64 a1_0, .int .i64 a1_1, .slice A1_2 l1_2.length c1_2]) (t := 30) ?_; intro gb643 hg w6 hbox hb; refine E7 (bB BK642.out hb) (below_step (BL HB.out) hb) (hbox) (gwM hg (below_size (BL HB.out)) : w.heap.size ≤ gb643) (gwM hg (below_size (BL HB.out)) : w.heap.size ≤ gb643) ((nB BK642.out hg : gb642 ≠ gb643)) ((nC BK642.out hg : gb643 ≠ gb642)) ?_; clear BK642 HB; intro BK642 HB BK643 GW643 GE643 NB642_643 NB643_642; clear hb hbox hg) | ((with_reducible refine gate_dst (N := 12) rfl ?_); refine Kd.R_lit (Kd.int .i64) _ 3 ?hg (N := 12) ?hd (xs := ([] : List Int)) (inner := []) (ok := fun _ => True) (okp := fun _ => True) ?hr ?hp (fun _ hk => hk) trivial (Below.refl _ _) (Nat.le_refl _) (by simp) ?_; (case hd => rfl); (case hg => rfl); (case hr => first | (go_simp; done) | (go_simp; rfl)); (case hp => exact (Reps.none _ _)); intro v645 w7 ho8 hb hg_ hnew_; clear hg_ hnew_; (first | rw [← Ny644.out] at ho8 | (simp only [Int.reduceToNat] at ho8; rw [← Ny644.out] at ho8)); refine E4 (Kd.R_lower ho8 (below_size (BL HB.out))) (bB BK642.out hb) (bB BK643.out hb) (below_step (BL HB.out) hb) ?_; clear BK642 BK643 HB; intro HO646 BK642 BK643 HB; clear hb ho8; have hnb9 := NB642_643.out; have hnc9 := NB643_642.out; obtain ⟨hcz10_0, hcz10_1, hcz10_2, hfz10_0, hfz10_1, hfz10_2⟩ := cz3 BK642.out) | ((with_reducible refine gate_callee (f := 63) rfl ?_); refine goesM (N := (some 14)) #[.agg #[.int .i64 a0_0, .int .i64 a0_1, .slice A0_2 l0_2.length c0_2]] Try.func63 ?_; (with_reducible refine (impl_copyBoard.calls a0_0 a0_1 _ _ l0_2 t647 t648 t649 _ ?side1 ?side2 A3.out).mono ?_); (case side1 => exact CB (Kd.C_below HR0_2.out HB.out)); (case side2 => exact HC0_2.out); rintro e w11 ⟨v650, rfl, ho0, hb⟩; refine ⟨_, rfl, ?_⟩; refine E5 (Kd.R_below (PR HO646.out) hb) (Kd.R_lower ho0 (below_size (BL HB.out))) (bB BK642.out hb) (bB BK643.out hb) (below_step (BL HB.out) hb) ?_; clear HO646 BK642 BK643 HB; intro HO646 HO651 BK642 BK643 HB; (try clear hb); (try clear hb2); (try clear hk); (try clear hi); (try clear ho0)) | ((with_reducible refine gate_dst (N := 7) rfl ?_); refine boxE (N := 7) (cs := #[.int .i64 0, .int .i64 0, .slice none 0 0]) (t := 30) ?_; intro gb652 hg w12 hbox hb; refine E12 (Kd.R_below (PR HO646.out) hb) (Kd.R_below (PR HO651.out) hb) (bB BK642.out hb) (bB BK643.out hb) (below_step (BL HB.out) hb) (hbox) (gwM hg (below_size (BL HB.out)) : w.heap.size ≤ gb652) (gwM hg (below_size (BL HB.out)) : w.heap.size ≤ gb652) ((nB BK642.out hg : gb642 ≠ gb652)) ((nC BK642.out hg : gb652 ≠ gb642)) ((nB BK643.out hg : gb643 ≠ gb652)) ((nC BK643.out hg : gb652 ≠ gb643)) ?_; clear HO646 HO651 BK642 BK643 HB; intro HO646 HO651 BK642 BK643 HB BK652 GW652 GE652 NB642_652 NB652_642 NB643_652 NB652_643; clear hb hbox hg; have hnb13 := NB652_642.out; have hnc13 := NB642_652.out; have hnb14 := NB652_643.out; have hnc14 := NB643_652.out; obtain ⟨hcz15_0, hcz15_1, hcz15_2, hfz15_0, hfz15_1, hfz15_2⟩ := cz3 BK652.out; obtain ⟨Ao16, co16, eo16⟩ := Kd.R_slice HO651.out; subst eo16; obtain ⟨hcz17_0, hcz17_1, hcz17_2, hfz17_0, hfz17_1, hfz17_2⟩ := cz3 BK642.out) | ((with_reducible refine gate_callee (f := 62) rfl ?_); refine goesM (N := (some 16)) #[.agg #[.int .i64 a0_0, .int .i64 a0_1, .slice A0_2 l0_2.length c0_2]] Try.func62 ?_; (with_reducible refine (impl_unitsOf.calls k a0_0 a0_1 _ _ l0_2 t653 _ ?side1 ?side2 A4.out).mono ?_); (case side1 => exact Kd.C_below HR0_2.out (BL HB.out)); (case side2 => exact HC0_2.out); rintro e w18 ⟨v654, rfl, ho0, hb⟩; refine ⟨_, rfl, ?_⟩; refine E7 (Kd.R_below (by (with_reducible repeat (first | apply Kd.R_alloc | apply Kd.R_drewN | apply Kd.R_drew)); exact (Kd.R_mono (Kd.R_far (p := ⟨gb652, 2, none⟩) (Kd.R_far (p := ⟨gb652, 1, none⟩) (Kd.R_far (p := ⟨gb652, 0, none⟩) (Kd.R_types HO646.out BK652.out (by decide)) (fun _ hk => hk.2) (.int .i64 t647)) (fun _ hk => hk.2) (.int .i64 t648)) (fun _ hk => hk.2) (.slice Ao16 t649.length co16)) (fun _ h_ => h_.1))) hb) (Kd.R_below (by (with_reducible repeat (first | apply Kd.R_alloc | apply Kd.R_drewN | apply Kd.R_drew)); exact (Kd.R_mono (Kd.R_far (p := ⟨gb652, 2, none⟩) (Kd.R_far (p := ⟨gb652, 1, none⟩) (Kd.R_far (p := ⟨gb652, 0, none⟩) (Kd.R_types HO651.out BK652.out (by decide)) (fun _ hk => hk.2) (.int .i64 t647)) (fun _ hk => hk.2) (.int .i64 t648)) (fun _ hk => hk.2) (.slice Ao16 t649.length co16)) (fun _ h_ => h_.1))) hb) (Kd.S_lower (Kd.S_new' ho0 (Kd.R_lt (by (with_reducible repeat (first | apply Kd.R_alloc | apply Kd.R_drewN | apply Kd.R_drew)); exact (Kd.R_mono (Kd.R_far (p := ⟨gb652, 2, none⟩) (Kd.R_far (p := ⟨gb652, 1, none⟩) (Kd.R_far (p := ⟨gb652, 0, none⟩) (Kd.R_types HO646.out BK652.out (by decide)) (fun _ hk => hk.2) (.int .i64 t647)) (fun _ hk => hk.2) (.int .i64 t648)) (fun _ hk => hk.2) (.slice Ao16 t649.length co16)) (fun _ h_ => h_.1))))) (below_size (BL HB.out))) (blk_below (g := gb642) (o := .cells #[.int .i64 a0_0, .int .i64 a0_1, .slice A0_2 l0_2.length c0_2] 30 (0, 0)) (by (with_reducible repeat (first | refine blk_drewN ?_ _ | refine blk_drew ?_ | refine blk_alloc ?_ _)); refine blk_far ?_ NB642_652.out _; (with_reducible repeat (first | refine blk_drewN ?_ _ | refine blk_drew ?_ | refine blk_alloc ?_ _)); refine blk_far ?_ NB642_652.out _; (with_reducible repeat (first | refine blk_drewN ?_ _ | refine blk_drew ?_ | refine blk_alloc ?_ _)); refine blk_far ?_ NB642_652.out _; (with_reducible repeat (first | refine blk_drewN ?_ _ | refine blk_drew ?_ | refine blk_alloc ?_ _)); exact BK642.out) hb) (blk_below (g := gb643) (o := .cells #[.int .i64 a1_0, .int .i64 a1_1, .slice A1_2 l1_2.length c1_2] 30 (0, 0)) (by (with_reducible repeat (first | refine blk_drewN ?_ _ | refine blk_drew ?_ | refine blk_alloc ?_ _)); refine blk_far ?_ NB643_652.out _; (with_reducible repeat (first | refine blk_drewN ?_ _ | refine blk_drew ?_ | refine blk_alloc ?_ _)); refine blk_far ?_ NB643_652.out _; (with_reducible repeat (first | refine blk_drewN ?_ _ | refine blk_drew ?_ | refine blk_alloc ?_ _)); refine blk_far ?_ NB643_652.out _; (with_reducible repeat (first | refine blk_drewN ?_ _ | refine blk_drew ?_ | refine blk_alloc ?_ _)); exact BK643.out) hb) (blk_below (g := gb652) (o := .cells #[.int .i64 t647, .int .i64 t648, .slice Ao16 t649.length co16] 30 (0, 0)) (by (with_reducible repeat (first | refine blk_drewN ?_ _ | refine blk_drew ?_ | refine blk_alloc ?_ _)); refine blk_put (cs := #[.int .i64 t647, .int .i64 t648, .slice none 0 0]) ?_ 2 _ rfl; (with_reducible repeat (first | refine blk_drewN ?_ _ | refine blk_drew ?_ | refine blk_alloc ?_ _)); refine blk_put (cs := #[.int .i64 t647, .int .i64 0, .slice none 0 0]) ?_ 1 _ rfl; (with_reducible repeat (first | refine blk_drewN ?_ _ | refine blk_drew ?_ | refine blk_alloc ?_ _)); refine blk_put (cs := #[.int .i64 0, .int .i64 0, .slice none 0 0]) ?_ 0 _ rfl; (with_reducible repeat (first | refine blk_drewN ?_ _ | refine blk_drew ?_ | refine blk_alloc ?_ _)); exact BK652.out) hb) (below_step (BL HB.out) hb) ?_; clear HO646 HO651 BK642 BK643 BK652 HB; intro HO646 HO651 HO655 BK642 BK643 BK652 HB; (try clear hb); (try clear hb2); (try clear hk); (try clear hi); (try clear ho0); obtain ⟨Ao19, co19, eo19⟩ := Kd.S_slice HO655.out; subst eo19))
  go_loopg [6, 18] k (fun kq v6 v18 w' => ∃ (x6_1 : List Int) (x18_1 : Int) (x653002_1 : List (S73)) (u653002 : Value), v18 = .int .i64 x18_1 ∧ Aside0 (impl_turnedUnits.l0 kq x6_1 t653 (t653.length : Int) x18_1 a0_0 a0_1 l0_2 a1_0 a1_1 l1_2 t647 t648 x653002_1 = some (r1, r2)) ∧ Aside0 (kq ≤ k) ∧ Aside0 (Kd.R (Kd.int .i64) 3 w' w.heap.size (fun _ => True) v6 x6_1) ∧ Aside0 (Kd.S (Kd.slice 3 (Kd.int .i64)) 36 w' w.heap.size (fun k_ => some k_ ≠ (v6 : Value).ownBlock) (.slice Ao19 t653.length co19) t653) ∧ Aside0 (Kd.R k73 73 w' w.heap.size (fun _ => True) u653002 x653002_1) ∧ Aside0 (w'.heap[gb642]? = some (.cells #[.int .i64 a0_0, .int .i64 a0_1, (.slice A0_2 l0_2.length c0_2)] 30 (0, 0))) ∧ Aside0 (w'.heap[gb643]? = some (.cells #[.int .i64 a1_0, .int .i64 a1_1, (.slice A1_2 l1_2.length c1_2)] 30 (0, 0))) ∧ Aside0 (w'.heap[gb652]? = some (.cells #[.int .i64 t647, .int .i64 t648, u653002] 30 (0, 0))) ∧ Aside0 (Below w.heap.size w w'))
  case atStart => exact ⟨(y644), (0), (t649), (.slice Ao16 t649.length co16), RG, H', ⟨Nat.le_refl _⟩, ⟨PR HO646.out⟩, ⟨by (with_reducible repeat (first | apply Kd.S_alloc | apply Kd.S_drewN | apply Kd.S_drew)); exact Kd.S_mono HO655.out (fun _ hk => hk.2)⟩, ⟨PR HO651.out⟩, ⟨PB BK642.out⟩, ⟨PB BK643.out⟩, ⟨PB BK652.out⟩, ⟨BL HB.out⟩⟩
  clear H'
  try clear hcz10_0; try clear hcz10_1; try clear hcz10_2; try clear hcz15_0; try clear hcz15_1; try clear hcz15_2; try clear hcz17_0; try clear hcz17_1; try clear hcz17_2; try clear hfz10_0; try clear hfz10_1; try clear hfz10_2; try clear hfz15_0; try clear hfz15_1; try clear hfz15_2; try clear hfz17_0; try clear hfz17_1; try clear hfz17_2
  obtain ⟨x6_1, x18_1, x653002_1, u653002, rfl, HA, HK1, HO_6, HO_16, HO_653002, BK642, BK643, BK652, HB⟩ := hrel
  cases gk with
  | zero => exact absurd HA.out (by simp [impl_turnedUnits.l0])
  | succ k1 => ?_
  have H := HA.out
  clear HA
  simp only [impl_turnedUnits.l0] at H
  replace H := ifB H; rcases H with ⟨c20b0, H⟩ | ⟨c20b0, H⟩
  · replace H := ifN H; obtain ⟨c21b0, H⟩ := H
    replace H := ifN H; obtain ⟨c22b0, H⟩ := H
    replace H := ifP H; obtain ⟨c23, H⟩ := H
    have c23b0 := decide_eq_true c23
    have c23b1 : decide (0 < (rd_L3 t653 x18_1).length) = true := decide_eq_true (by omega)
    clear c23
    replace H := ifN H; obtain ⟨c24b0, H⟩ := H
    replace H := ifN H; obtain ⟨c25b0, H⟩ := H
    replace H := ifN H; obtain ⟨c26b0, H⟩ := H
    replace H := ifQ H; rcases H with ⟨c27, H⟩ | ⟨c27, H⟩
    · have c27b0 : (((rd_T73 l0_2 (rd (rd_L3 t653 x18_1) 0)).f0) == ((rd_T73 l1_2 (rd (rd_L3 t653 x18_1) 0)).f0) && (((rd_T73 l0_2 (rd (rd_L3 t653 x18_1) 0)).f1) == ((rd_T73 l1_2 (rd (rd_L3 t653 x18_1) 0)).f1))) = true := c27
      (try (have c27b1 : decide (((rd_T73 l0_2 (rd (rd_L3 t653 x18_1) 0)).f0) = ((rd_T73 l1_2 (rd (rd_L3 t653 x18_1) 0)).f0) && (((rd_T73 l0_2 (rd (rd_L3 t653 x18_1) 0)).f1) == ((rd_T73 l1_2 (rd (rd_L3 t653 x18_1) 0)).f1))) = true := by simpa using c27))
      (try (have c27b2 : (((rd_T73 l0_2 (rd (rd_L3 t653 x18_1) 0)).f0) == ((rd_T73 l1_2 (rd (rd_L3 t653 x18_1) 0)).f0) && (((rd_T73 l0_2 (rd (rd_L3 t653 x18_1) 0)).f1) == ((rd_T73 l1_2 (rd (rd_L3 t653 x18_1) 0)).f1))) = true := by simpa using c27))
      clear c27
      have H' := Aside0.mk H
      clear H
      have p657 : 0 ≤ (x18_1 : Int) := OD
      have q657 : x18_1 < (t653.length : Int) := OD
      obtain ⟨ad657, A657_0, c657_0, e657, hx657_0, hl657_0, hi657_0⟩ := at_L3 (Kd.S_reads' HO_16.out).2.2 x18_1 p657 q657
      cases e657
      obtain ⟨ce657, hce657, hMe657, hcc657⟩ := Kd.S_get HO_16.out [] x18_1 p657 (by first | exact q657 | exact OD | (have e_ := (Kd.S_reads' HO_16.out).1; omega))
      obtain ⟨ve657_0, rfl, ge657_0⟩ := hMe657
      have hv657_0 := hcc657 0 _ rfl
      rw [Nat.add_zero, show ((Kd.slice 3 (Kd.int .i64))).sz = 1 from rfl, Nat.mul_one] at hv657_0
      replace hv657_0 := Option.some.inj (hv657_0.symm.trans hx657_0)
      rw [hv657_0] at ge657_0
      have HL657_0 := Aside0.mk (show Kd.R (Kd.int .i64) 3 _ _ _ _ (rd_L3 t653 x18_1) from ge657_0)
      clear hv657_0 ge657_0
      clear hcc657 hce657
      have HR657_0 := Aside0.mk hi657_0
      have HC657_0 := Aside0.mk hl657_0
      clear hi657_0 hl657_0
      replace p657 := eq_true p657
      replace q657 := eq_true q657
      try go_wp2
      refine E9 (Kd.R_drew HO_6.out) (Kd.S_drew HO_16.out) (Kd.R_drew HO_653002.out) (Kd.R_drew HL657_0.out) (blk_drew BK642.out) (blk_drew BK643.out) (blk_drew BK652.out) (Kd.C_drew HR657_0.out) (below_drew1 HB.out) ?_
      clear HO_6 HO_16 HO_653002 HL657_0 BK642 BK643 BK652 HR657_0 HB
      intro HO_6 HO_16 HO_653002 HL657_0 BK642 BK643 BK652 HR657_0 HB
      have p658 : 0 ≤ (0 : Int) := (by omega)
      have q658 : 0 < ((rd_L3 t653 x18_1).length : Int) := OD
      obtain ⟨ad658, e658, hx658_0⟩ := Kd.at_int (by repeat (first | (with_reducible exact HR657_0.out) | (with_reducible refine Kd.C_alloc ?_ _) | (with_reducible refine Kd.C_drewN ?_ _) | (with_reducible refine Kd.C_drew ?_) | exact HR657_0.out)) 0 p658 q658
      cases e658
      have qi658 : (0 < (rd_L3 t653 x18_1).length) = True := eq_true (by omega)
      (try rw [show ((0 : Int)).toNat = 0 from rfl] at hx658_0)
      (try rw [Addr.add_zero'] at hx658_0)
      replace p658 := eq_true p658
      replace q658 := eq_true q658
      have p659 : 0 ≤ ((rd (rd_L3 t653 x18_1) 0) : Int) := OD
      have q659 : (rd (rd_L3 t653 x18_1) 0) < (l0_2.length : Int) := OD
      obtain ⟨ad659, e659, hx659_0, hx659_1⟩ := at_T73 HR0_2.out (rd (rd_L3 t653 x18_1) 0) p659 q659
      have hw659_1 := hx659_1
      have hw659_0 := hx659_0
      cases e659
      replace hx659_0 := (HB.out.cell (World.block_lt_of_cell? w _ hx659_0)).trans hx659_0
      replace hx659_1 := (HB.out.cell (World.block_lt_of_cell? w _ hx659_1)).trans hx659_1
      replace p659 := eq_true p659
      replace q659 := eq_true q659
      have p660 : 0 ≤ (0 : Int) := (by omega)
      have q660 : 0 < ((rd_L3 t653 x18_1).length : Int) := OD
      obtain ⟨ad660, e660, hx660_0⟩ := Kd.at_int (by repeat (first | (with_reducible exact HR657_0.out) | (with_reducible refine Kd.C_alloc ?_ _) | (with_reducible refine Kd.C_drewN ?_ _) | (with_reducible refine Kd.C_drew ?_) | exact HR657_0.out)) 0 p660 q660
      obtain rfl : ad658 = ad660 := (by injection e660)
      have qi660 : (0 < (rd_L3 t653 x18_1).length) = True := eq_true (by omega)
      (try rw [show ((0 : Int)).toNat = 0 from rfl] at hx660_0)
      (try rw [Addr.add_zero'] at hx660_0)
      replace p660 := eq_true p660
      replace q660 := eq_true q660
      have p661 : 0 ≤ ((rd (rd_L3 t653 x18_1) 0) : Int) := OD
      have q661 : (rd (rd_L3 t653 x18_1) 0) < (l1_2.length : Int) := OD
      obtain ⟨ad661, e661, hx661_0, hx661_1⟩ := at_T73 HR1_2.out (rd (rd_L3 t653 x18_1) 0) p661 q661
      have hw661_1 := hx661_1
      have hw661_0 := hx661_0
      cases e661
      replace hx661_0 := (HB.out.cell (World.block_lt_of_cell? w _ hx661_0)).trans hx661_0
      replace hx661_1 := (HB.out.cell (World.block_lt_of_cell? w _ hx661_1)).trans hx661_1
      replace p661 := eq_true p661
      replace q661 := eq_true q661
      refine start_ (n := 15) (S := fun w' => w'.cell? ⟨gb642, 0, none⟩ = some (.int .i64 a0_0) ∧ w'.cell? ⟨gb642, 1, none⟩ = some (.int .i64 a0_1) ∧ w'.cell? ⟨gb642, 2, none⟩ = some (.slice (some ad659) l0_2.length c0_2) ∧ w'.cell? ⟨gb643, 0, none⟩ = some (.int .i64 a1_0) ∧ w'.cell? ⟨gb643, 1, none⟩ = some (.int .i64 a1_1) ∧ w'.cell? ⟨gb643, 2, none⟩ = some (.slice (some ad661) l1_2.length c1_2) ∧ w'.cell? ad658 = some (.int .i64 (rd (rd_L3 t653 x18_1) 0)) ∧ w'.cell? (ad659.add (((rd (rd_L3 t653 x18_1) 0)).toNat * 2)) = some (.int .i64 ((rd_T73 l0_2 (rd (rd_L3 t653 x18_1) 0)).f0)) ∧ w'.cell? ⟨(ad659.add (((rd (rd_L3 t653 x18_1) 0)).toNat * 2)).block, (ad659.add (((rd (rd_L3 t653 x18_1) 0)).toNat * 2)).off + 1, none⟩ = some (.int .i64 ((rd_T73 l0_2 (rd (rd_L3 t653 x18_1) 0)).f1)) ∧ w'.cell? ad658 = some (.int .i64 (rd (rd_L3 t653 x18_1) 0)) ∧ w'.cell? (ad661.add (((rd (rd_L3 t653 x18_1) 0)).toNat * 2)) = some (.int .i64 ((rd_T73 l1_2 (rd (rd_L3 t653 x18_1) 0)).f0)) ∧ w'.cell? ⟨(ad661.add (((rd (rd_L3 t653 x18_1) 0)).toNat * 2)).block, (ad661.add (((rd (rd_L3 t653 x18_1) 0)).toNat * 2)).off + 1, none⟩ = some (.int .i64 ((rd_T73 l1_2 (rd (rd_L3 t653 x18_1) 0)).f1))) (ds := []) #[false, false, false, false, false, false, false, false, false, false, false, false, false, false, false] (by kernel_rfl) rfl rfl ⟨(blk_cell BK642.out 0).trans rfl, (blk_cell BK642.out 1).trans rfl, (blk_cell BK642.out 2).trans rfl, (blk_cell BK643.out 0).trans rfl, (blk_cell BK643.out 1).trans rfl, (blk_cell BK643.out 2).trans rfl, hx658_0, ((HB.out.cell (World.block_lt_of_cell? w _ hw659_0)).trans hw659_0), ((HB.out.cell (World.block_lt_of_cell? w _ hw659_1)).trans hw659_1), hx660_0, ((HB.out.cell (World.block_lt_of_cell? w _ hw661_0)).trans hw661_0), ((HB.out.cell (World.block_lt_of_cell? w _ hw661_1)).trans hw661_1)⟩ (fun hHeld => ?_); refine with_tabW impl_turnedUnits.tab6 impl_turnedUnits.bits6 (fun HT_ HW_ => ?_)
      generalize wr.drew = w28 at HO_6 HO_16 HO_653002 HL657_0 BK642 BK643 BK652 HR657_0 HB hx658_0 hx659_0 hx659_1 hx660_0 hx661_0 hx661_1 hHeld ⊢
      refine pureE (i := 0) (N := some 23) #[true, false, false, false, false, false, false, false, false, false, false, false, false, false, false] HT_.out ?_
      refine pureE (i := 2) (N := some 25) #[true, false, true, false, false, false, false, false, false, false, false, false, false, false, false] HT_.out ?_
      refine pureE (i := 3) (N := some 26) #[true, false, true, true, false, false, false, false, false, false, false, false, false, false, false] HT_.out ?_
      refine pureE (i := 7) (N := some 30) #[true, false, true, true, false, false, false, true, false, false, false, false, false, false, false] HT_.out ?_
      refine pureE (i := 9) (N := some 32) #[true, false, true, true, false, false, false, true, false, true, false, false, false, false, false] HT_.out ?_
      refine pureE (i := 10) (N := some 33) #[true, false, true, true, false, false, false, true, false, true, true, false, false, false, false] HT_.out ?_
      refine take_ (i := 1) (N := some 24) (v := ?_) (a' := ?_) #[true, true, true, true, false, false, false, true, false, true, true, false, false, false, false] rfl rfl (take_ofW HT_.out HW_.out (by kernel_rfl)) (fun _ _ _ h => h) (Or.inl ⟨by rfl, ?_⟩) hHeld ?_ ?_
      rotate_left
      · rintro w' ⟨s0, s1, s2, s3, s4, s5, s6, s7, s8, s9, s10, s11⟩
        go_simp
        with_reducible rfl
      rotate_left
      · simp only [Act.put, List.setIfInBounds_toArray, List.set_cons_zero, List.set_cons_succ, i64_w, i32_w]
        rfl
      refine take_ (i := 4) (N := some 27) (v := ?_) (a' := ?_) #[true, true, true, true, true, false, false, true, false, true, true, false, false, false, false] rfl rfl (take_ofW HT_.out HW_.out (by kernel_rfl)) (fun _ _ _ h => h) (Or.inl ⟨by rfl, ?_⟩) hHeld ?_ ?_
      rotate_left
      · rintro w' ⟨s0, s1, s2, s3, s4, s5, s6, s7, s8, s9, s10, s11⟩
        go_simp
        with_reducible rfl
      rotate_left
      · simp only [Act.put, List.setIfInBounds_toArray, List.set_cons_zero, List.set_cons_succ, i64_w, i32_w]
        rfl
      refine pureE (i := 5) (N := some 28) #[true, true, true, true, true, true, false, true, false, true, true, false, false, false, false] HT_.out ?_
      refine take_ (i := 6) (N := some 29) (v := ?_) (a' := ?_) #[true, true, true, true, true, true, true, true, false, true, true, false, false, false, false] rfl rfl (take_ofW HT_.out HW_.out (by kernel_rfl)) (fun _ _ _ h => h) (Or.inl ⟨by rfl, ?_⟩) hHeld ?_ ?_
      rotate_left
      · rintro w' ⟨s0, s1, s2, s3, s4, s5, s6, s7, s8, s9, s10, s11⟩
        go_simp
        with_reducible rfl
      rotate_left
      · simp only [Act.put, List.setIfInBounds_toArray, List.set_cons_zero, List.set_cons_succ, i64_w, i32_w]
        rfl
      refine take_ (i := 8) (N := some 31) (v := ?_) (a' := ?_) #[true, true, true, true, true, true, true, true, true, true, true, false, false, false, false] rfl rfl (take_ofW HT_.out HW_.out (by kernel_rfl)) (fun _ _ _ h => h) (Or.inl ⟨by rfl, ?_⟩) hHeld ?_ ?_
      rotate_left
      · rintro w' ⟨s0, s1, s2, s3, s4, s5, s6, s7, s8, s9, s10, s11⟩
        go_simp
        with_reducible rfl
      rotate_left
      · simp only [Act.put, List.setIfInBounds_toArray, List.set_cons_zero, List.set_cons_succ, i64_w, i32_w]
        rfl
      refine take_ (i := 11) (N := some 34) (v := ?_) (a' := ?_) #[true, true, true, true, true, true, true, true, true, true, true, true, false, false, false] rfl rfl (take_ofW HT_.out HW_.out (by kernel_rfl)) (fun _ _ _ h => h) (Or.inl ⟨by rfl, ?_⟩) hHeld ?_ ?_
      rotate_left
      · rintro w' ⟨s0, s1, s2, s3, s4, s5, s6, s7, s8, s9, s10, s11⟩
        go_simp
        with_reducible rfl
      rotate_left
      · simp only [Act.put, List.setIfInBounds_toArray, List.set_cons_zero, List.set_cons_succ, i64_w, i32_w]
        rfl
      refine pureE (i := 12) (N := some 35) #[true, true, true, true, true, true, true, true, true, true, true, true, true, false, false] HT_.out ?_
      refine take_ (i := 13) (N := some 36) (v := ?_) (a' := ?_) #[true, true, true, true, true, true, true, true, true, true, true, true, true, true, false] rfl rfl (take_ofW HT_.out HW_.out (by kernel_rfl)) (fun _ _ _ h => h) (Or.inl ⟨by rfl, ?_⟩) hHeld ?_ ?_
      rotate_left
      · rintro w' ⟨s0, s1, s2, s3, s4, s5, s6, s7, s8, s9, s10, s11⟩
        go_simp
        with_reducible rfl
      rotate_left
      · simp only [Act.put, List.setIfInBounds_toArray, List.set_cons_zero, List.set_cons_succ, i64_w, i32_w]
        rfl
      refine pureE (i := 14) (N := some 37) #[true, true, true, true, true, true, true, true, true, true, true, true, true, true, true] HT_.out ?_
      refine done_ (done_of HT_.out (by kernel_rfl)) ?_
      try go_wp2
      go_roundg k1
      case measure => have := HK1.out; omega
      case rel => exact ⟨(x6_1), (wrap64 (x18_1 + 1)), (x653002_1), (u653002), RG, H', ⟨by have := HK1.out; omega⟩, ⟨PR HO_6.out⟩, ⟨PS HO_16.out⟩, ⟨PR HO_653002.out⟩, ⟨PB BK642.out⟩, ⟨PB BK643.out⟩, ⟨PB BK652.out⟩, ⟨BL HB.out⟩⟩
    have c27b0 : (((rd_T73 l0_2 (rd (rd_L3 t653 x18_1) 0)).f0) == ((rd_T73 l1_2 (rd (rd_L3 t653 x18_1) 0)).f0) && (((rd_T73 l0_2 (rd (rd_L3 t653 x18_1) 0)).f1) == ((rd_T73 l1_2 (rd (rd_L3 t653 x18_1) 0)).f1))) = false := by simpa using c27
    (try (have c27b1 : decide (((rd_T73 l0_2 (rd (rd_L3 t653 x18_1) 0)).f0) = ((rd_T73 l1_2 (rd (rd_L3 t653 x18_1) 0)).f0) && (((rd_T73 l0_2 (rd (rd_L3 t653 x18_1) 0)).f1) == ((rd_T73 l1_2 (rd (rd_L3 t653 x18_1) 0)).f1))) = false := by simpa using c27))
    (try (have c27b2 : (((rd_T73 l0_2 (rd (rd_L3 t653 x18_1) 0)).f0) == ((rd_T73 l1_2 (rd (rd_L3 t653 x18_1) 0)).f0) && (((rd_T73 l0_2 (rd (rd_L3 t653 x18_1) 0)).f1) == ((rd_T73 l1_2 (rd (rd_L3 t653 x18_1) 0)).f1))) = false := by simpa using c27))
    (try (have c27b3 : ¬ (((rd_T73 l0_2 (rd (rd_L3 t653 x18_1) 0)).f0) = ((rd_T73 l1_2 (rd (rd_L3 t653 x18_1) 0)).f0) && (((rd_T73 l0_2 (rd (rd_L3 t653 x18_1) 0)).f1) == ((rd_T73 l1_2 (rd (rd_L3 t653 x18_1) 0)).f1))) := by simpa using c27))
    clear c27
    replace H := ifP H; obtain ⟨c29, H⟩ := H
    have LMc29 := Aside0.mk c29
    clear c29
    generalize hy662 : ((x6_1 ++ [x18_1]) : List Int) = y662 at H
    have Ny662 := Aside0.mk hy662.symm; clear hy662
    have H' := Aside0.mk H
    clear H
    have p657 : 0 ≤ (x18_1 : Int) := OD
    have q657 : x18_1 < (t653.length : Int) := OD
    obtain ⟨ad657, A657_0, c657_0, e657, hx657_0, hl657_0, hi657_0⟩ := at_L3 (Kd.S_reads' HO_16.out).2.2 x18_1 p657 q657
    cases e657
    obtain ⟨ce657, hce657, hMe657, hcc657⟩ := Kd.S_get HO_16.out [] x18_1 p657 (by first | exact q657 | exact OD | (have e_ := (Kd.S_reads' HO_16.out).1; omega))
    obtain ⟨ve657_0, rfl, ge657_0⟩ := hMe657
    have hv657_0 := hcc657 0 _ rfl
    rw [Nat.add_zero, show ((Kd.slice 3 (Kd.int .i64))).sz = 1 from rfl, Nat.mul_one] at hv657_0
    replace hv657_0 := Option.some.inj (hv657_0.symm.trans hx657_0)
    rw [hv657_0] at ge657_0
    have HL657_0 := Aside0.mk (show Kd.R (Kd.int .i64) 3 _ _ _ _ (rd_L3 t653 x18_1) from ge657_0)
    clear hv657_0 ge657_0
    clear hcc657 hce657
    have HR657_0 := Aside0.mk hi657_0
    have HC657_0 := Aside0.mk hl657_0
    clear hi657_0 hl657_0
    replace p657 := eq_true p657
    replace q657 := eq_true q657
    try go_wp2
    refine E9 (Kd.R_drew HO_6.out) (Kd.S_drew HO_16.out) (Kd.R_drew HO_653002.out) (Kd.R_drew HL657_0.out) (blk_drew BK642.out) (blk_drew BK643.out) (blk_drew BK652.out) (Kd.C_drew HR657_0.out) (below_drew1 HB.out) ?_
    clear HO_6 HO_16 HO_653002 HL657_0 BK642 BK643 BK652 HR657_0 HB
    intro HO_6 HO_16 HO_653002 HL657_0 BK642 BK643 BK652 HR657_0 HB
    have p658 : 0 ≤ (0 : Int) := (by omega)
    have q658 : 0 < ((rd_L3 t653 x18_1).length : Int) := OD
    obtain ⟨ad658, e658, hx658_0⟩ := Kd.at_int (by repeat (first | (with_reducible exact HR657_0.out) | (with_reducible refine Kd.C_alloc ?_ _) | (with_reducible refine Kd.C_drewN ?_ _) | (with_reducible refine Kd.C_drew ?_) | exact HR657_0.out)) 0 p658 q658
    cases e658
    have qi658 : (0 < (rd_L3 t653 x18_1).length) = True := eq_true (by omega)
    (try rw [show ((0 : Int)).toNat = 0 from rfl] at hx658_0)
    (try rw [Addr.add_zero'] at hx658_0)
    replace p658 := eq_true p658
    replace q658 := eq_true q658
    have p659 : 0 ≤ ((rd (rd_L3 t653 x18_1) 0) : Int) := OD
    have q659 : (rd (rd_L3 t653 x18_1) 0) < (l0_2.length : Int) := OD
    obtain ⟨ad659, e659, hx659_0, hx659_1⟩ := at_T73 HR0_2.out (rd (rd_L3 t653 x18_1) 0) p659 q659
    have hw659_1 := hx659_1
    have hw659_0 := hx659_0
    cases e659
    replace hx659_0 := (HB.out.cell (World.block_lt_of_cell? w _ hx659_0)).trans hx659_0
    replace hx659_1 := (HB.out.cell (World.block_lt_of_cell? w _ hx659_1)).trans hx659_1
    replace p659 := eq_true p659
    replace q659 := eq_true q659
    have p660 : 0 ≤ (0 : Int) := (by omega)
    have q660 : 0 < ((rd_L3 t653 x18_1).length : Int) := OD
    obtain ⟨ad660, e660, hx660_0⟩ := Kd.at_int (by repeat (first | (with_reducible exact HR657_0.out) | (with_reducible refine Kd.C_alloc ?_ _) | (with_reducible refine Kd.C_drewN ?_ _) | (with_reducible refine Kd.C_drew ?_) | exact HR657_0.out)) 0 p660 q660
    obtain rfl : ad658 = ad660 := (by injection e660)
    have qi660 : (0 < (rd_L3 t653 x18_1).length) = True := eq_true (by omega)
    (try rw [show ((0 : Int)).toNat = 0 from rfl] at hx660_0)
    (try rw [Addr.add_zero'] at hx660_0)
    replace p660 := eq_true p660
    replace q660 := eq_true q660
    have p661 : 0 ≤ ((rd (rd_L3 t653 x18_1) 0) : Int) := OD
    have q661 : (rd (rd_L3 t653 x18_1) 0) < (l1_2.length : Int) := OD
    obtain ⟨ad661, e661, hx661_0, hx661_1⟩ := at_T73 HR1_2.out (rd (rd_L3 t653 x18_1) 0) p661 q661
    have hw661_1 := hx661_1
    have hw661_0 := hx661_0
    cases e661
    replace hx661_0 := (HB.out.cell (World.block_lt_of_cell? w _ hx661_0)).trans hx661_0
    replace hx661_1 := (HB.out.cell (World.block_lt_of_cell? w _ hx661_1)).trans hx661_1
    replace p661 := eq_true p661
    replace q661 := eq_true q661
    refine start_ (n := 15) (S := fun w' => w'.cell? ⟨gb642, 0, none⟩ = some (.int .i64 a0_0) ∧ w'.cell? ⟨gb642, 1, none⟩ = some (.int .i64 a0_1) ∧ w'.cell? ⟨gb642, 2, none⟩ = some (.slice (some ad659) l0_2.length c0_2) ∧ w'.cell? ⟨gb643, 0, none⟩ = some (.int .i64 a1_0) ∧ w'.cell? ⟨gb643, 1, none⟩ = some (.int .i64 a1_1) ∧ w'.cell? ⟨gb643, 2, none⟩ = some (.slice (some ad661) l1_2.length c1_2) ∧ w'.cell? ad658 = some (.int .i64 (rd (rd_L3 t653 x18_1) 0)) ∧ w'.cell? (ad659.add (((rd (rd_L3 t653 x18_1) 0)).toNat * 2)) = some (.int .i64 ((rd_T73 l0_2 (rd (rd_L3 t653 x18_1) 0)).f0)) ∧ w'.cell? ⟨(ad659.add (((rd (rd_L3 t653 x18_1) 0)).toNat * 2)).block, (ad659.add (((rd (rd_L3 t653 x18_1) 0)).toNat * 2)).off + 1, none⟩ = some (.int .i64 ((rd_T73 l0_2 (rd (rd_L3 t653 x18_1) 0)).f1)) ∧ w'.cell? ad658 = some (.int .i64 (rd (rd_L3 t653 x18_1) 0)) ∧ w'.cell? (ad661.add (((rd (rd_L3 t653 x18_1) 0)).toNat * 2)) = some (.int .i64 ((rd_T73 l1_2 (rd (rd_L3 t653 x18_1) 0)).f0)) ∧ w'.cell? ⟨(ad661.add (((rd (rd_L3 t653 x18_1) 0)).toNat * 2)).block, (ad661.add (((rd (rd_L3 t653 x18_1) 0)).toNat * 2)).off + 1, none⟩ = some (.int .i64 ((rd_T73 l1_2 (rd (rd_L3 t653 x18_1) 0)).f1))) (ds := []) #[false, false, false, false, false, false, false, false, false, false, false, false, false, false, false] (by kernel_rfl) rfl rfl ⟨(blk_cell BK642.out 0).trans rfl, (blk_cell BK642.out 1).trans rfl, (blk_cell BK642.out 2).trans rfl, (blk_cell BK643.out 0).trans rfl, (blk_cell BK643.out 1).trans rfl, (blk_cell BK643.out 2).trans rfl, hx658_0, ((HB.out.cell (World.block_lt_of_cell? w _ hw659_0)).trans hw659_0), ((HB.out.cell (World.block_lt_of_cell? w _ hw659_1)).trans hw659_1), hx660_0, ((HB.out.cell (World.block_lt_of_cell? w _ hw661_0)).trans hw661_0), ((HB.out.cell (World.block_lt_of_cell? w _ hw661_1)).trans hw661_1)⟩ (fun hHeld => ?_); refine with_tabW impl_turnedUnits.tab6 impl_turnedUnits.bits6 (fun HT_ HW_ => ?_)
    generalize wr.drew = w30 at HO_6 HO_16 HO_653002 HL657_0 BK642 BK643 BK652 HR657_0 HB hx658_0 hx659_0 hx659_1 hx660_0 hx661_0 hx661_1 hHeld ⊢
    refine pureE (i := 0) (N := some 23) #[true, false, false, false, false, false, false, false, false, false, false, false, false, false, false] HT_.out ?_
    refine pureE (i := 2) (N := some 25) #[true, false, true, false, false, false, false, false, false, false, false, false, false, false, false] HT_.out ?_
    refine pureE (i := 3) (N := some 26) #[true, false, true, true, false, false, false, false, false, false, false, false, false, false, false] HT_.out ?_
    refine pureE (i := 7) (N := some 30) #[true, false, true, true, false, false, false, true, false, false, false, false, false, false, false] HT_.out ?_
    refine pureE (i := 9) (N := some 32) #[true, false, true, true, false, false, false, true, false, true, false, false, false, false, false] HT_.out ?_
    refine pureE (i := 10) (N := some 33) #[true, false, true, true, false, false, false, true, false, true, true, false, false, false, false] HT_.out ?_
    refine take_ (i := 1) (N := some 24) (v := ?_) (a' := ?_) #[true, true, true, true, false, false, false, true, false, true, true, false, false, false, false] rfl rfl (take_ofW HT_.out HW_.out (by kernel_rfl)) (fun _ _ _ h => h) (Or.inl ⟨by rfl, ?_⟩) hHeld ?_ ?_
    rotate_left
    · rintro w' ⟨s0, s1, s2, s3, s4, s5, s6, s7, s8, s9, s10, s11⟩
      go_simp
      with_reducible rfl
    rotate_left
    · simp only [Act.put, List.setIfInBounds_toArray, List.set_cons_zero, List.set_cons_succ, i64_w, i32_w]
      rfl
    refine take_ (i := 4) (N := some 27) (v := ?_) (a' := ?_) #[true, true, true, true, true, false, false, true, false, true, true, false, false, false, false] rfl rfl (take_ofW HT_.out HW_.out (by kernel_rfl)) (fun _ _ _ h => h) (Or.inl ⟨by rfl, ?_⟩) hHeld ?_ ?_
    rotate_left
    · rintro w' ⟨s0, s1, s2, s3, s4, s5, s6, s7, s8, s9, s10, s11⟩
      go_simp
      with_reducible rfl
    rotate_left
    · simp only [Act.put, List.setIfInBounds_toArray, List.set_cons_zero, List.set_cons_succ, i64_w, i32_w]
      rfl
    refine pureE (i := 5) (N := some 28) #[true, true, true, true, true, true, false, true, false, true, true, false, false, false, false] HT_.out ?_
    refine take_ (i := 6) (N := some 29) (v := ?_) (a' := ?_) #[true, true, true, true, true, true, true, true, false, true, true, false, false, false, false] rfl rfl (take_ofW HT_.out HW_.out (by kernel_rfl)) (fun _ _ _ h => h) (Or.inl ⟨by rfl, ?_⟩) hHeld ?_ ?_
    rotate_left
    · rintro w' ⟨s0, s1, s2, s3, s4, s5, s6, s7, s8, s9, s10, s11⟩
      go_simp
      with_reducible rfl
    rotate_left
    · simp only [Act.put, List.setIfInBounds_toArray, List.set_cons_zero, List.set_cons_succ, i64_w, i32_w]
      rfl
    refine take_ (i := 8) (N := some 31) (v := ?_) (a' := ?_) #[true, true, true, true, true, true, true, true, true, true, true, false, false, false, false] rfl rfl (take_ofW HT_.out HW_.out (by kernel_rfl)) (fun _ _ _ h => h) (Or.inl ⟨by rfl, ?_⟩) hHeld ?_ ?_
    rotate_left
    · rintro w' ⟨s0, s1, s2, s3, s4, s5, s6, s7, s8, s9, s10, s11⟩
      go_simp
      with_reducible rfl
    rotate_left
    · simp only [Act.put, List.setIfInBounds_toArray, List.set_cons_zero, List.set_cons_succ, i64_w, i32_w]
      rfl
    refine take_ (i := 11) (N := some 34) (v := ?_) (a' := ?_) #[true, true, true, true, true, true, true, true, true, true, true, true, false, false, false] rfl rfl (take_ofW HT_.out HW_.out (by kernel_rfl)) (fun _ _ _ h => h) (Or.inl ⟨by rfl, ?_⟩) hHeld ?_ ?_
    rotate_left
    · rintro w' ⟨s0, s1, s2, s3, s4, s5, s6, s7, s8, s9, s10, s11⟩
      go_simp
      with_reducible rfl
    rotate_left
    · simp only [Act.put, List.setIfInBounds_toArray, List.set_cons_zero, List.set_cons_succ, i64_w, i32_w]
      rfl
    refine pureE (i := 12) (N := some 35) #[true, true, true, true, true, true, true, true, true, true, true, true, true, false, false] HT_.out ?_
    refine take_ (i := 13) (N := some 36) (v := ?_) (a' := ?_) #[true, true, true, true, true, true, true, true, true, true, true, true, true, true, false] rfl rfl (take_ofW HT_.out HW_.out (by kernel_rfl)) (fun _ _ _ h => h) (Or.inl ⟨by rfl, ?_⟩) hHeld ?_ ?_
    rotate_left
    · rintro w' ⟨s0, s1, s2, s3, s4, s5, s6, s7, s8, s9, s10, s11⟩
      go_simp
      with_reducible rfl
    rotate_left
    · simp only [Act.put, List.setIfInBounds_toArray, List.set_cons_zero, List.set_cons_succ, i64_w, i32_w]
      rfl
    refine pureE (i := 14) (N := some 37) #[true, true, true, true, true, true, true, true, true, true, true, true, true, true, true] HT_.out ?_
    refine done_ (done_of HT_.out (by kernel_rfl)) ?_
    try go_wp2_with (first | ((with_reducible refine gate_builtin (b := .append) (xs := #[.tmp 38, .tmp 40]) rfl ?_); at_builtin; refine Kd.R_append (Kd.int .i64) (w0 := w) w.heap.size rfl (.tmp 38) (.tmp 40) 36 3 (.int .i64 0) 8 rfl Try.underlying36 info3 rfl (by decide) (by omega) u6 x6_1 x18_1 [.int .i64 x18_1] (fun _ => True) (fun _ => False) rfl rfl ?aP (fun _ hk => hk.elim) ?aF ?aO ?aB ?aS ?aL ?_; (case aP => exact rfl); (case aB => exact (BL HB.out)); (case aF => exact (fun _ _ => trivial)); (case aO => exact (PR HO_6.out)); (case aS => exact (below_size (BL HB.out))); (case aL => have := LMc29.out; omega); intro v663 w31 ho hb hg hat; rw [← Ny662.out] at ho; refine E8 (Kd.S_after (ok := (fun _ => True)) (by (with_reducible repeat (first | apply Kd.S_alloc | apply Kd.S_drewN | apply Kd.S_drew)); exact Kd.S_mono HO_16.out (fun _ hk => ⟨trivial, hk⟩)) hg hat) (Kd.R_over' (PR HO_653002.out) (Kd.R_typed (PR HO_6.out)) (by decide) hg) (bG BK642.out hg (Kd.R_ne HO_6.out BK642.out (by decide))) (bG BK643.out hg (Kd.R_ne HO_6.out BK643.out (by decide))) (bG BK652.out hg (Kd.R_ne HO_6.out BK652.out (by decide))) (Kd.R_after (ok := (fun k_ => some k_ ≠ (.slice (some ad657) t653.length co19 : Value).ownBlock)) (by (with_reducible repeat (first | apply Kd.R_alloc | apply Kd.R_drewN | apply Kd.R_drew)); exact Kd.R_mono HL657_0.out (fun _ hk => ⟨hk.2, hk.1⟩)) hg hat) (hb) (ho) ?_; clear HO_16 HO_653002 BK642 BK643 BK652 HL657_0 HB HO_6; intro HO_16 HO_653002 BK642 BK643 BK652 HL657_0 HB HO664; clear ho hb hg hat))
    go_loopg [44] k1 (fun kq v44 w' => ∃ (x44_2 : Int) (x653002_2 : List (S73)) (u653002 : Value), v44 = .int .i64 x44_2 ∧ Aside0 (impl_turnedUnits.l1 kq y662 t653 (t653.length : Int) x18_1 (rd_L3 t653 x18_1) ((rd_L3 t653 x18_1).length : Int) x44_2 a0_0 a0_1 l0_2 a1_0 a1_1 l1_2 t647 t648 x653002_2 = some (r1, r2)) ∧ Aside0 (kq ≤ k1) ∧ Aside0 (Kd.R (Kd.int .i64) 3 w' w.heap.size (fun _ => True) v663 y662) ∧ Aside0 (Kd.R (Kd.int .i64) 3 w' w.heap.size (fun _ => True) (.slice (some ad658) (rd_L3 t653 x18_1).length c657_0) (rd_L3 t653 x18_1)) ∧ Aside0 (Kd.S (Kd.slice 3 (Kd.int .i64)) 36 w' w.heap.size (fun k_ => some k_ ≠ (v663 : Value).ownBlock) (.slice (some ad657) t653.length co19) t653) ∧ Aside0 (Kd.R k73 73 w' w.heap.size (fun _ => True) u653002 x653002_2) ∧ Aside0 (w'.heap[gb642]? = some (.cells #[.int .i64 a0_0, .int .i64 a0_1, (.slice (some ad659) l0_2.length c0_2)] 30 (0, 0))) ∧ Aside0 (w'.heap[gb643]? = some (.cells #[.int .i64 a1_0, .int .i64 a1_1, (.slice (some ad661) l1_2.length c1_2)] 30 (0, 0))) ∧ Aside0 (w'.heap[gb652]? = some (.cells #[.int .i64 t647, .int .i64 t648, u653002] 30 (0, 0))) ∧ Aside0 (Below w.heap.size w w'))
    case atStart => exact ⟨(0), (x653002_1), (u653002), RG, H', ⟨Nat.le_refl _⟩, ⟨PR HO664.out⟩, ⟨by (with_reducible repeat (first | apply Kd.R_alloc | apply Kd.R_drewN | apply Kd.R_drew)); exact Kd.R_mono HL657_0.out (fun _ _ => trivial)⟩, ⟨by (with_reducible repeat (first | apply Kd.S_alloc | apply Kd.S_drewN | apply Kd.S_drew)); exact Kd.S_mono HO_16.out (fun _ hk => hk.2)⟩, ⟨PR HO_653002.out⟩, ⟨PB BK642.out⟩, ⟨PB BK643.out⟩, ⟨PB BK652.out⟩, ⟨BL HB.out⟩⟩
    clear H'
    try clear c20b0; try clear c21b0; try clear c22b0; try clear c23b0; try clear c23b1; try clear c24b0; try clear c25b0; try clear c26b0; try clear c27b0; try clear c27b1; try clear c27b2; try clear hx657_0; try clear hx658_0; try clear hx659_0; try clear hx659_1; try clear hx660_0; try clear hx661_0; try clear hx661_1; try clear p657; try clear p658; try clear p659; try clear p660; try clear p661; try clear q657; try clear q658; try clear q659; try clear q660; try clear q661
    obtain ⟨x44_2, x653002_2, u653002, rfl, HA, HK2, HO_6, HL657_0, HO_16, HO_653002, BK642, BK643, BK652, HB⟩ := hrel
    cases gk with
    | zero => exact absurd HA.out (by simp [impl_turnedUnits.l1])
    | succ k2 => ?_
    have H := HA.out
    clear HA
    simp only [impl_turnedUnits.l1] at H
    replace H := ifB H; rcases H with ⟨c32b0, H⟩ | ⟨c32b0, H⟩
    · replace H := ifN H; obtain ⟨c33b0, H⟩ := H
      replace H := ifN H; obtain ⟨c34b0, H⟩ := H
      replace H := ifN H; obtain ⟨c35b0, H⟩ := H
      replace H := ifN H; obtain ⟨c36b0, H⟩ := H
      generalize hy667 : ((x653002_2.set ((rd (rd_L3 t653 x18_1) x44_2) : Int).toNat (⟨(rd_T73 x653002_2 (rd (rd_L3 t653 x18_1) x44_2)).f0, wrap64 (1 - ((rd_T73 x653002_2 (rd (rd_L3 t653 x18_1) x44_2)).f1))⟩ : S73)) : List (S73)) = y667 at H
      have Ny667 := Aside0.mk hy667.symm; clear hy667
      have H' := Aside0.mk H
      clear H
      have p665 : 0 ≤ (x44_2 : Int) := OD
      have q665 : x44_2 < ((rd_L3 t653 x18_1).length : Int) := OD
      obtain ⟨ad665, e665, hx665_0⟩ := Kd.at_int (Kd.R_reads' HL657_0.out).2.2 x44_2 p665 q665
      obtain rfl : ad658 = ad665 := (by injection e665)
      replace p665 := eq_true p665
      replace q665 := eq_true q665
      try go_wp2
      refine E8 (Kd.R_drew HO_6.out) (Kd.R_drew HL657_0.out) (Kd.S_drew HO_16.out) (Kd.R_drew HO_653002.out) (blk_drew BK642.out) (blk_drew BK643.out) (blk_drew BK652.out) (below_drew1 HB.out) ?_
      clear HO_6 HL657_0 HO_16 HO_653002 BK642 BK643 BK652 HB
      intro HO_6 HL657_0 HO_16 HO_653002 BK642 BK643 BK652 HB
      obtain ⟨Ao39, co39, eo39⟩ := Kd.R_slice HO_653002.out
      (first | subst eo39 | (injection eo39 with f1_ f2_ f3_; have f4_ := f1_.symm; have f5_ := f3_.symm; clear f1_ f2_ f3_; subst f4_; subst f5_))
      have p666 : 0 ≤ ((rd (rd_L3 t653 x18_1) x44_2) : Int) := OD
      have q666 : (rd (rd_L3 t653 x18_1) x44_2) < (x653002_2.length : Int) := OD
      obtain ⟨ad666, e666, hx666_0, hx666_1⟩ := at_T73 (Kd.R_reads' HO_653002.out).2.2 (rd (rd_L3 t653 x18_1) x44_2) p666 q666
      cases e666
      replace p666 := eq_true p666
      replace q666 := eq_true q666
      have p37 : 0 ≤ ((rd (rd_L3 t653 x18_1) x44_2) : Int) := OD
      have q37 : ((rd (rd_L3 t653 x18_1) x44_2) : Int) < ((x653002_2.length : Int) : Int) := OD
      obtain ⟨go37, co37, eo37, gb37, gl37, cl37, HG37⟩ := Kd.R_form HO_653002.out (by omega)
      (first | cases eo37 | (injection eo37 with ea_ en_ ec_; (first | subst ea_ | (injection ea_ with ea_; subst ea_)); subst ec_; clear en_))
      have GB37 := Aside0.mk gb37
      have GG37 := Aside0.mk HG37
      clear gb37 gl37 HG37
      (first | simp only [add_plain] at hx666_0 | skip)
      (first | simp only [add_plain] at hx666_1 | skip)
      obtain ⟨ce37, hcl37, hM37, hcc37, hfr37⟩ := Kd.R_elem HO_653002.out z73 ((rd (rd_L3 t653 x18_1) x44_2) : Int) p37 q37
      obtain rfl := k73_openM hM37
      have hx37_0 : World.cell? _ ⟨go37, ((rd (rd_L3 t653 x18_1) x44_2) : Int).toNat * 2, none⟩ = some (.int .i64 ((rd_T73 x653002_2 (rd (rd_L3 t653 x18_1) x44_2)).f0)) := hcc37 0 _ rfl
      have hx37_1 : World.cell? _ ⟨go37, ((rd (rd_L3 t653 x18_1) x44_2) : Int).toNat * 2 + 1, none⟩ = some (.int .i64 ((rd_T73 x653002_2 (rd (rd_L3 t653 x18_1) x44_2)).f1)) := hcc37 1 _ rfl
      have hf37_0 : World.frozen? _ ⟨go37, ((rd (rd_L3 t653 x18_1) x44_2) : Int).toNat * 2, none⟩ = false := hfr37 0
      have hf37_1 : World.frozen? _ ⟨go37, ((rd (rd_L3 t653 x18_1) x44_2) : Int).toNat * 2 + 1, none⟩ = false := hfr37 1
      clear hcl37 hcc37 hfr37 hM37
      replace p37 := eq_true p37
      replace q37 := eq_true q37
      obtain ⟨ce40, hcl40, hM40, hcc40, hfr40⟩ := Kd.R_elem HO_653002.out z73 ((rd (rd_L3 t653 x18_1) x44_2) : Int) (OD) (by have h_ : ((rd (rd_L3 t653 x18_1) x44_2) : Int) < ((x653002_2.length : Int) : Int) := OD; first | exact h_ | (have e_ := (Kd.R_reads' HO_653002.out).1; omega) | simpa using h_)
      obtain rfl := k73_openM hM40
      have HP40 := (Kd.R_seg HO_653002.out ((rd (rd_L3 t653 x18_1) x44_2) : Int) (OD) (by have h_ : ((rd (rd_L3 t653 x18_1) x44_2) : Int) < ((x653002_2.length : Int) : Int) := OD; first | exact h_ | (have e_ := (Kd.R_reads' HO_653002.out).1; omega) | simpa using h_) (seg := [.int .i64 (wrap64 (1 - ((rd_T73 x653002_2 (rd (rd_L3 t653 x18_1) x44_2)).f1)))]) (j := 1) hcl40 hcc40 (show 2 ≤ 2 from by decide) (x' := (⟨(rd_T73 x653002_2 (rd (rd_L3 t653 x18_1) x44_2)).f0, wrap64 (1 - ((rd_T73 x653002_2 (rd (rd_L3 t653 x18_1) x44_2)).f1))⟩ : S73)) (k73_mkM _ _ _ (⟨(rd_T73 x653002_2 (rd (rd_L3 t653 x18_1) x44_2)).f0, wrap64 (1 - ((rd_T73 x653002_2 (rd (rd_L3 t653 x18_1) x44_2)).f1))⟩ : S73) ) (fun _ hk => hk)).1
      rw [← Ny667.out] at HP40
      have HQ40 := Aside0.mk HP40
      clear hcl40 hcc40 hfr40 hM40 HP40
      refine start_ (n := 13) (S := fun w' => w'.cell? ⟨gb652, 0, none⟩ = some (.int .i64 t647) ∧ w'.cell? ⟨gb652, 1, none⟩ = some (.int .i64 t648) ∧ w'.cell? ⟨gb652, 2, none⟩ = some (.slice (some ⟨go37, 0, none⟩) x653002_2.length co39) ∧ w'.cell? ⟨go37, ((rd (rd_L3 t653 x18_1) x44_2)).toNat * 2, none⟩ = some (.int .i64 ((rd_T73 x653002_2 (rd (rd_L3 t653 x18_1) x44_2)).f0)) ∧ w'.cell? ⟨go37, ((rd (rd_L3 t653 x18_1) x44_2)).toNat * 2 + 1, none⟩ = some (.int .i64 ((rd_T73 x653002_2 (rd (rd_L3 t653 x18_1) x44_2)).f1))) (ds := [12]) #[false, false, false, false, false, false, false, false, false, false, false, false, false] (by kernel_rfl) rfl rfl ⟨(blk_cell BK652.out 0).trans rfl, (blk_cell BK652.out 1).trans rfl, (blk_cell BK652.out 2).trans rfl, hx666_0, hx666_1⟩ (fun hHeld => ?_); refine with_tabW impl_turnedUnits.tab11 impl_turnedUnits.bits11 (fun HT_ HW_ => ?_)
      generalize wr.drew = w38 at HO_6 HL657_0 HO_16 HO_653002 BK642 BK643 BK652 HB GG37 HQ40 hf37_0 hf37_1 hx37_0 hx37_1 hx666_0 hx666_1 hHeld ⊢
      refine pureE (i := 0) (N := some 48) #[true, false, false, false, false, false, false, false, false, false, false, false, false] HT_.out ?_
      refine pureE (i := 2) (N := some 50) #[true, false, true, false, false, false, false, false, false, false, false, false, false] HT_.out ?_
      refine pureE (i := 3) (N := some 51) #[true, false, true, true, false, false, false, false, false, false, false, false, false] HT_.out ?_
      refine pureE (i := 5) (N := some 53) #[true, false, true, true, false, true, false, false, false, false, false, false, false] HT_.out ?_
      refine take_ (i := 1) (N := some 49) (v := ?_) (a' := ?_) #[true, true, true, true, false, true, false, false, false, false, false, false, false] rfl rfl (take_ofW HT_.out HW_.out (by kernel_rfl)) (fun _ _ _ h => h) (Or.inl ⟨by rfl, ?_⟩) hHeld ?_ ?_
      rotate_left
      · rintro w' ⟨s0, s1, s2, s3, s4⟩
        go_simp
        with_reducible rfl
      rotate_left
      · simp only [Act.put, List.setIfInBounds_toArray, List.set_cons_zero, List.set_cons_succ, i64_w, i32_w]
        rfl
      refine take_ (i := 4) (N := some 52) (v := ?_) (a' := ?_) #[true, true, true, true, true, true, false, false, false, false, false, false, false] rfl rfl (take_ofW HT_.out HW_.out (by kernel_rfl)) (fun _ _ _ h => h) (Or.inl ⟨by rfl, ?_⟩) hHeld ?_ ?_
      rotate_left
      · rintro w' ⟨s0, s1, s2, s3, s4⟩
        go_simp
        with_reducible rfl
      rotate_left
      · simp only [Act.put, List.setIfInBounds_toArray, List.set_cons_zero, List.set_cons_succ, i64_w, i32_w]
        rfl
      refine pureE (i := 6) (N := some 54) #[true, true, true, true, true, true, true, false, false, false, false, false, false] HT_.out ?_
      refine pureE (i := 7) (N := some 55) #[true, true, true, true, true, true, true, true, false, false, false, false, false] HT_.out ?_
      refine take_ (i := 8) (N := some 56) (v := ?_) (a' := ?_) #[true, true, true, true, true, true, true, true, true, false, false, false, false] rfl rfl (take_ofW HT_.out HW_.out (by kernel_rfl)) (fun _ _ _ h => h) (Or.inl ⟨by rfl, ?_⟩) hHeld ?_ ?_
      rotate_left
      · rintro w' ⟨s0, s1, s2, s3, s4⟩
        go_simp
        with_reducible rfl
      rotate_left
      · simp only [Act.put, List.setIfInBounds_toArray, List.set_cons_zero, List.set_cons_succ, i64_w, i32_w]
        rfl
      refine pureE (i := 9) (N := some 57) #[true, true, true, true, true, true, true, true, true, true, false, false, false] HT_.out ?_
      refine pureE (i := 10) (N := some 58) #[true, true, true, true, true, true, true, true, true, true, true, false, false] HT_.out ?_
      refine pureE (i := 11) (N := some 59) #[true, true, true, true, true, true, true, true, true, true, true, true, false] HT_.out ?_
      refine last_ (i := 12) (N := none) #[true, true, true, true, true, true, true, true, true, true, true, true, true] rfl rfl (one_of HT_.out (by kernel_rfl)) (by decide) (fun K hK => ?_)
      refine skip_ (w1 := ?_) (by rfl) rfl ?_ ?_
      rotate_left
      · go_simp
        rfl
      refine hK.out _ _ ?_
      clear hK K
      refine done_ (done_of HT_.out (by kernel_rfl)) ?_
      try go_wp2
      go_roundg k2
      case measure => have := HK1.out; have := HK2.out; omega
      case rel => exact ⟨(wrap64 (x44_2 + 1)), (y667), (.slice (some ⟨go37, 0, none⟩) x653002_2.length co39), RG, H', ⟨by have := HK1.out; have := HK2.out; omega⟩, ⟨by (with_reducible repeat (first | apply Kd.R_alloc | apply Kd.R_drewN | apply Kd.R_drew)); exact Kd.R_mono (Kd.R_far (p := ⟨go37, ((rd (rd_L3 t653 x18_1) x44_2) : Int).toNat * 2 + 1, none⟩) (Kd.R_types HO_6.out GG37.out (by decide)) (fun _ hk => hk.2) (.int .i64 (wrap64 (1 - ((rd_T73 x653002_2 (rd (rd_L3 t653 x18_1) x44_2)).f1))))) (fun _ hk => trivial)⟩, ⟨by (with_reducible repeat (first | apply Kd.R_alloc | apply Kd.R_drewN | apply Kd.R_drew)); exact Kd.R_mono (Kd.R_far (p := ⟨go37, ((rd (rd_L3 t653 x18_1) x44_2) : Int).toNat * 2 + 1, none⟩) (Kd.R_types HL657_0.out GG37.out (by decide)) (fun _ hk => hk.2) (.int .i64 (wrap64 (1 - ((rd_T73 x653002_2 (rd (rd_L3 t653 x18_1) x44_2)).f1))))) (fun _ hk => trivial)⟩, ⟨by (with_reducible repeat (first | apply Kd.S_alloc | apply Kd.S_drewN | apply Kd.S_drew)); exact Kd.S_mono (Kd.S_far (p := ⟨go37, ((rd (rd_L3 t653 x18_1) x44_2) : Int).toNat * 2 + 1, none⟩) (Kd.S_types HO_16.out GG37.out (by decide)) (fun _ hk => hk.2) (.int .i64 (wrap64 (1 - ((rd_T73 x653002_2 (rd (rd_L3 t653 x18_1) x44_2)).f1))))) (fun _ hk => hk.1)⟩, ⟨PR HQ40.out⟩, ⟨by (with_reducible repeat (first | refine blk_drewN ?_ _ | refine blk_drew ?_ | refine blk_alloc ?_ _)); refine blk_far ?_ (by have h_ := Kd.R_ne HO_653002.out BK642.out (by decide); intro e_; exact h_ (by rw [e_]; rfl)) _; (with_reducible repeat (first | refine blk_drewN ?_ _ | refine blk_drew ?_ | refine blk_alloc ?_ _)); exact BK642.out⟩, ⟨by (with_reducible repeat (first | refine blk_drewN ?_ _ | refine blk_drew ?_ | refine blk_alloc ?_ _)); refine blk_far ?_ (by have h_ := Kd.R_ne HO_653002.out BK643.out (by decide); intro e_; exact h_ (by rw [e_]; rfl)) _; (with_reducible repeat (first | refine blk_drewN ?_ _ | refine blk_drew ?_ | refine blk_alloc ?_ _)); exact BK643.out⟩, ⟨by (with_reducible repeat (first | refine blk_drewN ?_ _ | refine blk_drew ?_ | refine blk_alloc ?_ _)); refine blk_far ?_ (by have h_ := Kd.R_ne HO_653002.out BK652.out (by decide); intro e_; exact h_ (by rw [e_]; rfl)) _; (with_reducible repeat (first | refine blk_drewN ?_ _ | refine blk_drew ?_ | refine blk_alloc ?_ _)); exact BK652.out⟩, ⟨by repeat (first | (with_reducible first | exact HB.out | apply below_alloc | apply pw_below_drewN | apply below_drew1 | refine below_set ?_ GB37.out | refine below_set ?_ GE642.out | refine below_set ?_ GE643.out | refine below_set ?_ GE652.out) | exact HB.out)⟩⟩
    have H' := Aside0.mk H
    clear H
    go_wp2
    go_roundg k2
    case measure => have := HK1.out; have := HK2.out; omega
    case rel => exact ⟨(y662), (wrap64 (x18_1 + 1)), (x653002_2), (u653002), RG, H', ⟨by have := HK1.out; have := HK2.out; omega⟩, ⟨PR HO_6.out⟩, ⟨PS HO_16.out⟩, ⟨PR HO_653002.out⟩, ⟨PB BK642.out⟩, ⟨PB BK643.out⟩, ⟨PB BK652.out⟩, ⟨BL HB.out⟩⟩
  replace H := bindA H; obtain ⟨t656, A41, H⟩ := H
  replace H := ifX H; rcases H with ⟨rfl, H⟩ | ⟨rfl, H⟩
  · simp only [Option.some.injEq, Prod.mk.injEq] at H
    obtain ⟨rfl, rfl⟩ := H
    have hnb43 := NB652_642.out
    have hnc43 := NB642_652.out
    have hnb44 := NB652_643.out
    have hnc44 := NB643_652.out
    obtain ⟨hcz45_0, hcz45_1, hcz45_2, hfz45_0, hfz45_1, hfz45_2⟩ := cz3 BK652.out
    have hnb46 := NB643_642.out
    have hnc46 := NB642_643.out
    obtain ⟨hcz47_0, hcz47_1, hcz47_2, hfz47_0, hfz47_1, hfz47_2⟩ := cz3 BK643.out
    obtain ⟨Ao48, co48, eo48⟩ := Kd.R_slice HO_653002.out
    subst eo48
    go_wp2_with (first | ((with_reducible refine gate_callee (f := 82) rfl ?_); refine goesM (N := (some 64)) #[.agg #[.int .i64 t647, .int .i64 t648, .slice Ao48 x653002_1.length co48], .agg #[.int .i64 a1_0, .int .i64 a1_1, .slice A1_2 l1_2.length c1_2]] Try.func82 ?_; (with_reducible refine (impl_sameBoard.calls k1 t647 t648 _ _ x653002_1 a1_0 a1_1 _ _ l1_2 true _ ?side1 ?side2 ?side3 ?side4 A41.out).mono ?_); (case side1 => repeat (first | exact (Kd.R_reads' HO_653002.out).2.2 | (with_reducible refine Kd.C_alloc ?_ _) | (with_reducible refine Kd.C_drewN ?_ _) | (with_reducible refine Kd.C_drew ?_))); (case side2 => exact (Kd.R_reads' HO_653002.out).2.1); (case side3 => exact CB (Kd.C_below HR1_2.out HB.out)); (case side4 => exact HC1_2.out); rintro e w49 ⟨rfl, hb⟩; refine ⟨_, rfl, ?_⟩; refine E7 (Kd.R_below (PR HO_6.out) hb) (Kd.S_below (PS HO_16.out) hb) (Kd.R_below (PR HO_653002.out) hb) (bB BK642.out hb) (bB BK643.out hb) (bB BK652.out hb) (below_step (BL HB.out) hb) ?_; clear HO_6 HO_16 HO_653002 BK642 BK643 BK652 HB; intro HO_6 HO_16 HO_653002 BK642 BK643 BK652 HB; (try clear hb); (try clear hb2); (try clear hk); (try clear hi)))
    go_ret2
    exact ⟨_, RF, by (with_reducible repeat (first | apply Kd.R_alloc | apply Kd.R_drewN | apply Kd.R_drew)); exact HO_6.out, BL HB.out⟩
  simp only [Option.some.injEq, Prod.mk.injEq] at H
  obtain ⟨rfl, rfl⟩ := H
  have hnb50 := NB652_642.out
  have hnc50 := NB642_652.out
  have hnb51 := NB652_643.out
  have hnc51 := NB643_652.out
  obtain ⟨hcz52_0, hcz52_1, hcz52_2, hfz52_0, hfz52_1, hfz52_2⟩ := cz3 BK652.out
  have hnb53 := NB643_642.out
  have hnc53 := NB642_643.out
  obtain ⟨hcz54_0, hcz54_1, hcz54_2, hfz54_0, hfz54_1, hfz54_2⟩ := cz3 BK643.out
  obtain ⟨Ao55, co55, eo55⟩ := Kd.R_slice HO_653002.out
  subst eo55
  go_wp2_with (first | ((with_reducible refine gate_callee (f := 82) rfl ?_); refine goesM (N := (some 64)) #[.agg #[.int .i64 t647, .int .i64 t648, .slice Ao55 x653002_1.length co55], .agg #[.int .i64 a1_0, .int .i64 a1_1, .slice A1_2 l1_2.length c1_2]] Try.func82 ?_; (with_reducible refine (impl_sameBoard.calls k1 t647 t648 _ _ x653002_1 a1_0 a1_1 _ _ l1_2 false _ ?side1 ?side2 ?side3 ?side4 A41.out).mono ?_); (case side1 => repeat (first | exact (Kd.R_reads' HO_653002.out).2.2 | (with_reducible refine Kd.C_alloc ?_ _) | (with_reducible refine Kd.C_drewN ?_ _) | (with_reducible refine Kd.C_drew ?_))); (case side2 => exact (Kd.R_reads' HO_653002.out).2.1); (case side3 => exact CB (Kd.C_below HR1_2.out HB.out)); (case side4 => exact HC1_2.out); rintro e w56 ⟨rfl, hb⟩; refine ⟨_, rfl, ?_⟩; refine E7 (Kd.R_below (PR HO_6.out) hb) (Kd.S_below (PS HO_16.out) hb) (Kd.R_below (PR HO_653002.out) hb) (bB BK642.out hb) (bB BK643.out hb) (bB BK652.out hb) (below_step (BL HB.out) hb) ?_; clear HO_6 HO_16 HO_653002 BK642 BK643 BK652 HB; intro HO_6 HO_16 HO_653002 BK642 BK643 BK652 HB; (try clear hb); (try clear hb2); (try clear hk); (try clear hi)))
  go_ret2
  exact ⟨_, RF, by first | exact Kd.R_nil _ _ _ _ _ | exact Kd.N_nil _ _ _ _ _ | exact Kd.V_nil _ _ _ _ _ | exact Kd.Q_nil _ _ _ _ _ | exact Kd.S_nil _ _ _ _ _, BL HB.out⟩
end Go.Proofs.Ytakihdabbpconaa.P
