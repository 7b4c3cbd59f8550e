-- PRINTED by print.py (a twelfth state) out of the translation. Not trusted: Lean checks it.
import Derived.Test.YtdkfgomjfigmbaaPx0
import Derived.Test.YtdkfgomjfigmbaaPx4
import Derived.Test.YtdkfgomjfigmbaaPx5
import Derived.Test.YtdkfgomjfigmbaaPx6
namespace Go.Proofs.Ytdkfgomjfigmbaa.P
open Go.RowKit Go.Proofs.YtdkfgomjfigmbaaW.PrintWords Go.Proofs.YtdkfgomjfigmbaaW.PrintLast Go.Proofs.YtdkfgomjfigmbaaW.PrintMore
attribute [local go_sem] max2_int min2_int max_two min_two max_three min_three max_four min_four   -- for this text's walks alone
set_option linter.unusedVariables false
set_option linter.unusedSimpArgs false

/-! ### spec_TruePaths: function 17 -/
open Kd
def spec_TruePaths.l0 : Nat -> List Int -> List (S63) -> Int -> Int -> Int -> List (S63) -> Int -> Option (Int × Bool)
 | 0, _, _, _, _, _, _, _ => none
 | k + 1, x4, x12, x13, x14, x207000, x207001, x207002 => if x14 < x13 then (if 0 <= x14 then (if x14 < (x12.length : Int) then (if 0 <= ((rd_T63 x12 x14).f1) then (if ((rd_T63 x12 x14).f1) < (x4.length : Int) then (if 0 <= ((rd_T63 x12 x14).f2) then (if ((rd_T63 x12 x14).f2) < (x4.length : Int) then (if x4.length < 17592186044416 then (spec_TruePaths.l0 k (x4 ++ [wrap64 ((rd x4 ((rd_T63 x12 x14).f1)) + (rd x4 ((rd_T63 x12 x14).f2)))]) x12 x13 (wrap64 (x14 + 1)) x207000 x207001 x207002) else (none)) else (none)) else (none)) else (none)) else (none)) else (none)) else (none)) else (if 0 <= x207002 then (if x207002 < (x4.length : Int) then (some (rd x4 x207002, true)) else (none)) else (none))
def spec_TruePaths.f (k : Nat) (a0_0 : Int) (l0_1 : List (S63)) (a0_2 : Int) : Option (Int × Bool) := (spec_ddGood.f k a0_0 l0_1 a0_2).bind fun t207 => (if t207 = true then (spec_TruePaths.l0 k (([0, 1] : List Int)) l0_1 (l0_1.length : Int) 0 a0_0 l0_1 a0_2) else (some (0, false)))
theorem spec_TruePaths.mono_l : ∀ k, (∀ y0 y1 y2 y3 y4 y5 y6, LeO (spec_TruePaths.l0 k y0 y1 y2 y3 y4 y5 y6) (spec_TruePaths.l0 (k + 1) y0 y1 y2 y3 y4 y5 y6))
 | 0 => fun _ _ _ _ _ _ _ r h => by simp [spec_TruePaths.l0] at h
 | k + 1 => by
  have ih0 := spec_TruePaths.mono_l k
  intros
  first | unfold spec_TruePaths.l0
  repeat' first | (with_reducible first | apply ih0 | apply spec_ddGood.mono | exact LeO.refl _ | exact LeO.none _ | refine LeO.ite ?_ ?_ | refine LeO.bind ?_ (fun _ => ?_)) | exact LeO.none _ | refine LeO.ite ?_ ?_ | refine LeO.bind ?_ (fun _ => ?_)
theorem spec_TruePaths.mono : ∀ a0 a1 a2 k, LeO (spec_TruePaths.f k a0 a1 a2) (spec_TruePaths.f (k + 1) a0 a1 a2) := by
 intro a0 a1 a2 k
 have ih0 := spec_TruePaths.mono_l k
 unfold spec_TruePaths.f
 repeat' first | (with_reducible first | apply ih0 | apply spec_ddGood.mono | exact LeO.refl _ | exact LeO.none _ | refine LeO.ite ?_ ?_ | refine LeO.bind ?_ (fun _ => ?_)) | exact LeO.none _ | refine LeO.ite ?_ ?_ | refine LeO.bind ?_ (fun _ => ?_)
def spec_TruePaths.T7 : Bool × List (List Nat × List Nat) := (true, [([], []), ([], []), ([], []), ([2], [2]), ([1, 3], [1, 3]), ([4], [4]), ([], []), ([], []), ([7], [7]), ([6, 8], [6, 8]), ([9], [9]), ([5, 10], [5, 10]), ([11], [11]), ([0, 12], [0, 12]), ([13, 13, 0, 1, 2, 3, 4, 5, 6, 7, 8, 9, 10, 11, 12, 13], [0, 1, 6, 13])])
def spec_TruePaths.B7 : List Nat := [0, 0, 0, 4, 14, 30, 0, 0, 128, 448, 960, 2046, 4094, 8191, 16383]
theorem spec_TruePaths.tab7 : rtab .any (opsOf Try.f17 7) = spec_TruePaths.T7 := by kernel_rfl
theorem spec_TruePaths.bits7 : waitsOk spec_TruePaths.T7.2 spec_TruePaths.B7 = true := by kernel_rfl
set_option maxHeartbeats 8000000 in
set_option maxRecDepth 100000 in
theorem spec_TruePaths.calls (k : Nat) (a0_0 : Int) (A0_1 : Option Addr) (c0_1 : Nat) (l0_1 : List (S63)) (a0_2 : Int) (r1 : Int) (r2 : Bool) (w : World) (hr0_1 : Kd.C k63 w A0_1 l0_1.length l0_1) (hc0_1 : l0_1.length <= c0_1) (h : spec_TruePaths.f k a0_0 l0_1 a0_2 = some (r1, r2)) :
 Calls Try.prog 17 #[.agg #[.int .i64 a0_0, .slice A0_1 l0_1.length c0_1, .int .i64 a0_2]] w fun e w' => e = .returned (.tuple #[.int .i64 r1, .bool r2]) /\ Below w.heap.size w w' := by
 have hu29 := Try.underlying29
 have hu63 := Try.underlying63
 have HR0_1 := Aside0.mk hr0_1
 have HC0_1 := Aside0.mk hc0_1
 clear hr0_1 hc0_1
 have HB := Aside0.mk (Below.refl w.heap.size w)
 have H := h
 clear h
 unfold spec_TruePaths.f at H
 replace H := bindA H; obtain ⟨t207, A2, H⟩ := H
 replace H := ifX H; rcases H with ⟨rfl, H⟩ | ⟨rfl, H⟩
 · generalize hy208 : ((([0, 1] : List Int)) : List Int) = y208 at H
   have Ny208 := Aside0.mk hy208.symm; clear hy208
   have H' := Aside0.mk H
   clear H
   go_enter Try.func17, Try.ntmps17
   go_wp2_with (first | ((with_reducible refine gate_dst (N := 1) rfl ?_); refine boxE (cs := #[.int .i64 a0_0, .slice A0_1 l0_1.length c0_1, .int .i64 a0_2]) (t := 29) ?_; intro gb206 hg w4 hbox hb; refine E4b HB.1 hg hbox hb ?_; clear HB; intro HB BK206 GW206 GE206; clear hb hbox hg; obtain ⟨hcz5_0, hcz5_1, hcz5_2, hfz5_0, hfz5_1, hfz5_2⟩ := cz3 BK206.1) | ((with_reducible refine gate_callee (f := 45) rfl ?_); refine goesM (N := (some 8)) #[.agg #[.int .i64 a0_0, .slice A0_1 l0_1.length c0_1, .int .i64 a0_2]] Try.func45 ?_; (with_reducible refine (spec_ddGood.calls k a0_0 _ _ l0_1 a0_2 true _ ?side1 ?side2 A2.1).mono ?_); (case side1 => exact CB (C_below HR0_1.1 HB.1)); (case side2 => exact HC0_1.1); rintro e w6 ⟨rfl, hb⟩; refine ⟨_, rfl, ?_⟩; refine E2 (bB BK206.1 hb) (bS HB.1 hb) ?_; clear BK206 HB; intro BK206 HB; (try clear hb)) | ((with_reducible refine gate_dst (N := 10) rfl ?_); refine R_lit (Kd.int .i64) _ 3 ?hg (N := 10) ?hd (xs := ([0, 1] : List Int)) (inner := [.int .i64 0, .int .i64 1]) (ok := fun _ => True) (okp := fun _ => True) ?hr ?hp (fun _ hk => hk) trivial (Below.refl _ _) (Nat.le_refl _) (by simp) ?_; (case hd => rfl); (case hg => rfl); (case hr => first | (go_simp; done) | (go_simp; rfl)); (case hp => exact (Reps.one (show Kd.M (Kd.int .i64) _ _ _ 0 [.int .i64 0] from rfl) (Reps.one (show Kd.M (Kd.int .i64) _ _ _ 1 [.int .i64 1] from rfl) (Reps.none _ _)))); intro v209 w7 ho8 hb hg_ hnew_; clear hg_ hnew_; (first | rw [<- Ny208.1] at ho8 | (simp only [Int.reduceToNat] at ho8; rw [<- Ny208.1] at ho8)); refine E3 (R_lower ho8 (bZ HB.1)) (bB BK206.1 hb) (bS HB.1 hb) ?_; clear BK206 HB; intro HO210 BK206 HB; clear hb ho8; obtain ⟨hcz9_0, hcz9_1, hcz9_2, hfz9_0, hfz9_1, hfz9_2⟩ := cz3 BK206.1))
   go_loopg [4, 14] k (fun kq v4 v14 w' => ∃ (x4_1 : List Int) (x14_1 : Int), v14 = .int .i64 x14_1 /\ Aside0 (spec_TruePaths.l0 kq x4_1 l0_1 (l0_1.length : Int) x14_1 a0_0 l0_1 a0_2 = some (r1, r2)) /\ Aside0 (kq <= k) /\ Aside0 (Kd.R (Kd.int .i64) 3 w' w.heap.size (fun _ => True) v4 x4_1) /\ Aside0 (w'.heap[gb206]? = some (.cells #[.int .i64 a0_0, (.slice A0_1 l0_1.length c0_1), .int .i64 a0_2] 29 (0, 0))) /\ Aside0 (Below w.heap.size w w'))
   case atStart => exact ⟨(y208), (0), RG, H', ⟨Nat.le_refl _⟩, ⟨PR HO210.1⟩, ⟨PB BK206.1⟩, ⟨BL HB.1⟩⟩
   clear H'
   clear hcz5_0 hcz5_1 hcz5_2 hcz9_0 hcz9_1 hcz9_2 hfz5_0 hfz5_1 hfz5_2 hfz9_0 hfz9_1 hfz9_2
   obtain ⟨x4_1, x14_1, rfl, HA, HK1, HO_4, BK206, HB⟩ := hrel
   cases gk with
   | zero => exact absurd HA.1 (by simp [spec_TruePaths.l0])
   | succ k1 => ?_
   have H := HA.1
   clear HA
   simp only [spec_TruePaths.l0] at H
   replace H := ifB H; rcases H with ⟨c10b0, H⟩ | ⟨c10b0, H⟩
   · replace H := ifN H; obtain ⟨c11b0, H⟩ := H
     replace H := ifN H; obtain ⟨c12b0, H⟩ := H
     replace H := ifN H; obtain ⟨c13b0, H⟩ := H
     replace H := ifN H; obtain ⟨c14b0, H⟩ := H
     replace H := ifN H; obtain ⟨c15b0, H⟩ := H
     replace H := ifN H; obtain ⟨c16b0, H⟩ := H
     replace H := ifP H; obtain ⟨c17, H⟩ := H
     have LMc17 := Aside0.mk c17
     clear c17
     generalize hy215 : ((x4_1 ++ [wrap64 ((rd x4_1 ((rd_T63 l0_1 x14_1).f1)) + (rd x4_1 ((rd_T63 l0_1 x14_1).f2)))]) : List Int) = y215 at H
     have Ny215 := Aside0.mk hy215.symm; clear hy215
     have H' := Aside0.mk H
     clear H
     have p211 : 0 <= (x14_1 : Int) := OD
     have q211 : x14_1 < (l0_1.length : Int) := OD
     obtain ⟨ad211, e211, hx211_0, hx211_1, hx211_2⟩ := at_T63 HR0_1.1 x14_1 p211 q211
     cases e211
     replace hx211_0 := (HB.1.cell (World.block_lt_of_cell? w _ hx211_0)).trans hx211_0
     replace hx211_1 := (HB.1.cell (World.block_lt_of_cell? w _ hx211_1)).trans hx211_1
     replace hx211_2 := (HB.1.cell (World.block_lt_of_cell? w _ hx211_2)).trans hx211_2
     replace p211 := eq_true p211
     replace q211 := eq_true q211
     try go_wp2_with (first | ((with_reducible refine gate_dst (N := 6) rfl ?_); refine boxE (cs := #[.int .i64 0, .int .i64 0, .int .i64 0]) (t := 63) ?_; intro gb212 hg w18 hbox hb; refine E8 (rB HO_4.1 hb) (bB BK206.1 hb) (bS HB.1 hb) (hbox) (gX HB.1 hg) (gX HB.1 hg) (nB BK206.1 hg) (nC BK206.1 hg) ?_; clear HO_4 BK206 HB; intro HO_4 BK206 HB BK212 GW212 GE212 NB206_212 NB212_206; clear hb hbox hg; have hnb19 := NB212_206.1; have hnc19 := NB206_212.1; obtain ⟨hcz20_0, hcz20_1, hcz20_2, hfz20_0, hfz20_1, hfz20_2⟩ := cz3 BK212.1))
     have n_ : (fun w21 : World => (Kd.R (Kd.int .i64) 3 w21 w.heap.size (fun _ => True) u4 x4_1) /\ (w21.heap[gb206]? = some (.cells #[.int .i64 a0_0, .slice (some ad211) l0_1.length c0_1, .int .i64 a0_2] 29 (0, 0))) /\ (w21.heap[gb212]? = some (.cells #[.int .i64 ((rd_T63 l0_1 x14_1).f0), .int .i64 ((rd_T63 l0_1 x14_1).f1), .int .i64 ((rd_T63 l0_1 x14_1).f2)] 63 (0, 0))) /\ (Below w.heap.size w w21)) (((w18.setCell ⟨gb212, 0, none⟩ (.int .i64 ((rd_T63 l0_1 x14_1).f0))).setCell ⟨gb212, 1, none⟩ (.int .i64 ((rd_T63 l0_1 x14_1).f1))).setCell ⟨gb212, 2, none⟩ (.int .i64 ((rd_T63 l0_1 x14_1).f2))) := ⟨by (with_reducible repeat (first | apply R_alloc | apply R_drewN | apply R_drew)); exact R_mono (RQ gb212 2 (RQ gb212 1 (RQ gb212 0 (R_types HO_4.1 BK212.1 (by decide)) _) _) _) (fun _ hk => trivial), by (with_reducible repeat (first | refine blk_drewN ?_ _ | refine blk_drew ?_ | refine blk_alloc ?_ _)); refine blk_far ?_ NB206_212.1 _; (with_reducible repeat (first | refine blk_drewN ?_ _ | refine blk_drew ?_ | refine blk_alloc ?_ _)); refine blk_far ?_ NB206_212.1 _; (with_reducible repeat (first | refine blk_drewN ?_ _ | refine blk_drew ?_ | refine blk_alloc ?_ _)); refine blk_far ?_ NB206_212.1 _; (with_reducible repeat (first | refine blk_drewN ?_ _ | refine blk_drew ?_ | refine blk_alloc ?_ _)); exact BK206.1, by (with_reducible repeat (first | refine blk_drewN ?_ _ | refine blk_drew ?_ | refine blk_alloc ?_ _)); refine blk_put (cs := #[.int .i64 ((rd_T63 l0_1 x14_1).f0), .int .i64 ((rd_T63 l0_1 x14_1).f1), .int .i64 0]) ?_ 2 _ rfl; (with_reducible repeat (first | refine blk_drewN ?_ _ | refine blk_drew ?_ | refine blk_alloc ?_ _)); refine blk_put (cs := #[.int .i64 ((rd_T63 l0_1 x14_1).f0), .int .i64 0, .int .i64 0]) ?_ 1 _ rfl; (with_reducible repeat (first | refine blk_drewN ?_ _ | refine blk_drew ?_ | refine blk_alloc ?_ _)); refine blk_put (cs := #[.int .i64 0, .int .i64 0, .int .i64 0]) ?_ 0 _ rfl; (with_reducible repeat (first | refine blk_drewN ?_ _ | refine blk_drew ?_ | refine blk_alloc ?_ _)); exact BK212.1, BL HB.1⟩
     (try clear HO_4)
     (try clear BK206)
     (try clear BK212)
     (try clear HB)
     generalize (((w18.setCell ⟨gb212, 0, none⟩ (.int .i64 ((rd_T63 l0_1 x14_1).f0))).setCell ⟨gb212, 1, none⟩ (.int .i64 ((rd_T63 l0_1 x14_1).f1))).setCell ⟨gb212, 2, none⟩ (.int .i64 ((rd_T63 l0_1 x14_1).f2))) = w21 at n_ ⊢
     obtain ⟨h0_, h1_, h2_, h3_⟩ := n_
     refine E4 h0_ h1_ h2_ h3_ ?_
     clear h0_ h1_ h2_ h3_
     intro HO_4 BK206 BK212 HB
     refine E4 (R_drew HO_4.1) (blk_drew BK206.1) (blk_drew BK212.1) (below_drew1 HB.1) ?_
     clear HO_4 BK206 BK212 HB
     intro HO_4 BK206 BK212 HB
     obtain ⟨Ao23, co23, eo23⟩ := R_slice HO_4.1
     (first | subst eo23 | (injection eo23 with f1_ f2_ f3_; have f4_ := f1_.symm; have f5_ := f3_.symm; clear f1_ f2_ f3_; subst f4_; subst f5_))
     have p213 : 0 <= (((rd_T63 l0_1 x14_1).f1) : Int) := OD
     have q213 : ((rd_T63 l0_1 x14_1).f1) < (x4_1.length : Int) := OD
     obtain ⟨ad213, e213, hx213_0⟩ := Kd.at_int (R_reads' HO_4.1).2.2 ((rd_T63 l0_1 x14_1).f1) p213 q213
     cases e213
     replace p213 := eq_true p213
     replace q213 := eq_true q213
     have p214 : 0 <= (((rd_T63 l0_1 x14_1).f2) : Int) := OD
     have q214 : ((rd_T63 l0_1 x14_1).f2) < (x4_1.length : Int) := OD
     obtain ⟨ad214, e214, hx214_0⟩ := Kd.at_int (R_reads' HO_4.1).2.2 ((rd_T63 l0_1 x14_1).f2) p214 q214
     obtain rfl : ad213 = ad214 := (by injection e214)
     replace p214 := eq_true p214
     replace q214 := eq_true q214
     refine start_ (n := 15) (S := fun w' => w'.cell? ⟨gb212, 0, none⟩ = some (.int .i64 ((rd_T63 l0_1 x14_1).f0)) /\ w'.cell? ⟨gb212, 1, none⟩ = some (.int .i64 ((rd_T63 l0_1 x14_1).f1)) /\ w'.cell? ⟨gb212, 2, none⟩ = some (.int .i64 ((rd_T63 l0_1 x14_1).f2)) /\ w'.cell? (ad213.add (((rd_T63 l0_1 x14_1).f1)).toNat) = some (.int .i64 (rd x4_1 ((rd_T63 l0_1 x14_1).f1))) /\ w'.cell? (ad213.add (((rd_T63 l0_1 x14_1).f2)).toNat) = some (.int .i64 (rd x4_1 ((rd_T63 l0_1 x14_1).f2)))) (ds := [12, 13]) #[Zz,Zz,Zz,Zz,Zz,Zz,Zz,Zz,Zz,Zz,Zz,Zz,Zz,Zz,Zz] (by kernel_rfl) rfl rfl ⟨(blk_cell BK212.1 0).trans rfl, (blk_cell BK212.1 1).trans rfl, (blk_cell BK212.1 2).trans rfl, hx213_0, hx214_0⟩ (fun hHeld => ?_); refine with_tabW spec_TruePaths.tab7 spec_TruePaths.bits7 (fun HT_ HW_ => ?_)
     generalize w21.drew = w22 at HO_4 BK206 BK212 HB hx213_0 hx214_0 hHeld ⊢
     refine pureF 0 (N := some 18) HT_.1 ?_
     refine pureF 1 (N := some 19) HT_.1 ?_
     refine pureF 2 (N := some 20) HT_.1 ?_
     refine pureF 6 (N := some 24) HT_.1 ?_
     refine pureF 7 (N := some 25) HT_.1 ?_
     refine takeE 3 (N := some 21) HT_.1 HW_.1 hHeld ?_
     refine pureF 4 (N := some 22) HT_.1 ?_
     refine takeE 5 (N := some 23) HT_.1 HW_.1 hHeld ?_
     refine takeE 8 (N := some 26) HT_.1 HW_.1 hHeld ?_
     refine pureF 9 (N := some 27) HT_.1 ?_
     refine takeE 10 (N := some 28) HT_.1 HW_.1 hHeld ?_
     refine pureF 11 (N := some 29) HT_.1 ?_
     refine last_ (i := 12) (N := some 30) #[Yy,Yy,Yy,Yy,Yy,Yy,Yy,Yy,Yy,Yy,Yy,Yy,Yy,Zz,Zz] rfl rfl (one_of HT_.1 (by kernel_rfl)) (by decide) (fun K hK => ?_)
     refine value_ (w1 := ?_) (v := ?_) (by rfl) rfl ?_ ?_
     rotate_left 2
     · go_simp
       constructor
       · rfl
       rfl
     refine hK.out _ _ ?_
     clear hK K
     refine norm_ (a' := ?_) ?_ ?_
     rotate_left
     · show Act.put _ (some 30) _ = _
       simp only [Act.put, List.setIfInBounds_toArray, List.set_cons_zero, List.set_cons_succ, i64_w, i32_w]
       rfl
     refine last_ (i := 13) (N := some 31) #[Yy,Yy,Yy,Yy,Yy,Yy,Yy,Yy,Yy,Yy,Yy,Yy,Yy,Yy,Zz] rfl rfl (one_of HT_.1 (by kernel_rfl)) (by decide) (fun K hK => ?_)
     refine R_append_step (Kd.int .i64) (w0 := w) w.heap.size (by rfl) (.tmp 18) (.tmp 30) 35 3 (.int .i64 0) 8 rfl Try.underlying35 info3 rfl (by decide) (by omega) (.slice (some ad213) x4_1.length co23) x4_1 (wrap64 ((rd x4_1 ((rd_T63 l0_1 x14_1).f1)) + (rd x4_1 ((rd_T63 l0_1 x14_1).f2)))) [.int .i64 (wrap64 ((rd x4_1 ((rd_T63 l0_1 x14_1).f1)) + (rd x4_1 ((rd_T63 l0_1 x14_1).f2))))] (fun _ => True) (fun _ => False) rfl rfl ?aP (fun _ hk => hk.elim) ?aF ?aO ?aB ?aS ?aL ?_
     (case aP => exact rfl)
     (case aB => exact (BL HB.1))
     (case aF => exact (fun _ _ => trivial))
     (case aO => exact (PR HO_4.1))
     (case aS => exact (bZ HB.1))
     (case aL => have := LMc17.1; omega)
     intro v216 w24 ho hb hg hat
     rw [<- Ny215.1] at ho
     refine E4 (bG BK206.1 hg (R_ne HO_4.1 BK206.1 (by decide))) (bG BK212.1 hg (R_ne HO_4.1 BK212.1 (by decide))) (hb) (ho) ?_
     clear BK206 BK212 HB HO_4
     intro BK206 BK212 HB HO217
     clear ho hb hg hat
     refine hK.out _ _ ?_
     clear hK K
     refine norm_ (a' := ?_) ?_ ?_
     rotate_left
     · show Act.put _ (some 31) _ = _
       simp only [Act.put, List.setIfInBounds_toArray, List.set_cons_zero, List.set_cons_succ, i64_w, i32_w]
       rfl
     refine pureF 14 (N := some 4) HT_.1 ?_
     refine done_ (done_of HT_.1 (by kernel_rfl)) ?_
     try go_wp2
     go_roundg k1
     case measure => have := HK1.1; omega
     case rel => exact ⟨(y215), (wrap64 (x14_1 + 1)), RG, H', ⟨by have := HK1.1; omega⟩, ⟨PR HO217.1⟩, ⟨PB BK206.1⟩, ⟨BL HB.1⟩⟩
   replace H := ifN H; obtain ⟨c25b0, H⟩ := H
   replace H := ifN H; obtain ⟨c26b0, H⟩ := H
   simp only [Option.some.injEq, Prod.mk.injEq] at H
   obtain ⟨rfl, rfl⟩ := H
   obtain ⟨hcz27_0, hcz27_1, hcz27_2, hfz27_0, hfz27_1, hfz27_2⟩ := cz3 BK206.1
   obtain ⟨Ao28, co28, eo28⟩ := R_slice HO_4.1
   subst eo28
   have p218 : 0 <= (a0_2 : Int) := OD
   have q218 : a0_2 < (x4_1.length : Int) := OD
   obtain ⟨ad218, e218, hx218_0⟩ := Kd.at_int (R_reads' HO_4.1).2.2 a0_2 p218 q218
   cases e218
   replace p218 := eq_true p218
   replace q218 := eq_true q218
   go_wp2
   go_ret2
   exact ⟨RF, BL HB.1⟩
 simp only [Option.some.injEq, Prod.mk.injEq] at H
 obtain ⟨rfl, rfl⟩ := H
 go_enter Try.func17, Try.ntmps17
 go_wp2_with (first | ((with_reducible refine gate_dst (N := 1) rfl ?_); refine boxE (cs := #[.int .i64 a0_0, .slice A0_1 l0_1.length c0_1, .int .i64 a0_2]) (t := 29) ?_; intro gb206 hg w29 hbox hb; refine E4b HB.1 hg hbox hb ?_; clear HB; intro HB BK206 GW206 GE206; clear hb hbox hg; obtain ⟨hcz30_0, hcz30_1, hcz30_2, hfz30_0, hfz30_1, hfz30_2⟩ := cz3 BK206.1) | ((with_reducible refine gate_callee (f := 45) rfl ?_); refine goesM (N := (some 8)) #[.agg #[.int .i64 a0_0, .slice A0_1 l0_1.length c0_1, .int .i64 a0_2]] Try.func45 ?_; (with_reducible refine (spec_ddGood.calls k a0_0 _ _ l0_1 a0_2 false _ ?side1 ?side2 A2.1).mono ?_); (case side1 => exact CB (C_below HR0_1.1 HB.1)); (case side2 => exact HC0_1.1); rintro e w31 ⟨rfl, hb⟩; refine ⟨_, rfl, ?_⟩; refine E2 (bB BK206.1 hb) (bS HB.1 hb) ?_; clear BK206 HB; intro BK206 HB; (try clear hb)))
 go_ret2
 exact ⟨RF, BL HB.1⟩

/-! ### impl_TruePaths: function 18 -/
open Kd
def impl_TruePaths.l0 : Nat -> List Int -> List (S63) -> Int -> Int -> Int -> List (S63) -> Int -> Option (Int × Bool)
 | 0, _, _, _, _, _, _, _ => none
 | k + 1, x4, x12, x13, x14, x220000, x220001, x220002 => if x14 < x13 then (if 0 <= x14 then (if x14 < (x12.length : Int) then (if 0 <= ((rd_T63 x12 x14).f1) then (if ((rd_T63 x12 x14).f1) < (x4.length : Int) then (if 0 <= ((rd_T63 x12 x14).f2) then (if ((rd_T63 x12 x14).f2) < (x4.length : Int) then (if x4.length < 17592186044416 then (impl_TruePaths.l0 k (x4 ++ [wrap64 ((rd x4 ((rd_T63 x12 x14).f1)) + (rd x4 ((rd_T63 x12 x14).f2)))]) x12 x13 (wrap64 (x14 + 1)) x220000 x220001 x220002) else (none)) else (none)) else (none)) else (none)) else (none)) else (none)) else (none)) else (if 0 <= x220002 then (if x220002 < (x4.length : Int) then (some (rd x4 x220002, true)) else (none)) else (none))
def impl_TruePaths.f (k : Nat) (a0_0 : Int) (l0_1 : List (S63)) (a0_2 : Int) : Option (Int × Bool) := (impl_IsDiagram.f k a0_0 l0_1 a0_2).bind fun t220 => (if t220 = true then (impl_TruePaths.l0 k (([0, 1] : List Int)) l0_1 (l0_1.length : Int) 0 a0_0 l0_1 a0_2) else (some (0, false)))
theorem impl_TruePaths.mono_l : ∀ k, (∀ y0 y1 y2 y3 y4 y5 y6, LeO (impl_TruePaths.l0 k y0 y1 y2 y3 y4 y5 y6) (impl_TruePaths.l0 (k + 1) y0 y1 y2 y3 y4 y5 y6))
 | 0 => fun _ _ _ _ _ _ _ r h => by simp [impl_TruePaths.l0] at h
 | k + 1 => by
  have ih0 := impl_TruePaths.mono_l k
  intros
  first | unfold impl_TruePaths.l0
  repeat' first | (with_reducible first | apply ih0 | apply impl_IsDiagram.mono | exact LeO.refl _ | exact LeO.none _ | refine LeO.ite ?_ ?_ | refine LeO.bind ?_ (fun _ => ?_)) | exact LeO.none _ | refine LeO.ite ?_ ?_ | refine LeO.bind ?_ (fun _ => ?_)
theorem impl_TruePaths.mono : ∀ a0 a1 a2 k, LeO (impl_TruePaths.f k a0 a1 a2) (impl_TruePaths.f (k + 1) a0 a1 a2) := by
 intro a0 a1 a2 k
 have ih0 := impl_TruePaths.mono_l k
 unfold impl_TruePaths.f
 repeat' first | (with_reducible first | apply ih0 | apply impl_IsDiagram.mono | exact LeO.refl _ | exact LeO.none _ | refine LeO.ite ?_ ?_ | refine LeO.bind ?_ (fun _ => ?_)) | exact LeO.none _ | refine LeO.ite ?_ ?_ | refine LeO.bind ?_ (fun _ => ?_)
def impl_TruePaths.T7 : Bool × List (List Nat × List Nat) := (true, [([], []), ([], []), ([], []), ([2], [2]), ([1, 3], [1, 3]), ([4], [4]), ([], []), ([], []), ([7], [7]), ([6, 8], [6, 8]), ([9], [9]), ([5, 10], [5, 10]), ([11], [11]), ([0, 12], [0, 12]), ([13, 13, 0, 1, 2, 3, 4, 5, 6, 7, 8, 9, 10, 11, 12, 13], [0, 1, 6, 13])])
def impl_TruePaths.B7 : List Nat := [0, 0, 0, 4, 14, 30, 0, 0, 128, 448, 960, 2046, 4094, 8191, 16383]
theorem impl_TruePaths.tab7 : rtab .any (opsOf Try.f18 7) = impl_TruePaths.T7 := by kernel_rfl
theorem impl_TruePaths.bits7 : waitsOk impl_TruePaths.T7.2 impl_TruePaths.B7 = true := by kernel_rfl
set_option maxHeartbeats 8000000 in
set_option maxRecDepth 100000 in
theorem impl_TruePaths.calls (k : Nat) (a0_0 : Int) (A0_1 : Option Addr) (c0_1 : Nat) (l0_1 : List (S63)) (a0_2 : Int) (r1 : Int) (r2 : Bool) (w : World) (hr0_1 : Kd.C k63 w A0_1 l0_1.length l0_1) (hc0_1 : l0_1.length <= c0_1) (h : impl_TruePaths.f k a0_0 l0_1 a0_2 = some (r1, r2)) :
 Calls Try.prog 18 #[.agg #[.int .i64 a0_0, .slice A0_1 l0_1.length c0_1, .int .i64 a0_2]] w fun e w' => e = .returned (.tuple #[.int .i64 r1, .bool r2]) /\ Below w.heap.size w w' := by
 have hu29 := Try.underlying29
 have hu63 := Try.underlying63
 have HR0_1 := Aside0.mk hr0_1
 have HC0_1 := Aside0.mk hc0_1
 clear hr0_1 hc0_1
 have HB := Aside0.mk (Below.refl w.heap.size w)
 have H := h
 clear h
 unfold impl_TruePaths.f at H
 replace H := bindA H; obtain ⟨t220, A2, H⟩ := H
 replace H := ifX H; rcases H with ⟨rfl, H⟩ | ⟨rfl, H⟩
 · generalize hy221 : ((([0, 1] : List Int)) : List Int) = y221 at H
   have Ny221 := Aside0.mk hy221.symm; clear hy221
   have H' := Aside0.mk H
   clear H
   go_enter Try.func18, Try.ntmps18
   go_wp2_with (first | ((with_reducible refine gate_dst (N := 1) rfl ?_); refine boxE (cs := #[.int .i64 a0_0, .slice A0_1 l0_1.length c0_1, .int .i64 a0_2]) (t := 29) ?_; intro gb219 hg w4 hbox hb; refine E4b HB.1 hg hbox hb ?_; clear HB; intro HB BK219 GW219 GE219; clear hb hbox hg; obtain ⟨hcz5_0, hcz5_1, hcz5_2, hfz5_0, hfz5_1, hfz5_2⟩ := cz3 BK219.1) | ((with_reducible refine gate_callee (f := 15) rfl ?_); refine goesM (N := (some 8)) #[.agg #[.int .i64 a0_0, .slice A0_1 l0_1.length c0_1, .int .i64 a0_2]] Try.func15 ?_; (with_reducible refine (impl_IsDiagram.calls k a0_0 _ _ l0_1 a0_2 true _ ?side1 ?side2 A2.1).mono ?_); (case side1 => exact CB (C_below HR0_1.1 HB.1)); (case side2 => exact HC0_1.1); rintro e w6 ⟨rfl, hb⟩; refine ⟨_, rfl, ?_⟩; refine E2 (bB BK219.1 hb) (bS HB.1 hb) ?_; clear BK219 HB; intro BK219 HB; (try clear hb)) | ((with_reducible refine gate_dst (N := 10) rfl ?_); refine R_lit (Kd.int .i64) _ 3 ?hg (N := 10) ?hd (xs := ([0, 1] : List Int)) (inner := [.int .i64 0, .int .i64 1]) (ok := fun _ => True) (okp := fun _ => True) ?hr ?hp (fun _ hk => hk) trivial (Below.refl _ _) (Nat.le_refl _) (by simp) ?_; (case hd => rfl); (case hg => rfl); (case hr => first | (go_simp; done) | (go_simp; rfl)); (case hp => exact (Reps.one (show Kd.M (Kd.int .i64) _ _ _ 0 [.int .i64 0] from rfl) (Reps.one (show Kd.M (Kd.int .i64) _ _ _ 1 [.int .i64 1] from rfl) (Reps.none _ _)))); intro v222 w7 ho8 hb hg_ hnew_; clear hg_ hnew_; (first | rw [<- Ny221.1] at ho8 | (simp only [Int.reduceToNat] at ho8; rw [<- Ny221.1] at ho8)); refine E3 (R_lower ho8 (bZ HB.1)) (bB BK219.1 hb) (bS HB.1 hb) ?_; clear BK219 HB; intro HO223 BK219 HB; clear hb ho8; obtain ⟨hcz9_0, hcz9_1, hcz9_2, hfz9_0, hfz9_1, hfz9_2⟩ := cz3 BK219.1))
   go_loopg [4, 14] k (fun kq v4 v14 w' => ∃ (x4_1 : List Int) (x14_1 : Int), v14 = .int .i64 x14_1 /\ Aside0 (impl_TruePaths.l0 kq x4_1 l0_1 (l0_1.length : Int) x14_1 a0_0 l0_1 a0_2 = some (r1, r2)) /\ Aside0 (kq <= k) /\ Aside0 (Kd.R (Kd.int .i64) 3 w' w.heap.size (fun _ => True) v4 x4_1) /\ Aside0 (w'.heap[gb219]? = some (.cells #[.int .i64 a0_0, (.slice A0_1 l0_1.length c0_1), .int .i64 a0_2] 29 (0, 0))) /\ Aside0 (Below w.heap.size w w'))
   case atStart => exact ⟨(y221), (0), RG, H', ⟨Nat.le_refl _⟩, ⟨PR HO223.1⟩, ⟨PB BK219.1⟩, ⟨BL HB.1⟩⟩
   clear H'
   clear hcz5_0 hcz5_1 hcz5_2 hcz9_0 hcz9_1 hcz9_2 hfz5_0 hfz5_1 hfz5_2 hfz9_0 hfz9_1 hfz9_2
   obtain ⟨x4_1, x14_1, rfl, HA, HK1, HO_4, BK219, HB⟩ := hrel
   cases gk with
   | zero => exact absurd HA.1 (by simp [impl_TruePaths.l0])
   | succ k1 => ?_
   have H := HA.1
   clear HA
   simp only [impl_TruePaths.l0] at H
   replace H := ifB H; rcases H with ⟨c10b0, H⟩ | ⟨c10b0, H⟩
   · replace H := ifN H; obtain ⟨c11b0, H⟩ := H
     replace H := ifN H; obtain ⟨c12b0, H⟩ := H
     replace H := ifN H; obtain ⟨c13b0, H⟩ := H
     replace H := ifN H; obtain ⟨c14b0, H⟩ := H
     replace H := ifN H; obtain ⟨c15b0, H⟩ := H
     replace H := ifN H; obtain ⟨c16b0, H⟩ := H
     replace H := ifP H; obtain ⟨c17, H⟩ := H
     have LMc17 := Aside0.mk c17
     clear c17
     generalize hy228 : ((x4_1 ++ [wrap64 ((rd x4_1 ((rd_T63 l0_1 x14_1).f1)) + (rd x4_1 ((rd_T63 l0_1 x14_1).f2)))]) : List Int) = y228 at H
     have Ny228 := Aside0.mk hy228.symm; clear hy228
     have H' := Aside0.mk H
     clear H
     have p224 : 0 <= (x14_1 : Int) := OD
     have q224 : x14_1 < (l0_1.length : Int) := OD
     obtain ⟨ad224, e224, hx224_0, hx224_1, hx224_2⟩ := at_T63 HR0_1.1 x14_1 p224 q224
     cases e224
     replace hx224_0 := (HB.1.cell (World.block_lt_of_cell? w _ hx224_0)).trans hx224_0
     replace hx224_1 := (HB.1.cell (World.block_lt_of_cell? w _ hx224_1)).trans hx224_1
     replace hx224_2 := (HB.1.cell (World.block_lt_of_cell? w _ hx224_2)).trans hx224_2
     replace p224 := eq_true p224
     replace q224 := eq_true q224
     try go_wp2_with (first | ((with_reducible refine gate_dst (N := 6) rfl ?_); refine boxE (cs := #[.int .i64 0, .int .i64 0, .int .i64 0]) (t := 63) ?_; intro gb225 hg w18 hbox hb; refine E8 (rB HO_4.1 hb) (bB BK219.1 hb) (bS HB.1 hb) (hbox) (gX HB.1 hg) (gX HB.1 hg) (nB BK219.1 hg) (nC BK219.1 hg) ?_; clear HO_4 BK219 HB; intro HO_4 BK219 HB BK225 GW225 GE225 NB219_225 NB225_219; clear hb hbox hg; have hnb19 := NB225_219.1; have hnc19 := NB219_225.1; obtain ⟨hcz20_0, hcz20_1, hcz20_2, hfz20_0, hfz20_1, hfz20_2⟩ := cz3 BK225.1))
     have n_ : (fun w21 : World => (Kd.R (Kd.int .i64) 3 w21 w.heap.size (fun _ => True) u4 x4_1) /\ (w21.heap[gb219]? = some (.cells #[.int .i64 a0_0, .slice (some ad224) l0_1.length c0_1, .int .i64 a0_2] 29 (0, 0))) /\ (w21.heap[gb225]? = some (.cells #[.int .i64 ((rd_T63 l0_1 x14_1).f0), .int .i64 ((rd_T63 l0_1 x14_1).f1), .int .i64 ((rd_T63 l0_1 x14_1).f2)] 63 (0, 0))) /\ (Below w.heap.size w w21)) (((w18.setCell ⟨gb225, 0, none⟩ (.int .i64 ((rd_T63 l0_1 x14_1).f0))).setCell ⟨gb225, 1, none⟩ (.int .i64 ((rd_T63 l0_1 x14_1).f1))).setCell ⟨gb225, 2, none⟩ (.int .i64 ((rd_T63 l0_1 x14_1).f2))) := ⟨by (with_reducible repeat (first | apply R_alloc | apply R_drewN | apply R_drew)); exact R_mono (RQ gb225 2 (RQ gb225 1 (RQ gb225 0 (R_types HO_4.1 BK225.1 (by decide)) _) _) _) (fun _ hk => trivial), by (with_reducible repeat (first | refine blk_drewN ?_ _ | refine blk_drew ?_ | refine blk_alloc ?_ _)); refine blk_far ?_ NB219_225.1 _; (with_reducible repeat (first | refine blk_drewN ?_ _ | refine blk_drew ?_ | refine blk_alloc ?_ _)); refine blk_far ?_ NB219_225.1 _; (with_reducible repeat (first | refine blk_drewN ?_ _ | refine blk_drew ?_ | refine blk_alloc ?_ _)); refine blk_far ?_ NB219_225.1 _; (with_reducible repeat (first | refine blk_drewN ?_ _ | refine blk_drew ?_ | refine blk_alloc ?_ _)); exact BK219.1, by (with_reducible repeat (first | refine blk_drewN ?_ _ | refine blk_drew ?_ | refine blk_alloc ?_ _)); refine blk_put (cs := #[.int .i64 ((rd_T63 l0_1 x14_1).f0), .int .i64 ((rd_T63 l0_1 x14_1).f1), .int .i64 0]) ?_ 2 _ rfl; (with_reducible repeat (first | refine blk_drewN ?_ _ | refine blk_drew ?_ | refine blk_alloc ?_ _)); refine blk_put (cs := #[.int .i64 ((rd_T63 l0_1 x14_1).f0), .int .i64 0, .int .i64 0]) ?_ 1 _ rfl; (with_reducible repeat (first | refine blk_drewN ?_ _ | refine blk_drew ?_ | refine blk_alloc ?_ _)); refine blk_put (cs := #[.int .i64 0, .int .i64 0, .int .i64 0]) ?_ 0 _ rfl; (with_reducible repeat (first | refine blk_drewN ?_ _ | refine blk_drew ?_ | refine blk_alloc ?_ _)); exact BK225.1, BL HB.1⟩
     (try clear HO_4)
     (try clear BK219)
     (try clear BK225)
     (try clear HB)
     generalize (((w18.setCell ⟨gb225, 0, none⟩ (.int .i64 ((rd_T63 l0_1 x14_1).f0))).setCell ⟨gb225, 1, none⟩ (.int .i64 ((rd_T63 l0_1 x14_1).f1))).setCell ⟨gb225, 2, none⟩ (.int .i64 ((rd_T63 l0_1 x14_1).f2))) = w21 at n_ ⊢
     obtain ⟨h0_, h1_, h2_, h3_⟩ := n_
     refine E4 h0_ h1_ h2_ h3_ ?_
     clear h0_ h1_ h2_ h3_
     intro HO_4 BK219 BK225 HB
     refine E4 (R_drew HO_4.1) (blk_drew BK219.1) (blk_drew BK225.1) (below_drew1 HB.1) ?_
     clear HO_4 BK219 BK225 HB
     intro HO_4 BK219 BK225 HB
     obtain ⟨Ao23, co23, eo23⟩ := R_slice HO_4.1
     (first | subst eo23 | (injection eo23 with f1_ f2_ f3_; have f4_ := f1_.symm; have f5_ := f3_.symm; clear f1_ f2_ f3_; subst f4_; subst f5_))
     have p226 : 0 <= (((rd_T63 l0_1 x14_1).f1) : Int) := OD
     have q226 : ((rd_T63 l0_1 x14_1).f1) < (x4_1.length : Int) := OD
     obtain ⟨ad226, e226, hx226_0⟩ := Kd.at_int (R_reads' HO_4.1).2.2 ((rd_T63 l0_1 x14_1).f1) p226 q226
     cases e226
     replace p226 := eq_true p226
     replace q226 := eq_true q226
     have p227 : 0 <= (((rd_T63 l0_1 x14_1).f2) : Int) := OD
     have q227 : ((rd_T63 l0_1 x14_1).f2) < (x4_1.length : Int) := OD
     obtain ⟨ad227, e227, hx227_0⟩ := Kd.at_int (R_reads' HO_4.1).2.2 ((rd_T63 l0_1 x14_1).f2) p227 q227
     obtain rfl : ad226 = ad227 := (by injection e227)
     replace p227 := eq_true p227
     replace q227 := eq_true q227
     refine start_ (n := 15) (S := fun w' => w'.cell? ⟨gb225, 0, none⟩ = some (.int .i64 ((rd_T63 l0_1 x14_1).f0)) /\ w'.cell? ⟨gb225, 1, none⟩ = some (.int .i64 ((rd_T63 l0_1 x14_1).f1)) /\ w'.cell? ⟨gb225, 2, none⟩ = some (.int .i64 ((rd_T63 l0_1 x14_1).f2)) /\ w'.cell? (ad226.add (((rd_T63 l0_1 x14_1).f1)).toNat) = some (.int .i64 (rd x4_1 ((rd_T63 l0_1 x14_1).f1))) /\ w'.cell? (ad226.add (((rd_T63 l0_1 x14_1).f2)).toNat) = some (.int .i64 (rd x4_1 ((rd_T63 l0_1 x14_1).f2)))) (ds := [12, 13]) #[Zz,Zz,Zz,Zz,Zz,Zz,Zz,Zz,Zz,Zz,Zz,Zz,Zz,Zz,Zz] (by kernel_rfl) rfl rfl ⟨(blk_cell BK225.1 0).trans rfl, (blk_cell BK225.1 1).trans rfl, (blk_cell BK225.1 2).trans rfl, hx226_0, hx227_0⟩ (fun hHeld => ?_); refine with_tabW impl_TruePaths.tab7 impl_TruePaths.bits7 (fun HT_ HW_ => ?_)
     generalize w21.drew = w22 at HO_4 BK219 BK225 HB hx226_0 hx227_0 hHeld ⊢
     refine pureF 0 (N := some 18) HT_.1 ?_
     refine pureF 1 (N := some 19) HT_.1 ?_
     refine pureF 2 (N := some 20) HT_.1 ?_
     refine pureF 6 (N := some 24) HT_.1 ?_
     refine pureF 7 (N := some 25) HT_.1 ?_
     refine takeE 3 (N := some 21) HT_.1 HW_.1 hHeld ?_
     refine pureF 4 (N := some 22) HT_.1 ?_
     refine takeE 5 (N := some 23) HT_.1 HW_.1 hHeld ?_
     refine takeE 8 (N := some 26) HT_.1 HW_.1 hHeld ?_
     refine pureF 9 (N := some 27) HT_.1 ?_
     refine takeE 10 (N := some 28) HT_.1 HW_.1 hHeld ?_
     refine pureF 11 (N := some 29) HT_.1 ?_
     refine last_ (i := 12) (N := some 30) #[Yy,Yy,Yy,Yy,Yy,Yy,Yy,Yy,Yy,Yy,Yy,Yy,Yy,Zz,Zz] rfl rfl (one_of HT_.1 (by kernel_rfl)) (by decide) (fun K hK => ?_)
     refine value_ (w1 := ?_) (v := ?_) (by rfl) rfl ?_ ?_
     rotate_left 2
     · go_simp
       constructor
       · rfl
       rfl
     refine hK.out _ _ ?_
     clear hK K
     refine norm_ (a' := ?_) ?_ ?_
     rotate_left
     · show Act.put _ (some 30) _ = _
       simp only [Act.put, List.setIfInBounds_toArray, List.set_cons_zero, List.set_cons_succ, i64_w, i32_w]
       rfl
     refine last_ (i := 13) (N := some 31) #[Yy,Yy,Yy,Yy,Yy,Yy,Yy,Yy,Yy,Yy,Yy,Yy,Yy,Yy,Zz] rfl rfl (one_of HT_.1 (by kernel_rfl)) (by decide) (fun K hK => ?_)
     refine R_append_step (Kd.int .i64) (w0 := w) w.heap.size (by rfl) (.tmp 18) (.tmp 30) 35 3 (.int .i64 0) 8 rfl Try.underlying35 info3 rfl (by decide) (by omega) (.slice (some ad226) x4_1.length co23) x4_1 (wrap64 ((rd x4_1 ((rd_T63 l0_1 x14_1).f1)) + (rd x4_1 ((rd_T63 l0_1 x14_1).f2)))) [.int .i64 (wrap64 ((rd x4_1 ((rd_T63 l0_1 x14_1).f1)) + (rd x4_1 ((rd_T63 l0_1 x14_1).f2))))] (fun _ => True) (fun _ => False) rfl rfl ?aP (fun _ hk => hk.elim) ?aF ?aO ?aB ?aS ?aL ?_
     (case aP => exact rfl)
     (case aB => exact (BL HB.1))
     (case aF => exact (fun _ _ => trivial))
     (case aO => exact (PR HO_4.1))
     (case aS => exact (bZ HB.1))
     (case aL => have := LMc17.1; omega)
     intro v229 w24 ho hb hg hat
     rw [<- Ny228.1] at ho
     refine E4 (bG BK219.1 hg (R_ne HO_4.1 BK219.1 (by decide))) (bG BK225.1 hg (R_ne HO_4.1 BK225.1 (by decide))) (hb) (ho) ?_
     clear BK219 BK225 HB HO_4
     intro BK219 BK225 HB HO230
     clear ho hb hg hat
     refine hK.out _ _ ?_
     clear hK K
     refine norm_ (a' := ?_) ?_ ?_
     rotate_left
     · show Act.put _ (some 31) _ = _
       simp only [Act.put, List.setIfInBounds_toArray, List.set_cons_zero, List.set_cons_succ, i64_w, i32_w]
       rfl
     refine pureF 14 (N := some 4) HT_.1 ?_
     refine done_ (done_of HT_.1 (by kernel_rfl)) ?_
     try go_wp2
     go_roundg k1
     case measure => have := HK1.1; omega
     case rel => exact ⟨(y228), (wrap64 (x14_1 + 1)), RG, H', ⟨by have := HK1.1; omega⟩, ⟨PR HO230.1⟩, ⟨PB BK219.1⟩, ⟨BL HB.1⟩⟩
   replace H := ifN H; obtain ⟨c25b0, H⟩ := H
   replace H := ifN H; obtain ⟨c26b0, H⟩ := H
   simp only [Option.some.injEq, Prod.mk.injEq] at H
   obtain ⟨rfl, rfl⟩ := H
   obtain ⟨hcz27_0, hcz27_1, hcz27_2, hfz27_0, hfz27_1, hfz27_2⟩ := cz3 BK219.1
   obtain ⟨Ao28, co28, eo28⟩ := R_slice HO_4.1
   subst eo28
   have p231 : 0 <= (a0_2 : Int) := OD
   have q231 : a0_2 < (x4_1.length : Int) := OD
   obtain ⟨ad231, e231, hx231_0⟩ := Kd.at_int (R_reads' HO_4.1).2.2 a0_2 p231 q231
   cases e231
   replace p231 := eq_true p231
   replace q231 := eq_true q231
   go_wp2
   go_ret2
   exact ⟨RF, BL HB.1⟩
 simp only [Option.some.injEq, Prod.mk.injEq] at H
 obtain ⟨rfl, rfl⟩ := H
 go_enter Try.func18, Try.ntmps18
 go_wp2_with (first | ((with_reducible refine gate_dst (N := 1) rfl ?_); refine boxE (cs := #[.int .i64 a0_0, .slice A0_1 l0_1.length c0_1, .int .i64 a0_2]) (t := 29) ?_; intro gb219 hg w29 hbox hb; refine E4b HB.1 hg hbox hb ?_; clear HB; intro HB BK219 GW219 GE219; clear hb hbox hg; obtain ⟨hcz30_0, hcz30_1, hcz30_2, hfz30_0, hfz30_1, hfz30_2⟩ := cz3 BK219.1) | ((with_reducible refine gate_callee (f := 15) rfl ?_); refine goesM (N := (some 8)) #[.agg #[.int .i64 a0_0, .slice A0_1 l0_1.length c0_1, .int .i64 a0_2]] Try.func15 ?_; (with_reducible refine (impl_IsDiagram.calls k a0_0 _ _ l0_1 a0_2 false _ ?side1 ?side2 A2.1).mono ?_); (case side1 => exact CB (C_below HR0_1.1 HB.1)); (case side2 => exact HC0_1.1); rintro e w31 ⟨rfl, hb⟩; refine ⟨_, rfl, ?_⟩; refine E2 (bB BK219.1 hb) (bS HB.1 hb) ?_; clear BK219 HB; intro BK219 HB; (try clear hb)))
 go_ret2
 exact ⟨RF, BL HB.1⟩

/-! ### laws_FnExactTruePaths: function 4 -/
open Kd
def laws_FnExactTruePaths.j0 : Nat -> Bool -> Int -> List (S86) -> Int -> Int -> List (S63) -> Int -> Option (Bool)
 | 0, _, _, _, _, _, _, _ => none
 | k + 1, x34, x233000, x233001, x233002, x247000, x247001, x247002 => if x34 = true then (some false) else ((laws_toDiagram.f k x233000 x233001 x233002).bind fun bt249 => ((laws_eqDiagram.f k x247000 x247001 x247002 bt249.1 bt249.2.1 bt249.2.2).bind fun t254 => (if t254 = true then (some true) else (some false))))
def laws_FnExactTruePaths.f (k : Nat) (a0_0 : Int) (l0_1 : List (S86)) (a0_2 : Int) : Option (Bool) := (laws_szDiagram.f a0_0 l0_1 a0_2 1048576).bind fun t233 => (if t233 < 0 then (some true) else ((laws_toDiagram.f k a0_0 l0_1 a0_2).bind fun bt234 => ((spec_TruePaths.f k bt234.1 bt234.2.1 bt234.2.2).bind fun bt239 => ((laws_toDiagram.f k a0_0 l0_1 a0_2).bind fun bt241 => ((impl_TruePaths.f k bt241.1 bt241.2.1 bt241.2.2).bind fun bt247 => (if bt247.1 = bt239.1 then (laws_FnExactTruePaths.j0 k (bt247.2 != bt239.2) a0_0 l0_1 a0_2 bt241.1 bt241.2.1 bt241.2.2) else (laws_FnExactTruePaths.j0 k true a0_0 l0_1 a0_2 bt241.1 bt241.2.1 bt241.2.2)))))))
theorem laws_FnExactTruePaths.mono_l : ∀ k, (∀ y0 y1 y2 y3 y4 y5 y6, LeO (laws_FnExactTruePaths.j0 k y0 y1 y2 y3 y4 y5 y6) (laws_FnExactTruePaths.j0 (k + 1) y0 y1 y2 y3 y4 y5 y6))
 | 0 => fun _ _ _ _ _ _ _ r h => by simp [laws_FnExactTruePaths.j0] at h
 | k + 1 => by
  have ih0 := laws_FnExactTruePaths.mono_l k
  intros
  first | unfold laws_FnExactTruePaths.j0
  repeat' first | (with_reducible first | apply ih0 | apply impl_TruePaths.mono | apply laws_eqDiagram.mono | apply laws_toDiagram.mono | apply spec_TruePaths.mono | exact LeO.refl _ | exact LeO.none _ | refine LeO.ite ?_ ?_ | refine LeO.bind ?_ (fun _ => ?_)) | exact LeO.none _ | refine LeO.ite ?_ ?_ | refine LeO.bind ?_ (fun _ => ?_)
theorem laws_FnExactTruePaths.mono : ∀ a0 a1 a2 k, LeO (laws_FnExactTruePaths.f k a0 a1 a2) (laws_FnExactTruePaths.f (k + 1) a0 a1 a2) := by
 intro a0 a1 a2 k
 have ih0 := laws_FnExactTruePaths.mono_l k
 unfold laws_FnExactTruePaths.f
 repeat' first | (with_reducible first | apply ih0 | apply impl_TruePaths.mono | apply laws_eqDiagram.mono | apply laws_toDiagram.mono | apply spec_TruePaths.mono | exact LeO.refl _ | exact LeO.none _ | refine LeO.ite ?_ ?_ | refine LeO.bind ?_ (fun _ => ?_)) | exact LeO.none _ | refine LeO.ite ?_ ?_ | refine LeO.bind ?_ (fun _ => ?_)
set_option maxHeartbeats 8000000 in
set_option maxRecDepth 100000 in
theorem laws_FnExactTruePaths.calls (k : Nat) (a0_0 : Int) (A0_1 : Option Addr) (c0_1 : Nat) (l0_1 : List (S86)) (a0_2 : Int) (w : World) (hr0_1 : Kd.C k86 w A0_1 l0_1.length l0_1) (hc0_1 : l0_1.length <= c0_1) (h : laws_FnExactTruePaths.f k a0_0 l0_1 a0_2 = some true) :
 Calls Try.prog 4 #[.agg #[.int .i64 a0_0, .slice A0_1 l0_1.length c0_1, .int .i64 a0_2]] w fun e w' => e = .returned (.bool true) /\ Below w.heap.size w w' := by
 have hu24 := Try.underlying24
 have hu29 := Try.underlying29
 have HR0_1 := Aside0.mk hr0_1
 have HC0_1 := Aside0.mk hc0_1
 clear hr0_1 hc0_1
 have HB := Aside0.mk (Below.refl w.heap.size w)
 have H := h
 clear h
 unfold laws_FnExactTruePaths.f at H
 replace H := bindA H; obtain ⟨t233, A2, H⟩ := H
 replace H := ifB H; rcases H with ⟨c3b0, H⟩ | ⟨c3b0, H⟩
 · first | (obtain rfl := Option.some.inj H) | clear H
   go_enter Try.func4, Try.ntmps4
   go_wp2_with (first | ((with_reducible refine gate_dst (N := 1) rfl ?_); refine boxE (cs := #[.int .i64 a0_0, .slice A0_1 l0_1.length c0_1, .int .i64 a0_2]) (t := 24) ?_; intro gb232 hg w4 hbox hb; refine E4b HB.1 hg hbox hb ?_; clear HB; intro HB BK232 GW232 GE232; clear hb hbox hg; obtain ⟨hcz5_0, hcz5_1, hcz5_2, hfz5_0, hfz5_1, hfz5_2⟩ := cz3 BK232.1) | ((with_reducible refine gate_callee (f := 12) rfl ?_); refine goesM (N := (some 11)) #[.agg #[.int .i64 a0_0, .slice A0_1 l0_1.length c0_1, .int .i64 a0_2], .int .i64 1048576] Try.func12 ?_; (with_reducible refine (laws_szDiagram.calls a0_0 _ _ l0_1 a0_2 1048576 t233 _ ?side1 ?side2 A2.1).mono ?_); (case side1 => exact CB (C_below HR0_1.1 HB.1)); (case side2 => exact HC0_1.1); rintro e w6 ⟨rfl, hb⟩; refine ⟨_, rfl, ?_⟩; refine E2 (bB BK232.1 hb) (bS HB.1 hb) ?_; clear BK232 HB; intro BK232 HB; (try clear hb)))
   go_ret
   exact ⟨RF, BL HB.1⟩
 replace H := bindA H; obtain ⟨⟨t234, t235, t238⟩, A7, H⟩ := H
 dsimp only at H
 replace H := bindA H; obtain ⟨⟨t239, t240⟩, A8, H⟩ := H
 dsimp only at H
 replace H := bindA H; obtain ⟨⟨t241, t242, t245⟩, A9, H⟩ := H
 dsimp only at H
 replace H := bindA H; obtain ⟨⟨t247, t248⟩, A10, H⟩ := H
 dsimp only at H
 have HC11 := Aside0.mk H
 clear H
 go_enter Try.func4, Try.ntmps4
 go_upto_region 8 with (first | ((with_reducible refine gate_dst (N := 1) rfl ?_); refine boxE (cs := #[.int .i64 a0_0, .slice A0_1 l0_1.length c0_1, .int .i64 a0_2]) (t := 24) ?_; intro gb232 hg w12 hbox hb; refine E4b HB.1 hg hbox hb ?_; clear HB; intro HB BK232 GW232 GE232; clear hb hbox hg; obtain ⟨hcz13_0, hcz13_1, hcz13_2, hfz13_0, hfz13_1, hfz13_2⟩ := cz3 BK232.1) | ((with_reducible refine gate_callee (f := 12) rfl ?_); refine goesM (N := (some 11)) #[.agg #[.int .i64 a0_0, .slice A0_1 l0_1.length c0_1, .int .i64 a0_2], .int .i64 1048576] Try.func12 ?_; (with_reducible refine (laws_szDiagram.calls a0_0 _ _ l0_1 a0_2 1048576 t233 _ ?side1 ?side2 A2.1).mono ?_); (case side1 => exact CB (C_below HR0_1.1 HB.1)); (case side2 => exact HC0_1.1); rintro e w14 ⟨rfl, hb⟩; refine ⟨_, rfl, ?_⟩; refine E2 (bB BK232.1 hb) (bS HB.1 hb) ?_; clear BK232 HB; intro BK232 HB; (try clear hb); obtain ⟨hcz15_0, hcz15_1, hcz15_2, hfz15_0, hfz15_1, hfz15_2⟩ := cz3 BK232.1) | ((with_reducible refine gate_callee (f := 14) rfl ?_); refine goesM (N := (some 16)) #[.agg #[.int .i64 a0_0, .slice A0_1 l0_1.length c0_1, .int .i64 a0_2]] Try.func14 ?_; (with_reducible refine (laws_toDiagram.calls k a0_0 _ _ l0_1 a0_2 t234 t235 t238 _ ?side1 ?side2 A7.1).mono ?_); (case side1 => exact CB (C_below HR0_1.1 HB.1)); (case side2 => exact HC0_1.1); rintro e w16 ⟨v236, rfl, ho0, hb⟩; refine ⟨_, rfl, ?_⟩; refine E3 (R_lower ho0 (bZ HB.1)) (bB BK232.1 hb) (bS HB.1 hb) ?_; clear BK232 HB; intro HO237 BK232 HB; (try clear hb); (try clear ho0); obtain ⟨Ao17, co17, eo17⟩ := R_slice HO237.1; subst eo17) | ((with_reducible refine gate_callee (f := 17) rfl ?_); refine goesM (N := (some 17)) #[.agg #[.int .i64 t234, .slice Ao17 t235.length co17, .int .i64 t238]] Try.func17 ?_; (with_reducible refine (spec_TruePaths.calls k t234 _ _ t235 t238 t239 t240 _ ?side1 ?side2 A8.1).mono ?_); (case side1 => exact CB (R_reads' HO237.1).2.2); (case side2 => exact (R_reads' HO237.1).2.1); rintro e w18 ⟨rfl, hb⟩; refine ⟨_, rfl, ?_⟩; refine E3 (rB HO237.1 hb) (bB BK232.1 hb) (bS HB.1 hb) ?_; clear HO237 BK232 HB; intro HO237 BK232 HB; (try clear hb); obtain ⟨hcz19_0, hcz19_1, hcz19_2, hfz19_0, hfz19_1, hfz19_2⟩ := cz3 BK232.1) | ((with_reducible refine gate_callee (f := 14) rfl ?_); refine goesM (N := (some 21)) #[.agg #[.int .i64 a0_0, .slice A0_1 l0_1.length c0_1, .int .i64 a0_2]] Try.func14 ?_; (with_reducible refine (laws_toDiagram.calls k a0_0 _ _ l0_1 a0_2 t241 t242 t245 _ ?side1 ?side2 A9.1).mono ?_); (case side1 => exact CB (C_below HR0_1.1 HB.1)); (case side2 => exact HC0_1.1); rintro e w20 ⟨v243, rfl, ho0, hb⟩; refine ⟨_, rfl, ?_⟩; refine E4 (R_elder' (PR HO237.1) (R_base ho0) hb) (R_lower (R_new' ho0 (R_lt (PR HO237.1))) (bZ HB.1)) (bB BK232.1 hb) (bS HB.1 hb) ?_; clear HO237 BK232 HB; intro HO237 HO244 BK232 HB; (try clear hb); (try clear ho0)) | ((with_reducible refine gate_dst (N := 6) rfl ?_); refine boxE (cs := #[.int .i64 0, .slice none 0 0, .int .i64 0]) (t := 29) ?_; intro gb246 hg w21 hbox hb; refine E9 (rB HO237.1 hb) (rB HO244.1 hb) (bB BK232.1 hb) (bS HB.1 hb) (hbox) (gX HB.1 hg) (gX HB.1 hg) (nB BK232.1 hg) (nC BK232.1 hg) ?_; clear HO237 HO244 BK232 HB; intro HO237 HO244 BK232 HB BK246 GW246 GE246 NB232_246 NB246_232; clear hb hbox hg; have hnb22 := NB246_232.1; have hnc22 := NB232_246.1; obtain ⟨hcz23_0, hcz23_1, hcz23_2, hfz23_0, hfz23_1, hfz23_2⟩ := cz3 BK246.1; obtain ⟨Ao24, co24, eo24⟩ := R_slice HO244.1; subst eo24) | ((with_reducible refine gate_callee (f := 18) rfl ?_); refine goesM (N := (some 24)) #[.agg #[.int .i64 t241, .slice Ao24 t242.length co24, .int .i64 t245]] Try.func18 ?_; (with_reducible refine (impl_TruePaths.calls k t241 _ _ t242 t245 t247 t248 _ ?side1 ?side2 A10.1).mono ?_); (case side1 => refine (R_reads' (e := 63) (base := w.heap.size) (ok := fun k_ => (True /\ some k_ ≠ (.slice Ao17 t235.length co17 : Value).ownBlock)) (n := t242.length) (c := co24) ?_).2.2; exact (by (with_reducible repeat (first | apply R_alloc | apply R_drewN | apply R_drew)); exact (R_mono (RQ gb246 2 (RQ gb246 1 (RQ gb246 0 (R_types HO244.1 BK246.1 (by decide)) _) _) _) (fun _ h_ => h_.1)))); (case side2 => exact (R_reads' HO244.1).2.1); rintro e w25 ⟨rfl, hb⟩; refine ⟨_, rfl, ?_⟩; refine E5 (R_below (by (with_reducible repeat (first | apply R_alloc | apply R_drewN | apply R_drew)); exact (R_mono (RQ gb246 2 (RQ gb246 1 (RQ gb246 0 (R_types HO237.1 BK246.1 (by decide)) _) _) _) (fun _ h_ => h_.1))) hb) (R_below (by (with_reducible repeat (first | apply R_alloc | apply R_drewN | apply R_drew)); exact (R_mono (RQ gb246 2 (RQ gb246 1 (RQ gb246 0 (R_types HO244.1 BK246.1 (by decide)) _) _) _) (fun _ h_ => h_.1))) hb) (blk_below (g := gb232) (o := .cells #[.int .i64 a0_0, .slice A0_1 l0_1.length c0_1, .int .i64 a0_2] 24 (0, 0)) (PF1 NB232_246.1 BK232.1) hb) (blk_below (g := gb246) (o := .cells #[.int .i64 t241, .slice Ao24 t242.length co24, .int .i64 t245] 29 (0, 0)) (PF0 BK246.1) hb) (bS HB.1 hb) ?_; clear HO237 HO244 BK232 BK246 HB; intro HO237 HO244 BK232 BK246 HB; (try clear hb)))
 (try simp only [Act.put, List.setIfInBounds_toArray, List.set_cons_zero, List.set_cons_succ])
 go_cut [34] (fun v34 wc => ∃ (kq : Nat) (x34_10 : Bool), v34 = .bool x34_10 /\ Aside0 (laws_FnExactTruePaths.j0 kq x34_10 a0_0 l0_1 a0_2 t241 t242 t245 = some true) /\ Aside0 (kq <= k) /\ Aside0 (Kd.R k63 63 wc w.heap.size (fun _ => True) (.slice Ao24 t242.length co24) t242) /\ Aside0 (wc.heap[gb232]? = some (.cells #[.int .i64 a0_0, (.slice A0_1 l0_1.length c0_1), .int .i64 a0_2] 24 (0, 0))) /\ Aside0 (wc.heap[gb246]? = some (.cells #[.int .i64 t241, (.slice Ao24 t242.length co24), .int .i64 t245] 29 (0, 0))) /\ Aside0 (Below w.heap.size w wc))
 case first =>
  have H := HC11.1
  clear HC11
  replace H := ifQ H; rcases H with ⟨c26, H⟩ | ⟨c26, H⟩
  · have c26b0 := beq_iff_eq.mpr c26
    have c26b1 := bne_eq_false_iff_eq.mpr c26
    clear c26
    (first | rw [c26b0] | (simp only [i64_w, i32_w]; rw [c26b0]) | skip)
    have H' := Aside0.mk H
    clear H
    go_wp2
    go_meet
    case rel => exact ⟨_, ((t248 != t240)), RG, H', ⟨by first | omega | exact Nat.le_refl _⟩, ⟨RPE (R_mono HO244.1 (fun _ hk => trivial))⟩, ⟨PB BK232.1⟩, ⟨PB BK246.1⟩, ⟨BL HB.1⟩⟩
  exact absurd H (by cases k <;> simp [laws_FnExactTruePaths.j0])
 clear HC11
 clear c3b0 hcz13_0 hcz13_1 hcz13_2 hcz15_0 hcz15_1 hcz15_2 hcz19_0 hcz19_1 hcz19_2 hcz23_0 hcz23_1 hcz23_2 hfz13_0 hfz13_1 hfz13_2 hfz15_0 hfz15_1 hfz15_2 hfz19_0 hfz19_1 hfz19_2 hfz23_0 hfz23_1 hfz23_2
 obtain ⟨kq, x34_10, rfl, HA, HJ10, HO_247001, BK232, BK246, HB⟩ := hcut
 cases kq with
 | zero => exact absurd HA.1 (by simp [laws_FnExactTruePaths.j0])
 | succ kj10 => ?_
 have H := HA.1
 clear HA
 simp only [laws_FnExactTruePaths.j0] at H
 replace H := ifF H (by simp); obtain ⟨rfl, H⟩ := H
 replace H := bindA H; obtain ⟨⟨t249, t250, t253⟩, A28, H⟩ := H
 dsimp only at H
 replace H := bindA H; obtain ⟨t254, A29, H⟩ := H
 replace H := ifT H (by simp); obtain ⟨rfl, H⟩ := H
 first | (obtain rfl := Option.some.inj H) | clear H
 try go_wp2
 refine E4 (R_drew HO_247001.1) (blk_drew BK232.1) (blk_drew BK246.1) (below_drew1 HB.1) ?_
 clear HO_247001 BK232 BK246 HB
 intro HO_247001 BK232 BK246 HB
 refine start_ (n := 5) (S := fun w' => w'.cell? ⟨gb246, 0, none⟩ = some (.int .i64 t241) /\ w'.cell? ⟨gb246, 1, none⟩ = some (.slice Ao24 t242.length co24) /\ w'.cell? ⟨gb246, 2, none⟩ = some (.int .i64 t245) /\ w'.cell? ⟨gb232, 0, none⟩ = some (.int .i64 a0_0) /\ w'.cell? ⟨gb232, 1, none⟩ = some (.slice A0_1 l0_1.length c0_1) /\ w'.cell? ⟨gb232, 2, none⟩ = some (.int .i64 a0_2)) (ds := []) #[Zz,Zz,Zz,Zz,Zz] (by kernel_rfl) rfl rfl ⟨(blk_cell BK246.1 0).trans rfl, (blk_cell BK246.1 1).trans rfl, (blk_cell BK246.1 2).trans rfl, (blk_cell BK232.1 0).trans rfl, (blk_cell BK232.1 1).trans rfl, (blk_cell BK232.1 2).trans rfl⟩ (fun hHeld => ?_)
 generalize wc.drew = w31 at HO_247001 BK232 BK246 HB hHeld ⊢
 refine takeF 0 (N := some 35) hHeld ?_
 refine takeF 1 (N := some 36) hHeld ?_
 refine one_ (i := 2) (N := some 37) #[Yy,Yy,Yy,Zz,Zz] rfl rfl (by kernel_rfl) (by decide) (fun K hK => ?_)
 refine goes_ Try.func14 (by kernel_rfl) rfl #[.agg #[.int .i64 a0_0, .slice A0_1 l0_1.length c0_1, .int .i64 a0_2]] (by rfl) rfl rfl (by (try simp only [List.map_toArray, List.map_cons, List.map_nil]); first | done | rfl | (simp only [List.length_drop, List.length_take]; rfl)) ?_
 with_reducible refine (laws_toDiagram.calls kj10 a0_0 _ _ l0_1 a0_2 t249 t250 t253 _ ?side1 ?side2 A28.1).mono ?_
 (case side1 => exact CB (C_below HR0_1.1 HB.1))
 (case side2 => exact HC0_1.1)
 rintro e w32 ⟨v251, rfl, ho0, hb⟩
 refine ⟨_, rfl, ?_⟩
 refine E5 (R_elder' (PR HO_247001.1) (R_base ho0) hb) (R_lower (R_new' ho0 (R_lt (PR HO_247001.1))) (bZ HB.1)) (bB BK232.1 hb) (bB BK246.1 hb) (bS HB.1 hb) ?_
 clear HO_247001 BK232 BK246 HB
 intro HO_247001 HO252 BK232 BK246 HB
 (try clear hb)
 (try clear hb2)
 (try clear hk)
 (try clear hi)
 (try clear ho0)
 obtain ⟨Ao33, co33, eo33⟩ := R_slice HO252.1
 (first | subst eo33 | (injection eo33 with f1_ f2_ f3_; have f4_ := f1_.symm; have f5_ := f3_.symm; clear f1_ f2_ f3_; subst f4_; subst f5_))
 refine hK.out _ _ ⟨(blk_cell BK246.1 0).trans rfl, (blk_cell BK246.1 1).trans rfl, (blk_cell BK246.1 2).trans rfl, (blk_cell BK232.1 0).trans rfl, (blk_cell BK232.1 1).trans rfl, (blk_cell BK232.1 2).trans rfl⟩ (fun hHeld => ?_)
 clear hK K
 refine norm_ (a' := ?_) ?_ ?_
 rotate_left
 · show Act.put _ (some 37) _ = _
   simp only [Act.put, List.setIfInBounds_toArray, List.set_cons_zero, List.set_cons_succ, i64_w, i32_w]
   rfl
 refine one_ (i := 3) (N := some 38) #[Yy,Yy,Yy,Yy,Zz] rfl rfl (by kernel_rfl) (by decide) (fun K hK => ?_)
 refine goes_ Try.func16 (by kernel_rfl) rfl #[.agg #[.int .i64 t241, .slice Ao24 t242.length co24, .int .i64 t245], .agg #[.int .i64 t249, .slice Ao33 t250.length co33, .int .i64 t253]] (by rfl) rfl rfl (by (try simp only [List.map_toArray, List.map_cons, List.map_nil]); first | done | rfl | (simp only [List.length_drop, List.length_take]; rfl)) ?_
 with_reducible refine (laws_eqDiagram.calls kj10 t241 _ _ t242 t245 t249 _ _ t250 t253 true _ ?side1 ?side2 ?side3 ?side4 A29.1).mono ?_
 (case side1 => exact CB (R_reads' HO_247001.1).2.2)
 (case side2 => exact (R_reads' HO_247001.1).2.1)
 (case side3 => exact CB (R_reads' HO252.1).2.2)
 (case side4 => exact (R_reads' HO252.1).2.1)
 rintro e w34 ⟨rfl, hb⟩
 refine ⟨_, rfl, ?_⟩
 refine E5 (rB HO_247001.1 hb) (rB HO252.1 hb) (bB BK232.1 hb) (bB BK246.1 hb) (bS HB.1 hb) ?_
 clear HO_247001 HO252 BK232 BK246 HB
 intro HO_247001 HO252 BK232 BK246 HB
 (try clear hb)
 (try clear hb2)
 (try clear hk)
 (try clear hi)
 refine hK.out _ _ ⟨(blk_cell BK246.1 0).trans rfl, (blk_cell BK246.1 1).trans rfl, (blk_cell BK246.1 2).trans rfl, (blk_cell BK232.1 0).trans rfl, (blk_cell BK232.1 1).trans rfl, (blk_cell BK232.1 2).trans rfl⟩ (fun hHeld => ?_)
 clear hK K
 refine norm_ (a' := ?_) ?_ ?_
 rotate_left
 · show Act.put _ (some 38) _ = _
   simp only [Act.put, List.setIfInBounds_toArray, List.set_cons_zero, List.set_cons_succ, i64_w, i32_w]
   rfl
 refine pure_ (i := 4) (N := some 39) (v := ?_) (a' := ?_) #[Yy,Yy,Yy,Yy,Yy] rfl rfl (by kernel_rfl) (fun _ _ _ h => h) (Or.inl ⟨by rfl, ?_⟩) ?_ ?_
 rotate_left
 · intro w'
   go_simp
   with_reducible rfl
 rotate_left
 · simp only [Act.put, List.setIfInBounds_toArray, List.set_cons_zero, List.set_cons_succ, i64_w, i32_w]
   rfl
 refine done_ (by kernel_rfl) ?_
 try go_wp2
 go_ret
 exact ⟨RF, BL HB.1⟩
end Go.Proofs.Ytdkfgomjfigmbaa.P
