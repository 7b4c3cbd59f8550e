-- PRINTED by print.py (a twelfth state) out of the translation. Not trusted: Lean checks it.
import Derived.Test.YthnehlphifegaaaPx0
import Derived.Test.YthnehlphifegaaaPx6
namespace Go.Proofs.Ythnehlphifegaaa.P
open Go.RowKit Go.Proofs.YthnehlphifegaaaW.PrintWords Go.Proofs.YthnehlphifegaaaW.PrintLast Go.Proofs.YthnehlphifegaaaW.PrintMore
attribute [local go_sem] max2_int min2_int max_two min_two max_three min_three max_four min_four   -- for this text's walks alone
set_option linter.unusedVariables false
set_option linter.unusedSimpArgs false
set_option maxHeartbeats 8000000
set_option maxRecDepth 100000

/-! ### spec_loOf: function 36 -/
open Kd
def spec_loOf.l0 : Nat -> List Int -> List (S66) -> List (S61) -> Int -> Int -> Int -> Int -> List (S98) -> Int -> Int -> Int -> Int -> Int -> Option ((List (S66)) × Int × Int × (List (S98)) × Int × Int × Int × Int × Int)
 | 0, _, _, _, _, _, _, _, _, _, _, _, _, _ => none
 | k + 1, x7, x9, x19, x20, x21, x540000, x540001, x540002, x540003, x540004, x540005, x540006, x540007 => if x21 < x20 then (if 0 <= x21 then (if x21 < (x19.length : Int) then (if x21 < (x7.length : Int) then (if x9.length < 4398046511104 then (spec_loOf.l0 k x7 (x9 ++ [(⟨rd x7 x21, (⟨(rd_T61 x19 x21).f0, (rd_T61 x19 x21).f1, (rd_T61 x19 x21).f2⟩ : S61)⟩ : S66)]) x19 x20 (wrap64 (x21 + 1)) x540000 x540001 x540002 x540003 x540004 x540005 x540006 x540007) else (none)) else (none)) else (none)) else (none)) else (some (x9, x540000, x540001, x540002, x540003, x540004, x540005, x540006, x540007))
def spec_loOf.f (k : Nat) (a0_0 : Int) (a0_1 : Int) (l0_2 : List (S98)) (a0_3 : Int) (a0_4 : Int) (a0_5 : Int) (a0_6 : Int) (a0_7 : Int) (a1 : Int) : Option ((List (S66)) × Int × Int × (List (S98)) × Int × Int × Int × Int × Int) := (spec_maRun.f k a0_0 a0_1 l0_2 a0_3 a0_4 a0_5 a0_6 a0_7 a1).bind fun bt523 => (spec_loOf.l0 k bt523.2.2.2.2.2.2.2.2.1 ([] : List (S66)) bt523.2.2.2.2.2.2.2.2.2 (bt523.2.2.2.2.2.2.2.2.2.length : Int) 0 bt523.1 bt523.2.1 bt523.2.2.1 bt523.2.2.2.1 bt523.2.2.2.2.1 bt523.2.2.2.2.2.1 bt523.2.2.2.2.2.2.1 bt523.2.2.2.2.2.2.2.1)
theorem spec_loOf.mono_l : ∀ k, (∀ y0 y1 y2 y3 y4 y5 y6 y7 y8 y9 y10 y11 y12, LeO (spec_loOf.l0 k y0 y1 y2 y3 y4 y5 y6 y7 y8 y9 y10 y11 y12) (spec_loOf.l0 (k + 1) y0 y1 y2 y3 y4 y5 y6 y7 y8 y9 y10 y11 y12))
 | 0 => fun _ _ _ _ _ _ _ _ _ _ _ _ _ r h => by simp [spec_loOf.l0] at h
 | k + 1 => by
  have ih0 := spec_loOf.mono_l k
  intros
  first | unfold spec_loOf.l0
  exact LM2 ih0 spec_maRun.mono
theorem spec_loOf.mono : ∀ a0 a1 a2 a3 a4 a5 a6 a7 a8 k, LeO (spec_loOf.f k a0 a1 a2 a3 a4 a5 a6 a7 a8) (spec_loOf.f (k + 1) a0 a1 a2 a3 a4 a5 a6 a7 a8) := by
 intro a0 a1 a2 a3 a4 a5 a6 a7 a8 k
 have ih0 := spec_loOf.mono_l k
 unfold spec_loOf.f
 exact LM2 ih0 spec_maRun.mono
def spec_loOf.T6 : Bool × List (List Nat × List Nat) := (true, [([], []), ([], []), ([], []), ([1, 2], [1, 2]), ([3], [3]), ([], []), ([4, 5], [4, 5]), ([6], [6]), ([0, 7], [0, 7]), ([8, 8, 0, 1, 2, 3, 4, 5, 6, 7, 8], [0, 8])])
def spec_loOf.B6 : List Nat := [0, 0, 0, 6, 14, 0, 62, 126, 255, 511]
theorem spec_loOf.tab6 : rtab .any (opsOf Try.f36 6) = spec_loOf.T6 := by kernel_rfl
theorem spec_loOf.bits6 : waitsOk spec_loOf.T6.2 spec_loOf.B6 = true := by kernel_rfl
theorem spec_loOf.calls (k : Nat) (a0_0 : Int) (a0_1 : Int) (A0_2 : Option Addr) (c0_2 : Nat) (l0_2 : List (S98)) (a0_3 : Int) (a0_4 : Int) (a0_5 : Int) (a0_6 : Int) (a0_7 : Int) (a1 : Int) (r1 : List (S66)) (r2 : Int) (r3 : Int) (r4 : List (S98)) (r5 : Int) (r6 : Int) (r7 : Int) (r8 : Int) (r9 : Int) (w : World) (hr0_2 : Kd.C k98 w A0_2 l0_2.length l0_2) (hc0_2 : l0_2.length <= c0_2) (h : spec_loOf.f k a0_0 a0_1 l0_2 a0_3 a0_4 a0_5 a0_6 a0_7 a1 = some (r1, r2, r3, r4, r5, r6, r7, r8, r9)) :
 Calls Try.prog 36 #[.agg #[.int .i64 a0_0, .int .i64 a0_1, .slice A0_2 l0_2.length c0_2, .int .i64 a0_3, .int .i64 a0_4, .int .i64 a0_5, .int .i64 a0_6, .int .i64 a0_7], .int .i64 a1] w fun e w' => ∃ v0_ v3_ : Value, e = .returned (.tuple #[v0_, .agg #[.int .i64 r2, .int .i64 r3, v3_, .int .i64 r5, .int .i64 r6, .int .i64 r7, .int .i64 r8, .int .i64 r9]]) /\ Kd.R k66 66 w' w.heap.size (fun _ => True) v0_ r1 /\ Kd.R k98 98 w' w.heap.size (fun _ => True) v3_ r4 /\ Below w.heap.size w w' := by
 have hu35 := Try.underlying35
 have hu61 := Try.underlying61
 have hu66 := Try.underlying66
 have HR0_2 := Aside0.mk hr0_2
 have HC0_2 := Aside0.mk hc0_2
 clear hr0_2 hc0_2
 have HB := Aside0.mk (Below.refl w.heap.size w)
 have H := h
 clear h
 unfold spec_loOf.f at H
 replace H := bindA H; obtain ⟨⟨t523, t524, t525, t528, t529, t530, t531, t532, t533, t536⟩, A3, H⟩ := H
 dsimp only at H
 have H' := Aside0.mk H
 clear H
 go_enter Try.func36, Try.ntmps36
 go_wp2_with (first | ((with_reducible refine gate_dst (N := 2) rfl ?_); refine boxE (cs := #[.int .i64 a0_0, .int .i64 a0_1, .slice A0_2 l0_2.length c0_2, .int .i64 a0_3, .int .i64 a0_4, .int .i64 a0_5, .int .i64 a0_6, .int .i64 a0_7]) (t := 35) ?_; intro gb521 hg w4 hbox hb; refine E4b HB.1 hg hbox hb ?_; clear HB; intro HB BK521 GW521 GE521; clear hb hbox hg) | ((with_reducible refine gate_dst (N := 5) rfl ?_); refine boxE (cs := #[.int .i64 0, .int .i64 0, .slice none 0 0, .int .i64 0, .int .i64 0, .int .i64 0, .int .i64 0, .int .i64 0]) (t := 35) ?_; intro gb522 hg w5 hbox hb; refine E7 (bB BK521.1 hb) (bS HB.1 hb) (hbox) (gX HB.1 hg) (gX HB.1 hg) (nB BK521.1 hg) (nC BK521.1 hg) ?_; clear BK521 HB; intro BK521 HB BK522 GW522 GE522 NB521_522 NB522_521; clear hb hbox hg; have hnb6 := NB521_522.1; have hnc6 := NB522_521.1; obtain ⟨hcz7_0, hcz7_1, hcz7_2, hcz7_3, hcz7_4, hcz7_5, hcz7_6, hcz7_7, hfz7_0, hfz7_1, hfz7_2, hfz7_3, hfz7_4, hfz7_5, hfz7_6, hfz7_7⟩ := cz8 BK521.1) | ((with_reducible refine gate_callee (f := 30) rfl ?_); refine goesM (N := (some 15)) #[.agg #[.int .i64 a0_0, .int .i64 a0_1, .slice A0_2 l0_2.length c0_2, .int .i64 a0_3, .int .i64 a0_4, .int .i64 a0_5, .int .i64 a0_6, .int .i64 a0_7], .int .i64 a1] Try.func30 ?_; (with_reducible refine (spec_maRun.calls k a0_0 a0_1 _ _ l0_2 a0_3 a0_4 a0_5 a0_6 a0_7 a1 t523 t524 t525 t528 t529 t530 t531 t532 t533 t536 _ ?side1 ?side2 A3.1).mono ?_); (case side1 => exact CB (C_below HR0_2.1 HB.1)); (case side2 => exact HC0_2.1); rintro e w8 ⟨v526, v534, v537, rfl, ho0, ho1, ho2, hb⟩; refine ⟨_, rfl, ?_⟩; refine E6 (R_lower ho0 (bZ HB.1)) (R_lower ho1 (bZ HB.1)) (R_lower ho2 (bZ HB.1)) (bB BK521.1 hb) (bB BK522.1 hb) (bS HB.1 hb) ?_; clear BK521 BK522 HB; intro HO527 HO535 HO538 BK521 BK522 HB; (try clear hb); (try clear ho0); (try clear ho1); (try clear ho2)) | ((with_reducible refine gate_dst (N := 6) rfl ?_); refine boxE (cs := #[.int .i64 0, .int .i64 0, .slice none 0 0, .int .i64 0, .int .i64 0, .int .i64 0, .int .i64 0, .int .i64 0]) (t := 35) ?_; intro gb539 hg w9 hbox hb; refine E13 (rB HO527.1 hb) (rB HO535.1 hb) (rB HO538.1 hb) (bB BK521.1 hb) (bB BK522.1 hb) (bS HB.1 hb) (hbox) (gX HB.1 hg) (gX HB.1 hg) (nB BK521.1 hg) (nC BK521.1 hg) (nB BK522.1 hg) (nC BK522.1 hg) ?_; clear HO527 HO535 HO538 BK521 BK522 HB; intro HO527 HO535 HO538 BK521 BK522 HB BK539 GW539 GE539 NB521_539 NB539_521 NB522_539 NB539_522; clear hb hbox hg; have hnb10 := NB539_521.1; have hnc10 := NB521_539.1; have hnb11 := NB539_522.1; have hnc11 := NB522_539.1; obtain ⟨hcz12_0, hcz12_1, hcz12_2, hcz12_3, hcz12_4, hcz12_5, hcz12_6, hcz12_7, hfz12_0, hfz12_1, hfz12_2, hfz12_3, hfz12_4, hfz12_5, hfz12_6, hfz12_7⟩ := cz8 BK539.1; obtain ⟨Ao13, co13, eo13⟩ := R_slice HO527.1; subst eo13; obtain ⟨Ao14, co14, eo14⟩ := R_slice HO538.1; subst eo14))
 go_loopg [9, 21] k (fun kq v9 v21 w' => ∃ (x9_1 : List (S66)) (x21_1 : Int), v21 = .int .i64 x21_1 /\ Aside0 (spec_loOf.l0 kq t533 x9_1 t536 (t536.length : Int) x21_1 t523 t524 t525 t528 t529 t530 t531 t532 = some (r1, r2, r3, r4, r5, r6, r7, r8, r9)) /\ Aside0 (kq <= k) /\ Aside0 (Kd.R (Kd.int .i64) 3 w' w.heap.size (fun _ => True) v534 t533) /\ Aside0 (Kd.R k66 66 w' w.heap.size (fun _ => True) v9 x9_1) /\ Aside0 (Kd.R k61 61 w' w.heap.size (fun _ => True) (.slice Ao14 t536.length co14) t536) /\ Aside0 (Kd.R k98 98 w' w.heap.size (fun _ => True) (.slice Ao13 t525.length co13) t525) /\ Aside0 (w'.heap[gb521]? = some (.cells #[.int .i64 a0_0, .int .i64 a0_1, (.slice A0_2 l0_2.length c0_2), .int .i64 a0_3, .int .i64 a0_4, .int .i64 a0_5, .int .i64 a0_6, .int .i64 a0_7] 35 (0, 0))) /\ Aside0 (w'.heap[gb522]? = some (.cells #[.int .i64 0, .int .i64 0, (.slice none 0 0), .int .i64 0, .int .i64 0, .int .i64 0, .int .i64 0, .int .i64 0] 35 (0, 0))) /\ Aside0 (w'.heap[gb539]? = some (.cells #[.int .i64 t523, .int .i64 t524, (.slice Ao13 t525.length co13), .int .i64 t528, .int .i64 t529, .int .i64 t530, .int .i64 t531, .int .i64 t532] 35 (0, 0))) /\ Aside0 (Below w.heap.size w w'))
 case atStart => exact ⟨(([] : List (S66))), (0), RG, H', ⟨Nat.le_refl _⟩, ⟨by (with_reducible repeat (first | apply R_alloc | apply R_drewN | apply R_drew)); exact R_mono (RQ gb539 7 (RQ gb539 6 (RQ gb539 5 (RQ gb539 4 (RQ gb539 3 (RQ gb539 2 (RQ gb539 1 (RQ gb539 0 (R_types HO535.1 BK539.1 (by decide)) _) _) _) _) _) _) _) _) (fun _ hk => trivial)⟩, ⟨by first | exact R_nil _ _ _ _ _ | exact N_nil _ _ _ _ _ | exact V_nil _ _ _ _ _ | exact Q_nil _ _ _ _ _ | exact S_nil _ _ _ _ _⟩, ⟨by (with_reducible repeat (first | apply R_alloc | apply R_drewN | apply R_drew)); exact R_mono (RQ gb539 7 (RQ gb539 6 (RQ gb539 5 (RQ gb539 4 (RQ gb539 3 (RQ gb539 2 (RQ gb539 1 (RQ gb539 0 (R_types HO538.1 BK539.1 (by decide)) _) _) _) _) _) _) _) _) (fun _ hk => trivial)⟩, ⟨by (with_reducible repeat (first | apply R_alloc | apply R_drewN | apply R_drew)); exact R_mono (RQ gb539 7 (RQ gb539 6 (RQ gb539 5 (RQ gb539 4 (RQ gb539 3 (RQ gb539 2 (RQ gb539 1 (RQ gb539 0 (R_types HO527.1 BK539.1 (by decide)) _) _) _) _) _) _) _) _) (fun _ hk => trivial)⟩, ⟨by (with_reducible repeat (first | refine blk_drewN ?_ _ | refine blk_drew ?_ | refine blk_alloc ?_ _)); refine blk_far ?_ NB521_539.1 _; (with_reducible repeat (first | refine blk_drewN ?_ _ | refine blk_drew ?_ | refine blk_alloc ?_ _)); refine blk_far ?_ NB521_539.1 _; (with_reducible repeat (first | refine blk_drewN ?_ _ | refine blk_drew ?_ | refine blk_alloc ?_ _)); refine blk_far ?_ NB521_539.1 _; (with_reducible repeat (first | refine blk_drewN ?_ _ | refine blk_drew ?_ | refine blk_alloc ?_ _)); refine blk_far ?_ NB521_539.1 _; (with_reducible repeat (first | refine blk_drewN ?_ _ | refine blk_drew ?_ | refine blk_alloc ?_ _)); refine blk_far ?_ NB521_539.1 _; (with_reducible repeat (first | refine blk_drewN ?_ _ | refine blk_drew ?_ | refine blk_alloc ?_ _)); refine blk_far ?_ NB521_539.1 _; (with_reducible repeat (first | refine blk_drewN ?_ _ | refine blk_drew ?_ | refine blk_alloc ?_ _)); refine blk_far ?_ NB521_539.1 _; (with_reducible repeat (first | refine blk_drewN ?_ _ | refine blk_drew ?_ | refine blk_alloc ?_ _)); refine blk_far ?_ NB521_539.1 _; (with_reducible repeat (first | refine blk_drewN ?_ _ | refine blk_drew ?_ | refine blk_alloc ?_ _)); exact BK521.1⟩, ⟨by (with_reducible repeat (first | refine blk_drewN ?_ _ | refine blk_drew ?_ | refine blk_alloc ?_ _)); refine blk_far ?_ NB522_539.1 _; (with_reducible repeat (first | refine blk_drewN ?_ _ | refine blk_drew ?_ | refine blk_alloc ?_ _)); refine blk_far ?_ NB522_539.1 _; (with_reducible repeat (first | refine blk_drewN ?_ _ | refine blk_drew ?_ | refine blk_alloc ?_ _)); refine blk_far ?_ NB522_539.1 _; (with_reducible repeat (first | refine blk_drewN ?_ _ | refine blk_drew ?_ | refine blk_alloc ?_ _)); refine blk_far ?_ NB522_539.1 _; (with_reducible repeat (first | refine blk_drewN ?_ _ | refine blk_drew ?_ | refine blk_alloc ?_ _)); refine blk_far ?_ NB522_539.1 _; (with_reducible repeat (first | refine blk_drewN ?_ _ | refine blk_drew ?_ | refine blk_alloc ?_ _)); refine blk_far ?_ NB522_539.1 _; (with_reducible repeat (first | refine blk_drewN ?_ _ | refine blk_drew ?_ | refine blk_alloc ?_ _)); refine blk_far ?_ NB522_539.1 _; (with_reducible repeat (first | refine blk_drewN ?_ _ | refine blk_drew ?_ | refine blk_alloc ?_ _)); refine blk_far ?_ NB522_539.1 _; (with_reducible repeat (first | refine blk_drewN ?_ _ | refine blk_drew ?_ | refine blk_alloc ?_ _)); exact BK522.1⟩, ⟨by (with_reducible repeat (first | refine blk_drewN ?_ _ | refine blk_drew ?_ | refine blk_alloc ?_ _)); refine blk_put (cs := #[.int .i64 t523, .int .i64 t524, .slice Ao13 t525.length co13, .int .i64 t528, .int .i64 t529, .int .i64 t530, .int .i64 t531, .int .i64 0]) ?_ 7 _ rfl; (with_reducible repeat (first | refine blk_drewN ?_ _ | refine blk_drew ?_ | refine blk_alloc ?_ _)); refine blk_put (cs := #[.int .i64 t523, .int .i64 t524, .slice Ao13 t525.length co13, .int .i64 t528, .int .i64 t529, .int .i64 t530, .int .i64 0, .int .i64 0]) ?_ 6 _ rfl; (with_reducible repeat (first | refine blk_drewN ?_ _ | refine blk_drew ?_ | refine blk_alloc ?_ _)); refine blk_put (cs := #[.int .i64 t523, .int .i64 t524, .slice Ao13 t525.length co13, .int .i64 t528, .int .i64 t529, .int .i64 0, .int .i64 0, .int .i64 0]) ?_ 5 _ rfl; (with_reducible repeat (first | refine blk_drewN ?_ _ | refine blk_drew ?_ | refine blk_alloc ?_ _)); refine blk_put (cs := #[.int .i64 t523, .int .i64 t524, .slice Ao13 t525.length co13, .int .i64 t528, .int .i64 0, .int .i64 0, .int .i64 0, .int .i64 0]) ?_ 4 _ rfl; (with_reducible repeat (first | refine blk_drewN ?_ _ | refine blk_drew ?_ | refine blk_alloc ?_ _)); refine blk_put (cs := #[.int .i64 t523, .int .i64 t524, .slice Ao13 t525.length co13, .int .i64 0, .int .i64 0, .int .i64 0, .int .i64 0, .int .i64 0]) ?_ 3 _ rfl; (with_reducible repeat (first | refine blk_drewN ?_ _ | refine blk_drew ?_ | refine blk_alloc ?_ _)); refine blk_put (cs := #[.int .i64 t523, .int .i64 t524, .slice none 0 0, .int .i64 0, .int .i64 0, .int .i64 0, .int .i64 0, .int .i64 0]) ?_ 2 _ rfl; (with_reducible repeat (first | refine blk_drewN ?_ _ | refine blk_drew ?_ | refine blk_alloc ?_ _)); refine blk_put (cs := #[.int .i64 t523, .int .i64 0, .slice none 0 0, .int .i64 0, .int .i64 0, .int .i64 0, .int .i64 0, .int .i64 0]) ?_ 1 _ rfl; (with_reducible repeat (first | refine blk_drewN ?_ _ | refine blk_drew ?_ | refine blk_alloc ?_ _)); refine blk_put (cs := #[.int .i64 0, .int .i64 0, .slice none 0 0, .int .i64 0, .int .i64 0, .int .i64 0, .int .i64 0, .int .i64 0]) ?_ 0 _ rfl; (with_reducible repeat (first | refine blk_drewN ?_ _ | refine blk_drew ?_ | refine blk_alloc ?_ _)); exact BK539.1⟩, ⟨BL HB.1⟩⟩
 clear H'
 clear hcz12_0 hcz12_1 hcz12_2 hcz12_3 hcz12_4 hcz12_5 hcz12_6 hcz12_7 hcz7_0 hcz7_1 hcz7_2 hcz7_3 hcz7_4 hcz7_5 hcz7_6 hcz7_7 hfz12_0 hfz12_1 hfz12_2 hfz12_3 hfz12_4 hfz12_5 hfz12_6 hfz12_7 hfz7_0 hfz7_1 hfz7_2 hfz7_3 hfz7_4 hfz7_5 hfz7_6 hfz7_7
 obtain ⟨x9_1, x21_1, rfl, HA, HK1, HO_7, HO_9, HO_19, HO_540002, BK521, BK522, BK539, HB⟩ := hrel
 cases gk with
 | zero => exact absurd HA.1 (by simp [spec_loOf.l0])
 | succ k1 => ?_
 have H := HA.1
 clear HA
 simp only [spec_loOf.l0] at H
 replace H := ifB H; rcases H with ⟨c15b0, H⟩ | ⟨c15b0, H⟩
 · replace H := ifN H; obtain ⟨c16b0, H⟩ := H
   replace H := ifN H; obtain ⟨c17b0, H⟩ := H
   replace H := ifN H; obtain ⟨c18b0, H⟩ := H
   replace H := ifP H; obtain ⟨c19, H⟩ := H
   have LMc19 := Aside0.mk c19
   clear c19
   generalize hy543 : ((x9_1 ++ [(⟨rd t533 x21_1, (⟨(rd_T61 t536 x21_1).f0, (rd_T61 t536 x21_1).f1, (rd_T61 t536 x21_1).f2⟩ : S61)⟩ : S66)]) : List (S66)) = y543 at H
   have Ny543 := Aside0.mk hy543.symm; clear hy543
   have H' := Aside0.mk H
   clear H
   have p540 : 0 <= (x21_1 : Int) := OD
   have q540 : x21_1 < (t536.length : Int) := OD
   obtain ⟨ad540, e540, hx540_0, hx540_1, hx540_2⟩ := at_T61 (R_reads' HO_19.1).2.2 x21_1 p540 q540
   cases e540
   replace p540 := eq_true p540
   replace q540 := eq_true q540
   try go_wp2_with (first | ((with_reducible refine gate_dst (N := 11) rfl ?_); refine boxE (cs := #[.int .i64 0, .int .i64 0, .int .i64 0]) (t := 61) ?_; intro gb541 hg w20 hbox hb; refine E17 (rB HO_7.1 hb) (rB HO_9.1 hb) (R_below (R_elderB (PR HO_19.1) gb541 (Nat.le_of_eq hg.symm)) hb) (rB HO_540002.1 hb) (bB BK521.1 hb) (bB BK522.1 hb) (bB BK539.1 hb) (bS HB.1 hb) (hbox) (gX HB.1 hg) (gX HB.1 hg) (nB BK521.1 hg) (nC BK521.1 hg) (nB BK522.1 hg) (nC BK522.1 hg) (nB BK539.1 hg) (nC BK539.1 hg) ?_; clear HO_7 HO_9 HO_19 HO_540002 BK521 BK522 BK539 HB; intro HO_7 HO_9 HO_19 HO_540002 BK521 BK522 BK539 HB BK541 GW541 GE541 NB521_541 NB541_521 NB522_541 NB541_522 NB539_541 NB541_539; clear hb hbox hg; have hnb21 := NB541_521.1; have hnc21 := NB521_541.1; have hnb22 := NB541_522.1; have hnc22 := NB522_541.1; have hnb23 := NB541_539.1; have hnc23 := NB539_541.1; obtain ⟨hcz24_0, hcz24_1, hcz24_2, hfz24_0, hfz24_1, hfz24_2⟩ := cz3 BK541.1))
   have n_ : (fun w25 : World => (Kd.R (Kd.int .i64) 3 w25 w.heap.size (fun _ => True) v534 t533) /\ (Kd.R k66 66 w25 w.heap.size (fun _ => True) u9 x9_1) /\ (Kd.R k61 61 w25 w.heap.size (fun k_ => k_ ≠ gb541) (.slice (some ad540) t536.length co14) t536) /\ (Kd.R k98 98 w25 w.heap.size (fun _ => True) (.slice Ao13 t525.length co13) t525) /\ (w25.heap[gb521]? = some (.cells #[.int .i64 a0_0, .int .i64 a0_1, .slice A0_2 l0_2.length c0_2, .int .i64 a0_3, .int .i64 a0_4, .int .i64 a0_5, .int .i64 a0_6, .int .i64 a0_7] 35 (0, 0))) /\ (w25.heap[gb522]? = some (.cells #[.int .i64 0, .int .i64 0, .slice none 0 0, .int .i64 0, .int .i64 0, .int .i64 0, .int .i64 0, .int .i64 0] 35 (0, 0))) /\ (w25.heap[gb539]? = some (.cells #[.int .i64 t523, .int .i64 t524, .slice Ao13 t525.length co13, .int .i64 t528, .int .i64 t529, .int .i64 t530, .int .i64 t531, .int .i64 t532] 35 (0, 0))) /\ (w25.heap[gb541]? = some (.cells #[.int .i64 ((rd_T61 t536 x21_1).f0), .int .i64 ((rd_T61 t536 x21_1).f1), .int .i64 ((rd_T61 t536 x21_1).f2)] 61 (0, 0))) /\ (Below w.heap.size w w25)) (((w20.setCell ⟨gb541, 0, none⟩ (.int .i64 ((rd_T61 t536 x21_1).f0))).setCell ⟨gb541, 1, none⟩ (.int .i64 ((rd_T61 t536 x21_1).f1))).setCell ⟨gb541, 2, none⟩ (.int .i64 ((rd_T61 t536 x21_1).f2))) := ⟨by (with_reducible repeat (first | apply R_alloc | apply R_drewN | apply R_drew)); exact R_mono (RQ gb541 2 (RQ gb541 1 (RQ gb541 0 (R_types HO_7.1 BK541.1 (by decide)) _) _) _) (fun _ hk => trivial), by (with_reducible repeat (first | apply R_alloc | apply R_drewN | apply R_drew)); exact R_mono (RQ gb541 2 (RQ gb541 1 (RQ gb541 0 (R_types HO_9.1 BK541.1 (by decide)) _) _) _) (fun _ hk => trivial), by (with_reducible repeat (first | apply R_alloc | apply R_drewN | apply R_drew)); exact R_mono (RQ gb541 2 (RQ gb541 1 (RQ gb541 0 (R_mono HO_19.1 (fun k_ hk => (⟨hk, hk.2⟩ : _ /\ k_ ≠ gb541))) _) _) _) (fun _ hk => hk.1.2), by (with_reducible repeat (first | apply R_alloc | apply R_drewN | apply R_drew)); exact R_mono (RQ gb541 2 (RQ gb541 1 (RQ gb541 0 (R_types HO_540002.1 BK541.1 (by decide)) _) _) _) (fun _ hk => trivial), by (with_reducible repeat (first | refine blk_drewN ?_ _ | refine blk_drew ?_ | refine blk_alloc ?_ _)); refine blk_far ?_ NB521_541.1 _; (with_reducible repeat (first | refine blk_drewN ?_ _ | refine blk_drew ?_ | refine blk_alloc ?_ _)); refine blk_far ?_ NB521_541.1 _; (with_reducible repeat (first | refine blk_drewN ?_ _ | refine blk_drew ?_ | refine blk_alloc ?_ _)); refine blk_far ?_ NB521_541.1 _; (with_reducible repeat (first | refine blk_drewN ?_ _ | refine blk_drew ?_ | refine blk_alloc ?_ _)); exact BK521.1, by (with_reducible repeat (first | refine blk_drewN ?_ _ | refine blk_drew ?_ | refine blk_alloc ?_ _)); refine blk_far ?_ NB522_541.1 _; (with_reducible repeat (first | refine blk_drewN ?_ _ | refine blk_drew ?_ | refine blk_alloc ?_ _)); refine blk_far ?_ NB522_541.1 _; (with_reducible repeat (first | refine blk_drewN ?_ _ | refine blk_drew ?_ | refine blk_alloc ?_ _)); refine blk_far ?_ NB522_541.1 _; (with_reducible repeat (first | refine blk_drewN ?_ _ | refine blk_drew ?_ | refine blk_alloc ?_ _)); exact BK522.1, by (with_reducible repeat (first | refine blk_drewN ?_ _ | refine blk_drew ?_ | refine blk_alloc ?_ _)); refine blk_far ?_ NB539_541.1 _; (with_reducible repeat (first | refine blk_drewN ?_ _ | refine blk_drew ?_ | refine blk_alloc ?_ _)); refine blk_far ?_ NB539_541.1 _; (with_reducible repeat (first | refine blk_drewN ?_ _ | refine blk_drew ?_ | refine blk_alloc ?_ _)); refine blk_far ?_ NB539_541.1 _; (with_reducible repeat (first | refine blk_drewN ?_ _ | refine blk_drew ?_ | refine blk_alloc ?_ _)); exact BK539.1, by (with_reducible repeat (first | refine blk_drewN ?_ _ | refine blk_drew ?_ | refine blk_alloc ?_ _)); refine blk_put (cs := #[.int .i64 ((rd_T61 t536 x21_1).f0), .int .i64 ((rd_T61 t536 x21_1).f1), .int .i64 0]) ?_ 2 _ rfl; (with_reducible repeat (first | refine blk_drewN ?_ _ | refine blk_drew ?_ | refine blk_alloc ?_ _)); refine blk_put (cs := #[.int .i64 ((rd_T61 t536 x21_1).f0), .int .i64 0, .int .i64 0]) ?_ 1 _ rfl; (with_reducible repeat (first | refine blk_drewN ?_ _ | refine blk_drew ?_ | refine blk_alloc ?_ _)); refine blk_put (cs := #[.int .i64 0, .int .i64 0, .int .i64 0]) ?_ 0 _ rfl; (with_reducible repeat (first | refine blk_drewN ?_ _ | refine blk_drew ?_ | refine blk_alloc ?_ _)); exact BK541.1, BL HB.1⟩
   (try clear HO_7)
   (try clear HO_9)
   (try clear HO_19)
   (try clear HO_540002)
   (try clear BK521)
   (try clear BK522)
   (try clear BK539)
   (try clear BK541)
   (try clear HB)
   generalize (((w20.setCell ⟨gb541, 0, none⟩ (.int .i64 ((rd_T61 t536 x21_1).f0))).setCell ⟨gb541, 1, none⟩ (.int .i64 ((rd_T61 t536 x21_1).f1))).setCell ⟨gb541, 2, none⟩ (.int .i64 ((rd_T61 t536 x21_1).f2))) = w25 at n_ ⊢
   obtain ⟨h0_, h1_, h2_, h3_, h4_, h5_, h6_, h7_, h8_⟩ := n_
   refine E9 h0_ h1_ h2_ h3_ h4_ h5_ h6_ h7_ h8_ ?_
   clear h0_ h1_ h2_ h3_ h4_ h5_ h6_ h7_ h8_
   intro HO_7 HO_9 HO_19 HO_540002 BK521 BK522 BK539 BK541 HB
   refine E9 (R_drew HO_7.1) (R_drew HO_9.1) (R_drew HO_19.1) (R_drew HO_540002.1) (blk_drew BK521.1) (blk_drew BK522.1) (blk_drew BK539.1) (blk_drew BK541.1) (below_drew1 HB.1) ?_
   clear HO_7 HO_9 HO_19 HO_540002 BK521 BK522 BK539 BK541 HB
   intro HO_7 HO_9 HO_19 HO_540002 BK521 BK522 BK539 BK541 HB
   obtain ⟨Ao27, co27, eo27⟩ := R_slice HO_7.1
   (first | subst eo27 | (injection eo27 with f1_ f2_ f3_; have f4_ := f1_.symm; have f5_ := f3_.symm; clear f1_ f2_ f3_; subst f4_; subst f5_))
   have p542 : 0 <= (x21_1 : Int) := OD
   have q542 : x21_1 < (t533.length : Int) := OD
   obtain ⟨ad542, e542, hx542_0⟩ := Kd.at_int (R_reads' HO_7.1).2.2 x21_1 p542 q542
   cases e542
   replace p542 := eq_true p542
   replace q542 := eq_true q542
   refine start_ (n := 10) (S := fun w' => w'.cell? ⟨gb541, 0, none⟩ = some (.int .i64 ((rd_T61 t536 x21_1).f0)) /\ w'.cell? ⟨gb541, 1, none⟩ = some (.int .i64 ((rd_T61 t536 x21_1).f1)) /\ w'.cell? ⟨gb541, 2, none⟩ = some (.int .i64 ((rd_T61 t536 x21_1).f2)) /\ w'.cell? (ad542.add (x21_1).toNat) = some (.int .i64 (rd t533 x21_1))) (ds := [7, 8]) #[Zz,Zz,Zz,Zz,Zz,Zz,Zz,Zz,Zz,Zz] (by kernel_rfl) rfl rfl ⟨(blk_cell BK541.1 0).trans rfl, (blk_cell BK541.1 1).trans rfl, (blk_cell BK541.1 2).trans rfl, hx542_0⟩ (fun hHeld => ?_); refine with_tabW spec_loOf.tab6 spec_loOf.bits6 (fun HT_ HW_ => ?_)
   generalize w25.drew = w26 at HO_7 HO_9 HO_19 HO_540002 BK521 BK522 BK539 BK541 HB hx542_0 hHeld ⊢
   refine pureF 0 (N := some 26) HT_.1 ?_
   refine pureF 1 (N := some 27) HT_.1 ?_
   refine pureF 2 (N := some 28) HT_.1 ?_
   refine pureF 3 (N := some 29) HT_.1 ?_
   refine takeE 4 (N := some 30) HT_.1 HW_.1 hHeld ?_
   refine takeE 5 (N := some 31) HT_.1 HW_.1 hHeld ?_
   refine pureF 6 (N := some 32) HT_.1 ?_
   refine last_ (i := 7) (N := some 33) #[Yy,Yy,Yy,Yy,Yy,Yy,Yy,Yy,Zz,Zz] rfl rfl (one_of HT_.1 (by kernel_rfl)) (by decide) (fun K hK => ?_)
   refine value_ (w1 := ?_) (v := ?_) (by rfl) rfl ?_ ?_
   rotate_left 2
   · go_simp
     constructor
     · rfl
     rfl
   refine hK.out _ _ ?_
   clear hK K
   refine norm_ (a' := ?_) ?_ ?_
   rotate_left
   · show Act.put _ (some 33) _ = _
     simp only [Act.put, List.setIfInBounds_toArray, List.set_cons_zero, List.set_cons_succ, i64_w, i32_w]
     rfl
   refine last_ (i := 8) (N := some 34) #[Yy,Yy,Yy,Yy,Yy,Yy,Yy,Yy,Yy,Zz] rfl rfl (one_of HT_.1 (by kernel_rfl)) (by decide) (fun K hK => ?_)
   refine R_append_step k66 (w0 := w) w.heap.size (by rfl) (.tmp 26) (.tmp 33) 42 66 (.agg #[(.int .i64 0), (.int .i64 0), (.int .i64 0), (.int .i64 0)]) 32 rfl Try.underlying42 info66 rfl (by decide) (by omega) u9 x9_1 (⟨rd t533 x21_1, (⟨(rd_T61 t536 x21_1).f0, (rd_T61 t536 x21_1).f1, (rd_T61 t536 x21_1).f2⟩ : S61)⟩ : S66) [.int .i64 (rd t533 x21_1), .int .i64 ((rd_T61 t536 x21_1).f0), .int .i64 ((rd_T61 t536 x21_1).f1), .int .i64 ((rd_T61 t536 x21_1).f2)] (fun _ => True) (fun _ => False) rfl rfl ?aP (fun _ hk => hk.elim) ?aF ?aO ?aB ?aS ?aL ?_
   (case aP => exact k66_mkM _ _ _ (⟨rd t533 x21_1, (⟨(rd_T61 t536 x21_1).f0, (rd_T61 t536 x21_1).f1, (rd_T61 t536 x21_1).f2⟩ : S61)⟩ : S66))
   (case aB => exact (BL HB.1))
   (case aF => exact (fun _ _ => trivial))
   (case aO => exact (PR HO_9.1))
   (case aS => exact (bZ HB.1))
   (case aL => have := LMc19.1; omega)
   intro v544 w28 ho hb hg hat
   rw [<- Ny543.1] at ho
   refine E9 (R_over' (PR HO_7.1) (R_typed (PR HO_9.1)) (by decide) hg) (R_over' (PR HO_19.1) (R_typed (PR HO_9.1)) (by decide) hg) (R_over' (PR HO_540002.1) (R_typed (PR HO_9.1)) (by decide) hg) (bG BK521.1 hg (R_ne HO_9.1 BK521.1 (by decide))) (bG BK522.1 hg (R_ne HO_9.1 BK522.1 (by decide))) (bG BK539.1 hg (R_ne HO_9.1 BK539.1 (by decide))) (bG BK541.1 hg (R_ne HO_9.1 BK541.1 (by decide))) (hb) (ho) ?_
   clear HO_7 HO_19 HO_540002 BK521 BK522 BK539 BK541 HB HO_9
   intro HO_7 HO_19 HO_540002 BK521 BK522 BK539 BK541 HB HO545
   clear ho hb hg hat
   refine hK.out _ _ ?_
   clear hK K
   refine norm_ (a' := ?_) ?_ ?_
   rotate_left
   · show Act.put _ (some 34) _ = _
     simp only [Act.put, List.setIfInBounds_toArray, List.set_cons_zero, List.set_cons_succ, i64_w, i32_w]
     rfl
   refine pureF 9 (N := some 9) HT_.1 ?_
   refine done_ (done_of HT_.1 (by kernel_rfl)) ?_
   try go_wp2
   go_roundg k1
   case measure => have := HK1.1; omega
   case rel => exact ⟨(y543), (wrap64 (x21_1 + 1)), RG, H', ⟨by have := HK1.1; omega⟩, ⟨PR HO_7.1⟩, ⟨PR HO545.1⟩, ⟨RPE (R_mono HO_19.1 (fun _ hk => trivial))⟩, ⟨PR HO_540002.1⟩, ⟨PB BK521.1⟩, ⟨PB BK522.1⟩, ⟨PB BK539.1⟩, ⟨BL HB.1⟩⟩
 simp only [Option.some.injEq, Prod.mk.injEq] at H
 obtain ⟨rfl, rfl, rfl, rfl, rfl, rfl, rfl, rfl, rfl⟩ := H
 try go_wp2
 refine E8 (R_drew HO_7.1) (R_drew HO_9.1) (R_drew HO_19.1) (R_drew HO_540002.1) (blk_drew BK521.1) (blk_drew BK522.1) (blk_drew BK539.1) (below_drew1 HB.1) ?_
 clear HO_7 HO_9 HO_19 HO_540002 BK521 BK522 BK539 HB
 intro HO_7 HO_9 HO_19 HO_540002 BK521 BK522 BK539 HB
 refine start_ (n := 4) (S := fun w' => w'.cell? ⟨gb539, 0, none⟩ = some (.int .i64 t523) /\ w'.cell? ⟨gb539, 1, none⟩ = some (.int .i64 t524) /\ w'.cell? ⟨gb539, 2, none⟩ = some (.slice Ao13 t525.length co13) /\ w'.cell? ⟨gb539, 3, none⟩ = some (.int .i64 t528) /\ w'.cell? ⟨gb539, 4, none⟩ = some (.int .i64 t529) /\ w'.cell? ⟨gb539, 5, none⟩ = some (.int .i64 t530) /\ w'.cell? ⟨gb539, 6, none⟩ = some (.int .i64 t531) /\ w'.cell? ⟨gb539, 7, none⟩ = some (.int .i64 t532)) (ds := []) #[Zz,Zz,Zz,Zz] (by kernel_rfl) rfl rfl ⟨(blk_cell BK539.1 0).trans rfl, (blk_cell BK539.1 1).trans rfl, (blk_cell BK539.1 2).trans rfl, (blk_cell BK539.1 3).trans rfl, (blk_cell BK539.1 4).trans rfl, (blk_cell BK539.1 5).trans rfl, (blk_cell BK539.1 6).trans rfl, (blk_cell BK539.1 7).trans rfl⟩ (fun hHeld => ?_)
 generalize wr.drew = w29 at HO_7 HO_9 HO_19 HO_540002 BK521 BK522 BK539 HB hHeld ⊢
 refine pure_ (i := 0) (N := some 36) (v := ?_) (a' := ?_) #[Yy,Zz,Zz,Zz] rfl rfl (by kernel_rfl) (fun _ _ _ h => h) (Or.inl ⟨by rfl, ?_⟩) ?_ ?_
 rotate_left
 · intro w'
   go_simp
   with_reducible rfl
 rotate_left
 · simp only [Act.put, List.setIfInBounds_toArray, List.set_cons_zero, List.set_cons_succ, i64_w, i32_w]
   rfl
 refine pure_ (i := 2) (N := some 4) (v := ?_) (a' := ?_) #[Yy,Zz,Yy,Zz] rfl rfl (by kernel_rfl) (fun _ _ _ h => h) (Or.inl ⟨by rfl, ?_⟩) ?_ ?_
 rotate_left
 · intro w'
   go_simp
   with_reducible rfl
 rotate_left
 · simp only [Act.put, List.setIfInBounds_toArray, List.set_cons_zero, List.set_cons_succ, i64_w, i32_w]
   rfl
 refine takeF 1 (N := some 37) hHeld ?_
 refine one_ (i := 3) (N := none) #[Yy,Yy,Yy,Yy] rfl rfl (by kernel_rfl) (by decide) (fun K hK => ?_)
 obtain ⟨hs30, hs31, hs32, hs33, hs34, hs35, hs36, hs37, hfs30, hfs31, hfs32, hfs33, hfs34, hfs35, hfs36, hfs37⟩ := cz8 BK522.1
 refine skip_ (w1 := ?_) (by rfl) rfl ?_ ?_
 rotate_left
 · go_simp
   rfl
 refine hK.out _ _ ⟨((cell_far (p := ⟨gb522, _, none⟩) NB539_522.1 _).trans (((cell_far (p := ⟨gb522, _, none⟩) NB539_522.1 _).trans (((cell_far (p := ⟨gb522, _, none⟩) NB539_522.1 _).trans (((cell_far (p := ⟨gb522, _, none⟩) NB539_522.1 _).trans ((CF4 NB539_522.1 hHeld.1))))))))), ((cell_far (p := ⟨gb522, _, none⟩) NB539_522.1 _).trans (((cell_far (p := ⟨gb522, _, none⟩) NB539_522.1 _).trans (((cell_far (p := ⟨gb522, _, none⟩) NB539_522.1 _).trans (((cell_far (p := ⟨gb522, _, none⟩) NB539_522.1 _).trans ((CF4 NB539_522.1 hHeld.2.1))))))))), ((cell_far (p := ⟨gb522, _, none⟩) NB539_522.1 _).trans (((cell_far (p := ⟨gb522, _, none⟩) NB539_522.1 _).trans (((cell_far (p := ⟨gb522, _, none⟩) NB539_522.1 _).trans (((cell_far (p := ⟨gb522, _, none⟩) NB539_522.1 _).trans ((CF4 NB539_522.1 hHeld.2.2.1))))))))), ((cell_far (p := ⟨gb522, _, none⟩) NB539_522.1 _).trans (((cell_far (p := ⟨gb522, _, none⟩) NB539_522.1 _).trans (((cell_far (p := ⟨gb522, _, none⟩) NB539_522.1 _).trans (((cell_far (p := ⟨gb522, _, none⟩) NB539_522.1 _).trans ((CF4 NB539_522.1 hHeld.2.2.2.1))))))))), ((cell_far (p := ⟨gb522, _, none⟩) NB539_522.1 _).trans (((cell_far (p := ⟨gb522, _, none⟩) NB539_522.1 _).trans (((cell_far (p := ⟨gb522, _, none⟩) NB539_522.1 _).trans (((cell_far (p := ⟨gb522, _, none⟩) NB539_522.1 _).trans ((CF4 NB539_522.1 hHeld.2.2.2.2.1))))))))), ((cell_far (p := ⟨gb522, _, none⟩) NB539_522.1 _).trans (((cell_far (p := ⟨gb522, _, none⟩) NB539_522.1 _).trans (((cell_far (p := ⟨gb522, _, none⟩) NB539_522.1 _).trans (((cell_far (p := ⟨gb522, _, none⟩) NB539_522.1 _).trans ((CF4 NB539_522.1 hHeld.2.2.2.2.2.1))))))))), ((cell_far (p := ⟨gb522, _, none⟩) NB539_522.1 _).trans (((cell_far (p := ⟨gb522, _, none⟩) NB539_522.1 _).trans (((cell_far (p := ⟨gb522, _, none⟩) NB539_522.1 _).trans (((cell_far (p := ⟨gb522, _, none⟩) NB539_522.1 _).trans ((CF4 NB539_522.1 hHeld.2.2.2.2.2.2.1))))))))), ((cell_far (p := ⟨gb522, _, none⟩) NB539_522.1 _).trans (((cell_far (p := ⟨gb522, _, none⟩) NB539_522.1 _).trans (((cell_far (p := ⟨gb522, _, none⟩) NB539_522.1 _).trans (((cell_far (p := ⟨gb522, _, none⟩) NB539_522.1 _).trans ((CF4 NB539_522.1 hHeld.2.2.2.2.2.2.2)))))))))⟩ (fun hHeld => ?_)
 clear hK K
 refine done_ (by kernel_rfl) ?_
 try go_wp2
 refine bodyPost_ret (results_tc rfl _ _ gb522 35 #[.int .i64 t523, .int .i64 t524, .slice Ao13 t525.length co13, .int .i64 t528, .int .i64 t529, .int .i64 t530, .int .i64 t531, .int .i64 t532] (0, 0) _ rfl (PF0 BK522.1) Try.underlying35 rfl (by kernel_rfl)) rfl ?_
 exact ⟨_, _, RF, by (with_reducible repeat (first | apply R_alloc | apply R_drewN | apply R_drew)); exact R_mono (RQ gb522 7 (RQ gb522 6 (RQ gb522 5 (RQ gb522 4 (RQ gb522 3 (RQ gb522 2 (RQ gb522 1 (RQ gb522 0 (R_types HO_9.1 BK522.1 (by decide)) _) _) _) _) _) _) _) _) (fun _ hk => trivial), by (with_reducible repeat (first | apply R_alloc | apply R_drewN | apply R_drew)); exact R_mono (RQ gb522 7 (RQ gb522 6 (RQ gb522 5 (RQ gb522 4 (RQ gb522 3 (RQ gb522 2 (RQ gb522 1 (RQ gb522 0 (R_types HO_540002.1 BK522.1 (by decide)) _) _) _) _) _) _) _) _) (fun _ hk => trivial), BL HB.1⟩
/-! ### laws_eqFall: function 58 -/
open Kd
def laws_eqFall.f (a0_0 : Int) (a0_1 : Int) (a0_2 : Int) (a1_0 : Int) (a1_1 : Int) (a1_2 : Int) : Option (Bool) := if a0_0 = a1_0 then (if a0_1 = a1_1 then (if a0_2 = a1_2 then (some true) else (some false)) else (some false)) else (some false)
theorem laws_eqFall.calls (a0_0 : Int) (a0_1 : Int) (a0_2 : Int) (a1_0 : Int) (a1_1 : Int) (a1_2 : Int) (r : Bool) (w : World) (h : laws_eqFall.f a0_0 a0_1 a0_2 a1_0 a1_1 a1_2 = some r) :
 Calls Try.prog 58 #[.agg #[.int .i64 a0_0, .int .i64 a0_1, .int .i64 a0_2], .agg #[.int .i64 a1_0, .int .i64 a1_1, .int .i64 a1_2]] w fun e w' => e = .returned (.bool r) /\ Below w.heap.size w w' := by
 have hu61 := Try.underlying61
 have HB := Aside0.mk (Below.refl w.heap.size w)
 have H := h
 clear h
 unfold laws_eqFall.f at H
 replace H := ifQ H; rcases H with ⟨c3, H⟩ | ⟨c3, H⟩
 · have c3b0 := beq_iff_eq.mpr c3
   have c3b1 := bne_eq_false_iff_eq.mpr c3
   clear c3
   replace H := ifQ H; rcases H with ⟨c4, H⟩ | ⟨c4, H⟩
   · have c4b0 := beq_iff_eq.mpr c4
     have c4b1 := bne_eq_false_iff_eq.mpr c4
     clear c4
     replace H := ifQ H; rcases H with ⟨c5, H⟩ | ⟨c5, H⟩
     · have c5b0 := beq_iff_eq.mpr c5
       have c5b1 := bne_eq_false_iff_eq.mpr c5
       clear c5
       obtain rfl := Option.some.inj H
       go_enter Try.func58, Try.ntmps58
       go_wp2_with (first | ((with_reducible refine gate_dst (N := 2) rfl ?_); refine boxE (cs := #[.int .i64 a0_0, .int .i64 a0_1, .int .i64 a0_2]) (t := 61) ?_; intro gb578 hg w6 hbox hb; refine E4b HB.1 hg hbox hb ?_; clear HB; intro HB BK578 GW578 GE578; clear hb hbox hg) | ((with_reducible refine gate_dst (N := 3) rfl ?_); refine boxE (cs := #[.int .i64 a1_0, .int .i64 a1_1, .int .i64 a1_2]) (t := 61) ?_; intro gb579 hg w7 hbox hb; refine E7 (bB BK578.1 hb) (bS HB.1 hb) (hbox) (gX HB.1 hg) (gX HB.1 hg) (nB BK578.1 hg) (nC BK578.1 hg) ?_; clear BK578 HB; intro BK578 HB BK579 GW579 GE579 NB578_579 NB579_578; clear hb hbox hg; have hnb8 := NB578_579.1; have hnc8 := NB579_578.1; obtain ⟨hcz9_0, hcz9_1, hcz9_2, hfz9_0, hfz9_1, hfz9_2⟩ := cz3 BK578.1; obtain ⟨hcz10_0, hcz10_1, hcz10_2, hfz10_0, hfz10_1, hfz10_2⟩ := cz3 BK579.1))
       go_ret
       exact ⟨RF, BL HB.1⟩
     have c5b0 := beq_eq_false_iff_ne.mpr c5
     have c5b1 := bne_iff_ne.mpr c5
     obtain rfl := Option.some.inj H
     go_enter Try.func58, Try.ntmps58
     go_wp2_with (first | ((with_reducible refine gate_dst (N := 2) rfl ?_); refine boxE (cs := #[.int .i64 a0_0, .int .i64 a0_1, .int .i64 a0_2]) (t := 61) ?_; intro gb578 hg w11 hbox hb; refine E4b HB.1 hg hbox hb ?_; clear HB; intro HB BK578 GW578 GE578; clear hb hbox hg) | ((with_reducible refine gate_dst (N := 3) rfl ?_); refine boxE (cs := #[.int .i64 a1_0, .int .i64 a1_1, .int .i64 a1_2]) (t := 61) ?_; intro gb579 hg w12 hbox hb; refine E7 (bB BK578.1 hb) (bS HB.1 hb) (hbox) (gX HB.1 hg) (gX HB.1 hg) (nB BK578.1 hg) (nC BK578.1 hg) ?_; clear BK578 HB; intro BK578 HB BK579 GW579 GE579 NB578_579 NB579_578; clear hb hbox hg; have hnb13 := NB578_579.1; have hnc13 := NB579_578.1; obtain ⟨hcz14_0, hcz14_1, hcz14_2, hfz14_0, hfz14_1, hfz14_2⟩ := cz3 BK578.1; obtain ⟨hcz15_0, hcz15_1, hcz15_2, hfz15_0, hfz15_1, hfz15_2⟩ := cz3 BK579.1))
     go_ret
     exact ⟨RF, BL HB.1⟩
   have c4b0 := beq_eq_false_iff_ne.mpr c4
   have c4b1 := bne_iff_ne.mpr c4
   obtain rfl := Option.some.inj H
   go_enter Try.func58, Try.ntmps58
   go_wp2_with (first | ((with_reducible refine gate_dst (N := 2) rfl ?_); refine boxE (cs := #[.int .i64 a0_0, .int .i64 a0_1, .int .i64 a0_2]) (t := 61) ?_; intro gb578 hg w16 hbox hb; refine E4b HB.1 hg hbox hb ?_; clear HB; intro HB BK578 GW578 GE578; clear hb hbox hg) | ((with_reducible refine gate_dst (N := 3) rfl ?_); refine boxE (cs := #[.int .i64 a1_0, .int .i64 a1_1, .int .i64 a1_2]) (t := 61) ?_; intro gb579 hg w17 hbox hb; refine E7 (bB BK578.1 hb) (bS HB.1 hb) (hbox) (gX HB.1 hg) (gX HB.1 hg) (nB BK578.1 hg) (nC BK578.1 hg) ?_; clear BK578 HB; intro BK578 HB BK579 GW579 GE579 NB578_579 NB579_578; clear hb hbox hg; have hnb18 := NB578_579.1; have hnc18 := NB579_578.1; obtain ⟨hcz19_0, hcz19_1, hcz19_2, hfz19_0, hfz19_1, hfz19_2⟩ := cz3 BK578.1; obtain ⟨hcz20_0, hcz20_1, hcz20_2, hfz20_0, hfz20_1, hfz20_2⟩ := cz3 BK579.1))
   go_ret
   exact ⟨RF, BL HB.1⟩
 have c3b0 := beq_eq_false_iff_ne.mpr c3
 have c3b1 := bne_iff_ne.mpr c3
 obtain rfl := Option.some.inj H
 go_enter Try.func58, Try.ntmps58
 go_wp2_with (first | ((with_reducible refine gate_dst (N := 2) rfl ?_); refine boxE (cs := #[.int .i64 a0_0, .int .i64 a0_1, .int .i64 a0_2]) (t := 61) ?_; intro gb578 hg w21 hbox hb; refine E4b HB.1 hg hbox hb ?_; clear HB; intro HB BK578 GW578 GE578; clear hb hbox hg) | ((with_reducible refine gate_dst (N := 3) rfl ?_); refine boxE (cs := #[.int .i64 a1_0, .int .i64 a1_1, .int .i64 a1_2]) (t := 61) ?_; intro gb579 hg w22 hbox hb; refine E7 (bB BK578.1 hb) (bS HB.1 hb) (hbox) (gX HB.1 hg) (gX HB.1 hg) (nB BK578.1 hg) (nC BK578.1 hg) ?_; clear BK578 HB; intro BK578 HB BK579 GW579 GE579 NB578_579 NB579_578; clear hb hbox hg; have hnb23 := NB578_579.1; have hnc23 := NB579_578.1; obtain ⟨hcz24_0, hcz24_1, hcz24_2, hfz24_0, hfz24_1, hfz24_2⟩ := cz3 BK578.1; obtain ⟨hcz25_0, hcz25_1, hcz25_2, hfz25_0, hfz25_1, hfz25_2⟩ := cz3 BK579.1))
 go_ret
 exact ⟨RF, BL HB.1⟩
/-! ### laws_eqLogEntry: function 37 -/
open Kd
def laws_eqLogEntry.f (a0_0 : Int) (a0_1 : Int) (a0_2 : Int) (a0_3 : Int) (a1_0 : Int) (a1_1 : Int) (a1_2 : Int) (a1_3 : Int) : Option (Bool) := if a0_0 = a1_0 then ((laws_eqFall.f a0_1 a0_2 a0_3 a1_1 a1_2 a1_3).bind fun t582 => (if t582 = true then (some true) else (some false))) else (some false)
theorem laws_eqLogEntry.calls (a0_0 : Int) (a0_1 : Int) (a0_2 : Int) (a0_3 : Int) (a1_0 : Int) (a1_1 : Int) (a1_2 : Int) (a1_3 : Int) (r : Bool) (w : World) (h : laws_eqLogEntry.f a0_0 a0_1 a0_2 a0_3 a1_0 a1_1 a1_2 a1_3 = some r) :
 Calls Try.prog 37 #[.agg #[.int .i64 a0_0, .int .i64 a0_1, .int .i64 a0_2, .int .i64 a0_3], .agg #[.int .i64 a1_0, .int .i64 a1_1, .int .i64 a1_2, .int .i64 a1_3]] w fun e w' => e = .returned (.bool r) /\ Below w.heap.size w w' := by
 have hu66 := Try.underlying66
 have hu61 := Try.underlying61
 have HB := Aside0.mk (Below.refl w.heap.size w)
 have H := h
 clear h
 unfold laws_eqLogEntry.f at H
 replace H := ifQ H; rcases H with ⟨c3, H⟩ | ⟨c3, H⟩
 · have c3b0 := beq_iff_eq.mpr c3
   have c3b1 := bne_eq_false_iff_eq.mpr c3
   clear c3
   replace H := bindA H; obtain ⟨t582, A4, H⟩ := H
   replace H := ifX H; rcases H with ⟨rfl, H⟩ | ⟨rfl, H⟩
   · obtain rfl := Option.some.inj H
     go_enter Try.func37, Try.ntmps37
     go_wp2_with (first | ((with_reducible refine gate_dst (N := 2) rfl ?_); refine boxE (cs := #[.int .i64 a0_0, .int .i64 a0_1, .int .i64 a0_2, .int .i64 a0_3]) (t := 66) ?_; intro gb580 hg w6 hbox hb; refine E4b HB.1 hg hbox hb ?_; clear HB; intro HB BK580 GW580 GE580; clear hb hbox hg) | ((with_reducible refine gate_dst (N := 3) rfl ?_); refine boxE (cs := #[.int .i64 a1_0, .int .i64 a1_1, .int .i64 a1_2, .int .i64 a1_3]) (t := 66) ?_; intro gb581 hg w7 hbox hb; refine E7 (bB BK580.1 hb) (bS HB.1 hb) (hbox) (gX HB.1 hg) (gX HB.1 hg) (nB BK580.1 hg) (nC BK580.1 hg) ?_; clear BK580 HB; intro BK580 HB BK581 GW581 GE581 NB580_581 NB581_580; clear hb hbox hg; have hnb8 := NB580_581.1; have hnc8 := NB581_580.1; obtain ⟨hcz9_0, hcz9_1, hcz9_2, hcz9_3, hfz9_0, hfz9_1, hfz9_2, hfz9_3⟩ := cz4 BK580.1; obtain ⟨hcz10_0, hcz10_1, hcz10_2, hcz10_3, hfz10_0, hfz10_1, hfz10_2, hfz10_3⟩ := cz4 BK581.1) | ((with_reducible refine gate_callee (f := 58) rfl ?_); refine goesM (N := (some 14)) #[.agg #[.int .i64 a0_1, .int .i64 a0_2, .int .i64 a0_3], .agg #[.int .i64 a1_1, .int .i64 a1_2, .int .i64 a1_3]] Try.func58 ?_; (with_reducible refine (laws_eqFall.calls a0_1 a0_2 a0_3 a1_1 a1_2 a1_3 true _ A4.1).mono ?_); rintro e w11 ⟨rfl, hb⟩; refine ⟨_, rfl, ?_⟩; refine E3 (bB BK580.1 hb) (bB BK581.1 hb) (bS HB.1 hb) ?_; clear BK580 BK581 HB; intro BK580 BK581 HB; (try clear hb)))
     go_ret
     exact ⟨RF, BL HB.1⟩
   obtain rfl := Option.some.inj H
   go_enter Try.func37, Try.ntmps37
   go_wp2_with (first | ((with_reducible refine gate_dst (N := 2) rfl ?_); refine boxE (cs := #[.int .i64 a0_0, .int .i64 a0_1, .int .i64 a0_2, .int .i64 a0_3]) (t := 66) ?_; intro gb580 hg w12 hbox hb; refine E4b HB.1 hg hbox hb ?_; clear HB; intro HB BK580 GW580 GE580; clear hb hbox hg) | ((with_reducible refine gate_dst (N := 3) rfl ?_); refine boxE (cs := #[.int .i64 a1_0, .int .i64 a1_1, .int .i64 a1_2, .int .i64 a1_3]) (t := 66) ?_; intro gb581 hg w13 hbox hb; refine E7 (bB BK580.1 hb) (bS HB.1 hb) (hbox) (gX HB.1 hg) (gX HB.1 hg) (nB BK580.1 hg) (nC BK580.1 hg) ?_; clear BK580 HB; intro BK580 HB BK581 GW581 GE581 NB580_581 NB581_580; clear hb hbox hg; have hnb14 := NB580_581.1; have hnc14 := NB581_580.1; obtain ⟨hcz15_0, hcz15_1, hcz15_2, hcz15_3, hfz15_0, hfz15_1, hfz15_2, hfz15_3⟩ := cz4 BK580.1; obtain ⟨hcz16_0, hcz16_1, hcz16_2, hcz16_3, hfz16_0, hfz16_1, hfz16_2, hfz16_3⟩ := cz4 BK581.1) | ((with_reducible refine gate_callee (f := 58) rfl ?_); refine goesM (N := (some 14)) #[.agg #[.int .i64 a0_1, .int .i64 a0_2, .int .i64 a0_3], .agg #[.int .i64 a1_1, .int .i64 a1_2, .int .i64 a1_3]] Try.func58 ?_; (with_reducible refine (laws_eqFall.calls a0_1 a0_2 a0_3 a1_1 a1_2 a1_3 false _ A4.1).mono ?_); rintro e w17 ⟨rfl, hb⟩; refine ⟨_, rfl, ?_⟩; refine E3 (bB BK580.1 hb) (bB BK581.1 hb) (bS HB.1 hb) ?_; clear BK580 BK581 HB; intro BK580 BK581 HB; (try clear hb)))
   go_ret
   exact ⟨RF, BL HB.1⟩
 have c3b0 := beq_eq_false_iff_ne.mpr c3
 have c3b1 := bne_iff_ne.mpr c3
 obtain rfl := Option.some.inj H
 go_enter Try.func37, Try.ntmps37
 go_wp2_with (first | ((with_reducible refine gate_dst (N := 2) rfl ?_); refine boxE (cs := #[.int .i64 a0_0, .int .i64 a0_1, .int .i64 a0_2, .int .i64 a0_3]) (t := 66) ?_; intro gb580 hg w18 hbox hb; refine E4b HB.1 hg hbox hb ?_; clear HB; intro HB BK580 GW580 GE580; clear hb hbox hg) | ((with_reducible refine gate_dst (N := 3) rfl ?_); refine boxE (cs := #[.int .i64 a1_0, .int .i64 a1_1, .int .i64 a1_2, .int .i64 a1_3]) (t := 66) ?_; intro gb581 hg w19 hbox hb; refine E7 (bB BK580.1 hb) (bS HB.1 hb) (hbox) (gX HB.1 hg) (gX HB.1 hg) (nB BK580.1 hg) (nC BK580.1 hg) ?_; clear BK580 HB; intro BK580 HB BK581 GW581 GE581 NB580_581 NB581_580; clear hb hbox hg; have hnb20 := NB580_581.1; have hnc20 := NB581_580.1; obtain ⟨hcz21_0, hcz21_1, hcz21_2, hcz21_3, hfz21_0, hfz21_1, hfz21_2, hfz21_3⟩ := cz4 BK580.1; obtain ⟨hcz22_0, hcz22_1, hcz22_2, hcz22_3, hfz22_0, hfz22_1, hfz22_2, hfz22_3⟩ := cz4 BK581.1))
 go_ret
 exact ⟨RF, BL HB.1⟩
/-! ### laws_eqLogEntryS: function 18 -/
open Kd
def laws_eqLogEntryS.l0 : Nat -> List (S66) -> List (S66) -> Int -> Option (Bool)
 | 0, _, _, _ => none
 | k + 1, x0, x1, x5 => if x5 < (x0.length : Int) then (if 0 <= x5 then (if x5 < (x1.length : Int) then ((laws_eqLogEntry.f ((rd_T66 x0 x5).f0) ((rd_T66 x0 x5).f1.f0) ((rd_T66 x0 x5).f1.f1) ((rd_T66 x0 x5).f1.f2) ((rd_T66 x1 x5).f0) ((rd_T66 x1 x5).f1.f0) ((rd_T66 x1 x5).f1.f1) ((rd_T66 x1 x5).f1.f2)).bind fun t585 => (if t585 = true then (laws_eqLogEntryS.l0 k x0 x1 (wrap64 (x5 + 1))) else (some false))) else (none)) else (none)) else (some true)
def laws_eqLogEntryS.f (k : Nat) (l0 : List (S66)) (l1 : List (S66)) : Option (Bool) := if (l0.length : Int) = (l1.length : Int) then (laws_eqLogEntryS.l0 k l0 l1 0) else (some false)
theorem laws_eqLogEntryS.mono_l : ∀ k, (∀ y0 y1 y2, LeO (laws_eqLogEntryS.l0 k y0 y1 y2) (laws_eqLogEntryS.l0 (k + 1) y0 y1 y2))
 | 0 => fun _ _ _ r h => by simp [laws_eqLogEntryS.l0] at h
 | k + 1 => by
  have ih0 := laws_eqLogEntryS.mono_l k
  intros
  first | unfold laws_eqLogEntryS.l0
  exact LM1 ih0
theorem laws_eqLogEntryS.mono : ∀ a0 a1 k, LeO (laws_eqLogEntryS.f k a0 a1) (laws_eqLogEntryS.f (k + 1) a0 a1) := by
 intro a0 a1 k
 have ih0 := laws_eqLogEntryS.mono_l k
 unfold laws_eqLogEntryS.f
 exact LM1 ih0
def laws_eqLogEntryS.T6 : Bool × List (List Nat × List Nat) := (true, [([], []), ([], []), ([0, 1], [0, 1]), ([2], [2]), ([], []), ([], []), ([4, 5], [4, 5]), ([6], [6]), ([3, 7], [3, 7]), ([8], [8])])
def laws_eqLogEntryS.B6 : List Nat := [0, 0, 3, 7, 0, 0, 48, 112, 255, 511]
theorem laws_eqLogEntryS.tab6 : rtab .any (opsOf Try.f18 6) = laws_eqLogEntryS.T6 := by kernel_rfl
theorem laws_eqLogEntryS.bits6 : waitsOk laws_eqLogEntryS.T6.2 laws_eqLogEntryS.B6 = true := by kernel_rfl
theorem laws_eqLogEntryS.calls (k : Nat) (A0 : Option Addr) (c0 : Nat) (l0 : List (S66)) (A1 : Option Addr) (c1 : Nat) (l1 : List (S66)) (r : Bool) (w : World) (hr0 : Kd.C k66 w A0 l0.length l0) (hc0 : l0.length <= c0) (hr1 : Kd.C k66 w A1 l1.length l1) (hc1 : l1.length <= c1) (h : laws_eqLogEntryS.f k l0 l1 = some r) :
 Calls Try.prog 18 #[.slice A0 l0.length c0, .slice A1 l1.length c1] w fun e w' => e = .returned (.bool r) /\ Below w.heap.size w w' := by
 have hu66 := Try.underlying66
 have HR0 := Aside0.mk hr0
 have HC0 := Aside0.mk hc0
 clear hr0 hc0
 have HR1 := Aside0.mk hr1
 have HC1 := Aside0.mk hc1
 clear hr1 hc1
 have HB := Aside0.mk (Below.refl w.heap.size w)
 have H := h
 clear h
 unfold laws_eqLogEntryS.f at H
 replace H := ifQ H; rcases H with ⟨c3, H⟩ | ⟨c3, H⟩
 · have c3b0 := beq_iff_eq.mpr c3
   have c3b1 := bne_eq_false_iff_eq.mpr c3
   have c3b2 : (l0.length == l1.length) = true := by first | simpa using c3 | (simp at c3 ⊢; omega)
   clear c3
   have H' := Aside0.mk H
   clear H
   go_enter Try.func18, Try.ntmps18
   go_wp2
   go_loopg [5] k (fun kq v5 w' => ∃ (x5_1 : Int), v5 = .int .i64 x5_1 /\ Aside0 (laws_eqLogEntryS.l0 kq l0 l1 x5_1 = some r) /\ Aside0 (kq <= k) /\ Aside0 (Below w.heap.size w w'))
   case atStart => exact ⟨(0), RG, H', ⟨Nat.le_refl _⟩, ⟨BL HB.1⟩⟩
   clear H'
   try clear c1; clear c3b0 c3b1 c3b2
   obtain ⟨x5_1, rfl, HA, HK1, HB⟩ := hrel
   cases gk with
   | zero => exact absurd HA.1 (by simp [laws_eqLogEntryS.l0])
   | succ k1 => ?_
   have H := HA.1
   clear HA
   simp only [laws_eqLogEntryS.l0] at H
   replace H := ifB H; rcases H with ⟨c4b0, H⟩ | ⟨c4b0, H⟩
   · replace H := ifN H; obtain ⟨c5b0, H⟩ := H
     replace H := ifN H; obtain ⟨c6b0, H⟩ := H
     replace H := bindA H; obtain ⟨t585, A7, H⟩ := H
     replace H := ifX H; rcases H with ⟨rfl, H⟩ | ⟨rfl, H⟩
     · have H' := Aside0.mk H
       clear H
       try go_wp2
       refine E1 (below_drew1 HB.1) ?_
       clear HB
       intro HB
       have p583 : 0 <= (x5_1 : Int) := OD
       have q583 : x5_1 < (l0.length : Int) := OD
       obtain ⟨ad583, e583, hx583_0, hx583_1, hx583_2, hx583_3⟩ := at_T66 HR0.1 x5_1 p583 q583
       have hw583_3 := hx583_3
       have hw583_2 := hx583_2
       have hw583_1 := hx583_1
       have hw583_0 := hx583_0
       cases e583
       replace hx583_0 := (HB.1.cell (World.block_lt_of_cell? w _ hx583_0)).trans hx583_0
       replace hx583_1 := (HB.1.cell (World.block_lt_of_cell? w _ hx583_1)).trans hx583_1
       replace hx583_2 := (HB.1.cell (World.block_lt_of_cell? w _ hx583_2)).trans hx583_2
       replace hx583_3 := (HB.1.cell (World.block_lt_of_cell? w _ hx583_3)).trans hx583_3
       replace p583 := eq_true p583
       replace q583 := eq_true q583
       have p584 : 0 <= (x5_1 : Int) := OD
       have q584 : x5_1 < (l1.length : Int) := OD
       obtain ⟨ad584, e584, hx584_0, hx584_1, hx584_2, hx584_3⟩ := at_T66 HR1.1 x5_1 p584 q584
       have hw584_3 := hx584_3
       have hw584_2 := hx584_2
       have hw584_1 := hx584_1
       have hw584_0 := hx584_0
       cases e584
       replace hx584_0 := (HB.1.cell (World.block_lt_of_cell? w _ hx584_0)).trans hx584_0
       replace hx584_1 := (HB.1.cell (World.block_lt_of_cell? w _ hx584_1)).trans hx584_1
       replace hx584_2 := (HB.1.cell (World.block_lt_of_cell? w _ hx584_2)).trans hx584_2
       replace hx584_3 := (HB.1.cell (World.block_lt_of_cell? w _ hx584_3)).trans hx584_3
       replace p584 := eq_true p584
       replace q584 := eq_true q584
       refine start_ (n := 10) (S := fun w' => w'.cell? (ad583.add ((x5_1).toNat * 4)) = some (.int .i64 ((rd_T66 l0 x5_1).f0)) /\ w'.cell? ⟨(ad583.add ((x5_1).toNat * 4)).block, (ad583.add ((x5_1).toNat * 4)).off + 1, none⟩ = some (.int .i64 ((rd_T66 l0 x5_1).f1.f0)) /\ w'.cell? ⟨(ad583.add ((x5_1).toNat * 4)).block, (ad583.add ((x5_1).toNat * 4)).off + 2, none⟩ = some (.int .i64 ((rd_T66 l0 x5_1).f1.f1)) /\ w'.cell? ⟨(ad583.add ((x5_1).toNat * 4)).block, (ad583.add ((x5_1).toNat * 4)).off + 3, none⟩ = some (.int .i64 ((rd_T66 l0 x5_1).f1.f2)) /\ w'.cell? (ad584.add ((x5_1).toNat * 4)) = some (.int .i64 ((rd_T66 l1 x5_1).f0)) /\ w'.cell? ⟨(ad584.add ((x5_1).toNat * 4)).block, (ad584.add ((x5_1).toNat * 4)).off + 1, none⟩ = some (.int .i64 ((rd_T66 l1 x5_1).f1.f0)) /\ w'.cell? ⟨(ad584.add ((x5_1).toNat * 4)).block, (ad584.add ((x5_1).toNat * 4)).off + 2, none⟩ = some (.int .i64 ((rd_T66 l1 x5_1).f1.f1)) /\ w'.cell? ⟨(ad584.add ((x5_1).toNat * 4)).block, (ad584.add ((x5_1).toNat * 4)).off + 3, none⟩ = some (.int .i64 ((rd_T66 l1 x5_1).f1.f2))) (ds := []) #[Zz,Zz,Zz,Zz,Zz,Zz,Zz,Zz,Zz,Zz] (by kernel_rfl) rfl rfl ⟨((HB.1.cell (World.block_lt_of_cell? w _ hw583_0)).trans hw583_0), ((HB.1.cell (World.block_lt_of_cell? w _ hw583_1)).trans hw583_1), ((HB.1.cell (World.block_lt_of_cell? w _ hw583_2)).trans hw583_2), ((HB.1.cell (World.block_lt_of_cell? w _ hw583_3)).trans hw583_3), ((HB.1.cell (World.block_lt_of_cell? w _ hw584_0)).trans hw584_0), ((HB.1.cell (World.block_lt_of_cell? w _ hw584_1)).trans hw584_1), ((HB.1.cell (World.block_lt_of_cell? w _ hw584_2)).trans hw584_2), ((HB.1.cell (World.block_lt_of_cell? w _ hw584_3)).trans hw584_3)⟩ (fun hHeld => ?_); refine with_tabW laws_eqLogEntryS.tab6 laws_eqLogEntryS.bits6 (fun HT_ HW_ => ?_)
       generalize wr.drew = w9 at HB hx583_0 hx583_1 hx583_2 hx583_3 hx584_0 hx584_1 hx584_2 hx584_3 hHeld ⊢
       refine pureF 0 (N := some 17) HT_.1 ?_
       refine pureF 1 (N := some 18) HT_.1 ?_
       refine pureF 2 (N := some 19) HT_.1 ?_
       refine pureF 4 (N := some 21) HT_.1 ?_
       refine pureF 5 (N := some 22) HT_.1 ?_
       refine pureF 6 (N := some 23) HT_.1 ?_
       refine takeE 3 (N := some 20) HT_.1 HW_.1 hHeld ?_
       refine takeE 7 (N := some 24) HT_.1 HW_.1 hHeld ?_
       refine one_ (i := 8) (N := some 25) #[Yy,Yy,Yy,Yy,Yy,Yy,Yy,Yy,Yy,Zz] rfl rfl (one_of HT_.1 (by kernel_rfl)) (by decide) (fun K hK => ?_)
       refine goes_ Try.func37 (by kernel_rfl) rfl #[.agg #[.int .i64 ((rd_T66 l0 x5_1).f0), .int .i64 ((rd_T66 l0 x5_1).f1.f0), .int .i64 ((rd_T66 l0 x5_1).f1.f1), .int .i64 ((rd_T66 l0 x5_1).f1.f2)], .agg #[.int .i64 ((rd_T66 l1 x5_1).f0), .int .i64 ((rd_T66 l1 x5_1).f1.f0), .int .i64 ((rd_T66 l1 x5_1).f1.f1), .int .i64 ((rd_T66 l1 x5_1).f1.f2)]] (by rfl) rfl rfl (by (try simp only [List.map_toArray, List.map_cons, List.map_nil]); first | done | rfl | (simp only [List.length_drop, List.length_take]; rfl)) ?_
       with_reducible refine (laws_eqLogEntry.calls ((rd_T66 l0 x5_1).f0) ((rd_T66 l0 x5_1).f1.f0) ((rd_T66 l0 x5_1).f1.f1) ((rd_T66 l0 x5_1).f1.f2) ((rd_T66 l1 x5_1).f0) ((rd_T66 l1 x5_1).f1.f0) ((rd_T66 l1 x5_1).f1.f1) ((rd_T66 l1 x5_1).f1.f2) true _ A7.1).mono ?_
       rintro e w10 ⟨rfl, hb⟩
       refine ⟨_, rfl, ?_⟩
       refine E1 (bS HB.1 hb) ?_
       clear HB
       intro HB
       (try clear hb)
       (try clear hb2)
       (try clear hk)
       (try clear hi)
       refine hK.out _ _ ⟨((HB.1.cell (World.block_lt_of_cell? w _ hw583_0)).trans hw583_0), ((HB.1.cell (World.block_lt_of_cell? w _ hw583_1)).trans hw583_1), ((HB.1.cell (World.block_lt_of_cell? w _ hw583_2)).trans hw583_2), ((HB.1.cell (World.block_lt_of_cell? w _ hw583_3)).trans hw583_3), ((HB.1.cell (World.block_lt_of_cell? w _ hw584_0)).trans hw584_0), ((HB.1.cell (World.block_lt_of_cell? w _ hw584_1)).trans hw584_1), ((HB.1.cell (World.block_lt_of_cell? w _ hw584_2)).trans hw584_2), ((HB.1.cell (World.block_lt_of_cell? w _ hw584_3)).trans hw584_3)⟩ (fun hHeld => ?_)
       clear hK K
       refine norm_ (a' := ?_) ?_ ?_
       rotate_left
       · show Act.put _ (some 25) _ = _
         simp only [Act.put, List.setIfInBounds_toArray, List.set_cons_zero, List.set_cons_succ, i64_w, i32_w]
         rfl
       refine pureF 9 (N := some 26) HT_.1 ?_
       refine done_ (done_of HT_.1 (by kernel_rfl)) ?_
       try go_wp2
       go_roundg k1
       case measure => have := HK1.1; omega
       case rel => exact ⟨(wrap64 (x5_1 + 1)), RG, H', ⟨by have := HK1.1; omega⟩, ⟨BL HB.1⟩⟩
     obtain rfl := Option.some.inj H
     try go_wp2
     refine E1 (below_drew1 HB.1) ?_
     clear HB
     intro HB
     have p583 : 0 <= (x5_1 : Int) := OD
     have q583 : x5_1 < (l0.length : Int) := OD
     obtain ⟨ad583, e583, hx583_0, hx583_1, hx583_2, hx583_3⟩ := at_T66 HR0.1 x5_1 p583 q583
     have hw583_3 := hx583_3
     have hw583_2 := hx583_2
     have hw583_1 := hx583_1
     have hw583_0 := hx583_0
     cases e583
     replace hx583_0 := (HB.1.cell (World.block_lt_of_cell? w _ hx583_0)).trans hx583_0
     replace hx583_1 := (HB.1.cell (World.block_lt_of_cell? w _ hx583_1)).trans hx583_1
     replace hx583_2 := (HB.1.cell (World.block_lt_of_cell? w _ hx583_2)).trans hx583_2
     replace hx583_3 := (HB.1.cell (World.block_lt_of_cell? w _ hx583_3)).trans hx583_3
     replace p583 := eq_true p583
     replace q583 := eq_true q583
     have p584 : 0 <= (x5_1 : Int) := OD
     have q584 : x5_1 < (l1.length : Int) := OD
     obtain ⟨ad584, e584, hx584_0, hx584_1, hx584_2, hx584_3⟩ := at_T66 HR1.1 x5_1 p584 q584
     have hw584_3 := hx584_3
     have hw584_2 := hx584_2
     have hw584_1 := hx584_1
     have hw584_0 := hx584_0
     cases e584
     replace hx584_0 := (HB.1.cell (World.block_lt_of_cell? w _ hx584_0)).trans hx584_0
     replace hx584_1 := (HB.1.cell (World.block_lt_of_cell? w _ hx584_1)).trans hx584_1
     replace hx584_2 := (HB.1.cell (World.block_lt_of_cell? w _ hx584_2)).trans hx584_2
     replace hx584_3 := (HB.1.cell (World.block_lt_of_cell? w _ hx584_3)).trans hx584_3
     replace p584 := eq_true p584
     replace q584 := eq_true q584
     refine start_ (n := 10) (S := fun w' => w'.cell? (ad583.add ((x5_1).toNat * 4)) = some (.int .i64 ((rd_T66 l0 x5_1).f0)) /\ w'.cell? ⟨(ad583.add ((x5_1).toNat * 4)).block, (ad583.add ((x5_1).toNat * 4)).off + 1, none⟩ = some (.int .i64 ((rd_T66 l0 x5_1).f1.f0)) /\ w'.cell? ⟨(ad583.add ((x5_1).toNat * 4)).block, (ad583.add ((x5_1).toNat * 4)).off + 2, none⟩ = some (.int .i64 ((rd_T66 l0 x5_1).f1.f1)) /\ w'.cell? ⟨(ad583.add ((x5_1).toNat * 4)).block, (ad583.add ((x5_1).toNat * 4)).off + 3, none⟩ = some (.int .i64 ((rd_T66 l0 x5_1).f1.f2)) /\ w'.cell? (ad584.add ((x5_1).toNat * 4)) = some (.int .i64 ((rd_T66 l1 x5_1).f0)) /\ w'.cell? ⟨(ad584.add ((x5_1).toNat * 4)).block, (ad584.add ((x5_1).toNat * 4)).off + 1, none⟩ = some (.int .i64 ((rd_T66 l1 x5_1).f1.f0)) /\ w'.cell? ⟨(ad584.add ((x5_1).toNat * 4)).block, (ad584.add ((x5_1).toNat * 4)).off + 2, none⟩ = some (.int .i64 ((rd_T66 l1 x5_1).f1.f1)) /\ w'.cell? ⟨(ad584.add ((x5_1).toNat * 4)).block, (ad584.add ((x5_1).toNat * 4)).off + 3, none⟩ = some (.int .i64 ((rd_T66 l1 x5_1).f1.f2))) (ds := []) #[Zz,Zz,Zz,Zz,Zz,Zz,Zz,Zz,Zz,Zz] (by kernel_rfl) rfl rfl ⟨((HB.1.cell (World.block_lt_of_cell? w _ hw583_0)).trans hw583_0), ((HB.1.cell (World.block_lt_of_cell? w _ hw583_1)).trans hw583_1), ((HB.1.cell (World.block_lt_of_cell? w _ hw583_2)).trans hw583_2), ((HB.1.cell (World.block_lt_of_cell? w _ hw583_3)).trans hw583_3), ((HB.1.cell (World.block_lt_of_cell? w _ hw584_0)).trans hw584_0), ((HB.1.cell (World.block_lt_of_cell? w _ hw584_1)).trans hw584_1), ((HB.1.cell (World.block_lt_of_cell? w _ hw584_2)).trans hw584_2), ((HB.1.cell (World.block_lt_of_cell? w _ hw584_3)).trans hw584_3)⟩ (fun hHeld => ?_); refine with_tabW laws_eqLogEntryS.tab6 laws_eqLogEntryS.bits6 (fun HT_ HW_ => ?_)
     generalize wr.drew = w11 at HB hx583_0 hx583_1 hx583_2 hx583_3 hx584_0 hx584_1 hx584_2 hx584_3 hHeld ⊢
     refine pureF 0 (N := some 17) HT_.1 ?_
     refine pureF 1 (N := some 18) HT_.1 ?_
     refine pureF 2 (N := some 19) HT_.1 ?_
     refine pureF 4 (N := some 21) HT_.1 ?_
     refine pureF 5 (N := some 22) HT_.1 ?_
     refine pureF 6 (N := some 23) HT_.1 ?_
     refine takeE 3 (N := some 20) HT_.1 HW_.1 hHeld ?_
     refine takeE 7 (N := some 24) HT_.1 HW_.1 hHeld ?_
     refine one_ (i := 8) (N := some 25) #[Yy,Yy,Yy,Yy,Yy,Yy,Yy,Yy,Yy,Zz] rfl rfl (one_of HT_.1 (by kernel_rfl)) (by decide) (fun K hK => ?_)
     refine goes_ Try.func37 (by kernel_rfl) rfl #[.agg #[.int .i64 ((rd_T66 l0 x5_1).f0), .int .i64 ((rd_T66 l0 x5_1).f1.f0), .int .i64 ((rd_T66 l0 x5_1).f1.f1), .int .i64 ((rd_T66 l0 x5_1).f1.f2)], .agg #[.int .i64 ((rd_T66 l1 x5_1).f0), .int .i64 ((rd_T66 l1 x5_1).f1.f0), .int .i64 ((rd_T66 l1 x5_1).f1.f1), .int .i64 ((rd_T66 l1 x5_1).f1.f2)]] (by rfl) rfl rfl (by (try simp only [List.map_toArray, List.map_cons, List.map_nil]); first | done | rfl | (simp only [List.length_drop, List.length_take]; rfl)) ?_
     with_reducible refine (laws_eqLogEntry.calls ((rd_T66 l0 x5_1).f0) ((rd_T66 l0 x5_1).f1.f0) ((rd_T66 l0 x5_1).f1.f1) ((rd_T66 l0 x5_1).f1.f2) ((rd_T66 l1 x5_1).f0) ((rd_T66 l1 x5_1).f1.f0) ((rd_T66 l1 x5_1).f1.f1) ((rd_T66 l1 x5_1).f1.f2) false _ A7.1).mono ?_
     rintro e w12 ⟨rfl, hb⟩
     refine ⟨_, rfl, ?_⟩
     refine E1 (bS HB.1 hb) ?_
     clear HB
     intro HB
     (try clear hb)
     (try clear hb2)
     (try clear hk)
     (try clear hi)
     refine hK.out _ _ ⟨((HB.1.cell (World.block_lt_of_cell? w _ hw583_0)).trans hw583_0), ((HB.1.cell (World.block_lt_of_cell? w _ hw583_1)).trans hw583_1), ((HB.1.cell (World.block_lt_of_cell? w _ hw583_2)).trans hw583_2), ((HB.1.cell (World.block_lt_of_cell? w _ hw583_3)).trans hw583_3), ((HB.1.cell (World.block_lt_of_cell? w _ hw584_0)).trans hw584_0), ((HB.1.cell (World.block_lt_of_cell? w _ hw584_1)).trans hw584_1), ((HB.1.cell (World.block_lt_of_cell? w _ hw584_2)).trans hw584_2), ((HB.1.cell (World.block_lt_of_cell? w _ hw584_3)).trans hw584_3)⟩ (fun hHeld => ?_)
     clear hK K
     refine norm_ (a' := ?_) ?_ ?_
     rotate_left
     · show Act.put _ (some 25) _ = _
       simp only [Act.put, List.setIfInBounds_toArray, List.set_cons_zero, List.set_cons_succ, i64_w, i32_w]
       rfl
     refine pureF 9 (N := some 26) HT_.1 ?_
     refine done_ (done_of HT_.1 (by kernel_rfl)) ?_
     try go_wp2
     go_ret
     exact ⟨RF, BL HB.1⟩
   obtain rfl := Option.some.inj H
   go_wp2
   go_ret
   exact ⟨RF, BL HB.1⟩
 have c3b0 := beq_eq_false_iff_ne.mpr c3
 have c3b1 := bne_iff_ne.mpr c3
 have c3b2 : (l0.length == l1.length) = false := by first | simpa using c3 | (simp at c3 ⊢; omega)
 obtain rfl := Option.some.inj H
 go_enter Try.func18, Try.ntmps18
 go_wp2
 go_ret
 exact ⟨RF, BL HB.1⟩
end Go.Proofs.Ythnehlphifegaaa.P
